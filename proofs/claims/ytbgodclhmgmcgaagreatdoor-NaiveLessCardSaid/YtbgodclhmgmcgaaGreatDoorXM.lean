import Derived.Test.YtbgodclhmgmcgaaGreatDoorXT
namespace Go.Proofs.YtbgodclhmgmcgaaGreatDoor
open Go.RowKit
def lit1:List ByteArray:=[(⟨#[61,62]⟩ : ByteArray),(⟨#[33,61]⟩ : ByteArray),(⟨#[60,61]⟩ : ByteArray),(⟨#[62,61]⟩ : ByteArray),(⟨#[40]⟩ : ByteArray),(⟨#[41]⟩ : ByteArray),(⟨#[123]⟩ : ByteArray),(⟨#[125]⟩ : ByteArray),(⟨#[44]⟩ : ByteArray),(⟨#[59]⟩ : ByteArray),(⟨#[61]⟩ : ByteArray),(⟨#[60]⟩ : ByteArray),(⟨#[62]⟩ : ByteArray),(⟨#[43]⟩ : ByteArray),(⟨#[45]⟩ : ByteArray),(⟨#[42]⟩ : ByteArray),(⟨#[95]⟩ : ByteArray)]
def Q69 (_:Nat) (s:Int):Option (Bool) :=
 if (decide (s ≥ 97)) = true then (
  some (decide (s ≤ 122))
 ) else (
  some false
 )
def Q3b (_:Nat) (s:Int):Option (Bool) :=
 if (decide (s ≥ 48)) = true then (
  some (decide (s ≤ 57))
 ) else (
  some false
 )
def Q6M (N:Nat) (s:Int):Option (Bool) :=
 Qc (Q69 N s) fun z =>
 if z = true then (
  some true
 ) else (
  Qc (Q3b N s) fun v7 =>
  gd ((v7) = false) <|
  some (s == 95)
 )
def Q6N (N:Nat) (a0:ByteArray):Int → Option (Int ⊕ Int):=fun s =>
 gd ((decide (s < ((a0.size:Nat):Int))) = true) <|
 gd (0 ≤ s) <|
 Qc (a0[s.toNat]?) fun z =>
 Qc (Q6M N ((z.toNat:Nat):Int)) fun a1 =>
 if a1 = true then (
  gd (-9223372036854775808 ≤ s + 1 ∧ s + 1 ≤ 9223372036854775807) <|
  some (.inl (s + 1))
 ) else (
  some (.inr s)
 )
def Q6a (N:Nat) (z:ByteArray) (a1:Int):Option (Int) :=
 Qc (
  Q1h (Q6N N z) N a1
 ) fun s =>
 some s
def Q5v (_:Nat):Option (Unit) :=
 some ()
def Q6l (_:Nat) (a0:ByteArray):Nat → Option (Nat ⊕ (Unit ⊕ Bool)):=fun s =>
 if (decide (s < ([(⟨#[102,97,99,116]⟩ : ByteArray),(⟨#[114,117,108,101]⟩ : ByteArray),(⟨#[115,97,108,105,101,110,99,101]⟩ : ByteArray),(⟨#[110,111,116]⟩ : ByteArray),(⟨#[116,101,115,116]⟩ : ByteArray),(⟨#[97,115,115,101,114,116]⟩ : ByteArray),(⟨#[114,101,116,114,97,99,116]⟩ : ByteArray),(⟨#[115,97,121]⟩ : ByteArray),(⟨#[104,97,108,116]⟩ : ByteArray),(⟨#[97,110,100]⟩ : ByteArray),(⟨#[111,114]⟩ : ByteArray)].length))) = true then (
  Qc (([(⟨#[102,97,99,116]⟩ : ByteArray),(⟨#[114,117,108,101]⟩ : ByteArray),(⟨#[115,97,108,105,101,110,99,101]⟩ : ByteArray),(⟨#[110,111,116]⟩ : ByteArray),(⟨#[116,101,115,116]⟩ : ByteArray),(⟨#[97,115,115,101,114,116]⟩ : ByteArray),(⟨#[114,101,116,114,97,99,116]⟩ : ByteArray),(⟨#[115,97,121]⟩ : ByteArray),(⟨#[104,97,108,116]⟩ : ByteArray),(⟨#[97,110,100]⟩ : ByteArray),(⟨#[111,114]⟩ : ByteArray)])[s]?) fun z =>
  if (z.toList == a0.toList) = true then (
   some (.inr (.inr true))
  ) else (
   gd (s + 1 ≤ 9223372036854775807) <|
   some (.inl (s + 1))
  )
 ) else (
  some (.inr (.inl ()))
 )
def Q7u (N:Nat) (s:ByteArray):Option (Bool) :=
 Qc (Q5v N) fun _ =>
 Q2I (
  Q1h (Q6l N s) N 0
 ) fun _ =>
 some false
def Q4l (_:Nat) (z:Bool) (a0:Nat) (s:UInt8):Option (Bool) :=
 if (!z) = true then (
  if (a0 == 0) = true then (
   some true
  ) else (
   if (decide (48 ≤ s.toNat)) = true then (
    if (decide (s.toNat ≤ 57)) = true then (
     some false
    ) else (
     some (!(s.toNat == 95))
    )
   ) else (
    some (!(s.toNat == 95))
   )
  )
 ) else (
  some false
 )
def Q3e (N:Nat) (a0:ByteArray):Nat → Option (Nat ⊕ (Unit ⊕ Bool)):=fun s =>
 if (decide (s < a0.size)) = true then (
  Qc (a0[s]?) fun a1 =>
  Qc (
   if (decide (97 ≤ a1.toNat)) = true then (
    some (decide (a1.toNat ≤ 122))
   ) else (
    some false
   )
  ) fun a5 =>
  Qc (Q4l N a5 s a1
  ) fun z =>
  if z = true then (
   some (.inr (.inr false))
  ) else (
   gd (s + 1 ≤ 9223372036854775807) <|
   some (.inl (s + 1))
  )
 ) else (
  some (.inr (.inl ()))
 )
def Q2r (N:Nat) (s:ByteArray):Option (Bool) :=
 Q2I (
  Q1h (Q3e N s) N 0
 ) fun _ =>
 if (decide (1 ≤ s.size)) = true then (
  some (decide (s.size ≤ 24))
 ) else (
  some false
 )
def Q5z (N:Nat) (a0:ByteArray):(Nat × Int) → Option ((Nat × Int) ⊕ Int):=fun (z,s) =>
 if (decide (z < a0.size)) = true then (
  Qc (a0[z]?) fun a6 =>
  Qc (Q3b N ((a6.toNat:Nat):Int)) fun a7 =>
  gd ((!a7) = false) <|
  Qc (a0[z]?) fun a1 =>
  gd (-9223372036854775808 ≤ 9223372036854775807 - (IntKind.wrap .i64 (IntKind.wrap .u8 (((a1.toNat:Nat):Int) - 48))) ∧ 9223372036854775807 - (IntKind.wrap .i64 (IntKind.wrap .u8 (((a1.toNat:Nat):Int) - 48))) ≤ 9223372036854775807) <|
  gd ((decide (s > (IntKind.wrap .i64 (Int.tdiv (9223372036854775807 - (IntKind.wrap .i64 (IntKind.wrap .u8 (((a1.toNat:Nat):Int) - 48)))) 10)))) = false) <|
  gd (-9223372036854775808 ≤ 10 * s ∧ 10 * s ≤ 9223372036854775807) <|
  gd (-9223372036854775808 ≤ (10 * s) + (IntKind.wrap .i64 (IntKind.wrap .u8 (((a1.toNat:Nat):Int) - 48))) ∧ (10 * s) + (IntKind.wrap .i64 (IntKind.wrap .u8 (((a1.toNat:Nat):Int) - 48))) ≤ 9223372036854775807) <|
  gd (z + 1 ≤ 9223372036854775807) <|
  some (.inl (z + 1,((10 * s) + (IntKind.wrap .i64 (IntKind.wrap .u8 (((a1.toNat:Nat):Int) - 48))))))
 ) else (
  some (.inr s)
 )
def Q30 (N:Nat) (z:ByteArray):Option (Int) :=
 Qc (
  Q1h (Q5z N z) N (0,0)
 ) fun s =>
 some s
def Q7e (_:Nat):Option (Unit) :=
 some ()
def Q5Z (N:Nat) (a0:ByteArray):Int → Option (Int ⊕ Int):=fun s =>
 gd ((decide (s < ((a0.size:Nat):Int))) = true) <|
 gd (0 ≤ s) <|
 Qc (a0[s.toNat]?) fun z =>
 Qc (Q3b N ((z.toNat:Nat):Int)) fun a1 =>
 if a1 = true then (
  gd (-9223372036854775808 ≤ s + 1 ∧ s + 1 ≤ 9223372036854775807) <|
  some (.inl (s + 1))
 ) else (
  some (.inr s)
 )
def Q7X (_:Nat) (z:Int) (s:ByteArray) (a0:ByteArray) (a5:Nat):Option (Bool) :=
 if (decide ((z + ((s.size:Nat):Int)) ≤ ((a0.size:Nat):Int))) = true then (
  gd (0 ≤ z) <|
  gd (0 ≤ z + ((s.size:Nat):Int)) <|
  gd (z.toNat ≤ (z + ((s.size:Nat):Int)).toNat ∧ (z + ((s.size:Nat):Int)).toNat ≤ a0.size) <|
  Qc (lit1[a5]?) fun a6 =>
  some ((a0.extract z.toNat ((z + ((s.size:Nat):Int)).toNat)).toList == a6.toList)
 ) else (
  some false
 )
def Q60 (N:Nat) (a1:Int) (a0:ByteArray):Nat → Option (Nat ⊕ (Nat × ByteArray × Int)):=fun s =>
 gd ((decide (s < lit1.length)) = true) <|
 Qc (lit1[s]?) fun z =>
 gd (-9223372036854775808 ≤ a1 + ((z.size:Nat):Int) ∧ a1 + ((z.size:Nat):Int) ≤ 9223372036854775807) <|
 Qc (Q7X N a1 z a0 s
 ) fun a5 =>
 if a5 = true then (
  Qc (lit1[s]?) fun a6 =>
  some (.inr (6,a6,(a1 + ((z.size:Nat):Int))))
 ) else (
  gd (s + 1 ≤ 9223372036854775807) <|
  some (.inl (s + 1))
 )
def Q7f (N:Nat) (a0:ByteArray) (z:Int):Option (Nat × ByteArray × Int) :=
 gd (0 ≤ z) <|
 Qc (a0[z.toNat]?) fun a9 =>
 Qc (Q69 N ((a9.toNat:Nat):Int)) fun aD =>
 if aD = true then (
  Qc (Q6a N a0 z) fun a5 =>
  gd (0 ≤ z) <|
  gd (0 ≤ a5) <|
  gd (z.toNat ≤ a5.toNat ∧ a5.toNat ≤ a0.size) <|
  gd (-9223372036854775808 ≤ a5 - z ∧ a5 - z ≤ 9223372036854775807) <|
  gd ((decide ((a5 - z) > 24)) = false) <|
  Qc (
   Qc (Q7u N (a0.extract z.toNat a5.toNat)) fun aE =>
   if aE = true then (
    some 1
   ) else (
    some 2
   )
  ) fun a7 =>
  some (a7,a0.extract z.toNat a5.toNat,a5)
 ) else (
  Qc (
   if (a9.toNat == 63) = true then (
    some true
   ) else (
    some (a9.toNat == 39)
   )
  ) fun aA =>
  if aA = true then (
   gd (-9223372036854775808 ≤ z + 1 ∧ z + 1 ≤ 9223372036854775807) <|
   Qc (Q6a N a0 (z + 1)) fun a8 =>
   gd (-9223372036854775808 ≤ z + 1 ∧ z + 1 ≤ 9223372036854775807) <|
   gd (0 ≤ z + 1) <|
   gd (0 ≤ a8) <|
   gd ((z + 1).toNat ≤ a8.toNat ∧ a8.toNat ≤ a0.size) <|
   gd ((a9.toNat == 39) = false) <|
   Qc (Q2r N (a0.extract ((z + 1).toNat) a8.toNat)) fun aF =>
   gd ((!aF) = false) <|
   some (3,a0.extract ((z + 1).toNat) a8.toNat,a8)
  ) else (
   Qc (Q3b N ((a9.toNat:Nat):Int)) fun aG =>
   if aG = true then (
    Qc (
     Q1h (Q5Z N a0) N z
    ) fun s =>
    gd (0 ≤ z) <|
    gd (0 ≤ s) <|
    gd (z.toNat ≤ s.toNat ∧ s.toNat ≤ a0.size) <|
    Qc (Q30 N (a0.extract z.toNat s.toNat)) fun _ =>
    gd ((!(!((a0.extract z.toNat s.toNat).toList == (⟨#[]⟩ : ByteArray).toList))) = false) <|
    gd ((decide (s < ((a0.size:Nat):Int))) = true) <|
    gd (0 ≤ s) <|
    Qc (a0[s.toNat]?) fun aB =>
    Qc (Q6M N ((aB.toNat:Nat):Int)) fun aC =>
    gd ((aC) = false) <|
    gd (0 ≤ z) <|
    gd (0 ≤ s) <|
    gd (z.toNat ≤ s.toNat ∧ s.toNat ≤ a0.size) <|
    some (4,a0.extract z.toNat s.toNat,s)
   ) else (
    Qc (Q7e N) fun _ =>
    Q1h (Q60 N z a0) N 0
   )
  )
 )
def Q5A (N:Nat) (a0:ByteArray):(Int × (List Q1b)) → Option ((Int × (List Q1b)) ⊕ (List Q1b)):=fun (s,z) =>
 if (decide (s < ((a0.size:Nat):Int))) = true then (
  gd (0 ≤ s) <|
  Qc (a0[s.toNat]?) fun a8 =>
  gd ((a8.toNat == 9) = false) <|
  gd (0 ≤ s) <|
  Qc (a0[s.toNat]?) fun a9 =>
  gd ((a9.toNat == 10) = false) <|
  gd (0 ≤ s) <|
  Qc (a0[s.toNat]?) fun aA =>
  gd ((aA.toNat == 13) = false) <|
  gd (0 ≤ s) <|
  Qc (a0[s.toNat]?) fun aB =>
  if (aB.toNat == 32) = true then (
   gd (-9223372036854775808 ≤ s + 1 ∧ s + 1 ≤ 9223372036854775807) <|
   some (.inl (s + 1,z))
  ) else (
   gd (0 ≤ s) <|
   Qc (a0[s.toNat]?) fun aC =>
   gd ((aC.toNat == 35) = false) <|
   Qc (Q7f N a0 s) fun (a1,a5,a7) =>
   gd (z.length + ([(⟨(((a1:Nat):Int)),a5,s⟩ : Q1b)]).length ≤ 4398046511104) <|
   some (.inl (a7,(z ++ ([(⟨(((a1:Nat):Int)),a5,s⟩ : Q1b)]))))
  )
 ) else (
  some (.inr z)
 )
def Q6L (N:Nat) (z:ByteArray):Option (List Q1b) :=
 gd ((decide (16384 < z.size)) = false) <|
 Qc (
  Q1h (Q5A N z) N (0,[])
 ) fun s =>
 gd (s.length + ([(⟨7,(⟨#[]⟩ : ByteArray),(((z.size:Nat):Int))⟩ : Q1b)]).length ≤ 4398046511104) <|
 some (s ++ ([(⟨7,(⟨#[]⟩ : ByteArray),(((z.size:Nat):Int))⟩ : Q1b)]))
def Q1c (_:Nat) (l0:List Q1b) (z:Int) (_:Bool):Option (Int × ByteArray × Int) :=
 gd (0 ≤ z) <|
 Qc (l0[z.toNat]?) fun s =>
 some (s.kind,s.text,s.at_)
def Q15 (N:Nat) (l0:List Q1b) (a1:Int) (a2:Bool) (a3:ByteArray):Option (Bool) :=
 Qc (Q1c N l0 a1 a2) fun (s,z,_) =>
 gd ((!a2) = true) <|
 if (s == 6) = true then (
  some (z.toList == a3.toList)
 ) else (
  if (s == 1) = true then (
   some (z.toList == a3.toList)
  ) else (
   some false
  )
 )
def Q1L (_:Nat) (s:List Q1b) (z:Int) (a2:Bool):Option (Unit) :=
 gd ((!a2) = true) <|
 gd (-9223372036854775808 ≤ ((s.length:Nat):Int) - 1 ∧ ((s.length:Nat):Int) - 1 ≤ 9223372036854775807) <|
 gd ((decide (z < (((s.length:Nat):Int) - 1))) = true) <|
 gd (-9223372036854775808 ≤ z + 1 ∧ z + 1 ≤ 9223372036854775807) <|
 some ()
def Q1I (N:Nat) (l0:List Q1b) (a1:Int) (a2:Bool) (a3:Int) (_:Int):Option (ByteArray × Int) :=
 Qc (Q1c N l0 a1 a2) fun (s,z,a0) =>
 gd ((s != a3) = false) <|
 Qc (Q1L N l0 a1 a2) fun _ =>
 some (z,a0)
def Q1p (N:Nat) (s:List Q1b) (z:Int) (a2:Bool) (a3:ByteArray):Option (Unit) :=
 Qc (Q15 N s z a2 a3) fun v6 =>
 gd ((!v6) = false) <|
 Qc (Q1L N s z a2) fun _ =>
 some ()
def Q5n (N:Nat) (l0:List Q1b) (a1:Int) (a2:Bool):Option (Int × ByteArray × Int) :=
 Qc (Q1c N l0 a1 a2) fun (s,_,_) =>
 Qc (Q15 N l0 a1 a2 (⟨#[95]⟩ : ByteArray)) fun v9 =>
 gd ((v9) = false) <|
 Qc (Q15 N l0 a1 a2 (⟨#[45]⟩ : ByteArray)) fun a9 =>
 gd ((a9) = false) <|
 if (s == 3) = true then (
  Qc (Q1I N l0 a1 a2 3 13) fun (z,a0) =>
  some (13,z,a0)
 ) else (
  gd ((s == 5) = false) <|
  Qc (Q1I N l0 a1 a2 4 14) fun (a5,a6) =>
  some (14,a5,a6)
 )
def Q4a (N:Nat) (l0:List Q1b) (a1:Int) (a2:Bool):Option (Int × ByteArray × Int) :=
 Qc (Q1c N l0 a1 a2) fun (s,_,_) =>
 if (s == 4) = true then (
  Qc (Q1I N l0 a1 a2 4 14) fun (z,a0) =>
  some (14,z,a0)
 ) else (
  gd ((s == 5) = false) <|
  gd ((s == 3) = true) <|
  Qc (Q1I N l0 a1 a2 3 13) fun (a5,a6) =>
  some (13,a5,a6)
 )
def Q62 (_:Nat) (l1:List ByteArray) (a0:ByteArray):Nat → Option (Nat ⊕ (Unit ⊕ Bool)):=fun s =>
 if (decide (s < l1.length)) = true then (
  Qc (l1[s]?) fun z =>
  if (z.toList == a0.toList) = true then (
   some (.inr (.inr true))
  ) else (
   gd (s + 1 ≤ 9223372036854775807) <|
   some (.inl (s + 1))
  )
 ) else (
  some (.inr (.inl ()))
 )
def Q7i (N:Nat) (s:ByteArray) (z:List ByteArray):Option (Bool) :=
 Q2I (
  Q1h (Q62 N z s) N 0
 ) fun _ =>
 some false
def Q3W (N:Nat) (l0:List Q1b) (a1:Int) (a2:Bool) (a3:Int):Option (Bool) :=
 Qc (Q1c N l0 a1 a2) fun (s,z,_) =>
 gd ((a2) = false) <|
 gd ((s != 6) = false) <|
 gd (0 ≤ a3) <|
 Qc (([[(⟨#[111,114]⟩ : ByteArray)],[(⟨#[97,110,100]⟩ : ByteArray)],[(⟨#[61]⟩ : ByteArray),(⟨#[33,61]⟩ : ByteArray),(⟨#[60]⟩ : ByteArray),(⟨#[60,61]⟩ : ByteArray),(⟨#[62]⟩ : ByteArray),(⟨#[62,61]⟩ : ByteArray)],[(⟨#[43]⟩ : ByteArray),(⟨#[45]⟩ : ByteArray)],[(⟨#[42]⟩ : ByteArray)]])[a3.toNat]?) fun a0 =>
 Qc (Q7i N z a0) fun a5 =>
 some a5
def Q49 (N:Nat) (l0:List Q1b) (a2:Bool) (a3:Int) (rc:(List Q1b) → Int → Bool → Int → Option (Int × ByteArray × Int × (List Qe) × Int)) (a6:Int):(Int × ByteArray × Int × (List Qe) × Int) → Option ((Int × ByteArray × Int × (List Qe) × Int) ⊕ (Int × ByteArray × Int × (List Qe) × Int)):=fun (a0,a1,a5,z,s) =>
 Qc (Q3W N l0 s a2 a3) fun aE =>
 if aE = true then (
  Qc (Q1c N l0 s a2) fun (_,a7,_) =>
  Qc (Q1L N l0 s a2) fun _ =>
  gd (-9223372036854775808 ≤ a3 + 1 ∧ a3 + 1 ≤ 9223372036854775807) <|
  Qc (rc l0 (s + 1) a2 (a3 + 1)) fun (a8,a9,aA,aB,aC) =>
  gd ((a3 == 2) = false) <|
  some (.inl (16,a7,a6,[(⟨a0,a1,0,a5,z⟩ : Qe),(⟨a8,a9,0,aA,aB⟩ : Qe)],aC))
 ) else (
  some (.inr (a0,a1,a5,z,s))
 )
def Q4r (N:Nat) (rc:(List Q1b) → Int → Bool → Int → Option (Int × ByteArray × Int × (List Qe) × Int)) (l0:List Q1b) (a1:Int) (a2:Bool) (a3:Int):Option (Int × ByteArray × Int × (List Qe) × Int) :=
 gd ((a2) = false) <|
 Qc (Q1c N l0 a1 a2) fun (_,_,a7) =>
 if (a3 == 5) = true then (
  Qc (Q15 N l0 a1 a2 (⟨#[45]⟩ : ByteArray)) fun aK =>
  gd ((aK) = false) <|
  Qc (Q15 N l0 a1 a2 (⟨#[110,111,116]⟩ : ByteArray)) fun aL =>
  gd ((aL) = false) <|
  Qc (Q4a N l0 a1 a2) fun (a8,a9,aA) =>
  some (a8,a9,aA,[],a1 + 1)
 ) else (
  gd (-9223372036854775808 ≤ a3 + 1 ∧ a3 + 1 ≤ 9223372036854775807) <|
  Qc (rc l0 a1 a2 (a3 + 1)) fun (aB,aC,aD,aE,aF) =>
  Qc (
   Q1h (Q49 N l0 a2 a3 rc a7) N (aB,aC,aD,aE,aF)
  ) fun (a0,a5,a6,s,z) =>
  some (a0,a5,a6,s,z)
 )
def Q3t:Nat → (List Q1b) → Int → Bool → Int → Option (Int × ByteArray × Int × (List Qe) × Int)
 | 0=>fun _=>fun _=>fun _=>fun _=>none
 | N + 1=>Q4r N (Q3t N)
def Q6C (N:Nat) (z:List Qe) (l0:List Q1b) (a0:Int) (a2:Bool) (a3:Int):Option ((List Qe) × Int) :=
 Qc (
  if (decide (0 < z.length)) = true then (
   Qc (Q1p N l0 a0 a2 (⟨#[44]⟩ : ByteArray)) fun _ =>
   some (a0 + 1)
  ) else (
   some a0
  )
 ) fun s =>
 if (a3 == 0) = true then (
  Qc (Q1I N l0 s a2 2 3) fun (a1,a5) =>
  gd (z.length + ([(⟨3,a1,0,a5,[]⟩ : Qe)]).length ≤ 2199023255552) <|
  some ((z ++ ([(⟨3,a1,0,a5,[]⟩ : Qe)])),s + 1)
 ) else (
  if (a3 == 1) = true then (
   Qc (Q5n N l0 s a2) fun (a6,a7,a8) =>
   gd (z.length + ([(⟨a6,a7,0,a8,[]⟩ : Qe)]).length ≤ 2199023255552) <|
   some ((z ++ ([(⟨a6,a7,0,a8,[]⟩ : Qe)])),s + 1)
  ) else (
   Qc (Q3t N l0 s a2 0) fun (a9,aA,aB,aC,aD) =>
   gd (z.length + ([(⟨a9,aA,0,aB,aC⟩ : Qe)]).length ≤ 2199023255552) <|
   some ((z ++ ([(⟨a9,aA,0,aB,aC⟩ : Qe)])),aD)
  )
 )
def Q4s (N:Nat) (a2:Bool) (l0:List Q1b) (a3:Int):(Bool × (List Qe) × Int) → Option ((Bool × (List Qe) × Int) ⊕ ((List Qe) × Int)):=fun (a6,a0,z) =>
 Qc (
  if a6 = true then (
   some (!a2)
  ) else (
   some false
  )
 ) fun a5 =>
 if a5 = true then (
  Qc (Q6C N a0 l0 z a2 a3
  ) fun (a1,s) =>
  Qc (Q15 N l0 s a2 (⟨#[44]⟩ : ByteArray)) fun a7 =>
  some (.inl (a7,a1,s))
 ) else (
  some (.inr (a0,z))
 )
def Q2S (N:Nat) (l0:List Q1b) (a1:Int) (a2:Bool) (a3:Int):Option ((List Qe) × Int) :=
 Qc (Q1p N l0 a1 a2 (⟨#[40]⟩ : ByteArray)) fun _ =>
 Qc (
  Qc (Q15 N l0 (a1 + 1) a2 (⟨#[41]⟩ : ByteArray)) fun a6 =>
  Q1h (Q4s N a2 l0 a3) N (!a6,[],a1 + 1)
 ) fun (z,s) =>
 Qc (Q1p N l0 s a2 (⟨#[41]⟩ : ByteArray)) fun _ =>
 some (z,s + 1)
def Q4Y (N:Nat) (l0:List Q1b) (a1:Int) (a2:Bool):Option (ByteArray × Int × (List Qe) × Int) :=
 Qc (Q1c N l0 a1 a2) fun (_,_,a7) =>
 Qc (Q15 N l0 a1 a2 (⟨#[116,101,115,116]⟩ : ByteArray)) fun a8 =>
 gd ((a8) = false) <|
 Qc (Q15 N l0 a1 a2 (⟨#[110,111,116]⟩ : ByteArray)) fun a9 =>
 gd ((a9) = false) <|
 Qc (Q1I N l0 a1 a2 2 5) fun (z,_) =>
 Qc (Q2S N l0 (a1 + 1) a2 1) fun (a0,s) =>
 Qc (Q1p N l0 s a2 (⟨#[59]⟩ : ByteArray)) fun _ =>
 some (z,a7,a0,s + 1)
def Q4Q (N:Nat) (l0:List Q1b) (a1:Int) (a2:Bool):Option (Int) :=
 Qc (Q1c N l0 a1 a2) fun (_,s,_) =>
 Qc (Q30 N s) fun v9 =>
 Qc (Q1c N l0 a1 a2) fun (z,_,_) =>
 gd ((z != 4) = false) <|
 gd ((!(!(s.toList == (⟨#[]⟩ : ByteArray).toList))) = false) <|
 gd ((decide (v9 ≥ 2147483648)) = false) <|
 Qc (Q1L N l0 a1 a2) fun _ =>
 some v9
def Q6B (N:Nat) (z:List Q1b) (s:Int) (a2:Bool):Option (Nat × ByteArray × Int × (List Qe) × Int) :=
 Qc (Q15 N z s a2 (⟨#[97,115,115,101,114,116]⟩ : ByteArray)) fun a7 =>
 if a7 = true then (
  Qc (Q1L N z s a2) fun _ =>
  Qc (Q1I N z (s + 1) a2 2 8) fun (a0,_) =>
  Qc (Q2S N z ((s + 1) + 1) a2 2) fun (a5,a6) =>
  some (8,a0,0,a5,a6)
 ) else (
  Qc (Q15 N z s a2 (⟨#[114,101,116,114,97,99,116]⟩ : ByteArray)) fun a9 =>
  gd ((a9) = true) <|
  Qc (Q1L N z s a2) fun _ =>
  Qc (Q4Q N z (s + 1) a2) fun aA =>
  some (9,(⟨#[]⟩ : ByteArray),aA,[],(s + 1) + 1)
 )
def Q5m (N:Nat) (l0:List Q1b) (a1:Int) (a2:Bool):Option (Nat × ByteArray × Int × Int × (List Qe) × Int) :=
 Qc (Q1c N l0 a1 a2) fun (_,_,a7) =>
 Qc (Q6B N l0 a1 a2
 ) fun (a0,a5,a6,z,s) =>
 Qc (Q1p N l0 s a2 (⟨#[59]⟩ : ByteArray)) fun _ =>
 some (a0,a5,a6,a7,z,s + 1)
def Q47 (N:Nat) (a2:Bool) (l0:List Q1b):((List Qe) × Int) → Option (((List Qe) × Int) ⊕ ((List Qe) × Int)):=fun (s,z) =>
 gd ((!a2) = true) <|
 Qc (Q15 N l0 z a2 (⟨#[61,62]⟩ : ByteArray)) fun a7 =>
 if (!a7) = true then (
  Qc (Q4Y N l0 z a2) fun (a0,a1,a5,a6) =>
  gd (s.length + ([(⟨5,a0,0,a1,a5⟩ : Qe)]).length ≤ 2199023255552) <|
  some (.inl ((s ++ ([(⟨5,a0,0,a1,a5⟩ : Qe)])),a6))
 ) else (
  some (.inr (s,z))
 )
def Q48 (N:Nat) (a2:Bool) (l0:List Q1b):((List Qe) × Int) → Option (((List Qe) × Int) ⊕ ((List Qe) × Int)):=fun (s,z) =>
 gd ((!a2) = true) <|
 Qc (Q15 N l0 z a2 (⟨#[125]⟩ : ByteArray)) fun a9 =>
 if (!a9) = true then (
  Qc (Q5m N l0 z a2) fun (a0,a1,a5,a6,a7,a8) =>
  gd (s.length + ([(⟨(((a0:Nat):Int)),a1,a5,a6,a7⟩ : Qe)]).length ≤ 2199023255552) <|
  some (.inl ((s ++ ([(⟨(((a0:Nat):Int)),a1,a5,a6,a7⟩ : Qe)])),a8))
 ) else (
  some (.inr (s,z))
 )
def Q4Z (N:Nat) (l0:List Q1b) (a1:Int) (a2:Bool):Option (Nat × ByteArray × Int × (List Qe) × Int) :=
 Qc (Q1c N l0 a1 a2) fun (_,_,a9) =>
 Qc (Q15 N l0 a1 a2 (⟨#[102,97,99,116]⟩ : ByteArray)) fun aD =>
 if aD = true then (
  Qc (Q1L N l0 a1 a2) fun _ =>
  Qc (Q1I N l0 (a1 + 1) a2 2 2) fun (aA,_) =>
  Qc (Q2S N l0 ((a1 + 1) + 1) a2 0) fun (aB,a7) =>
  Qc (Q1p N l0 a7 a2 (⟨#[59]⟩ : ByteArray)) fun _ =>
  some (2,aA,a9,aB,a7 + 1)
 ) else (
  Qc (Q1p N l0 a1 a2 (⟨#[114,117,108,101]⟩ : ByteArray)) fun _ =>
  Qc (Q1I N l0 (a1 + 1) a2 2 4) fun (aC,_) =>
  Qc (Q15 N l0 ((a1 + 1) + 1) a2 (⟨#[115,97,108,105,101,110,99,101]⟩ : ByteArray)) fun aG =>
  gd ((aG) = false) <|
  Qc (Q1p N l0 ((a1 + 1) + 1) a2 (⟨#[123]⟩ : ByteArray)) fun _ =>
  Qc (
   Q1h (Q47 N a2 l0) N ([],((a1 + 1) + 1) + 1)
  ) fun (a0,s) =>
  Qc (Q1p N l0 s a2 (⟨#[61,62]⟩ : ByteArray)) fun _ =>
  Qc (
   Q1h (Q48 N a2 l0) N (a0,s + 1)
  ) fun (a5,z) =>
  Qc (Q1p N l0 z a2 (⟨#[125]⟩ : ByteArray)) fun _ =>
  some (4,aC,a9,a5,z + 1)
 )
def Q6s (_:Nat) (l4:List Qe) (a5:Int) (rc:Int → ByteArray → Int → Int → (List Qe) → Int → Option (Unit)):Nat → Option (Nat ⊕ Unit):=fun s =>
 if (decide (s < l4.length)) = true then (
  Qc (l4[s]?) fun z =>
  gd (-9223372036854775808 ≤ a5 + 1 ∧ a5 + 1 ≤ 9223372036854775807) <|
  Qc (rc z.kind z.text z.num z.at_ z.kids (a5 + 1)) fun _ =>
  gd (s + 1 ≤ 9223372036854775807) <|
  some (.inl (s + 1))
 ) else (
  some (.inr ())
 )
def Q6T (N:Nat) (rc:Int → ByteArray → Int → Int → (List Qe) → Int → Option (Unit)) (_:Int) (_:ByteArray) (_:Int) (_:Int) (z:List Qe) (s:Int):Option (Unit) :=
 gd ((decide (s ≥ 30)) = false) <|
 Qc (
  Q1h (Q6s N z s rc) N 0
 ) fun _ =>
 some ()
def Q5R:Nat → Int → ByteArray → Int → Int → (List Qe) → Int → Option (Unit)
 | 0=>fun _=>fun _=>fun _=>fun _=>fun _=>fun _=>none
 | N + 1=>Q6T N (Q5R N)
def Q63 (_:Nat) (l4:List Qe) (rc:Int → ByteArray → Int → Int → (List Qe) → Option (Nat)):(Nat × Nat) → Option ((Nat × Nat) ⊕ Nat):=fun (s,z) =>
 if (decide (s < l4.length)) = true then (
  Qc (l4[s]?) fun a0 =>
  Qc (rc a0.kind a0.text a0.num a0.at_ a0.kids) fun a1 =>
  gd (z + a1 ≤ 9223372036854775807) <|
  gd (s + 1 ≤ 9223372036854775807) <|
  some (.inl (s + 1,z + a1))
 ) else (
  some (.inr z)
 )
def Q6r (N:Nat) (rc:Int → ByteArray → Int → Int → (List Qe) → Option (Nat)) (_:Int) (_:ByteArray) (_:Int) (_:Int) (z:List Qe):Option (Nat) :=
 Qc (
  Q1h (Q63 N z rc) N (0,1)
 ) fun s =>
 some s
def Q5x:Nat → Int → ByteArray → Int → Int → (List Qe) → Option (Nat)
 | 0=>fun _=>fun _=>fun _=>fun _=>fun _=>none
 | N + 1=>Q6r N (Q5x N)
def Q5l (N:Nat) (a9:List Q1b):((List Qe) × Int) → Option (((List Qe) × Int) ⊕ ((List Qe) × Int)):=fun (s,z) =>
 Qc (Q1c N a9 z false) fun (a7,_,_) =>
 if (a7 != 7) = true then (
  Qc (Q4Z N a9 z false) fun (a0,a1,a5,a6,a8) =>
  gd (s.length + ([(⟨(((a0:Nat):Int)),a1,0,a5,a6⟩ : Qe)]).length ≤ 2199023255552) <|
  some (.inl ((s ++ ([(⟨(((a0:Nat):Int)),a1,0,a5,a6⟩ : Qe)])),a8))
 ) else (
  some (.inr (s,z))
 )
def Q6q (N:Nat) (a0:ByteArray):Option (List Qe) :=
 Qc (Q6L N a0) fun a1 =>
 Qc (
  Q1h (Q5l N a1) N ([],0)
 ) fun (s,_) =>
 gd ((false) = false) <|
 Qc (Q5R N 1 (⟨#[]⟩ : ByteArray) 0 0 s 0) fun _ =>
 Qc (Q5x N 1 (⟨#[]⟩ : ByteArray) 0 0 s) fun a5 =>
 gd ((decide (4096 < a5)) = false) <|
 some s
def Q61 (_:Nat) (l1:List ByteArray) (a0:ByteArray):Nat → Option (Nat ⊕ (Unit ⊕ Bool)):=fun s =>
 if (decide (s < l1.length)) = true then (
  Qc (l1[s]?) fun z =>
  if (z.toList == a0.toList) = true then (
   some (.inr (.inr true))
  ) else (
   gd (s + 1 ≤ 9223372036854775807) <|
   some (.inl (s + 1))
  )
 ) else (
  some (.inr (.inl ()))
 )
def Q5w (N:Nat) (s:ByteArray) (z:List ByteArray):Option (Bool) :=
 Q2I (
  Q1h (Q61 N z s) N 0
 ) fun _ =>
 some false
def Q2R (N:Nat) (s:ByteArray):Option (Bool) :=
 Qc (Q2r N s) fun z =>
 gd ((z) = true) <|
 Qc (Q5v N) fun _ =>
 Qc (Q5w N s [(⟨#[102,97,99,116]⟩ : ByteArray),(⟨#[114,117,108,101]⟩ : ByteArray),(⟨#[115,97,108,105,101,110,99,101]⟩ : ByteArray),(⟨#[110,111,116]⟩ : ByteArray),(⟨#[116,101,115,116]⟩ : ByteArray),(⟨#[97,115,115,101,114,116]⟩ : ByteArray),(⟨#[114,101,116,114,97,99,116]⟩ : ByteArray),(⟨#[115,97,121]⟩ : ByteArray),(⟨#[104,97,108,116]⟩ : ByteArray),(⟨#[97,110,100]⟩ : ByteArray),(⟨#[111,114]⟩ : ByteArray)]) fun v8 =>
 some (!v8)
def Q7v (_:Nat) (s:Int):Option (Bool) :=
 if (s == 5) = true then (
  some true
 ) else (
  gd ((s == 6) = false) <|
  some (s == 7)
 )
def Q6S (N:Nat) (s:ByteArray):Option (Unit) :=
 gd ((!(s.toList == (⟨#[]⟩ : ByteArray).toList)) = true) <|
 Qc (s[0]?) fun z =>
 gd ((z.toNat == 45) = false) <|
 Qc (Q30 N s) fun _ =>
 some ()
def Q7T (N:Nat) (s:ByteArray):Option (Bool) :=
 Qc (Q5w N s [(⟨#[111,114]⟩ : ByteArray),(⟨#[97,110,100]⟩ : ByteArray),(⟨#[61]⟩ : ByteArray),(⟨#[33,61]⟩ : ByteArray),(⟨#[60]⟩ : ByteArray),(⟨#[60,61]⟩ : ByteArray),(⟨#[62]⟩ : ByteArray),(⟨#[62,61]⟩ : ByteArray),(⟨#[43]⟩ : ByteArray),(⟨#[45]⟩ : ByteArray),(⟨#[42]⟩ : ByteArray)]) fun z =>
 some z
def Q5k (N:Nat) (l0:List Qe):Nat → Option (Nat ⊕ Nat):=fun s =>
 gd ((decide (s < l0.length)) = true) <|
 Qc (l0[s]?) fun z =>
 Qc (Q7v N z.kind) fun a0 =>
 if a0 = true then (
  gd (s + 1 ≤ 9223372036854775807) <|
  some (.inl (s + 1))
 ) else (
  some (.inr s)
 )
def Q6p (N:Nat) (rc:(List Qe) → Int → Int → (List Int) → Option (Unit)) (z:List Qe):Option (Unit) :=
 Qc (
  Q1h (Q5k N z) N 0
 ) fun s =>
 Qc (rc z 0 ((s:Nat):Int) [5,6,7]) fun _ =>
 Qc (rc z ((s:Nat):Int) ((z.length:Nat):Int) [8,9,10,11]) fun _ =>
 some ()
def Q7l (_:Nat) (z:List Qe) (s:Nat):Option (Unit) :=
 Qc (z[s]?) fun a0 =>
 if (a0.kind == 14) = true then (
  Qc (z[s]?) fun a1 =>
  gd ((!(a1.text.toList == (⟨#[]⟩ : ByteArray).toList)) = true) <|
  Qc (z[s]?) fun a5 =>
  Qc (a5.text[0]?) fun a6 =>
  gd ((a6.toNat == 45) = false) <|
  some ()
 ) else (
  some ()
 )
def Q4X (N:Nat) (z:List Qe):Nat → Option (Nat ⊕ Unit):=fun s =>
 if (decide (s < z.length)) = true then (
  Qc (Q7l N z s
  ) fun _ =>
  gd (s + 1 ≤ 9223372036854775807) <|
  some (.inl (s + 1))
 ) else (
  some (.inr ())
 )
def Q4m (N:Nat) (rc:(List Qe) → Int → Int → (List Int) → Option (Unit)) (s:List Qe):Option (Unit) :=
 Qc (
  Q1h (Q4X N s) N 0
 ) fun _ =>
 Qc (rc s 0 ((s.length:Nat):Int) [13,14,15,16]) fun _ =>
 some ()
def Q6o (N:Nat) (rc:(List Qe) → Int → Int → (List Int) → Option (Unit)) (s:Int) (a1:ByteArray) (a2:Int) (a3:Int) (z:List Qe):Option (Bool) :=
 Qc (
  gd ((decide (a3 < 0)) = false) <|
  if (a2 != 0) = true then (
   gd ((s != 4) = true) <|
   gd ((s != 9) = false) <|
   some ()
  ) else (
   some ()
  )
 ) fun _ =>
 if (s == 2) = true then (
  Qc (Q2R N a1) fun aA =>
  gd ((aA) = true) <|
  Qc (rc z 0 ((z.length:Nat):Int) [3]) fun _ =>
  some true
 ) else (
  if (s == 3) = true then (
   Qc (Q2R N a1) fun aB =>
   gd ((aB) = true) <|
   some (z.length == 0)
  ) else (
   if (s == 4) = true then (
    Qc (Q2R N a1) fun aC =>
    gd ((aC) = true) <|
    gd ((decide (a2 ≥ -2147483647)) = true) <|
    gd ((decide (a2 ≤ 2147483647)) = true) <|
    Qc (Q6p N rc z) fun _ =>
    some true
   ) else (
    Qc (
     if (s == 5) = true then (
      some (s == 5)
     ) else (
      some (s == 6)
     )
    ) fun a7 =>
    if a7 = true then (
     Qc (Q2R N a1) fun aD =>
     gd ((aD) = true) <|
     Qc (rc z 0 ((z.length:Nat):Int) [12,13,14,15]) fun _ =>
     some true
    ) else (
     gd ((s == 7) = false) <|
     if (s == 8) = true then (
      Qc (Q2R N a1) fun aE =>
      gd ((aE) = true) <|
      Qc (Q4m N rc z) fun _ =>
      some true
     ) else (
      if (s == 9) = true then (
       gd ((a1.toList == (⟨#[]⟩ : ByteArray).toList) = true) <|
       gd ((decide (a2 ≥ 0)) = true) <|
       gd ((decide (a2 ≤ 2147483647)) = true) <|
       some (z.length == 0)
      ) else (
       gd ((s == 10) = false) <|
       gd ((s == 11) = false) <|
       gd ((s == 12) = false) <|
       Qc (
        if (s == 13) = true then (
         some (s == 13)
        ) else (
         some (s == 15)
        )
       ) fun a5 =>
       if a5 = true then (
        Qc (Q2r N a1) fun a8 =>
        gd ((a8) = true) <|
        some (z.length == 0)
       ) else (
        if (s == 14) = true then (
         Qc (Q6S N a1) fun _ =>
         gd ((!(a1.toList == (⟨#[]⟩ : ByteArray).toList)) = true) <|
         some (z.length == 0)
        ) else (
         gd ((s == 16) = true) <|
         gd ((z.length == 1) = false) <|
         gd ((z.length == 2) = true) <|
         Qc (Q7T N a1) fun a9 =>
         gd ((a9) = true) <|
         Qc (Q4m N rc z) fun _ =>
         some true
        )
       )
      )
     )
    )
   )
  )
 )
def Q6R (_:Nat) (l3:List Int) (a1:Int) (l0:List Qe):(Nat × Bool) → Option ((Nat × Bool) ⊕ Bool):=fun (s,z) =>
 if (decide (s < l3.length)) = true then (
  Qc (
   if z = true then (
    some true
   ) else (
    gd (0 ≤ a1) <|
    Qc (l0[a1.toNat]?) fun a5 =>
    Qc (l3[s]?) fun a6 =>
    some (a5.kind == a6)
   )
  ) fun a0 =>
  gd (s + 1 ≤ 9223372036854775807) <|
  some (.inl (s + 1,a0))
 ) else (
  some (.inr z)
 )
def Q6Q (N:Nat) (a2:Int) (l3:List Int) (l0:List Qe) (rc:(List Qe) → Int → Int → (List Int) → Option (Unit)):Int → Option (Int ⊕ Unit):=fun s =>
 if (decide (s < a2)) = true then (
  Qc (
   Q1h (Q6R N l3 s l0) N (0,false)
  ) fun a0 =>
  gd ((!a0) = false) <|
  gd (0 ≤ s) <|
  Qc (l0[s.toNat]?) fun z =>
  Qc (Q6o N rc z.kind z.text z.num z.at_ z.kids) fun a1 =>
  gd ((!a1) = false) <|
  gd (-9223372036854775808 ≤ s + 1 ∧ s + 1 ≤ 9223372036854775807) <|
  some (.inl (s + 1))
 ) else (
  some (.inr ())
 )
def Q7h (N:Nat) (rc:(List Qe) → Int → Int → (List Int) → Option (Unit)) (s:List Qe) (z:Int) (a2:Int) (l3:List Int):Option (Unit) :=
 Qc (
  Q1h (Q6Q N a2 l3 s rc) N z
 ) fun _ =>
 some ()
def Q6b:Nat → (List Qe) → Int → Int → (List Int) → Option (Unit)
 | 0=>fun _=>fun _=>fun _=>fun _=>none
 | N + 1=>Q7h N (Q6b N)
def Q6m (_:Nat) (l4:List Qe) (rc:Int → ByteArray → Int → Int → (List Qe) → Option (Nat)):(Nat × Nat) → Option ((Nat × Nat) ⊕ Nat):=fun (s,a0) =>
 if (decide (s < l4.length)) = true then (
  Qc (l4[s]?) fun z =>
  Qc (rc z.kind z.text z.num z.at_ z.kids) fun a1 =>
  gd (s + 1 ≤ 9223372036854775807) <|
  some (.inl (s + 1,max a0 a1))
 ) else (
  some (.inr a0)
 )
def Q6O (N:Nat) (rc:Int → ByteArray → Int → Int → (List Qe) → Option (Nat)) (_:Int) (_:ByteArray) (_:Int) (_:Int) (z:List Qe):Option (Nat) :=
 Qc (
  Q1h (Q6m N z rc) N (0,0)
 ) fun s =>
 gd (s + 1 ≤ 9223372036854775807) <|
 some (s + 1)
def Q5P:Nat → Int → ByteArray → Int → Int → (List Qe) → Option (Nat)
 | 0=>fun _=>fun _=>fun _=>fun _=>fun _=>none
 | N + 1=>Q6O N (Q5P N)
def Q6n (_:Nat) (l4:List Qe) (rc:Int → ByteArray → Int → Int → (List Qe) → Option (Nat)):(Nat × Nat) → Option ((Nat × Nat) ⊕ Nat):=fun (s,z) =>
 if (decide (s < l4.length)) = true then (
  Qc (l4[s]?) fun a0 =>
  Qc (rc a0.kind a0.text a0.num a0.at_ a0.kids) fun a1 =>
  gd (z + a1 ≤ 9223372036854775807) <|
  gd (s + 1 ≤ 9223372036854775807) <|
  some (.inl (s + 1,z + a1))
 ) else (
  some (.inr z)
 )
def Q6P (N:Nat) (rc:Int → ByteArray → Int → Int → (List Qe) → Option (Nat)) (_:Int) (_:ByteArray) (_:Int) (_:Int) (z:List Qe):Option (Nat) :=
 Qc (
  Q1h (Q6n N z rc) N (0,1)
 ) fun s =>
 some s
def Q5Q:Nat → Int → ByteArray → Int → Int → (List Qe) → Option (Nat)
 | 0=>fun _=>fun _=>fun _=>fun _=>fun _=>none
 | N + 1=>Q6P N (Q5Q N)
def Q7g (N:Nat) (z:Int) (a1:ByteArray) (a2:Int) (a3:Int) (s:List Qe):Option (Bool) :=
 gd ((z != 1) = false) <|
 gd ((!(a1.toList == (⟨#[]⟩ : ByteArray).toList)) = false) <|
 gd ((a2 != 0) = false) <|
 gd ((decide (a3 < 0)) = false) <|
 Qc (Q6b N s 0 ((s.length:Nat):Int) [2,4]) fun _ =>
 Qc (Q5P N z a1 a2 a3 s) fun a6 =>
 gd ((decide (a6 ≤ 30)) = true) <|
 Qc (Q5Q N z a1 a2 a3 s) fun a7 =>
 some (decide (a7 ≤ 4096))
def Q3J (_:Nat) (z:List Ql) (_:List Qi) (_:List ByteArray) (_:Int) (_:Int) (_:Int) (a6:ByteArray):Option (Int) :=
 if (decide (0 < z.length)) = true then (
  Qc (z[0]?) fun s =>
  gd ((s.name.toList == a6.toList) = true) <|
  some 0
 ) else (
  some (-1)
 )
def Q1k (_:Nat) (_:List Ql) (_:List Qi) (_:List ByteArray) (_:Int) (_:Int) (_:Int) (s:Bool) (_:Int) (_:Int) (_:ByteArray) (_:Int) (_:Int) (_:List Qe):Option (Unit) :=
 gd ((s) = false) <|
 some ()
def Q4f (N:Nat) (a0:Nat) (a6:Qe) (s:List Ql) (l1:List Qi) (l2:List ByteArray) (a3:Int) (a4:Int) (a5:Int):Nat → Option (Nat ⊕ Unit):=fun z =>
 if (decide (z < a0)) = true then (
  Qc (a6.kids[z]?) fun a7 =>
  Qc (a6.kids[a0]?) fun a8 =>
  Qc (a6.kids[a0]?) fun a1 =>
  Qc (Q1k N s l1 l2 a3 a4 a5 (a7.text.toList == a8.text.toList) 210 a1.kind a1.text a1.num a1.at_ a1.kids) fun _ =>
  gd (z + 1 ≤ 9223372036854775807) <|
  some (.inl (z + 1))
 ) else (
  some (.inr ())
 )
def Q4e (N:Nat) (a0:Qe) (s:List Ql) (l1:List Qi) (l2:List ByteArray) (a3:Int) (a4:Int) (a5:Int):Nat → Option (Nat ⊕ Unit):=fun z =>
 if (decide (z < a0.kids.length)) = true then (
  Qc (
   Q1h (Q4f N z a0 s l1 l2 a3 a4 a5) N 0
  ) fun _ =>
  gd (z + 1 ≤ 9223372036854775807) <|
  some (.inl (z + 1))
 ) else (
  some (.inr ())
 )
def Q6u (N:Nat) (a8:List Qe) (a0:Nat) (s:List Ql) (l1:List Qi) (l2:List ByteArray) (a3:Int) (a4:Int) (a5:Int):Option (List Ql) :=
 Qc (a8[a0]?) fun z =>
 if (z.kind != 2) = true then (
  some s
 ) else (
  Qc (Q3J N s l1 l2 a3 a4 a5 z.text) fun a9 =>
  Qc (Q1k N s l1 l2 a3 a4 a5 (decide (a9 ≥ 0)) 210 z.kind z.text z.num z.at_ z.kids) fun _ =>
  gd ((decide (32 ≤ s.length)) = false) <|
  Qc (Q1k N s l1 l2 a3 a4 a5 (decide (6 < z.kids.length)) 204 z.kind z.text z.num z.at_ z.kids) fun _ =>
  Qc (
   Q1h (Q4e N z s l1 l2 a3 a4 a5) N 0
  ) fun _ =>
  gd (s.length + ([(⟨z.text,(((z.kids.length:Nat):Int))⟩ : Ql)]).length ≤ 5864062014805) <|
  some (s ++ ([(⟨z.text,(((z.kids.length:Nat):Int))⟩ : Ql)]))
 )
def Q4d (N:Nat) (a1:List Qe) (l1:List Qi) (l2:List ByteArray) (a3:Int) (a4:Int) (a5:Int):(Nat × (List Ql)) → Option ((Nat × (List Ql)) ⊕ (List Ql)):=fun (a0,s) =>
 if (decide (a0 < a1.length)) = true then (
  Qc (Q6u N a1 a0 s l1 l2 a3 a4 a5
  ) fun z =>
  gd (a0 + 1 ≤ 9223372036854775807) <|
  some (.inl (a0 + 1,z))
 ) else (
  some (.inr s)
 )
def Q50 (N:Nat) (z:List Ql) (l1:List Qi) (l2:List ByteArray) (a3:Int) (a4:Int) (a5:Int) (_:Int) (_:ByteArray) (_:Int) (_:Int) (s:List Qe):Option (List Ql) :=
 Q1h (Q4d N s l1 l2 a3 a4 a5) N (0,z)
def Q7x (_:Nat) (s:Int) (_:ByteArray) (_:Int) (_:Int) (_:List Qe):Option (Bool) :=
 if (s == 5) = true then (
  some true
 ) else (
  gd ((s == 6) = false) <|
  some (s == 7)
 )
def Q3w (N:Nat) (l0:List Ql) (l1:List Qi) (l2:List ByteArray) (a3:Int) (a4:Int) (a5:Int) (a6:Int) (a7:ByteArray) (a8:Int) (a9:Int) (s:List Qe):Option (Int) :=
 Qc (Q3J N l0 l1 l2 a3 a4 a5 a7) fun z =>
 Qc (Q1k N l0 l1 l2 a3 a4 a5 (decide (z < 0)) 211 a6 a7 a8 a9 s) fun _ =>
 gd ((decide (z ≥ 0)) = true) <|
 gd (0 ≤ z) <|
 Qc (l0[z.toNat]?) fun aD =>
 Qc (Q1k N l0 l1 l2 a3 a4 a5 (aD.fields != ((s.length:Nat):Int)) 212 a6 a7 a8 a9 s) fun _ =>
 some z
def Q4b (_:Nat) (l2:List ByteArray) (a6:ByteArray):Nat → Option (Nat ⊕ (Unit ⊕ Int)):=fun s =>
 if (decide (s < l2.length)) = true then (
  Qc (l2[s]?) fun z =>
  if (z.toList == a6.toList) = true then (
   some (.inr (.inr ((s:Nat):Int)))
  ) else (
   gd (s + 1 ≤ 9223372036854775807) <|
   some (.inl (s + 1))
  )
 ) else (
  some (.inr (.inl ()))
 )
def Q3u (N:Nat) (_:List Ql) (_:List Qi) (s:List ByteArray) (_:Int) (_:Int) (_:Int) (z:ByteArray):Option (Int) :=
 Q2I (
  Q1h (Q4b N s z) N 0
 ) fun _ =>
 some (-1)
def Q2A (_:Nat) (_:Int):Option (Unit) :=
 some ()
def Q4n (N:Nat) (a0:Int) (a1:ByteArray) (_:Int) (_:Int) (_:List Qe):Option (Int) :=
 gd ((a0 == 15) = false) <|
 Qc (a1[0]?) fun z =>
 gd ((z.toNat == 45) = false) <|
 Qc (Q30 N a1) fun s =>
 Qc (Q2A N s) fun _ =>
 some s
def Q6D (N:Nat) (z:Qe) (l0:List Ql) (l1:List Qi) (s:List ByteArray) (a3:Int) (a4:Int) (a5:Int) (a8:Bool):Option (Nat × Int × Nat × Int × (List ByteArray)) :=
 gd ((z.kind == 12) = false) <|
 if (z.kind == 13) = true then (
  Qc (Q3u N l0 l1 s a3 a4 a5 z.text) fun a0 =>
  if (decide (a0 < 0)) = true then (
   Qc (Q1k N l0 l1 s a3 a4 a5 (!a8) 213 z.kind z.text z.num z.at_ z.kids) fun _ =>
   Qc (Q1k N l0 l1 s a3 a4 a5 (decide (16 ≤ s.length)) 204 z.kind z.text z.num z.at_ z.kids) fun _ =>
   gd (([] : List ByteArray).length + s.length ≤ 8796093022208) <|
   gd (s.length + [z.text].length ≤ 8796093022208) <|
   some (2,((s.length:Nat):Int),0,0,s ++ [z.text])
  ) else (
   some (3,a0,0,0,s)
  )
 ) else (
  Qc (Q4n N z.kind z.text z.num z.at_ z.kids) fun a9 =>
  some (4,0,1,a9,s)
 )
def Q4t (N:Nat) (aB:List Qe) (a4:Int) (l0:List Ql) (l1:List Qi) (a3:Int) (a5:Int) (aC:Bool):(Nat × (List Q4O) × (List ByteArray)) → Option ((Nat × (List Q4O) × (List ByteArray)) ⊕ ((List Q4O) × (List ByteArray))):=fun (a9,a7,s) =>
 Qc (
  if (decide (a9 < aB.length)) = true then (
   some (a4 == 0)
  ) else (
   some false
  )
 ) fun aA =>
 if aA = true then (
  Qc (aB[a9]?) fun aD =>
  Qc (Q6D N aD l0 l1 s a3 a4 a5 aC
  ) fun (z,a0,a1,a6,a8) =>
  gd (a7.length + ([(⟨(((z:Nat):Int)),a0,(⟨(((a1:Nat):Int)),a6,(⟨#[]⟩ : ByteArray)⟩ : V)⟩ : Q4O)]).length ≤ 2932031007402) <|
  gd (a9 + 1 ≤ 9223372036854775807) <|
  some (.inl (a9 + 1,(a7 ++ ([(⟨(((z:Nat):Int)),a0,(⟨(((a1:Nat):Int)),a6,(⟨#[]⟩ : ByteArray)⟩ : V)⟩ : Q4O)])),a8))
 ) else (
  some (.inr (a7,s))
 )
def Q5o (N:Nat) (l0:List Ql) (l1:List Qi) (l2:List ByteArray) (a3:Int) (a4:Int) (a5:Int) (_:Int) (_:ByteArray) (_:Int) (_:Int) (a0:List Qe) (a1:Bool):Option ((List Q4O) × (List ByteArray)) :=
 Qc (
  Q1h (Q4t N a0 a4 l0 l1 a3 a5 a1) N (0,[],l2)
 ) fun (z,s) =>
 some (z,s)
def Q7j (_:Nat) (a0:ByteArray) (a1:Int):Option (Int) :=
 gd ((a1 == 1) = false) <|
 gd ((decide (0 < (([(⟨#[43]⟩ : ByteArray),(⟨#[45]⟩ : ByteArray),(⟨#[42]⟩ : ByteArray),(⟨#[61]⟩ : ByteArray),(⟨#[33,61]⟩ : ByteArray),(⟨#[60]⟩ : ByteArray),(⟨#[60,61]⟩ : ByteArray),(⟨#[97,110,100]⟩ : ByteArray),(⟨#[111,114]⟩ : ByteArray)]).length))) = true) <|
 Qc (([(⟨#[43]⟩ : ByteArray),(⟨#[45]⟩ : ByteArray),(⟨#[42]⟩ : ByteArray),(⟨#[61]⟩ : ByteArray),(⟨#[33,61]⟩ : ByteArray),(⟨#[60]⟩ : ByteArray),(⟨#[60,61]⟩ : ByteArray),(⟨#[97,110,100]⟩ : ByteArray),(⟨#[111,114]⟩ : ByteArray)])[0]?) fun s =>
 gd ((s.toList == a0.toList) = true) <|
 Qc (([1,2,3,5,6,7,8,9,10] : List Int)[0]?) fun z =>
 some z
def Q4u (N:Nat) (rc:(List Ql) → (List Qi) → (List ByteArray) → Int → Int → Int → (List Qe) → Option (List Qm)) (l0:List Ql) (l1:List Qi) (l2:List ByteArray) (a3:Int) (a4:Int) (a5:Int) (a6:Int) (a7:ByteArray) (a8:Int) (a9:Int) (s:List Qe):Option (Nat × Nat × Int × Int × Int × (List Qm)) :=
 Qc (
  if (a6 == 14) = true then (
   some (a6 == 14)
  ) else (
   some (a6 == 15)
  )
 ) fun z =>
 if z = true then (
  Qc (Q4n N a6 a7 a8 a9 s) fun aF =>
  some (1,1,aF,0,0,[])
 ) else (
  if (a6 == 13) = true then (
   Qc (Q3u N l0 l1 l2 a3 a4 a5 a7) fun a1 =>
   Qc (Q1k N l0 l1 l2 a3 a4 a5 (decide (a1 < 0)) 213 a6 a7 a8 a9 s) fun _ =>
   some (2,0,0,a1,0,[])
  ) else (
   Qc (Q7j N a7 ((s.length:Nat):Int)) fun aG =>
   Qc (rc l0 l1 l2 a3 a4 a5 s) fun aH =>
   some (3,0,0,0,aG,aH)
  )
 )
def Q4c (N:Nat) (l6:List Qe) (rc:(List Ql) → (List Qi) → (List ByteArray) → Int → Int → Int → (List Qe) → Option (List Qm)) (l0:List Ql) (l1:List Qi) (l2:List ByteArray) (a3:Int) (a4:Int) (a5:Int):(Nat × (List Qm)) → Option ((Nat × (List Qm)) ⊕ (List Qm)):=fun (z,s) =>
 if (decide (z < l6.length)) = true then (
  Qc (l6[z]?) fun a0 =>
  Qc (Q4u N rc l0 l1 l2 a3 a4 a5 a0.kind a0.text a0.num a0.at_ a0.kids) fun (a1,a6,a7,a8,a9,aA) =>
  gd (s.length + ([(⟨(((a1:Nat):Int)),(⟨(((a6:Nat):Int)),a7,(⟨#[]⟩ : ByteArray)⟩ : V),a8,a9,aA⟩ : Qm)]).length ≤ 1759218604441) <|
  gd (z + 1 ≤ 9223372036854775807) <|
  some (.inl (z + 1,(s ++ ([(⟨(((a1:Nat):Int)),(⟨(((a6:Nat):Int)),a7,(⟨#[]⟩ : ByteArray)⟩ : V),a8,a9,aA⟩ : Qm)]))))
 ) else (
  some (.inr s)
 )
def Q4v (N:Nat) (rc:(List Ql) → (List Qi) → (List ByteArray) → Int → Int → Int → (List Qe) → Option (List Qm)) (z:List Ql) (l1:List Qi) (l2:List ByteArray) (a3:Int) (a4:Int) (a5:Int) (l6:List Qe):Option (List Qm) :=
 Qc (
  Q1h (Q4c N l6 rc z l1 l2 a3 a4 a5) N (0,[])
 ) fun s =>
 some s
def Q3v:Nat → (List Ql) → (List Qi) → (List ByteArray) → Int → Int → Int → (List Qe) → Option (List Qm)
 | 0=>fun _=>fun _=>fun _=>fun _=>fun _=>fun _=>fun _=>none
 | N + 1=>Q4v N (Q3v N)
def Q5S (N:Nat) (z:Int) (l0:List Ql) (l1:List Qi) (l2:List ByteArray) (a3:Int) (a4:Int) (a5:Int) (a7:ByteArray) (s:Int) (a8:Int) (a0:List Qe) (l9:List QL) (a1:List Q19):Option ((List QL) × (List Q19) × (List ByteArray) × Int) :=
 if (z == 5) = true then (
  Qc (Q3w N l0 l1 l2 a3 a4 a5 z a7 s a8 a0) fun aE =>
  Qc (Q5o N l0 l1 l2 a3 a4 a5 z a7 s a8 a0 true) fun (a6,aA) =>
  gd (l9.length + ([(⟨1,aE,a6,(⟨0,(⟨0,0,(⟨#[]⟩ : ByteArray)⟩ : V),0,0,[]⟩ : Qm)⟩ : QL)]).length ≤ 1172812402961) <|
  gd (-9223372036854775808 ≤ a3 + 1 ∧ a3 + 1 ≤ 9223372036854775807) <|
  some ((l9 ++ ([(⟨1,aE,a6,(⟨0,(⟨0,0,(⟨#[]⟩ : ByteArray)⟩ : V),0,0,[]⟩ : Qm)⟩ : QL)])),a1,aA,a3 + 1)
 ) else (
  gd ((z == 6) = false) <|
  gd ((z == 7) = false) <|
  if (z == 8) = true then (
   Qc (Q3w N l0 l1 l2 a3 a4 a5 z a7 s a8 a0) fun aF =>
   Qc (Q3v N l0 l1 l2 a3 a4 a5 a0) fun aG =>
   gd (a1.length + ([(⟨1,aF,0,aG⟩ : Q19)]).length ≤ 2932031007402) <|
   some (l9,(a1 ++ ([(⟨1,aF,0,aG⟩ : Q19)])),l2,a3)
  ) else (
   gd ((z == 9) = true) <|
   gd ((decide (s < 1)) = false) <|
   Qc (Q1k N l0 l1 l2 a3 a4 a5 (decide (s > a3)) 214 z a7 s a8 a0) fun _ =>
   gd (-9223372036854775808 ≤ s - 1 ∧ s - 1 ≤ 9223372036854775807) <|
   gd (a1.length + ([(⟨2,0,s - 1,[]⟩ : Q19)]).length ≤ 2932031007402) <|
   some (l9,(a1 ++ ([(⟨2,0,s - 1,[]⟩ : Q19)])),l2,a3)
  )
 )
def Q4w (N:Nat) (l0:List Ql) (l1:List Qi) (l2:List ByteArray) (a3:Int) (a4:Int) (a5:Int) (_:ByteArray) (_:Int) (_:Int) (l9:List QL) (a9:List Q19) (aA:Int) (aB:ByteArray) (aC:Int) (aD:Int) (aE:List Qe):Option ((List QL) × (List Q19) × (List ByteArray) × Int) :=
 Qc (Q5S N aA l0 l1 l2 a3 a4 a5 aB aC aD aE l9 a9
 ) fun (z,a0,s,a1) =>
 some (z,a0,s,a1)
def Q4x (N:Nat) (a5:List Qe):(Nat × Nat) → Option ((Nat × Nat) ⊕ Nat):=fun (s,z) =>
 if (decide (s < a5.length)) = true then (
  Qc (
   Qc (a5[s]?) fun a0 =>
   Qc (Q7x N a0.kind a0.text a0.num a0.at_ a0.kids) fun a6 =>
   if a6 = true then (
    gd (z + 1 ≤ 9223372036854775807) <|
    some (z + 1)
   ) else (
    some z
   )
  ) fun a1 =>
  gd (s + 1 ≤ 9223372036854775807) <|
  some (.inl (s + 1,a1))
 ) else (
  some (.inr z)
 )
def Q4y (N:Nat) (aF:List Qe) (a4:Int) (l0:List Ql) (l1:List Qi) (a5:Int) (a7:ByteArray) (a8:Int):(Nat × (List QL) × (List Q19) × (List ByteArray) × Int) → Option ((Nat × (List QL) × (List Q19) × (List ByteArray) × Int) ⊕ ((List QL) × (List Q19) × (List ByteArray) × Int)):=fun (a9,s,z,a0,a1) =>
 Qc (
  if (decide (a9 < aF.length)) = true then (
   some (a4 == 0)
  ) else (
   some false
  )
 ) fun aA =>
 if aA = true then (
  Qc (aF[a9]?) fun a6 =>
  Qc (Q4w N l0 l1 a0 a1 a4 a5 a7 a8 0 s z a6.kind a6.text a6.num a6.at_ a6.kids) fun (aB,aC,aD,aE) =>
  gd (a9 + 1 ≤ 9223372036854775807) <|
  some (.inl (a9 + 1,aB,aC,aD,aE))
 ) else (
  some (.inr (s,z,a0,a1))
 )
def Q5p (N:Nat) (l0:List Ql) (l1:List Qi) (l2:List ByteArray) (a3:Int) (a4:Int) (a5:Int) (a6:Int) (a7:ByteArray) (a8:Int) (a9:Int) (aA:List Qe):Option ((List Qi) × (List ByteArray) × Int) :=
 gd ((decide (0 < l1.length)) = false) <|
 Qc (
  Q1h (Q4x N aA) N (0,0)
 ) fun a1 =>
 gd ((decide (a8 < -1000)) = false) <|
 Qc (Q1k N l0 l1 l2 a3 a4 a5 (decide (a8 > 1000)) 2 a6 a7 a8 a9 aA) fun _ =>
 gd ((decide (64 ≤ l1.length)) = false) <|
 gd ((decide (8 < a1)) = false) <|
 gd (-9223372036854775808 ≤ ((aA.length:Nat):Int) - ((a1:Nat):Int) ∧ ((aA.length:Nat):Int) - ((a1:Nat):Int) ≤ 9223372036854775807) <|
 Qc (Q1k N l0 l1 l2 a3 a4 a5 (decide ((((aA.length:Nat):Int) - ((a1:Nat):Int)) > 8)) 204 a6 a7 a8 a9 aA) fun _ =>
 Qc (
  Q1h (Q4y N aA a4 l0 l1 a5 a7 a8) N (0,[],[],[],0)
 ) fun (z,a0,s,aB) =>
 gd (l1.length + ([(⟨a7,a8,(((s.length:Nat):Int)),z,a0⟩ : Qi)]).length ≤ 1759218604441) <|
 some ((l1 ++ ([(⟨a7,a8,(((s.length:Nat):Int)),z,a0⟩ : Qi)])),s,aB)
def Q6t (N:Nat) (l4:List Qe) (aE:List Ql):(Nat × (List Qi) × (List ByteArray) × Int) → Option ((Nat × (List Qi) × (List ByteArray) × Int) ⊕ ((List Qi) × (List ByteArray) × Int)):=fun (a1,s,z,a0) =>
 Qc (
  if (decide (a1 < l4.length)) = true then (
   some true
  ) else (
   some false
  )
 ) fun a9 =>
 if a9 = true then (
  Qc (
   Qc (l4[a1]?) fun aF =>
   if (aF.kind == 4) = true then (
    Qc (l4[a1]?) fun a8 =>
    Qc (Q5p N aE s z a0 0 0 a8.kind a8.text a8.num a8.at_ a8.kids) fun (aA,aB,aC) =>
    some (aA,aB,aC)
   ) else (
    some (s,z,a0)
   )
  ) fun (a5,a6,a7) =>
  gd (a1 + 1 ≤ 9223372036854775807) <|
  some (.inl (a1 + 1,a5,a6,a7))
 ) else (
  some (.inr (s,z,a0))
 )
def Q7w (N:Nat) (a0:Int) (a1:ByteArray) (a2:Int) (a3:Int) (l4:List Qe):Option ((List Ql) × (List Qi)) :=
 Qc (Q7g N a0 a1 a2 a3 l4) fun v7 =>
 gd ((!v7) = false) <|
 Qc (Q50 N [] [] [] 0 0 0 a0 a1 a2 a3 l4) fun a6 =>
 Qc (
  Q1h (Q6t N l4 a6) N (0,[],[],0)
 ) fun (s,_,_) =>
 some (a6,s)
def Q6U (N:Nat) (a0:ByteArray):Option ((List Ql) × (List Qi)) :=
 Qc (Q6q N a0) fun v8 =>
 Qc (Q7w N 1 (⟨#[]⟩ : ByteArray) 0 0 v8) fun (s,z) =>
 some (s,z)
def Q4D (N:Nat):Option ((List Ql) × (List Qi)) :=
 Qc (Q6U N (⟨#[102,97,99,116,32,112,40,97,44,32,98,41,59,32,114,117,108,101,32,114,32,123,32,112,40,63,120,44,32,49,41,59,32,112,40,63,120,44,32,63,121,41,59,32,61,62,32,97,115,115,101,114,116,32,112,40,63,121,44,32,63,120,32,43,32,49,41,59,32,114,101,116,114,97,99,116,32,50,59,32,125]⟩ : ByteArray)) fun (s,z) =>
 some (s,z)
def Q3n (_:Nat) (_:Int) (_:Int) (_:Int):Option (Unit) :=
 some ()
def Q8V (_:Nat) (s:ByteArray):Option (Bool) :=
 if (!(s.toList == (⟨#[]⟩ : ByteArray).toList)) = true then (
  if (decide (s.size ≤ 24)) = true then (
   Qc (s[0]?) fun z =>
   if (decide ((Lib.indexByte (⟨#[97,98,99,100,101,102,103,104,105,106,107,108,109,110,111,112,113,114,115,116,117,118,119,120,121,122]⟩ : ByteArray).data.toList (((z.toNat:Nat):Int)).toNat.toUInt8) ≥ 0)) = true then (
    gd (s.size ≤ 9223372036854775807) <|
    some ((⟨(Lib.trimS s.data.toList (⟨#[97,98,99,100,101,102,103,104,105,106,107,108,109,110,111,112,113,114,115,116,117,118,119,120,121,122,48,49,50,51,52,53,54,55,56,57,95]⟩ : ByteArray).data.toList).toArray⟩ : ByteArray).toList == (⟨#[]⟩ : ByteArray).toList)
   ) else (
    some false
   )
  ) else (
   some false
  )
 ) else (
  some false
 )
def Q7Y (N:Nat) (z:ByteArray):Option (Bool) :=
 Qc (Q8V N z
 ) fun s =>
 some s
def Q26 (N:Nat) (z:Int) (a1:Int) (a2:ByteArray):Option (Bool) :=
 if (z == 1) = true then (
  some (a2.toList == (⟨#[]⟩ : ByteArray).toList)
 ) else (
  if (z == 2) = true then (
   if (a1 == 0) = true then (
    Qc (Q7Y N a2) fun s =>
    some s
   ) else (
    some false
   )
  ) else (
   some false
  )
 )
def Q76 (N:Nat) (s:ByteArray):Option (Bool) :=
 Qc (Q26 N 2 0 s) fun z =>
 some z
def Q5H (_:Nat) (_:ByteArray) (_:Int) (_:ByteArray):Option (Unit) :=
 some ()
def Q2W (N:Nat) (l0:List Ql) (a1:ByteArray):Nat → Option (Nat ⊕ (Unit ⊕ Int)):=fun s =>
 if (decide (s < l0.length)) = true then (
  Qc (l0[s]?) fun z =>
  Qc (Q5H N z.name z.fields a1) fun _ =>
  if (z.name.toList == a1.toList) = true then (
   some (.inr (.inr ((s:Nat):Int)))
  ) else (
   gd (s + 1 ≤ 9223372036854775807) <|
   some (.inl (s + 1))
  )
 ) else (
  some (.inr (.inl ()))
 )
def Q4I (N:Nat) (s:List Ql) (z:ByteArray):Option (Int) :=
 Q2I (
  Q1h (Q2W N s z) N 0
 ) fun _ =>
 some (-1)
def Q5d (N:Nat) (z:List Ql) (_:List Qi) (_:Int) (_:Int) (a4:ByteArray):Option (Int) :=
 Qc (Q4I N z a4) fun s =>
 some s
def Q5I (_:Nat) (_:ByteArray) (_:Int) (_:Int) (_:List QL) (_:List Q19) (_:ByteArray):Option (Unit) :=
 some ()
def Q2V (N:Nat) (l0:List Qi) (a1:ByteArray):Nat → Option (Nat ⊕ (Unit ⊕ Int)):=fun s =>
 if (decide (s < l0.length)) = true then (
  Qc (l0[s]?) fun z =>
  Qc (Q5I N z.name z.salience z.vars z.conds z.acts a1) fun _ =>
  if (z.name.toList == a1.toList) = true then (
   some (.inr (.inr ((s:Nat):Int)))
  ) else (
   gd (s + 1 ≤ 9223372036854775807) <|
   some (.inl (s + 1))
  )
 ) else (
  some (.inr (.inl ()))
 )
def Q4H (N:Nat) (s:List Qi) (z:ByteArray):Option (Int) :=
 Q2I (
  Q1h (Q2V N s z) N 0
 ) fun _ =>
 some (-1)
def Q5e (N:Nat) (_:List Ql) (z:List Qi) (_:Int) (_:Int) (a4:ByteArray):Option (Int) :=
 Qc (Q4H N z a4) fun s =>
 some s
def Q45 (_:Nat) (z:List Ql) (_:List Qi) (_:Int) (_:Int) (a4:Int) (a5:Int):Option (Bool) :=
 if (decide (a4 ≥ 0)) = true then (
  if (decide (a4 < ((z.length:Nat):Int))) = true then (
   gd (0 ≤ a4) <|
   Qc (z[a4.toNat]?) fun s =>
   some (s.fields == a5)
  ) else (
   some false
  )
 ) else (
  some false
 )
def Q8U (_:Nat) (a7:Bool) (a8:Bool) (s:Bool) (z:Int) (l6:List Qm) (a4:Int) (a1:Int) (a2:Int) (a3:ByteArray):Option (Bool) :=
 if a7 = true then (
  if a8 = true then (
   if s = true then (
    some true
   ) else (
    if (z == 0) = true then (
     some (l6.length == 0)
    ) else (
     some false
    )
   )
  ) else (
   if (a4 == 0) = true then (
    if s = true then (
     some true
    ) else (
     if (z == 0) = true then (
      some (l6.length == 0)
     ) else (
      some false
     )
    )
   ) else (
    some false
   )
  )
 ) else (
  if (decide ((⟨a1,a2,a3⟩ : V) = (⟨0,0,(⟨#[]⟩ : ByteArray)⟩ : V))) = true then (
   if a8 = true then (
    if s = true then (
     some true
    ) else (
     if (z == 0) = true then (
      some (l6.length == 0)
     ) else (
      some false
     )
    )
   ) else (
    if (a4 == 0) = true then (
     if s = true then (
      some true
     ) else (
      if (z == 0) = true then (
       some (l6.length == 0)
      ) else (
       some false
      )
     )
    ) else (
     some false
    )
   )
  ) else (
   some false
  )
 )
def Q54 (N:Nat) (_:Int) (z:Int) (a2:Int) (a3:ByteArray) (a4:Int) (a5:Int) (l6:List Qm) (a7:Bool) (a8:Bool) (a9:Bool):Option (Bool) :=
 Qc (Q8U N a7 a8 a9 a5 l6 a4 z a2 a3
 ) fun s =>
 some s
def Q6i (N:Nat) (_:List Ql) (_:List Qi) (a2:Int) (_:Int) (a4:Int) (s:Int) (z:Int) (a7:Int) (a8:ByteArray) (a9:Bool):Option (Bool × Int) :=
 if (a4 == 1) = true then (
  if (s == 0) = true then (
   some ((decide ((⟨z,a7,a8⟩ : V) = (⟨0,0,(⟨#[]⟩ : ByteArray)⟩ : V))),a2)
  ) else (
   some (false,a2)
  )
 ) else (
  if (a4 == 2) = true then (
   gd (-9223372036854775808 ≤ a2 + 1 ∧ a2 + 1 ≤ 9223372036854775807) <|
   if a9 = true then (
    gd (-9223372036854775808 ≤ (a2 + 1) - 1 ∧ (a2 + 1) - 1 ≤ 9223372036854775807) <|
    if (s == ((a2 + 1) - 1)) = true then (
     some ((decide ((⟨z,a7,a8⟩ : V) = (⟨0,0,(⟨#[]⟩ : ByteArray)⟩ : V))),a2 + 1)
    ) else (
     some (false,a2 + 1)
    )
   ) else (
    some (false,a2 + 1)
   )
  ) else (
   if (a4 == 3) = true then (
    if (decide (s ≥ 0)) = true then (
     if (decide (s < a2)) = true then (
      some ((decide ((⟨z,a7,a8⟩ : V) = (⟨0,0,(⟨#[]⟩ : ByteArray)⟩ : V))),a2)
     ) else (
      some (false,a2)
     )
    ) else (
     some (false,a2)
    )
   ) else (
    if (a4 == 4) = true then (
     if (s == 0) = true then (
      Qc (Q26 N z a7 a8) fun aA =>
      some (aA,a2)
     ) else (
      some (false,a2)
     )
    ) else (
     some (false,a2)
    )
   )
  )
 )
def Q4C (_:Nat) (rc:(List Ql) → (List Qi) → Int → Int → Int → Int → Int → ByteArray → Int → Int → (List Qm) → Option (Bool)) (z:Int) (a1:Int) (a2:Int) (a3:ByteArray) (a4:Int) (a5:Int) (l6:List Qm) (l7:List Ql) (l8:List Qi) (a9:Int) (s:Int):Option (Bool) :=
 Qc (rc l7 l8 a9 s z a1 a2 a3 a4 a5 l6) fun v6 =>
 some (!v6)
def Q2z (N:Nat) (l0:List Qm) (rc:(List Ql) → (List Qi) → Int → Int → Int → Int → Int → ByteArray → Int → Int → (List Qm) → Option (Bool)) (l1:List Ql) (l2:List Qi) (a3:Int) (a4:Int):Nat → Option (Nat ⊕ (Unit ⊕ Int)):=fun z =>
 if (decide (z < l0.length)) = true then (
  Qc (l0[z]?) fun a0 =>
  Qc (Q4C N rc a0.kind a0.value.k a0.value.n a0.value.s a0.var a0.op a0.kids l1 l2 a3 a4) fun a1 =>
  if a1 = true then (
   some (.inr (.inr ((z:Nat):Int)))
  ) else (
   gd (z + 1 ≤ 9223372036854775807) <|
   some (.inl (z + 1))
  )
 ) else (
  some (.inr (.inl ()))
 )
def Q3N (N:Nat) (rc:(List Ql) → (List Qi) → Int → Int → Int → Int → Int → ByteArray → Int → Int → (List Qm) → Option (Bool)) (s:List Qm) (z:List Ql) (l2:List Qi) (a3:Int) (a4:Int):Option (Int) :=
 Q2I (
  Q1h (Q2z N s rc z l2 a3 a4) N 0
 ) fun _ =>
 some (-1)
def Q39 (N:Nat) (rc:(List Ql) → (List Qi) → Int → Int → Int → Int → Int → ByteArray → Int → Int → (List Qm) → Option (Bool)) (s:List Qm) (z:List Ql) (l2:List Qi) (a3:Int) (a4:Int):Option (Bool) :=
 Qc (Q3N N rc s z l2 a3 a4) fun v7 =>
 some (decide (v7 ≥ 0))
def Q40 (N:Nat) (rc:(List Ql) → (List Qi) → Int → Int → Int → Int → Int → ByteArray → Int → Int → (List Qm) → Option (Bool)) (s:List Ql) (z:List Qi) (a2:Int) (a3:Int) (l4:List Qm):Option (Bool) :=
 Qc (Q39 N rc l4 s z a2 a3) fun v7 =>
 some (!v7)
def Q5L (_:Nat) (z:Int):Option (Nat) :=
 Qc (
  if (z == 4) = true then (
   some true
  ) else (
   some (z == 11)
  )
 ) fun s =>
 if s = true then (
  some 1
 ) else (
  some 2
 )
def Q7s (N:Nat) (a4:Int) (a5:Int) (a6:Int) (a7:ByteArray) (a8:Int) (a9:Int) (s:List Qm) (z:Nat) (rc:(List Ql) → (List Qi) → Int → Int → Int → Int → Int → ByteArray → Int → Int → (List Qm) → Option (Bool)) (l0:List Ql) (l1:List Qi) (a2:Int) (a3:Int):Option (Bool) :=
 Qc (Q54 N a4 a5 a6 a7 a8 a9 s false false true) fun a1 =>
 if a1 = true then (
  if (decide (a9 ≥ 1)) = true then (
   if (decide (a9 ≤ 11)) = true then (
    if (s.length == z) = true then (
     Qc (Q40 N rc l0 l1 a2 a3 s) fun aA =>
     some aA
    ) else (
     some false
    )
   ) else (
    some false
   )
  ) else (
   some false
  )
 ) else (
  some false
 )
def Q4U (N:Nat) (rc:(List Ql) → (List Qi) → Int → Int → Int → Int → Int → ByteArray → Int → Int → (List Qm) → Option (Bool)) (l0:List Ql) (l1:List Qi) (a2:Int) (a3:Int) (a4:Int) (a5:Int) (a6:Int) (a7:ByteArray) (a8:Int) (a9:Int) (s:List Qm):Option (Bool) :=
 if (a4 == 1) = true then (
  Qc (Q54 N a4 a5 a6 a7 a8 a9 s true false false) fun aE =>
  if aE = true then (
   Qc (Q26 N a5 a6 a7) fun aF =>
   some aF
  ) else (
   some false
  )
 ) else (
  if (a4 == 2) = true then (
   Qc (Q54 N a4 a5 a6 a7 a8 a9 s false true false) fun aG =>
   if aG = true then (
    if (decide (a8 ≥ 0)) = true then (
     some (decide (a8 < a2))
    ) else (
     some false
    )
   ) else (
    some false
   )
  ) else (
   if (a4 == 3) = true then (
    Qc (Q5L N a9
    ) fun z =>
    Qc (Q7s N a4 a5 a6 a7 a8 a9 s z rc l0 l1 a2 a3
    ) fun a0 =>
    some a0
   ) else (
    some false
   )
  )
 )
def Q38:Nat → (List Ql) → (List Qi) → Int → Int → Int → Int → Int → ByteArray → Int → Int → (List Qm) → Option (Bool)
 | 0=>fun _=>fun _=>fun _=>fun _=>fun _=>fun _=>fun _=>fun _=>fun _=>fun _=>fun _=>none
 | N + 1=>Q4U N (Q38 N)
def Q5K (N:Nat) (l0:List Ql) (l1:List Qi) (a2:Int) (a3:Int) (a5:Int) (l6:List Q4O) (a7:Int) (a8:Int) (a9:Int) (s:ByteArray) (z:Int) (a0:Int) (a1:List Qm):Option (Bool) :=
 Qc (Q45 N l0 l1 a2 a3 a5 ((l6.length:Nat):Int)) fun a6 =>
 if (!a6) = true then (
  some true
 ) else (
  if (a7 != 0) = true then (
   some true
  ) else (
   Qc (Q54 N a7 a8 a9 s z a0 a1 false false false) fun aA =>
   some (!aA)
  )
 )
def Q2Q (N:Nat) (l6:List Q4O) (l0:List Ql) (l1:List Qi) (a3:Int) (a4:Int):(Nat × Int) → Option ((Nat × Int) ⊕ (Int ⊕ (Bool × Int × Int))):=fun (z,a0) =>
 if (decide (z < l6.length)) = true then (
  Qc (l6[z]?) fun a1 =>
  Qc (Q6i N l0 l1 a0 a3 a1.k a1.var a1.v.k a1.v.n a1.v.s (a4 == 1)) fun (a6,a5) =>
  if (!a6) = true then (
   some (.inr (.inr (false,a5,a3)))
  ) else (
   gd (z + 1 ≤ 9223372036854775807) <|
   some (.inl (z + 1,a5))
  )
 ) else (
  some (.inr (.inl a0))
 )
def Q5J (N:Nat) (l0:List Ql) (l1:List Qi) (a2:Int) (a3:Int) (a4:Int) (a5:Int) (l6:List Q4O) (a7:Int) (a8:Int) (a9:Int) (a6:ByteArray) (aA:Int) (aB:Int) (aC:List Qm):Option (Bool × Int × Int) :=
 Qc (
  if (a4 == 1) = true then (
   some (a4 == 1)
  ) else (
   some (a4 == 2)
  )
 ) fun a1 =>
 if a1 = true then (
  Qc (Q5K N l0 l1 a2 a3 a5 l6 a7 a8 a9 a6 aA aB aC
  ) fun a0 =>
  if a0 = true then (
   some (false,a2,a3)
  ) else (
   Q2I (
    Q1h (Q2Q N l6 l0 l1 a3 a4) N (0,a2)
   ) fun z =>
   Qc (
    if (a4 == 1) = true then (
     gd (-9223372036854775808 ≤ a3 + 1 ∧ a3 + 1 ≤ 9223372036854775807) <|
     some (a3 + 1)
    ) else (
     some a3
    )
   ) fun s =>
   some (true,z,s)
  )
 ) else (
  if (a4 == 3) = true then (
   if (a5 == 0) = true then (
    if (l6.length == 0) = true then (
     Qc (Q38 N l0 l1 a2 a3 a7 a8 a9 a6 aA aB aC) fun aG =>
     some (aG,a2,a3)
    ) else (
     some (false,a2,a3)
    )
   ) else (
    some (false,a2,a3)
   )
  ) else (
   some (false,a2,a3)
  )
 )
def Q5M (N:Nat) (z:Int) (a1:Int) (a2:Int) (a3:ByteArray) (a4:Int) (a5:Int) (l6:List Qm) (l7:List Ql) (l8:List Qi) (a9:Int) (s:Int):Option (Bool) :=
 Qc (Q38 N l7 l8 a9 s z a1 a2 a3 a4 a5 l6) fun v6 =>
 some (!v6)
def Q2T (N:Nat) (l0:List Qm) (l1:List Ql) (l2:List Qi) (a3:Int) (a4:Int):Nat → Option (Nat ⊕ (Unit ⊕ Int)):=fun z =>
 if (decide (z < l0.length)) = true then (
  Qc (l0[z]?) fun a0 =>
  Qc (Q5M N a0.kind a0.value.k a0.value.n a0.value.s a0.var a0.op a0.kids l1 l2 a3 a4) fun a1 =>
  if a1 = true then (
   some (.inr (.inr ((z:Nat):Int)))
  ) else (
   gd (z + 1 ≤ 9223372036854775807) <|
   some (.inl (z + 1))
  )
 ) else (
  some (.inr (.inl ()))
 )
def Q4F (N:Nat) (s:List Qm) (z:List Ql) (l2:List Qi) (a3:Int) (a4:Int):Option (Int) :=
 Q2I (
  Q1h (Q2T N s z l2 a3 a4) N 0
 ) fun _ =>
 some (-1)
def Q3L (N:Nat) (s:List Qm) (z:List Ql) (l2:List Qi) (a3:Int) (a4:Int):Option (Bool) :=
 Qc (Q4F N s z l2 a3 a4) fun v7 =>
 some (decide (v7 ≥ 0))
def Q44 (N:Nat) (s:List Ql) (z:List Qi) (a2:Int) (a3:Int) (l4:List Qm):Option (Bool) :=
 Qc (Q3L N l4 s z a2 a3) fun v7 =>
 some (!v7)
def Q7Q (_:Nat) (z:Int) (l7:List Qm) (s:Int) (a3:Int):Option (Bool) :=
 if (z == 0) = true then (
  if (l7.length == 0) = true then (
   if (decide (s ≥ 0)) = true then (
    some (decide (s < a3))
   ) else (
    some false
   )
  ) else (
   some false
  )
 ) else (
  some false
 )
def Q7R (N:Nat) (a5:Int) (a6:Int) (z:List Qm) (l0:List Ql) (l1:List Qi) (a2:Int) (a3:Int):Option (Bool) :=
 if (a5 == 0) = true then (
  if (a6 == 0) = true then (
   if (decide (0 < z.length)) = true then (
    Qc (Q44 N l0 l1 a2 a3 z) fun s =>
    some s
   ) else (
    some false
   )
  ) else (
   some false
  )
 ) else (
  some false
 )
def Q7S (_:Nat) (a4:Int) (s:Int) (z:Int) (l7:List Qm):Option (Bool) :=
 if (a4 == 4) = true then (
  if (s == 0) = true then (
   if (z == 0) = true then (
    some (l7.length == 0)
   ) else (
    some false
   )
  ) else (
   some false
  )
 ) else (
  some false
 )
def Q6h (N:Nat) (l0:List Ql) (l1:List Qi) (a2:Int) (a3:Int) (a4:Int) (a5:Int) (a6:Int) (l7:List Qm):Option (Bool) :=
 if (a4 == 1) = true then (
  if (a6 == 0) = true then (
   Qc (Q45 N l0 l1 a2 a3 a5 ((l7.length:Nat):Int)) fun aB =>
   if aB = true then (
    Qc (Q44 N l0 l1 a2 a3 l7) fun aC =>
    some aC
   ) else (
    some false
   )
  ) else (
   some false
  )
 ) else (
  if (a4 == 2) = true then (
   Qc (Q7Q N a5 l7 a6 a3
   ) fun s =>
   some s
  ) else (
   if (a4 == 3) = true then (
    Qc (Q7R N a5 a6 l7 l0 l1 a2 a3
    ) fun z =>
    some z
   ) else (
    Qc (Q7S N a4 a5 a6 l7
    ) fun a0 =>
    some a0
   )
  )
 )
def Q5N (N:Nat) (s:Int) (z:Int) (a2:Int) (l3:List Qm) (l4:List Ql) (l5:List Qi) (a6:Int) (a7:Int):Option (Bool) :=
 Qc (Q6h N l4 l5 a6 a7 s z a2 l3) fun v6 =>
 some (!v6)
def Q33 (N:Nat) (l0:List Q19) (l1:List Ql) (l2:List Qi) (a3:Int) (a4:Int):Nat → Option (Nat ⊕ (Unit ⊕ Int)):=fun s =>
 if (decide (s < l0.length)) = true then (
  Qc (l0[s]?) fun z =>
  Qc (Q5N N z.kind z.type z.which z.exprs l1 l2 a3 a4) fun a0 =>
  if a0 = true then (
   some (.inr (.inr ((s:Nat):Int)))
  ) else (
   gd (s + 1 ≤ 9223372036854775807) <|
   some (.inl (s + 1))
  )
 ) else (
  some (.inr (.inl ()))
 )
def Q51 (N:Nat) (s:List Q19) (z:List Ql) (l2:List Qi) (a3:Int) (a4:Int):Option (Int) :=
 Q2I (
  Q1h (Q33 N s z l2 a3 a4) N 0
 ) fun _ =>
 some (-1)
def Q3Y (N:Nat) (s:List Q19) (z:List Ql) (l2:List Qi) (a3:Int) (a4:Int):Option (Bool) :=
 Qc (Q51 N s z l2 a3 a4) fun v7 =>
 some (decide (v7 ≥ 0))
def Q5t (N:Nat) (a4:ByteArray) (z:Int) (l7:List QL) (l8:List Q19):Option (Bool) :=
 Qc (Q76 N a4) fun s =>
 if (!s) = true then (
  some true
 ) else (
  if (decide (z < -1000)) = true then (
   some true
  ) else (
   if (decide (z > 1000)) = true then (
    some true
   ) else (
    if (decide (8 < l7.length)) = true then (
     some true
    ) else (
     some (decide (8 < l8.length))
    )
   )
  )
 )
def Q2J (N:Nat) (l7:List QL) (l0:List Ql) (l1:List Qi):(Nat × Int × Int) → Option ((Nat × Int × Int) ⊕ ((Int × Int) ⊕ (Bool × Int × Int))):=fun (a5,z,a0) =>
 if (decide (a5 < l7.length)) = true then (
  Qc (l7[a5]?) fun a1 =>
  Qc (Q5J N l0 l1 z a0 a1.kind a1.type a1.args a1.test.kind a1.test.value.k a1.test.value.n a1.test.value.s a1.test.var a1.test.op a1.test.kids) fun (a8,a6,a7) =>
  if (!a8) = true then (
   some (.inr (.inr (false,a6,a7)))
  ) else (
   gd (a5 + 1 ≤ 9223372036854775807) <|
   some (.inl (a5 + 1,a6,a7))
  )
 ) else (
  some (.inr (.inl (z,a0)))
 )
def Q5f (N:Nat) (l0:List Ql) (l1:List Qi) (_:Int) (_:Int) (a4:ByteArray) (a5:Int) (a6:Int) (l7:List QL) (l8:List Q19):Option (Bool × Int × Int) :=
 Qc (Q5t N a4 a5 l7 l8
 ) fun a0 =>
 if a0 = true then (
  some (false,0,0)
 ) else (
  Q2I (
   Q1h (Q2J N l7 l0 l1) N (0,0,0)
  ) fun (s,z) =>
  if (a6 == s) = true then (
   if (decide (s ≤ 16)) = true then (
    Qc (Q3Y N l8 l0 l1 s z) fun a1 =>
    some (!a1,s,z)
   ) else (
    some (false,s,z)
   )
  ) else (
   some (false,s,z)
  )
 )
def Q7I (N:Nat) (s:Ql) (l0:List Ql) (l1:List Qi) (z:Nat):Option (Bool) :=
 Qc (Q76 N s.name) fun a0 =>
 if (!a0) = true then (
  some true
 ) else (
  if (decide (s.fields < 0)) = true then (
   some true
  ) else (
   if (decide (s.fields > 6)) = true then (
    some true
   ) else (
    Qc (Q5d N l0 l1 0 0 s.name) fun a1 =>
    some (a1 != ((z:Nat):Int))
   )
  )
 )
def Q58 (N:Nat) (l0:List Ql) (l1:List Qi):Nat → Option (Nat ⊕ (Unit ⊕ Bool)):=fun s =>
 if (decide (s < l0.length)) = true then (
  Qc (l0[s]?) fun a1 =>
  Qc (Q7I N a1 l0 l1 s
  ) fun z =>
  if z = true then (
   some (.inr (.inr false))
  ) else (
   gd (s + 1 ≤ 9223372036854775807) <|
   some (.inl (s + 1))
  )
 ) else (
  some (.inr (.inl ()))
 )
def Q59 (N:Nat) (l1:List Qi) (l0:List Ql):(Nat × Int × Int) → Option ((Nat × Int × Int) ⊕ (Unit ⊕ Bool)):=fun (s,z,a0) =>
 if (decide (s < l1.length)) = true then (
  Qc (l1[s]?) fun a1 =>
  Qc (
   Qc (Q5e N l0 l1 z a0 a1.name) fun aC =>
   if (aC != ((s:Nat):Int)) = true then (
    some (z,a0,true)
   ) else (
    Qc (Q5f N l0 l1 z a0 a1.name a1.salience a1.vars a1.conds a1.acts) fun (a8,a9,aA) =>
    some (a9,aA,!a8)
   )
  ) fun (a5,a6,a7) =>
  if a7 = true then (
   some (.inr (.inr false))
  ) else (
   gd (s + 1 ≤ 9223372036854775807) <|
   some (.inl (s + 1,a5,a6))
  )
 ) else (
  some (.inr (.inl ()))
 )
def Q75 (N:Nat) (z:List Ql) (l1:List Qi):Option (Bool) :=
 Qc (
  if (decide (32 < z.length)) = true then (
   some true
  ) else (
   some (decide (64 < l1.length))
  )
 ) fun s =>
 if s = true then (
  some false
 ) else (
  Q2I (
   Q1h (Q58 N z l1) N 0
  ) fun _ =>
  Q2I (
   Q1h (Q59 N l1 z) N (0,0,0)
  ) fun _ =>
  some true
 )
def Q83 (N:Nat) (s:Int) (z:Int) (a2:ByteArray):Option (Bool) :=
 Qc (Q26 N s z a2) fun v4 =>
 some (!v4)
def Q2L (N:Nat) (l0:List V):Nat → Option (Nat ⊕ (Unit ⊕ Int)):=fun z =>
 if (decide (z < l0.length)) = true then (
  Qc (l0[z]?) fun a0 =>
  Qc (Q83 N a0.k a0.n a0.s) fun a1 =>
  if a1 = true then (
   some (.inr (.inr ((z:Nat):Int)))
  ) else (
   gd (z + 1 ≤ 9223372036854775807) <|
   some (.inl (z + 1))
  )
 ) else (
  some (.inr (.inl ()))
 )
def Q4o (N:Nat) (s:List V):Option (Int) :=
 Q2I (
  Q1h (Q2L N s) N 0
 ) fun _ =>
 some (-1)
def Q3x (N:Nat) (s:List V):Option (Bool) :=
 Qc (Q4o N s) fun z =>
 some (decide (z ≥ 0))
def Q7K (N:Nat) (s:Qz) (z:Int) (l0:List Ql):Option (Bool) :=
 if (decide (s.id ≤ z)) = true then (
  some true
 ) else (
  if (decide (s.id > 1099511627776)) = true then (
   some true
  ) else (
   if (decide (s.ty < 0)) = true then (
    some true
   ) else (
    if (decide (s.ty ≥ ((l0.length:Nat):Int))) = true then (
     some true
    ) else (
     gd (0 ≤ s.ty) <|
     Qc (l0[s.ty.toNat]?) fun a0 =>
     if (((s.args.length:Nat):Int) != a0.fields) = true then (
      some true
     ) else (
      Qc (Q3x N s.args) fun a1 =>
      some a1
     )
    )
   )
  )
 )
def Q46 (N:Nat) (l2:List Qz) (l0:List Ql):(Nat × Int) → Option ((Nat × Int) ⊕ (Unit ⊕ Bool)):=fun (s,a0) =>
 if (decide (s < l2.length)) = true then (
  Qc (l2[s]?) fun a1 =>
  Qc (Q7K N a1 a0 l0
  ) fun z =>
  if z = true then (
   some (.inr (.inr false))
  ) else (
   gd (s + 1 ≤ 9223372036854775807) <|
   some (.inl (s + 1,a1.id))
  )
 ) else (
  some (.inr (.inl ()))
 )
def Q77 (N:Nat) (s:List Ql) (_:List Qi) (z:List Qz):Option (Bool) :=
 Q2I (
  Q1h (Q46 N z s) N (0,0)
 ) fun _ =>
 some true
def Q4j (_:Nat) (s:Int):Option ((List Bool) × (List V)) :=
 Qc (
  if (decide (s < 0)) = true then (
   some true
  ) else (
   some (decide (s > 16))
  )
 ) fun z =>
 if z = true then (
  some ([],[])
 ) else (
  gd (0 ≤ s) <|
  gd (s.toNat ≤ 140737488355328) <|
  gd (0 ≤ s) <|
  gd (s.toNat ≤ 4398046511104) <|
  some (List.replicate s.toNat false,(List.replicate s.toNat (⟨0,0,(⟨#[]⟩ : ByteArray)⟩ : V)))
 )
def Q7J (_:Nat) (s:Int) (z:List Int) (_:List V) (l3:List Qv):Option (Unit) :=
 gd (l3.length + ([(⟨s,z⟩ : Qv)]).length ≤ 4398046511104) <|
 some ()
def Q97 (N:Nat) (s:List Int) (z:List V) (l2:List Qv) (a3:Int):Option (Unit) :=
 gd (s.length ≤ 17592186044416) <|
 gd (z.length ≤ 4398046511104) <|
 Qc (Q7J N a3 s z l2) fun _ =>
 some ()
def Q8d (N:Nat) (s:Int) (z:Int) (a2:ByteArray):Option (Int × Int × ByteArray × Nat) :=
 Qc (Q26 N s z a2) fun v5 =>
 if (!v5) = true then (
  some (0,0,(⟨#[]⟩ : ByteArray),2)
 ) else (
  some (s,z,a2,0)
 )
def Q95 (N:Nat) (_:Int) (a1:Int) (a2:Int) (a3:ByteArray) (_:Int) (_:Int) (_:List Qm):Option (Int × Int × ByteArray × Nat) :=
 Qc (Q8d N a1 a2 a3) fun (s,z,a6,a7) =>
 some (s,z,a6,a7)
def Q96 (N:Nat) (_:Int) (_:Int) (_:Int) (_:ByteArray) (a4:Int) (_:Int) (_:List Qm) (l7:List V):Option (Int × Int × ByteArray × Nat) :=
 Qc (
  if (decide (a4 < 0)) = true then (
   some true
  ) else (
   some (decide (a4 ≥ ((l7.length:Nat):Int)))
  )
 ) fun z =>
 if z = true then (
  some (0,0,(⟨#[]⟩ : ByteArray),2)
 ) else (
  gd (0 ≤ a4) <|
  Qc (l7[a4.toNat]?) fun a6 =>
  Qc (Q8d N a6.k a6.n a6.s) fun (a7,a8,a9,aA) =>
  some (a7,a8,a9,aA)
 )
def Q7y (_:Nat) (_:Int):Option (Unit) :=
 some ()
def Q64 (N:Nat) (s:Bool):Option (Int) :=
 if s = true then (
  Qc (Q7y N 1) fun _ =>
  some 1
 ) else (
  Qc (Q7y N 0) fun _ =>
  some 0
 )
def Q3h (_:Nat) (s:Int):Option (Unit ⊕ (Unit ⊕ (Unit ⊕ (Unit ⊕ (Unit ⊕ (Unit ⊕ (Unit ⊕ (Unit ⊕ (Unit ⊕ Unit))))))))) :=
 if (s == 1) = true then (
 some (.inl ())
 ) else (
 if (s == 2) = true then (
 some (.inr (.inl ()))
 ) else (
 if (s == 3) = true then (
 some (.inr (.inr (.inl ())))
 ) else (
 if (s == 4) = true then (
 some (.inr (.inr (.inr (.inl ()))))
 ) else (
 if (s == 7) = true then (
 some (.inr (.inr (.inr (.inr (.inl ())))))
 ) else (
 if (s == 8) = true then (
 some (.inr (.inr (.inr (.inr (.inr (.inl ()))))))
 ) else (
 if (s == 9) = true then (
 some (.inr (.inr (.inr (.inr (.inr (.inr (.inl ())))))))
 ) else (
 if (s == 10) = true then (
 some (.inr (.inr (.inr (.inr (.inr (.inr (.inr (.inl ()))))))))
 ) else (
 if (s == 11) = true then (
 some (.inr (.inr (.inr (.inr (.inr (.inr (.inr (.inr (.inl ())))))))))
 ) else (
 some (.inr (.inr (.inr (.inr (.inr (.inr (.inr (.inr (.inr ())))))))))
 )))))))))
def Qa3 (_:Nat) (_:Int) (_:Int):Option (Unit) :=
 some ()
def Qa4 (_:Nat) (_:Int) (_:Int):Option (Unit) :=
 some ()
def Q4R (_:Nat) (a0:Int) (a1:Int):Option (Int × Bool) :=
 Qc (
  if (decide (a0 < 0)) = true then (
   some (IntKind.wrap .u64 (0 - (IntKind.wrap .u64 a0)))
  ) else (
   some (IntKind.wrap .u64 a0)
  )
 ) fun s =>
 Qc (
  if (decide (a1 < 0)) = true then (
   some (IntKind.wrap .u64 (0 - (IntKind.wrap .u64 a1)))
  ) else (
   some (IntKind.wrap .u64 a1)
  )
 ) fun z =>
 gd (0 ≤ s ∧ s < 18446744073709551616) <|
 gd (0 ≤ z ∧ z < 18446744073709551616) <|
 if ((decide (a0 < 0)) != (decide (a1 < 0))) = true then (
  if (((s.toNat * z.toNat / 18446744073709551616:Nat):Int) == 0) = true then (
   some ((IntKind.wrap .i64 (IntKind.wrap .u64 (0 - ((s.toNat * z.toNat % 18446744073709551616:Nat):Int)))),(decide (((s.toNat * z.toNat % 18446744073709551616:Nat):Int) ≤ 9223372036854775808)))
  ) else (
   some ((IntKind.wrap .i64 (IntKind.wrap .u64 (0 - ((s.toNat * z.toNat % 18446744073709551616:Nat):Int)))),false)
  )
 ) else (
  if (((s.toNat * z.toNat / 18446744073709551616:Nat):Int) == 0) = true then (
   some ((IntKind.wrap .i64 ((s.toNat * z.toNat % 18446744073709551616:Nat):Int)),(decide (((s.toNat * z.toNat % 18446744073709551616:Nat):Int) < 9223372036854775808)))
  ) else (
   some ((IntKind.wrap .i64 ((s.toNat * z.toNat % 18446744073709551616:Nat):Int)),false)
  )
 )
def Qa5 (_:Nat) (_:Int) (_:Int):Option (Unit) :=
 some ()
def Q1Y (N:Nat) (s:Bool):Option (Int) :=
 Qc (Q64 N s) fun z =>
 some z
def Q8r (N:Nat) (z:Int) (a1:Int):Option (Int) :=
 Qc (Q1Y N (decide (z < a1))) fun s =>
 some s
def Q8s (N:Nat) (z:Int) (a1:Int):Option (Int) :=
 Qc (Q1Y N (decide (z ≤ a1))) fun s =>
 some s
def Q8t (N:Nat) (z:Int) (a1:Int):Option (Int) :=
 if (z != 0) = true then (
  Qc (Q1Y N (a1 != 0)) fun s =>
  some s
 ) else (
  Qc (Q1Y N false) fun s =>
  some s
 )
def Q8u (N:Nat) (z:Int) (a1:Int):Option (Int) :=
 if (z != 0) = true then (
  Qc (Q1Y N true) fun s =>
  some s
 ) else (
  Qc (Q1Y N (a1 != 0)) fun s =>
  some s
 )
def Q8v (N:Nat) (z:Int) (_:Int):Option (Int) :=
 Qc (Q1Y N (z == 0)) fun s =>
 some s
def Q78 (_:Nat) (z:Int):Option (Nat) :=
 Qc (
  if (z == 4) = true then (
   some true
  ) else (
   some (z == 11)
  )
 ) fun s =>
 if s = true then (
  some 1
 ) else (
  some 2
 )
def Q56 (N:Nat) (l1:List V) (a0:Nat) (a1:Bool):Option (Bool ⊕ ((Nat × Bool) ⊕ (Bool ⊕ (Nat × Int × Nat)))) :=
 Qc (l1[a0]?) fun z =>
 Qc (Q26 N z.k z.n z.s) fun a5 =>
 if (!a5) = true then (
  some (.inr (.inr (.inr (0,0,2))))
 ) else (
  if a1 = true then (
   some (.inl true)
  ) else (
   some (.inl (z.k == 2))
  )
 )
def Q2c (N:Nat) (l1:List V):(Nat × Bool) → Option ((Nat × Bool) ⊕ (Bool ⊕ (Nat × Int × Nat))):=fun (s,z) =>
 if (decide (s < l1.length)) = true then (
  Q2I (Q56 N l1 s z
  ) fun a0 =>
  gd (s + 1 ≤ 9223372036854775807) <|
  some (.inl (s + 1,a0))
 ) else (
  some (.inr (.inl z))
 )
def Q1i (N:Nat) (a0:Int) (s:V) (z:V):Option (Int × Bool) :=
 Qc (Q3h N a0) fun
 | .inl _=>(
 Qc (Qa3 N s.n z.n) fun _ =>
 some (IntKind.wrap .i64 (s.n + z.n),(decide ((IntKind.wrap .i64 (s.n + z.n)) < s.n)) == (decide (z.n < 0)))
 )
 | .inr (.inl _)=>(
 Qc (Qa4 N s.n z.n) fun _ =>
 some (IntKind.wrap .i64 (s.n - z.n),(decide ((IntKind.wrap .i64 (s.n - z.n)) > s.n)) == (decide (z.n < 0)))
 )
 | .inr (.inr (.inl _))=>(
 Qc (Q4R N s.n z.n) fun (a5,a6) =>
 some (a5,a6)
 )
 | .inr (.inr (.inr (.inl _)))=>(
 Qc (Qa5 N s.n z.n) fun _ =>
 some (IntKind.wrap .i64 (0 - s.n),s.n != -9223372036854775808)
 )
 | .inr (.inr (.inr (.inr (.inl _))))=>(
 Qc (Q8r N s.n z.n) fun a1 =>
 some (a1,true)
 )
 | .inr (.inr (.inr (.inr (.inr (.inl _)))))=>(
 Qc (Q8s N s.n z.n) fun a1 =>
 some (a1,true)
 )
 | .inr (.inr (.inr (.inr (.inr (.inr (.inl _))))))=>(
 Qc (Q8t N s.n z.n) fun a1 =>
 some (a1,true)
 )
 | .inr (.inr (.inr (.inr (.inr (.inr (.inr (.inl _)))))))=>(
 Qc (Q8u N s.n z.n) fun a1 =>
 some (a1,true)
 )
 | .inr (.inr (.inr (.inr (.inr (.inr (.inr (.inr (.inl _))))))))=>(
 Qc (Q8v N s.n z.n) fun a1 =>
 some (a1,true)
 )
 | .inr (.inr (.inr (.inr (.inr (.inr (.inr (.inr (.inr _))))))))=>(
 none
 )
def Q35 (N:Nat) (a0:Int) (l1:List V):Option (Nat × Int × Nat) :=
 Qc (Q78 N a0
 ) fun s =>
 Qc (
  if (decide (a0 < 1)) = true then (
   some true
  ) else (
   if (decide (a0 > 11)) = true then (
    some true
   ) else (
    some (l1.length != s)
   )
  )
 ) fun a1 =>
 if a1 = true then (
  some (0,0,2)
 ) else (
  Q2I (
   Q1h (Q2c N l1) N (0,false)
  ) fun a6 =>
  Qc (l1[0]?) fun a7 =>
  gd (-9223372036854775808 ≤ ((s:Nat):Int) - 1 ∧ ((s:Nat):Int) - 1 ≤ 9223372036854775807) <|
  gd (0 ≤ ((s:Nat):Int) - 1) <|
  Qc (l1[(((s:Nat):Int) - 1).toNat]?) fun a8 =>
  if (a0 == 5) = true then (
   Qc (Q64 N (decide (a7 = a8))) fun aB =>
   some (1,aB,0)
  ) else (
   if (a0 == 6) = true then (
    Qc (Q64 N (!decide (a7 = a8))) fun aC =>
    some (1,aC,0)
   ) else (
    if a6 = true then (
     some (0,0,301)
    ) else (
     Qc (Q1i N a0 a7 a8
     ) fun (z,a5) =>
     if (!a5) = true then (
      some (0,0,300)
     ) else (
      Qc (Q7y N z) fun _ =>
      some (1,z,0)
     )
    )
   )
  )
 )
def Q5a (_:Nat) (l1:List Qm) (rc:Int → Int → Int → ByteArray → Int → Int → (List Qm) → (List V) → Option (Int × Int × ByteArray × Nat)) (l0:List V):(Nat × (List V)) → Option ((Nat × (List V)) ⊕ ((List V) ⊕ ((List V) × Nat))):=fun (z,a0) =>
 if (decide (z < l1.length)) = true then (
  Qc (l1[z]?) fun a1 =>
  Qc (rc a1.kind a1.value.k a1.value.n a1.value.s a1.var a1.op a1.kids l0) fun (a5,a6,a7,a8) =>
  if (a8 != 0) = true then (
   some (.inr (.inr ([],a8)))
  ) else (
   gd (a0.length + ([(⟨a5,a6,a7⟩ : V)]).length ≤ 4398046511104) <|
   gd (z + 1 ≤ 9223372036854775807) <|
   some (.inl (z + 1,(a0 ++ ([(⟨a5,a6,a7⟩ : V)]))))
  )
 ) else (
  some (.inr (.inl a0))
 )
def Q7W (N:Nat) (rc:Int → Int → Int → ByteArray → Int → Int → (List Qm) → (List V) → Option (Int × Int × ByteArray × Nat)) (z:List V) (l1:List Qm):Option ((List V) × Nat) :=
 Q2I (
  Q1h (Q5a N l1 rc z) N (0,[])
 ) fun s =>
 some (s,0)
def Q6j (N:Nat) (rc:Int → Int → Int → ByteArray → Int → Int → (List Qm) → (List V) → Option (Int × Int × ByteArray × Nat)) (l0:List V) (_:Int) (_:Int) (_:Int) (_:ByteArray) (_:Int) (a6:Int) (l7:List Qm):Option (Nat × Int × Nat) :=
 Qc (Q7W N rc l0 l7) fun (z,s) =>
 if (s != 0) = true then (
  some (0,0,s)
 ) else (
  Qc (Q35 N a6 z) fun (a0,a7,a8) =>
  some (a0,a7,a8)
 )
def Q55 (N:Nat) (rc:Int → Int → Int → ByteArray → Int → Int → (List Qm) → (List V) → Option (Int × Int × ByteArray × Nat)) (a0:Int) (a1:Int) (a2:Int) (a3:ByteArray) (a4:Int) (a5:Int) (l6:List Qm) (l7:List V):Option (Int × Int × ByteArray × Nat) :=
 if (a0 == 1) = true then (
 Qc (Q95 N a0 a1 a2 a3 a4 a5 l6) fun (s,z,a6,a7) =>
 some (s,z,a6,a7)
 ) else (
 if (a0 == 2) = true then (
 Qc (Q96 N a0 a1 a2 a3 a4 a5 l6 l7) fun (s,z,a6,a7) =>
 some (s,z,a6,a7)
 ) else (
 if (a0 == 3) = true then (
 Qc (Q6j N rc l7 a0 a1 a2 a3 a4 a5 l6) fun (s,z,a6) =>
 some (((s:Nat):Int),z,(⟨#[]⟩ : ByteArray),a6)
 ) else (
 if (!false) = true then (
  some (0,0,(⟨#[]⟩ : ByteArray),2)
 ) else (
  none
 )
 )))
def Q2j:Nat → Int → Int → Int → ByteArray → Int → Int → (List Qm) → (List V) → Option (Int × Int × ByteArray × Nat)
 | 0=>fun _=>fun _=>fun _=>fun _=>fun _=>fun _=>fun _=>fun _=>none
 | N + 1=>Q55 N (Q2j N)
def Q2K (_:Nat) (l0:List Bool) (l1:List V):Nat → Option (Nat ⊕ (Unit ⊕ Bool)):=fun s =>
 if (decide (s < l0.length)) = true then (
  Qc (l0[s]?) fun a0 =>
  Qc (
   if (!a0) = true then (
    Qc (l1[s]?) fun a1 =>
    some (!decide (a1 = (⟨0,0,(⟨#[]⟩ : ByteArray)⟩ : V)))
   ) else (
    some false
   )
  ) fun z =>
  if z = true then (
   some (.inr (.inr false))
  ) else (
   gd (s + 1 ≤ 9223372036854775807) <|
   some (.inl (s + 1))
  )
 ) else (
  some (.inr (.inl ()))
 )
def Q5h (N:Nat) (s:List Bool) (z:List V):Option (Bool) :=
 if (s.length != z.length) = true then (
  some false
 ) else (
  Q2I (
   Q1h (Q2K N s z) N 0
  ) fun _ =>
  some true
 )
def Q9P (_:Nat) (s:List Bool) (z:List V):Option (Unit) :=
 gd (s.length ≤ 140737488355328) <|
 gd (z.length ≤ 4398046511104) <|
 some ()
def Q4k (_:Nat) (s:Bool) (a3:Int) (z:List Bool) (l1:List V) (a7:Int) (a8:Int) (a9:ByteArray):Option ((List Bool) × (List V)) :=
 if s = true then (
  gd (0 ≤ a3) <|
  Qc (z[a3.toNat]?) fun _ =>
  gd (0 ≤ a3) <|
  Qc (l1[a3.toNat]?) fun _ =>
  some (z.set a3.toNat true,(l1.set a3.toNat (⟨a7,a8,a9⟩ : V)))
 ) else (
  some (z,l1)
 )
def Q41 (N:Nat) (l0:List Bool) (l1:List V) (a2:Int) (a3:Int) (a4:Int) (a5:Int) (a6:ByteArray) (a7:Int) (a8:Int) (a9:ByteArray):Option (Bool × (List Bool) × (List V)) :=
 Qc (
  if (decide (a3 ≥ 0)) = true then (
   some (decide (a3 < ((l0.length:Nat):Int)))
  ) else (
   some false
  )
 ) fun s =>
 if (a2 == 1) = true then (
  some (true,l0,l1)
 ) else (
  if (a2 == 4) = true then (
   some ((decide ((⟨a4,a5,a6⟩ : V) = (⟨a7,a8,a9⟩ : V))),l0,l1)
  ) else (
   if (a2 == 3) = true then (
    if s = true then (
     gd (0 ≤ a3) <|
     Qc (l0[a3.toNat]?) fun aE =>
     if aE = true then (
      gd (0 ≤ a3) <|
      Qc (l1[a3.toNat]?) fun aF =>
      some ((decide (aF = (⟨a7,a8,a9⟩ : V))),l0,l1)
     ) else (
      some (false,l0,l1)
     )
    ) else (
     some (false,l0,l1)
    )
   ) else (
    if (a2 == 2) = true then (
     Qc (Q4k N s a3 l0 l1 a7 a8 a9
     ) fun (z,a0) =>
     some (s,z,a0)
    ) else (
     some (false,l0,l1)
    )
   )
  )
 )
def Q6J (N:Nat) (s:Bool) (a1:Int) (z:Int) (l2:List Q4O) (a0:List V) (a5:List Bool) (a6:List V):Option (Bool) :=
 if (!s) = true then (
  some true
 ) else (
  if (a1 != z) = true then (
   some true
  ) else (
   if (l2.length != a0.length) = true then (
    some true
   ) else (
    Qc (Q5h N a5 a6) fun a7 =>
    some (!a7)
   )
  )
 )
def Q3l (N:Nat) (l2:List Q4O) (aA:List V):(Nat × (List Bool) × (List V)) → Option ((Nat × (List Bool) × (List V)) ⊕ (((List Bool) × (List V)) ⊕ ((List Bool) × (List V) × Bool))):=fun (z,a0,a1) =>
 if (decide (z < l2.length)) = true then (
  Qc (l2[z]?) fun a5 =>
  Qc (aA[z]?) fun a6 =>
  Qc (Q41 N a0 a1 a5.k a5.var a5.v.k a5.v.n a5.v.s a6.k a6.n a6.s) fun (a7,a8,a9) =>
  if (!a7) = true then (
   some (.inr (.inr ([],[],false)))
  ) else (
   gd (z + 1 ≤ 9223372036854775807) <|
   some (.inl (z + 1,a8,a9))
  )
 ) else (
  some (.inr (.inl (a0,a1)))
 )
def Q3U (N:Nat) (a0:Int) (a1:Int) (l2:List Q4O) (_:Int) (_:Int) (_:Int) (_:ByteArray) (_:Int) (_:Int) (_:List Qm) (_:Int) (aE:Int) (aD:List V) (aA:List Bool) (aB:List V):Option ((List Bool) × (List V) × Bool) :=
 Qc (
  if (a0 == 1) = true then (
   some true
  ) else (
   some (a0 == 2)
  )
 ) fun aC =>
 Qc (Q6J N aC a1 aE l2 aD aA aB
 ) fun a9 =>
 if a9 = true then (
  some ([],[],false)
 ) else (
  Qc (Q9P N aA aB) fun _ =>
  Q2I (
   Q1h (Q3l N l2 aD) N (0,aA,aB)
  ) fun (s,z) =>
  some (s,z,true)
 )
def Q7L (N:Nat) (a0:Int) (a1:Int) (l2:List V) (a3:Int) (a4:Int) (l5:List Q4O) (a6:Int) (a7:Int) (a8:Int) (a9:ByteArray) (z:Int) (a5:Int) (aA:List Qm) (aB:List Bool) (aC:List V):Option (Bool) :=
 Qc (Q3U N a3 a4 l5 a6 a7 a8 a9 z a5 aA a0 a1 l2 aB aC) fun (_,_,s) =>
 some s
def Q2U (N:Nat) (l0:List Qz) (a1:Int) (a2:Int) (l3:List Q4O) (a4:Int) (a5:Int) (a6:Int) (a7:ByteArray) (a8:Int) (a9:Int) (a0:List Qm) (aA:List Bool) (aB:List V):Nat → Option (Nat ⊕ (Unit ⊕ Int)):=fun s =>
 if (decide (s < l0.length)) = true then (
  Qc (l0[s]?) fun z =>
  Qc (Q7L N z.id z.ty z.args a1 a2 l3 a4 a5 a6 a7 a8 a9 a0 aA aB) fun aC =>
  if aC = true then (
   some (.inr (.inr ((s:Nat):Int)))
  ) else (
   gd (s + 1 ≤ 9223372036854775807) <|
   some (.inl (s + 1))
  )
 ) else (
  some (.inr (.inl ()))
 )
def Q4G (N:Nat) (l0:List Qz) (a1:Int) (a2:Int) (l3:List Q4O) (a4:Int) (a5:Int) (a6:Int) (a7:ByteArray) (a8:Int) (a9:Int) (s:List Qm) (z:List Bool) (a0:List V):Option (Int) :=
 Q2I (
  Q1h (Q2U N l0 a1 a2 l3 a4 a5 a6 a7 a8 a9 s z a0) N 0
 ) fun _ =>
 some (-1)
def Q3M (N:Nat) (l0:List Qz) (a1:Int) (a2:Int) (l3:List Q4O) (a4:Int) (a5:Int) (a6:Int) (a7:ByteArray) (a8:Int) (a9:Int) (s:List Qm) (z:List Bool) (a0:List V):Option (Bool) :=
 Qc (Q4G N l0 a1 a2 l3 a4 a5 a6 a7 a8 a9 s z a0) fun v7 =>
 some (decide (v7 ≥ 0))
def Q5i (N:Nat) (a0:Int) (a1:Int) (l2:List Q4O) (a3:Int) (a4:Int) (a5:Int) (a6:ByteArray) (a7:Int) (a8:Int) (l9:List Qm) (s:List Bool) (z:List V) (a9:List Qz):Option (Bool) :=
 Qc (Q3M N a9 a0 a1 l2 a3 a4 a5 a6 a7 a8 l9 s z) fun v9 =>
 some v9
def Q5O (_:Nat) (z:Int) (s:Int):Option (Int ⊕ ((Int × (List Qv)) ⊕ Unit)) :=
 if (decide (z > 0)) = true then (
  gd (-9223372036854775808 ≤ s - 1 ∧ s - 1 ≤ 9223372036854775807) <|
  if (decide ((s - 1) < 0)) = true then (
   some (.inr (.inr ()))
  ) else (
   some (.inl (s - 1))
  )
 ) else (
  some (.inl s)
 )
def Q4q (N:Nat) (l7:List Qz) (aC:Nat) (a0:QL) (l0:List Bool) (l1:List V) (a5:List Bool) (a6:List V) (a7:List Int) (a1:Int) (z:List Qv) (l8:List Int) (aD:Int) (rc:(List Bool) → (List V) → ByteArray → Int → Int → (List QL) → (List Q19) → (List Qz) → (List Int) → Int → (List Qv) → Int → Int → Option ((Int × (List Qv)) ⊕ Unit)) (a2:ByteArray) (a3:Int) (a4:Int) (l5:List QL) (l6:List Q19) (aF:Int):Option (((List Bool) × (List V) × (List Int) × Int × (List Qv)) ⊕ ((Nat × (List Bool) × (List V) × (List Int) × Int × (List Qv)) ⊕ (((List Bool) × (List V) × (List Int) × Int × (List Qv)) ⊕ ((Int × (List Qv)) ⊕ Unit)))) :=
 Qc (l7[aC]?) fun a8 =>
 Qc (Q3U N a0.kind a0.type a0.args a0.test.kind a0.test.value.k a0.test.value.n a0.test.value.s a0.test.var a0.test.op a0.test.kids a8.id a8.ty a8.args l0 l1) fun (a9,aA,aE) =>
 if (!aE) = true then (
  some (.inl (a5,a6,a7,a1,z))
 ) else (
  gd (l8.length ≤ l8.length ∧ l8.length ≤ l8.length) <|
  gd ((l8.take l8.length).length + ([a8.id] : List Int).length ≤ 17592186044416) <|
  gd (-9223372036854775808 ≤ aD + 1 ∧ aD + 1 ≤ 9223372036854775807) <|
  Qc (rc a9 aA a2 a3 a4 l5 l6 l7 ((l8.take l8.length) ++ [a8.id]) a1 z aF (aD + 1)) fun
  | .inl (v107,v107_1)=>(
  some (.inl (a9,aA,(l8.take l8.length) ++ [a8.id],v107,v107_1))
  )
  | .inr _=>(
  some (.inr (.inr (.inr (.inr ()))))
  )
 )
def Q24 (N:Nat) (l7:List Qz) (aC:QL) (l0:List Bool) (l1:List V) (l8:List Int) (aD:Int) (rc:(List Bool) → (List V) → ByteArray → Int → Int → (List QL) → (List Q19) → (List Qz) → (List Int) → Int → (List Qv) → Int → Int → Option ((Int × (List Qv)) ⊕ Unit)) (a2:ByteArray) (a3:Int) (a4:Int) (l5:List QL) (l6:List Q19) (aE:Int):(Nat × (List Bool) × (List V) × (List Int) × Int × (List Qv)) → Option ((Nat × (List Bool) × (List V) × (List Int) × Int × (List Qv)) ⊕ (((List Bool) × (List V) × (List Int) × Int × (List Qv)) ⊕ ((Int × (List Qv)) ⊕ Unit))):=fun (a6,a0,a1,a5,a7,s) =>
 if (decide (a6 < l7.length)) = true then (
  Q2I (Q4q N l7 a6 aC l0 l1 a0 a1 a5 a7 s l8 aD rc a2 a3 a4 l5 l6 aE
  ) fun (a8,a9,aA,aB,z) =>
  gd (a6 + 1 ≤ 9223372036854775807) <|
  some (.inl (a6 + 1,a8,a9,aA,aB,z))
 ) else (
  some (.inr (.inl (a0,a1,a5,a7,s)))
 )
def Q2s (N:Nat) (rc:(List Bool) → (List V) → ByteArray → Int → Int → (List QL) → (List Q19) → (List Qz) → (List Int) → Int → (List Qv) → Int → Int → Option ((Int × (List Qv)) ⊕ Unit)) (l0:List Bool) (l1:List V) (a2:ByteArray) (a3:Int) (a4:Int) (l5:List QL) (l6:List Q19) (l7:List Qz) (l8:List Int) (a9:Int) (a6:List Qv) (a8:Int) (a5:Int):Option ((Int × (List Qv)) ⊕ Unit) :=
 Q2I (Q5O N a5 a9
 ) fun z =>
 if (a5 == ((l5.length:Nat):Int)) = true then (
  Qc (Q97 N l8 l1 a6 a8) fun _ =>
  some (.inl (z,(a6 ++ [(⟨a8,l8⟩ : Qv)])))
 ) else (
  gd (0 ≤ a5) <|
  Qc (l5[a5.toNat]?) fun a1 =>
  if (a1.kind == 3) = true then (
   Qc (Q2j N a1.test.kind a1.test.value.k a1.test.value.n a1.test.value.s a1.test.var a1.test.op a1.test.kids l1) fun (aB,aC,_,aD) =>
   Qc (
    if (aD == 0) = true then (
     if (aB == 1) = true then (
      some (aC != 0)
     ) else (
      some false
     )
    ) else (
     some false
    )
   ) fun aA =>
   if aA = true then (
    gd (-9223372036854775808 ≤ a5 + 1 ∧ a5 + 1 ≤ 9223372036854775807) <|
    Qc (rc l0 l1 a2 a3 a4 l5 l6 l7 l8 z a6 a8 (a5 + 1)) fun
    | .inl (v145,v145_1)=>(
    some (.inl (v145,v145_1))
    )
    | .inr _=>(
    some (.inr ())
    )
   ) else (
    some (.inl (z,a6))
   )
  ) else (
   if (a1.kind == 2) = true then (
    Qc (Q5i N a1.kind a1.type a1.args a1.test.kind a1.test.value.k a1.test.value.n a1.test.value.s a1.test.var a1.test.op a1.test.kids l0 l1 l7) fun aL =>
    if (!aL) = true then (
     gd (-9223372036854775808 ≤ a5 + 1 ∧ a5 + 1 ≤ 9223372036854775807) <|
     Qc (rc l0 l1 a2 a3 a4 l5 l6 l7 l8 z a6 a8 (a5 + 1)) fun
     | .inl (v162,v162_1)=>(
     some (.inl (v162,v162_1))
     )
     | .inr _=>(
     some (.inr ())
     )
    ) else (
     some (.inl (z,a6))
    )
   ) else (
    Q2I (
     Q1h (Q24 N l7 a1 l0 l1 l8 a5 rc a2 a3 a4 l5 l6 a8) N (0,l0,l1,l8,z,a6)
    ) fun (_,_,_,a7,a0) =>
    some (.inl (a7,a0))
   )
  )
 )
def Q2k:Nat → (List Bool) → (List V) → ByteArray → Int → Int → (List QL) → (List Q19) → (List Qz) → (List Int) → Int → (List Qv) → Int → Int → Option ((Int × (List Qv)) ⊕ Unit)
 | 0=>fun _=>fun _=>fun _=>fun _=>fun _=>fun _=>fun _=>fun _=>fun _=>fun _=>fun _=>fun _=>fun _=>none
 | N + 1=>Q2s N (Q2k N)
def Q3H (N:Nat) (l1:List Qi) (l2:List Qz):(Nat × Int × (List Qv)) → Option ((Nat × Int × (List Qv)) ⊕ ((List Qv) ⊕ (Unit ⊕ (List Qv)))):=fun (z,a6,s) =>
 if (decide (z < l1.length)) = true then (
  Qc (l1[z]?) fun a0 =>
  Qc (Q4j N a0.vars) fun (a1,a5) =>
  Qc (Q2k N a1 a5 a0.name a0.salience a0.vars a0.conds a0.acts l2 ([] : List Int) a6 s ((z:Nat):Int) 0) fun
  | .inl (v33,v33_1)=>(
  gd (z + 1 ≤ 9223372036854775807) <|
  some (.inl (z + 1,v33,v33_1))
  )
  | .inr _=>(
  some (.inr (.inr (.inl ())))
  )
 ) else (
  some (.inr (.inl s))
 )
def Q7t (N:Nat) (_:List Ql) (z:List Qi) (l2:List Qz) (l3:List Qv):Option (Unit ⊕ (List Qv)) :=
 Q2I (
  Q1h (Q3H N z l2) N (0,4096,l3)
 ) fun s =>
 some (.inr s)
def Q5g (N:Nat) (z:List Ql) (l1:List Qi) (l2:List Qz):Option ((List Qv) × Nat) :=
 Qc (
  Qc (Q75 N z l1) fun v9 =>
  if (!v9) = true then (
   some true
  ) else (
   Qc (Q77 N z l1 l2) fun a1 =>
   some (!a1)
  )
 ) fun s =>
 if s = true then (
  some ([],2)
 ) else (
  Qc (Q7t N z l1 l2 []) fun
  | .inl _=>(
  some ([],204)
  )
  | .inr v20=>(
  some (v20,0)
  )
 )
def Q82 (_:Nat) (_:Int):Option (Unit) :=
 some ()
def Q8p (N:Nat) (z:Int) (s:Int):Option (Int) :=
 Qc (Q82 N z) fun _ =>
 Qc (Q82 N s) fun _ =>
 if (z != z) = true then (
  if (s != s) = true then (
   some 0
  ) else (
   some (-1)
  )
 ) else (
  if (s != s) = true then (
   some 1
  ) else (
   if (decide (z < s)) = true then (
    some (-1)
   ) else (
    if (decide (z > s)) = true then (
     some 1
    ) else (
     some 0
    )
   )
  )
 )
def Q8q (N:Nat) (s:Int) (_:Int) (_:List V) (a3:Int):Option (Int) :=
 Qc (Q8p N s a3) fun z =>
 some z
def Q3K (N:Nat) (l0:List Qz) (a1:Int):(Int × Int) → Option ((Int × Int) ⊕ Int):=fun (s,z) =>
 if (decide (z < s)) = true then (
  gd (-9223372036854775808 ≤ z + s ∧ z + s ≤ 9223372036854775807) <|
  gd (0 ≤ IntKind.wrap .i64 (Int.fdiv (IntKind.wrap .u64 (z + s)) (2 ^ (1)))) <|
  Qc (l0[(IntKind.wrap .i64 (Int.fdiv (IntKind.wrap .u64 (z + s)) (2 ^ (1)))).toNat]?) fun a0 =>
  Qc (Q8q N a0.id a0.ty a0.args a1) fun a5 =>
  if (decide (a5 < 0)) = true then (
   gd (-9223372036854775808 ≤ (IntKind.wrap .i64 (Int.fdiv (IntKind.wrap .u64 (z + s)) (2 ^ (1)))) + 1 ∧ (IntKind.wrap .i64 (Int.fdiv (IntKind.wrap .u64 (z + s)) (2 ^ (1)))) + 1 ≤ 9223372036854775807) <|
   some (.inl (s,(IntKind.wrap .i64 (Int.fdiv (IntKind.wrap .u64 (z + s)) (2 ^ (1)))) + 1))
  ) else (
   some (.inl (IntKind.wrap .i64 (Int.fdiv (IntKind.wrap .u64 (z + s)) (2 ^ (1))),z))
  )
 ) else (
  some (.inr z)
 )
def Q4z (N:Nat) (l0:List Qz) (a1:Int):Option (Int × Bool) :=
 Qc (
  Q1h (Q3K N l0 a1) N (((l0.length:Nat):Int),0)
 ) fun s =>
 if (decide (s < ((l0.length:Nat):Int))) = true then (
  gd (0 ≤ s) <|
  Qc (l0[s.toNat]?) fun z =>
  Qc (Q8q N z.id z.ty z.args a1) fun a5 =>
  some (s,a5 == 0)
 ) else (
  some (s,false)
 )
def QbX (N:Nat) (l0:List Ql) (s:List Qi) (l4:List Qz) (a2:Int):Option (Bool) :=
 Qc (Q75 N l0 s) fun z =>
 if (!z) = true then (
  some true
 ) else (
  Qc (Q77 N l0 s l4) fun a0 =>
  if (!a0) = true then (
   some true
  ) else (
   if (decide (a2 < 0)) = true then (
    some true
   ) else (
    some (decide (a2 ≥ ((s.length:Nat):Int)))
   )
  )
 )
def QbY (N:Nat) (aI:Qi) (a8:Nat) (a0:List V) (a5:Nat) (a1:List Bool) (l4:List Qz) (l3:List Int):Option ((Nat × (List Bool) × (List V)) ⊕ ((Nat × Nat × (List Bool) × (List V)) ⊕ ((Nat × (List Bool) × (List V)) ⊕ ((List V) × Bool)))) :=
 Qc (aI.conds[a8]?) fun z =>
 if (z.kind == 3) = true then (
  Qc (Q2j N z.test.kind z.test.value.k z.test.value.n z.test.value.s z.test.var z.test.op z.test.kids a0) fun (a9,aA,_,aB) =>
  Qc (
   if (aB != 0) = true then (
    some true
   ) else (
    if (a9 != 1) = true then (
     some true
    ) else (
     some (aA == 0)
    )
   )
  ) fun a6 =>
  if a6 = true then (
   some (.inr (.inr (.inr ([],false))))
  ) else (
   some (.inl (a5,a1,a0))
  )
 ) else (
  if (z.kind == 2) = true then (
   Qc (Q5i N z.kind z.type z.args z.test.kind z.test.value.k z.test.value.n z.test.value.s z.test.var z.test.op z.test.kids a1 a0 l4) fun aH =>
   if aH = true then (
    some (.inr (.inr (.inr ([],false))))
   ) else (
    some (.inl (a5,a1,a0))
   )
  ) else (
   if (decide (l3.length ≤ a5)) = true then (
    some (.inr (.inr (.inr ([],false))))
   ) else (
    Qc (l3[a5]?) fun aL =>
    Qc (Q4z N l4 aL) fun (a7,aC) =>
    if (!aC) = true then (
     some (.inr (.inr (.inr ([],false))))
    ) else (
     gd (0 ≤ a7) <|
     Qc (l4[a7.toNat]?) fun aD =>
     Qc (Q3U N z.kind z.type z.args z.test.kind z.test.value.k z.test.value.n z.test.value.s z.test.var z.test.op z.test.kids aD.id aD.ty aD.args a1 a0) fun (aE,aF,aG) =>
     if (!aG) = true then (
      some (.inr (.inr (.inr ([],false))))
     ) else (
      gd (a5 + 1 ≤ 9223372036854775807) <|
      some (.inl (a5 + 1,aE,aF))
     )
    )
   )
  )
 )
def Q9A (N:Nat) (a8:Qi) (l4:List Qz) (l3:List Int):(Nat × Nat × (List Bool) × (List V)) → Option ((Nat × Nat × (List Bool) × (List V)) ⊕ ((Nat × (List Bool) × (List V)) ⊕ ((List V) × Bool))):=fun (a0,a6,s,z) =>
 if (decide (a0 < a8.conds.length)) = true then (
  Q2I (QbY N a8 a0 z a6 s l4 l3
  ) fun (a7,a1,a5) =>
  gd (a0 + 1 ≤ 9223372036854775807) <|
  some (.inl (a0 + 1,a7,a1,a5))
 ) else (
  some (.inr (.inl (a6,s,z)))
 )
def Qbu (N:Nat) (l0:List Ql) (l1:List Qi) (a2:Int) (l3:List Int) (l4:List Qz):Option ((List V) × Bool) :=
 Qc (QbX N l0 l1 l4 a2
 ) fun z =>
 if z = true then (
  some ([],false)
 ) else (
  gd (0 ≤ a2) <|
  Qc (l1[a2.toNat]?) fun a7 =>
  Qc (Q4j N a7.vars) fun (a5,a6) =>
  Q2I (
   Q1h (Q9A N a7 l4 l3) N (0,0,a5,a6)
  ) fun (a0,_,s) =>
  if (decide (a0 < l3.length)) = true then (
   some ([],false)
  ) else (
   some (s,true)
  )
 )
def Q5u (N:Nat):Option (Bool) :=
 Qc (Q4D N) fun (a7,a8) =>
 Qc (Q3n N 1 1 1) fun _ =>
 Qc (Q3n N 2 1 2) fun _ =>
 Qc (Q5g N a7 a8 [(⟨1,0,[(⟨1,1,(⟨#[]⟩ : ByteArray)⟩ : V),(⟨1,1,(⟨#[]⟩ : ByteArray)⟩ : V)]⟩ : Qz),(⟨2,0,[(⟨1,1,(⟨#[]⟩ : ByteArray)⟩ : V),(⟨1,2,(⟨#[]⟩ : ByteArray)⟩ : V)]⟩ : Qz)]) fun (s,a0) =>
 gd ((a0 != 0) = false) <|
 gd ((s.length != 2) = false) <|
 Qc (s[1]?) fun aA =>
 gd ((aA.ids.length != 2) = false) <|
 Qc (s[1]?) fun aB =>
 Qc (aB.ids[1]?) fun aC =>
 gd ((aC != 2) = false) <|
 Qc (Q4D N) fun (a1,a5) =>
 Qc (s[1]?) fun a9 =>
 Qc (Q3n N 1 1 1) fun _ =>
 Qc (Q3n N 2 1 2) fun _ =>
 Qc (Qbu N a1 a5 a9.rule a9.ids [(⟨1,0,[(⟨1,1,(⟨#[]⟩ : ByteArray)⟩ : V),(⟨1,1,(⟨#[]⟩ : ByteArray)⟩ : V)]⟩ : Qz),(⟨2,0,[(⟨1,1,(⟨#[]⟩ : ByteArray)⟩ : V),(⟨1,2,(⟨#[]⟩ : ByteArray)⟩ : V)]⟩ : Qz)]) fun (z,a6) =>
 gd ((a6) = true) <|
 gd ((z.length == 2) = true) <|
 Qc (z[0]?) fun aD =>
 gd ((aD.n == 1) = true) <|
 Qc (z[1]?) fun aE =>
 some (aE.n == 2)
def Q25 (_:Nat) (l0:List Qm) (a1:Int) (rc:(List Qm) → Int → Option (Int)):(Nat × Int) → Option ((Nat × Int) ⊕ Int):=fun (z,s) =>
 Qc (
  if (decide (z < l0.length)) = true then (
   some (decide (s ≤ a1))
  ) else (
   some false
  )
 ) fun a0 =>
 if a0 = true then (
  gd (-9223372036854775808 ≤ s + 1 ∧ s + 1 ≤ 9223372036854775807) <|
  Qc (l0[z]?) fun a7 =>
  gd (-9223372036854775808 ≤ a1 - s ∧ a1 - s ≤ 9223372036854775807) <|
  gd (-9223372036854775808 ≤ (a1 - s) - 1 ∧ (a1 - s) - 1 ≤ 9223372036854775807) <|
  Qc (rc a7.kids ((a1 - s) - 1)) fun a5 =>
  gd (-9223372036854775808 ≤ (s + 1) + a5 ∧ (s + 1) + a5 ≤ 9223372036854775807) <|
  gd (z + 1 ≤ 9223372036854775807) <|
  some (.inl (z + 1,(s + 1) + a5))
 ) else (
  some (.inr s)
 )
def Q2v (N:Nat) (rc:(List Qm) → Int → Option (Int)) (l0:List Qm) (z:Int):Option (Int) :=
 Qc (
  Q1h (Q25 N l0 z rc) N (0,0)
 ) fun s =>
 gd (-9223372036854775808 ≤ z + 1 ∧ z + 1 ≤ 9223372036854775807) <|
 some (minI s (z + 1))
def Q1R:Nat → (List Qm) → Int → Option (Int)
 | 0=>fun _=>fun _=>none
 | N + 1=>Q2v N (Q1R N)
def Q2D (N:Nat) (a5:Qi):(Nat × Int) → Option ((Nat × Int) ⊕ Int):=fun (z,s) =>
 Qc (
  if (decide (z < a5.conds.length)) = true then (
   some (decide (s < 400))
  ) else (
   some false
  )
 ) fun a1 =>
 if a1 = true then (
  Qc (a5.conds[z]?) fun a0 =>
  gd (-9223372036854775808 ≤ s + ((a0.args.length:Nat):Int) ∧ s + ((a0.args.length:Nat):Int) ≤ 9223372036854775807) <|
  Qc (a5.conds[z]?) fun a7 =>
  Qc (Q1R N [a7.test] 400) fun a6 =>
  gd (-9223372036854775808 ≤ (s + ((a0.args.length:Nat):Int)) + a6 ∧ (s + ((a0.args.length:Nat):Int)) + a6 ≤ 9223372036854775807) <|
  gd (z + 1 ≤ 9223372036854775807) <|
  some (.inl (z + 1,((s + ((a0.args.length:Nat):Int)) + a6)))
 ) else (
  some (.inr s)
 )
def Q2E (N:Nat) (a5:Qi):(Nat × Int) → Option ((Nat × Int) ⊕ Int):=fun (z,s) =>
 Qc (
  if (decide (z < a5.acts.length)) = true then (
   some (decide (s < 400))
  ) else (
   some false
  )
 ) fun a0 =>
 if a0 = true then (
  Qc (a5.acts[z]?) fun a6 =>
  Qc (Q1R N a6.exprs 400) fun a1 =>
  gd (-9223372036854775808 ≤ s + a1 ∧ s + a1 ≤ 9223372036854775807) <|
  gd (z + 1 ≤ 9223372036854775807) <|
  some (.inl (z + 1,s + a1))
 ) else (
  some (.inr s)
 )
def Q5Y (N:Nat) (l1:List Qi) (a1:Nat) (z:Int):Option (Int) :=
 Qc (l1[a1]?) fun s =>
 gd (-9223372036854775808 ≤ z + ((s.conds.length:Nat):Int) ∧ z + ((s.conds.length:Nat):Int) ≤ 9223372036854775807) <|
 gd (-9223372036854775808 ≤ (z + ((s.conds.length:Nat):Int)) + ((s.acts.length:Nat):Int) ∧ (z + ((s.conds.length:Nat):Int)) + ((s.acts.length:Nat):Int) ≤ 9223372036854775807) <|
 Qc (
  Q1h (Q2D N s) N (0,((z + ((s.conds.length:Nat):Int)) + ((s.acts.length:Nat):Int)))
 ) fun a0 =>
 Q1h (Q2E N s) N (0,a0)
def Q2C (N:Nat) (l1:List Qi):(Nat × Int) → Option ((Nat × Int) ⊕ Int):=fun (s,z) =>
 Qc (
  if (decide (s < l1.length)) = true then (
   some (decide (z < 400))
  ) else (
   some false
  )
 ) fun a0 =>
 if a0 = true then (
  Qc (Q5Y N l1 s z
  ) fun a1 =>
  gd (s + 1 ≤ 9223372036854775807) <|
  some (.inl (s + 1,a1))
 ) else (
  some (.inr z)
 )
def Q2G (_:Nat) (l2:List Qz) (a0:Nat):Nat → Option (Nat ⊕ (Unit ⊕ (Nat ⊕ (Unit ⊕ Bool)))):=fun z =>
 Qc (l2[a0]?) fun a1 =>
 if (decide (z < a1.args.length)) = true then (
  Qc (l2[a0]?) fun a5 =>
  Qc (a5.args[z]?) fun a6 =>
  if (decide (100 < a6.s.size)) = true then (
   some (.inr (.inr (.inr (.inr false))))
  ) else (
   gd (z + 1 ≤ 9223372036854775807) <|
   some (.inl (z + 1))
  )
 ) else (
  some (.inr (.inl ()))
 )
def Q2F (N:Nat) (l2:List Qz):Nat → Option (Nat ⊕ (Unit ⊕ Bool)):=fun s =>
 if (decide (s < l2.length)) = true then (
  Q2I (
   Qc (l2[s]?) fun z =>
   if (decide (20 < z.args.length)) = true then (
    some (.inr (.inr (.inr false)))
   ) else (
    Q1h (Q2G N l2 s) N 0
   )
  ) fun _ =>
  gd (s + 1 ≤ 9223372036854775807) <|
  some (.inl (s + 1))
 ) else (
  some (.inr (.inl ()))
 )
def Q42 (N:Nat) (l0:List Ql) (z:List Qi) (l2:List Qz):Option (Bool) :=
 gd (l0.length + z.length ≤ 9223372036854775807) <|
 Qc (
  Q1h (Q2C N z) N (0,((l0.length + z.length:Nat):Int))
 ) fun s =>
 Q2I (
  Q1h (Q2F N l2) N 0
 ) fun _ =>
 if (decide (s < 400)) = true then (
  some (decide (l2.length ≤ 40))
 ) else (
  some false
 )
def Q5j (_:Nat) (a0:Int) (s:Int):Option (Int) :=
 if (decide (s < 1)) = true then (
  some 0
 ) else (
  gd (s ≠ 0) <|
  Qc (
   if (decide ((Int.tmod a0 s) < 0)) = true then (
    gd (-9223372036854775808 ≤ (Int.tmod a0 s) + s ∧ (Int.tmod a0 s) + s ≤ 9223372036854775807) <|
    some ((Int.tmod a0 s) + s)
   ) else (
    some (Int.tmod a0 s)
   )
  ) fun z =>
  some z
 )
def Q31 (_:Nat) (l0:List Int) (l1:List Int):Nat → Option (Nat ⊕ (Unit ⊕ Bool)):=fun s =>
 if (decide (s < l0.length)) = true then (
  Qc (l0[s]?) fun z =>
  Qc (l1[s]?) fun a0 =>
  if (z != a0) = true then (
   some (.inr (.inr false))
  ) else (
   gd (s + 1 ≤ 9223372036854775807) <|
   some (.inl (s + 1))
  )
 ) else (
  some (.inr (.inl ()))
 )
def Q3I (N:Nat) (s:List Int) (z:List Int):Option (Bool) :=
 if (s.length != z.length) = true then (
  some false
 ) else (
  Q2I (
   Q1h (Q31 N s z) N 0
  ) fun _ =>
  some true
 )
def Q3m (N:Nat) (z:Int) (l1:List Int) (a2:Int) (l3:List Int):Option (Bool) :=
 if (z == a2) = true then (
  Qc (Q3I N l1 l3) fun s =>
  some s
 ) else (
  some false
 )
def Q3o (_:Nat) (z:List Qz) (s:Int):Option (Unit) :=
 gd (0 ≤ s) <|
 gd (s.toNat ≤ z.length) <|
 gd (([] : List Qz).length + (z.take s.toNat).length ≤ 3518437208883) <|
 gd (-9223372036854775808 ≤ s + 1 ∧ s + 1 ≤ 9223372036854775807) <|
 gd (0 ≤ s + 1) <|
 gd ((s + 1).toNat ≤ z.length) <|
 gd ((([] : List Qz) ++ (z.take s.toNat)).length + (z.drop ((s + 1).toNat)).length ≤ 3518437208883) <|
 some ()
def Q2Z (N:Nat) (l0:List Qv) (a1:Int) (l2:List Int):Nat → Option (Nat ⊕ (Unit ⊕ Bool)):=fun s =>
 if (decide (s < l0.length)) = true then (
  Qc (l0[s]?) fun z =>
  Qc (Q3m N z.rule z.ids a1 l2) fun a0 =>
  if a0 = true then (
   some (.inr (.inr true))
  ) else (
   gd (s + 1 ≤ 9223372036854775807) <|
   some (.inl (s + 1))
  )
 ) else (
  some (.inr (.inl ()))
 )
def Q3S (N:Nat) (s:List Qv) (z:Int) (l2:List Int):Option (Bool) :=
 Q2I (
  Q1h (Q2Z N s z l2) N 0
 ) fun _ =>
 some false
def Q4P (_:Nat) (a0:Nat) (a1:Nat) (s:List Qv) (z:List Qv):Option (Bool) :=
 if (a0 != 0) = true then (
  some true
 ) else (
  if (a1 != 0) = true then (
   some true
  ) else (
   gd (s.length + z.length ≤ 9223372036854775807) <|
   some (decide (600 < (s.length + z.length)))
  )
 )
def Q3g (_:Nat) (s:Bool) (z:List Qv) (a0:Nat) (a1:Nat) (a5:Int) (l2:List Qz):Option (Bool) :=
 if s = true then (
  some true
 ) else (
  Qc (z[a0]?) fun a6 =>
  Qc (a6.ids[a1]?) fun a7 =>
  gd (0 ≤ a5) <|
  Qc (l2[a5.toNat]?) fun a8 =>
  some (a7 == a8.id)
 )
def Q2g (N:Nat) (z:List Qv) (a0:Nat) (a6:Int) (l2:List Qz):(Nat × Bool) → Option ((Nat × Bool) ⊕ Bool):=fun (s,a1) =>
 Qc (z[a0]?) fun a7 =>
 if (decide (s < a7.ids.length)) = true then (
  Qc (Q3g N a1 z a0 s a6 l2
  ) fun a5 =>
  gd (s + 1 ≤ 9223372036854775807) <|
  some (.inl (s + 1,a5))
 ) else (
  some (.inr a1)
 )
def Q2f (N:Nat) (z:List Qv) (a7:Int) (l2:List Qz) (a1:List Qv):Nat → Option (Nat ⊕ (Unit ⊕ Bool)):=fun s =>
 if (decide (s < z.length)) = true then (
  Qc (
   Q1h (Q2g N z s a7 l2) N (0,false)
  ) fun a0 =>
  Qc (z[s]?) fun a5 =>
  Qc (Q3S N a1 a5.rule a5.ids) fun a6 =>
  if (a6 == a0) = true then (
   some (.inr (.inr false))
  ) else (
   gd (s + 1 ≤ 9223372036854775807) <|
   some (.inl (s + 1))
  )
 ) else (
  some (.inr (.inl ()))
 )
def Q2i (_:Nat) (a1:Qi):(Nat × Bool) → Option ((Nat × Bool) ⊕ Bool):=fun (s,z) =>
 if (decide (s < a1.conds.length)) = true then (
  Qc (
   if z = true then (
    some true
   ) else (
    Qc (a1.conds[s]?) fun a5 =>
    some (a5.kind == 2)
   )
  ) fun a0 =>
  gd (s + 1 ≤ 9223372036854775807) <|
  some (.inl (s + 1,a0))
 ) else (
  some (.inr z)
 )
def Q2h (N:Nat) (z:List Qv) (l1:List Qi) (a7:List Qv):Nat → Option (Nat ⊕ (Unit ⊕ Bool)):=fun s =>
 if (decide (s < z.length)) = true then (
  Qc (z[s]?) fun a5 =>
  gd (0 ≤ a5.rule) <|
  Qc (l1[a5.rule.toNat]?) fun a8 =>
  Qc (
   Q1h (Q2i N a8) N (0,false)
  ) fun a1 =>
  Qc (
   if (!a1) = true then (
    Qc (z[s]?) fun a6 =>
    Qc (Q3S N a7 a6.rule a6.ids) fun a9 =>
    some (!a9)
   ) else (
    some false
   )
  ) fun a0 =>
  if a0 = true then (
   some (.inr (.inr false))
  ) else (
   gd (s + 1 ≤ 9223372036854775807) <|
   some (.inl (s + 1))
  )
 ) else (
  some (.inr (.inl ()))
 )
def Q32 (N:Nat) (l0:List Ql) (l1:List Qi) (l2:List Qz) (a3:Int):Option (Bool) :=
 Qc (Q5u N) fun aB =>
 if (!aB) = true then (
  some false
 ) else (
  Qc (
   Qc (Q42 N l0 l1 l2) fun aC =>
   if (!aC) = true then (
    some true
   ) else (
    some (l2.length == 0)
   )
  ) fun a0 =>
  if a0 = true then (
   some true
  ) else (
   Qc (Q5g N l0 l1 l2) fun (s,a7) =>
   Qc (Q5j N a3 ((l2.length:Nat):Int)) fun a1 =>
   Qc (Q3o N l2 a1) fun _ =>
   Qc (Q5g N l0 l1 ((([] : List Qz) ++ (l2.take a1.toNat)) ++ (l2.drop ((a1 + 1).toNat)))) fun (z,a8) =>
   Qc (Q4P N a7 a8 s z
   ) fun a5 =>
   if a5 = true then (
    some true
   ) else (
    Q2I (
     Q1h (Q2f N s a1 l2 z) N 0
    ) fun _ =>
    Q2I (
     Q1h (Q2h N z l1 s) N 0
    ) fun _ =>
    some true
   )
  )
 )
def Q43 (N:Nat) (z:Int) (a1:Int) (a2:ByteArray):Option (Bool) :=
 if (z == 1) = true then (
  some (a2.toList == (⟨#[]⟩ : ByteArray).toList)
 ) else (
  if (z == 2) = true then (
   if (a1 == 0) = true then (
    Qc (Q2r N a2) fun s =>
    some s
   ) else (
    some false
   )
  ) else (
   some false
  )
 )
def Q2a (N:Nat) (s:Bool):Option (Int) :=
 if s = true then (
  Qc (Q2A N 1) fun _ =>
  some 1
 ) else (
  Qc (Q2A N 0) fun _ =>
  some 0
 )
def Q6K (_:Nat) (s:Int) (z:Int):Option (Bool) :=
 if (decide (s > 0)) = true then (
  gd (-9223372036854775808 ≤ 9223372036854775807 - s ∧ 9223372036854775807 - s ≤ 9223372036854775807) <|
  if (decide (z > (9223372036854775807 - s))) = true then (
   some true
  ) else (
   if (decide (s < 0)) = true then (
    gd (-9223372036854775808 ≤ -9223372036854775808 - s ∧ -9223372036854775808 - s ≤ 9223372036854775807) <|
    some (decide (z < (-9223372036854775808 - s)))
   ) else (
    some false
   )
  )
 ) else (
  if (decide (s < 0)) = true then (
   gd (-9223372036854775808 ≤ -9223372036854775808 - s ∧ -9223372036854775808 - s ≤ 9223372036854775807) <|
   some (decide (z < (-9223372036854775808 - s)))
  ) else (
   some false
  )
 )
def Q68 (N:Nat) (z:Int) (a1:Int):Option (Int × Bool) :=
 Qc (Q6K N a1 z
 ) fun s =>
 if s = true then (
  some (0,false)
 ) else (
  gd (-9223372036854775808 ≤ z + a1 ∧ z + a1 ≤ 9223372036854775807) <|
  some (z + a1,true)
 )
def Q6k (_:Nat) (a0:Int) (z:Int):Option (Int × Bool) :=
 Qc (
  if (a0 == 0) = true then (
   some true
  ) else (
   some (z == 0)
  )
 ) fun s =>
 if s = true then (
  some (0,true)
 ) else (
  if (a0 == -1) = true then (
   some (IntKind.wrap .i64 (0 - z),z != -9223372036854775808)
  ) else (
   if (z == -1) = true then (
    some (IntKind.wrap .i64 (0 - a0),a0 != -9223372036854775808)
   ) else (
    gd (z ≠ 0) <|
    some (IntKind.wrap .i64 (a0 * z),(IntKind.wrap .i64 (Int.tdiv (IntKind.wrap .i64 (a0 * z)) z)) == a0)
   )
  )
 )
def Q1U (N:Nat) (a0:Int) (s:Int) (a2:Int):Option (Int × Bool) :=
 if (a0 == 1) = true then (
  Qc (Q68 N s a2) fun (z,a5) =>
  some (z,a5)
 ) else (
  if (a0 == 2) = true then (
   if (a2 == -9223372036854775808) = true then (
    some (IntKind.wrap .i64 (s - a2),decide (s < 0))
   ) else (
    Qc (Q68 N s (IntKind.wrap .i64 (0 - a2))) fun (a6,a7) =>
    some (a6,a7)
   )
  ) else (
   if (a0 == 3) = true then (
    Qc (Q6k N s a2) fun (a8,a9) =>
    some (a8,a9)
   ) else (
    some (IntKind.wrap .i64 (0 - s),s != -9223372036854775808)
   )
  )
 )
def Q7b (_:Nat) (z:Int):Option (Nat) :=
 Qc (
  if (z == 4) = true then (
   some true
  ) else (
   some (z == 11)
  )
 ) fun s =>
 if s = true then (
  some 1
 ) else (
  some 2
 )
def Q7c (N:Nat) (l1:List V) (z:Nat) (a1:Bool):Option (Bool ⊕ ((Nat × Bool) ⊕ (Bool ⊕ (Nat × Int × Nat)))) :=
 Qc (l1[z]?) fun a0 =>
 Qc (Q43 N a0.k a0.n a0.s) fun a5 =>
 if (!a5) = true then (
  some (.inr (.inr (.inr (0,0,2))))
 ) else (
  if a1 = true then (
   some (.inl true)
  ) else (
   Qc (l1[z]?) fun a6 =>
   some (.inl (a6.k == 2))
  )
 )
def Q7d (N:Nat) (l1:List V):(Nat × Bool) → Option ((Nat × Bool) ⊕ (Bool ⊕ (Nat × Int × Nat))):=fun (s,z) =>
 if (decide (s < l1.length)) = true then (
  Q2I (Q7c N l1 s z
  ) fun a0 =>
  gd (s + 1 ≤ 9223372036854775807) <|
  some (.inl (s + 1,a0))
 ) else (
  some (.inr (.inl z))
 )
def Q87 (N:Nat) (a0:Int) (l1:List V):Option (Nat × Int × Nat) :=
 Qc (Q7b N a0
 ) fun aC =>
 Qc (
  if (decide (a0 < 1)) = true then (
   some true
  ) else (
   if (decide (a0 > 11)) = true then (
    some true
   ) else (
    some (l1.length != aC)
   )
  )
 ) fun a8 =>
 if a8 = true then (
  some (0,0,2)
 ) else (
  Q2I (
   Q1h (Q7d N l1) N (0,false)
  ) fun aD =>
  Qc (l1[0]?) fun s =>
  gd (-9223372036854775808 ≤ ((l1.length:Nat):Int) - 1 ∧ ((l1.length:Nat):Int) - 1 ≤ 9223372036854775807) <|
  gd (0 ≤ ((l1.length:Nat):Int) - 1) <|
  Qc (l1[(((l1.length:Nat):Int) - 1).toNat]?) fun a1 =>
  Qc (
   if (a0 == 5) = true then (
    some true
   ) else (
    some (a0 == 6)
   )
  ) fun a9 =>
  if a9 = true then (
   Qc (Q2a N ((decide (s = a1)) == (a0 == 5))) fun aF =>
   some (1,aF,0)
  ) else (
   if aD = true then (
    some (0,0,301)
   ) else (
    if (a0 == 7) = true then (
     Qc (Q2a N (decide (s.n < a1.n))) fun aG =>
     some (1,aG,0)
    ) else (
     if (a0 == 8) = true then (
      Qc (Q2a N (decide (s.n ≤ a1.n))) fun aH =>
      some (1,aH,0)
     ) else (
      if (a0 == 9) = true then (
       if (s.n != 0) = true then (
        Qc (Q2a N (a1.n != 0)) fun a6 =>
        some (1,a6,0)
       ) else (
        Qc (Q2a N false) fun a6 =>
        some (1,a6,0)
       )
      ) else (
       if (a0 == 10) = true then (
        if (s.n != 0) = true then (
         Qc (Q2a N true) fun a7 =>
         some (1,a7,0)
        ) else (
         Qc (Q2a N (a1.n != 0)) fun a7 =>
         some (1,a7,0)
        )
       ) else (
        if (a0 == 11) = true then (
         Qc (Q2a N (s.n == 0)) fun aE =>
         some (1,aE,0)
        ) else (
         Qc (Q1U N a0 s.n a1.n) fun (z,aA) =>
         if (!aA) = true then (
          some (0,0,300)
         ) else (
          Qc (Q2A N z) fun _ =>
          some (1,z,0)
         )
        )
       )
      )
     )
    )
   )
  )
 )
def Q4E (_:Nat) (l6:List Qm) (rc:Int → Int → Int → ByteArray → Int → Int → (List Qm) → (List V) → Option (Int × Int × ByteArray × Nat)) (l7:List V):(Nat × (List V)) → Option ((Nat × (List V)) ⊕ ((List V) ⊕ ((Int × Int × ByteArray) ⊕ (Int × Int × ByteArray × Nat)))):=fun (a1,z) =>
 if (decide (a1 < l6.length)) = true then (
  Qc (l6[a1]?) fun a0 =>
  Qc (rc a0.kind a0.value.k a0.value.n a0.value.s a0.var a0.op a0.kids l7) fun (a5,a6,a7,a8) =>
  if (a8 != 0) = true then (
   some (.inr (.inr (.inr (0,0,(⟨#[]⟩ : ByteArray),a8))))
  ) else (
   gd (z.length + ([(⟨a5,a6,a7⟩ : V)]).length ≤ 4398046511104) <|
   gd (a1 + 1 ≤ 9223372036854775807) <|
   some (.inl (a1 + 1,(z ++ ([(⟨a5,a6,a7⟩ : V)]))))
  )
 ) else (
  some (.inr (.inl z))
 )
def Q8e (N:Nat) (a0:Int) (a1:Int) (a2:Int) (a3:ByteArray) (a4:Int) (l7:List V) (l6:List Qm) (rc:Int → Int → Int → ByteArray → Int → Int → (List Qm) → (List V) → Option (Int × Int × ByteArray × Nat)) (a5:Int):Option ((Int × Int × ByteArray) ⊕ (Int × Int × ByteArray × Nat)) :=
 if (a0 == 1) = true then (
  some (.inl (a1,a2,a3))
 ) else (
  if (a0 == 2) = true then (
   Qc (
    if (decide (a4 ≥ 0)) = true then (
     some (decide (a4 < ((l7.length:Nat):Int)))
    ) else (
     some false
    )
   ) fun a6 =>
   if a6 = true then (
    gd (0 ≤ a4) <|
    Qc (l7[a4.toNat]?) fun a7 =>
    some (.inl (a7.k,a7.n,a7.s))
   ) else (
    some (.inl (0,0,(⟨#[]⟩ : ByteArray)))
   )
  ) else (
   if (a0 == 3) = true then (
    Q2I (
     Q1h (Q4E N l6 rc l7) N (0,[])
    ) fun z =>
    Qc (Q87 N a5 z) fun (a8,a9,aA) =>
    some (.inr (((a8:Nat):Int),a9,(⟨#[]⟩ : ByteArray),aA))
   ) else (
    some (.inl (0,0,(⟨#[]⟩ : ByteArray)))
   )
  )
 )
def Q6V (N:Nat) (rc:Int → Int → Int → ByteArray → Int → Int → (List Qm) → (List V) → Option (Int × Int × ByteArray × Nat)) (a0:Int) (a1:Int) (a2:Int) (a3:ByteArray) (a4:Int) (a5:Int) (l6:List Qm) (l7:List V):Option (Int × Int × ByteArray × Nat) :=
 Q2I (Q8e N a0 a1 a2 a3 a4 l7 l6 rc a5
 ) fun (s,z,a6) =>
 Qc (Q43 N s z a6) fun a7 =>
 if (!a7) = true then (
  some (0,0,(⟨#[]⟩ : ByteArray),2)
 ) else (
  some (s,z,a6,0)
 )
def Q5T:Nat → Int → Int → Int → ByteArray → Int → Int → (List Qm) → (List V) → Option (Int × Int × ByteArray × Nat)
 | 0=>fun _=>fun _=>fun _=>fun _=>fun _=>fun _=>fun _=>fun _=>none
 | N + 1=>Q6V N (Q5T N)
end Go.Proofs.YtbgodclhmgmcgaaGreatDoor
