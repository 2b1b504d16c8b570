import Derived.Test.YtbgodclhmgmcgaaGreatDoorXT
namespace Go.Proofs.YtbgodclhmgmcgaaGreatDoor
open Go.RowKit
def lit1:List ByteArray:=[(⟨#[61,62]⟩ : ByteArray),(⟨#[33,61]⟩ : ByteArray),(⟨#[60,61]⟩ : ByteArray),(⟨#[62,61]⟩ : ByteArray),(⟨#[40]⟩ : ByteArray),(⟨#[41]⟩ : ByteArray),(⟨#[123]⟩ : ByteArray),(⟨#[125]⟩ : ByteArray),(⟨#[44]⟩ : ByteArray),(⟨#[59]⟩ : ByteArray),(⟨#[61]⟩ : ByteArray),(⟨#[60]⟩ : ByteArray),(⟨#[62]⟩ : ByteArray),(⟨#[43]⟩ : ByteArray),(⟨#[45]⟩ : ByteArray),(⟨#[42]⟩ : ByteArray),(⟨#[95]⟩ : ByteArray)]
def Q5c (_:Nat) (j:Int):Option (Bool) :=
 if (decide (j ≥ 97)) = true then (
  some (decide (j ≤ 122))
 ) else (
  some false
 )
def Q2K (_:Nat) (j:Int):Option (Bool) :=
 if (decide (j ≥ 48)) = true then (
  some (decide (j ≤ 57))
 ) else (
  some false
 )
def Q5Q (N:Nat) (j:Int):Option (Bool) :=
 Qd (Q5c N j) fun q =>
 if q = true then (
  some true
 ) else (
  Qd (Q2K N j) fun s =>
  if s = true then (
   some true
  ) else (
   some (j == 95)
  )
 )
def Q5R (N:Nat) (a0:ByteArray):Int → Option (Int ⊕ Int):=fun j =>
 Qd (
  if (decide (j < ((a0.size:Nat):Int))) = true then (
   gd (0 ≤ j) <|
   Qd (a0[j.toNat]?) fun s =>
   Qd (Q5Q N ((s.toNat:Nat):Int)) fun z =>
   some z
  ) else (
   some false
  )
 ) fun q =>
 if q = true then (
  gd (-9223372036854775808 ≤ j + 1 ∧ j + 1 ≤ 9223372036854775807) <|
  some (.inl (j + 1))
 ) else (
  some (.inr j)
 )
def Q5d (N:Nat) (q:ByteArray) (s:Int):Option (Int) :=
 Qd (
  Q1M (Q5R N q) N s
 ) fun j =>
 some j
def Q4w (_:Nat):Option (Unit) :=
 some ()
def Q5k (_:Nat) (s:ByteArray):Nat → Option (Nat ⊕ (Unit ⊕ Bool)):=fun j =>
 if (decide (j < ([(⟨#[102,97,99,116]⟩ : ByteArray),(⟨#[114,117,108,101]⟩ : ByteArray),(⟨#[115,97,108,105,101,110,99,101]⟩ : ByteArray),(⟨#[110,111,116]⟩ : ByteArray),(⟨#[116,101,115,116]⟩ : ByteArray),(⟨#[97,115,115,101,114,116]⟩ : ByteArray),(⟨#[114,101,116,114,97,99,116]⟩ : ByteArray),(⟨#[115,97,121]⟩ : ByteArray),(⟨#[104,97,108,116]⟩ : ByteArray),(⟨#[97,110,100]⟩ : ByteArray),(⟨#[111,114]⟩ : ByteArray)].length))) = true then (
  Qd (([(⟨#[102,97,99,116]⟩ : ByteArray),(⟨#[114,117,108,101]⟩ : ByteArray),(⟨#[115,97,108,105,101,110,99,101]⟩ : ByteArray),(⟨#[110,111,116]⟩ : ByteArray),(⟨#[116,101,115,116]⟩ : ByteArray),(⟨#[97,115,115,101,114,116]⟩ : ByteArray),(⟨#[114,101,116,114,97,99,116]⟩ : ByteArray),(⟨#[115,97,121]⟩ : ByteArray),(⟨#[104,97,108,116]⟩ : ByteArray),(⟨#[97,110,100]⟩ : ByteArray),(⟨#[111,114]⟩ : ByteArray)])[j]?) fun q =>
  if (q.toList == s.toList) = true then (
   some (.inr (.inr true))
  ) else (
   gd (j + 1 ≤ 9223372036854775807) <|
   some (.inl (j + 1))
  )
 ) else (
  some (.inr (.inl ()))
 )
def Q6F (N:Nat) (j:ByteArray):Option (Bool) :=
 Qd (Q4w N) fun _ =>
 Q2I (
  Q1M (Q5k N j) N 0
 ) fun _ =>
 some false
def Q7b (_:Nat) (q:Bool) (s:Nat) (j:UInt8):Option (Bool) :=
 if (!q) = true then (
  if (s == 0) = true then (
   some true
  ) else (
   if (decide (48 ≤ j.toNat)) = true then (
    if (decide (j.toNat ≤ 57)) = true then (
     some false
    ) else (
     some (!(j.toNat == 95))
    )
   ) else (
    some (!(j.toNat == 95))
   )
  )
 ) else (
  some false
 )
def Q4Z (N:Nat) (a0:ByteArray):Nat → Option (Nat ⊕ (Unit ⊕ Bool)):=fun j =>
 if (decide (j < a0.size)) = true then (
  Qd (a0[j]?) fun s =>
  Qd (
   if (decide (97 ≤ s.toNat)) = true then (
    some (decide (s.toNat ≤ 122))
   ) else (
    some false
   )
  ) fun z =>
  Qd (Q7b N z j s
  ) fun q =>
  if q = true then (
   some (.inr (.inr false))
  ) else (
   gd (j + 1 ≤ 9223372036854775807) <|
   some (.inl (j + 1))
  )
 ) else (
  some (.inr (.inl ()))
 )
def Q3m (N:Nat) (j:ByteArray):Option (Bool) :=
 Q2I (
  Q1M (Q4Z N j) N 0
 ) fun _ =>
 if (decide (1 ≤ j.size)) = true then (
  some (decide (j.size ≤ 24))
 ) else (
  some false
 )
def Q4B (N:Nat) (z:ByteArray):(Nat × Int) → Option ((Nat × Int) ⊕ (Int ⊕ (Int × Bool))):=fun (q,j) =>
 if (decide (q < z.size)) = true then (
  Qd (z[q]?) fun a1 =>
  Qd (Q2K N ((a1.toNat:Nat):Int)) fun a5 =>
  if (!a5) = true then (
   some (.inr (.inr (0,false)))
  ) else (
   Qd (z[q]?) fun s =>
   gd (-9223372036854775808 ≤ 9223372036854775807 - (IntKind.wrap .i64 (IntKind.wrap .u8 (((s.toNat:Nat):Int) - 48))) ∧ 9223372036854775807 - (IntKind.wrap .i64 (IntKind.wrap .u8 (((s.toNat:Nat):Int) - 48))) ≤ 9223372036854775807) <|
   if (decide (j > (IntKind.wrap .i64 (Int.tdiv (9223372036854775807 - (IntKind.wrap .i64 (IntKind.wrap .u8 (((s.toNat:Nat):Int) - 48)))) 10)))) = true then (
    some (.inr (.inr (0,false)))
   ) else (
    gd (-9223372036854775808 ≤ 10 * j ∧ 10 * j ≤ 9223372036854775807) <|
    gd (-9223372036854775808 ≤ (10 * j) + (IntKind.wrap .i64 (IntKind.wrap .u8 (((s.toNat:Nat):Int) - 48))) ∧ (10 * j) + (IntKind.wrap .i64 (IntKind.wrap .u8 (((s.toNat:Nat):Int) - 48))) ≤ 9223372036854775807) <|
    gd (q + 1 ≤ 9223372036854775807) <|
    some (.inl (q + 1,((10 * j) + (IntKind.wrap .i64 (IntKind.wrap .u8 (((s.toNat:Nat):Int) - 48))))))
   )
  )
 ) else (
  some (.inr (.inl j))
 )
def Q2r (N:Nat) (q:ByteArray):Option (Int × Bool) :=
 Q2I (
  Q1M (Q4B N q) N (0,0)
 ) fun j =>
 some (j,(!(q.toList == (⟨#[]⟩ : ByteArray).toList)))
def Q6m (_:Nat):Option (Unit) :=
 some ()
def Q50 (N:Nat) (a0:ByteArray):Int → Option (Int ⊕ Int):=fun j =>
 Qd (
  if (decide (j < ((a0.size:Nat):Int))) = true then (
   gd (0 ≤ j) <|
   Qd (a0[j.toNat]?) fun s =>
   Qd (Q2K N ((s.toNat:Nat):Int)) fun z =>
   some z
  ) else (
   some false
  )
 ) fun q =>
 if q = true then (
  gd (-9223372036854775808 ≤ j + 1 ∧ j + 1 ≤ 9223372036854775807) <|
  some (.inl (j + 1))
 ) else (
  some (.inr j)
 )
def Q7c (N:Nat) (q:Bool) (j:Int) (a0:ByteArray):Option (Bool) :=
 if (!q) = true then (
  some true
 ) else (
  if (decide (j < ((a0.size:Nat):Int))) = true then (
   gd (0 ≤ j) <|
   Qd (a0[j.toNat]?) fun s =>
   Qd (Q5Q N ((s.toNat:Nat):Int)) fun z =>
   some z
  ) else (
   some false
  )
 )
def Q7d (_:Nat) (q:Int) (j:ByteArray) (a0:ByteArray) (s:Nat):Option (Bool) :=
 if (decide ((q + ((j.size:Nat):Int)) ≤ ((a0.size:Nat):Int))) = true then (
  gd (0 ≤ q) <|
  gd (0 ≤ q + ((j.size:Nat):Int)) <|
  gd (q.toNat ≤ (q + ((j.size:Nat):Int)).toNat ∧ (q + ((j.size:Nat):Int)).toNat ≤ a0.size) <|
  Qd (lit1[s]?) fun z =>
  some ((a0.extract q.toNat ((q + ((j.size:Nat):Int)).toNat)).toList == z.toList)
 ) else (
  some false
 )
def Q51 (N:Nat) (z:Int) (a0:ByteArray):Nat → Option (Nat ⊕ (Unit ⊕ (Nat × ByteArray × Int × Int × Nat))):=fun j =>
 if (decide (j < lit1.length)) = true then (
  Qd (lit1[j]?) fun q =>
  gd (-9223372036854775808 ≤ z + ((q.size:Nat):Int) ∧ z + ((q.size:Nat):Int) ≤ 9223372036854775807) <|
  Qd (Q7d N z q a0 j
  ) fun s =>
  if s = true then (
   Qd (lit1[j]?) fun a5 =>
   some (.inr (.inr (6,a5,z,(z + ((q.size:Nat):Int)),0)))
  ) else (
   gd (j + 1 ≤ 9223372036854775807) <|
   some (.inl (j + 1))
  )
 ) else (
  some (.inr (.inl ()))
 )
def Q6n (N:Nat) (z:ByteArray) (q:Int):Option (Nat × ByteArray × Int × Int × Nat) :=
 gd (0 ≤ q) <|
 Qd (z[q.toNat]?) fun a8 =>
 Qd (Q5c N ((a8.toNat:Nat):Int)) fun aC =>
 if aC = true then (
  Qd (Q5d N z q) fun s =>
  gd (0 ≤ q) <|
  gd (0 ≤ s) <|
  gd (q.toNat ≤ s.toNat ∧ s.toNat ≤ z.size) <|
  gd (-9223372036854775808 ≤ s - q ∧ s - q ≤ 9223372036854775807) <|
  if (decide ((s - q) > 24)) = true then (
   some (0,(⟨#[]⟩ : ByteArray),0,0,201)
  ) else (
   Qd (
    Qd (Q6F N (z.extract q.toNat s.toNat)) fun aD =>
    if aD = true then (
     some 1
    ) else (
     some 2
    )
   ) fun a6 =>
   some (a6,z.extract q.toNat s.toNat,q,s,0)
  )
 ) else (
  Qd (
   if (a8.toNat == 63) = true then (
    some true
   ) else (
    some (a8.toNat == 39)
   )
  ) fun aA =>
  if aA = true then (
   gd (-9223372036854775808 ≤ q + 1 ∧ q + 1 ≤ 9223372036854775807) <|
   Qd (Q5d N z (q + 1)) fun a7 =>
   gd (-9223372036854775808 ≤ q + 1 ∧ q + 1 ≤ 9223372036854775807) <|
   gd (0 ≤ q + 1) <|
   gd (0 ≤ a7) <|
   gd ((q + 1).toNat ≤ a7.toNat ∧ a7.toNat ≤ z.size) <|
   Qd (
    if (a8.toNat == 39) = true then (
     some 5
    ) else (
     some 3
    )
   ) fun a5 =>
   Qd (Q3m N (z.extract ((q + 1).toNat) a7.toNat)) fun aE =>
   if (!aE) = true then (
    some (0,(⟨#[]⟩ : ByteArray),0,0,201)
   ) else (
    some (a5,z.extract ((q + 1).toNat) a7.toNat,q,a7,0)
   )
  ) else (
   Qd (Q2K N ((a8.toNat:Nat):Int)) fun aF =>
   if aF = true then (
    Qd (
     Q1M (Q50 N z) N q
    ) fun j =>
    gd (0 ≤ q) <|
    gd (0 ≤ j) <|
    gd (q.toNat ≤ j.toNat ∧ j.toNat ≤ z.size) <|
    Qd (Q2r N (z.extract q.toNat j.toNat)) fun (_,aB) =>
    Qd (Q7c N aB j z
    ) fun a9 =>
    if a9 = true then (
     some (0,(⟨#[]⟩ : ByteArray),0,0,201)
    ) else (
     gd (0 ≤ q) <|
     gd (0 ≤ j) <|
     gd (q.toNat ≤ j.toNat ∧ j.toNat ≤ z.size) <|
     some (4,z.extract q.toNat j.toNat,q,j,0)
    )
   ) else (
    Qd (Q6m N) fun _ =>
    Q2I (
     Q1M (Q51 N q z) N 0
    ) fun _ =>
    some (0,(⟨#[]⟩ : ByteArray),0,0,200)
   )
  )
 )
def Q6Y (_:Nat) (j:Int) (q:ByteArray):Option (Bool) :=
 gd (0 ≤ j) <|
 Qd (q[j.toNat]?) fun s =>
 if (s.toNat == 9) = true then (
  some true
 ) else (
  gd (0 ≤ j) <|
  Qd (q[j.toNat]?) fun z =>
  if (z.toNat == 10) = true then (
   some true
  ) else (
   gd (0 ≤ j) <|
   Qd (q[j.toNat]?) fun a1 =>
   if (a1.toNat == 13) = true then (
    some true
   ) else (
    gd (0 ≤ j) <|
    Qd (q[j.toNat]?) fun a5 =>
    some (a5.toNat == 32)
   )
  )
 )
def Q4D (_:Nat) (z:ByteArray):Int → Option (Int ⊕ Int):=fun j =>
 Qd (
  if (decide (j < ((z.size:Nat):Int))) = true then (
   gd (0 ≤ j) <|
   Qd (z[j.toNat]?) fun s =>
   some (s.toNat != 10)
  ) else (
   some false
  )
 ) fun q =>
 if q = true then (
  gd (-9223372036854775808 ≤ j + 1 ∧ j + 1 ≤ 9223372036854775807) <|
  some (.inl (j + 1))
 ) else (
  some (.inr j)
 )
def Q4C (N:Nat) (a0:ByteArray):(Int × (List Q1f)) → Option ((Int × (List Q1f)) ⊕ ((List Q1f) ⊕ ((List Q1f) × Nat × Int))):=fun (j,q) =>
 if (decide (j < ((a0.size:Nat):Int))) = true then (
  Qd (Q6Y N j a0
  ) fun a6 =>
  if a6 = true then (
   gd (-9223372036854775808 ≤ j + 1 ∧ j + 1 ≤ 9223372036854775807) <|
   some (.inl (j + 1,q))
  ) else (
   gd (0 ≤ j) <|
   Qd (a0[j.toNat]?) fun aA =>
   if (aA.toNat == 35) = true then (
    Qd (
     Q1M (Q4D N a0) N j
    ) fun a7 =>
    some (.inl (a7,q))
   ) else (
    Qd (Q6n N a0 j) fun (s,z,a1,a8,a5) =>
    if (a5 != 0) = true then (
     some (.inr (.inr ([],a5,j)))
    ) else (
     gd (q.length + ([(⟨(((s:Nat):Int)),z,a1⟩ : Q1f)]).length ≤ 4398046511104) <|
     some (.inl (a8,(q ++ ([(⟨(((s:Nat):Int)),z,a1⟩ : Q1f)]))))
    )
   )
  )
 ) else (
  some (.inr (.inl q))
 )
def Q5P (N:Nat) (q:ByteArray):Option ((List Q1f) × Nat × Int) :=
 if (decide (16384 < q.size)) = true then (
  some ([],3,0)
 ) else (
  Q2I (
   Q1M (Q4C N q) N (0,[])
  ) fun j =>
  gd (j.length + ([(⟨7,(⟨#[]⟩ : ByteArray),(((q.size:Nat):Int))⟩ : Q1f)]).length ≤ 4398046511104) <|
  some ((j ++ ([(⟨7,(⟨#[]⟩ : ByteArray),(((q.size:Nat):Int))⟩ : Q1f)])),0,0)
 )
def Q1g (_:Nat) (s:List Q1f) (q:Int) (_:Bool):Option (Int × ByteArray × Int) :=
 gd (0 ≤ q) <|
 Qd (s[q.toNat]?) fun j =>
 some (j.kind,j.text,j.at_)
def Q65 (_:Nat) (a2:Bool) (j:Int) (q:ByteArray) (a3:ByteArray):Option (Bool) :=
 if (!a2) = true then (
  if (j == 6) = true then (
   some (q.toList == a3.toList)
  ) else (
   if (j == 1) = true then (
    some (q.toList == a3.toList)
   ) else (
    some false
   )
  )
 ) else (
  some false
 )
def Q14 (N:Nat) (l0:List Q1f) (a1:Int) (a2:Bool) (a3:ByteArray):Option (Bool) :=
 Qd (Q1g N l0 a1 a2) fun (q,s,_) =>
 Qd (Q65 N a2 q s a3
 ) fun j =>
 some j
def Q1d (_:Nat) (s:List Q1f) (q:Int) (a2:Bool):Option (Int) :=
 Qd (
  if (!a2) = true then (
   gd (-9223372036854775808 ≤ ((s.length:Nat):Int) - 1 ∧ ((s.length:Nat):Int) - 1 ≤ 9223372036854775807) <|
   some (decide (q < (((s.length:Nat):Int) - 1)))
  ) else (
   some false
  )
 ) fun j =>
 if j = true then (
  gd (-9223372036854775808 ≤ q + 1 ∧ q + 1 ≤ 9223372036854775807) <|
  some (q + 1)
 ) else (
  some q
 )
def Q1u (N:Nat) (l0:List Q1f) (a1:Int) (a2:Bool) (a3:Int) (_:Int):Option (ByteArray × Int × Int × Bool) :=
 Qd (Q1g N l0 a1 a2) fun (q,s,z) =>
 Qd (
  if (q != a3) = true then (
   some true
  ) else (
   some a2
  )
 ) fun j =>
 Qd (Q1d N l0 a1 j) fun a0 =>
 some (s,z,a0,j)
def Q1i (N:Nat) (s:List Q1f) (z:Int) (a2:Bool) (a3:ByteArray):Option (Int × Bool) :=
 Qd (
  Qd (Q14 N s z a2 a3) fun v6 =>
  if (!v6) = true then (
   some true
  ) else (
   some a2
  )
 ) fun j =>
 Qd (Q1d N s z j) fun q =>
 some (q,j)
def Q4f (N:Nat) (q:List Q1f) (s:Int) (a2:Bool):Option (Int × ByteArray × Int × Int × Bool) :=
 Qd (Q1g N q s a2) fun (z,_,a0) =>
 Qd (Q14 N q s a2 (⟨#[95]⟩ : ByteArray)) fun v9 =>
 if v9 = true then (
  Qd (Q1d N q s a2) fun aJ =>
  some (12,(⟨#[]⟩ : ByteArray),a0,aJ,a2)
 ) else (
  Qd (Q14 N q s a2 (⟨#[45]⟩ : ByteArray)) fun aK =>
  if aK = true then (
   Qd (Q1d N q s a2) fun aL =>
   Qd (Q1u N q aL a2 4 14) fun (j,_,a5,a6) =>
   gd ((⟨#[45]⟩ : ByteArray).size + j.size ≤ 9223372036854775807) <|
   some (14,((⟨#[45]⟩ : ByteArray) ++ j),a0,a5,a6)
  ) else (
   if (z == 3) = true then (
    Qd (Q1u N q s a2 3 13) fun (a7,a8,a9,aA) =>
    some (13,a7,a8,a9,aA)
   ) else (
    if (z == 5) = true then (
     Qd (Q1u N q s a2 5 15) fun (aB,aC,aD,aE) =>
     some (15,aB,aC,aD,aE)
    ) else (
     Qd (Q1u N q s a2 4 14) fun (aF,aG,aH,aI) =>
     some (14,aF,aG,aH,aI)
    )
   )
  )
 )
def Q53 (_:Nat) (s:List ByteArray) (z:ByteArray):Nat → Option (Nat ⊕ (Unit ⊕ Bool)):=fun j =>
 if (decide (j < s.length)) = true then (
  Qd (s[j]?) fun q =>
  if (q.toList == z.toList) = true then (
   some (.inr (.inr true))
  ) else (
   gd (j + 1 ≤ 9223372036854775807) <|
   some (.inl (j + 1))
  )
 ) else (
  some (.inr (.inl ()))
 )
def Q6q (N:Nat) (j:ByteArray) (q:List ByteArray):Option (Bool) :=
 Q2I (
  Q1M (Q53 N q j) N 0
 ) fun _ =>
 some false
def Q3j (N:Nat) (l0:List Q1f) (a1:Int) (a2:Bool) (a3:Int):Option (Bool) :=
 Qd (Q1g N l0 a1 a2) fun (q,s,_) =>
 Qd (
  if a2 = true then (
   some true
  ) else (
   if (q != 6) = true then (
    some (q != 1)
   ) else (
    some false
   )
  )
 ) fun j =>
 if j = true then (
  some false
 ) else (
  gd (0 ≤ a3) <|
  Qd (([[(⟨#[111,114]⟩ : ByteArray)],[(⟨#[97,110,100]⟩ : ByteArray)],[(⟨#[61]⟩ : ByteArray),(⟨#[33,61]⟩ : ByteArray),(⟨#[60]⟩ : ByteArray),(⟨#[60,61]⟩ : ByteArray),(⟨#[62]⟩ : ByteArray),(⟨#[62,61]⟩ : ByteArray)],[(⟨#[43]⟩ : ByteArray),(⟨#[45]⟩ : ByteArray)],[(⟨#[42]⟩ : ByteArray)]])[a3.toNat]?) fun z =>
  Qd (Q6q N s z) fun a0 =>
  some a0
 )
def Q32 (N:Nat) (rc:(List Q1f) → Int → Bool → Int → Option (Int × ByteArray × Int × (List Qa) × Int × Bool)) (q:List Q1f) (a1:Int) (a2:Bool):Option (Int × ByteArray × Int × (List Qa) × Int × Bool) :=
 Qd (Q1g N q a1 a2) fun (j,_,_) =>
 if (j == 4) = true then (
  Qd (Q1u N q a1 a2 4 14) fun (s,z,a0,a5) =>
  some (14,s,z,[],a0,a5)
 ) else (
  if (j == 5) = true then (
   Qd (Q1u N q a1 a2 5 15) fun (a6,a7,a8,a9) =>
   some (15,a6,a7,[],a8,a9)
  ) else (
   if (j == 3) = true then (
    Qd (Q1u N q a1 a2 3 13) fun (aA,aB,aC,aD) =>
    some (13,aA,aB,[],aC,aD)
   ) else (
    Qd (Q1i N q a1 a2 (⟨#[40]⟩ : ByteArray)) fun (aE,aF) =>
    Qd (rc q aE aF 0) fun (aG,aH,aI,aJ,aK,aL) =>
    Qd (Q1i N q aK aL (⟨#[41]⟩ : ByteArray)) fun (aM,aN) =>
    some (aG,aH,aI,aJ,aM,aN)
   )
  )
 )
def Q3r (N:Nat) (l0:List Q1f) (a3:Int) (rc:(List Q1f) → Int → Bool → Int → Option (Int × ByteArray × Int × (List Qa) × Int × Bool)) (a5:Int):(Int × ByteArray × Int × (List Qa) × Int × Bool) → Option ((Int × ByteArray × Int × (List Qa) × Int × Bool) ⊕ ((Int × ByteArray × Int × (List Qa) × Int × Bool) ⊕ (Int × ByteArray × Int × (List Qa) × Int × Bool))):=fun (z,a0,a1,q,s,j) =>
 Qd (Q3j N l0 s j a3) fun aE =>
 if aE = true then (
  Qd (Q1g N l0 s j) fun (_,a6,_) =>
  Qd (Q1d N l0 s j) fun aH =>
  gd (-9223372036854775808 ≤ a3 + 1 ∧ a3 + 1 ≤ 9223372036854775807) <|
  Qd (rc l0 aH j (a3 + 1)) fun (a7,a8,a9,aA,aB,aC) =>
  if (a3 == 2) = true then (
   some (.inr (.inr (16,a6,a5,[(⟨z,a0,0,a1,q⟩ : Qa),(⟨a7,a8,0,a9,aA⟩ : Qa)],aB,aC)))
  ) else (
   some (.inl (16,a6,a5,[(⟨z,a0,0,a1,q⟩ : Qa),(⟨a7,a8,0,a9,aA⟩ : Qa)],aB,aC))
  )
 ) else (
  some (.inr (.inl (z,a0,a1,q,s,j)))
 )
def Q3E (N:Nat) (rc:(List Q1f) → Int → Bool → Int → Option (Int × ByteArray × Int × (List Qa) × Int × Bool)) (l0:List Q1f) (a1:Int) (a2:Bool) (a3:Int):Option (Int × ByteArray × Int × (List Qa) × Int × Bool) :=
 if a2 = true then (
  some (0,(⟨#[]⟩ : ByteArray),0,[],a1,a2)
 ) else (
  Qd (Q1g N l0 a1 a2) fun (_,_,a6) =>
  if (a3 == 5) = true then (
   Qd (
    Qd (Q14 N l0 a1 a2 (⟨#[45]⟩ : ByteArray)) fun aV =>
    if aV = true then (
     some true
    ) else (
     Qd (Q14 N l0 a1 a2 (⟨#[110,111,116]⟩ : ByteArray)) fun aW =>
     some aW
    )
   ) fun a8 =>
   if a8 = true then (
    Qd (Q1g N l0 a1 a2) fun (_,aA,_) =>
    Qd (Q1d N l0 a1 a2) fun aZ =>
    Qd (rc l0 aZ a2 a3) fun (aB,aC,aD,aE,aF,aG) =>
    some (16,aA,a6,[(⟨aB,aC,0,aD,aE⟩ : Qa)],aF,aG)
   ) else (
    Qd (Q32 N rc l0 a1 a2) fun (aH,aI,aJ,aK,aL,aM) =>
    some (aH,aI,aJ,aK,aL,aM)
   )
  ) else (
   gd (-9223372036854775808 ≤ a3 + 1 ∧ a3 + 1 ≤ 9223372036854775807) <|
   Qd (rc l0 a1 a2 (a3 + 1)) fun (aN,aO,aP,aQ,aR,aS) =>
   Q2I (
    Q1M (Q3r N l0 a3 rc a6) N (aN,aO,aP,aQ,aR,aS)
   ) fun (z,a0,a5,j,q,s) =>
   some (z,a0,a5,j,q,s)
  )
 )
def Q2l:Nat → (List Q1f) → Int → Bool → Int → Option (Int × ByteArray × Int × (List Qa) × Int × Bool)
 | 0=>fun _=>fun _=>fun _=>fun _=>none
 | N + 1=>Q3E N (Q2l N)
def Q5G (N:Nat) (j:List Qa) (l0:List Q1f) (z:Int) (a0:Bool) (a3:Int):Option ((List Qa) × Int × Bool) :=
 Qd (
  if (decide (0 < j.length)) = true then (
   Qd (Q1i N l0 z a0 (⟨#[44]⟩ : ByteArray)) fun (aD,aE) =>
   some (aD,aE)
  ) else (
   some (z,a0)
  )
 ) fun (q,s) =>
 if (a3 == 0) = true then (
  Qd (Q1u N l0 q s 2 3) fun (a1,a5,aF,aG) =>
  gd (j.length + ([(⟨3,a1,0,a5,[]⟩ : Qa)]).length ≤ 2199023255552) <|
  some ((j ++ ([(⟨3,a1,0,a5,[]⟩ : Qa)])),aF,aG)
 ) else (
  if (a3 == 1) = true then (
   Qd (Q4f N l0 q s) fun (a6,a7,a8,aH,aI) =>
   gd (j.length + ([(⟨a6,a7,0,a8,[]⟩ : Qa)]).length ≤ 2199023255552) <|
   some ((j ++ ([(⟨a6,a7,0,a8,[]⟩ : Qa)])),aH,aI)
  ) else (
   Qd (Q2l N l0 q s 0) fun (a9,aA,aB,aC,aJ,aK) =>
   gd (j.length + ([(⟨a9,aA,0,aB,aC⟩ : Qa)]).length ≤ 2199023255552) <|
   some ((j ++ ([(⟨a9,aA,0,aB,aC⟩ : Qa)])),aJ,aK)
  )
 )
def Q3F (N:Nat) (l0:List Q1f) (a3:Int):(Bool × (List Qa) × Int × Bool) → Option ((Bool × (List Qa) × Int × Bool) ⊕ ((List Qa) × Int × Bool)):=fun (a6,a0,z,j) =>
 Qd (
  if a6 = true then (
   some (!j)
  ) else (
   some false
  )
 ) fun a5 =>
 if a5 = true then (
  Qd (Q5G N a0 l0 z j a3
  ) fun (a1,q,s) =>
  Qd (Q14 N l0 q s (⟨#[44]⟩ : ByteArray)) fun a7 =>
  some (.inl (a7,a1,q,s))
 ) else (
  some (.inr (a0,z,j))
 )
def Q2C (N:Nat) (l0:List Q1f) (a1:Int) (a2:Bool) (a3:Int):Option ((List Qa) × Int × Bool) :=
 Qd (Q1i N l0 a1 a2 (⟨#[40]⟩ : ByteArray)) fun (z,a0) =>
 Qd (
  Qd (Q14 N l0 z a0 (⟨#[41]⟩ : ByteArray)) fun a8 =>
  Q1M (Q3F N l0 a3) N (!a8,[],z,a0)
 ) fun (s,j,q) =>
 Qd (Q1i N l0 j q (⟨#[41]⟩ : ByteArray)) fun (a5,a6) =>
 some (s,a5,a6)
def Q59 (N:Nat) (l0:List Q1f) (a1:Int) (a2:Bool) (q:Bool) (s:Int):Option (Bool) :=
 Qd (Q1g N l0 a1 a2) fun (j,_,_) =>
 if (j != 4) = true then (
  some true
 ) else (
  if (!q) = true then (
   some true
  ) else (
   some (decide (s ≥ 2147483648))
  )
 )
def Q2Q (N:Nat) (l0:List Q1f) (a1:Int) (a2:Bool):Option (Int × Int × Bool) :=
 Qd (Q1g N l0 a1 a2) fun (_,s,_) =>
 Qd (Q2r N s) fun (q,z) =>
 Qd (Q59 N l0 a1 a2 z q
 ) fun j =>
 if j = true then (
  some (0,a1,true)
 ) else (
  Qd (Q1d N l0 a1 a2) fun a6 =>
  some (q,a6,a2)
 )
def Q44 (N:Nat) (s:List Q1f) (a1:Int) (a2:Bool):Option (Int × ByteArray × Int × (List Qa) × Int × Bool) :=
 Qd (Q1g N s a1 a2) fun (_,_,z) =>
 Qd (Q14 N s a1 a2 (⟨#[116,101,115,116]⟩ : ByteArray)) fun aL =>
 if aL = true then (
  Qd (Q1d N s a1 a2) fun aM =>
  Qd (Q2l N s aM a2 0) fun (a0,a5,a6,a7,a8,a9) =>
  Qd (Q1i N s a8 a9 (⟨#[59]⟩ : ByteArray)) fun (aA,aB) =>
  some (7,(⟨#[]⟩ : ByteArray),z,[(⟨a0,a5,0,a6,a7⟩ : Qa)],aA,aB)
 ) else (
  Qd (
   Qd (Q14 N s a1 a2 (⟨#[110,111,116]⟩ : ByteArray)) fun aN =>
   if aN = true then (
    Qd (Q1d N s a1 a2) fun aO =>
    some (aO,6)
   ) else (
    some (a1,5)
   )
  ) fun (j,q) =>
  Qd (Q1u N s j a2 2 ((q:Nat):Int)) fun (aC,_,aD,aE) =>
  Qd (Q2C N s aD aE 1) fun (aF,aG,aH) =>
  Qd (Q1i N s aG aH (⟨#[59]⟩ : ByteArray)) fun (aI,aJ) =>
  some (((q:Nat):Int),aC,z,aF,aI,aJ)
 )
def Q3D (N:Nat) (l0:List Q1f):(Bool × (List Qa) × Int × Bool) → Option ((Bool × (List Qa) × Int × Bool) ⊕ (Nat × ByteArray × Int × (List Qa) × Int × Bool)):=fun (a9,j,s,q) =>
 Qd (
  if a9 = true then (
   some (!q)
  ) else (
   some false
  )
 ) fun a8 =>
 if a8 = true then (
  Qd (Q1d N l0 s q) fun aB =>
  Qd (Q2l N l0 aB q 0) fun (z,a0,a1,a5,a6,a7) =>
  gd (j.length + ([(⟨z,a0,0,a1,a5⟩ : Qa)]).length ≤ 2199023255552) <|
  Qd (Q14 N l0 a6 a7 (⟨#[44]⟩ : ByteArray)) fun aC =>
  some (.inl (aC,(j ++ ([(⟨z,a0,0,a1,a5⟩ : Qa)])),a6,a7))
 ) else (
  some (.inr (10,(⟨#[]⟩ : ByteArray),0,j,s,q))
 )
def Q5F (N:Nat) (j:List Q1f) (q:Int) (a2:Bool):Option (Nat × ByteArray × Int × (List Qa) × Int × Bool) :=
 Qd (Q14 N j q a2 (⟨#[97,115,115,101,114,116]⟩ : ByteArray)) fun aD =>
 if aD = true then (
  Qd (Q1d N j q a2) fun aE =>
  Qd (Q1u N j aE a2 2 8) fun (s,_,z,a0) =>
  Qd (Q2C N j z a0 2) fun (a5,a6,a7) =>
  some (8,s,0,a5,a6,a7)
 ) else (
  Qd (Q14 N j q a2 (⟨#[114,101,116,114,97,99,116]⟩ : ByteArray)) fun aG =>
  if aG = true then (
   Qd (Q1d N j q a2) fun aH =>
   Qd (Q2Q N j aH a2) fun (a8,a9,aA) =>
   some (9,(⟨#[]⟩ : ByteArray),a8,[],a9,aA)
  ) else (
   Qd (Q14 N j q a2 (⟨#[115,97,121]⟩ : ByteArray)) fun aI =>
   if aI = true then (
    Q1M (Q3D N j) N (true,[],q,a2)
   ) else (
    Qd (Q1i N j q a2 (⟨#[104,97,108,116]⟩ : ByteArray)) fun (aB,aC) =>
    some (11,(⟨#[]⟩ : ByteArray),0,[],aB,aC)
   )
  )
 )
def Q4e (N:Nat) (l0:List Q1f) (a1:Int) (a2:Bool):Option (Nat × ByteArray × Int × Int × (List Qa) × Int × Bool) :=
 Qd (Q1g N l0 a1 a2) fun (_,_,a8) =>
 Qd (Q5F N l0 a1 a2
 ) fun (q,s,z,j,a0,a5) =>
 Qd (Q1i N l0 a0 a5 (⟨#[59]⟩ : ByteArray)) fun (a6,a7) =>
 some (q,s,z,a8,j,a6,a7)
def Q5s (N:Nat) (l0:List Q1f) (q:Int) (j:Bool):Option (Int × Int × Bool) :=
 Qd (Q14 N l0 q j (⟨#[115,97,108,105,101,110,99,101]⟩ : ByteArray)) fun a8 =>
 if a8 = true then (
  Qd (Q1d N l0 q j) fun a1 =>
  Qd (
   Qd (Q14 N l0 a1 j (⟨#[45]⟩ : ByteArray)) fun a9 =>
   if a9 = true then (
    Qd (Q1d N l0 a1 j) fun aA =>
    some (aA,-1)
   ) else (
    some (a1,1)
   )
  ) fun (a0,s) =>
  Qd (Q2Q N l0 a0 j) fun (z,a5,a6) =>
  gd (-9223372036854775808 ≤ s * z ∧ s * z ≤ 9223372036854775807) <|
  some (s * z,a5,a6)
 ) else (
  some (0,q,j)
 )
def Q3p (N:Nat) (l0:List Q1f):((List Qa) × Int × Bool) → Option (((List Qa) × Int × Bool) ⊕ ((List Qa) × Int × Bool)):=fun (j,s,q) =>
 Qd (
  if (!q) = true then (
   Qd (Q14 N l0 s q (⟨#[61,62]⟩ : ByteArray)) fun a9 =>
   some (!a9)
  ) else (
   some false
  )
 ) fun a6 =>
 if a6 = true then (
  Qd (Q44 N l0 s q) fun (z,a0,a1,a5,a7,a8) =>
  gd (j.length + ([(⟨z,a0,0,a1,a5⟩ : Qa)]).length ≤ 2199023255552) <|
  some (.inl ((j ++ ([(⟨z,a0,0,a1,a5⟩ : Qa)])),a7,a8))
 ) else (
  some (.inr (j,s,q))
 )
def Q3q (N:Nat) (l0:List Q1f):((List Qa) × Int × Bool) → Option (((List Qa) × Int × Bool) ⊕ ((List Qa) × Int × Bool)):=fun (j,s,q) =>
 Qd (
  if (!q) = true then (
   Qd (Q14 N l0 s q (⟨#[125]⟩ : ByteArray)) fun aA =>
   some (!aA)
  ) else (
   some false
  )
 ) fun a7 =>
 if a7 = true then (
  Qd (Q4e N l0 s q) fun (z,a0,a1,a5,a6,a8,a9) =>
  gd (j.length + ([(⟨(((z:Nat):Int)),a0,a1,a5,a6⟩ : Qa)]).length ≤ 2199023255552) <|
  some (.inl ((j ++ ([(⟨(((z:Nat):Int)),a0,a1,a5,a6⟩ : Qa)])),a8,a9))
 ) else (
  some (.inr (j,s,q))
 )
def Q45 (N:Nat) (s:List Q1f) (a1:Int) (a2:Bool):Option (Nat × ByteArray × Int × Int × (List Qa) × Int × Bool) :=
 Qd (Q1g N s a1 a2) fun (_,_,aA) =>
 Qd (Q14 N s a1 a2 (⟨#[102,97,99,116]⟩ : ByteArray)) fun aV =>
 if aV = true then (
  Qd (Q1d N s a1 a2) fun aW =>
  Qd (Q1u N s aW a2 2 2) fun (aB,_,aC,aD) =>
  Qd (Q2C N s aC aD 0) fun (aE,aF,aG) =>
  Qd (Q1i N s aF aG (⟨#[59]⟩ : ByteArray)) fun (aH,aI) =>
  some (2,aB,0,aA,aE,aH,aI)
 ) else (
  Qd (Q1i N s a1 a2 (⟨#[114,117,108,101]⟩ : ByteArray)) fun (aJ,aK) =>
  Qd (Q1u N s aJ aK 2 4) fun (aL,_,aM,aN) =>
  Qd (Q5s N s aM aN
  ) fun (z,a0,a5) =>
  Qd (Q1i N s a0 a5 (⟨#[123]⟩ : ByteArray)) fun (aO,aP) =>
  Qd (
   Q1M (Q3p N s) N ([],aO,aP)
  ) fun (j,a6,a7) =>
  Qd (Q1i N s a6 a7 (⟨#[61,62]⟩ : ByteArray)) fun (aQ,aR) =>
  Qd (
   Q1M (Q3q N s) N (j,aQ,aR)
  ) fun (q,a8,a9) =>
  Qd (Q1i N s a8 a9 (⟨#[125]⟩ : ByteArray)) fun (aS,aT) =>
  some (4,aL,z,aA,q,aS,aT)
 )
def Q5r (_:Nat) (l4:List Qa) (z:Int) (rc:Int → ByteArray → Int → Int → (List Qa) → Int → Option (Int)):Nat → Option (Nat ⊕ (Unit ⊕ Int)):=fun j =>
 if (decide (j < l4.length)) = true then (
  Qd (l4[j]?) fun q =>
  gd (-9223372036854775808 ≤ z + 1 ∧ z + 1 ≤ 9223372036854775807) <|
  Qd (rc q.kind q.text q.num q.at_ q.kids (z + 1)) fun s =>
  if (decide (s ≥ 0)) = true then (
   some (.inr (.inr s))
  ) else (
   gd (j + 1 ≤ 9223372036854775807) <|
   some (.inl (j + 1))
  )
 ) else (
  some (.inr (.inl ()))
 )
def Q5X (N:Nat) (rc:Int → ByteArray → Int → Int → (List Qa) → Int → Option (Int)) (_:Int) (_:ByteArray) (_:Int) (a3:Int) (q:List Qa) (j:Int):Option (Int) :=
 if (decide (j ≥ 30)) = true then (
  some a3
 ) else (
  Q2I (
   Q1M (Q5r N q j rc) N 0
  ) fun _ =>
  some (-1)
 )
def Q4R:Nat → Int → ByteArray → Int → Int → (List Qa) → Int → Option (Int)
 | 0=>fun _=>fun _=>fun _=>fun _=>fun _=>fun _=>none
 | N + 1=>Q5X N (Q4R N)
def Q54 (_:Nat) (l4:List Qa) (rc:Int → ByteArray → Int → Int → (List Qa) → Option (Nat)):(Nat × Nat) → Option ((Nat × Nat) ⊕ Nat):=fun (j,q) =>
 if (decide (j < l4.length)) = true then (
  Qd (l4[j]?) fun s =>
  Qd (rc s.kind s.text s.num s.at_ s.kids) fun z =>
  gd (q + z ≤ 9223372036854775807) <|
  gd (j + 1 ≤ 9223372036854775807) <|
  some (.inl (j + 1,q + z))
 ) else (
  some (.inr q)
 )
def Q5q (N:Nat) (rc:Int → ByteArray → Int → Int → (List Qa) → Option (Nat)) (_:Int) (_:ByteArray) (_:Int) (_:Int) (q:List Qa):Option (Nat) :=
 Qd (
  Q1M (Q54 N q rc) N (0,1)
 ) fun j =>
 some j
def Q4y:Nat → Int → ByteArray → Int → Int → (List Qa) → Option (Nat)
 | 0=>fun _=>fun _=>fun _=>fun _=>fun _=>none
 | N + 1=>Q5q N (Q4y N)
def Q4d (N:Nat) (z:List Q1f):((List Qa) × Int × Bool) → Option (((List Qa) × Int × Bool) ⊕ ((List Qa) × Int × Bool)):=fun (j,s,q) =>
 Qd (
  if (!q) = true then (
   Qd (Q1g N z s q) fun (a9,_,_) =>
   some (a9 != 7)
  ) else (
   some false
  )
 ) fun a8 =>
 if a8 = true then (
  Qd (Q45 N z s q) fun (a0,a1,a5,a6,a7,aA,aB) =>
  gd (j.length + ([(⟨(((a0:Nat):Int)),a1,a5,a6,a7⟩ : Qa)]).length ≤ 2199023255552) <|
  some (.inl ((j ++ ([(⟨(((a0:Nat):Int)),a1,a5,a6,a7⟩ : Qa)])),aA,aB))
 ) else (
  some (.inr (j,s,q))
 )
def Q5p (N:Nat) (a0:ByteArray):Option (Nat × (List Qa) × Nat × Int) :=
 Qd (Q5P N a0) fun (z,a1,a5) =>
 if (a1 != 0) = true then (
  some (0,[],a1,a5)
 ) else (
  Qd (
   Q1M (Q4d N z) N ([],0,false)
  ) fun (j,s,q) =>
  if q = true then (
   Qd (Q1g N z s q) fun (_,_,a6) =>
   some (0,[],202,a6)
  ) else (
   Qd (Q4R N 1 (⟨#[]⟩ : ByteArray) 0 0 j 0) fun a7 =>
   if (decide (a7 ≥ 0)) = true then (
    some (0,[],203,a7)
   ) else (
    Qd (Q4y N 1 (⟨#[]⟩ : ByteArray) 0 0 j) fun aA =>
    if (decide (4096 < aA)) = true then (
     some (0,[],204,0)
    ) else (
     some (1,j,0,0)
    )
   )
  )
 )
def Q52 (_:Nat) (s:List ByteArray) (z:ByteArray):Nat → Option (Nat ⊕ (Unit ⊕ Bool)):=fun j =>
 if (decide (j < s.length)) = true then (
  Qd (s[j]?) fun q =>
  if (q.toList == z.toList) = true then (
   some (.inr (.inr true))
  ) else (
   gd (j + 1 ≤ 9223372036854775807) <|
   some (.inl (j + 1))
  )
 ) else (
  some (.inr (.inl ()))
 )
def Q4x (N:Nat) (j:ByteArray) (q:List ByteArray):Option (Bool) :=
 Q2I (
  Q1M (Q52 N q j) N 0
 ) fun _ =>
 some false
def Q2B (N:Nat) (j:ByteArray):Option (Bool) :=
 Qd (Q3m N j) fun q =>
 if q = true then (
  Qd (Q4w N) fun _ =>
  Qd (Q4x N j [(⟨#[102,97,99,116]⟩ : ByteArray),(⟨#[114,117,108,101]⟩ : ByteArray),(⟨#[115,97,108,105,101,110,99,101]⟩ : ByteArray),(⟨#[110,111,116]⟩ : ByteArray),(⟨#[116,101,115,116]⟩ : ByteArray),(⟨#[97,115,115,101,114,116]⟩ : ByteArray),(⟨#[114,101,116,114,97,99,116]⟩ : ByteArray),(⟨#[115,97,121]⟩ : ByteArray),(⟨#[104,97,108,116]⟩ : ByteArray),(⟨#[97,110,100]⟩ : ByteArray),(⟨#[111,114]⟩ : ByteArray)]) fun s =>
  some (!s)
 ) else (
  some false
 )
def Q6G (_:Nat) (j:Int):Option (Bool) :=
 if (j == 5) = true then (
  some true
 ) else (
  if (j == 6) = true then (
   some true
  ) else (
   some (j == 7)
  )
 )
def Q6Z (_:Nat) (q:ByteArray):Option (ByteArray) :=
 Qd (
  if (!(q.toList == (⟨#[]⟩ : ByteArray).toList)) = true then (
   Qd (q[0]?) fun s =>
   some (s.toNat == 45)
  ) else (
   some false
  )
 ) fun j =>
 if j = true then (
  gd (1 ≤ q.size) <|
  some (q.extract 1 q.size)
 ) else (
  some q
 )
def Q5W (N:Nat) (z:ByteArray):Option (Bool) :=
 Qd (Q6Z N z
 ) fun j =>
 Qd (Q2r N j) fun (_,q) =>
 some q
def Q5e (N:Nat) (j:ByteArray):Option (Bool) :=
 Qd (Q4x N j [(⟨#[111,114]⟩ : ByteArray),(⟨#[97,110,100]⟩ : ByteArray),(⟨#[61]⟩ : ByteArray),(⟨#[33,61]⟩ : ByteArray),(⟨#[60]⟩ : ByteArray),(⟨#[60,61]⟩ : ByteArray),(⟨#[62]⟩ : ByteArray),(⟨#[62,61]⟩ : ByteArray),(⟨#[43]⟩ : ByteArray),(⟨#[45]⟩ : ByteArray),(⟨#[42]⟩ : ByteArray)]) fun q =>
 some q
def Q4c (N:Nat) (l0:List Qa):Nat → Option (Nat ⊕ Nat):=fun j =>
 Qd (
  if (decide (j < l0.length)) = true then (
   Qd (l0[j]?) fun s =>
   Qd (Q6G N s.kind) fun z =>
   some z
  ) else (
   some false
  )
 ) fun q =>
 if q = true then (
  gd (j + 1 ≤ 9223372036854775807) <|
  some (.inl (j + 1))
 ) else (
  some (.inr j)
 )
def Q5o (N:Nat) (rc:(List Qa) → Int → Int → (List Int) → Option (Bool)) (q:List Qa):Option (Bool) :=
 Qd (
  Q1M (Q4c N q) N 0
 ) fun j =>
 Qd (rc q 0 ((j:Nat):Int) [5,6,7]) fun s =>
 if s = true then (
  Qd (rc q ((j:Nat):Int) ((q.length:Nat):Int) [8,9,10,11]) fun z =>
  some z
 ) else (
  some false
 )
def Q6u (_:Nat) (q:List Qa) (j:Nat):Option (Bool) :=
 Qd (q[j]?) fun s =>
 if (s.kind == 14) = true then (
  Qd (q[j]?) fun z =>
  if (!(z.text.toList == (⟨#[]⟩ : ByteArray).toList)) = true then (
   Qd (q[j]?) fun a0 =>
   Qd (a0.text[0]?) fun a1 =>
   some (a1.toNat == 45)
  ) else (
   some false
  )
 ) else (
  some false
 )
def Q43 (N:Nat) (s:List Qa):Nat → Option (Nat ⊕ (Unit ⊕ Bool)):=fun j =>
 if (decide (j < s.length)) = true then (
  Qd (Q6u N s j
  ) fun q =>
  if q = true then (
   some (.inr (.inr false))
  ) else (
   gd (j + 1 ≤ 9223372036854775807) <|
   some (.inl (j + 1))
  )
 ) else (
  some (.inr (.inl ()))
 )
def Q1Z (N:Nat) (rc:(List Qa) → Int → Int → (List Int) → Option (Bool)) (j:List Qa):Option (Bool) :=
 Q2I (
  Q1M (Q43 N j) N 0
 ) fun _ =>
 Qd (rc j 0 ((j.length:Nat):Int) [13,14,15,16]) fun q =>
 some q
def Q6H (_:Nat) (a3:Int) (a2:Int) (j:Int):Option (Bool) :=
 if (decide (a3 < 0)) = true then (
  some true
 ) else (
  if (a2 != 0) = true then (
   if (j != 4) = true then (
    some (j != 9)
   ) else (
    some false
   )
  ) else (
   some false
  )
 )
def Q6I (N:Nat) (s:ByteArray) (a2:Int) (rc:(List Qa) → Int → Int → (List Int) → Option (Bool)) (z:List Qa):Option (Bool) :=
 Qd (Q2B N s) fun j =>
 if j = true then (
  if (decide (a2 ≥ -2147483647)) = true then (
   if (decide (a2 ≤ 2147483647)) = true then (
    Qd (Q5o N rc z) fun q =>
    some q
   ) else (
    some false
   )
  ) else (
   some false
  )
 ) else (
  some false
 )
def Q6J (_:Nat) (j:ByteArray) (a2:Int) (q:List Qa):Option (Bool) :=
 if (j.toList == (⟨#[]⟩ : ByteArray).toList) = true then (
  if (decide (a2 ≥ 0)) = true then (
   if (decide (a2 ≤ 2147483647)) = true then (
    some (q.length == 0)
   ) else (
    some false
   )
  ) else (
   some false
  )
 ) else (
  some false
 )
def Q6K (N:Nat) (s:List Qa) (z:ByteArray) (rc:(List Qa) → Int → Int → (List Int) → Option (Bool)):Option (Bool) :=
 if (s.length == 1) = true then (
  if (z.toList == (⟨#[45]⟩ : ByteArray).toList) = true then (
   Qd (Q1Z N rc s) fun j =>
   some j
  ) else (
   if (z.toList == (⟨#[110,111,116]⟩ : ByteArray).toList) = true then (
    Qd (Q1Z N rc s) fun j =>
    some j
   ) else (
    if (s.length == 2) = true then (
     Qd (Q5e N z) fun q =>
     if q = true then (
      Qd (Q1Z N rc s) fun j =>
      some j
     ) else (
      some false
     )
    ) else (
     some false
    )
   )
  )
 ) else (
  if (s.length == 2) = true then (
   Qd (Q5e N z) fun q =>
   if q = true then (
    Qd (Q1Z N rc s) fun j =>
    some j
   ) else (
    some false
   )
  ) else (
   some false
  )
 )
def Q5n (N:Nat) (rc:(List Qa) → Int → Int → (List Int) → Option (Bool)) (j:Int) (s:ByteArray) (a2:Int) (a3:Int) (q:List Qa):Option (Bool) :=
 Qd (Q6H N a3 a2 j
 ) fun a6 =>
 if a6 = true then (
  some false
 ) else (
  if (j == 2) = true then (
   Qd (Q2B N s) fun aF =>
   if aF = true then (
    Qd (rc q 0 ((q.length:Nat):Int) [3]) fun aG =>
    some aG
   ) else (
    some false
   )
  ) else (
   if (j == 3) = true then (
    Qd (Q2B N s) fun aH =>
    if aH = true then (
     some (q.length == 0)
    ) else (
     some false
    )
   ) else (
    if (j == 4) = true then (
     Qd (Q6I N s a2 rc q
     ) fun a8 =>
     some a8
    ) else (
     Qd (
      if (j == 5) = true then (
       some (j == 5)
      ) else (
       some (j == 6)
      )
     ) fun a7 =>
     if a7 = true then (
      Qd (Q2B N s) fun aI =>
      if aI = true then (
       Qd (rc q 0 ((q.length:Nat):Int) [12,13,14,15]) fun aJ =>
       some aJ
      ) else (
       some false
      )
     ) else (
      if (j == 7) = true then (
       if (s.toList == (⟨#[]⟩ : ByteArray).toList) = true then (
        if (q.length == 1) = true then (
         Qd (Q1Z N rc q) fun aK =>
         some aK
        ) else (
         some false
        )
       ) else (
        some false
       )
      ) else (
       if (j == 8) = true then (
        Qd (Q2B N s) fun aL =>
        if aL = true then (
         Qd (Q1Z N rc q) fun aB =>
         some aB
        ) else (
         some false
        )
       ) else (
        if (j == 9) = true then (
         Qd (Q6J N s a2 q
         ) fun a9 =>
         some a9
        ) else (
         if (j == 10) = true then (
          if (s.toList == (⟨#[]⟩ : ByteArray).toList) = true then (
           if (decide (1 ≤ q.length)) = true then (
            Qd (Q1Z N rc q) fun aC =>
            some aC
           ) else (
            some false
           )
          ) else (
           some false
          )
         ) else (
          Qd (
           if (j == 11) = true then (
            some (j == 11)
           ) else (
            some (j == 12)
           )
          ) fun z =>
          if z = true then (
           if (s.toList == (⟨#[]⟩ : ByteArray).toList) = true then (
            some (q.length == 0)
           ) else (
            some false
           )
          ) else (
           Qd (
            if (j == 13) = true then (
             some (j == 13)
            ) else (
             some (j == 15)
            )
           ) fun a5 =>
           if a5 = true then (
            Qd (Q3m N s) fun aD =>
            if aD = true then (
             some (q.length == 0)
            ) else (
             some false
            )
           ) else (
            if (j == 14) = true then (
             Qd (Q5W N s) fun aE =>
             if aE = true then (
              some (q.length == 0)
             ) else (
              some false
             )
            ) else (
             if (j == 16) = true then (
              Qd (Q6K N q s rc
              ) fun aA =>
              some aA
             ) else (
              some false
             )
            )
           )
          )
         )
        )
       )
      )
     )
    )
   )
  )
 )
def Q5V (_:Nat) (l3:List Int) (z:Int) (l0:List Qa):(Nat × Bool) → Option ((Nat × Bool) ⊕ Bool):=fun (j,q) =>
 if (decide (j < l3.length)) = true then (
  Qd (
   if q = true then (
    some true
   ) else (
    gd (0 ≤ z) <|
    Qd (l0[z.toNat]?) fun a0 =>
    Qd (l3[j]?) fun a1 =>
    some (a0.kind == a1)
   )
  ) fun s =>
  gd (j + 1 ≤ 9223372036854775807) <|
  some (.inl (j + 1,s))
 ) else (
  some (.inr q)
 )
def Q5U (N:Nat) (a2:Int) (l3:List Int) (l0:List Qa) (rc:(List Qa) → Int → Int → (List Int) → Option (Bool)):Int → Option (Int ⊕ (Unit ⊕ Bool)):=fun j =>
 if (decide (j < a2)) = true then (
  Qd (
   Q1M (Q5V N l3 j l0) N (0,false)
  ) fun s =>
  Qd (
   if (!s) = true then (
    some true
   ) else (
    gd (0 ≤ j) <|
    Qd (l0[j.toNat]?) fun q =>
    Qd (Q5n N rc q.kind q.text q.num q.at_ q.kids) fun a0 =>
    some (!a0)
   )
  ) fun z =>
  if z = true then (
   some (.inr (.inr false))
  ) else (
   gd (-9223372036854775808 ≤ j + 1 ∧ j + 1 ≤ 9223372036854775807) <|
   some (.inl (j + 1))
  )
 ) else (
  some (.inr (.inl ()))
 )
def Q6p (N:Nat) (rc:(List Qa) → Int → Int → (List Int) → Option (Bool)) (j:List Qa) (q:Int) (a2:Int) (s:List Int):Option (Bool) :=
 Q2I (
  Q1M (Q5U N a2 s j rc) N q
 ) fun _ =>
 some true
def Q5f:Nat → (List Qa) → Int → Int → (List Int) → Option (Bool)
 | 0=>fun _=>fun _=>fun _=>fun _=>none
 | N + 1=>Q6p N (Q5f N)
def Q5l (_:Nat) (l4:List Qa) (rc:Int → ByteArray → Int → Int → (List Qa) → Option (Nat)):(Nat × Nat) → Option ((Nat × Nat) ⊕ Nat):=fun (j,s) =>
 if (decide (j < l4.length)) = true then (
  Qd (l4[j]?) fun q =>
  Qd (rc q.kind q.text q.num q.at_ q.kids) fun z =>
  gd (j + 1 ≤ 9223372036854775807) <|
  some (.inl (j + 1,max s z))
 ) else (
  some (.inr s)
 )
def Q5S (N:Nat) (rc:Int → ByteArray → Int → Int → (List Qa) → Option (Nat)) (_:Int) (_:ByteArray) (_:Int) (_:Int) (q:List Qa):Option (Nat) :=
 Qd (
  Q1M (Q5l N q rc) N (0,0)
 ) fun j =>
 gd (j + 1 ≤ 9223372036854775807) <|
 some (j + 1)
def Q4P:Nat → Int → ByteArray → Int → Int → (List Qa) → Option (Nat)
 | 0=>fun _=>fun _=>fun _=>fun _=>fun _=>none
 | N + 1=>Q5S N (Q4P N)
def Q5m (_:Nat) (l4:List Qa) (rc:Int → ByteArray → Int → Int → (List Qa) → Option (Nat)):(Nat × Nat) → Option ((Nat × Nat) ⊕ Nat):=fun (j,q) =>
 if (decide (j < l4.length)) = true then (
  Qd (l4[j]?) fun s =>
  Qd (rc s.kind s.text s.num s.at_ s.kids) fun z =>
  gd (q + z ≤ 9223372036854775807) <|
  gd (j + 1 ≤ 9223372036854775807) <|
  some (.inl (j + 1,q + z))
 ) else (
  some (.inr q)
 )
def Q5T (N:Nat) (rc:Int → ByteArray → Int → Int → (List Qa) → Option (Nat)) (_:Int) (_:ByteArray) (_:Int) (_:Int) (q:List Qa):Option (Nat) :=
 Qd (
  Q1M (Q5m N q rc) N (0,1)
 ) fun j =>
 some j
def Q4Q:Nat → Int → ByteArray → Int → Int → (List Qa) → Option (Nat)
 | 0=>fun _=>fun _=>fun _=>fun _=>fun _=>none
 | N + 1=>Q5T N (Q4Q N)
def Q7e (_:Nat) (j:Int) (q:ByteArray) (a2:Int) (a3:Int):Option (Bool) :=
 if (j != 1) = true then (
  some true
 ) else (
  if (!(q.toList == (⟨#[]⟩ : ByteArray).toList)) = true then (
   some true
  ) else (
   if (a2 != 0) = true then (
    some true
   ) else (
    some (decide (a3 < 0))
   )
  )
 )
def Q6o (N:Nat) (s:Int) (z:ByteArray) (a2:Int) (a3:Int) (q:List Qa):Option (Bool) :=
 Qd (Q7e N s z a2 a3
 ) fun j =>
 if j = true then (
  some false
 ) else (
  Qd (Q5f N q 0 ((q.length:Nat):Int) [2,4]) fun a5 =>
  if a5 = true then (
   Qd (Q4P N s z a2 a3 q) fun a6 =>
   if (decide (a6 ≤ 30)) = true then (
    Qd (Q4Q N s z a2 a3 q) fun a7 =>
    some (decide (a7 ≤ 4096))
   ) else (
    some false
   )
  ) else (
   some false
  )
 )
def Q3H (_:Nat) (s:List Qn) (z:ByteArray):Nat → Option (Nat ⊕ (Unit ⊕ Int)):=fun j =>
 if (decide (j < s.length)) = true then (
  Qd (s[j]?) fun q =>
  if (q.name.toList == z.toList) = true then (
   some (.inr (.inr ((j:Nat):Int)))
  ) else (
   gd (j + 1 ≤ 9223372036854775807) <|
   some (.inl (j + 1))
  )
 ) else (
  some (.inr (.inl ()))
 )
def Q39 (N:Nat) (j:List Qn) (_:List Qp) (_:List ByteArray) (_:Int) (_:Int) (_:Int) (q:ByteArray):Option (Int) :=
 Q2I (
  Q1M (Q3H N j q) N 0
 ) fun _ =>
 some (-1)
def Q16 (_:Nat) (_:List Qn) (_:List Qp) (_:List ByteArray) (_:Int) (a4:Int) (s:Int) (z:Bool) (a7:Int) (_:Int) (_:ByteArray) (_:Int) (q:Int) (_:List Qa):Option (Int × Int) :=
 Qd (
  if z = true then (
   some (a4 == 0)
  ) else (
   some false
  )
 ) fun j =>
 if j = true then (
  some (a7,q)
 ) else (
  some (a4,s)
 )
def Q3x (N:Nat) (a0:Nat) (a5:Qa) (s:List Qn) (l1:List Qp) (l2:List ByteArray) (a3:Int):(Nat × Int × Int) → Option ((Nat × Int × Int) ⊕ (Int × Int)):=fun (z,j,q) =>
 if (decide (z < a0)) = true then (
  Qd (a5.kids[z]?) fun a8 =>
  Qd (a5.kids[a0]?) fun a9 =>
  Qd (a5.kids[a0]?) fun a1 =>
  Qd (Q16 N s l1 l2 a3 j q (a8.text.toList == a9.text.toList) 210 a1.kind a1.text a1.num a1.at_ a1.kids) fun (a6,a7) =>
  gd (z + 1 ≤ 9223372036854775807) <|
  some (.inl (z + 1,a6,a7))
 ) else (
  some (.inr (j,q))
 )
def Q3w (N:Nat) (a5:Qa) (s:List Qn) (l1:List Qp) (l2:List ByteArray) (a3:Int):(Nat × Int × Int) → Option ((Nat × Int × Int) ⊕ (Int × Int)):=fun (z,j,q) =>
 if (decide (z < a5.kids.length)) = true then (
  Qd (
   Q1M (Q3x N z a5 s l1 l2 a3) N (0,j,q)
  ) fun (a0,a1) =>
  gd (z + 1 ≤ 9223372036854775807) <|
  some (.inl (z + 1,a0,a1))
 ) else (
  some (.inr (j,q))
 )
def Q5u (N:Nat) (aE:List Qa) (aB:Nat) (j:List Qn) (s:Int) (z:Int) (l1:List Qp) (l2:List ByteArray) (a3:Int):Option ((List Qn) × Int × Int) :=
 Qd (aE[aB]?) fun q =>
 if (q.kind != 2) = true then (
  some (j,s,z)
 ) else (
  Qd (Q39 N j l1 l2 a3 s z q.text) fun aF =>
  Qd (Q16 N j l1 l2 a3 s z (decide (aF ≥ 0)) 210 q.kind q.text q.num q.at_ q.kids) fun (a9,aA) =>
  Qd (
   if (decide (32 ≤ j.length)) = true then (
    Qd (Q16 N j l1 l2 a3 a9 aA true 204 q.kind q.text q.num q.at_ q.kids) fun (a0,a1) =>
    some (a0,a1)
   ) else (
    Qd (Q16 N j l1 l2 a3 a9 aA (decide (6 < q.kids.length)) 204 q.kind q.text q.num q.at_ q.kids) fun (a0,a1) =>
    some (a0,a1)
   )
  ) fun (a5,a6) =>
  Qd (
   Q1M (Q3w N q j l1 l2 a3) N (0,a5,a6)
  ) fun (a7,a8) =>
  gd (j.length + ([(⟨q.text,(((q.kids.length:Nat):Int))⟩ : Qn)]).length ≤ 5864062014805) <|
  some ((j ++ ([(⟨q.text,(((q.kids.length:Nat):Int))⟩ : Qn)])),a7,a8)
 )
def Q3v (N:Nat) (a6:List Qa) (l1:List Qp) (l2:List ByteArray) (a3:Int):(Nat × (List Qn) × Int × Int) → Option ((Nat × (List Qn) × Int × Int) ⊕ ((List Qn) × Int × Int)):=fun (a0,j,q,s) =>
 if (decide (a0 < a6.length)) = true then (
  Qd (Q5u N a6 a0 j q s l1 l2 a3
  ) fun (z,a1,a5) =>
  gd (a0 + 1 ≤ 9223372036854775807) <|
  some (.inl (a0 + 1,z,a1,a5))
 ) else (
  some (.inr (j,q,s))
 )
def Q46 (N:Nat) (q:List Qn) (s:List Qp) (z:List ByteArray) (a3:Int) (a4:Int) (a5:Int) (_:Int) (_:ByteArray) (_:Int) (_:Int) (j:List Qa):Option ((List Qn) × Int × Int) :=
 Q1M (Q3v N j s z a3) N (0,q,a4,a5)
def Q6M (_:Nat) (j:Int) (_:ByteArray) (_:Int) (_:Int) (_:List Qa):Option (Bool) :=
 if (j == 5) = true then (
  some true
 ) else (
  if (j == 6) = true then (
   some true
  ) else (
   some (j == 7)
  )
 )
def Q2y (N:Nat) (l0:List Qn) (l1:List Qp) (l2:List ByteArray) (a3:Int) (a4:Int) (a5:Int) (a6:Int) (a7:ByteArray) (a8:Int) (a9:Int) (a0:List Qa):Option (Int × Int × Int) :=
 Qd (Q39 N l0 l1 l2 a3 a4 a5 a7) fun v9 =>
 Qd (Q16 N l0 l1 l2 a3 a4 a5 (decide (v9 < 0)) 211 a6 a7 a8 a9 a0) fun (s,z) =>
 Qd (
  if (decide (v9 ≥ 0)) = true then (
   gd (0 ≤ v9) <|
   Qd (l0[v9.toNat]?) fun aG =>
   Qd (Q16 N l0 l1 l2 a3 s z (aG.fields != ((a0.length:Nat):Int)) 212 a6 a7 a8 a9 a0) fun (a1,aA) =>
   some (a1,aA)
  ) else (
   some (s,z)
  )
 ) fun (j,q) =>
 some (v9,j,q)
def Q3s (_:Nat) (s:List ByteArray) (z:ByteArray):Nat → Option (Nat ⊕ (Unit ⊕ Int)):=fun j =>
 if (decide (j < s.length)) = true then (
  Qd (s[j]?) fun q =>
  if (q.toList == z.toList) = true then (
   some (.inr (.inr ((j:Nat):Int)))
  ) else (
   gd (j + 1 ≤ 9223372036854775807) <|
   some (.inl (j + 1))
  )
 ) else (
  some (.inr (.inl ()))
 )
def Q2Z (N:Nat) (_:List Qn) (_:List Qp) (j:List ByteArray) (_:Int) (_:Int) (_:Int) (q:ByteArray):Option (Int) :=
 Q2I (
  Q1M (Q3s N j q) N 0
 ) fun _ =>
 some (-1)
def Q42 (_:Nat) (_:Int):Option (Unit) :=
 some ()
def Q3C (N:Nat) (a0:Int) (s:ByteArray) (_:Int) (_:Int) (_:List Qa):Option (Nat × Int × ByteArray) :=
 if (a0 == 15) = true then (
  some (2,0,s)
 ) else (
  Qd (s[0]?) fun z =>
  if (z.toNat == 45) = true then (
   gd (1 ≤ s.size) <|
   Qd (Q2r N (s.extract 1 s.size)) fun (j,_) =>
   gd (-9223372036854775808 ≤ 0 - j ∧ 0 - j ≤ 9223372036854775807) <|
   Qd (Q42 N (0 - j)) fun _ =>
   some (1,0 - j,(⟨#[]⟩ : ByteArray))
  ) else (
   Qd (Q2r N s) fun (q,_) =>
   Qd (Q42 N q) fun _ =>
   some (1,q,(⟨#[]⟩ : ByteArray))
  )
 )
def Q5H (N:Nat) (q:Qa) (j:List ByteArray) (s:Int) (z:Int) (l0:List Qn) (l1:List Qp) (a3:Int) (aD:Bool):Option (Nat × Int × Nat × Int × ByteArray × (List ByteArray) × Int × Int) :=
 if (q.kind == 12) = true then (
  some (1,0,0,0,(⟨#[]⟩ : ByteArray),j,s,z)
 ) else (
  if (q.kind == 13) = true then (
   Qd (Q2Z N l0 l1 j a3 s z q.text) fun aA =>
   if (decide (aA < 0)) = true then (
    Qd (Q16 N l0 l1 j a3 s z (!aD) 213 q.kind q.text q.num q.at_ q.kids) fun (a0,a1) =>
    Qd (Q16 N l0 l1 j a3 a0 a1 (decide (16 ≤ j.length)) 204 q.kind q.text q.num q.at_ q.kids) fun (a5,a6) =>
    gd (([] : List ByteArray).length + j.length ≤ 8796093022208) <|
    gd (j.length + [q.text].length ≤ 8796093022208) <|
    some (2,((j.length:Nat):Int),0,0,(⟨#[]⟩ : ByteArray),j ++ [q.text],a5,a6)
   ) else (
    some (3,aA,0,0,(⟨#[]⟩ : ByteArray),j,s,z)
   )
  ) else (
   Qd (Q3C N q.kind q.text q.num q.at_ q.kids) fun (a7,a8,a9) =>
   some (4,0,a7,a8,a9,j,s,z)
  )
 )
def Q3G (N:Nat) (aD:List Qa) (l0:List Qn) (l1:List Qp) (a3:Int) (aE:Bool):(Nat × (List Q3B) × (List ByteArray) × Int × Int) → Option ((Nat × (List Q3B) × (List ByteArray) × Int × Int) ⊕ ((List Q3B) × (List ByteArray) × Int × Int)):=fun (a9,a6,j,q,a7) =>
 Qd (
  if (decide (a9 < aD.length)) = true then (
   some (q == 0)
  ) else (
   some false
  )
 ) fun aC =>
 if aC = true then (
  Qd (aD[a9]?) fun aF =>
  Qd (Q5H N aF j q a7 l0 l1 a3 aE
  ) fun (s,z,a0,a1,a5,a8,aA,aB) =>
  gd (a6.length + ([(⟨(((s:Nat):Int)),z,(⟨(((a0:Nat):Int)),a1,a5⟩ : V)⟩ : Q3B)]).length ≤ 2932031007402) <|
  gd (a9 + 1 ≤ 9223372036854775807) <|
  some (.inl (a9 + 1,(a6 ++ ([(⟨(((s:Nat):Int)),z,(⟨(((a0:Nat):Int)),a1,a5⟩ : V)⟩ : Q3B)])),a8,aA,aB))
 ) else (
  some (.inr (a6,j,q,a7))
 )
def Q38 (N:Nat) (l0:List Qn) (l1:List Qp) (l2:List ByteArray) (a3:Int) (a4:Int) (a5:Int) (_:Int) (_:ByteArray) (_:Int) (_:Int) (a0:List Qa) (a1:Bool):Option ((List Q3B) × (List ByteArray) × Int × Int) :=
 Qd (
  Q1M (Q3G N a0 l0 l1 a3 a1) N (0,[],l2,a4,a5)
 ) fun (z,j,q,s) =>
 some (z,j,q,s)
def Q55 (_:Nat) (z:ByteArray):Nat → Option (Nat ⊕ (Unit ⊕ (Int × Bool))):=fun j =>
 if (decide (j < ([(⟨#[43]⟩ : ByteArray),(⟨#[45]⟩ : ByteArray),(⟨#[42]⟩ : ByteArray),(⟨#[61]⟩ : ByteArray),(⟨#[33,61]⟩ : ByteArray),(⟨#[60]⟩ : ByteArray),(⟨#[60,61]⟩ : ByteArray),(⟨#[97,110,100]⟩ : ByteArray),(⟨#[111,114]⟩ : ByteArray)].length))) = true then (
  Qd (([(⟨#[43]⟩ : ByteArray),(⟨#[45]⟩ : ByteArray),(⟨#[42]⟩ : ByteArray),(⟨#[61]⟩ : ByteArray),(⟨#[33,61]⟩ : ByteArray),(⟨#[60]⟩ : ByteArray),(⟨#[60,61]⟩ : ByteArray),(⟨#[97,110,100]⟩ : ByteArray),(⟨#[111,114]⟩ : ByteArray)])[j]?) fun q =>
  if (q.toList == z.toList) = true then (
   Qd (([1,2,3,5,6,7,8,9,10] : List Int)[j]?) fun s =>
   some (.inr (.inr (s,false)))
  ) else (
   gd (j + 1 ≤ 9223372036854775807) <|
   some (.inl (j + 1))
  )
 ) else (
  some (.inr (.inl ()))
 )
def Q6r (N:Nat) (j:ByteArray) (q:Int):Option (Int × Bool) :=
 if (q == 1) = true then (
  if (j.toList == (⟨#[45]⟩ : ByteArray).toList) = true then (
   some (4,false)
  ) else (
   some (11,false)
  )
 ) else (
  Q2I (
   Q1M (Q55 N j) N 0
  ) fun _ =>
  if (j.toList == (⟨#[62]⟩ : ByteArray).toList) = true then (
   some (7,true)
  ) else (
   some (8,true)
  )
 )
def Q33 (_:Nat) (l6:List Qa) (rc:(List Qn) → (List Qp) → (List ByteArray) → Int → Int → Int → Int → ByteArray → Int → Int → (List Qa) → Option (Nat × Nat × Int × ByteArray × Int × Int × (List Qo) × Int × Int)) (l0:List Qn) (l1:List Qp) (l2:List ByteArray) (a3:Int):(Nat × (List Qo) × Int × Int) → Option ((Nat × (List Qo) × Int × Int) ⊕ ((List Qo) × Int × Int)):=fun (z,j,q,s) =>
 if (decide (z < l6.length)) = true then (
  Qd (l6[z]?) fun a0 =>
  Qd (rc l0 l1 l2 a3 q s a0.kind a0.text a0.num a0.at_ a0.kids) fun (a1,a5,a6,a7,a8,a9,aA,aB,aC) =>
  gd (j.length + ([(⟨(((a1:Nat):Int)),(⟨(((a5:Nat):Int)),a6,a7⟩ : V),a8,a9,aA⟩ : Qo)]).length ≤ 1759218604441) <|
  gd (z + 1 ≤ 9223372036854775807) <|
  some (.inl (z + 1,(j ++ ([(⟨(((a1:Nat):Int)),(⟨(((a5:Nat):Int)),a6,a7⟩ : V),a8,a9,aA⟩ : Qo)])),aB,aC))
 ) else (
  some (.inr (j,q,s))
 )
def Q3u (N:Nat) (rc:(List Qn) → (List Qp) → (List ByteArray) → Int → Int → Int → Int → ByteArray → Int → Int → (List Qa) → Option (Nat × Nat × Int × ByteArray × Int × Int × (List Qo) × Int × Int)) (z:List Qn) (l1:List Qp) (l2:List ByteArray) (a3:Int) (a4:Int) (a5:Int) (l6:List Qa):Option ((List Qo) × Int × Int) :=
 Qd (
  Q1M (Q33 N l6 rc z l1 l2 a3) N (0,[],a4,a5)
 ) fun (s,j,q) =>
 some (s,j,q)
def Q40 (N:Nat) (rc:(List Qn) → (List Qp) → (List ByteArray) → Int → Int → Int → Int → ByteArray → Int → Int → (List Qa) → Option (Nat × Nat × Int × ByteArray × Int × Int × (List Qo) × Int × Int)) (l0:List Qn) (l1:List Qp) (l2:List ByteArray) (a3:Int) (a4:Int) (a5:Int) (a6:Int) (a7:ByteArray) (a8:Int) (a9:Int) (s:List Qa):Option (Nat × Nat × Int × ByteArray × Int × Int × (List Qo) × Int × Int) :=
 Qd (
  if (a6 == 14) = true then (
   some (a6 == 14)
  ) else (
   some (a6 == 15)
  )
 ) fun z =>
 if z = true then (
  Qd (Q3C N a6 a7 a8 a9 s) fun (a0,a1,aA) =>
  some (1,a0,a1,aA,0,0,[],a4,a5)
 ) else (
  if (a6 == 13) = true then (
   Qd (Q2Z N l0 l1 l2 a3 a4 a5 a7) fun aI =>
   Qd (Q16 N l0 l1 l2 a3 a4 a5 (decide (aI < 0)) 213 a6 a7 a8 a9 s) fun (aB,aC) =>
   some (2,0,0,(⟨#[]⟩ : ByteArray),aI,0,[],aB,aC)
  ) else (
   Qd (Q6r N a7 ((s.length:Nat):Int)) fun (aD,aE) =>
   Qd (Q3u N rc l0 l1 l2 a3 a4 a5 s) fun (j,aF,aG) =>
   Qd (
    if aE = true then (
     Qd (j[1]?) fun aO =>
     Qd (j[0]?) fun aP =>
     some [aO,aP]
    ) else (
     some j
    )
   ) fun q =>
   some (3,0,0,(⟨#[]⟩ : ByteArray),0,aD,q,aF,aG)
  )
 )
def Q2D:Nat → (List Qn) → (List Qp) → (List ByteArray) → Int → Int → Int → Int → ByteArray → Int → Int → (List Qa) → Option (Nat × Nat × Int × ByteArray × Int × Int × (List Qo) × Int × Int)
 | 0=>fun _=>fun _=>fun _=>fun _=>fun _=>fun _=>fun _=>fun _=>fun _=>fun _=>fun _=>none
 | N + 1=>Q40 N (Q2D N)
def Q3t (N:Nat) (l6:List Qa) (l0:List Qn) (l1:List Qp) (l2:List ByteArray) (a3:Int):(Nat × (List Qo) × Int × Int) → Option ((Nat × (List Qo) × Int × Int) ⊕ ((List Qo) × Int × Int)):=fun (z,j,q,s) =>
 if (decide (z < l6.length)) = true then (
  Qd (l6[z]?) fun a0 =>
  Qd (Q2D N l0 l1 l2 a3 q s a0.kind a0.text a0.num a0.at_ a0.kids) fun (a1,a5,a6,a7,a8,a9,aA,aB,aC) =>
  gd (j.length + ([(⟨(((a1:Nat):Int)),(⟨(((a5:Nat):Int)),a6,a7⟩ : V),a8,a9,aA⟩ : Qo)]).length ≤ 1759218604441) <|
  gd (z + 1 ≤ 9223372036854775807) <|
  some (.inl (z + 1,(j ++ ([(⟨(((a1:Nat):Int)),(⟨(((a5:Nat):Int)),a6,a7⟩ : V),a8,a9,aA⟩ : Qo)])),aB,aC))
 ) else (
  some (.inr (j,q,s))
 )
def Q30 (N:Nat) (z:List Qn) (l1:List Qp) (l2:List ByteArray) (a3:Int) (a4:Int) (a5:Int) (l6:List Qa):Option ((List Qo) × Int × Int) :=
 Qd (
  Q1M (Q3t N l6 z l1 l2 a3) N (0,[],a4,a5)
 ) fun (s,j,q) =>
 some (s,j,q)
def Q4S (N:Nat) (j:Int) (l0:List Qn) (l1:List Qp) (l2:List ByteArray) (a3:Int) (a4:Int) (a5:Int) (a7:ByteArray) (q:Int) (a8:Int) (z:List Qa) (l9:List QN) (s:List Q1c):Option ((List QN) × (List Q1c) × (List ByteArray) × Int × Int × Int) :=
 if (j == 5) = true then (
  Qd (Q2y N l0 l1 l2 a3 a4 a5 j a7 q a8 z) fun (aC,aW,aX) =>
  Qd (Q38 N l0 l1 l2 a3 aW aX j a7 q a8 z true) fun (aD,aY,aZ,b0) =>
  gd (l9.length + ([(⟨1,aC,aD,(⟨0,(⟨0,0,(⟨#[]⟩ : ByteArray)⟩ : V),0,0,[]⟩ : Qo)⟩ : QN)]).length ≤ 1172812402961) <|
  gd (-9223372036854775808 ≤ a3 + 1 ∧ a3 + 1 ≤ 9223372036854775807) <|
  some ((l9 ++ ([(⟨1,aC,aD,(⟨0,(⟨0,0,(⟨#[]⟩ : ByteArray)⟩ : V),0,0,[]⟩ : Qo)⟩ : QN)])),s,aY,a3 + 1,aZ,b0)
 ) else (
  if (j == 6) = true then (
   Qd (Q2y N l0 l1 l2 a3 a4 a5 j a7 q a8 z) fun (aE,b1,b2) =>
   Qd (Q38 N l0 l1 l2 a3 b1 b2 j a7 q a8 z false) fun (aF,b3,b4,b5) =>
   gd (l9.length + ([(⟨2,aE,aF,(⟨0,(⟨0,0,(⟨#[]⟩ : ByteArray)⟩ : V),0,0,[]⟩ : Qo)⟩ : QN)]).length ≤ 1172812402961) <|
   some ((l9 ++ ([(⟨2,aE,aF,(⟨0,(⟨0,0,(⟨#[]⟩ : ByteArray)⟩ : V),0,0,[]⟩ : Qo)⟩ : QN)])),s,b3,a3,b4,b5)
  ) else (
   if (j == 7) = true then (
    Qd (z[0]?) fun aG =>
    Qd (Q2D N l0 l1 l2 a3 a4 a5 aG.kind aG.text aG.num aG.at_ aG.kids) fun (aH,aI,aJ,aK,aL,aM,aN,b6,b7) =>
    gd (l9.length + ([(⟨3,0,[],(⟨(((aH:Nat):Int)),(⟨(((aI:Nat):Int)),aJ,aK⟩ : V),aL,aM,aN⟩ : Qo)⟩ : QN)]).length ≤ 1172812402961) <|
    some ((l9 ++ ([(⟨3,0,[],(⟨(((aH:Nat):Int)),(⟨(((aI:Nat):Int)),aJ,aK⟩ : V),aL,aM,aN⟩ : Qo)⟩ : QN)])),s,l2,a3,b6,b7)
   ) else (
    if (j == 8) = true then (
     Qd (Q2y N l0 l1 l2 a3 a4 a5 j a7 q a8 z) fun (aO,b8,b9) =>
     Qd (Q30 N l0 l1 l2 a3 b8 b9 z) fun (aP,bA,bB) =>
     gd (s.length + ([(⟨1,aO,0,aP⟩ : Q1c)]).length ≤ 2932031007402) <|
     some (l9,(s ++ ([(⟨1,aO,0,aP⟩ : Q1c)])),l2,a3,bA,bB)
    ) else (
     if (j == 9) = true then (
      Qd (
       if (decide (q < 1)) = true then (
        Qd (Q16 N l0 l1 l2 a3 a4 a5 true 214 j a7 q a8 z) fun (a0,a1) =>
        some (a0,a1)
       ) else (
        Qd (Q16 N l0 l1 l2 a3 a4 a5 (decide (q > a3)) 214 j a7 q a8 z) fun (a0,a1) =>
        some (a0,a1)
       )
      ) fun (a9,aA) =>
      gd (-9223372036854775808 ≤ q - 1 ∧ q - 1 ≤ 9223372036854775807) <|
      gd (s.length + ([(⟨2,0,q - 1,[]⟩ : Q1c)]).length ≤ 2932031007402) <|
      some (l9,(s ++ ([(⟨2,0,q - 1,[]⟩ : Q1c)])),l2,a3,a9,aA)
     ) else (
      if (j == 10) = true then (
       Qd (Q30 N l0 l1 l2 a3 a4 a5 z) fun (aB,aT,aU) =>
       gd (s.length + ([(⟨3,0,0,aB⟩ : Q1c)]).length ≤ 2932031007402) <|
       some (l9,(s ++ ([(⟨3,0,0,aB⟩ : Q1c)])),l2,a3,aT,aU)
      ) else (
       gd (s.length + ([(⟨4,0,0,[]⟩ : Q1c)]).length ≤ 2932031007402) <|
       some (l9,(s ++ ([(⟨4,0,0,[]⟩ : Q1c)])),l2,a3,a4,a5)
      )
     )
    )
   )
  )
 )
def Q3I (N:Nat) (l0:List Qn) (l1:List Qp) (l2:List ByteArray) (a3:Int) (a4:Int) (a5:Int) (_:ByteArray) (_:Int) (_:Int) (l9:List QN) (a9:List Q1c) (aA:Int) (aB:ByteArray) (aC:Int) (aD:Int) (aE:List Qa):Option ((List QN) × (List Q1c) × (List ByteArray) × Int × Int × Int) :=
 Qd (Q4S N aA l0 l1 l2 a3 a4 a5 aB aC aD aE l9 a9
 ) fun (q,s,j,z,a0,a1) =>
 some (q,s,j,z,a0,a1)
def Q3J (N:Nat) (l1:List Qp) (l0:List Qn) (l2:List ByteArray) (a3:Int) (a7:ByteArray) (a6:Int) (a8:Int) (a9:Int) (a5:List Qa):(Nat × Int × Int) → Option ((Nat × Int × Int) ⊕ (Int × Int)):=fun (s,j,q) =>
 if (decide (s < l1.length)) = true then (
  Qd (l1[s]?) fun aA =>
  Qd (Q16 N l0 l1 l2 a3 j q (aA.name.toList == a7.toList) 210 a6 a7 a8 a9 a5) fun (z,a0) =>
  gd (s + 1 ≤ 9223372036854775807) <|
  some (.inl (s + 1,z,a0))
 ) else (
  some (.inr (j,q))
 )
def Q3K (N:Nat) (a0:List Qa):(Nat × Nat) → Option ((Nat × Nat) ⊕ Nat):=fun (j,q) =>
 if (decide (j < a0.length)) = true then (
  Qd (
   Qd (a0[j]?) fun s =>
   Qd (Q6M N s.kind s.text s.num s.at_ s.kids) fun a1 =>
   if a1 = true then (
    gd (q + 1 ≤ 9223372036854775807) <|
    some (q + 1)
   ) else (
    some q
   )
  ) fun z =>
  gd (j + 1 ≤ 9223372036854775807) <|
  some (.inl (j + 1,z))
 ) else (
  some (.inr q)
 )
def Q5I (N:Nat) (l1:List Qp) (l0:List Qn) (l2:List ByteArray) (a3:Int) (j:Int) (q:Int) (a6:Int) (a7:ByteArray) (a8:Int) (a9:Int) (a1:List Qa) (a0:Nat):Option (Int × Int) :=
 if (decide (64 ≤ l1.length)) = true then (
  Qd (Q16 N l0 l1 l2 a3 j q true 204 a6 a7 a8 a9 a1) fun (s,z) =>
  some (s,z)
 ) else (
  if (decide (8 < a0)) = true then (
   Qd (Q16 N l0 l1 l2 a3 j q true 204 a6 a7 a8 a9 a1) fun (s,z) =>
   some (s,z)
  ) else (
   gd (-9223372036854775808 ≤ ((a1.length:Nat):Int) - ((a0:Nat):Int) ∧ ((a1.length:Nat):Int) - ((a0:Nat):Int) ≤ 9223372036854775807) <|
   Qd (Q16 N l0 l1 l2 a3 j q (decide ((((a1.length:Nat):Int) - ((a0:Nat):Int)) > 8)) 204 a6 a7 a8 a9 a1) fun (s,z) =>
   some (s,z)
  )
 )
def Q3L (N:Nat) (aG:List Qa) (l0:List Qn) (l1:List Qp) (a7:ByteArray) (a8:Int):(Nat × (List QN) × (List Q1c) × (List ByteArray) × Int × Int × Int) → Option ((Nat × (List QN) × (List Q1c) × (List ByteArray) × Int × Int × Int) ⊕ ((List QN) × (List Q1c) × (List ByteArray) × Int × Int × Int)):=fun (a6,j,q,s,a0,z,a1) =>
 Qd (
  if (decide (a6 < aG.length)) = true then (
   some (z == 0)
  ) else (
   some false
  )
 ) fun a9 =>
 if a9 = true then (
  Qd (aG[a6]?) fun a5 =>
  Qd (Q3I N l0 l1 s a0 z a1 a7 a8 0 j q a5.kind a5.text a5.num a5.at_ a5.kids) fun (aA,aB,aC,aD,aE,aF) =>
  gd (a6 + 1 ≤ 9223372036854775807) <|
  some (.inl (a6 + 1,aA,aB,aC,aD,aE,aF))
 ) else (
  some (.inr (j,q,s,a0,z,a1))
 )
def Q4g (N:Nat) (l0:List Qn) (l1:List Qp) (l2:List ByteArray) (a3:Int) (a4:Int) (a5:Int) (a6:Int) (a7:ByteArray) (a8:Int) (a9:Int) (aB:List Qa):Option ((List Qp) × (List ByteArray) × Int × Int × Int) :=
 Qd (
  Q1M (Q3J N l1 l0 l2 a3 a7 a6 a8 a9 aB) N (0,a4,a5)
 ) fun (z,a0) =>
 Qd (
  Q1M (Q3K N aB) N (0,0)
 ) fun aM =>
 Qd (
  if (decide (a8 < -1000)) = true then (
   Qd (Q16 N l0 l1 l2 a3 z a0 true 2 a6 a7 a8 a9 aB) fun (a1,aA) =>
   some (a1,aA)
  ) else (
   Qd (Q16 N l0 l1 l2 a3 z a0 (decide (a8 > 1000)) 2 a6 a7 a8 a9 aB) fun (a1,aA) =>
   some (a1,aA)
  )
 ) fun (aC,aD) =>
 Qd (Q5I N l1 l0 l2 a3 aC aD a6 a7 a8 a9 aB aM
 ) fun (aE,aF) =>
 Qd (
  Q1M (Q3L N aB l0 l1 a7 a8) N (0,[],[],[],0,aE,aF)
 ) fun (q,s,j,aG,aH,aI) =>
 gd (l1.length + ([(⟨a7,a8,(((j.length:Nat):Int)),q,s⟩ : Qp)]).length ≤ 1759218604441) <|
 some ((l1 ++ ([(⟨a7,a8,(((j.length:Nat):Int)),q,s⟩ : Qp)])),j,aG,aH,aI)
def Q5t (N:Nat) (l4:List Qa) (aC:List Qn):(Nat × (List Qp) × (List ByteArray) × Int × Int × Int) → Option ((Nat × (List Qp) × (List ByteArray) × Int × Int × Int) ⊕ ((List Qp) × (List ByteArray) × Int × Int × Int)):=fun (a1,j,q,z,s,a0) =>
 Qd (
  if (decide (a1 < l4.length)) = true then (
   some (s == 0)
  ) else (
   some false
  )
 ) fun aB =>
 if aB = true then (
  Qd (
   Qd (l4[a1]?) fun aJ =>
   if (aJ.kind == 4) = true then (
    Qd (l4[a1]?) fun aA =>
    Qd (Q4g N aC j q z s a0 aA.kind aA.text aA.num aA.at_ aA.kids) fun (aD,aE,aF,aG,aH) =>
    some (aD,aE,aF,aG,aH)
   ) else (
    some (j,q,z,s,a0)
   )
  ) fun (a5,a6,a7,a8,a9) =>
  gd (a1 + 1 ≤ 9223372036854775807) <|
  some (.inl (a1 + 1,a5,a6,a7,a8,a9))
 ) else (
  some (.inr (j,q,z,s,a0))
 )
def Q6L (N:Nat) (a0:Int) (a1:ByteArray) (a2:Int) (a3:Int) (l4:List Qa):Option ((List Qn) × (List Qp) × Int × Int) :=
 Qd (Q6o N a0 a1 a2 a3 l4) fun v7 =>
 if (!v7) = true then (
  some ([],[],4,0)
 ) else (
  Qd (Q46 N [] [] [] 0 0 0 a0 a1 a2 a3 l4) fun (z,a6,a7) =>
  Qd (
   Q1M (Q5t N l4 z) N (0,[],[],0,a6,a7)
  ) fun (q,_,_,j,s) =>
  if (j != 0) = true then (
   some ([],[],j,s)
  ) else (
   some (z,q,0,0)
  )
 )
def Q5Y (N:Nat) (a0:ByteArray):Option ((List Qn) × (List Qp) × Int × Int) :=
 Qd (Q5p N a0) fun (a5,a6,j,a7) =>
 if (j != 0) = true then (
  some ([],[],((j:Nat):Int),a7)
 ) else (
  Qd (Q6L N ((a5:Nat):Int) (⟨#[]⟩ : ByteArray) 0 0 a6) fun (q,s,z,a1) =>
  some (q,s,z,a1)
 )
def Q3W (N:Nat):Option ((List Qn) × (List Qp)) :=
 Qd (Q5Y N (⟨#[102,97,99,116,32,112,40,97,44,32,98,41,59,32,114,117,108,101,32,114,32,123,32,112,40,63,120,44,32,49,41,59,32,112,40,63,120,44,32,63,121,41,59,32,61,62,32,97,115,115,101,114,116,32,112,40,63,121,44,32,63,120,32,43,32,49,41,59,32,114,101,116,114,97,99,116,32,50,59,32,125]⟩ : ByteArray)) fun (j,q,_,_) =>
 some (j,q)
def Q2q (_:Nat) (_:Int) (_:Int) (_:Int):Option (Unit) :=
 some ()
def Qal (_:Nat) (j:ByteArray):Option (Bool) :=
 if (!(j.toList == (⟨#[]⟩ : ByteArray).toList)) = true then (
  if (decide (j.size ≤ 24)) = true then (
   Qd (j[0]?) fun q =>
   if (decide ((Lib.indexByte (⟨#[97,98,99,100,101,102,103,104,105,106,107,108,109,110,111,112,113,114,115,116,117,118,119,120,121,122]⟩ : ByteArray).data.toList (((q.toNat:Nat):Int)).toNat.toUInt8) ≥ 0)) = true then (
    gd (j.size ≤ 9223372036854775807) <|
    some ((⟨(Lib.trimS j.data.toList (⟨#[97,98,99,100,101,102,103,104,105,106,107,108,109,110,111,112,113,114,115,116,117,118,119,120,121,122,48,49,50,51,52,53,54,55,56,57,95]⟩ : ByteArray).data.toList).toArray⟩ : ByteArray).toList == (⟨#[]⟩ : ByteArray).toList)
   ) else (
    some false
   )
  ) else (
   some false
  )
 ) else (
  some false
 )
def Qa1 (N:Nat) (q:ByteArray):Option (Bool) :=
 Qd (Qal N q
 ) fun j =>
 some j
def Q4a (N:Nat) (q:Int) (s:Int) (a2:ByteArray):Option (Bool) :=
 if (q == 1) = true then (
  some (a2.toList == (⟨#[]⟩ : ByteArray).toList)
 ) else (
  if (q == 2) = true then (
   if (s == 0) = true then (
    Qd (Qa1 N a2) fun j =>
    some j
   ) else (
    some false
   )
  ) else (
   some false
  )
 )
def Q8j (N:Nat) (j:ByteArray):Option (Bool) :=
 Qd (Q4a N 2 0 j) fun q =>
 some q
def Q6z (_:Nat) (_:ByteArray) (_:Int) (_:ByteArray):Option (Unit) :=
 some ()
def Q4n (N:Nat) (s:List Qn) (z:ByteArray):Nat → Option (Nat ⊕ (Unit ⊕ Int)):=fun j =>
 if (decide (j < s.length)) = true then (
  Qd (s[j]?) fun q =>
  Qd (Q6z N q.name q.fields z) fun _ =>
  if (q.name.toList == z.toList) = true then (
   some (.inr (.inr ((j:Nat):Int)))
  ) else (
   gd (j + 1 ≤ 9223372036854775807) <|
   some (.inl (j + 1))
  )
 ) else (
  some (.inr (.inl ()))
 )
def Q5y (N:Nat) (j:List Qn) (q:ByteArray):Option (Int) :=
 Q2I (
  Q1M (Q4n N j q) N 0
 ) fun _ =>
 some (-1)
def Q7q (N:Nat) (q:List Qn) (_:List Qp) (_:Int) (_:Int) (a4:ByteArray):Option (Int) :=
 Qd (Q5y N q a4) fun j =>
 some j
def Q6A (_:Nat) (_:ByteArray) (_:Int) (_:Int) (_:List QN) (_:List Q1c) (_:ByteArray):Option (Unit) :=
 some ()
def Q4m (N:Nat) (s:List Qp) (z:ByteArray):Nat → Option (Nat ⊕ (Unit ⊕ Int)):=fun j =>
 if (decide (j < s.length)) = true then (
  Qd (s[j]?) fun q =>
  Qd (Q6A N q.name q.salience q.vars q.conds q.acts z) fun _ =>
  if (q.name.toList == z.toList) = true then (
   some (.inr (.inr ((j:Nat):Int)))
  ) else (
   gd (j + 1 ≤ 9223372036854775807) <|
   some (.inl (j + 1))
  )
 ) else (
  some (.inr (.inl ()))
 )
def Q5x (N:Nat) (j:List Qp) (q:ByteArray):Option (Int) :=
 Q2I (
  Q1M (Q4m N j q) N 0
 ) fun _ =>
 some (-1)
def Q7r (N:Nat) (_:List Qn) (q:List Qp) (_:Int) (_:Int) (a4:ByteArray):Option (Int) :=
 Qd (Q5x N q a4) fun j =>
 some j
def Q5O (_:Nat) (q:List Qn) (_:List Qp) (_:Int) (_:Int) (a4:Int) (s:Int):Option (Bool) :=
 if (decide (a4 ≥ 0)) = true then (
  if (decide (a4 < ((q.length:Nat):Int))) = true then (
   gd (0 ≤ a4) <|
   Qd (q[a4.toNat]?) fun j =>
   some (j.fields == s)
  ) else (
   some false
  )
 ) else (
  some false
 )
def Qaj (_:Nat) (a7:Bool) (z:Bool) (j:Bool) (q:Int) (s:List Qo) (a4:Int) (a1:Int) (a2:Int) (a3:ByteArray):Option (Bool) :=
 if a7 = true then (
  if z = true then (
   if j = true then (
    some true
   ) else (
    if (q == 0) = true then (
     some (s.length == 0)
    ) else (
     some false
    )
   )
  ) else (
   if (a4 == 0) = true then (
    if j = true then (
     some true
    ) else (
     if (q == 0) = true then (
      some (s.length == 0)
     ) else (
      some false
     )
    )
   ) else (
    some false
   )
  )
 ) else (
  if (decide ((⟨a1,a2,a3⟩ : V) = (⟨0,0,(⟨#[]⟩ : ByteArray)⟩ : V))) = true then (
   if z = true then (
    if j = true then (
     some true
    ) else (
     if (q == 0) = true then (
      some (s.length == 0)
     ) else (
      some false
     )
    )
   ) else (
    if (a4 == 0) = true then (
     if j = true then (
      some true
     ) else (
      if (q == 0) = true then (
       some (s.length == 0)
      ) else (
       some false
      )
     )
    ) else (
     some false
    )
   )
  ) else (
   some false
  )
 )
def Q6f (N:Nat) (_:Int) (q:Int) (a2:Int) (a3:ByteArray) (a4:Int) (s:Int) (z:List Qo) (a7:Bool) (a8:Bool) (a9:Bool):Option (Bool) :=
 Qd (Qaj N a7 a8 a9 s z a4 q a2 a3
 ) fun j =>
 some j
def Q84 (N:Nat) (_:List Qn) (_:List Qp) (a2:Int) (_:Int) (a4:Int) (j:Int) (q:Int) (s:Int) (z:ByteArray) (a9:Bool):Option (Bool × Int) :=
 if (a4 == 1) = true then (
  if (j == 0) = true then (
   some ((decide ((⟨q,s,z⟩ : V) = (⟨0,0,(⟨#[]⟩ : ByteArray)⟩ : V))),a2)
  ) else (
   some (false,a2)
  )
 ) else (
  if (a4 == 2) = true then (
   gd (-9223372036854775808 ≤ a2 + 1 ∧ a2 + 1 ≤ 9223372036854775807) <|
   if a9 = true then (
    gd (-9223372036854775808 ≤ (a2 + 1) - 1 ∧ (a2 + 1) - 1 ≤ 9223372036854775807) <|
    if (j == ((a2 + 1) - 1)) = true then (
     some ((decide ((⟨q,s,z⟩ : V) = (⟨0,0,(⟨#[]⟩ : ByteArray)⟩ : V))),a2 + 1)
    ) else (
     some (false,a2 + 1)
    )
   ) else (
    some (false,a2 + 1)
   )
  ) else (
   if (a4 == 3) = true then (
    if (decide (j ≥ 0)) = true then (
     if (decide (j < a2)) = true then (
      some ((decide ((⟨q,s,z⟩ : V) = (⟨0,0,(⟨#[]⟩ : ByteArray)⟩ : V))),a2)
     ) else (
      some (false,a2)
     )
    ) else (
     some (false,a2)
    )
   ) else (
    if (a4 == 4) = true then (
     if (j == 0) = true then (
      Qd (Q4a N q s z) fun a0 =>
      some (a0,a2)
     ) else (
      some (false,a2)
     )
    ) else (
     some (false,a2)
    )
   )
  )
 )
def Q5i (_:Nat) (rc:(List Qn) → (List Qp) → Int → Int → Int → Int → Int → ByteArray → Int → Int → (List Qo) → Option (Bool)) (q:Int) (s:Int) (a2:Int) (a3:ByteArray) (a4:Int) (z:Int) (l6:List Qo) (l7:List Qn) (l8:List Qp) (a9:Int) (j:Int):Option (Bool) :=
 Qd (rc l7 l8 a9 j q s a2 a3 a4 z l6) fun v6 =>
 some (!v6)
def Q3O (N:Nat) (l0:List Qo) (rc:(List Qn) → (List Qp) → Int → Int → Int → Int → Int → ByteArray → Int → Int → (List Qo) → Option (Bool)) (l1:List Qn) (l2:List Qp) (a3:Int) (a4:Int):Nat → Option (Nat ⊕ (Unit ⊕ Int)):=fun j =>
 if (decide (j < l0.length)) = true then (
  Qd (l0[j]?) fun q =>
  Qd (Q5i N rc q.kind q.value.k q.value.n q.value.s q.var q.op q.kids l1 l2 a3 a4) fun z =>
  if z = true then (
   some (.inr (.inr ((j:Nat):Int)))
  ) else (
   gd (j + 1 ≤ 9223372036854775807) <|
   some (.inl (j + 1))
  )
 ) else (
  some (.inr (.inl ()))
 )
def Q4k (N:Nat) (rc:(List Qn) → (List Qp) → Int → Int → Int → Int → Int → ByteArray → Int → Int → (List Qo) → Option (Bool)) (j:List Qo) (q:List Qn) (s:List Qp) (a3:Int) (a4:Int):Option (Int) :=
 Q2I (
  Q1M (Q3O N j rc q s a3 a4) N 0
 ) fun _ =>
 some (-1)
def Q3N (N:Nat) (rc:(List Qn) → (List Qp) → Int → Int → Int → Int → Int → ByteArray → Int → Int → (List Qo) → Option (Bool)) (j:List Qo) (q:List Qn) (s:List Qp) (a3:Int) (a4:Int):Option (Bool) :=
 Qd (Q4k N rc j q s a3 a4) fun z =>
 some (decide (z ≥ 0))
def Q6i (N:Nat) (rc:(List Qn) → (List Qp) → Int → Int → Int → Int → Int → ByteArray → Int → Int → (List Qo) → Option (Bool)) (j:List Qn) (q:List Qp) (a2:Int) (a3:Int) (s:List Qo):Option (Bool) :=
 Qd (Q3N N rc s j q a2 a3) fun z =>
 some (!z)
def Q8o (_:Nat) (q:Int):Option (Nat) :=
 Qd (
  if (q == 4) = true then (
   some true
  ) else (
   some (q == 11)
  )
 ) fun j =>
 if j = true then (
  some 1
 ) else (
  some 2
 )
def Q8p (N:Nat) (a4:Int) (a5:Int) (a6:Int) (a7:ByteArray) (a8:Int) (s:Int) (j:List Qo) (q:Nat) (rc:(List Qn) → (List Qp) → Int → Int → Int → Int → Int → ByteArray → Int → Int → (List Qo) → Option (Bool)) (l0:List Qn) (l1:List Qp) (a2:Int) (a3:Int):Option (Bool) :=
 Qd (Q6f N a4 a5 a6 a7 a8 s j false false true) fun z =>
 if z = true then (
  if (decide (s ≥ 1)) = true then (
   if (decide (s ≤ 11)) = true then (
    if (j.length == q) = true then (
     Qd (Q6i N rc l0 l1 a2 a3 j) fun a0 =>
     some a0
    ) else (
     some false
    )
   ) else (
    some false
   )
  ) else (
   some false
  )
 ) else (
  some false
 )
def Q72 (N:Nat) (rc:(List Qn) → (List Qp) → Int → Int → Int → Int → Int → ByteArray → Int → Int → (List Qo) → Option (Bool)) (l0:List Qn) (l1:List Qp) (a2:Int) (a3:Int) (a4:Int) (a5:Int) (a6:Int) (a7:ByteArray) (z:Int) (a9:Int) (j:List Qo):Option (Bool) :=
 if (a4 == 1) = true then (
  Qd (Q6f N a4 a5 a6 a7 z a9 j true false false) fun aC =>
  if aC = true then (
   Qd (Q4a N a5 a6 a7) fun aD =>
   some aD
  ) else (
   some false
  )
 ) else (
  if (a4 == 2) = true then (
   Qd (Q6f N a4 a5 a6 a7 z a9 j false true false) fun aE =>
   if aE = true then (
    if (decide (z ≥ 0)) = true then (
     some (decide (z < a2))
    ) else (
     some false
    )
   ) else (
    some false
   )
  ) else (
   if (a4 == 3) = true then (
    Qd (Q8o N a9
    ) fun q =>
    Qd (Q8p N a4 a5 a6 a7 z a9 j q rc l0 l1 a2 a3
    ) fun s =>
    some s
   ) else (
    some false
   )
  )
 )
def Q4O:Nat → (List Qn) → (List Qp) → Int → Int → Int → Int → Int → ByteArray → Int → Int → (List Qo) → Option (Bool)
 | 0=>fun _=>fun _=>fun _=>fun _=>fun _=>fun _=>fun _=>fun _=>fun _=>fun _=>fun _=>none
 | N + 1=>Q72 N (Q4O N)
def Q8n (N:Nat) (l0:List Qn) (l1:List Qp) (a2:Int) (a3:Int) (a5:Int) (l6:List Q3B) (a7:Int) (a8:Int) (a9:Int) (j:ByteArray) (q:Int) (s:Int) (z:List Qo):Option (Bool) :=
 Qd (Q5O N l0 l1 a2 a3 a5 ((l6.length:Nat):Int)) fun a0 =>
 if (!a0) = true then (
  some true
 ) else (
  if (a7 != 0) = true then (
   some true
  ) else (
   Qd (Q6f N a7 a8 a9 j q s z false false false) fun a1 =>
   some (!a1)
  )
 )
def Q6B (N:Nat) (l6:List Q3B) (l0:List Qn) (l1:List Qp) (a3:Int) (a4:Int):(Nat × Int) → Option ((Nat × Int) ⊕ (Int ⊕ (Bool × Int × Int))):=fun (j,q) =>
 if (decide (j < l6.length)) = true then (
  Qd (l6[j]?) fun z =>
  Qd (Q84 N l0 l1 q a3 z.k z.var z.v.k z.v.n z.v.s (a4 == 1)) fun (a1,a0) =>
  if (!a1) = true then (
   some (.inr (.inr (false,a0,a3)))
  ) else (
   gd (j + 1 ≤ 9223372036854775807) <|
   some (.inl (j + 1,a0))
  )
 ) else (
  some (.inr (.inl q))
 )
def Q7H (N:Nat) (l0:List Qn) (l1:List Qp) (a2:Int) (a3:Int) (a4:Int) (a5:Int) (l6:List Q3B) (a7:Int) (a8:Int) (a9:Int) (a0:ByteArray) (a1:Int) (a6:Int) (aA:List Qo):Option (Bool × Int × Int) :=
 Qd (
  if (a4 == 1) = true then (
   some (a4 == 1)
  ) else (
   some (a4 == 2)
  )
 ) fun z =>
 if z = true then (
  Qd (Q8n N l0 l1 a2 a3 a5 l6 a7 a8 a9 a0 a1 a6 aA
  ) fun s =>
  if s = true then (
   some (false,a2,a3)
  ) else (
   Q2I (
    Q1M (Q6B N l6 l0 l1 a3 a4) N (0,a2)
   ) fun q =>
   Qd (
    if (a4 == 1) = true then (
     gd (-9223372036854775808 ≤ a3 + 1 ∧ a3 + 1 ≤ 9223372036854775807) <|
     some (a3 + 1)
    ) else (
     some a3
    )
   ) fun j =>
   some (true,q,j)
  )
 ) else (
  if (a4 == 3) = true then (
   if (a5 == 0) = true then (
    if (l6.length == 0) = true then (
     Qd (Q4O N l0 l1 a2 a3 a7 a8 a9 a0 a1 a6 aA) fun aE =>
     some (aE,a2,a3)
    ) else (
     some (false,a2,a3)
    )
   ) else (
    some (false,a2,a3)
   )
  ) else (
   some (false,a2,a3)
  )
 )
def Q6C (N:Nat) (q:Int) (s:Int) (a2:Int) (a3:ByteArray) (a4:Int) (z:Int) (l6:List Qo) (l7:List Qn) (l8:List Qp) (a9:Int) (j:Int):Option (Bool) :=
 Qd (Q4O N l7 l8 a9 j q s a2 a3 a4 z l6) fun v6 =>
 some (!v6)
def Q4j (N:Nat) (l0:List Qo) (l1:List Qn) (l2:List Qp) (a3:Int) (a4:Int):Nat → Option (Nat ⊕ (Unit ⊕ Int)):=fun j =>
 if (decide (j < l0.length)) = true then (
  Qd (l0[j]?) fun q =>
  Qd (Q6C N q.kind q.value.k q.value.n q.value.s q.var q.op q.kids l1 l2 a3 a4) fun z =>
  if z = true then (
   some (.inr (.inr ((j:Nat):Int)))
  ) else (
   gd (j + 1 ≤ 9223372036854775807) <|
   some (.inl (j + 1))
  )
 ) else (
  some (.inr (.inl ()))
 )
def Q5v (N:Nat) (j:List Qo) (q:List Qn) (s:List Qp) (a3:Int) (a4:Int):Option (Int) :=
 Q2I (
  Q1M (Q4j N j q s a3 a4) N 0
 ) fun _ =>
 some (-1)
def Q4h (N:Nat) (j:List Qo) (q:List Qn) (s:List Qp) (a3:Int) (a4:Int):Option (Bool) :=
 Qd (Q5v N j q s a3 a4) fun z =>
 some (decide (z ≥ 0))
def Q5N (N:Nat) (j:List Qn) (q:List Qp) (a2:Int) (a3:Int) (s:List Qo):Option (Bool) :=
 Qd (Q4h N s j q a2 a3) fun z =>
 some (!z)
def Q8X (_:Nat) (q:Int) (s:List Qo) (j:Int) (a3:Int):Option (Bool) :=
 if (q == 0) = true then (
  if (s.length == 0) = true then (
   if (decide (j ≥ 0)) = true then (
    some (decide (j < a3))
   ) else (
    some false
   )
  ) else (
   some false
  )
 ) else (
  some false
 )
def Q8Y (N:Nat) (s:Int) (z:Int) (q:List Qo) (l0:List Qn) (l1:List Qp) (a2:Int) (a3:Int):Option (Bool) :=
 if (s == 0) = true then (
  if (z == 0) = true then (
   if (decide (0 < q.length)) = true then (
    Qd (Q5N N l0 l1 a2 a3 q) fun j =>
    some j
   ) else (
    some false
   )
  ) else (
   some false
  )
 ) else (
  some false
 )
def Q8Z (_:Nat) (a4:Int) (j:Int) (q:Int) (s:List Qo):Option (Bool) :=
 if (a4 == 4) = true then (
  if (j == 0) = true then (
   if (q == 0) = true then (
    some (s.length == 0)
   ) else (
    some false
   )
  ) else (
   some false
  )
 ) else (
  some false
 )
def Q83 (N:Nat) (l0:List Qn) (l1:List Qp) (a2:Int) (a3:Int) (a4:Int) (a5:Int) (a6:Int) (z:List Qo):Option (Bool) :=
 if (a4 == 1) = true then (
  if (a6 == 0) = true then (
   Qd (Q5O N l0 l1 a2 a3 a5 ((z.length:Nat):Int)) fun a9 =>
   if a9 = true then (
    Qd (Q5N N l0 l1 a2 a3 z) fun aA =>
    some aA
   ) else (
    some false
   )
  ) else (
   some false
  )
 ) else (
  if (a4 == 2) = true then (
   Qd (Q8X N a5 z a6 a3
   ) fun j =>
   some j
  ) else (
   if (a4 == 3) = true then (
    Qd (Q8Y N a5 a6 z l0 l1 a2 a3
    ) fun q =>
    some q
   ) else (
    Qd (Q8Z N a4 a5 a6 z
    ) fun s =>
    some s
   )
  )
 )
def Q6D (N:Nat) (j:Int) (q:Int) (a2:Int) (s:List Qo) (z:List Qn) (l5:List Qp) (a6:Int) (a7:Int):Option (Bool) :=
 Qd (Q83 N z l5 a6 a7 j q a2 s) fun v6 =>
 some (!v6)
def Q4F (N:Nat) (z:List Q1c) (l1:List Qn) (l2:List Qp) (a3:Int) (a4:Int):Nat → Option (Nat ⊕ (Unit ⊕ Int)):=fun j =>
 if (decide (j < z.length)) = true then (
  Qd (z[j]?) fun q =>
  Qd (Q6D N q.kind q.type q.which q.exprs l1 l2 a3 a4) fun s =>
  if s = true then (
   some (.inr (.inr ((j:Nat):Int)))
  ) else (
   gd (j + 1 ≤ 9223372036854775807) <|
   some (.inl (j + 1))
  )
 ) else (
  some (.inr (.inl ()))
 )
def Q5Z (N:Nat) (j:List Q1c) (q:List Qn) (s:List Qp) (a3:Int) (a4:Int):Option (Int) :=
 Q2I (
  Q1M (Q4F N j q s a3 a4) N 0
 ) fun _ =>
 some (-1)
def Q4E (N:Nat) (j:List Q1c) (q:List Qn) (s:List Qp) (a3:Int) (a4:Int):Option (Bool) :=
 Qd (Q5Z N j q s a3 a4) fun z =>
 some (decide (z ≥ 0))
def Q7V (N:Nat) (a4:ByteArray) (q:Int) (s:List QN) (z:List Q1c):Option (Bool) :=
 Qd (Q8j N a4) fun j =>
 if (!j) = true then (
  some true
 ) else (
  if (decide (q < -1000)) = true then (
   some true
  ) else (
   if (decide (q > 1000)) = true then (
    some true
   ) else (
    if (decide (8 < s.length)) = true then (
     some true
    ) else (
     some (decide (8 < z.length))
    )
   )
  )
 )
def Q6j (N:Nat) (l7:List QN) (l0:List Qn) (l1:List Qp):(Nat × Int × Int) → Option ((Nat × Int × Int) ⊕ ((Int × Int) ⊕ (Bool × Int × Int))):=fun (a0,j,q) =>
 if (decide (a0 < l7.length)) = true then (
  Qd (l7[a0]?) fun z =>
  Qd (Q7H N l0 l1 j q z.kind z.type z.args z.test.kind z.test.value.k z.test.value.n z.test.value.s z.test.var z.test.op z.test.kids) fun (a6,a1,a5) =>
  if (!a6) = true then (
   some (.inr (.inr (false,a1,a5)))
  ) else (
   gd (a0 + 1 ≤ 9223372036854775807) <|
   some (.inl (a0 + 1,a1,a5))
  )
 ) else (
  some (.inr (.inl (j,q)))
 )
def Q7s (N:Nat) (l0:List Qn) (l1:List Qp) (_:Int) (_:Int) (a4:ByteArray) (a5:Int) (a6:Int) (l7:List QN) (l8:List Q1c):Option (Bool × Int × Int) :=
 Qd (Q7V N a4 a5 l7 l8
 ) fun s =>
 if s = true then (
  some (false,0,0)
 ) else (
  Q2I (
   Q1M (Q6j N l7 l0 l1) N (0,0,0)
  ) fun (j,q) =>
  if (a6 == j) = true then (
   if (decide (j ≤ 16)) = true then (
    Qd (Q4E N l8 l0 l1 j q) fun z =>
    some (!z,j,q)
   ) else (
    some (false,j,q)
   )
  ) else (
   some (false,j,q)
  )
 )
def Qai (N:Nat) (j:Qn) (l0:List Qn) (l1:List Qp) (q:Nat):Option (Bool) :=
 Qd (Q8j N j.name) fun s =>
 if (!s) = true then (
  some true
 ) else (
  if (decide (j.fields < 0)) = true then (
   some true
  ) else (
   if (decide (j.fields > 6)) = true then (
    some true
   ) else (
    Qd (Q7q N l0 l1 0 0 j.name) fun z =>
    some (z != ((q:Nat):Int))
   )
  )
 )
def Q81 (N:Nat) (s:List Qn) (l1:List Qp):Nat → Option (Nat ⊕ (Unit ⊕ Bool)):=fun j =>
 if (decide (j < s.length)) = true then (
  Qd (s[j]?) fun z =>
  Qd (Qai N z s l1 j
  ) fun q =>
  if q = true then (
   some (.inr (.inr false))
  ) else (
   gd (j + 1 ≤ 9223372036854775807) <|
   some (.inl (j + 1))
  )
 ) else (
  some (.inr (.inl ()))
 )
def Q82 (N:Nat) (l1:List Qp) (l0:List Qn):(Nat × Int × Int) → Option ((Nat × Int × Int) ⊕ (Unit ⊕ Bool)):=fun (j,q,s) =>
 if (decide (j < l1.length)) = true then (
  Qd (l1[j]?) fun z =>
  Qd (
   Qd (Q7r N l0 l1 q s z.name) fun aA =>
   if (aA != ((j:Nat):Int)) = true then (
    some (q,s,true)
   ) else (
    Qd (Q7s N l0 l1 q s z.name z.salience z.vars z.conds z.acts) fun (a6,a7,a8) =>
    some (a7,a8,!a6)
   )
  ) fun (a0,a1,a5) =>
  if a5 = true then (
   some (.inr (.inr false))
  ) else (
   gd (j + 1 ≤ 9223372036854775807) <|
   some (.inl (j + 1,a0,a1))
  )
 ) else (
  some (.inr (.inl ()))
 )
def Q6e (N:Nat) (q:List Qn) (s:List Qp):Option (Bool) :=
 Qd (
  if (decide (32 < q.length)) = true then (
   some true
  ) else (
   some (decide (64 < s.length))
  )
 ) fun j =>
 if j = true then (
  some false
 ) else (
  Q2I (
   Q1M (Q81 N q s) N 0
  ) fun _ =>
  Q2I (
   Q1M (Q82 N s q) N (0,0,0)
  ) fun _ =>
  some true
 )
def Q8K (N:Nat) (j:Int) (q:Int) (a2:ByteArray):Option (Bool) :=
 Qd (Q4a N j q a2) fun s =>
 some (!s)
def Q48 (N:Nat) (l0:List V):Nat → Option (Nat ⊕ (Unit ⊕ Int)):=fun j =>
 if (decide (j < l0.length)) = true then (
  Qd (l0[j]?) fun q =>
  Qd (Q8K N q.k q.n q.s) fun z =>
  if z = true then (
   some (.inr (.inr ((j:Nat):Int)))
  ) else (
   gd (j + 1 ≤ 9223372036854775807) <|
   some (.inl (j + 1))
  )
 ) else (
  some (.inr (.inl ()))
 )
def Q56 (N:Nat) (j:List V):Option (Int) :=
 Q2I (
  Q1M (Q48 N j) N 0
 ) fun _ =>
 some (-1)
def Q47 (N:Nat) (j:List V):Option (Bool) :=
 Qd (Q56 N j) fun q =>
 some (decide (q ≥ 0))
def Qak (N:Nat) (j:QU) (q:Int) (l0:List Qn):Option (Bool) :=
 if (decide (j.id ≤ q)) = true then (
  some true
 ) else (
  if (decide (j.id > 1099511627776)) = true then (
   some true
  ) else (
   if (decide (j.ty < 0)) = true then (
    some true
   ) else (
    if (decide (j.ty ≥ ((l0.length:Nat):Int))) = true then (
     some true
    ) else (
     gd (0 ≤ j.ty) <|
     Qd (l0[j.ty.toNat]?) fun s =>
     if (((j.args.length:Nat):Int) != s.fields) = true then (
      some true
     ) else (
      Qd (Q47 N j.args) fun z =>
      some z
     )
    )
   )
  )
 )
def Q87 (N:Nat) (l2:List QU) (l0:List Qn):(Nat × Int) → Option ((Nat × Int) ⊕ (Unit ⊕ Bool)):=fun (j,s) =>
 if (decide (j < l2.length)) = true then (
  Qd (l2[j]?) fun z =>
  Qd (Qak N z s l0
  ) fun q =>
  if q = true then (
   some (.inr (.inr false))
  ) else (
   gd (j + 1 ≤ 9223372036854775807) <|
   some (.inl (j + 1,z.id))
  )
 ) else (
  some (.inr (.inl ()))
 )
def Q6g (N:Nat) (j:List Qn) (_:List Qp) (q:List QU):Option (Bool) :=
 Q2I (
  Q1M (Q87 N q j) N (0,0)
 ) fun _ =>
 some true
def Q77 (_:Nat) (j:Int):Option ((List Bool) × (List V)) :=
 Qd (
  if (decide (j < 0)) = true then (
   some true
  ) else (
   some (decide (j > 16))
  )
 ) fun q =>
 if q = true then (
  some ([],[])
 ) else (
  gd (0 ≤ j) <|
  gd (j.toNat ≤ 140737488355328) <|
  gd (0 ≤ j) <|
  gd (j.toNat ≤ 4398046511104) <|
  some (List.replicate j.toNat false,(List.replicate j.toNat (⟨0,0,(⟨#[]⟩ : ByteArray)⟩ : V)))
 )
def Q6V (_:Nat) (j:Int) (q:List Int) (_:List V) (s:List QL):Option (Unit) :=
 gd (s.length + ([(⟨j,q⟩ : QL)]).length ≤ 4398046511104) <|
 some ()
def Q8k (N:Nat) (j:List Int) (q:List V) (s:List QL) (a3:Int):Option (Unit) :=
 gd (j.length ≤ 17592186044416) <|
 gd (q.length ≤ 4398046511104) <|
 Qd (Q6V N a3 j q s) fun _ =>
 some ()
def Q9P (N:Nat) (j:Int) (q:Int) (a2:ByteArray):Option (Int × Int × ByteArray × Nat) :=
 Qd (Q4a N j q a2) fun s =>
 if (!s) = true then (
  some (0,0,(⟨#[]⟩ : ByteArray),2)
 ) else (
  some (j,q,a2,0)
 )
def Q9X (N:Nat) (_:Int) (a1:Int) (a2:Int) (a3:ByteArray) (_:Int) (_:Int) (_:List Qo):Option (Int × Int × ByteArray × Nat) :=
 Qd (Q9P N a1 a2 a3) fun (j,q,s,z) =>
 some (j,q,s,z)
def Q9Y (N:Nat) (_:Int) (_:Int) (_:Int) (_:ByteArray) (a4:Int) (_:Int) (_:List Qo) (l7:List V):Option (Int × Int × ByteArray × Nat) :=
 Qd (
  if (decide (a4 < 0)) = true then (
   some true
  ) else (
   some (decide (a4 ≥ ((l7.length:Nat):Int)))
  )
 ) fun j =>
 if j = true then (
  some (0,0,(⟨#[]⟩ : ByteArray),2)
 ) else (
  gd (0 ≤ a4) <|
  Qd (l7[a4.toNat]?) fun q =>
  Qd (Q9P N q.k q.n q.s) fun (z,a6,a7,a8) =>
  some (z,a6,a7,a8)
 )
def Q6N (_:Nat) (_:Int):Option (Unit) :=
 some ()
def Q7f (N:Nat) (j:Bool):Option (Int) :=
 if j = true then (
  Qd (Q6N N 1) fun _ =>
  some 1
 ) else (
  Qd (Q6N N 0) fun _ =>
  some 0
 )
def Q2a (_:Nat) (j:Int):Option (Unit ⊕ (Unit ⊕ (Unit ⊕ (Unit ⊕ (Unit ⊕ (Unit ⊕ (Unit ⊕ (Unit ⊕ (Unit ⊕ Unit))))))))) :=
 if (j == 1) = true then (
 some (.inl ())
 ) else (
 if (j == 2) = true then (
 some (.inr (.inl ()))
 ) else (
 if (j == 3) = true then (
 some (.inr (.inr (.inl ())))
 ) else (
 if (j == 4) = true then (
 some (.inr (.inr (.inr (.inl ()))))
 ) else (
 if (j == 7) = true then (
 some (.inr (.inr (.inr (.inr (.inl ())))))
 ) else (
 if (j == 8) = true then (
 some (.inr (.inr (.inr (.inr (.inr (.inl ()))))))
 ) else (
 if (j == 9) = true then (
 some (.inr (.inr (.inr (.inr (.inr (.inr (.inl ())))))))
 ) else (
 if (j == 10) = true then (
 some (.inr (.inr (.inr (.inr (.inr (.inr (.inr (.inl ()))))))))
 ) else (
 if (j == 11) = true then (
 some (.inr (.inr (.inr (.inr (.inr (.inr (.inr (.inr (.inl ())))))))))
 ) else (
 some (.inr (.inr (.inr (.inr (.inr (.inr (.inr (.inr (.inr ())))))))))
 )))))))))
def Q9e (_:Nat) (_:Int) (_:Int):Option (Unit) :=
 some ()
def Q9f (_:Nat) (_:Int) (_:Int):Option (Unit) :=
 some ()
def Q8L (_:Nat) (s:Int) (z:Int):Option (Int × Bool) :=
 Qd (
  if (decide (s < 0)) = true then (
   some (IntKind.wrap .u64 (0 - (IntKind.wrap .u64 s)))
  ) else (
   some (IntKind.wrap .u64 s)
  )
 ) fun j =>
 Qd (
  if (decide (z < 0)) = true then (
   some (IntKind.wrap .u64 (0 - (IntKind.wrap .u64 z)))
  ) else (
   some (IntKind.wrap .u64 z)
  )
 ) fun q =>
 gd (0 ≤ j ∧ j < 18446744073709551616) <|
 gd (0 ≤ q ∧ q < 18446744073709551616) <|
 if ((decide (s < 0)) != (decide (z < 0))) = true then (
  if (((j.toNat * q.toNat / 18446744073709551616:Nat):Int) == 0) = true then (
   some ((IntKind.wrap .i64 (IntKind.wrap .u64 (0 - ((j.toNat * q.toNat % 18446744073709551616:Nat):Int)))),(decide (((j.toNat * q.toNat % 18446744073709551616:Nat):Int) ≤ 9223372036854775808)))
  ) else (
   some ((IntKind.wrap .i64 (IntKind.wrap .u64 (0 - ((j.toNat * q.toNat % 18446744073709551616:Nat):Int)))),false)
  )
 ) else (
  if (((j.toNat * q.toNat / 18446744073709551616:Nat):Int) == 0) = true then (
   some ((IntKind.wrap .i64 ((j.toNat * q.toNat % 18446744073709551616:Nat):Int)),(decide (((j.toNat * q.toNat % 18446744073709551616:Nat):Int) < 9223372036854775808)))
  ) else (
   some ((IntKind.wrap .i64 ((j.toNat * q.toNat % 18446744073709551616:Nat):Int)),false)
  )
 )
def Q9g (_:Nat) (_:Int) (_:Int):Option (Unit) :=
 some ()
def Q3b (N:Nat) (j:Bool):Option (Int) :=
 Qd (Q7f N j) fun q =>
 some q
def Q9h (N:Nat) (q:Int) (s:Int):Option (Int) :=
 Qd (Q3b N (decide (q < s))) fun j =>
 some j
def Q9i (N:Nat) (q:Int) (s:Int):Option (Int) :=
 Qd (Q3b N (decide (q ≤ s))) fun j =>
 some j
def Q9j (N:Nat) (q:Int) (s:Int):Option (Int) :=
 if (q != 0) = true then (
  Qd (Q3b N (s != 0)) fun j =>
  some j
 ) else (
  Qd (Q3b N false) fun j =>
  some j
 )
def Q9k (N:Nat) (q:Int) (s:Int):Option (Int) :=
 if (q != 0) = true then (
  Qd (Q3b N true) fun j =>
  some j
 ) else (
  Qd (Q3b N (s != 0)) fun j =>
  some j
 )
def Q9l (N:Nat) (q:Int) (_:Int):Option (Int) :=
 Qd (Q3b N (q == 0)) fun j =>
 some j
def Qbx (_:Nat) (q:Int):Option (Nat) :=
 Qd (
  if (q == 4) = true then (
   some true
  ) else (
   some (q == 11)
  )
 ) fun j =>
 if j = true then (
  some 1
 ) else (
  some 2
 )
def Qby (N:Nat) (l1:List V) (q:Nat) (z:Bool):Option (Bool ⊕ ((Nat × Bool) ⊕ (Bool ⊕ (Nat × Int × Nat)))) :=
 Qd (l1[q]?) fun j =>
 Qd (Q4a N j.k j.n j.s) fun a0 =>
 if (!a0) = true then (
  some (.inr (.inr (.inr (0,0,2))))
 ) else (
  if z = true then (
   some (.inl true)
  ) else (
   some (.inl (j.k == 2))
  )
 )
def Qa0 (N:Nat) (z:List V):(Nat × Bool) → Option ((Nat × Bool) ⊕ (Bool ⊕ (Nat × Int × Nat))):=fun (j,q) =>
 if (decide (j < z.length)) = true then (
  Q2I (Qby N z j q
  ) fun s =>
  gd (j + 1 ≤ 9223372036854775807) <|
  some (.inl (j + 1,s))
 ) else (
  some (.inr (.inl q))
 )
def Qbz (N:Nat) (a0:Int) (j:V) (q:V):Option (Int × Bool) :=
 Qd (Q2a N a0) fun
 | .inl _=>(
 Qd (Q9e N j.n q.n) fun _ =>
 some (IntKind.wrap .i64 (j.n + q.n),(decide ((IntKind.wrap .i64 (j.n + q.n)) < j.n)) == (decide (q.n < 0)))
 )
 | .inr (.inl _)=>(
 Qd (Q9f N j.n q.n) fun _ =>
 some (IntKind.wrap .i64 (j.n - q.n),(decide ((IntKind.wrap .i64 (j.n - q.n)) > j.n)) == (decide (q.n < 0)))
 )
 | .inr (.inr (.inl _))=>(
 Qd (Q8L N j.n q.n) fun (z,a1) =>
 some (z,a1)
 )
 | .inr (.inr (.inr (.inl _)))=>(
 Qd (Q9g N j.n q.n) fun _ =>
 some (IntKind.wrap .i64 (0 - j.n),j.n != -9223372036854775808)
 )
 | .inr (.inr (.inr (.inr (.inl _))))=>(
 Qd (Q9h N j.n q.n) fun s =>
 some (s,true)
 )
 | .inr (.inr (.inr (.inr (.inr (.inl _)))))=>(
 Qd (Q9i N j.n q.n) fun s =>
 some (s,true)
 )
 | .inr (.inr (.inr (.inr (.inr (.inr (.inl _))))))=>(
 Qd (Q9j N j.n q.n) fun s =>
 some (s,true)
 )
 | .inr (.inr (.inr (.inr (.inr (.inr (.inr (.inl _)))))))=>(
 Qd (Q9k N j.n q.n) fun s =>
 some (s,true)
 )
 | .inr (.inr (.inr (.inr (.inr (.inr (.inr (.inr (.inl _))))))))=>(
 Qd (Q9l N j.n q.n) fun s =>
 some (s,true)
 )
 | .inr (.inr (.inr (.inr (.inr (.inr (.inr (.inr (.inr _))))))))=>(
 none
 )
def m_value_Do (N:Nat) (a0:Int) (l1:List V):Option (Nat × Int × Nat) :=
 Qd (Qbx N a0
 ) fun j =>
 Qd (
  if (decide (a0 < 1)) = true then (
   some true
  ) else (
   if (decide (a0 > 11)) = true then (
    some true
   ) else (
    some (l1.length != j)
   )
  )
 ) fun s =>
 if s = true then (
  some (0,0,2)
 ) else (
  Q2I (
   Q1M (Qa0 N l1) N (0,false)
  ) fun a1 =>
  Qd (l1[0]?) fun a5 =>
  gd (-9223372036854775808 ≤ ((j:Nat):Int) - 1 ∧ ((j:Nat):Int) - 1 ≤ 9223372036854775807) <|
  gd (0 ≤ ((j:Nat):Int) - 1) <|
  Qd (l1[(((j:Nat):Int) - 1).toNat]?) fun a6 =>
  if (a0 == 5) = true then (
   Qd (Q7f N (decide (a5 = a6))) fun a9 =>
   some (1,a9,0)
  ) else (
   if (a0 == 6) = true then (
    Qd (Q7f N (!decide (a5 = a6))) fun aA =>
    some (1,aA,0)
   ) else (
    if a1 = true then (
     some (0,0,301)
    ) else (
     Qd (Qbz N a0 a5 a6
     ) fun (q,z) =>
     if (!z) = true then (
      some (0,0,300)
     ) else (
      Qd (Q6N N q) fun _ =>
      some (1,q,0)
     )
    )
   )
  )
 )
def Q85 (_:Nat) (l1:List Qo) (rc:Int → Int → Int → ByteArray → Int → Int → (List Qo) → (List V) → Option (Int × Int × ByteArray × Nat)) (l0:List V):(Nat × (List V)) → Option ((Nat × (List V)) ⊕ ((List V) ⊕ ((List V) × Nat))):=fun (j,q) =>
 if (decide (j < l1.length)) = true then (
  Qd (l1[j]?) fun z =>
  Qd (rc z.kind z.value.k z.value.n z.value.s z.var z.op z.kids l0) fun (a0,a1,a5,a6) =>
  if (a6 != 0) = true then (
   some (.inr (.inr ([],a6)))
  ) else (
   gd (q.length + ([(⟨a0,a1,a5⟩ : V)]).length ≤ 4398046511104) <|
   gd (j + 1 ≤ 9223372036854775807) <|
   some (.inl (j + 1,(q ++ ([(⟨a0,a1,a5⟩ : V)]))))
  )
 ) else (
  some (.inr (.inl q))
 )
def Q9W (N:Nat) (rc:Int → Int → Int → ByteArray → Int → Int → (List Qo) → (List V) → Option (Int × Int × ByteArray × Nat)) (q:List V) (s:List Qo):Option ((List V) × Nat) :=
 Q2I (
  Q1M (Q85 N s rc q) N (0,[])
 ) fun j =>
 some (j,0)
def Q86 (N:Nat) (rc:Int → Int → Int → ByteArray → Int → Int → (List Qo) → (List V) → Option (Int × Int × ByteArray × Nat)) (l0:List V) (_:Int) (_:Int) (_:Int) (_:ByteArray) (_:Int) (a6:Int) (l7:List Qo):Option (Nat × Int × Nat) :=
 Qd (Q9W N rc l0 l7) fun (q,j) =>
 if (j != 0) = true then (
  some (0,0,j)
 ) else (
  Qd (m_value_Do N a6 q) fun (s,z,a0) =>
  some (s,z,a0)
 )
def Q9Z (N:Nat) (rc:Int → Int → Int → ByteArray → Int → Int → (List Qo) → (List V) → Option (Int × Int × ByteArray × Nat)) (a0:Int) (a1:Int) (a2:Int) (a3:ByteArray) (a4:Int) (a5:Int) (l6:List Qo) (l7:List V):Option (Int × Int × ByteArray × Nat) :=
 if (a0 == 1) = true then (
 Qd (Q9X N a0 a1 a2 a3 a4 a5 l6) fun (j,q,s,z) =>
 some (j,q,s,z)
 ) else (
 if (a0 == 2) = true then (
 Qd (Q9Y N a0 a1 a2 a3 a4 a5 l6 l7) fun (j,q,s,z) =>
 some (j,q,s,z)
 ) else (
 if (a0 == 3) = true then (
 Qd (Q86 N rc l7 a0 a1 a2 a3 a4 a5 l6) fun (j,q,s) =>
 some (((j:Nat):Int),q,(⟨#[]⟩ : ByteArray),s)
 ) else (
 if (!false) = true then (
  some (0,0,(⟨#[]⟩ : ByteArray),2)
 ) else (
  none
 )
 )))
def Q7x:Nat → Int → Int → Int → ByteArray → Int → Int → (List Qo) → (List V) → Option (Int × Int × ByteArray × Nat)
 | 0=>fun _=>fun _=>fun _=>fun _=>fun _=>fun _=>fun _=>fun _=>none
 | N + 1=>Q9Z N (Q7x N)
def Q6k (_:Nat) (l0:List Bool) (l1:List V):Nat → Option (Nat ⊕ (Unit ⊕ Bool)):=fun j =>
 if (decide (j < l0.length)) = true then (
  Qd (l0[j]?) fun s =>
  Qd (
   if (!s) = true then (
    Qd (l1[j]?) fun z =>
    some (!decide (z = (⟨0,0,(⟨#[]⟩ : ByteArray)⟩ : V)))
   ) else (
    some false
   )
  ) fun q =>
  if q = true then (
   some (.inr (.inr false))
  ) else (
   gd (j + 1 ≤ 9223372036854775807) <|
   some (.inl (j + 1))
  )
 ) else (
  some (.inr (.inl ()))
 )
def Q7t (N:Nat) (j:List Bool) (q:List V):Option (Bool) :=
 if (j.length != q.length) = true then (
  some false
 ) else (
  Q2I (
   Q1M (Q6k N j q) N 0
  ) fun _ =>
  some true
 )
def QaF (_:Nat) (j:List Bool) (q:List V):Option (Unit) :=
 gd (j.length ≤ 140737488355328) <|
 gd (q.length ≤ 4398046511104) <|
 some ()
def Q78 (_:Nat) (j:Bool) (a3:Int) (q:List Bool) (s:List V) (z:Int) (a8:Int) (a9:ByteArray):Option ((List Bool) × (List V)) :=
 if j = true then (
  gd (0 ≤ a3) <|
  Qd (q[a3.toNat]?) fun _ =>
  gd (0 ≤ a3) <|
  Qd (s[a3.toNat]?) fun _ =>
  some (q.set a3.toNat true,(s.set a3.toNat (⟨z,a8,a9⟩ : V)))
 ) else (
  some (q,s)
 )
def Q6l (N:Nat) (z:List Bool) (l1:List V) (a2:Int) (a3:Int) (a4:Int) (a5:Int) (a6:ByteArray) (a7:Int) (a8:Int) (a9:ByteArray):Option (Bool × (List Bool) × (List V)) :=
 Qd (
  if (decide (a3 ≥ 0)) = true then (
   some (decide (a3 < ((z.length:Nat):Int)))
  ) else (
   some false
  )
 ) fun j =>
 if (a2 == 1) = true then (
  some (true,z,l1)
 ) else (
  if (a2 == 4) = true then (
   some ((decide ((⟨a4,a5,a6⟩ : V) = (⟨a7,a8,a9⟩ : V))),z,l1)
  ) else (
   if (a2 == 3) = true then (
    if j = true then (
     gd (0 ≤ a3) <|
     Qd (z[a3.toNat]?) fun aC =>
     if aC = true then (
      gd (0 ≤ a3) <|
      Qd (l1[a3.toNat]?) fun aD =>
      some ((decide (aD = (⟨a7,a8,a9⟩ : V))),z,l1)
     ) else (
      some (false,z,l1)
     )
    ) else (
     some (false,z,l1)
    )
   ) else (
    if (a2 == 2) = true then (
     Qd (Q78 N j a3 z l1 a7 a8 a9
     ) fun (q,s) =>
     some (j,q,s)
    ) else (
     some (false,z,l1)
    )
   )
  )
 )
def Q9d (N:Nat) (j:Bool) (a1:Int) (q:Int) (l2:List Q3B) (s:List V) (z:List Bool) (a0:List V):Option (Bool) :=
 if (!j) = true then (
  some true
 ) else (
  if (a1 != q) = true then (
   some true
  ) else (
   if (l2.length != s.length) = true then (
    some true
   ) else (
    Qd (Q7t N z a0) fun a5 =>
    some (!a5)
   )
  )
 )
def Q7u (N:Nat) (l2:List Q3B) (a8:List V):(Nat × (List Bool) × (List V)) → Option ((Nat × (List Bool) × (List V)) ⊕ (((List Bool) × (List V)) ⊕ ((List Bool) × (List V) × Bool))):=fun (j,q,z) =>
 if (decide (j < l2.length)) = true then (
  Qd (l2[j]?) fun a0 =>
  Qd (a8[j]?) fun a1 =>
  Qd (Q6l N q z a0.k a0.var a0.v.k a0.v.n a0.v.s a1.k a1.n a1.s) fun (a5,a6,a7) =>
  if (!a5) = true then (
   some (.inr (.inr ([],[],false)))
  ) else (
   gd (j + 1 ≤ 9223372036854775807) <|
   some (.inl (j + 1,a6,a7))
  )
 ) else (
  some (.inr (.inl (q,z)))
 )
def Q4H (N:Nat) (a0:Int) (a1:Int) (l2:List Q3B) (_:Int) (_:Int) (_:Int) (_:ByteArray) (_:Int) (_:Int) (_:List Qo) (_:Int) (aC:Int) (aB:List V) (z:List Bool) (a9:List V):Option ((List Bool) × (List V) × Bool) :=
 Qd (
  if (a0 == 1) = true then (
   some true
  ) else (
   some (a0 == 2)
  )
 ) fun aA =>
 Qd (Q9d N aA a1 aC l2 aB z a9
 ) fun s =>
 if s = true then (
  some ([],[],false)
 ) else (
  Qd (QaF N z a9) fun _ =>
  Q2I (
   Q1M (Q7u N l2 aB) N (0,z,a9)
  ) fun (j,q) =>
  some (j,q,true)
 )
def Q88 (N:Nat) (a0:Int) (a1:Int) (l2:List V) (a3:Int) (a4:Int) (l5:List Q3B) (a6:Int) (a7:Int) (a8:Int) (a9:ByteArray) (q:Int) (s:Int) (z:List Qo) (a5:List Bool) (aA:List V):Option (Bool) :=
 Qd (Q4H N a3 a4 l5 a6 a7 a8 a9 q s z a0 a1 l2 a5 aA) fun (_,_,j) =>
 some j
def Q4l (N:Nat) (l0:List QU) (a1:Int) (a2:Int) (l3:List Q3B) (a4:Int) (a5:Int) (a6:Int) (a7:ByteArray) (a8:Int) (a9:Int) (s:List Qo) (z:List Bool) (a0:List V):Nat → Option (Nat ⊕ (Unit ⊕ Int)):=fun j =>
 if (decide (j < l0.length)) = true then (
  Qd (l0[j]?) fun q =>
  Qd (Q88 N q.id q.ty q.args a1 a2 l3 a4 a5 a6 a7 a8 a9 s z a0) fun aA =>
  if aA = true then (
   some (.inr (.inr ((j:Nat):Int)))
  ) else (
   gd (j + 1 ≤ 9223372036854775807) <|
   some (.inl (j + 1))
  )
 ) else (
  some (.inr (.inl ()))
 )
def Q5w (N:Nat) (z:List QU) (a1:Int) (a2:Int) (l3:List Q3B) (a4:Int) (a5:Int) (a6:Int) (a7:ByteArray) (a8:Int) (a9:Int) (j:List Qo) (q:List Bool) (s:List V):Option (Int) :=
 Q2I (
  Q1M (Q4l N z a1 a2 l3 a4 a5 a6 a7 a8 a9 j q s) N 0
 ) fun _ =>
 some (-1)
def Q4i (N:Nat) (z:List QU) (a1:Int) (a2:Int) (l3:List Q3B) (a4:Int) (a5:Int) (a6:Int) (a7:ByteArray) (a8:Int) (a9:Int) (j:List Qo) (q:List Bool) (s:List V):Option (Bool) :=
 Qd (Q5w N z a1 a2 l3 a4 a5 a6 a7 a8 a9 j q s) fun v7 =>
 some (decide (v7 ≥ 0))
def Q6E (N:Nat) (z:Int) (a1:Int) (l2:List Q3B) (a3:Int) (a4:Int) (a5:Int) (a6:ByteArray) (a7:Int) (a8:Int) (l9:List Qo) (j:List Bool) (q:List V) (s:List QU):Option (Bool) :=
 Qd (Q4i N s z a1 l2 a3 a4 a5 a6 a7 a8 l9 j q) fun v9 =>
 some v9
def Q3V (_:Nat) (q:Int) (j:Int):Option (Int ⊕ ((Int × (List QL)) ⊕ Unit)) :=
 if (decide (q > 0)) = true then (
  gd (-9223372036854775808 ≤ j - 1 ∧ j - 1 ≤ 9223372036854775807) <|
  if (decide ((j - 1) < 0)) = true then (
   some (.inr (.inr ()))
  ) else (
   some (.inl (j - 1))
  )
 ) else (
  some (.inl j)
 )
def Q2V (N:Nat) (l7:List QU) (aA:Nat) (q:QN) (l0:List Bool) (l1:List V) (a0:List Bool) (a1:List V) (a5:List Int) (z:Int) (j:List QL) (l8:List Int) (aB:Int) (rc:(List Bool) → (List V) → ByteArray → Int → Int → (List QN) → (List Q1c) → (List QU) → (List Int) → Int → (List QL) → Int → Int → Option ((Int × (List QL)) ⊕ Unit)) (a2:ByteArray) (a3:Int) (a4:Int) (l5:List QN) (l6:List Q1c) (aD:Int):Option (((List Bool) × (List V) × (List Int) × Int × (List QL)) ⊕ ((Nat × (List Bool) × (List V) × (List Int) × Int × (List QL)) ⊕ (((List Bool) × (List V) × (List Int) × Int × (List QL)) ⊕ ((Int × (List QL)) ⊕ Unit)))) :=
 Qd (l7[aA]?) fun a6 =>
 Qd (Q4H N q.kind q.type q.args q.test.kind q.test.value.k q.test.value.n q.test.value.s q.test.var q.test.op q.test.kids a6.id a6.ty a6.args l0 l1) fun (a7,a8,aC) =>
 if (!aC) = true then (
  some (.inl (a0,a1,a5,z,j))
 ) else (
  gd (l8.length ≤ l8.length ∧ l8.length ≤ l8.length) <|
  gd ((l8.take l8.length).length + ([a6.id] : List Int).length ≤ 17592186044416) <|
  gd (-9223372036854775808 ≤ aB + 1 ∧ aB + 1 ≤ 9223372036854775807) <|
  Qd (rc a7 a8 a2 a3 a4 l5 l6 l7 ((l8.take l8.length) ++ [a6.id]) z j aD (aB + 1)) fun
  | .inl (v107,v107_1)=>(
  some (.inl (a7,a8,(l8.take l8.length) ++ [a6.id],v107,v107_1))
  )
  | .inr _=>(
  some (.inr (.inr (.inr (.inr ()))))
  )
 )
def Q1X (N:Nat) (l7:List QU) (aA:QN) (l0:List Bool) (l1:List V) (l8:List Int) (aB:Int) (rc:(List Bool) → (List V) → ByteArray → Int → Int → (List QN) → (List Q1c) → (List QU) → (List Int) → Int → (List QL) → Int → Int → Option ((Int × (List QL)) ⊕ Unit)) (a2:ByteArray) (a3:Int) (a4:Int) (l5:List QN) (l6:List Q1c) (aC:Int):(Nat × (List Bool) × (List V) × (List Int) × Int × (List QL)) → Option ((Nat × (List Bool) × (List V) × (List Int) × Int × (List QL)) ⊕ (((List Bool) × (List V) × (List Int) × Int × (List QL)) ⊕ ((Int × (List QL)) ⊕ Unit))):=fun (a1,s,z,a0,a5,j) =>
 if (decide (a1 < l7.length)) = true then (
  Q2I (Q2V N l7 a1 aA l0 l1 s z a0 a5 j l8 aB rc a2 a3 a4 l5 l6 aC
  ) fun (a6,a7,a8,a9,q) =>
  gd (a1 + 1 ≤ 9223372036854775807) <|
  some (.inl (a1 + 1,a6,a7,a8,a9,q))
 ) else (
  some (.inr (.inl (s,z,a0,a5,j)))
 )
def Q29 (N:Nat) (rc:(List Bool) → (List V) → ByteArray → Int → Int → (List QN) → (List Q1c) → (List QU) → (List Int) → Int → (List QL) → Int → Int → Option ((Int × (List QL)) ⊕ Unit)) (l0:List Bool) (l1:List V) (a2:ByteArray) (a3:Int) (a4:Int) (l5:List QN) (l6:List Q1c) (l7:List QU) (l8:List Int) (a9:Int) (a1:List QL) (a6:Int) (a0:Int):Option ((Int × (List QL)) ⊕ Unit) :=
 Q2I (Q3V N a0 a9
 ) fun j =>
 if (a0 == ((l5.length:Nat):Int)) = true then (
  Qd (Q8k N l8 l1 a1 a6) fun _ =>
  some (.inl (j,(a1 ++ ([(⟨a6,l8⟩ : QL)]))))
 ) else (
  gd (0 ≤ a0) <|
  Qd (l5[a0.toNat]?) fun z =>
  if (z.kind == 3) = true then (
   Qd (Q7x N z.test.kind z.test.value.k z.test.value.n z.test.value.s z.test.var z.test.op z.test.kids l1) fun (a8,aA,_,aB) =>
   Qd (
    if (aB == 0) = true then (
     if (a8 == 1) = true then (
      some (aA != 0)
     ) else (
      some false
     )
    ) else (
     some false
    )
   ) fun a7 =>
   if a7 = true then (
    gd (-9223372036854775808 ≤ a0 + 1 ∧ a0 + 1 ≤ 9223372036854775807) <|
    Qd (rc l0 l1 a2 a3 a4 l5 l6 l7 l8 j a1 a6 (a0 + 1)) fun
    | .inl (v145,v145_1)=>(
    some (.inl (v145,v145_1))
    )
    | .inr _=>(
    some (.inr ())
    )
   ) else (
    some (.inl (j,a1))
   )
  ) else (
   if (z.kind == 2) = true then (
    Qd (Q6E N z.kind z.type z.args z.test.kind z.test.value.k z.test.value.n z.test.value.s z.test.var z.test.op z.test.kids l0 l1 l7) fun aJ =>
    if (!aJ) = true then (
     gd (-9223372036854775808 ≤ a0 + 1 ∧ a0 + 1 ≤ 9223372036854775807) <|
     Qd (rc l0 l1 a2 a3 a4 l5 l6 l7 l8 j a1 a6 (a0 + 1)) fun
     | .inl (v162,v162_1)=>(
     some (.inl (v162,v162_1))
     )
     | .inr _=>(
     some (.inr ())
     )
    ) else (
     some (.inl (j,a1))
    )
   ) else (
    Q2I (
     Q1M (Q1X N l7 z l0 l1 l8 a0 rc a2 a3 a4 l5 l6 a6) N (0,l0,l1,l8,j,a1)
    ) fun (_,_,_,a5,q) =>
    some (.inl (a5,q))
   )
  )
 )
def Q24:Nat → (List Bool) → (List V) → ByteArray → Int → Int → (List QN) → (List Q1c) → (List QU) → (List Int) → Int → (List QL) → Int → Int → Option ((Int × (List QL)) ⊕ Unit)
 | 0=>fun _=>fun _=>fun _=>fun _=>fun _=>fun _=>fun _=>fun _=>fun _=>fun _=>fun _=>fun _=>fun _=>none
 | N + 1=>Q29 N (Q24 N)
def Q2o (N:Nat) (l1:List Qp) (l2:List QU):(Nat × Int × (List QL)) → Option ((Nat × Int × (List QL)) ⊕ ((List QL) ⊕ (Unit ⊕ (List QL)))):=fun (q,a1,j) =>
 if (decide (q < l1.length)) = true then (
  Qd (l1[q]?) fun s =>
  Qd (Q77 N s.vars) fun (z,a0) =>
  Qd (Q24 N z a0 s.name s.salience s.vars s.conds s.acts l2 ([] : List Int) a1 j ((q:Nat):Int) 0) fun
  | .inl (v33,v33_1)=>(
  gd (q + 1 ≤ 9223372036854775807) <|
  some (.inl (q + 1,v33,v33_1))
  )
  | .inr _=>(
  some (.inr (.inr (.inl ())))
  )
 ) else (
  some (.inr (.inl j))
 )
def Q5j (N:Nat) (_:List Qn) (q:List Qp) (s:List QU) (z:List QL):Option (Unit ⊕ (List QL)) :=
 Q2I (
  Q1M (Q2o N q s) N (0,4096,z)
 ) fun j =>
 some (.inr j)
def Q3U (N:Nat) (q:List Qn) (s:List Qp) (l2:List QU):Option ((List QL) × Nat) :=
 Qd (
  Qd (Q6e N q s) fun v9 =>
  if (!v9) = true then (
   some true
  ) else (
   Qd (Q6g N q s l2) fun z =>
   some (!z)
  )
 ) fun j =>
 if j = true then (
  some ([],2)
 ) else (
  Qd (Q5j N q s l2 []) fun
  | .inl _=>(
  some ([],204)
  )
  | .inr v20=>(
  some (v20,0)
  )
 )
def Q7m (_:Nat) (_:Int):Option (Unit) :=
 some ()
def Q7I (N:Nat) (q:Int) (j:Int):Option (Int) :=
 Qd (Q7m N q) fun _ =>
 Qd (Q7m N j) fun _ =>
 if (q != q) = true then (
  if (j != j) = true then (
   some 0
  ) else (
   some (-1)
  )
 ) else (
  if (j != j) = true then (
   some 1
  ) else (
   if (decide (q < j)) = true then (
    some (-1)
   ) else (
    if (decide (q > j)) = true then (
     some 1
    ) else (
     some 0
    )
   )
  )
 )
def Q7J (N:Nat) (j:Int) (_:Int) (_:List V) (a3:Int):Option (Int) :=
 Qd (Q7I N j a3) fun q =>
 some q
def Q3a (N:Nat) (l0:List QU) (a1:Int):(Int × Int) → Option ((Int × Int) ⊕ Int):=fun (j,q) =>
 if (decide (q < j)) = true then (
  gd (-9223372036854775808 ≤ q + j ∧ q + j ≤ 9223372036854775807) <|
  gd (0 ≤ IntKind.wrap .i64 (Int.fdiv (IntKind.wrap .u64 (q + j)) (2 ^ (1)))) <|
  Qd (l0[(IntKind.wrap .i64 (Int.fdiv (IntKind.wrap .u64 (q + j)) (2 ^ (1)))).toNat]?) fun s =>
  Qd (Q7J N s.id s.ty s.args a1) fun z =>
  if (decide (z < 0)) = true then (
   gd (-9223372036854775808 ≤ (IntKind.wrap .i64 (Int.fdiv (IntKind.wrap .u64 (q + j)) (2 ^ (1)))) + 1 ∧ (IntKind.wrap .i64 (Int.fdiv (IntKind.wrap .u64 (q + j)) (2 ^ (1)))) + 1 ≤ 9223372036854775807) <|
   some (.inl (j,(IntKind.wrap .i64 (Int.fdiv (IntKind.wrap .u64 (q + j)) (2 ^ (1)))) + 1))
  ) else (
   some (.inl (IntKind.wrap .i64 (Int.fdiv (IntKind.wrap .u64 (q + j)) (2 ^ (1))),q))
  )
 ) else (
  some (.inr q)
 )
def Q3M (N:Nat) (s:List QU) (a1:Int):Option (Int × Bool) :=
 Qd (
  Q1M (Q3a N s a1) N (((s.length:Nat):Int),0)
 ) fun j =>
 if (decide (j < ((s.length:Nat):Int))) = true then (
  gd (0 ≤ j) <|
  Qd (s[j.toNat]?) fun q =>
  Qd (Q7J N q.id q.ty q.args a1) fun z =>
  some (j,z == 0)
 ) else (
  some (j,false)
 )
def Qb6 (N:Nat) (z:List Qn) (j:List Qp) (l4:List QU) (a2:Int):Option (Bool) :=
 Qd (Q6e N z j) fun q =>
 if (!q) = true then (
  some true
 ) else (
  Qd (Q6g N z j l4) fun s =>
  if (!s) = true then (
   some true
  ) else (
   if (decide (a2 < 0)) = true then (
    some true
   ) else (
    some (decide (a2 ≥ ((j.length:Nat):Int)))
   )
  )
 )
def Qb7 (N:Nat) (aG:Qp) (a6:Nat) (q:List V) (a0:Nat) (z:List Bool) (l4:List QU) (l3:List Int):Option ((Nat × (List Bool) × (List V)) ⊕ ((Nat × Nat × (List Bool) × (List V)) ⊕ ((Nat × (List Bool) × (List V)) ⊕ ((List V) × Bool)))) :=
 Qd (aG.conds[a6]?) fun j =>
 if (j.kind == 3) = true then (
  Qd (Q7x N j.test.kind j.test.value.k j.test.value.n j.test.value.s j.test.var j.test.op j.test.kids q) fun (a7,a8,_,a9) =>
  Qd (
   if (a9 != 0) = true then (
    some true
   ) else (
    if (a7 != 1) = true then (
     some true
    ) else (
     some (a8 == 0)
    )
   )
  ) fun a1 =>
  if a1 = true then (
   some (.inr (.inr (.inr ([],false))))
  ) else (
   some (.inl (a0,z,q))
  )
 ) else (
  if (j.kind == 2) = true then (
   Qd (Q6E N j.kind j.type j.args j.test.kind j.test.value.k j.test.value.n j.test.value.s j.test.var j.test.op j.test.kids z q l4) fun aF =>
   if aF = true then (
    some (.inr (.inr (.inr ([],false))))
   ) else (
    some (.inl (a0,z,q))
   )
  ) else (
   if (decide (l3.length ≤ a0)) = true then (
    some (.inr (.inr (.inr ([],false))))
   ) else (
    Qd (l3[a0]?) fun aJ =>
    Qd (Q3M N l4 aJ) fun (a5,aA) =>
    if (!aA) = true then (
     some (.inr (.inr (.inr ([],false))))
    ) else (
     gd (0 ≤ a5) <|
     Qd (l4[a5.toNat]?) fun aB =>
     Qd (Q4H N j.kind j.type j.args j.test.kind j.test.value.k j.test.value.n j.test.value.s j.test.var j.test.op j.test.kids aB.id aB.ty aB.args z q) fun (aC,aD,aE) =>
     if (!aE) = true then (
      some (.inr (.inr (.inr ([],false))))
     ) else (
      gd (a0 + 1 ≤ 9223372036854775807) <|
      some (.inl (a0 + 1,aC,aD))
     )
    )
   )
  )
 )
def Q8J (N:Nat) (a6:Qp) (l4:List QU) (l3:List Int):(Nat × Nat × (List Bool) × (List V)) → Option ((Nat × Nat × (List Bool) × (List V)) ⊕ ((Nat × (List Bool) × (List V)) ⊕ ((List V) × Bool))):=fun (s,a1,j,q) =>
 if (decide (s < a6.conds.length)) = true then (
  Q2I (Qb7 N a6 s q a1 j l4 l3
  ) fun (a5,z,a0) =>
  gd (s + 1 ≤ 9223372036854775807) <|
  some (.inl (s + 1,a5,z,a0))
 ) else (
  some (.inr (.inl (a1,j,q)))
 )
def QaE (N:Nat) (l0:List Qn) (l1:List Qp) (a2:Int) (l3:List Int) (l4:List QU):Option ((List V) × Bool) :=
 Qd (Qb6 N l0 l1 l4 a2
 ) fun q =>
 if q = true then (
  some ([],false)
 ) else (
  gd (0 ≤ a2) <|
  Qd (l1[a2.toNat]?) fun a5 =>
  Qd (Q77 N a5.vars) fun (a0,a1) =>
  Q2I (
   Q1M (Q8J N a5 l4 l3) N (0,0,a0,a1)
  ) fun (s,_,j) =>
  if (decide (s < l3.length)) = true then (
   some ([],false)
  ) else (
   some (j,true)
  )
 )
def Q79 (_:Nat) (q:Nat) (j:List QL):Option (Bool) :=
 if (q != 0) = true then (
  some true
 ) else (
  if (j.length != 2) = true then (
   some true
  ) else (
   Qd (j[1]?) fun s =>
   if (s.ids.length != 2) = true then (
    some true
   ) else (
    Qd (j[1]?) fun z =>
    Qd (z.ids[1]?) fun a0 =>
    some (a0 != 2)
   )
  )
 )
def Q7a (_:Nat) (q:Bool) (j:List V):Option (Bool) :=
 if q = true then (
  if (j.length == 2) = true then (
   Qd (j[0]?) fun s =>
   if (s.n == 1) = true then (
    Qd (j[1]?) fun z =>
    some (z.n == 2)
   ) else (
    some false
   )
  ) else (
   some false
  )
 ) else (
  some false
 )
def Q4v (N:Nat):Option (Bool) :=
 Qd (Q3W N) fun (a7,a8) =>
 Qd (Q2q N 1 1 1) fun _ =>
 Qd (Q2q N 2 1 2) fun _ =>
 Qd (Q3U N a7 a8 [(⟨1,0,[(⟨1,1,(⟨#[]⟩ : ByteArray)⟩ : V),(⟨1,1,(⟨#[]⟩ : ByteArray)⟩ : V)]⟩ : QU),(⟨2,0,[(⟨1,1,(⟨#[]⟩ : ByteArray)⟩ : V),(⟨1,2,(⟨#[]⟩ : ByteArray)⟩ : V)]⟩ : QU)]) fun (j,s) =>
 Qd (Q79 N s j
 ) fun q =>
 if q = true then (
  some false
 ) else (
  Qd (Q3W N) fun (z,a0) =>
  Qd (j[1]?) fun a9 =>
  Qd (Q2q N 1 1 1) fun _ =>
  Qd (Q2q N 2 1 2) fun _ =>
  Qd (QaE N z a0 a9.rule a9.ids [(⟨1,0,[(⟨1,1,(⟨#[]⟩ : ByteArray)⟩ : V),(⟨1,1,(⟨#[]⟩ : ByteArray)⟩ : V)]⟩ : QU),(⟨2,0,[(⟨1,1,(⟨#[]⟩ : ByteArray)⟩ : V),(⟨1,2,(⟨#[]⟩ : ByteArray)⟩ : V)]⟩ : QU)]) fun (a1,a5) =>
  Qd (Q7a N a5 a1
  ) fun a6 =>
  some a6
 )
def Q3o (_:Nat) (s:Int) (j:Int):Option (Int) :=
 if (decide (j < 1)) = true then (
  some 0
 ) else (
  gd (j ≠ 0) <|
  Qd (
   if (decide ((Int.tmod s j) < 0)) = true then (
    gd (-9223372036854775808 ≤ (Int.tmod s j) + j ∧ (Int.tmod s j) + j ≤ 9223372036854775807) <|
    some ((Int.tmod s j) + j)
   ) else (
    some (Int.tmod s j)
   )
  ) fun q =>
  some q
 )
def Q2P (_:Nat) (s:Int):(Nat × (List QN)) → Option ((Nat × (List QN)) ⊕ (List QN)):=fun (q,j) =>
 if (decide (((q:Nat):Int) < (1 + s))) = true then (
  gd (j.length + ([(⟨1,0,[(⟨1,0,(⟨0,0,(⟨#[]⟩ : ByteArray)⟩ : V)⟩ : Q3B),(⟨1,0,(⟨0,0,(⟨#[]⟩ : ByteArray)⟩ : V)⟩ : Q3B)],(⟨0,(⟨0,0,(⟨#[]⟩ : ByteArray)⟩ : V),0,0,[]⟩ : Qo)⟩ : QN)]).length ≤ 1172812402961) <|
  gd (q + 1 ≤ 9223372036854775807) <|
  some (.inl (q + 1,(j ++ ([(⟨1,0,[(⟨1,0,(⟨0,0,(⟨#[]⟩ : ByteArray)⟩ : V)⟩ : Q3B),(⟨1,0,(⟨0,0,(⟨#[]⟩ : ByteArray)⟩ : V)⟩ : Q3B)],(⟨0,(⟨0,0,(⟨#[]⟩ : ByteArray)⟩ : V),0,0,[]⟩ : Qo)⟩ : QN)]))))
 ) else (
  some (.inr j)
 )
def Q25 (N:Nat) (s:Int):(Nat × (List QU)) → Option ((Nat × (List QU)) ⊕ (List QU)):=fun (j,q) =>
 if (decide (((j:Nat):Int) < (1 + s))) = true then (
  gd (j + 1 ≤ 9223372036854775807) <|
  Qd (Q2q N ((j + 1:Nat):Int) ((j:Nat):Int) 0) fun _ =>
  gd (q.length + ([(⟨(((j + 1:Nat):Int)),0,[(⟨1,(((j:Nat):Int)),(⟨#[]⟩ : ByteArray)⟩ : V),(⟨1,0,(⟨#[]⟩ : ByteArray)⟩ : V)]⟩ : QU)]).length ≤ 3518437208883) <|
  gd (j + 1 ≤ 9223372036854775807) <|
  some (.inl (j + 1,(q ++ [(⟨(((j + 1:Nat):Int)),0,[(⟨1,(((j:Nat):Int)),(⟨#[]⟩ : ByteArray)⟩ : V),(⟨1,0,(⟨#[]⟩ : ByteArray)⟩ : V)]⟩ : QU)])))
 ) else (
  some (.inr q)
 )
def Q26 (_:Nat) (a0:Int) (z:Int):(Nat × Int × Int) → Option ((Nat × Int × Int) ⊕ (Int × Int)):=fun (s,j,q) =>
 if (decide (((s:Nat):Int) < (1 + a0))) = true then (
  gd (-9223372036854775808 ≤ j * (1 + z) ∧ j * (1 + z) ≤ 9223372036854775807) <|
  gd (-9223372036854775808 ≤ q + (j * (1 + z)) ∧ q + (j * (1 + z)) ≤ 9223372036854775807) <|
  gd (s + 1 ≤ 9223372036854775807) <|
  some (.inl (s + 1,j * (1 + z),q + (j * (1 + z))))
 ) else (
  some (.inr (q,j))
 )
def Q3k (N:Nat) (a0:Int) (a1:Int):Option (Bool) :=
 Qd (Q4v N) fun a9 =>
 if (!a9) = true then (
  some false
 ) else (
  Qd (Q3o N a0 4) fun a5 =>
  gd (-9223372036854775808 ≤ 1 + a5 ∧ 1 + a5 ≤ 9223372036854775807) <|
  Qd (Q3o N a1 130) fun a6 =>
  gd (-9223372036854775808 ≤ 1 + a6 ∧ 1 + a6 ≤ 9223372036854775807) <|
  Qd (
   Q1M (Q2P N a5) N (0,[])
  ) fun j =>
  Qd (
   Q1M (Q25 N a6) N (0,[])
  ) fun q =>
  Qd (
   Q1M (Q26 N a5 a6) N (0,1,0)
  ) fun (a7,a8) =>
  Qd (Q3U N [(⟨(⟨#[112]⟩ : ByteArray),2⟩ : Qn)] [(⟨(⟨#[114]⟩ : ByteArray),0,0,j,[]⟩ : Qp)] q) fun (s,z) =>
  gd ([(⟨(⟨#[112]⟩ : ByteArray),2⟩ : Qn)].length = 1) <|
  gd ([(⟨(⟨#[114]⟩ : ByteArray),0,0,j,[]⟩ : Qp)].length = 1) <|
  if (decide (a7 > 4096)) = true then (
   if (z == 204) = true then (
    some (s.length == 0)
   ) else (
    some false
   )
  ) else (
   if (z == 0) = true then (
    some (((s.length:Nat):Int) == a8)
   ) else (
    some false
   )
  )
 )
end Go.Proofs.YtbgodclhmgmcgaaGreatDoor
