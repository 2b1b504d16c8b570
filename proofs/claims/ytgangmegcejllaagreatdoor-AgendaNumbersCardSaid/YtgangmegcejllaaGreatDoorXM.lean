import Derived.Test.YtgangmegcejllaaGreatDoorXT
namespace Go.Proofs.YtgangmegcejllaaGreatDoor
open Go.RowKit
def QN (_:Nat) (_:Int) (_:List Int):Option (Unit) :=
 some ()
def Q6g (_:Nat) (s:List Q1):(Nat × Nat) → Option ((Nat × Nat) ⊕ Nat):=fun (f,j) =>
 Qf (
  if (decide (f < s.length)) = true then (
   some (decide (j ≤ 400))
  ) else (
   some false
  )
 ) fun o =>
 if o = true then (
  Qf (s[f]?) fun q =>
  gd (j + q.ids.length ≤ 9223372036854775807) <|
  gd (f + 1 ≤ 9223372036854775807) <|
  some (.inl (f + 1,j + q.ids.length))
 ) else (
  some (.inr j)
 )
def Q5J (N:Nat) (j:List Q1):Option (Bool) :=
 Qf (
  Q1B (Q6g N j) N (0,j.length)
 ) fun f =>
 some (decide (400 < f))
def Q4p (_:Nat) (q:List Int):(Nat × (List QP)) → Option ((Nat × (List QP)) ⊕ (List QP)):=fun (j,f) =>
 if (decide (j < q.length)) = true then (
  Qf (q[j]?) fun o =>
  gd (f.length + ([(⟨(⟨#[]⟩ : ByteArray),o,0,[],[]⟩ : QP)]).length ≤ 1759218604441) <|
  gd (j + 1 ≤ 9223372036854775807) <|
  some (.inl (j + 1,(f ++ ([(⟨(⟨#[]⟩ : ByteArray),o,0,[],[]⟩ : QP)]))))
 ) else (
  some (.inr f)
 )
def Q3n (N:Nat) (j:List Int):Option (List QP) :=
 Qf (
  Q1B (Q4p N j) N (0,[])
 ) fun f =>
 some f
def Q9g (_:Nat) (q:List QP):(Nat × (List Int)) → Option ((Nat × (List Int)) ⊕ (List Int)):=fun (f,j) =>
 if (decide (f < q.length)) = true then (
  Qf (q[f]?) fun o =>
  gd (j.length + [o.salience].length ≤ 17592186044416) <|
  gd (f + 1 ≤ 9223372036854775807) <|
  some (.inl (f + 1,j ++ [o.salience]))
 ) else (
  some (.inr j)
 )
def Q8B (N:Nat) (_:List Qw) (j:List QP):Option (List Int) :=
 Qf (
  Q1B (Q9g N j) N (0,[])
 ) fun f =>
 some f
def Q4U (_:Nat) (q:List Int) (j:Int) (_:List Int):Option (Int) :=
 Qf (
  if (decide (j < 0)) = true then (
   some true
  ) else (
   some (decide (j ≥ ((q.length:Nat):Int)))
  )
 ) fun f =>
 if f = true then (
  some 0
 ) else (
  gd (0 ≤ j) <|
  Qf (q[j.toNat]?) fun o =>
  some o
 )
def Q73 (_:Nat) (_:Int):Option (Unit) :=
 some ()
def Q2H (N:Nat) (j:Int) (f:Int):Option (Int) :=
 Qf (Q73 N j) fun _ =>
 Qf (Q73 N f) fun _ =>
 if (j != j) = true then (
  if (f != f) = true then (
   some 0
  ) else (
   some (-1)
  )
 ) else (
  if (f != f) = true then (
   some 1
  ) else (
   if (decide (j < f)) = true then (
    some (-1)
   ) else (
    if (decide (j > f)) = true then (
     some 1
    ) else (
     some 0
    )
   )
  )
 )
def Q6M (N:Nat) (f:Int) (j:Int):Option (Int) :=
 Qf (Q2H N j f) fun o =>
 some o
def Q5t (_:Nat) (f:List Int):Option (List Int) :=
 gd (f.length ≤ 17592186044416) <|
 Qf (fallM f) fun j =>
 some j
def Q6v (N:Nat) (s:List Int) (y:List Int):Nat → Option (Nat ⊕ (Unit ⊕ Int)):=fun f =>
 if (decide (f < s.length)) = true then (
  Qf (s[f]?) fun o =>
  if (decide (y.length ≤ f)) = true then (
   some (.inr (.inr 1))
  ) else (
   Qf (y[f]?) fun q =>
   Qf (Q2H N o q) fun j =>
   if (j != 0) = true then (
    some (.inr (.inr j))
   ) else (
    gd (f + 1 ≤ 9223372036854775807) <|
    some (.inl (f + 1))
   )
  )
 ) else (
  some (.inr (.inl ()))
 )
def Q4L (N:Nat) (f:List Int) (j:List Int):Option (Int) :=
 Q5v (
  Q1B (Q6v N f j) N 0
 ) fun _ =>
 if (decide (f.length < j.length)) = true then (
  some (-1)
 ) else (
  some 0
 )
def Q8Q (_:Nat) (o:List Int):Nat → Option (Nat ⊕ (Unit ⊕ Int)):=fun f =>
 if (decide (f < o.length)) = true then (
  Qf (o[f]?) fun j =>
  if (j != 0) = true then (
   some (.inr (.inr j))
  ) else (
   gd (f + 1 ≤ 9223372036854775807) <|
   some (.inl (f + 1))
  )
 ) else (
  some (.inr (.inl ()))
 )
def Q92 (N:Nat) (f:List Int):Option (Int) :=
 Q5v (
  Q1B (Q8Q N f) N 0
 ) fun _ =>
 some 0
def Q1k (N:Nat) (l0:List Int) (a1:Int) (f:List Int) (a3:Int) (j:List Int):Option (Int) :=
 Qf (Q4U N l0 a3 j) fun v9 =>
 Qf (Q4U N l0 a1 f) fun o =>
 Qf (Q2H N v9 o) fun q =>
 Qf (Q5t N j) fun s =>
 Qf (Q5t N f) fun y =>
 Qf (Q4L N s y) fun z =>
 Qf (Q2H N a1 a3) fun a0 =>
 Qf (Q4L N f j) fun a2 =>
 Qf (Q92 N [q,z,a0,a2]) fun a4 =>
 some a4
def Q4h (N:Nat) (j:List Qw) (o:List QP) (q:Int) (s:List Int) (y:Int) (z:List Int):Option (Bool) :=
 Qf (Q8B N j o) fun v8 =>
 Qf (Q1k N v8 q s y z) fun f =>
 some (decide (f < 0))
def Q7v (N:Nat) (j:List Qw) (f:List QP):Option (Unit ⊕ (List Int)) :=
 if (decide (64 < f.length)) = true then (
  some (.inl ())
 ) else (
  Qf (Q8B N j f) fun o =>
  some (.inr o)
 )
def Q37 (_:Nat) (_:List Int) (_:List Q1) (_:List Q1) (_:List (ByteArray × Bool)):Option (Unit) :=
 some ()
def Q8p (_:Nat) (q:List Int):(Nat × ByteArray) → Option ((Nat × ByteArray) ⊕ ByteArray):=fun (f,j) =>
 if (decide (f < q.length)) = true then (
  Qf (q[f]?) fun o =>
  gd (-9223372036854775808 ≤ o ∧ o ≤ 9223372036854775807) <|
  gd ((⟨#[32]⟩ : ByteArray).size + (itoaF o).size ≤ 9223372036854775807) <|
  gd (j.size + ((⟨#[32]⟩ : ByteArray) ++ (itoaF o)).size ≤ 9223372036854775807) <|
  gd (f + 1 ≤ 9223372036854775807) <|
  some (.inl (f + 1,(j ++ ((⟨#[32]⟩ : ByteArray) ++ (itoaF o)))))
 ) else (
  some (.inr j)
 )
def Q4A (N:Nat) (j:Int) (o:List Int):Option (ByteArray) :=
 gd (-9223372036854775808 ≤ j ∧ j ≤ 9223372036854775807) <|
 Qf (
  Q1B (Q8p N o) N (0,itoaF j)
 ) fun f =>
 some f
def Q5a (_:Nat) (_:Int) (f:List Int):Option (Unit) :=
 gd (f.length ≤ 17592186044416) <|
 some ()
def Qab (_:Nat) (a0:Int):Option (Int) :=
 Qf (
  if (decide (a0 ≥ 4294967296)) = true then (
   some (Int.fdiv a0 (2 ^ (32)),32)
  ) else (
   some (a0,0)
  )
 ) fun (f,j) =>
 Qf (
  if (decide (f ≥ 65536)) = true then (
   gd (j + 16 ≤ 9223372036854775807) <|
   some (Int.fdiv f (2 ^ (16)),j + 16)
  ) else (
   some (f,j)
  )
 ) fun (o,q) =>
 Qf (
  if (decide (o ≥ 256)) = true then (
   gd (q + 8 ≤ 9223372036854775807) <|
   some (Int.fdiv o (2 ^ (8)),q + 8)
  ) else (
   some (o,q)
  )
 ) fun (y,s) =>
 gd (0 ≤ IntKind.wrap .u8 y) <|
 Qf ((⟨#[0,1,2,2,3,3,3,3,4,4,4,4,4,4,4,4,5,5,5,5,5,5,5,5,5,5,5,5,5,5,5,5,6,6,6,6,6,6,6,6,6,6,6,6,6,6,6,6,6,6,6,6,6,6,6,6,6,6,6,6,6,6,6,6,7,7,7,7,7,7,7,7,7,7,7,7,7,7,7,7,7,7,7,7,7,7,7,7,7,7,7,7,7,7,7,7,7,7,7,7,7,7,7,7,7,7,7,7,7,7,7,7,7,7,7,7,7,7,7,7,7,7,7,7,7,7,7,7,8,8,8,8,8,8,8,8,8,8,8,8,8,8,8,8,8,8,8,8,8,8,8,8,8,8,8,8,8,8,8,8,8,8,8,8,8,8,8,8,8,8,8,8,8,8,8,8,8,8,8,8,8,8,8,8,8,8,8,8,8,8,8,8,8,8,8,8,8,8,8,8,8,8,8,8,8,8,8,8,8,8,8,8,8,8,8,8,8,8,8,8,8,8,8,8,8,8,8,8,8,8,8,8,8,8,8,8,8,8,8,8,8,8,8,8,8,8,8,8,8,8,8,8,8,8,8,8]⟩ : ByteArray)[(IntKind.wrap .u8 y).toNat]?) fun z =>
 gd (-9223372036854775808 ≤ ((s:Nat):Int) + (IntKind.wrap .i64 ((z.toNat:Nat):Int)) ∧ ((s:Nat):Int) + (IntKind.wrap .i64 ((z.toNat:Nat):Int)) ≤ 9223372036854775807) <|
 some (((s:Nat):Int) + (IntKind.wrap .i64 ((z.toNat:Nat):Int)))
def Qaa (N:Nat) (f:Int):Option (Int) :=
 Qf (Qab N f) fun j =>
 some j
def Q2V (N:Nat) (z:List Q1) (o:Int) (q:Int) (s:Int) (l4:List Int):Option (Int × Int × Int) :=
 gd (0 ≤ q) <|
 Qf (z[q.toNat]?) fun f =>
 gd (0 ≤ o) <|
 Qf (z[o.toNat]?) fun j =>
 Qf (Q1k N l4 f.rule f.ids j.rule j.ids) fun y =>
 if (decide (y < 0)) = true then (
  gd (-9223372036854775808 ≤ s + 1 ∧ s + 1 ≤ 9223372036854775807) <|
  some (q,o,s + 1)
 ) else (
  some (o,q,s)
 )
def Q3O (N:Nat) (l0:List Q1) (a1:Int) (a2:Int) (a3:Int) (a4:Int) (l5:List Int):Option (Int × Int) :=
 Qf (Q2V N l0 a1 a2 a4 l5) fun (f,j,o) =>
 Qf (Q2V N l0 j a3 o l5) fun (q,_,s) =>
 Qf (Q2V N l0 f q s l5) fun (_,y,z) =>
 some (y,z)
def Q27 (N:Nat) (q:List Q1) (f:Int) (s:Int) (y:List Int):Option (Int × Int) :=
 gd (-9223372036854775808 ≤ f - 1 ∧ f - 1 ≤ 9223372036854775807) <|
 gd (-9223372036854775808 ≤ f + 1 ∧ f + 1 ≤ 9223372036854775807) <|
 Qf (Q3O N q (f - 1) f (f + 1) s y) fun (j,o) =>
 some (j,o)
def Q56 (N:Nat) (o:Int) (f:Int) (l0:List Q1) (l3:List Int):Option (Int × Int) :=
 if (decide ((o - f) ≥ 8)) = true then (
  Qf (
   if (decide ((o - f) ≥ 50)) = true then (
    Qf (Q27 N l0 (f + ((IntKind.wrap .i64 (Int.tdiv (o - f) 4)) * 1)) 0 l3) fun (z,a0) =>
    Qf (Q27 N l0 (f + ((IntKind.wrap .i64 (Int.tdiv (o - f) 4)) * 2)) a0 l3) fun (a3,a4) =>
    Qf (Q27 N l0 (f + ((IntKind.wrap .i64 (Int.tdiv (o - f) 4)) * 3)) a4 l3) fun (a5,a6) =>
    some (a5,a3,z,a6)
   ) else (
    some (f + ((IntKind.wrap .i64 (Int.tdiv (o - f) 4)) * 3),f + ((IntKind.wrap .i64 (Int.tdiv (o - f) 4)) * 2),f + ((IntKind.wrap .i64 (Int.tdiv (o - f) 4)) * 1),0)
   )
  ) fun (q,s,y,j) =>
  Qf (Q3O N l0 y s q j l3) fun (a7,a8) =>
  some (a7,a8)
 ) else (
  some (f + ((IntKind.wrap .i64 (Int.tdiv (o - f) 4)) * 2),0)
 )
def Q3X (N:Nat) (s:List Q1) (j:Int) (q:Int) (y:List Int):Option (Int × Nat) :=
 gd (-9223372036854775808 ≤ q - j ∧ q - j ≤ 9223372036854775807) <|
 gd (-9223372036854775808 ≤ (IntKind.wrap .i64 (Int.tdiv (q - j) 4)) * 1 ∧ (IntKind.wrap .i64 (Int.tdiv (q - j) 4)) * 1 ≤ 9223372036854775807) <|
 gd (-9223372036854775808 ≤ j + ((IntKind.wrap .i64 (Int.tdiv (q - j) 4)) * 1) ∧ j + ((IntKind.wrap .i64 (Int.tdiv (q - j) 4)) * 1) ≤ 9223372036854775807) <|
 gd (-9223372036854775808 ≤ (IntKind.wrap .i64 (Int.tdiv (q - j) 4)) * 2 ∧ (IntKind.wrap .i64 (Int.tdiv (q - j) 4)) * 2 ≤ 9223372036854775807) <|
 gd (-9223372036854775808 ≤ j + ((IntKind.wrap .i64 (Int.tdiv (q - j) 4)) * 2) ∧ j + ((IntKind.wrap .i64 (Int.tdiv (q - j) 4)) * 2) ≤ 9223372036854775807) <|
 gd (-9223372036854775808 ≤ (IntKind.wrap .i64 (Int.tdiv (q - j) 4)) * 3 ∧ (IntKind.wrap .i64 (Int.tdiv (q - j) 4)) * 3 ≤ 9223372036854775807) <|
 gd (-9223372036854775808 ≤ j + ((IntKind.wrap .i64 (Int.tdiv (q - j) 4)) * 3) ∧ j + ((IntKind.wrap .i64 (Int.tdiv (q - j) 4)) * 3) ≤ 9223372036854775807) <|
 Qf (Q56 N q j s y
 ) fun (o,f) =>
 if (f == 0) = true then (
  some (o,1)
 ) else (
  if (f == 12) = true then (
   some (o,2)
  ) else (
   some (o,0)
  )
 )
def Q4i (N:Nat) (f:Int) (y:Int) (j:List Q1) (z:List Int):Option (Bool) :=
 if (decide (f > y)) = true then (
  gd (0 ≤ f) <|
  Qf (j[f.toNat]?) fun o =>
  gd (-9223372036854775808 ≤ f - 1 ∧ f - 1 ≤ 9223372036854775807) <|
  gd (0 ≤ f - 1) <|
  Qf (j[(f - 1).toNat]?) fun q =>
  Qf (Q1k N z o.rule o.ids q.rule q.ids) fun s =>
  some (decide (s < 0))
 ) else (
  some false
 )
def Q2U (N:Nat) (y:Int) (z:List Int):(Int × (List Q1)) → Option ((Int × (List Q1)) ⊕ (List Q1)):=fun (f,j) =>
 Qf (Q4i N f y j z
 ) fun o =>
 if o = true then (
  gd (-9223372036854775808 ≤ f - 1 ∧ f - 1 ≤ 9223372036854775807) <|
  gd (-9223372036854775808 ≤ f - 1 ∧ f - 1 ≤ 9223372036854775807) <|
  gd (0 ≤ f - 1) <|
  Qf (j[(f - 1).toNat]?) fun q =>
  gd (0 ≤ f) <|
  Qf (j[f.toNat]?) fun s =>
  gd (0 ≤ f) <|
  Qf (j[f.toNat]?) fun _ =>
  gd (0 ≤ f - 1) <|
  Qf ((j.set f.toNat q)[(f - 1).toNat]?) fun _ =>
  gd (-9223372036854775808 ≤ f - 1 ∧ f - 1 ≤ 9223372036854775807) <|
  some (.inl (f - 1,(j.set f.toNat q).set ((f - 1).toNat) s))
 ) else (
  some (.inr j)
 )
def Q2T (N:Nat) (q:Int) (s:Int) (y:List Int):(Int × (List Q1)) → Option ((Int × (List Q1)) ⊕ (List Q1)):=fun (f,j) =>
 if (decide (f < q)) = true then (
  Qf (
   Q1B (Q2U N s y) N (f,j)
  ) fun o =>
  gd (-9223372036854775808 ≤ f + 1 ∧ f + 1 ≤ 9223372036854775807) <|
  some (.inl (f + 1,o))
 ) else (
  some (.inr j)
 )
def Q3p (N:Nat) (j:List Q1) (f:Int) (o:Int) (q:List Int):Option (List Q1) :=
 gd (-9223372036854775808 ≤ f + 1 ∧ f + 1 ≤ 9223372036854775807) <|
 Q1B (Q2T N o f q) N (f + 1,j)
def Q57 (N:Nat) (f:Int) (z:Int) (o:Int) (j:List Q1) (l4:List Int):Option (Bool) :=
 gd (-9223372036854775808 ≤ ((2 * f) + 1) + 1 ∧ ((2 * f) + 1) + 1 ≤ 9223372036854775807) <|
 if (decide ((((2 * f) + 1) + 1) < z)) = true then (
  gd (-9223372036854775808 ≤ o + ((2 * f) + 1) ∧ o + ((2 * f) + 1) ≤ 9223372036854775807) <|
  gd (0 ≤ o + ((2 * f) + 1)) <|
  Qf (j[(o + ((2 * f) + 1)).toNat]?) fun q =>
  gd (-9223372036854775808 ≤ o + ((2 * f) + 1) ∧ o + ((2 * f) + 1) ≤ 9223372036854775807) <|
  gd (-9223372036854775808 ≤ (o + ((2 * f) + 1)) + 1 ∧ (o + ((2 * f) + 1)) + 1 ≤ 9223372036854775807) <|
  gd (0 ≤ (o + ((2 * f) + 1)) + 1) <|
  Qf (j[((o + ((2 * f) + 1)) + 1).toNat]?) fun s =>
  Qf (Q1k N l4 q.rule q.ids s.rule s.ids) fun y =>
  some (decide (y < 0))
 ) else (
  some false
 )
def Q3I (N:Nat) (a2:Int) (q:Int) (l4:List Int):(Int × (List Q1)) → Option ((Int × (List Q1)) ⊕ (List Q1)):=fun (f,o) =>
 gd (-9223372036854775808 ≤ 2 * f ∧ 2 * f ≤ 9223372036854775807) <|
 gd (-9223372036854775808 ≤ (2 * f) + 1 ∧ (2 * f) + 1 ≤ 9223372036854775807) <|
 if (decide (((2 * f) + 1) ≥ a2)) = true then (
  some (.inr o)
 ) else (
  Qf (
   Qf (Q57 N f a2 q o l4
   ) fun s =>
   if s = true then (
    gd (-9223372036854775808 ≤ ((2 * f) + 1) + 1 ∧ ((2 * f) + 1) + 1 ≤ 9223372036854775807) <|
    some (((2 * f) + 1) + 1)
   ) else (
    some ((2 * f) + 1)
   )
  ) fun j =>
  gd (-9223372036854775808 ≤ q + f ∧ q + f ≤ 9223372036854775807) <|
  gd (0 ≤ q + f) <|
  Qf (o[(q + f).toNat]?) fun y =>
  gd (-9223372036854775808 ≤ q + j ∧ q + j ≤ 9223372036854775807) <|
  gd (0 ≤ q + j) <|
  Qf (o[(q + j).toNat]?) fun z =>
  Qf (Q1k N l4 y.rule y.ids z.rule z.ids) fun a1 =>
  if (!(decide (a1 < 0))) = true then (
   some (.inr o)
  ) else (
   gd (-9223372036854775808 ≤ q + f ∧ q + f ≤ 9223372036854775807) <|
   gd (-9223372036854775808 ≤ q + j ∧ q + j ≤ 9223372036854775807) <|
   gd (-9223372036854775808 ≤ q + j ∧ q + j ≤ 9223372036854775807) <|
   gd (0 ≤ q + j) <|
   Qf (o[(q + j).toNat]?) fun a0 =>
   gd (-9223372036854775808 ≤ q + f ∧ q + f ≤ 9223372036854775807) <|
   gd (0 ≤ q + f) <|
   Qf (o[(q + f).toNat]?) fun a4 =>
   gd (0 ≤ q + f) <|
   Qf (o[(q + f).toNat]?) fun _ =>
   gd (0 ≤ q + j) <|
   Qf ((o.set ((q + f).toNat) a0)[(q + j).toNat]?) fun _ =>
   some (.inl (j,(o.set ((q + f).toNat) a0).set ((q + j).toNat) a4))
  )
 )
def Q2Y (N:Nat) (f:List Q1) (j:Int) (o:Int) (q:Int) (s:List Int):Option (List Q1) :=
 Q1B (Q3I N o q s) N (j,f)
def Q3G (N:Nat) (s:Int) (q:Int) (y:List Int):(Int × (List Q1)) → Option ((Int × (List Q1)) ⊕ (List Q1)):=fun (f,j) =>
 if (decide (f ≥ 0)) = true then (
  Qf (Q2Y N j f (s - q) q y) fun o =>
  gd (-9223372036854775808 ≤ f - 1 ∧ f - 1 ≤ 9223372036854775807) <|
  some (.inl (f - 1,o))
 ) else (
  some (.inr j)
 )
def Q3H (N:Nat) (o:Int) (z:List Int):(Int × (List Q1)) → Option ((Int × (List Q1)) ⊕ (List Q1)):=fun (f,j) =>
 if (decide (f ≥ 0)) = true then (
  gd (-9223372036854775808 ≤ o + f ∧ o + f ≤ 9223372036854775807) <|
  gd (-9223372036854775808 ≤ o + f ∧ o + f ≤ 9223372036854775807) <|
  gd (0 ≤ o + f) <|
  Qf (j[(o + f).toNat]?) fun q =>
  gd (0 ≤ o) <|
  Qf (j[o.toNat]?) fun s =>
  gd (0 ≤ o) <|
  Qf (j[o.toNat]?) fun _ =>
  gd (0 ≤ o + f) <|
  Qf ((j.set o.toNat q)[(o + f).toNat]?) fun _ =>
  Qf (Q2Y N ((j.set o.toNat q).set ((o + f).toNat) s) 0 f o z) fun y =>
  gd (-9223372036854775808 ≤ f - 1 ∧ f - 1 ≤ 9223372036854775807) <|
  some (.inl (f - 1,y))
 ) else (
  some (.inr j)
 )
def Q3Y (N:Nat) (s:List Q1) (j:Int) (o:Int) (q:List Int):Option (List Q1) :=
 gd (-9223372036854775808 ≤ o - j ∧ o - j ≤ 9223372036854775807) <|
 Qf (
  gd (-9223372036854775808 ≤ (o - j) - 1 ∧ (o - j) - 1 ≤ 9223372036854775807) <|
  Q1B (Q3G N o j q) N (IntKind.wrap .i64 (Int.tdiv ((o - j) - 1) 2),s)
 ) fun f =>
 gd (-9223372036854775808 ≤ (o - j) - 1 ∧ (o - j) - 1 ≤ 9223372036854775807) <|
 Q1B (Q3H N j q) N ((o - j) - 1,f)
def Q38 (_:Nat):(Int × Int × (List Q1)) → Option ((Int × Int × (List Q1)) ⊕ (List Q1)):=fun (o,j,f) =>
 if (decide (j < o)) = true then (
  gd (0 ≤ o) <|
  Qf (f[o.toNat]?) fun q =>
  gd (0 ≤ j) <|
  Qf (f[j.toNat]?) fun s =>
  gd (0 ≤ j) <|
  Qf (f[j.toNat]?) fun _ =>
  gd (0 ≤ o) <|
  Qf ((f.set j.toNat q)[o.toNat]?) fun _ =>
  gd (-9223372036854775808 ≤ j + 1 ∧ j + 1 ≤ 9223372036854775807) <|
  gd (-9223372036854775808 ≤ o - 1 ∧ o - 1 ≤ 9223372036854775807) <|
  some (.inl (o - 1,j + 1,(f.set j.toNat q).set o.toNat s))
 ) else (
  some (.inr f)
 )
def Q3y (N:Nat) (j:List Q1) (o:Int) (f:Int) (_:List Int):Option (List Q1) :=
 gd (-9223372036854775808 ≤ f - 1 ∧ f - 1 ≤ 9223372036854775807) <|
 Q1B (Q38 N) N (f - 1,o,j)
def Q3D (N:Nat) (f:Int) (y:Int) (j:List Q1) (z:List Int):Option (Bool) :=
 if (decide (f < y)) = true then (
  gd (0 ≤ f) <|
  Qf (j[f.toNat]?) fun o =>
  gd (-9223372036854775808 ≤ f - 1 ∧ f - 1 ≤ 9223372036854775807) <|
  gd (0 ≤ f - 1) <|
  Qf (j[(f - 1).toNat]?) fun q =>
  Qf (Q1k N z o.rule o.ids q.rule q.ids) fun s =>
  some (!(decide (s < 0)))
 ) else (
  some false
 )
def Q2o (N:Nat) (q:Int) (j:List Q1) (s:List Int):Int → Option (Int ⊕ Int):=fun f =>
 Qf (Q3D N f q j s
 ) fun o =>
 if o = true then (
  gd (-9223372036854775808 ≤ f + 1 ∧ f + 1 ≤ 9223372036854775807) <|
  some (.inl (f + 1))
 ) else (
  some (.inr f)
 )
def Q2p (N:Nat) (l3:List Int):(Int × (List Q1)) → Option ((Int × (List Q1)) ⊕ (List Q1)):=fun (f,j) =>
 if (decide (f ≥ 1)) = true then (
  gd (0 ≤ f) <|
  Qf (j[f.toNat]?) fun o =>
  gd (-9223372036854775808 ≤ f - 1 ∧ f - 1 ≤ 9223372036854775807) <|
  gd (0 ≤ f - 1) <|
  Qf (j[(f - 1).toNat]?) fun q =>
  Qf (Q1k N l3 o.rule o.ids q.rule q.ids) fun y =>
  if (!(decide (y < 0))) = true then (
   some (.inr j)
  ) else (
   gd (-9223372036854775808 ≤ f - 1 ∧ f - 1 ≤ 9223372036854775807) <|
   gd (-9223372036854775808 ≤ f - 1 ∧ f - 1 ≤ 9223372036854775807) <|
   gd (0 ≤ f - 1) <|
   Qf (j[(f - 1).toNat]?) fun s =>
   gd (0 ≤ f) <|
   Qf (j[f.toNat]?) fun z =>
   gd (0 ≤ f) <|
   Qf (j[f.toNat]?) fun _ =>
   gd (0 ≤ f - 1) <|
   Qf ((j.set f.toNat s)[(f - 1).toNat]?) fun _ =>
   gd (-9223372036854775808 ≤ f - 1 ∧ f - 1 ≤ 9223372036854775807) <|
   some (.inl (f - 1,(j.set f.toNat s).set ((f - 1).toNat) z))
  )
 ) else (
  some (.inr j)
 )
def Q2q (N:Nat) (a2:Int) (l3:List Int) (o:Int):(Int × (List Q1)) → Option ((Int × (List Q1)) ⊕ ((Int × (List Q1)) ⊕ ((Nat × Int × (List Q1)) ⊕ ((List Q1) ⊕ (Bool × (List Q1)))))):=fun (f,j) =>
 if (decide (f < a2)) = true then (
  gd (0 ≤ f) <|
  Qf (j[f.toNat]?) fun q =>
  gd (-9223372036854775808 ≤ f - 1 ∧ f - 1 ≤ 9223372036854775807) <|
  gd (0 ≤ f - 1) <|
  Qf (j[(f - 1).toNat]?) fun s =>
  Qf (Q1k N l3 q.rule q.ids s.rule s.ids) fun z =>
  if (!(decide (z < 0))) = true then (
   some (.inr (.inl (o,j)))
  ) else (
   gd (-9223372036854775808 ≤ f - 1 ∧ f - 1 ≤ 9223372036854775807) <|
   gd (-9223372036854775808 ≤ f - 1 ∧ f - 1 ≤ 9223372036854775807) <|
   gd (0 ≤ f - 1) <|
   Qf (j[(f - 1).toNat]?) fun y =>
   gd (0 ≤ f) <|
   Qf (j[f.toNat]?) fun a0 =>
   gd (0 ≤ f) <|
   Qf (j[f.toNat]?) fun _ =>
   gd (0 ≤ f - 1) <|
   Qf ((j.set f.toNat y)[(f - 1).toNat]?) fun _ =>
   gd (-9223372036854775808 ≤ f + 1 ∧ f + 1 ≤ 9223372036854775807) <|
   some (.inl (f + 1,(j.set f.toNat y).set ((f - 1).toNat) a0))
  )
 ) else (
  some (.inr (.inl (o,j)))
 )
def Q3C (N:Nat) (q:Int) (j:List Q1) (l3:List Int) (z:Int) (y:Int):Option ((Int × (List Q1)) ⊕ ((Nat × Int × (List Q1)) ⊕ ((List Q1) ⊕ (Bool × (List Q1))))) :=
 Qf (
  Q1B (Q2o N q j l3) N z
 ) fun f =>
 if (f == q) = true then (
  some (.inr (.inr (.inr (true,j))))
 ) else (
  gd (-9223372036854775808 ≤ q - y ∧ q - y ≤ 9223372036854775807) <|
  if (decide ((q - y) < 50)) = true then (
   some (.inr (.inr (.inr (false,j))))
  ) else (
   gd (-9223372036854775808 ≤ f - 1 ∧ f - 1 ≤ 9223372036854775807) <|
   gd (-9223372036854775808 ≤ f - 1 ∧ f - 1 ≤ 9223372036854775807) <|
   gd (0 ≤ f - 1) <|
   Qf (j[(f - 1).toNat]?) fun s =>
   gd (0 ≤ f) <|
   Qf (j[f.toNat]?) fun a0 =>
   gd (0 ≤ f) <|
   Qf (j[f.toNat]?) fun _ =>
   gd (0 ≤ f - 1) <|
   Qf ((j.set f.toNat s)[(f - 1).toNat]?) fun _ =>
   Qf (
    gd (-9223372036854775808 ≤ f - y ∧ f - y ≤ 9223372036854775807) <|
    if (decide ((f - y) ≥ 2)) = true then (
     gd (-9223372036854775808 ≤ f - 1 ∧ f - 1 ≤ 9223372036854775807) <|
     Q1B (Q2p N l3) N (f - 1,(j.set f.toNat s).set ((f - 1).toNat) a0)
    ) else (
     some ((j.set f.toNat s).set ((f - 1).toNat) a0)
    )
   ) fun o =>
   gd (-9223372036854775808 ≤ q - f ∧ q - f ≤ 9223372036854775807) <|
   if (decide ((q - f) ≥ 2)) = true then (
    gd (-9223372036854775808 ≤ f + 1 ∧ f + 1 ≤ 9223372036854775807) <|
    Q1B (Q2q N q l3 f) N (f + 1,o)
   ) else (
    some (.inl (f,o))
   )
  )
 )
def Q2n (N:Nat) (y:Int) (z:List Int) (a1:Int):(Nat × Int × (List Q1)) → Option ((Nat × Int × (List Q1)) ⊕ ((List Q1) ⊕ (Bool × (List Q1)))):=fun (f,s,j) =>
 if (decide (f < 5)) = true then (
  Q5v (Q3C N y j z s a1
  ) fun (q,o) =>
  gd (f + 1 ≤ 9223372036854775807) <|
  some (.inl (f + 1,q,o))
 ) else (
  some (.inr (.inl j))
 )
def Q2z (N:Nat) (o:List Q1) (j:Int) (q:Int) (s:List Int):Option (Bool × (List Q1)) :=
 gd (-9223372036854775808 ≤ j + 1 ∧ j + 1 ≤ 9223372036854775807) <|
 Q5v (
  Q1B (Q2n N q s j) N (0,j + 1,o)
 ) fun f =>
 some (false,f)
def Q48 (N:Nat) (f:Int) (o:Int) (z:Int) (j:List Q1) (l4:List Int):Option (Bool) :=
 if (decide (f ≤ o)) = true then (
  gd (0 ≤ z) <|
  Qf (j[z.toNat]?) fun q =>
  gd (0 ≤ f) <|
  Qf (j[f.toNat]?) fun s =>
  Qf (Q1k N l4 q.rule q.ids s.rule s.ids) fun y =>
  some (!(decide (y < 0)))
 ) else (
  some false
 )
def Q2O (N:Nat) (q:Int) (s:Int) (j:List Q1) (y:List Int):Int → Option (Int ⊕ Int):=fun f =>
 Qf (Q48 N f q s j y
 ) fun o =>
 if o = true then (
  gd (-9223372036854775808 ≤ f + 1 ∧ f + 1 ≤ 9223372036854775807) <|
  some (.inl (f + 1))
 ) else (
  some (.inr f)
 )
def Q49 (N:Nat) (o:Int) (f:Int) (z:Int) (j:List Q1) (l4:List Int):Option (Bool) :=
 if (decide (o ≤ f)) = true then (
  gd (0 ≤ z) <|
  Qf (j[z.toNat]?) fun q =>
  gd (0 ≤ f) <|
  Qf (j[f.toNat]?) fun s =>
  Qf (Q1k N l4 q.rule q.ids s.rule s.ids) fun y =>
  some (decide (y < 0))
 ) else (
  some false
 )
def Q2P (N:Nat) (j:Int) (s:Int) (o:List Q1) (y:List Int):Int → Option (Int ⊕ Int):=fun f =>
 Qf (Q49 N j f s o y
 ) fun q =>
 if q = true then (
  gd (-9223372036854775808 ≤ f - 1 ∧ f - 1 ≤ 9223372036854775807) <|
  some (.inl (f - 1))
 ) else (
  some (.inr f)
 )
def Q2N (N:Nat) (a1:Int) (l4:List Int):(Int × Int × (List Q1)) → Option ((Int × Int × (List Q1)) ⊕ (Int × (List Q1))):=fun (q,s,o) =>
 Qf (
  Q1B (Q2O N q a1 o l4) N s
 ) fun f =>
 Qf (
  Q1B (Q2P N f a1 o l4) N q
 ) fun j =>
 if (decide (f > j)) = true then (
  some (.inr (f,o))
 ) else (
  gd (0 ≤ j) <|
  Qf (o[j.toNat]?) fun y =>
  gd (0 ≤ f) <|
  Qf (o[f.toNat]?) fun z =>
  gd (0 ≤ f) <|
  Qf (o[f.toNat]?) fun _ =>
  gd (0 ≤ j) <|
  Qf ((o.set f.toNat y)[j.toNat]?) fun _ =>
  gd (-9223372036854775808 ≤ f + 1 ∧ f + 1 ≤ 9223372036854775807) <|
  gd (-9223372036854775808 ≤ j - 1 ∧ j - 1 ≤ 9223372036854775807) <|
  some (.inl (j - 1,f + 1,(o.set f.toNat y).set j.toNat z))
 )
def Q3i (N:Nat) (q:List Q1) (j:Int) (z:Int) (s:Int) (l4:List Int):Option (Int × (List Q1)) :=
 gd (0 ≤ s) <|
 Qf (q[s.toNat]?) fun y =>
 gd (0 ≤ j) <|
 Qf (q[j.toNat]?) fun a0 =>
 gd (0 ≤ j) <|
 Qf (q[j.toNat]?) fun _ =>
 gd (0 ≤ s) <|
 Qf ((q.set j.toNat y)[s.toNat]?) fun _ =>
 gd (-9223372036854775808 ≤ j + 1 ∧ j + 1 ≤ 9223372036854775807) <|
 gd (-9223372036854775808 ≤ z - 1 ∧ z - 1 ≤ 9223372036854775807) <|
 Qf (
  Q1B (Q2N N j l4) N (z - 1,j + 1,(q.set j.toNat y).set s.toNat a0)
 ) fun (o,f) =>
 some (o,f)
def Q4W (N:Nat) (f:Int) (a2:Int) (l0:List Q1) (y:Int) (j:Q1) (a3:Int) (o:Q1) (l4:List Int):Option (Bool) :=
 if (decide (f ≤ (a2 - 1))) = true then (
  gd (0 ≤ f) <|
  Qf (((l0.set y.toNat j).set a3.toNat o)[f.toNat]?) fun q =>
  gd (0 ≤ y) <|
  Qf (((l0.set y.toNat j).set a3.toNat o)[y.toNat]?) fun s =>
  Qf (Q1k N l4 q.rule q.ids s.rule s.ids) fun z =>
  some (decide (z < 0))
 ) else (
  some false
 )
def Q3t (N:Nat) (s:Int) (y:List Q1) (z:Int) (o:Q1) (a3:Int) (q:Q1) (l4:List Int):Int → Option (Int ⊕ Int):=fun f =>
 Qf (Q4W N f s y z o a3 q l4
 ) fun j =>
 if j = true then (
  gd (-9223372036854775808 ≤ f + 1 ∧ f + 1 ≤ 9223372036854775807) <|
  some (.inl (f + 1))
 ) else (
  some (.inr f)
 )
def Q4X (N:Nat) (j:Int) (f:Int) (l0:List Q1) (z:Int) (o:Q1) (a3:Int) (q:Q1) (l4:List Int):Option (Bool) :=
 if (decide (j ≤ f)) = true then (
  gd (0 ≤ f) <|
  Qf (((l0.set z.toNat o).set a3.toNat q)[f.toNat]?) fun s =>
  gd (0 ≤ z) <|
  Qf (((l0.set z.toNat o).set a3.toNat q)[z.toNat]?) fun y =>
  Qf (Q1k N l4 s.rule s.ids y.rule y.ids) fun a0 =>
  some (!(decide (a0 < 0)))
 ) else (
  some false
 )
def Q3u (N:Nat) (j:Int) (y:List Q1) (z:Int) (q:Q1) (a3:Int) (s:Q1) (l4:List Int):Int → Option (Int ⊕ Int):=fun f =>
 Qf (Q4X N j f y z q a3 s l4
 ) fun o =>
 if o = true then (
  gd (-9223372036854775808 ≤ f - 1 ∧ f - 1 ≤ 9223372036854775807) <|
  some (.inl (f - 1))
 ) else (
  some (.inr f)
 )
def Q4M (N:Nat) (f:Int) (s:Int) (j:List Q1) (z:Int) (l4:List Int):Option (Bool) :=
 if (decide (f ≤ s)) = true then (
  gd (0 ≤ f) <|
  Qf (j[f.toNat]?) fun o =>
  gd (0 ≤ z) <|
  Qf (j[z.toNat]?) fun q =>
  Qf (Q1k N l4 o.rule o.ids q.rule q.ids) fun y =>
  some (decide (y < 0))
 ) else (
  some false
 )
def Q3w (N:Nat) (q:Int) (o:List Q1) (s:Int) (y:List Int):Int → Option (Int ⊕ Int):=fun f =>
 Qf (Q4M N f q o s y
 ) fun j =>
 if j = true then (
  gd (-9223372036854775808 ≤ f + 1 ∧ f + 1 ≤ 9223372036854775807) <|
  some (.inl (f + 1))
 ) else (
  some (.inr f)
 )
def Q4N (N:Nat) (o:Int) (f:Int) (j:List Q1) (z:Int) (l4:List Int):Option (Bool) :=
 if (decide (o ≤ f)) = true then (
  gd (0 ≤ f) <|
  Qf (j[f.toNat]?) fun q =>
  gd (0 ≤ z) <|
  Qf (j[z.toNat]?) fun s =>
  Qf (Q1k N l4 q.rule q.ids s.rule s.ids) fun y =>
  some (!(decide (y < 0)))
 ) else (
  some false
 )
def Q3x (N:Nat) (o:Int) (q:List Q1) (s:Int) (y:List Int):Int → Option (Int ⊕ Int):=fun f =>
 Qf (Q4N N o f q s y
 ) fun j =>
 if j = true then (
  gd (-9223372036854775808 ≤ f - 1 ∧ f - 1 ≤ 9223372036854775807) <|
  some (.inl (f - 1))
 ) else (
  some (.inr f)
 )
def Q3v (N:Nat) (a1:Int) (l4:List Int):(Int × Int × (List Q1)) → Option ((Int × Int × (List Q1)) ⊕ (Int × (List Q1))):=fun (q,y,o) =>
 Qf (
  Q1B (Q3w N q o a1 l4) N y
 ) fun j =>
 Qf (
  Q1B (Q3x N j o a1 l4) N q
 ) fun f =>
 if (decide (j > f)) = true then (
  some (.inr (f,o))
 ) else (
  gd (0 ≤ f) <|
  Qf (o[f.toNat]?) fun s =>
  gd (0 ≤ j) <|
  Qf (o[j.toNat]?) fun z =>
  gd (0 ≤ j) <|
  Qf (o[j.toNat]?) fun _ =>
  gd (0 ≤ f) <|
  Qf ((o.set j.toNat s)[f.toNat]?) fun _ =>
  gd (-9223372036854775808 ≤ j + 1 ∧ j + 1 ≤ 9223372036854775807) <|
  gd (-9223372036854775808 ≤ f - 1 ∧ f - 1 ≤ 9223372036854775807) <|
  some (.inl (f - 1,j + 1,(o.set j.toNat s).set f.toNat z))
 )
def Q3Q (N:Nat) (l0:List Q1) (s:Int) (a2:Int) (a3:Int) (l4:List Int):Option (Int × Bool × (List Q1)) :=
 gd (0 ≤ a3) <|
 Qf (l0[a3.toNat]?) fun y =>
 gd (0 ≤ s) <|
 Qf (l0[s.toNat]?) fun z =>
 gd (0 ≤ s) <|
 Qf (l0[s.toNat]?) fun _ =>
 gd (0 ≤ a3) <|
 Qf ((l0.set s.toNat y)[a3.toNat]?) fun _ =>
 gd (-9223372036854775808 ≤ s + 1 ∧ s + 1 ≤ 9223372036854775807) <|
 gd (-9223372036854775808 ≤ a2 - 1 ∧ a2 - 1 ≤ 9223372036854775807) <|
 Qf (
  Q1B (Q3t N a2 l0 s y a3 z l4) N (s + 1)
 ) fun j =>
 Qf (
  Q1B (Q3u N j l0 s y a3 z l4) N (a2 - 1)
 ) fun f =>
 if (decide (j > f)) = true then (
  gd (0 ≤ s) <|
  Qf (((l0.set s.toNat y).set a3.toNat z)[s.toNat]?) fun a6 =>
  gd (0 ≤ f) <|
  Qf (((l0.set s.toNat y).set a3.toNat z)[f.toNat]?) fun aB =>
  gd (0 ≤ f) <|
  Qf (((l0.set s.toNat y).set a3.toNat z)[f.toNat]?) fun _ =>
  gd (0 ≤ s) <|
  Qf ((((l0.set s.toNat y).set a3.toNat z).set f.toNat a6)[s.toNat]?) fun _ =>
  some (f,true,(((l0.set s.toNat y).set a3.toNat z).set f.toNat a6).set s.toNat aB)
 ) else (
  gd (0 ≤ f) <|
  Qf (((l0.set s.toNat y).set a3.toNat z)[f.toNat]?) fun a7 =>
  gd (0 ≤ j) <|
  Qf (((l0.set s.toNat y).set a3.toNat z)[j.toNat]?) fun aC =>
  gd (0 ≤ j) <|
  Qf (((l0.set s.toNat y).set a3.toNat z)[j.toNat]?) fun _ =>
  gd (0 ≤ f) <|
  Qf ((((l0.set s.toNat y).set a3.toNat z).set j.toNat a7)[f.toNat]?) fun _ =>
  gd (-9223372036854775808 ≤ j + 1 ∧ j + 1 ≤ 9223372036854775807) <|
  gd (-9223372036854775808 ≤ f - 1 ∧ f - 1 ≤ 9223372036854775807) <|
  Qf (
   Q1B (Q3v N s l4) N (f - 1,j + 1,(((l0.set s.toNat y).set a3.toNat z).set j.toNat a7).set f.toNat aC)
  ) fun (o,q) =>
  gd (0 ≤ s) <|
  Qf (q[s.toNat]?) fun a5 =>
  gd (0 ≤ o) <|
  Qf (q[o.toNat]?) fun a8 =>
  gd (0 ≤ o) <|
  Qf (q[o.toNat]?) fun _ =>
  gd (0 ≤ s) <|
  Qf ((q.set o.toNat a5)[s.toNat]?) fun _ =>
  some (o,false,(q.set o.toNat a5).set s.toNat a8)
 )
def Q6x (N:Nat) (j:Int):Option (Int) :=
 Qf (Qaa N (IntKind.wrap .u64 j)) fun f =>
 gd (0 ≤ f) <|
 some (IntKind.wrap .u64 (1 * 2 ^ (min (f).toNat 64)))
def Q6Y (_:Nat) (_:Int):Option (Unit) :=
 some ()
def Q2S (N:Nat) (y:Int) (s:Int) (z:Int):(Int × Int × (List Q1)) → Option ((Int × Int × (List Q1)) ⊕ (List Q1)):=fun (o,f,q) =>
 gd (-9223372036854775808 ≤ (IntKind.wrap .i64 (Int.tdiv (y - s) 4)) * 2 ∧ (IntKind.wrap .i64 (Int.tdiv (y - s) 4)) * 2 ≤ 9223372036854775807) <|
 gd (-9223372036854775808 ≤ s + ((IntKind.wrap .i64 (Int.tdiv (y - s) 4)) * 2) ∧ s + ((IntKind.wrap .i64 (Int.tdiv (y - s) 4)) * 2) ≤ 9223372036854775807) <|
 gd (-9223372036854775808 ≤ (s + ((IntKind.wrap .i64 (Int.tdiv (y - s) 4)) * 2)) + 1 ∧ (s + ((IntKind.wrap .i64 (Int.tdiv (y - s) 4)) * 2)) + 1 ≤ 9223372036854775807) <|
 if (decide (o ≤ ((s + ((IntKind.wrap .i64 (Int.tdiv (y - s) 4)) * 2)) + 1))) = true then (
  Qf (Q6Y N f) fun _ =>
  Qf (
   if (decide ((IntKind.wrap .i64 (Q1A .and .u64 (Q1A .xor .u64 (Q1A .xor .u64 (Q1A .xor .u64 f (IntKind.wrap .u64 (f * 2 ^ (13)))) (Int.fdiv (Q1A .xor .u64 f (IntKind.wrap .u64 (f * 2 ^ (13)))) (2 ^ (7)))) (IntKind.wrap .u64 ((Q1A .xor .u64 (Q1A .xor .u64 f (IntKind.wrap .u64 (f * 2 ^ (13)))) (Int.fdiv (Q1A .xor .u64 f (IntKind.wrap .u64 (f * 2 ^ (13)))) (2 ^ (7)))) * 2 ^ (17)))) (IntKind.wrap .u64 (z - 1)))) ≥ (y - s))) = true then (
    gd (-9223372036854775808 ≤ (IntKind.wrap .i64 (Q1A .and .u64 (Q1A .xor .u64 (Q1A .xor .u64 (Q1A .xor .u64 f (IntKind.wrap .u64 (f * 2 ^ (13)))) (Int.fdiv (Q1A .xor .u64 f (IntKind.wrap .u64 (f * 2 ^ (13)))) (2 ^ (7)))) (IntKind.wrap .u64 ((Q1A .xor .u64 (Q1A .xor .u64 f (IntKind.wrap .u64 (f * 2 ^ (13)))) (Int.fdiv (Q1A .xor .u64 f (IntKind.wrap .u64 (f * 2 ^ (13)))) (2 ^ (7)))) * 2 ^ (17)))) (IntKind.wrap .u64 (z - 1)))) - (y - s) ∧ (IntKind.wrap .i64 (Q1A .and .u64 (Q1A .xor .u64 (Q1A .xor .u64 (Q1A .xor .u64 f (IntKind.wrap .u64 (f * 2 ^ (13)))) (Int.fdiv (Q1A .xor .u64 f (IntKind.wrap .u64 (f * 2 ^ (13)))) (2 ^ (7)))) (IntKind.wrap .u64 ((Q1A .xor .u64 (Q1A .xor .u64 f (IntKind.wrap .u64 (f * 2 ^ (13)))) (Int.fdiv (Q1A .xor .u64 f (IntKind.wrap .u64 (f * 2 ^ (13)))) (2 ^ (7)))) * 2 ^ (17)))) (IntKind.wrap .u64 (z - 1)))) - (y - s) ≤ 9223372036854775807) <|
    some ((IntKind.wrap .i64 (Q1A .and .u64 (Q1A .xor .u64 (Q1A .xor .u64 (Q1A .xor .u64 f (IntKind.wrap .u64 (f * 2 ^ (13)))) (Int.fdiv (Q1A .xor .u64 f (IntKind.wrap .u64 (f * 2 ^ (13)))) (2 ^ (7)))) (IntKind.wrap .u64 ((Q1A .xor .u64 (Q1A .xor .u64 f (IntKind.wrap .u64 (f * 2 ^ (13)))) (Int.fdiv (Q1A .xor .u64 f (IntKind.wrap .u64 (f * 2 ^ (13)))) (2 ^ (7)))) * 2 ^ (17)))) (IntKind.wrap .u64 (z - 1)))) - (y - s))
   ) else (
    some (IntKind.wrap .i64 (Q1A .and .u64 (Q1A .xor .u64 (Q1A .xor .u64 (Q1A .xor .u64 f (IntKind.wrap .u64 (f * 2 ^ (13)))) (Int.fdiv (Q1A .xor .u64 f (IntKind.wrap .u64 (f * 2 ^ (13)))) (2 ^ (7)))) (IntKind.wrap .u64 ((Q1A .xor .u64 (Q1A .xor .u64 f (IntKind.wrap .u64 (f * 2 ^ (13)))) (Int.fdiv (Q1A .xor .u64 f (IntKind.wrap .u64 (f * 2 ^ (13)))) (2 ^ (7)))) * 2 ^ (17)))) (IntKind.wrap .u64 (z - 1))))
   )
  ) fun j =>
  gd (-9223372036854775808 ≤ s + j ∧ s + j ≤ 9223372036854775807) <|
  gd (-9223372036854775808 ≤ s + j ∧ s + j ≤ 9223372036854775807) <|
  gd (0 ≤ s + j) <|
  Qf (q[(s + j).toNat]?) fun a0 =>
  gd (0 ≤ o) <|
  Qf (q[o.toNat]?) fun a3 =>
  gd (0 ≤ o) <|
  Qf (q[o.toNat]?) fun _ =>
  gd (0 ≤ s + j) <|
  Qf ((q.set o.toNat a0)[(s + j).toNat]?) fun _ =>
  gd (-9223372036854775808 ≤ o + 1 ∧ o + 1 ≤ 9223372036854775807) <|
  some (.inl (o + 1,Q1A .xor .u64 (Q1A .xor .u64 (Q1A .xor .u64 f (IntKind.wrap .u64 (f * 2 ^ (13)))) (Int.fdiv (Q1A .xor .u64 f (IntKind.wrap .u64 (f * 2 ^ (13)))) (2 ^ (7)))) (IntKind.wrap .u64 ((Q1A .xor .u64 (Q1A .xor .u64 f (IntKind.wrap .u64 (f * 2 ^ (13)))) (Int.fdiv (Q1A .xor .u64 f (IntKind.wrap .u64 (f * 2 ^ (13)))) (2 ^ (7)))) * 2 ^ (17))),(q.set o.toNat a0).set ((s + j).toNat) a3))
 ) else (
  some (.inr q)
 )
def Q3o (N:Nat) (q:List Q1) (f:Int) (j:Int) (_:List Int):Option (List Q1) :=
 gd (-9223372036854775808 ≤ j - f ∧ j - f ≤ 9223372036854775807) <|
 if (decide ((j - f) ≥ 8)) = true then (
  Qf (Q6x N (j - f)) fun o =>
  gd (-9223372036854775808 ≤ (IntKind.wrap .i64 (Int.tdiv (j - f) 4)) * 2 ∧ (IntKind.wrap .i64 (Int.tdiv (j - f) 4)) * 2 ≤ 9223372036854775807) <|
  gd (-9223372036854775808 ≤ f + ((IntKind.wrap .i64 (Int.tdiv (j - f) 4)) * 2) ∧ f + ((IntKind.wrap .i64 (Int.tdiv (j - f) 4)) * 2) ≤ 9223372036854775807) <|
  gd (-9223372036854775808 ≤ (f + ((IntKind.wrap .i64 (Int.tdiv (j - f) 4)) * 2)) - 1 ∧ (f + ((IntKind.wrap .i64 (Int.tdiv (j - f) 4)) * 2)) - 1 ≤ 9223372036854775807) <|
  Q1B (Q2S N j f o) N ((f + ((IntKind.wrap .i64 (Int.tdiv (j - f) 4)) * 2)) - 1,IntKind.wrap .u64 (j - f),q)
 ) else (
  some q
 )
def Q5p (N:Nat) (y:Nat) (q:List Q1) (j:Int) (o:Int) (s:List Int) (f:Int):Option (Nat × Int × (List Q1)) :=
 if (y == 2) = true then (
  Qf (Q3y N q j o s) fun z =>
  gd (-9223372036854775808 ≤ o - 1 ∧ o - 1 ≤ 9223372036854775807) <|
  gd (-9223372036854775808 ≤ f - j ∧ f - j ≤ 9223372036854775807) <|
  gd (-9223372036854775808 ≤ (o - 1) - (f - j) ∧ (o - 1) - (f - j) ≤ 9223372036854775807) <|
  some (1,(o - 1) - (f - j),z)
 ) else (
  some (y,f,q)
 )
def Q5q (N:Nat) (y:Bool) (z:Bool) (q:Nat) (j:List Q1) (a1:Int) (a2:Int) (f:List Int):Option ((List Q1) ⊕ ((Bool × Bool × (List Q1) × Int × Int × Int × (List Int)) ⊕ ((List Q1) × (List Int)))) :=
 Qf (
  if y = true then (
   if z = true then (
    some (q == 1)
   ) else (
    some false
   )
  ) else (
   some false
  )
 ) fun s =>
 if s = true then (
  Qf (Q2z N j a1 a2 f) fun (a0,o) =>
  if a0 = true then (
   some (.inr (.inr (o,f)))
  ) else (
   some (.inl o)
  )
 ) else (
  some (.inl j)
 )
def Q5r (N:Nat) (f:Int) (j:List Q1) (q:Int) (o:List Int):Option (Bool) :=
 if (decide (f > 0)) = true then (
  gd (-9223372036854775808 ≤ f - 1 ∧ f - 1 ≤ 9223372036854775807) <|
  gd (0 ≤ f - 1) <|
  Qf (j[(f - 1).toNat]?) fun s =>
  gd (0 ≤ q) <|
  Qf (j[q.toNat]?) fun y =>
  Qf (Q1k N o s.rule s.ids y.rule y.ids) fun z =>
  some (!(decide (z < 0)))
 ) else (
  some false
 )
def Q3L (N:Nat) (rc:(List Q1) → Int → Int → Int → (List Int) → Option ((List Q1) × (List Int))):(Bool × Bool × (List Q1) × Int × Int × Int × (List Int)) → Option ((Bool × Bool × (List Q1) × Int × Int × Int × (List Int)) ⊕ ((List Q1) × (List Int))):=fun (a8,a4,s,o,q,a2,f) =>
 gd (-9223372036854775808 ≤ q - o ∧ q - o ≤ 9223372036854775807) <|
 if (decide ((q - o) ≤ 12)) = true then (
  Qf (Q3p N s o q f) fun aI =>
  some (.inr (aI,f))
 ) else (
  if (a2 == 0) = true then (
   Qf (Q3Y N s o q f) fun aJ =>
   some (.inr (aJ,f))
  ) else (
   Qf (
    if (!a4) = true then (
     Qf (Q3o N s o q f) fun aK =>
     gd (-9223372036854775808 ≤ a2 - 1 ∧ a2 - 1 ≤ 9223372036854775807) <|
     some (aK,a2 - 1)
    ) else (
     some (s,a2)
    )
   ) fun (a3,z) =>
   Qf (Q3X N a3 o q f) fun (aG,aH) =>
   Qf (Q5p N aH a3 o q f aG
   ) fun (aA,a1,a9) =>
   Q5v (Q5q N a4 a8 aA a9 o q f
   ) fun a0 =>
   Qf (Q5r N o a0 a1 f
   ) fun aB =>
   if aB = true then (
    Qf (Q3i N a0 o q a1 f) fun (aC,aD) =>
    some (.inl (a8,a4,aD,aC,q,z,f))
   ) else (
    Qf (Q3Q N a0 o q a1 f) fun (j,a5,y) =>
    gd (-9223372036854775808 ≤ j - o ∧ j - o ≤ 9223372036854775807) <|
    gd (-9223372036854775808 ≤ q - j ∧ q - j ≤ 9223372036854775807) <|
    if (decide ((j - o) < (q - j))) = true then (
     Qf (rc y o j z f) fun (a6,aE) =>
     gd (a6.length = y.length) <|
     gd (-9223372036854775808 ≤ j + 1 ∧ j + 1 ≤ 9223372036854775807) <|
     some (.inl (a5,decide ((j - o) ≥ (IntKind.wrap .i64 (Int.tdiv (q - o) 8))),a6,j + 1,q,z,aE))
    ) else (
     gd (-9223372036854775808 ≤ j + 1 ∧ j + 1 ≤ 9223372036854775807) <|
     Qf (rc y (j + 1) q z f) fun (a7,aF) =>
     gd (a7.length = y.length) <|
     some (.inl (a5,decide ((q - j) ≥ (IntKind.wrap .i64 (Int.tdiv (q - o) 8))),a7,o,j,z,aF))
    )
   )
  )
 )
def Q3R (N:Nat) (rc:(List Q1) → Int → Int → Int → (List Int) → Option ((List Q1) × (List Int))) (f:List Q1) (j:Int) (o:Int) (q:Int) (s:List Int):Option ((List Q1) × (List Int)) :=
 Q1B (Q3L N rc) N (true,true,f,j,o,q,s)
def Q3c:Nat → (List Q1) → Int → Int → Int → (List Int) → Option ((List Q1) × (List Int))
 | 0=>fun _=>fun _=>fun _=>fun _=>fun _=>none
 | N + 1=>Q3R N (Q3c N)
def Q2f (N:Nat) (o:List Q1) (s:List Int):Option ((List Q1) × (List Int)) :=
 Qf (Qaa N (IntKind.wrap .u64 ((o.length:Nat):Int))) fun q =>
 Qf (Q3c N o 0 ((o.length:Nat):Int) q s) fun (f,j) =>
 gd (f.length = o.length) <|
 some (f,j)
def Q8c (N:Nat) (f:Q1) (s:List Int) (j:List (ByteArray × Bool)):Option (Bool) :=
 if (decide (f.rule < 0)) = true then (
  some true
 ) else (
  if (decide (f.rule ≥ ((s.length:Nat):Int))) = true then (
   some true
  ) else (
   Qf (Q4A N f.rule f.ids) fun o =>
   optE (Q4P o j) (
   some false
   ) (fun q =>
   some q
   )
  )
 )
def Q6K (N:Nat) (y:List Q1) (z:List Int) (l1:List Q1) (l2:List Q1) (e3:List (ByteArray × Bool)):(Nat × (List (ByteArray × Bool))) → Option ((Nat × (List (ByteArray × Bool))) ⊕ (Unit ⊕ (Nat × (List Int) × (List Q1) × (List Q1) × (List (ByteArray × Bool))))):=fun (f,j) =>
 if (decide (f < y.length)) = true then (
  Qf (y[f]?) fun q =>
  Qf (Q8c N q z j
  ) fun o =>
  if o = true then (
   some (.inr (.inr (4,z,l1,l2,e3)))
  ) else (
   Qf (Q4A N q.rule q.ids) fun s =>
   gd (f + 1 ≤ 9223372036854775807) <|
   some (.inl (f + 1,Q7p ltB s true j))
  )
 ) else (
  some (.inr (.inl ()))
 )
def Q8d (N:Nat) (l4:List Q1) (y:Nat) (e3:List (ByteArray × Bool)) (f:List Q1) (q:List (ByteArray × Bool)) (j:List Q1):Option ((List (ByteArray × Bool)) × (List Q1) × (List Q1)) :=
 Qf (l4[y]?) fun o =>
 Qf (Q4A N o.rule o.ids) fun z =>
 Qf (
  optE (Q4P z e3) (
  some false
  ) (fun a0 =>
  some a0
  )
 ) fun s =>
 if s = true then (
  Qf (Q5a N o.rule o.ids) fun _ =>
  gd (f.length + [o].length ≤ 4398046511104) <|
  some (Q7p ltB z true q,j,f ++ [o])
 ) else (
  Qf (Q5a N o.rule o.ids) fun _ =>
  gd (j.length + [o].length ≤ 4398046511104) <|
  some (q,j ++ [o],f)
 )
def Q6L (N:Nat) (l4:List Q1) (e3:List (ByteArray × Bool)):(Nat × (List (ByteArray × Bool)) × (List Q1) × (List Q1)) → Option ((Nat × (List (ByteArray × Bool)) × (List Q1) × (List Q1)) ⊕ ((List (ByteArray × Bool)) × (List Q1) × (List Q1))):=fun (o,y,f,j) =>
 if (decide (o < l4.length)) = true then (
  Qf (Q8d N l4 o e3 j y f
  ) fun (z,q,s) =>
  gd (o + 1 ≤ 9223372036854775807) <|
  some (.inl (o + 1,z,q,s))
 ) else (
  some (.inr (y,f,j))
 )
def Q33 (N:Nat) (l0:List Int) (l1:List Q1) (l2:List Q1) (e3:List (ByteArray × Bool)) (l4:List Q1):Option (Nat × (List Int) × (List Q1) × (List Q1) × (List (ByteArray × Bool))) :=
 Qf (Q37 N l0 l1 l2 e3) fun _ =>
 Q5v (
  Q1B (Q6K N l4 l0 l1 l2 e3) N (0,([] : List (ByteArray × Bool)))
 ) fun _ =>
 Qf (
  Q1B (Q6L N l4 e3) N (0,([] : List (ByteArray × Bool)),[],[])
 ) fun (s,f,j) =>
 Qf (Q2f N f l0) fun (o,y) =>
 gd (o.length = f.length) <|
 Qf (Q2f N j y) fun (q,z) =>
 gd (q.length = j.length) <|
 some (0,z,o,q,s)
def Q3m (N:Nat) (o:List Int) (j:List Q1) (q:List Q1) (s:List (ByteArray × Bool)):Option (Int × (List Int) × Bool) :=
 Qf (Q37 N o j q s) fun _ =>
 if (j.length == 0) = true then (
  some (0,[],false)
 ) else (
  Qf (j[0]?) fun f =>
  Qf (Q5a N f.rule f.ids) fun _ =>
  some (f.rule,f.ids,true)
 )
def Q4m (_:Nat) (q:List Int) (s:List Int):Nat → Option (Nat ⊕ (Unit ⊕ Bool)):=fun f =>
 if (decide (f < q.length)) = true then (
  Qf (q[f]?) fun j =>
  Qf (s[f]?) fun o =>
  if (j != o) = true then (
   some (.inr (.inr false))
  ) else (
   gd (f + 1 ≤ 9223372036854775807) <|
   some (.inl (f + 1))
  )
 ) else (
  some (.inr (.inl ()))
 )
def Q43 (N:Nat) (f:List Int) (j:List Int):Option (Bool) :=
 if (f.length != j.length) = true then (
  some false
 ) else (
  Q5v (
   Q1B (Q4m N f j) N 0
  ) fun _ =>
  some true
 )
def Q3j (N:Nat) (j:Int) (o:List Int) (q:Int) (s:List Int):Option (Bool) :=
 if (j == q) = true then (
  Qf (Q43 N o s) fun f =>
  some f
 ) else (
  some false
 )
def Q3J (N:Nat) (s:List Int) (y:List Q1) (z:List Q1) (e3:List (ByteArray × Bool)) (a4:Int) (l5:List Int):Option (Bool) :=
 Qf (Q3m N s y z e3) fun (f,j,o) =>
 if o = true then (
  Qf (Q3j N f j a4 l5) fun q =>
  some q
 ) else (
  some false
 )
def Q2M (N:Nat) (j:Int) (o:List Int) (q:List Int) (_:List Q1) (_:List Q1) (_:List (ByteArray × Bool)) (s:Int) (y:List Int):Option (Bool) :=
 Qf (Q1k N q s y j o) fun f =>
 some (f == 0)
def Q2c (N:Nat) (o:List Q1) (s:List Int) (y:List Q1) (z:List (ByteArray × Bool)) (a4:Int) (l5:List Int):Nat → Option (Nat ⊕ (Unit ⊕ Int)):=fun f =>
 if (decide (f < o.length)) = true then (
  Qf (o[f]?) fun j =>
  Qf (Q2M N j.rule j.ids s o y z a4 l5) fun q =>
  if q = true then (
   some (.inr (.inr ((f:Nat):Int)))
  ) else (
   gd (f + 1 ≤ 9223372036854775807) <|
   some (.inl (f + 1))
  )
 ) else (
  some (.inr (.inl ()))
 )
def Q2u (N:Nat) (f:List Q1) (j:List Int) (o:List Q1) (q:List (ByteArray × Bool)) (s:Int) (y:List Int):Option (Int) :=
 Q5v (
  Q1B (Q2c N f j o q s y) N 0
 ) fun _ =>
 some (-1)
def Q2e (N:Nat) (l0:List Int) (q:List Q1) (s:List Q1) (e3:List (ByteArray × Bool)) (y:Int) (z:List Int):Option (Nat × (List Int) × (List Q1) × (List Q1) × (List (ByteArray × Bool))) :=
 Qf (Q37 N l0 q s e3) fun _ =>
 Qf (Q2u N q l0 s e3 y z) fun f =>
 if (decide (f < 0)) = true then (
  some (6,l0,q,s,e3)
 ) else (
  gd (-9223372036854775808 ≤ f + 1 ∧ f + 1 ≤ 9223372036854775807) <|
  gd (0 ≤ f) <|
  gd (f.toNat < q.length) <|
  Qf (Q4A N y z) fun a2 =>
  Qf (Q5a N y z) fun _ =>
  gd (s.length + ([(⟨y,z⟩ : Q1)]).length ≤ 4398046511104) <|
  Qf (Q2f N (s ++ ([(⟨y,z⟩ : Q1)])) l0) fun (j,o) =>
  gd (j.length = (s ++ ([(⟨y,z⟩ : Q1)])).length) <|
  some (0,o,q.take f.toNat ++ q.drop (f.toNat + 1),j,Q7p ltB a2 true e3)
 )
def Q66 (N:Nat) (q:List Q1):(Nat × (List Q1)) → Option ((Nat × (List Q1)) ⊕ (List Q1)):=fun (f,j) =>
 if (decide (f < q.length)) = true then (
  Qf (q[f]?) fun o =>
  Qf (Q5a N o.rule o.ids) fun _ =>
  gd (j.length + [o].length ≤ 4398046511104) <|
  gd (f + 1 ≤ 9223372036854775807) <|
  some (.inl (f + 1,j ++ [o]))
 ) else (
  some (.inr j)
 )
def Q36 (N:Nat) (o:List Int) (q:List Q1) (j:List Q1) (s:List (ByteArray × Bool)):Option (List Q1) :=
 Qf (Q37 N o q j s) fun _ =>
 Qf (
  Q1B (Q66 N j) N (0,[])
 ) fun f =>
 some f
def Q2h (N:Nat):Option (Unit) :=
 Qf (Q3n N [0,5]) fun v4 =>
 gd ([0,5].length = 2) <|
 Qf (QN N 0 [9,8]) fun _ =>
 Qf (QN N 0 [9,7]) fun _ =>
 Qf (Q4h N ([] : List Qw) v4 0 [9,8] 0 [9,7]) fun aZ =>
 gd (aZ = true) <|
 Qf (QN N 0 [9,8]) fun _ =>
 Qf (QN N 0 [9]) fun _ =>
 Qf (Q4h N ([] : List Qw) v4 0 [9,8] 0 [9]) fun b0 =>
 gd (b0 = true) <|
 Qf (QN N 1 [1]) fun _ =>
 Qf (QN N 0 [9,8]) fun _ =>
 Qf (Q4h N ([] : List Qw) v4 1 [1] 0 [9,8]) fun b1 =>
 gd (b1 = true) <|
 Qf (QN N 0 [8,9]) fun _ =>
 Qf (QN N 0 [9,8]) fun _ =>
 Qf (Q4h N ([] : List Qw) v4 0 [8,9] 0 [9,8]) fun b2 =>
 gd (b2 = true) <|
 Qf (Q7v N ([] : List Qw) v4) fun
 | .inl _=>(
 none
 )
 | .inr v40=>(
 Qf (QN N 0 [1]) fun _ =>
 Qf (QN N 1 [1]) fun _ =>
 Qf (Q33 N v40 [] [] ([] : List (ByteArray × Bool)) [(⟨0,[1]⟩ : Q1),(⟨1,[1]⟩ : Q1)]) fun (aL,a1,a2,a3,a4) =>
 gd ((aL != 0) = false) <|
 Qf (QN N 1 [1]) fun _ =>
 Qf (Q3J N a1 a2 a3 a4 1 [1]) fun b3 =>
 gd (b3 = true) <|
 Qf (QN N 1 [1]) fun _ =>
 Qf (Q2e N a1 a2 a3 a4 1 [1]) fun (aM,f,j,o,q) =>
 gd ([1].length = 1) <|
 gd ((aM != 0) = false) <|
 Qf (QN N 0 [1]) fun _ =>
 Qf (Q3J N f j o q 0 [1]) fun b4 =>
 gd (b4 = true) <|
 Qf (Q36 N f j o q) fun b5 =>
 gd ((b5.length != 1) = false) <|
 Qf (QN N 1 [1]) fun _ =>
 Qf (QN N 0 [1]) fun _ =>
 Qf (Q33 N f j o q [(⟨1,[1]⟩ : Q1),(⟨0,[1]⟩ : Q1)]) fun (aN,a5,a6,a7,a8) =>
 gd ((aN != 0) = false) <|
 Qf (QN N 0 [1]) fun _ =>
 Qf (Q3J N a5 a6 a7 a8 0 [1]) fun b6 =>
 gd (b6 = true) <|
 Qf (QN N 0 [1]) fun _ =>
 Qf (Q33 N a5 a6 a7 a8 [(⟨0,[1]⟩ : Q1)]) fun (aO,aP,aQ,aR,aS) =>
 gd ((aO != 0) = false) <|
 Qf (QN N 0 [1]) fun _ =>
 Qf (QN N 1 [1]) fun _ =>
 Qf (Q33 N aP aQ aR aS [(⟨0,[1]⟩ : Q1),(⟨1,[1]⟩ : Q1)]) fun (a9,s,y,z,a0) =>
 gd ((a9 != 0) = false) <|
 Qf (QN N 1 [1]) fun _ =>
 Qf (Q3J N s y z a0 1 [1]) fun aU =>
 gd (aU = true) <|
 Qf (QN N 2 [1]) fun _ =>
 Qf (Q33 N s y z a0 [(⟨2,[1]⟩ : Q1)]) fun (aA,aB,aC,aD,aE) =>
 gd ((aA == 4) = true) <|
 Qf (QN N 0 [1]) fun _ =>
 Qf (QN N 0 [1]) fun _ =>
 Qf (Q33 N aB aC aD aE [(⟨0,[1]⟩ : Q1),(⟨0,[1]⟩ : Q1)]) fun (aF,aG,aH,aI,aJ) =>
 gd ((aF == 4) = true) <|
 Qf (QN N 0 [2]) fun _ =>
 Qf (Q2e N aG aH aI aJ 0 [2]) fun (aK,_,_,_,_) =>
 gd ([2].length = 1) <|
 gd ((aK == 6) = true) <|
 some ()
 )
def Q3P (_:Nat) (_:Int) (_:Int):Option (Unit) :=
 some ()
def Q5R (N:Nat):(Nat × (List Int)) → Option ((Nat × (List Int)) ⊕ (List Int)):=fun (f,j) =>
 if (decide (f < 12)) = true then (
  Qf (Q3P N 1 ((f:Nat):Int)) fun _ =>
  gd (j.length + ([(IntKind.wrap .i64 ((IntKind.wrap .i64 (1000003 * (IntKind.wrap .i64 (1 + 7)))) + ((f:Nat):Int)))]).length ≤ 17592186044416) <|
  gd (f + 1 ≤ 9223372036854775807) <|
  some (.inl (f + 1,(j ++ ([(IntKind.wrap .i64 ((IntKind.wrap .i64 (1000003 * (IntKind.wrap .i64 (1 + 7)))) + ((f:Nat):Int)))]))))
 ) else (
  some (.inr j)
 )
def Q6S (N:Nat) (j:List Int):Option (List Int) :=
 gd (j.length + 12 ≤ 9223372036854775807) <|
 gd (j.length + 12 ≤ 17592186044416) <|
 gd (([] : List Int).length + j.length ≤ 17592186044416) <|
 Qf (
  Q1B (Q5R N) N (0,j)
 ) fun f =>
 gd (j.length ≤ f.length) <|
 some f
def Q3T (N:Nat) (_:Int) (f:List Int):Option (List Int) :=
 Qf (Q6S N f) fun j =>
 some j
def Q4C (_:Nat) (_:List Qw) (q:List QP) (j:Int) (_:List Int):Option (Int) :=
 Qf (
  if (decide (j < 0)) = true then (
   some true
  ) else (
   some (decide (j ≥ ((q.length:Nat):Int)))
  )
 ) fun f =>
 if f = true then (
  some 0
 ) else (
  gd (0 ≤ j) <|
  Qf (q[j.toNat]?) fun o =>
  some o.salience
 )
def Q7o (_:Nat) (f:Int) (j:List Int) (y:List Int) (o:Nat):Option (Bool) :=
 if (decide (f > 0)) = true then (
  gd (-9223372036854775808 ≤ f - 1 ∧ f - 1 ≤ 9223372036854775807) <|
  gd (0 ≤ f - 1) <|
  Qf (j[(f - 1).toNat]?) fun q =>
  Qf (y[o]?) fun s =>
  some (decide (q < s))
 ) else (
  some false
 )
def Q5H (N:Nat) (y:List Int) (q:Nat):((List Int) × Int) → Option (((List Int) × Int) ⊕ ((List Int) × Int)):=fun (j,f) =>
 Qf (Q7o N f j y q
 ) fun o =>
 if o = true then (
  gd (-9223372036854775808 ≤ f - 1 ∧ f - 1 ≤ 9223372036854775807) <|
  gd (0 ≤ f - 1) <|
  Qf (j[(f - 1).toNat]?) fun s =>
  gd (0 ≤ f) <|
  Qf (j[f.toNat]?) fun _ =>
  gd (-9223372036854775808 ≤ f - 1 ∧ f - 1 ≤ 9223372036854775807) <|
  some (.inl (j.set f.toNat s,f - 1))
 ) else (
  some (.inr (j,f))
 )
def Q5G (N:Nat) (s:List Int):(Nat × (List Int)) → Option ((Nat × (List Int)) ⊕ (List Int)):=fun (j,f) =>
 if (decide (j < s.length)) = true then (
  gd (f.length + [0].length ≤ 17592186044416) <|
  Qf (
   Q1B (Q5H N s j) N (f ++ [0],((f.length:Nat):Int))
  ) fun (o,q) =>
  Qf (s[j]?) fun y =>
  gd (0 ≤ q) <|
  Qf (o[q.toNat]?) fun _ =>
  gd (j + 1 ≤ 9223372036854775807) <|
  some (.inl (j + 1,o.set q.toNat y))
 ) else (
  some (.inr f)
 )
def Q4V (N:Nat) (j:List Int):Option (List Int) :=
 Qf (
  Q1B (Q5G N j) N (0,[])
 ) fun f =>
 some f
def Q5W (_:Nat) (o:List Int) (q:List Int):Nat → Option (Nat ⊕ (Unit ⊕ Bool)):=fun f =>
 Qf (
  if (decide (f < o.length)) = true then (
   some (decide (f < q.length))
  ) else (
   some false
  )
 ) fun j =>
 if j = true then (
  Qf (o[f]?) fun s =>
  Qf (q[f]?) fun y =>
  if (s != y) = true then (
   Qf (o[f]?) fun z =>
   Qf (q[f]?) fun a0 =>
   some (.inr (.inr (decide (z > a0))))
  ) else (
   gd (f + 1 ≤ 9223372036854775807) <|
   some (.inl (f + 1))
  )
 ) else (
  some (.inr (.inl ()))
 )
def Q5X (_:Nat) (q:List Int) (z:List Int):Nat → Option (Nat ⊕ (Unit ⊕ Bool)):=fun f =>
 if (decide (f < q.length)) = true then (
  Qf (q[f]?) fun s =>
  Qf (z[f]?) fun y =>
  if (s != y) = true then (
   Qf (q[f]?) fun j =>
   Qf (z[f]?) fun o =>
   some (.inr (.inr (decide (j < o))))
  ) else (
   gd (f + 1 ≤ 9223372036854775807) <|
   some (.inl (f + 1))
  )
 ) else (
  some (.inr (.inl ()))
 )
def Q3s (N:Nat) (l0:List Qw) (l1:List QP) (s:Int) (y:List Int) (z:Int) (l5:List Int):Option (Bool) :=
 Qf (Q4C N l0 l1 s y) fun o =>
 Qf (Q4C N l0 l1 z l5) fun q =>
 if (o != q) = true then (
  some (decide (o > q))
 ) else (
  Qf (Q4V N y) fun f =>
  Qf (Q4V N l5) fun j =>
  Q5v (
   Q1B (Q5W N f j) N 0
  ) fun _ =>
  if (f.length != j.length) = true then (
   some (decide (j.length < f.length))
  ) else (
   if (s != z) = true then (
    some (decide (s < z))
   ) else (
    Q5v (
     Q1B (Q5X N y l5) N 0
    ) fun _ =>
    some false
   )
  )
 )
def Q5g (_:Nat) (q:Nat) (s:List Int) (y:List Int):Nat → Option (Nat ⊕ (Unit ⊕ Bool)):=fun f =>
 if (decide (f < q)) = true then (
  gd (f < q) <|
  Qf (s[f]?) fun j =>
  Qf (y[f]?) fun o =>
  if (j != o) = true then (
   some (.inr (.inr false))
  ) else (
   gd (f + 1 ≤ 9223372036854775807) <|
   some (.inl (f + 1))
  )
 ) else (
  some (.inr (.inl ()))
 )
def Q6f (N:Nat) (o:List Int) (f:Nat) (j:List Int):Option (Bool) :=
 if (f != j.length) = true then (
  some false
 ) else (
  Q5v (
   Q1B (Q5g N f o j) N 0
  ) fun _ =>
  some true
 )
def Q3B (N:Nat) (j:Int) (o:List Int) (q:Nat) (s:Int) (y:List Int):Option (Bool) :=
 if (j == s) = true then (
  Qf (Q6f N o q y) fun f =>
  some f
 ) else (
  some false
 )
def Q7h (N:Nat) (f:Nat) (j:List Int) (q:List Int):Option (Bool) :=
 if (decide (f < j.length)) = true then (
  Qf ((q.take (j.length + 12))[f]?) fun s =>
  Qf (j[f]?) fun y =>
  if (!(s == y)) = true then (
   some true
  ) else (
   if (decide (j.length ≤ f)) = true then (
    Qf ((q.take (j.length + 12))[f]?) fun o =>
    gd (-9223372036854775808 ≤ ((f:Nat):Int) - ((j.length:Nat):Int) ∧ ((f:Nat):Int) - ((j.length:Nat):Int) ≤ 9223372036854775807) <|
    Qf (Q3P N 1 (((f:Nat):Int) - ((j.length:Nat):Int))) fun _ =>
    some (!(o == (IntKind.wrap .i64 ((IntKind.wrap .i64 (1000003 * (IntKind.wrap .i64 (1 + 7)))) + (((f:Nat):Int) - ((j.length:Nat):Int))))))
   ) else (
    some false
   )
  )
 ) else (
  if (decide (j.length ≤ f)) = true then (
   Qf ((q.take (j.length + 12))[f]?) fun o =>
   gd (-9223372036854775808 ≤ ((f:Nat):Int) - ((j.length:Nat):Int) ∧ ((f:Nat):Int) - ((j.length:Nat):Int) ≤ 9223372036854775807) <|
   Qf (Q3P N 1 (((f:Nat):Int) - ((j.length:Nat):Int))) fun _ =>
   some (!(o == (IntKind.wrap .i64 ((IntKind.wrap .i64 (1000003 * (IntKind.wrap .i64 (1 + 7)))) + (((f:Nat):Int) - ((j.length:Nat):Int))))))
  ) else (
   some false
  )
 )
def Q5c (N:Nat) (o:List Int) (q:List Int):Nat → Option (Nat ⊕ (Unit ⊕ Bool)):=fun f =>
 if (decide (f < ((o.take (q.length + 12)).length))) = true then (
  Qf (Q7h N f q o
  ) fun j =>
  if j = true then (
   some (.inr (.inr false))
  ) else (
   gd (f + 1 ≤ 9223372036854775807) <|
   some (.inl (f + 1))
  )
 ) else (
  some (.inr (.inl ()))
 )
def Q6b (N:Nat) (j:List Int) (o:Nat) (f:List Int):Option (Bool) :=
 if (o != f.length) = true then (
  some false
 ) else (
  gd (f.length + 12 ≤ 9223372036854775807) <|
  gd (f.length + 12 ≤ j.length) <|
  Q5v (
   Q1B (Q5c N j f) N 0
  ) fun _ =>
  some true
 )
def Q3A (N:Nat) (s:Int) (j:List Int) (o:Nat) (y:Int) (q:List Int):Option (Bool) :=
 Qf (Q3B N s j o y q) fun z =>
 if z = true then (
  Qf (Q6b N j o q) fun f =>
  some f
 ) else (
  some false
 )
def Q5E (_:Nat) (q:List Qw) (s:List Qw):Nat → Option (Nat ⊕ (Unit ⊕ Bool)):=fun f =>
 if (decide (f < q.length)) = true then (
  Qf (q[f]?) fun j =>
  Qf (s[f]?) fun o =>
  if (!((j.name.toList == o.name.toList) && (j.fields == o.fields))) = true then (
   some (.inr (.inr false))
  ) else (
   gd (f + 1 ≤ 9223372036854775807) <|
   some (.inl (f + 1))
  )
 ) else (
  some (.inr (.inl ()))
 )
def Q6t (N:Nat) (f:List Qw) (j:List Qw):Option (Bool) :=
 if (f.length != j.length) = true then (
  some false
 ) else (
  Q5v (
   Q1B (Q5E N f j) N 0
  ) fun _ =>
  some true
 )
def Q5U (_:Nat) (q:List ArgD) (s:List ArgD):Nat → Option (Nat ⊕ (Unit ⊕ Bool)):=fun f =>
 if (decide (f < q.length)) = true then (
  Qf (q[f]?) fun j =>
  Qf (s[f]?) fun o =>
  if (!decide (j = o)) = true then (
   some (.inr (.inr false))
  ) else (
   gd (f + 1 ≤ 9223372036854775807) <|
   some (.inl (f + 1))
  )
 ) else (
  some (.inr (.inl ()))
 )
def Q6V (N:Nat) (f:List ArgD) (j:List ArgD):Option (Bool) :=
 if (f.length != j.length) = true then (
  some false
 ) else (
  Q5v (
   Q1B (Q5U N f j) N 0
  ) fun _ =>
  some true
 )
def Q4I (_:Nat) (y:List QD) (z:List QD) (rc:Int → Int → Int → ByteArray → Int → Int → (List QD) → Int → Int → Int → ByteArray → Int → Int → (List QD) → Option (Bool)):Nat → Option (Nat ⊕ (Unit ⊕ Bool)):=fun f =>
 if (decide (f < y.length)) = true then (
  Qf (y[f]?) fun j =>
  Qf (z[f]?) fun o =>
  Qf (rc j.kind j.value.k j.value.n j.value.s j.var j.op j.kids o.kind o.value.k o.value.n o.value.s o.var o.op o.kids) fun q =>
  if (!q) = true then (
   some (.inr (.inr false))
  ) else (
   gd (f + 1 ≤ 9223372036854775807) <|
   some (.inl (f + 1))
  )
 ) else (
  some (.inr (.inl ()))
 )
def Q5D (N:Nat) (rc:Int → Int → Int → ByteArray → Int → Int → (List QD) → Int → Int → Int → ByteArray → Int → Int → (List QD) → Option (Bool)) (f:List QD) (j:List QD):Option (Bool) :=
 if (f.length != j.length) = true then (
  some false
 ) else (
  Q5v (
   Q1B (Q4I N f j rc) N 0
  ) fun _ =>
  some true
 )
def Q7B (N:Nat) (y:Int) (z:Int) (a1:Int) (a2:Int) (a3:ByteArray) (a8:Int) (a9:Int) (f:ByteArray) (a4:Int) (j:Int) (a5:Int) (o:Int) (rc:Int → Int → Int → ByteArray → Int → Int → (List QD) → Int → Int → Int → ByteArray → Int → Int → (List QD) → Option (Bool)) (l6:List QD) (q:List QD):Option (Bool) :=
 if (y == z) = true then (
  if (decide ((⟨a1,a2,a3⟩ : V) = (⟨a8,a9,f⟩ : V))) = true then (
   if (a4 == j) = true then (
    if (a5 == o) = true then (
     Qf (Q5D N rc l6 q) fun s =>
     some s
    ) else (
     some false
    )
   ) else (
    some false
   )
  ) else (
   some false
  )
 ) else (
  some false
 )
def Q6e (N:Nat) (rc:Int → Int → Int → ByteArray → Int → Int → (List QD) → Int → Int → Int → ByteArray → Int → Int → (List QD) → Option (Bool)) (y:Int) (z:Int) (a2:Int) (a3:ByteArray) (a4:Int) (a5:Int) (l6:List QD) (a7:Int) (a8:Int) (a9:Int) (j:ByteArray) (o:Int) (q:Int) (s:List QD):Option (Bool) :=
 Qf (Q7B N y a7 z a2 a3 a8 a9 j a4 o a5 q rc l6 s
 ) fun f =>
 some f
def Q42:Nat → Int → Int → Int → ByteArray → Int → Int → (List QD) → Int → Int → Int → ByteArray → Int → Int → (List QD) → Option (Bool)
 | 0=>fun _=>fun _=>fun _=>fun _=>fun _=>fun _=>fun _=>fun _=>fun _=>fun _=>fun _=>fun _=>fun _=>fun _=>none
 | N + 1=>Q6e N (Q42 N)
def Q7A (N:Nat) (a0:Int) (f:Int) (a1:Int) (j:Int) (l2:List ArgD) (o:List ArgD) (a3:Int) (a4:Int) (a5:Int) (a6:ByteArray) (a7:Int) (a8:Int) (l9:List QD) (q:Int) (s:Int) (y:Int) (z:ByteArray) (a2:Int) (a9:Int) (aA:List QD):Option (Bool) :=
 if (a0 == f) = true then (
  if (a1 == j) = true then (
   Qf (Q6V N l2 o) fun aB =>
   if aB = true then (
    Qf (Q42 N a3 a4 a5 a6 a7 a8 l9 q s y z a2 a9 aA) fun aC =>
    some aC
   ) else (
    some false
   )
  ) else (
   some false
  )
 ) else (
  some false
 )
def Q6W (N:Nat) (a0:Int) (a1:Int) (l2:List ArgD) (a3:Int) (a4:Int) (a5:Int) (a6:ByteArray) (a7:Int) (a8:Int) (l9:List QD) (j:Int) (o:Int) (q:List ArgD) (s:Int) (y:Int) (z:Int) (a2:ByteArray) (a9:Int) (aA:Int) (aB:List QD):Option (Bool) :=
 Qf (Q7A N a0 j a1 o l2 q a3 a4 a5 a6 a7 a8 l9 s y z a2 a9 aA aB
 ) fun f =>
 some f
def Q5B (N:Nat) (y:List Q1P) (z:List Q1P):Nat → Option (Nat ⊕ (Unit ⊕ Bool)):=fun o =>
 if (decide (o < y.length)) = true then (
  Qf (y[o]?) fun f =>
  Qf (z[o]?) fun j =>
  Qf (Q6W N f.kind f.type f.args f.test.kind f.test.value.k f.test.value.n f.test.value.s f.test.var f.test.op f.test.kids j.kind j.type j.args j.test.kind j.test.value.k j.test.value.n j.test.value.s j.test.var j.test.op j.test.kids) fun q =>
  if (!q) = true then (
   some (.inr (.inr false))
  ) else (
   gd (o + 1 ≤ 9223372036854775807) <|
   some (.inl (o + 1))
  )
 ) else (
  some (.inr (.inl ()))
 )
def Q6q (N:Nat) (f:List Q1P) (j:List Q1P):Option (Bool) :=
 if (f.length != j.length) = true then (
  some false
 ) else (
  Q5v (
   Q1B (Q5B N f j) N 0
  ) fun _ =>
  some true
 )
def Q5C (N:Nat) (y:List QD) (z:List QD):Nat → Option (Nat ⊕ (Unit ⊕ Bool)):=fun f =>
 if (decide (f < y.length)) = true then (
  Qf (y[f]?) fun j =>
  Qf (z[f]?) fun o =>
  Qf (Q42 N j.kind j.value.k j.value.n j.value.s j.var j.op j.kids o.kind o.value.k o.value.n o.value.s o.var o.op o.kids) fun q =>
  if (!q) = true then (
   some (.inr (.inr false))
  ) else (
   gd (f + 1 ≤ 9223372036854775807) <|
   some (.inl (f + 1))
  )
 ) else (
  some (.inr (.inl ()))
 )
def Q6r (N:Nat) (f:List QD) (j:List QD):Option (Bool) :=
 if (f.length != j.length) = true then (
  some false
 ) else (
  Q5v (
   Q1B (Q5C N f j) N 0
  ) fun _ =>
  some true
 )
def Q7R (N:Nat) (j:Int) (o:Int) (q:Int) (s:Int) (y:Int) (z:Int) (l3:List QD) (l7:List QD):Option (Bool) :=
 if (j == o) = true then (
  if (q == s) = true then (
   if (y == z) = true then (
    Qf (Q6r N l3 l7) fun f =>
    some f
   ) else (
    some false
   )
  ) else (
   some false
  )
 ) else (
  some false
 )
def Q7d (N:Nat) (j:Int) (o:Int) (q:Int) (s:List QD) (y:Int) (z:Int) (a6:Int) (l7:List QD):Option (Bool) :=
 Qf (Q7R N j y o z q a6 s l7
 ) fun f =>
 some f
def Q5T (N:Nat) (s:List Q1W) (y:List Q1W):Nat → Option (Nat ⊕ (Unit ⊕ Bool)):=fun f =>
 if (decide (f < s.length)) = true then (
  Qf (s[f]?) fun j =>
  Qf (y[f]?) fun o =>
  Qf (Q7d N j.kind j.type j.which j.exprs o.kind o.type o.which o.exprs) fun q =>
  if (!q) = true then (
   some (.inr (.inr false))
  ) else (
   gd (f + 1 ≤ 9223372036854775807) <|
   some (.inl (f + 1))
  )
 ) else (
  some (.inr (.inl ()))
 )
def Q6U (N:Nat) (f:List Q1W) (j:List Q1W):Option (Bool) :=
 if (f.length != j.length) = true then (
  some false
 ) else (
  Q5v (
   Q1B (Q5T N f j) N 0
  ) fun _ =>
  some true
 )
def Q7C (N:Nat) (o:ByteArray) (q:ByteArray) (s:Int) (y:Int) (z:Int) (a7:Int) (l3:List Q1P) (l8:List Q1P) (l4:List Q1W) (l9:List Q1W):Option (Bool) :=
 if (o.toList == q.toList) = true then (
  if (s == y) = true then (
   if (z == a7) = true then (
    Qf (Q6q N l3 l8) fun f =>
    if f = true then (
     Qf (Q6U N l4 l9) fun j =>
     some j
    ) else (
     some false
    )
   ) else (
    some false
   )
  ) else (
   some false
  )
 ) else (
  some false
 )
def Q6X (N:Nat) (j:ByteArray) (o:Int) (q:Int) (s:List Q1P) (y:List Q1W) (z:ByteArray) (a6:Int) (a7:Int) (l8:List Q1P) (l9:List Q1W):Option (Bool) :=
 Qf (Q7C N j z o a6 q a7 s l8 y l9
 ) fun f =>
 some f
def Q52 (N:Nat) (s:List QP) (y:List QP):Nat → Option (Nat ⊕ (Unit ⊕ Bool)):=fun f =>
 if (decide (f < s.length)) = true then (
  Qf (s[f]?) fun j =>
  Qf (y[f]?) fun o =>
  Qf (Q6X N j.name j.salience j.vars j.conds j.acts o.name o.salience o.vars o.conds o.acts) fun q =>
  if (!q) = true then (
   some (.inr (.inr false))
  ) else (
   gd (f + 1 ≤ 9223372036854775807) <|
   some (.inl (f + 1))
  )
 ) else (
  some (.inr (.inl ()))
 )
def Q5V (N:Nat) (f:List QP) (j:List QP):Option (Bool) :=
 if (f.length != j.length) = true then (
  some false
 ) else (
  Q5v (
   Q1B (Q52 N f j) N 0
  ) fun _ =>
  some true
 )
def Q6s (N:Nat) (j:List Qw) (o:List QP) (q:List Qw) (s:List QP):Option (Bool) :=
 Qf (Q6t N j q) fun y =>
 if y = true then (
  Qf (Q5V N o s) fun f =>
  some f
 ) else (
  some false
 )
def Q5I (N:Nat) (o:List Int):Nat → Option (Nat ⊕ (Unit ⊕ Int)):=fun f =>
 if (decide (f < o.length)) = true then (
  Qf (o[f]?) fun q =>
  if (decide (o.length ≤ f)) = true then (
   some (.inr (.inr 1))
  ) else (
   Qf (o[f]?) fun s =>
   Qf (Q2H N q s) fun j =>
   if (j != 0) = true then (
    some (.inr (.inr j))
   ) else (
    gd (f + 1 ≤ 9223372036854775807) <|
    some (.inl (f + 1))
   )
  )
 ) else (
  some (.inr (.inl ()))
 )
def Q6w (N:Nat) (f:List Int):Option (Int) :=
 Q5v (
  Q1B (Q5I N f) N 0
 ) fun _ =>
 if (decide (f.length < f.length)) = true then (
  some (-1)
 ) else (
  some 0
 )
def Q5O (N:Nat) (l0:List Int) (a1:Int) (f:List Int) (a3:Int):Option (Int) :=
 Qf (Q4U N l0 a3 f) fun v9 =>
 Qf (Q4U N l0 a1 f) fun j =>
 Qf (Q2H N v9 j) fun o =>
 Qf (Q5t N f) fun q =>
 Qf (Q5t N f) fun s =>
 Qf (Q4L N q s) fun y =>
 Qf (Q2H N a1 a3) fun z =>
 Qf (Q6w N f) fun a0 =>
 Qf (Q92 N [o,y,z,a0]) fun a2 =>
 some a2
def Q7Y (N:Nat) (j:List Qw) (o:List QP) (q:Int) (s:List Int) (y:Int):Option (Bool) :=
 Qf (Q8B N j o) fun z =>
 Qf (Q5O N z q s y) fun f =>
 some (decide (f < 0))
def Q2R (N:Nat) (l0:List Int) (s:Int) (j:List Int) (a3:Int) (y:List Int):Option (Unit) :=
 Qf (
  if (decide (400 < l0.length)) = true then (
   some true
  ) else (
   Qf (Q5J N [(⟨s,j⟩ : Q1),(⟨a3,y⟩ : Q1)]) fun a4 =>
   some a4
  )
 ) fun z =>
 if z = true then (
  Qf (Q2h N) fun _ =>
  some ()
 ) else (
  Qf (Q3n N l0) fun f =>
  Qf (Q3T N s j) fun o =>
  Qf (Q3T N a3 y) fun q =>
  gd (j.length ≤ o.length) <|
  gd (y.length ≤ q.length) <|
  Qf (Q4h N ([] : List Qw) f s (o.take j.length) a3 (q.take y.length)) fun a5 =>
  Qf (Q3s N ([] : List Qw) f s j a3 y) fun a6 =>
  gd ((a5 == a6) = true) <|
  gd (y.length ≤ q.length) <|
  gd (j.length ≤ o.length) <|
  Qf (Q4h N ([] : List Qw) f a3 (q.take y.length) s (o.take j.length)) fun a7 =>
  Qf (Q3s N ([] : List Qw) f a3 y s j) fun a8 =>
  gd ((a7 == a8) = true) <|
  Qf (Q3A N s o j.length s j) fun a9 =>
  gd (a9 = true) <|
  Qf (Q3A N a3 q y.length a3 y) fun aA =>
  gd (aA = true) <|
  Qf (Q3n N l0) fun aB =>
  Qf (Q6s N ([] : List Qw) f ([] : List Qw) aB) fun aC =>
  gd (aC = true) <|
  Qf (Q7Y N ([] : List Qw) f s j s) fun aD =>
  gd (aD = false) <|
  Qf (Q2h N) fun _ =>
  some ()
 )
def Q6p (_:Nat) (f:List Qw):Option (Unit) :=
 gd (([] : List Qw).length + f.length ≤ 5864062014805) <|
 some ()
def Q6O (_:Nat) (f:List ArgD):Option (Unit) :=
 gd (([] : List ArgD).length + f.length ≤ 2932031007402) <|
 some ()
def Q4E (_:Nat) (l0:List QD) (rc:Int → Int → Int → ByteArray → Int → Int → (List QD) → Option (Int × Int × Int × ByteArray × Int × Int × (List QD))):(Nat × (List QD)) → Option ((Nat × (List QD)) ⊕ (List QD)):=fun (o,f) =>
 if (decide (o < l0.length)) = true then (
  Qf (l0[o]?) fun j =>
  Qf (rc j.kind j.value.k j.value.n j.value.s j.var j.op j.kids) fun (q,y,z,a0,a1,a2,a3) =>
  gd (f.length + ([(⟨q,(⟨y,z,a0⟩ : V),a1,a2,a3⟩ : QD)]).length ≤ 1759218604441) <|
  gd (o + 1 ≤ 9223372036854775807) <|
  some (.inl (o + 1,(f ++ ([(⟨q,(⟨y,z,a0⟩ : V),a1,a2,a3⟩ : QD)]))))
 ) else (
  some (.inr f)
 )
def Q5y (N:Nat) (rc:Int → Int → Int → ByteArray → Int → Int → (List QD) → Option (Int × Int × Int × ByteArray × Int × Int × (List QD))) (j:List QD):Option (List QD) :=
 Qf (
  Q1B (Q4E N j rc) N (0,[])
 ) fun f =>
 some f
def Q69 (N:Nat) (rc:Int → Int → Int → ByteArray → Int → Int → (List QD) → Option (Int × Int × Int × ByteArray × Int × Int × (List QD))) (f:Int) (j:Int) (o:Int) (q:ByteArray) (s:Int) (y:Int) (z:List QD):Option (Int × Int × Int × ByteArray × Int × Int × (List QD)) :=
 Qf (Q5y N rc z) fun v5 =>
 some (f,j,o,q,s,y,v5)
def Q41:Nat → Int → Int → Int → ByteArray → Int → Int → (List QD) → Option (Int × Int × Int × ByteArray × Int × Int × (List QD))
 | 0=>fun _=>fun _=>fun _=>fun _=>fun _=>fun _=>fun _=>none
 | N + 1=>Q69 N (Q41 N)
def Q6P (N:Nat) (_:Int) (_:Int) (l2:List ArgD) (a3:Int) (a4:Int) (a5:Int) (a6:ByteArray) (a7:Int) (a8:Int) (l9:List QD):Option (Int × Int × Int × ByteArray × Int × Int × (List QD)) :=
 Qf (Q6O N l2) fun _ =>
 Qf (Q41 N a3 a4 a5 a6 a7 a8 l9) fun (f,j,o,q,s,y,z) =>
 some (f,j,o,q,s,y,z)
def Q5w (N:Nat) (l0:List Q1P):(Nat × (List Q1P)) → Option ((Nat × (List Q1P)) ⊕ (List Q1P)):=fun (o,j) =>
 if (decide (o < l0.length)) = true then (
  Qf (l0[o]?) fun f =>
  Qf (Q6P N f.kind f.type f.args f.test.kind f.test.value.k f.test.value.n f.test.value.s f.test.var f.test.op f.test.kids) fun (q,y,z,a0,a1,a2,a3) =>
  gd (j.length + ([(⟨f.kind,f.type,f.args,(⟨q,(⟨y,z,a0⟩ : V),a1,a2,a3⟩ : QD)⟩ : Q1P)]).length ≤ 1172812402961) <|
  gd (o + 1 ≤ 9223372036854775807) <|
  some (.inl (o + 1,(j ++ ([(⟨f.kind,f.type,f.args,(⟨q,(⟨y,z,a0⟩ : V),a1,a2,a3⟩ : QD)⟩ : Q1P)]))))
 ) else (
  some (.inr j)
 )
def Q6l (N:Nat) (j:List Q1P):Option (List Q1P) :=
 Qf (
  Q1B (Q5w N j) N (0,[])
 ) fun f =>
 some f
def Q5x (N:Nat) (l0:List QD):(Nat × (List QD)) → Option ((Nat × (List QD)) ⊕ (List QD)):=fun (o,f) =>
 if (decide (o < l0.length)) = true then (
  Qf (l0[o]?) fun j =>
  Qf (Q41 N j.kind j.value.k j.value.n j.value.s j.var j.op j.kids) fun (q,y,z,a0,a1,a2,a3) =>
  gd (f.length + ([(⟨q,(⟨y,z,a0⟩ : V),a1,a2,a3⟩ : QD)]).length ≤ 1759218604441) <|
  gd (o + 1 ≤ 9223372036854775807) <|
  some (.inl (o + 1,(f ++ ([(⟨q,(⟨y,z,a0⟩ : V),a1,a2,a3⟩ : QD)]))))
 ) else (
  some (.inr f)
 )
def Q6m (N:Nat) (j:List QD):Option (List QD) :=
 Qf (
  Q1B (Q5x N j) N (0,[])
 ) fun f =>
 some f
def Q7c (N:Nat) (_:Int) (_:Int) (_:Int) (f:List QD):Option (List QD) :=
 Qf (Q6m N f) fun j =>
 some j
def Q5P (N:Nat) (s:List Q1W):(Nat × (List Q1W)) → Option ((Nat × (List Q1W)) ⊕ (List Q1W)):=fun (o,j) =>
 if (decide (o < s.length)) = true then (
  Qf (s[o]?) fun f =>
  Qf (Q7c N f.kind f.type f.which f.exprs) fun q =>
  gd (j.length + ([(⟨f.kind,f.type,f.which,q⟩ : Q1W)]).length ≤ 2932031007402) <|
  gd (o + 1 ≤ 9223372036854775807) <|
  some (.inl (o + 1,(j ++ ([(⟨f.kind,f.type,f.which,q⟩ : Q1W)]))))
 ) else (
  some (.inr j)
 )
def Q6N (N:Nat) (j:List Q1W):Option (List Q1W) :=
 Qf (
  Q1B (Q5P N j) N (0,[])
 ) fun f =>
 some f
def Q6R (N:Nat) (_:ByteArray) (_:Int) (_:Int) (f:List Q1P) (j:List Q1W):Option ((List Q1P) × (List Q1W)) :=
 Qf (Q6l N f) fun o =>
 Qf (Q6N N j) fun q =>
 some (o,q)
def Q51 (N:Nat) (y:List QP):(Nat × (List QP)) → Option ((Nat × (List QP)) ⊕ (List QP)):=fun (o,j) =>
 if (decide (o < y.length)) = true then (
  Qf (y[o]?) fun f =>
  Qf (Q6R N f.name f.salience f.vars f.conds f.acts) fun (q,s) =>
  gd (j.length + ([(⟨f.name,f.salience,f.vars,q,s⟩ : QP)]).length ≤ 1759218604441) <|
  gd (o + 1 ≤ 9223372036854775807) <|
  some (.inl (o + 1,(j ++ ([(⟨f.name,f.salience,f.vars,q,s⟩ : QP)]))))
 ) else (
  some (.inr j)
 )
def Q5Q (N:Nat) (j:List QP):Option (List QP) :=
 Qf (
  Q1B (Q51 N j) N (0,[])
 ) fun f =>
 some f
def Q6n (N:Nat) (f:List Qw) (j:List QP):Option (List QP) :=
 Qf (Q6p N f) fun _ =>
 Qf (Q5Q N j) fun o =>
 some o
def Q4f (N:Nat) (j:List Qw) (f:List QP):Option (Unit ⊕ (List QP)) :=
 if (decide (64 < f.length)) = true then (
  some (.inl ())
 ) else (
  Qf (Q6n N j f) fun o =>
  some (.inr o)
 )
def Q6T (_:Nat) (o:Int) (f:Int):Option (Int) :=
 if (decide (f < 1)) = true then (
  some 0
 ) else (
  gd (f ≠ 0) <|
  Qf (
   if (decide ((Int.tmod o f) < 0)) = true then (
    gd (-9223372036854775808 ≤ (Int.tmod o f) + f ∧ (Int.tmod o f) + f ≤ 9223372036854775807) <|
    some ((Int.tmod o f) + f)
   ) else (
    some (Int.tmod o f)
   )
  ) fun j =>
  some j
 )
def Q3k (N:Nat) (f:Int) (j:Int):Option (Unit) :=
 Qf (Q3P N f j) fun _ =>
 some ()
def Q5d (N:Nat) (s:List Q1):(Nat × (List Qz)) → Option ((Nat × (List Qz)) ⊕ (List Qz)):=fun (o,f) =>
 if (decide (o < s.length)) = true then (
  Qf (s[o]?) fun j =>
  Qf (Q3T N j.rule j.ids) fun q =>
  gd (j.ids.length ≤ q.length) <|
  gd (f.length + ([(⟨j.rule,q.take j.ids.length,q.drop j.ids.length⟩ : Qz)]).length ≤ 4398046511104) <|
  gd (o + 1 ≤ 9223372036854775807) <|
  some (.inl (o + 1,(f ++ [(⟨j.rule,q.take j.ids.length,q.drop j.ids.length⟩ : Qz)])))
 ) else (
  some (.inr f)
 )
def Q5e (N:Nat):(Nat × (List Qz)) → Option ((Nat × (List Qz)) ⊕ (List Qz)):=fun (f,j) =>
 if (decide (f < 12)) = true then (
  Qf (Q3k N 1 ((f:Nat):Int)) fun _ =>
  gd (j.length + ([(⟨(IntKind.wrap .i64 ((IntKind.wrap .i64 (1000003 * (IntKind.wrap .i64 (1 + 7)))) + ((f:Nat):Int))),([] : List Int),[]⟩ : Qz)]).length ≤ 4398046511104) <|
  gd (f + 1 ≤ 9223372036854775807) <|
  some (.inl (f + 1,(j ++ [(⟨(IntKind.wrap .i64 ((IntKind.wrap .i64 (1000003 * (IntKind.wrap .i64 (1 + 7)))) + ((f:Nat):Int))),([] : List Int),[]⟩ : Qz)])))
 ) else (
  some (.inr j)
 )
def Q6c (N:Nat) (o:List Q1):Option (List Qz) :=
 gd (o.length + 12 ≤ 9223372036854775807) <|
 gd (o.length + 12 ≤ 4398046511104) <|
 Qf (
  Q1B (Q5d N o) N (0,[])
 ) fun j =>
 Qf (
  Q1B (Q5e N) N (0,j)
 ) fun f =>
 gd (o.length ≤ f.length) <|
 some f
def Q7P (N:Nat) (f:Qz) (s:List Int) (j:List (ByteArray × Bool)):Option (Bool) :=
 if (decide (f.rule < 0)) = true then (
  some true
 ) else (
  if (decide (f.rule ≥ ((s.length:Nat):Int))) = true then (
   some true
  ) else (
   gd (f.ids.length ≤ (f.ids ++ f.idsT).length) <|
   Qf (Q4A N f.rule ((f.ids ++ f.idsT).take f.ids.length)) fun o =>
   optE (Q4P o j) (
   some false
   ) (fun q =>
   some q
   )
  )
 )
def Q67 (N:Nat) (y:Nat) (l4:List Qz) (z:List Int) (l1:List Q1) (l2:List Q1) (e3:List (ByteArray × Bool)):(Nat × (List (ByteArray × Bool))) → Option ((Nat × (List (ByteArray × Bool))) ⊕ (Unit ⊕ (Nat × (List Int) × (List Q1) × (List Q1) × (List (ByteArray × Bool))))):=fun (f,o) =>
 if (decide (f < y)) = true then (
  Qf (l4[f]?) fun j =>
  gd (f < y) <|
  Qf (Q7P N j z o
  ) fun q =>
  if q = true then (
   some (.inr (.inr (4,z,l1,l2,e3)))
  ) else (
   gd (j.ids.length ≤ (j.ids ++ j.idsT).length) <|
   Qf (Q4A N j.rule ((j.ids ++ j.idsT).take j.ids.length)) fun s =>
   gd (f + 1 ≤ 9223372036854775807) <|
   some (.inl (f + 1,Q7p ltB s true o))
  )
 ) else (
  some (.inr (.inl ()))
 )
def Q7Q (N:Nat) (l4:List Qz) (s:Nat) (k5:Nat) (e3:List (ByteArray × Bool)) (j:List Q1) (q:List (ByteArray × Bool)) (o:List Q1):Option ((List (ByteArray × Bool)) × (List Q1) × (List Q1)) :=
 Qf (l4[s]?) fun f =>
 gd (s < k5) <|
 gd (f.ids.length ≤ (f.ids ++ f.idsT).length) <|
 Qf (Q4A N f.rule ((f.ids ++ f.idsT).take f.ids.length)) fun z =>
 Qf (
  optE (Q4P z e3) (
  some false
  ) (fun a0 =>
  some a0
  )
 ) fun y =>
 if y = true then (
  gd (f.ids.length ≤ (f.ids ++ f.idsT).length) <|
  Qf (Q5a N f.rule ((f.ids ++ f.idsT).take f.ids.length)) fun _ =>
  gd (j.length + ([(⟨f.rule,(f.ids ++ f.idsT).take f.ids.length⟩ : Q1)]).length ≤ 4398046511104) <|
  some (Q7p ltB z true q,o,(j ++ [(⟨f.rule,(f.ids ++ f.idsT).take f.ids.length⟩ : Q1)]))
 ) else (
  gd (f.ids.length ≤ (f.ids ++ f.idsT).length) <|
  Qf (Q5a N f.rule ((f.ids ++ f.idsT).take f.ids.length)) fun _ =>
  gd (o.length + ([(⟨f.rule,(f.ids ++ f.idsT).take f.ids.length⟩ : Q1)]).length ≤ 4398046511104) <|
  some (q,(o ++ [(⟨f.rule,(f.ids ++ f.idsT).take f.ids.length⟩ : Q1)]),j)
 )
def Q68 (N:Nat) (k5:Nat) (l4:List Qz) (e3:List (ByteArray × Bool)):(Nat × (List (ByteArray × Bool)) × (List Q1) × (List Q1)) → Option ((Nat × (List (ByteArray × Bool)) × (List Q1) × (List Q1)) ⊕ ((List (ByteArray × Bool)) × (List Q1) × (List Q1))):=fun (o,y,f,j) =>
 if (decide (o < k5)) = true then (
  Qf (Q7Q N l4 o k5 e3 j y f
  ) fun (z,q,s) =>
  gd (o + 1 ≤ 9223372036854775807) <|
  some (.inl (o + 1,z,q,s))
 ) else (
  some (.inr (y,f,j))
 )
def Q7b (N:Nat) (l0:List Int) (l1:List Q1) (l2:List Q1) (e3:List (ByteArray × Bool)) (l4:List Qz) (k5:Nat):Option (Nat × (List Int) × (List Q1) × (List Q1) × (List (ByteArray × Bool))) :=
 Qf (Q37 N l0 l1 l2 e3) fun _ =>
 Q5v (
  Q1B (Q67 N k5 l4 l0 l1 l2 e3) N (0,([] : List (ByteArray × Bool)))
 ) fun _ =>
 Qf (
  Q1B (Q68 N k5 l4 e3) N (0,([] : List (ByteArray × Bool)),[],[])
 ) fun (s,f,j) =>
 Qf (Q2f N f l0) fun (o,y) =>
 gd (o.length = f.length) <|
 Qf (Q2f N j y) fun (q,z) =>
 gd (q.length = j.length) <|
 some (0,z,o,q,s)
def Q6h (N:Nat) (q:List Q1) (s:Int) (y:List Int):Nat → Option (Nat ⊕ (Unit ⊕ Int)):=fun f =>
 if (decide (f < q.length)) = true then (
  Qf (q[f]?) fun j =>
  Qf (Q3j N j.rule j.ids s y) fun o =>
  if o = true then (
   some (.inr (.inr ((f:Nat):Int)))
  ) else (
   gd (f + 1 ≤ 9223372036854775807) <|
   some (.inl (f + 1))
  )
 ) else (
  some (.inr (.inl ()))
 )
def Q4q (N:Nat) (f:List Q1) (j:Int) (o:List Int):Option (Int) :=
 Q5v (
  Q1B (Q6h N f j o) N 0
 ) fun _ =>
 some (-1)
def Q6Q (_:Nat) (f:List Int):Option (Unit) :=
 gd (([] : List Int).length + f.length ≤ 17592186044416) <|
 some ()
def Q6o (N:Nat) (_:Int) (f:List Int):Option (Unit) :=
 Qf (Q6Q N f) fun _ =>
 some ()
def Q5b (N:Nat) (q:List Q1):(Nat × (List Q1)) → Option ((Nat × (List Q1)) ⊕ (List Q1)):=fun (j,f) =>
 if (decide (j < q.length)) = true then (
  Qf (q[j]?) fun o =>
  Qf (Q6o N o.rule o.ids) fun _ =>
  gd (f.length + [o].length ≤ 4398046511104) <|
  gd (j + 1 ≤ 9223372036854775807) <|
  some (.inl (j + 1,f ++ [o]))
 ) else (
  some (.inr f)
 )
def Q6a (N:Nat) (j:List Q1):Option (List Q1) :=
 Qf (
  Q1B (Q5b N j) N (0,[])
 ) fun f =>
 some f
def Q6H (N:Nat) (j:List Q1) (f:Nat) (z:List QP):Option (Bool) :=
 Qf (j[f]?) fun q =>
 if (decide (q.rule < 0)) = true then (
  some true
 ) else (
  Qf (j[f]?) fun s =>
  if (decide (s.rule ≥ ((z.length:Nat):Int))) = true then (
   some true
  ) else (
   gd (f ≤ j.length) <|
   Qf (j[f]?) fun o =>
   Qf (Q4q N (j.take f) o.rule o.ids) fun y =>
   some (decide (y ≥ 0))
  )
 )
def Q6G (N:Nat) (z:List Q1) (o:Nat) (l1:List QP) (l2:List Q1) (l3:List Bool) (f:List Bool):Option ((List Bool) ⊕ ((Nat × (List Bool)) ⊕ ((List Bool) ⊕ (Nat × (List Q1) × (List Bool))))) :=
 Qf (Q6H N z o l1
 ) fun j =>
 if j = true then (
  some (.inr (.inr (.inr (4,l2,l3))))
 ) else (
  Qf (z[o]?) fun s =>
  Qf (Q4q N l2 s.rule s.ids) fun q =>
  if (decide (q ≥ 0)) = true then (
   gd (0 ≤ q) <|
   Qf (l3[q.toNat]?) fun y =>
   gd (f.length + [y].length ≤ 140737488355328) <|
   some (.inl (f ++ [y]))
  ) else (
   gd (f.length + [false].length ≤ 140737488355328) <|
   some (.inl (f ++ [false]))
  )
 )
def Q4K (N:Nat) (q:List Q1) (s:List QP) (y:List Q1) (z:List Bool):(Nat × (List Bool)) → Option ((Nat × (List Bool)) ⊕ ((List Bool) ⊕ (Nat × (List Q1) × (List Bool)))):=fun (f,j) =>
 if (decide (f < q.length)) = true then (
  Q5v (Q6G N q f s y z j
  ) fun o =>
  gd (f + 1 ≤ 9223372036854775807) <|
  some (.inl (f + 1,o))
 ) else (
  some (.inr (.inl j))
 )
def Q5F (N:Nat) (_:List Qw) (q:List QP) (s:List Q1) (y:List Bool) (o:List Q1):Option (Nat × (List Q1) × (List Bool)) :=
 Q5v (
  Q1B (Q4K N o q s y) N (0,[])
 ) fun f =>
 Qf (Q6a N o) fun j =>
 some (0,j,f)
def Q6F (N:Nat) (f:Nat) (o:List Q1) (z:List Qz):Option (Bool) :=
 if (decide (f < o.length)) = true then (
  Qf ((z.take (o.length + 12))[f]?) fun q =>
  Qf (o[f]?) fun y =>
  Qf (Q3A N q.rule (q.ids ++ q.idsT) q.ids.length y.rule y.ids) fun a0 =>
  if (!a0) = true then (
   some true
  ) else (
   if (decide (o.length ≤ f)) = true then (
    Qf ((z.take (o.length + 12))[f]?) fun j =>
    gd (-9223372036854775808 ≤ ((f:Nat):Int) - ((o.length:Nat):Int) ∧ ((f:Nat):Int) - ((o.length:Nat):Int) ≤ 9223372036854775807) <|
    Qf (Q3k N 1 (((f:Nat):Int) - ((o.length:Nat):Int))) fun _ =>
    Qf (Q3B N j.rule (j.ids ++ j.idsT) j.ids.length (IntKind.wrap .i64 ((IntKind.wrap .i64 (1000003 * (IntKind.wrap .i64 (1 + 7)))) + (((f:Nat):Int) - ((o.length:Nat):Int)))) ([] : List Int)) fun s =>
    some (!s)
   ) else (
    some false
   )
  )
 ) else (
  if (decide (o.length ≤ f)) = true then (
   Qf ((z.take (o.length + 12))[f]?) fun j =>
   gd (-9223372036854775808 ≤ ((f:Nat):Int) - ((o.length:Nat):Int) ∧ ((f:Nat):Int) - ((o.length:Nat):Int) ≤ 9223372036854775807) <|
   Qf (Q3k N 1 (((f:Nat):Int) - ((o.length:Nat):Int))) fun _ =>
   Qf (Q3B N j.rule (j.ids ++ j.idsT) j.ids.length (IntKind.wrap .i64 ((IntKind.wrap .i64 (1000003 * (IntKind.wrap .i64 (1 + 7)))) + (((f:Nat):Int) - ((o.length:Nat):Int)))) ([] : List Int)) fun s =>
   some (!s)
  ) else (
   some false
  )
 )
def Q4F (N:Nat) (o:List Qz) (q:List Q1):Nat → Option (Nat ⊕ (Unit ⊕ Bool)):=fun f =>
 if (decide (f < ((o.take (q.length + 12)).length))) = true then (
  Qf (Q6F N f q o
  ) fun j =>
  if j = true then (
   some (.inr (.inr false))
  ) else (
   gd (f + 1 ≤ 9223372036854775807) <|
   some (.inl (f + 1))
  )
 ) else (
  some (.inr (.inl ()))
 )
def Q5z (N:Nat) (j:List Qz) (o:Nat) (f:List Q1):Option (Bool) :=
 if (o != f.length) = true then (
  some false
 ) else (
  gd (f.length + 12 ≤ 9223372036854775807) <|
  gd (f.length + 12 ≤ j.length) <|
  Q5v (
   Q1B (Q4F N j f) N 0
  ) fun _ =>
  some true
 )
def Q5f (N:Nat) (o:Nat):(Nat × (List Int)) → Option ((Nat × (List Int)) ⊕ (List Int)):=fun (f,j) =>
 if (decide (f < (o + 12))) = true then (
  Qf (Q3P N 2 ((f:Nat):Int)) fun _ =>
  Qf (j[f]?) fun _ =>
  gd (f < o + 12) <|
  gd (f + 1 ≤ 9223372036854775807) <|
  some (.inl (f + 1,(j.set f (IntKind.wrap .i64 ((IntKind.wrap .i64 (1000003 * (IntKind.wrap .i64 (2 + 7)))) + ((f:Nat):Int))))))
 ) else (
  some (.inr j)
 )
def Q6d (N:Nat) (j:List Int) (f:Nat):Option (List Int) :=
 gd (f + 12 ≤ 9223372036854775807) <|
 gd (f + 12 ≤ j.length) <|
 Q1B (Q5f N f) N (0,j)
def Q5S (N:Nat) (_:Int) (f:List Int) (j:Nat):Option (List Int) :=
 Qf (Q6d N f j) fun o =>
 some o
def Q4G (N:Nat) (s:Nat):(Nat × (List Qz)) → Option ((Nat × (List Qz)) ⊕ (List Qz)):=fun (f,j) =>
 if (decide (f < s)) = true then (
  Qf (j[f]?) fun o =>
  gd (f < s) <|
  Qf (Q5S N o.rule (o.ids ++ o.idsT) o.ids.length) fun q =>
  gd (f + 1 ≤ 9223372036854775807) <|
  some (.inl (f + 1,(j.set f (⟨o.rule,q.take o.ids.length,q.drop o.ids.length⟩ : Qz))))
 ) else (
  some (.inr j)
 )
def Q4H (N:Nat) (o:Nat):(Nat × (List Qz)) → Option ((Nat × (List Qz)) ⊕ (List Qz)):=fun (f,j) =>
 if (decide (f < (o + 12))) = true then (
  Qf (Q3k N 2 ((f:Nat):Int)) fun _ =>
  Qf (j[f]?) fun _ =>
  gd (f < o + 12) <|
  gd (f + 1 ≤ 9223372036854775807) <|
  some (.inl (f + 1,(j.set f (⟨(IntKind.wrap .i64 ((IntKind.wrap .i64 (1000003 * (IntKind.wrap .i64 (2 + 7)))) + ((f:Nat):Int))),([] : List Int),[]⟩ : Qz))))
 ) else (
  some (.inr j)
 )
def Q5A (N:Nat) (o:List Qz) (j:Nat):Option (List Qz) :=
 Qf (
  Q1B (Q4G N j) N (0,o)
 ) fun f =>
 gd (j + 12 ≤ 9223372036854775807) <|
 gd (j + 12 ≤ f.length) <|
 Q1B (Q4H N j) N (0,f)
def Q2x (N:Nat) (_:List Qw) (_:List QP) (s:List Q1) (o:List Bool) (y:Int) (z:List Int):Option (Nat × (List Bool)) :=
 Qf (Q4q N s y z) fun f =>
 Qf (
  if (decide (f < 0)) = true then (
   some true
  ) else (
   gd (0 ≤ f) <|
   Qf (o[f.toNat]?) fun q =>
   some q
  )
 ) fun j =>
 if j = true then (
  some (6,o)
 ) else (
  gd (0 ≤ f) <|
  Qf (o[f.toNat]?) fun _ =>
  some (0,o.set f.toNat true)
 )
def Q83 (N:Nat) (l0:List Int) (l1:List Q1) (l2:List Q1) (e3:List (ByteArray × Bool)) (a2:List Qz) (z:List Q1) (l4:List Qw) (l5:List QP) (l6:List Q1) (l7:List Bool):Option (Bool × (List Int) × (List Q1) × (List Q1) × (List (ByteArray × Bool)) × (List Q1) × (List Bool)) :=
 Qf (Q7b N l0 l1 l2 e3 a2 z.length) fun (a0,f,j,o,q) =>
 Qf (Q5F N l4 l5 l6 l7 z) fun (a1,s,y) =>
 if (a0 == a1) = true then (
  Qf (Q5z N a2 z.length z) fun a3 =>
  gd (a3 = true) <|
  some (true,f,j,o,q,s,y)
 ) else (
  some (false,f,j,o,q,s,y)
 )
def Q7n (N:Nat) (l0:List Int) (l1:List Q1) (l2:List Q1) (e3:List (ByteArray × Bool)) (l4:List Qw) (l5:List QP) (l6:List Q1) (l7:List Bool) (a8:Int) (a9:Int) (a1:List Q1):Option (Bool × (List Int) × (List Q1) × (List Q1) × (List (ByteArray × Bool)) × (List Q1) × (List Bool)) :=
 Qf (Q6T N a8 4) fun aR =>
 if (aR == 0) = true then (
  Qf (Q6c N a1) fun aS =>
  Qf (Q83 N l0 l1 l2 e3 aS a1 l4 l5 l6 l7
  ) fun (a4,o,q,s,y,z,a0) =>
  Qf (Q5A N aS a1.length) fun _ =>
  some (a4,o,q,s,y,z,a0)
 ) else (
  if (aR == 3) = true then (
   Qf (QN N 0 ([] : List Int)) fun _ =>
   Qf (
    if (decide (0 < a1.length)) = true then (
     Qf (Q6T N a9 ((a1.length:Nat):Int)) fun aT =>
     gd (0 ≤ aT) <|
     Qf (a1[aT.toNat]?) fun aU =>
     some (aU.rule,aU.ids)
    ) else (
     some (0,([] : List Int))
    )
   ) fun (j,f) =>
   Qf (Q2e N l0 l1 l2 e3 j f) fun (a5,a6,a7,aA,aB) =>
   Qf (Q2x N l4 l5 l6 l7 j f) fun (aC,aD) =>
   some (a5 == aC,a6,a7,aA,aB,l6,aD)
  ) else (
   Qf (Q3m N l0 l1 l2 e3) fun (a2,a3,aE) =>
   if (!aE) = true then (
    some (true,l0,l1,l2,e3,l6,l7)
   ) else (
    Qf (Q2e N l0 l1 l2 e3 a2 a3) fun (aF,aG,aH,aI,aJ) =>
    Qf (Q2x N l4 l5 l6 l7 a2 a3) fun (aK,aL) =>
    some (aF == aK,aG,aH,aI,aJ,l6,aL)
   )
  )
 )
def Q6u (N:Nat) (l3:List Bool) (j:Nat) (f:Int) (z:List Q1) (l0:List Qw) (l1:List QP):Option (Bool) :=
 Qf (l3[j]?) fun s =>
 if (!s) = true then (
  if (decide (f < 0)) = true then (
   some true
  ) else (
   Qf (z[j]?) fun o =>
   gd (0 ≤ f) <|
   Qf (z[f.toNat]?) fun q =>
   Qf (Q3s N l0 l1 o.rule o.ids q.rule q.ids) fun y =>
   some y
  )
 ) else (
  some false
 )
def Q4u (N:Nat) (s:List Q1) (y:List Bool) (z:List Qw) (l1:List QP):(Nat × Int) → Option ((Nat × Int) ⊕ Int):=fun (f,j) =>
 if (decide (f < s.length)) = true then (
  Qf (
   Qf (Q6u N y f j s z l1
   ) fun o =>
   if o = true then (
    some ((f:Nat):Int)
   ) else (
    some j
   )
  ) fun q =>
  gd (f + 1 ≤ 9223372036854775807) <|
  some (.inl (f + 1,q))
 ) else (
  some (.inr j)
 )
def Q5i (N:Nat) (q:List Qw) (s:List QP) (o:List Q1) (y:List Bool):Option (Int × (List Int) × Bool) :=
 Qf (
  Q1B (Q4u N o y q s) N (0,-1)
 ) fun f =>
 if (decide (f < 0)) = true then (
  some (0,[],false)
 ) else (
  gd (0 ≤ f) <|
  Qf (o[f.toNat]?) fun j =>
  some (j.rule,j.ids,true)
 )
def Q4k (N:Nat) (j:List Q1) (l2:List Q1) (q:Nat) (l0:List Qw) (l1:List QP):Nat → Option (Nat ⊕ Nat):=fun f =>
 Qf (
  if (decide (f < j.length)) = true then (
   Qf (j[f]?) fun s =>
   Qf (l2[q]?) fun y =>
   Qf (Q3s N l0 l1 s.rule s.ids y.rule y.ids) fun z =>
   some z
  ) else (
   some false
  )
 ) fun o =>
 if o = true then (
  gd (f + 1 ≤ 9223372036854775807) <|
  some (.inl (f + 1))
 ) else (
  some (.inr f)
 )
def Q6j (N:Nat) (z:List Bool) (o:Nat) (f:List Q1) (y:List Q1) (l0:List Qw) (l1:List QP):Option (List Q1) :=
 Qf (z[o]?) fun s =>
 if (!s) = true then (
  some f
 ) else (
  Qf (
   Q1B (Q4k N f y o l0 l1) N 0
  ) fun j =>
  gd (j ≤ f.length) <|
  gd (([] : List Q1).length + (f.take j).length ≤ 4398046511104) <|
  Qf (y[o]?) fun q =>
  gd ((([] : List Q1) ++ (f.take j)).length + [q].length ≤ 4398046511104) <|
  gd (j ≤ f.length) <|
  gd (((([] : List Q1) ++ (f.take j)) ++ [q]).length + (f.drop j).length ≤ 4398046511104) <|
  some (((([] : List Q1) ++ (f.take j)) ++ [q]) ++ (f.drop j))
 )
def Q4j (N:Nat) (q:List Q1) (s:List Bool) (y:List Qw) (z:List QP):(Nat × (List Q1)) → Option ((Nat × (List Q1)) ⊕ (List Q1)):=fun (f,j) =>
 if (decide (f < q.length)) = true then (
  Qf (Q6j N s f j q y z
  ) fun o =>
  gd (f + 1 ≤ 9223372036854775807) <|
  some (.inl (f + 1,o))
 ) else (
  some (.inr j)
 )
def Q3N (N:Nat) (j:List Qw) (o:List QP) (q:List Q1) (s:List Bool):Option (List Q1) :=
 Qf (
  Q1B (Q4j N q s j o) N (0,[])
 ) fun f =>
 some f
def Q5h (N:Nat) (s:List Q1) (y:List Q1):Nat → Option (Nat ⊕ (Unit ⊕ Bool)):=fun f =>
 if (decide (f < s.length)) = true then (
  Qf (s[f]?) fun j =>
  Qf (y[f]?) fun o =>
  Qf (Q3j N j.rule j.ids o.rule o.ids) fun q =>
  if (!q) = true then (
   some (.inr (.inr false))
  ) else (
   gd (f + 1 ≤ 9223372036854775807) <|
   some (.inl (f + 1))
  )
 ) else (
  some (.inr (.inl ()))
 )
def Q4B (N:Nat) (f:List Q1) (j:List Q1):Option (Bool) :=
 if (f.length != j.length) = true then (
  some false
 ) else (
  Q5v (
   Q1B (Q5h N f j) N 0
  ) fun _ =>
  some true
 )
def Q4n (N:Nat) (j:Int) (o:Int):Option (Bool) :=
 if (j == o) = true then (
  Qf (Q43 N ([] : List Int) ([] : List Int)) fun f =>
  some f
 ) else (
  some false
 )
def Q4r (_:Nat):(Nat × (List QP)) → Option ((Nat × (List QP)) ⊕ Unit):=fun (j,f) =>
 if (decide (j < f.length)) = true then (
  Qf (f[j]?) fun q =>
  Qf (f[j]?) fun o =>
  gd (j + 1 ≤ 9223372036854775807) <|
  some (.inl (j + 1,(f.set j (⟨o.name,IntKind.wrap .i64 (0 - q.salience),o.vars,o.conds,o.acts⟩ : QP))))
 ) else (
  some (.inr ())
 )
def Q4s (_:Nat):(Nat × (List QP)) → Option ((Nat × (List QP)) ⊕ Unit):=fun (j,f) =>
 if (decide (j < f.length)) = true then (
  Qf (f[j]?) fun q =>
  Qf (f[j]?) fun o =>
  gd (j + 1 ≤ 9223372036854775807) <|
  some (.inl (j + 1,(f.set j (⟨o.name,IntKind.wrap .i64 (0 - q.salience),o.vars,o.conds,o.acts⟩ : QP))))
 ) else (
  some (.inr ())
 )
def Q4t (N:Nat) (l1:List Q9) (a7:List QP):(Nat × (List Q1) × (List Bool) × (List Int) × (List Q1) × (List Q1) × (List (ByteArray × Bool))) → Option ((Nat × (List Q1) × (List Bool) × (List Int) × (List Q1) × (List Q1) × (List (ByteArray × Bool))) ⊕ (((List Q1) × (List Bool) × (List Int) × (List Q1) × (List Q1) × (List (ByteArray × Bool))) ⊕ Bool)):=fun (f,j,o,q,s,y,z) =>
 Qf (
  if (decide (f < l1.length)) = true then (
   if (decide (f < 60)) = true then (
    some true
   ) else (
    some false
   )
  ) else (
   some false
  )
 ) fun a6 =>
 if a6 = true then (
  Qf (l1[f]?) fun aK =>
  Qf (Q5J N aK.l) fun aL =>
  if aL = true then (
   Qf (Q2h N) fun _ =>
   some (.inr (.inr true))
  ) else (
   Qf (l1[f]?) fun a8 =>
   Qf (Q7n N q s y z ([] : List Qw) a7 j o a8.op a8.which a8.l) fun (a9,a0,a1,a2,a3,a4,a5) =>
   gd (a9 = true) <|
   Qf (Q3m N a0 a1 a2 a3) fun (aA,aB,aC) =>
   Qf (Q5i N ([] : List Qw) a7 a4 a5) fun (aD,aE,aF) =>
   gd ((aC != aF) = false) <|
   Qf (Q3j N aA aB aD aE) fun aM =>
   gd (aM = true) <|
   Qf (Q36 N a0 a1 a2 a3) fun aG =>
   Qf (Q3N N ([] : List Qw) a7 a4 a5) fun aH =>
   Qf (Q4B N aG aH) fun aI =>
   gd (aI = true) <|
   gd (f + 1 ≤ 9223372036854775807) <|
   some (.inl (f + 1,a4,a5,a0,a1,a2,a3))
  )
 ) else (
  some (.inr (.inl (j,o,q,s,y,z)))
 )
def Q3b (N:Nat) (l0:List Int) (l1:List Q9):Option (Bool) :=
 if (decide (400 < l0.length)) = true then (
  Qf (Q2h N) fun _ =>
  some true
 ) else (
  Qf (Q3n N l0) fun a4 =>
  Qf (Q7v N ([] : List Qw) a4) fun
  | .inl _=>(
  Qf (Q4f N ([] : List Qw) a4) fun
  | .inl _=>(
  Qf (
   Q1B (Q4r N) N (0,a4)
  ) fun _ =>
  Qf (
   if (decide (0 < l1.length)) = true then (
    some ()
   ) else (
    some ()
   )
  ) fun _ =>
  Qf (Q2h N) fun _ =>
  some true
  )
  | .inr v29=>(
  some false
  )
  )
  | .inr v26=>(
  Qf (Q4f N ([] : List Qw) a4) fun
  | .inl _=>(
  some false
  )
  | .inr v29=>(
  Qf (
   Q1B (Q4s N) N (0,a4)
  ) fun _ =>
  Q5v (
   Q1B (Q4t N l1 v29) N (0,[],[],v26,[],[],([] : List (ByteArray × Bool)))
  ) fun (s,z,f,j,o,q) =>
  Qf (Q3m N f j o q) fun (a0,a1,_) =>
  Qf (Q3m N f j o q) fun (a2,a3,_) =>
  Qf (Q36 N f j o q) fun a5 =>
  Qf (Q36 N f j o q) fun a6 =>
  gd ([[(⟨a0,a1⟩ : Q1)],[(⟨a2,a3⟩ : Q1)],a5,a6].length ≤ 8 ∧ ∀ y ∈ [[(⟨a0,a1⟩ : Q1)],[(⟨a2,a3⟩ : Q1)],a5,a6],y.length ≤ 10000 ∧ ∀ u ∈ y,Q79 u) <|
  Qf (Q36 N f j o q) fun a7 =>
  Qf (Q3N N ([] : List Qw) v29 s z) fun a8 =>
  Qf (Q4B N a7 a8) fun a9 =>
  gd (a9 = true) <|
  Qf (Q2h N) fun _ =>
  some true
  )
  )
 )
def Q46 (N:Nat) (j:Nat) (o:Nat):Nat → Option (Nat ⊕ Unit):=fun f =>
 if (decide (f < 4)) = true then (
  Qf (([[],[1],[2],[1,1],[1,2],[2,1],[2,2],[3,1,2],[1,2,3],[2,3,1],[3,3,1],[9223372036854775807],[-9223372036854775808]])[j]?) fun q =>
  Qf (QN N (Int.tmod ((f:Nat):Int) 2) q) fun _ =>
  Qf (([[],[1],[2],[1,1],[1,2],[2,1],[2,2],[3,1,2],[1,2,3],[2,3,1],[3,3,1],[9223372036854775807],[-9223372036854775808]])[o]?) fun s =>
  Qf (QN N (IntKind.wrap .i64 (Int.tdiv ((f:Nat):Int) 2)) s) fun _ =>
  Qf (Q2R N [0,0] (Int.tmod ((f:Nat):Int) 2) q (IntKind.wrap .i64 (Int.tdiv ((f:Nat):Int) 2)) s) fun _ =>
  Qf (([[],[1],[2],[1,1],[1,2],[2,1],[2,2],[3,1,2],[1,2,3],[2,3,1],[3,3,1],[9223372036854775807],[-9223372036854775808]])[j]?) fun y =>
  Qf (QN N (Int.tmod ((f:Nat):Int) 2) y) fun _ =>
  Qf (([[],[1],[2],[1,1],[1,2],[2,1],[2,2],[3,1,2],[1,2,3],[2,3,1],[3,3,1],[9223372036854775807],[-9223372036854775808]])[o]?) fun z =>
  Qf (QN N (IntKind.wrap .i64 (Int.tdiv ((f:Nat):Int) 2)) z) fun _ =>
  Qf (Q2R N [-1,7] (Int.tmod ((f:Nat):Int) 2) y (IntKind.wrap .i64 (Int.tdiv ((f:Nat):Int) 2)) z) fun _ =>
  gd (-9223372036854775808 ≤ ((f:Nat):Int) - 1 ∧ ((f:Nat):Int) - 1 ≤ 9223372036854775807) <|
  Qf (([[],[1],[2],[1,1],[1,2],[2,1],[2,2],[3,1,2],[1,2,3],[2,3,1],[3,3,1],[9223372036854775807],[-9223372036854775808]])[j]?) fun a0 =>
  Qf (QN N (((f:Nat):Int) - 1) a0) fun _ =>
  Qf (([[],[1],[2],[1,1],[1,2],[2,1],[2,2],[3,1,2],[1,2,3],[2,3,1],[3,3,1],[9223372036854775807],[-9223372036854775808]])[o]?) fun a1 =>
  Qf (QN N 0 a1) fun _ =>
  Qf (Q2R N [-1] (((f:Nat):Int) - 1) a0 0 a1) fun _ =>
  gd (f + 1 ≤ 9223372036854775807) <|
  some (.inl (f + 1))
 ) else (
  some (.inr ())
 )
def Q45 (N:Nat) (j:Nat):Nat → Option (Nat ⊕ Unit):=fun f =>
 if (decide (f < (([[],[1],[2],[1,1],[1,2],[2,1],[2,2],[3,1,2],[1,2,3],[2,3,1],[3,3,1],[9223372036854775807],[-9223372036854775808]]).length))) = true then (
  Qf (
   Q1B (Q46 N j f) N 0
  ) fun _ =>
  gd (f + 1 ≤ 9223372036854775807) <|
  some (.inl (f + 1))
 ) else (
  some (.inr ())
 )
def Q44 (N:Nat):Nat → Option (Nat ⊕ Unit):=fun f =>
 if (decide (f < (([[],[1],[2],[1,1],[1,2],[2,1],[2,2],[3,1,2],[1,2,3],[2,3,1],[3,3,1],[9223372036854775807],[-9223372036854775808]]).length))) = true then (
  Qf (
   Q1B (Q45 N f) N 0
  ) fun _ =>
  gd (f + 1 ≤ 9223372036854775807) <|
  some (.inl (f + 1))
 ) else (
  some (.inr ())
 )
def Q47 (N:Nat):Nat → Option (Nat ⊕ Unit):=fun f =>
 if (decide (f < 66)) = true then (
  gd (f ≤ 17592186044416) <|
  gd (-9223372036854775808 ≤ ((f:Nat):Int) - 1 ∧ ((f:Nat):Int) - 1 ≤ 9223372036854775807) <|
  Qf (QN N (((f:Nat):Int) - 1) [1]) fun _ =>
  Qf (QN N 0 [1]) fun _ =>
  Qf (QN N ((f:Nat):Int) [1]) fun _ =>
  Qf (QN N (-1) [1]) fun _ =>
  Qf (QN N 0 [1]) fun _ =>
  Qf (QN N 0 [1]) fun _ =>
  Qf (Q3b N (List.replicate f 0) [(⟨0,0,[(⟨(((f:Nat):Int) - 1),[1]⟩ : Q1),(⟨0,[1]⟩ : Q1)]⟩ : Q9),(⟨1,0,[]⟩ : Q9),(⟨0,0,[(⟨(((f:Nat):Int)),[1]⟩ : Q1)]⟩ : Q9),(⟨0,0,[(⟨-1,[1]⟩ : Q1)]⟩ : Q9),(⟨0,0,[(⟨0,[1]⟩ : Q1),(⟨0,[1]⟩ : Q1)]⟩ : Q9),(⟨1,0,[]⟩ : Q9)]) fun j =>
  gd (j = true) <|
  gd (f + 1 ≤ 9223372036854775807) <|
  some (.inl (f + 1))
 ) else (
  some (.inr ())
 )
def Q4J (N:Nat):Option (Unit) :=
 Qf (
  Q1B (Q44 N) N 0
 ) fun _ =>
 Qf (
  Q1B (Q47 N) N 63
 ) fun _ =>
 Qf (QN N 0 ([] : List Int)) fun _ =>
 Qf (Q3b N ([] : List Int) [(⟨0,0,[]⟩ : Q9),(⟨0,0,[(⟨0,[]⟩ : Q1)]⟩ : Q9),(⟨1,0,[]⟩ : Q9)]) fun f =>
 gd (f = true) <|
 Qf (QN N 0 ([] : List Int)) fun _ =>
 Qf (QN N 1 ([] : List Int)) fun _ =>
 Qf (QN N 2 ([] : List Int)) fun _ =>
 Qf (Q3b N [4611686018427387904,-9223372036854775808,9223372036854775807] [(⟨0,0,[(⟨0,[]⟩ : Q1),(⟨1,[]⟩ : Q1),(⟨2,[]⟩ : Q1)]⟩ : Q9),(⟨1,0,[]⟩ : Q9),(⟨1,0,[]⟩ : Q9),(⟨1,0,[]⟩ : Q9),(⟨1,0,[]⟩ : Q9)]) fun j =>
 gd (j = true) <|
 Qf (Q2h N) fun _ =>
 some ()
end Go.Proofs.YtgangmegcejllaaGreatDoor
