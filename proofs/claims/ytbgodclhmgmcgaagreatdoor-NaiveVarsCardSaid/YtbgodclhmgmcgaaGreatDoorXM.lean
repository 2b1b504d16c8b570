import Derived.Test.YtbgodclhmgmcgaaGreatDoorXT
namespace Go.Proofs.YtbgodclhmgmcgaaGreatDoor
open Go.RowKit
def Q1D (_:Nat)(l0:List Qe)(a1:Int)(rc:(List Qe)→Int→Option (Int)):(Nat×Int)→Option ((Nat×Int)⊕Int):=fun (s,h)=>
 Qp (
  if (decide (s < l0.length))=true then (
   some (decide (h≤a1))
  ) else (
   some false
  )
 ) fun y=>
 if y=true then (
  gd (-9223372036854775808≤h+1∧h+1≤9223372036854775807) <|
  Qp (l0[s]?) fun a2=>
  gd (-9223372036854775808≤a1 - h∧a1 - h≤9223372036854775807) <|
  gd (-9223372036854775808≤(a1 - h) - 1∧(a1 - h) - 1≤9223372036854775807) <|
  Qp (rc a2.kids ((a1 - h) - 1)) fun z=>
  gd (-9223372036854775808≤(h+1)+z∧(h+1)+z≤9223372036854775807) <|
  gd (s+1≤9223372036854775807) <|
  some (.inl (s+1,(h+1)+z))
 ) else (
  some (.inr h)
 )
def Q22 (N:Nat)(rc:(List Qe)→Int→Option (Int))(y:List Qe)(s:Int):Option (Int) :=
 Qp (
  Q19 (Q1D N y s rc) N (0,0)
 ) fun h=>
 gd (-9223372036854775808≤s+1∧s+1≤9223372036854775807) <|
 some (minI h (s+1))
def Q1q:Nat→(List Qe)→Int→Option (Int)
 | 0=>fun _=>fun _=>none
 | N+1=>Q22 N (Q1q N)
def Q2o (N:Nat)(a0:Qj):(Nat×Int)→Option ((Nat×Int)⊕Int):=fun (s,h)=>
 Qp (
  if (decide (s < a0.conds.length))=true then (
   some (decide (h < 400))
  ) else (
   some false
  )
 ) fun z=>
 if z=true then (
  Qp (a0.conds[s]?) fun y=>
  gd (-9223372036854775808≤h+((y.args.length:Nat):Int)∧h+((y.args.length:Nat):Int)≤9223372036854775807) <|
  Qp (a0.conds[s]?) fun a2=>
  Qp (Q1q N [a2.test] 400) fun a1=>
  gd (-9223372036854775808≤(h+((y.args.length:Nat):Int))+a1∧(h+((y.args.length:Nat):Int))+a1≤9223372036854775807) <|
  gd (s+1≤9223372036854775807) <|
  some (.inl (s+1,((h+((y.args.length:Nat):Int))+a1)))
 ) else (
  some (.inr h)
 )
def Q2p (N:Nat)(a0:Qj):(Nat×Int)→Option ((Nat×Int)⊕Int):=fun (s,h)=>
 Qp (
  if (decide (s < a0.acts.length))=true then (
   some (decide (h < 400))
  ) else (
   some false
  )
 ) fun y=>
 if y=true then (
  Qp (a0.acts[s]?) fun a1=>
  Qp (Q1q N a1.exprs 400) fun z=>
  gd (-9223372036854775808≤h+z∧h+z≤9223372036854775807) <|
  gd (s+1≤9223372036854775807) <|
  some (.inl (s+1,h+z))
 ) else (
  some (.inr h)
 )
def Q5l (N:Nat)(l1:List Qj)(z:Nat)(s:Int):Option (Int) :=
 Qp (l1[z]?) fun h=>
 gd (-9223372036854775808≤s+((h.conds.length:Nat):Int)∧s+((h.conds.length:Nat):Int)≤9223372036854775807) <|
 gd (-9223372036854775808≤(s+((h.conds.length:Nat):Int))+((h.acts.length:Nat):Int)∧(s+((h.conds.length:Nat):Int))+((h.acts.length:Nat):Int)≤9223372036854775807) <|
 Qp (
  Q19 (Q2o N h) N (0,((s+((h.conds.length:Nat):Int))+((h.acts.length:Nat):Int)))
 ) fun y=>
 Q19 (Q2p N h) N (0,y)
def Q2n (N:Nat)(l1:List Qj):(Nat×Int)→Option ((Nat×Int)⊕Int):=fun (h,s)=>
 Qp (
  if (decide (h < l1.length))=true then (
   some (decide (s < 400))
  ) else (
   some false
  )
 ) fun y=>
 if y=true then (
  Qp (Q5l N l1 h s
  ) fun z=>
  gd (h+1≤9223372036854775807) <|
  some (.inl (h+1,z))
 ) else (
  some (.inr s)
 )
def Q2r (_:Nat)(l2:List QP)(y:Nat):Nat→Option (Nat⊕(Unit⊕(Nat⊕(Unit⊕Bool)))):=fun h=>
 Qp (l2[y]?) fun z=>
 if (decide (h < z.args.length))=true then (
  Qp (l2[y]?) fun a0=>
  Qp (a0.args[h]?) fun a1=>
  if (decide (100 < a1.s.size))=true then (
   some (.inr (.inr (.inr (.inr false))))
  ) else (
   gd (h+1≤9223372036854775807) <|
   some (.inl (h+1))
  )
 ) else (
  some (.inr (.inl ()))
 )
def Q2q (N:Nat)(y:List QP):Nat→Option (Nat⊕(Unit⊕Bool)):=fun h=>
 if (decide (h < y.length))=true then (
  Q1O (
   Qp (y[h]?) fun s=>
   if (decide (20 < s.args.length))=true then (
    some (.inr (.inr (.inr false)))
   ) else (
    Q19 (Q2r N y h) N 0
   )
  ) fun _=>
  gd (h+1≤9223372036854775807) <|
  some (.inl (h+1))
 ) else (
  some (.inr (.inl ()))
 )
def Q3O (N:Nat)(y:List Qg)(s:List Qj)(z:List QP):Option (Bool) :=
 gd (y.length+s.length≤9223372036854775807) <|
 Qp (
  Q19 (Q2n N s) N (0,((y.length+s.length:Nat):Int))
 ) fun h=>
 Q1O (
  Q19 (Q2q N z) N 0
 ) fun _=>
 if (decide (h < 400))=true then (
  some (decide (z.length≤40))
 ) else (
  some false
 )
def Q43 (_:Nat)(s:Bool)(y:Nat)(h:UInt8):Option (Bool) :=
 if (!s)=true then (
  if (y==0)=true then (
   some true
  ) else (
   if (decide (48≤h.toNat))=true then (
    if (decide (h.toNat≤57))=true then (
     some false
    ) else (
     some (!(h.toNat==95))
    )
   ) else (
    some (!(h.toNat==95))
   )
  )
 ) else (
  some false
 )
def Q3a (N:Nat)(a0:ByteArray):Nat→Option (Nat⊕(Unit⊕Bool)):=fun h=>
 if (decide (h < a0.size))=true then (
  Qp (a0[h]?) fun y=>
  Qp (
   if (decide (97≤y.toNat))=true then (
    some (decide (y.toNat≤122))
   ) else (
    some false
   )
  ) fun z=>
  Qp (Q43 N z h y
  ) fun s=>
  if s=true then (
   some (.inr (.inr false))
  ) else (
   gd (h+1≤9223372036854775807) <|
   some (.inl (h+1))
  )
 ) else (
  some (.inr (.inl ()))
 )
def Q1Y (N:Nat)(h:ByteArray):Option (Bool) :=
 Q1O (
  Q19 (Q3a N h) N 0
 ) fun _=>
 if (decide (1≤h.size))=true then (
  some (decide (h.size≤24))
 ) else (
  some false
 )
def Q2i (_:Nat)(y:List Qg)(h:Int)(z:Int):Option (Bool) :=
 if (decide (h ≥ 0))=true then (
  if (decide (h < ((y.length:Nat):Int)))=true then (
   gd (0≤h) <|
   Qp (y[h.toNat]?) fun s=>
   some (s.fields==z)
  ) else (
   some false
  )
 ) else (
  some false
 )
def Q5B (_:Nat)(h:Int)(s:Int)(y:Int)(z:ByteArray)(a4:Int)(a5:Int)(l6:List Qe):Option (Bool) :=
 if (h==0)=true then (
  if (decide ((⟨s,y,z⟩ : V)=(⟨0,0,(⟨#[]⟩ : ByteArray)⟩ : V)))=true then (
   if (a4==0)=true then (
    if (a5==0)=true then (
     some (l6.length==0)
    ) else (
     some false
    )
   ) else (
    some false
   )
  ) else (
   some false
  )
 ) else (
  some false
 )
def Q3o (N:Nat)(s:Int)(y:Int)(z:Int)(a3:ByteArray)(a4:Int)(a5:Int)(l6:List Qe):Option (Bool) :=
 Qp (Q5B N s y z a3 a4 a5 l6
 ) fun h=>
 some h
def Q1r (N:Nat)(s:Int)(z:Int)(y:ByteArray):Option (Bool) :=
 if (s==1)=true then (
  some (y.toList==(⟨#[]⟩ : ByteArray).toList)
 ) else (
  if (s==2)=true then (
   if (z==0)=true then (
    Qp (Q1Y N y) fun h=>
    some h
   ) else (
    some false
   )
  ) else (
   some false
  )
 )
def Q4y (N:Nat)(y:Int)(s:Int)(z:Int)(a3:Int)(a4:ByteArray)(h:Int)(a6:Bool):Option (Int×Bool) :=
 if (y==1)=true then (
  if (s==0)=true then (
   some (h,(decide ((⟨z,a3,a4⟩ : V)=(⟨0,0,(⟨#[]⟩ : ByteArray)⟩ : V))))
  ) else (
   some (h,false)
  )
 ) else (
  if (y==2)=true then (
   gd (-9223372036854775808≤h+1∧h+1≤9223372036854775807) <|
   if a6=true then (
    if (s==h)=true then (
     some (h+1,(decide ((⟨z,a3,a4⟩ : V)=(⟨0,0,(⟨#[]⟩ : ByteArray)⟩ : V))))
    ) else (
     some (h+1,false)
    )
   ) else (
    some (h+1,false)
   )
  ) else (
   if (y==3)=true then (
    if (decide (s ≥ 0))=true then (
     if (decide (s < h))=true then (
      some (h,(decide ((⟨z,a3,a4⟩ : V)=(⟨0,0,(⟨#[]⟩ : ByteArray)⟩ : V))))
     ) else (
      some (h,false)
     )
    ) else (
     some (h,false)
    )
   ) else (
    if (y==4)=true then (
     if (s==0)=true then (
      Qp (Q1r N z a3 a4) fun a9=>
      some (h,a9)
     ) else (
      some (h,false)
     )
    ) else (
     some (h,false)
    )
   )
  )
 )
def Q2C (_:Nat)(l0:List Qe)(rc:Int→Int→Int→ByteArray→Int→Int→(List Qe)→Int→Option (Bool))(a1:Int):Nat→Option (Nat⊕(Unit⊕Bool)):=fun y=>
 if (decide (y < l0.length))=true then (
  Qp (l0[y]?) fun h=>
  Qp (rc h.kind h.value.k h.value.n h.value.s h.var h.op h.kids a1) fun z=>
  if (!z)=true then (
   some (.inr (.inr false))
  ) else (
   gd (y+1≤9223372036854775807) <|
   some (.inl (y+1))
  )
 ) else (
  some (.inr (.inl ()))
 )
def Q3c (N:Nat)(rc:Int→Int→Int→ByteArray→Int→Int→(List Qe)→Int→Option (Bool))(h:List Qe)(s:Int):Option (Bool) :=
 Q1O (
  Q19 (Q2C N h rc s) N 0
 ) fun _=>
 some true
def Q5y (N:Nat)(s:Int)(y:Int)(z:ByteArray)(a4:Int)(a5:Int)(l6:List Qe):Option (Bool) :=
 Qp (Q1r N s y z) fun h=>
 if h=true then (
  if (a4==0)=true then (
   if (a5==0)=true then (
    some (l6.length==0)
   ) else (
    some false
   )
  ) else (
   some false
  )
 ) else (
  some false
 )
def Q5z (_:Nat)(s:Int)(y:Int)(z:ByteArray)(h:Int)(a7:Int)(a5:Int)(l6:List Qe):Option (Bool) :=
 if (decide ((⟨s,y,z⟩ : V)=(⟨0,0,(⟨#[]⟩ : ByteArray)⟩ : V)))=true then (
  if (decide (h ≥ 0))=true then (
   if (decide (h < a7))=true then (
    if (a5==0)=true then (
     some (l6.length==0)
    ) else (
     some false
    )
   ) else (
    some false
   )
  ) else (
   some false
  )
 ) else (
  some false
 )
def Q4h (_:Nat)(s:Int):Option (Nat) :=
 Qp (
  if (s==4)=true then (
   some true
  ) else (
   some (s==11)
  )
 ) fun h=>
 if h=true then (
  some 1
 ) else (
  some 2
 )
def Q5A (N:Nat)(a1:Int)(a2:Int)(a3:ByteArray)(a4:Int)(y:Int)(z:List Qe)(h:Nat)(rc:Int→Int→Int→ByteArray→Int→Int→(List Qe)→Int→Option (Bool))(a7:Int):Option (Bool) :=
 if (decide ((⟨a1,a2,a3⟩ : V)=(⟨0,0,(⟨#[]⟩ : ByteArray)⟩ : V)))=true then (
  if (a4==0)=true then (
   if (decide (y ≥ 1))=true then (
    if (decide (y≤11))=true then (
     if (z.length==h)=true then (
      Qp (Q3c N rc z a7) fun s=>
      some s
     ) else (
      some false
     )
    ) else (
     some false
    )
   ) else (
    some false
   )
  ) else (
   some false
  )
 ) else (
  some false
 )
def Q3w (N:Nat)(rc:Int→Int→Int→ByteArray→Int→Int→(List Qe)→Int→Option (Bool))(a0:Int)(a1:Int)(a2:Int)(a3:ByteArray)(a4:Int)(a5:Int)(l6:List Qe)(a7:Int):Option (Bool) :=
 if (a0==1)=true then (
  Qp (Q5y N a1 a2 a3 a4 a5 l6
  ) fun h=>
  some h
 ) else (
  if (a0==2)=true then (
   Qp (Q5z N a1 a2 a3 a4 a7 a5 l6
   ) fun s=>
   some s
  ) else (
   if (a0==3)=true then (
    Qp (Q4h N a5
    ) fun y=>
    Qp (Q5A N a1 a2 a3 a4 a5 l6 y rc a7
    ) fun z=>
    some z
   ) else (
    some false
   )
  )
 )
def Q2c:Nat→Int→Int→Int→ByteArray→Int→Int→(List Qe)→Int→Option (Bool)
 | 0=>fun _=>fun _=>fun _=>fun _=>fun _=>fun _=>fun _=>fun _=>none
 | N+1=>Q3w N (Q2c N)
def Q3b (N:Nat)(l0:List Qe)(a1:Int):Nat→Option (Nat⊕(Unit⊕Bool)):=fun y=>
 if (decide (y < l0.length))=true then (
  Qp (l0[y]?) fun h=>
  Qp (Q2c N h.kind h.value.k h.value.n h.value.s h.var h.op h.kids a1) fun z=>
  if (!z)=true then (
   some (.inr (.inr false))
  ) else (
   gd (y+1≤9223372036854775807) <|
   some (.inl (y+1))
  )
 ) else (
  some (.inr (.inl ()))
 )
def Q35 (N:Nat)(h:List Qe)(s:Int):Option (Bool) :=
 Q1O (
  Q19 (Q3b N h s) N 0
 ) fun _=>
 some true
def Q4i (N:Nat)(y:ByteArray)(s:Int)(z:List QE)(l5:List Q20):Option (Bool) :=
 Qp (Q1Y N y) fun h=>
 if (!h)=true then (
  some true
 ) else (
  if (decide (s < -1000))=true then (
   some true
  ) else (
   if (decide (s > 1000))=true then (
    some true
   ) else (
    if (decide (8 < z.length))=true then (
     some true
    ) else (
     some (decide (8 < l5.length))
    )
   )
  )
 )
def Q24 (N:Nat)(a0:QE):(Nat×Int)→Option ((Nat×Int)⊕(Int⊕((Nat×Int)⊕((Nat×Nat×Int)⊕((Int×Nat)⊕Bool))))):=fun (h,z)=>
 if (decide (h < a0.args.length))=true then (
  Qp (a0.args[h]?) fun y=>
  Qp (Q4y N y.k y.var y.v.k y.v.n y.v.s z (a0.kind==1)) fun (a1,a2)=>
  if (!a2)=true then (
   some (.inr (.inr (.inr (.inr (.inr false)))))
  ) else (
   gd (h+1≤9223372036854775807) <|
   some (.inl (h+1,a1))
  )
 ) else (
  some (.inr (.inl z))
 )
def Q4k (N:Nat)(h:QE)(y:Int):Option (Bool) :=
 if (h.type !=0)=true then (
  some true
 ) else (
  if (h.args.length !=0)=true then (
   some true
  ) else (
   Qp (Q2c N h.test.kind h.test.value.k h.test.value.n h.test.value.s h.test.var h.test.op h.test.kids y) fun z=>
   some (!z)
  )
 )
def Q4j (N:Nat)(l4:List QE)(a4:Nat)(l0:List Qg)(z:Int)(y:Nat):Option ((Nat×Int)⊕((Nat×Nat×Int)⊕((Int×Nat)⊕Bool))) :=
 Qp (l4[a4]?) fun h=>
 Qp (
  if (h.kind==1)=true then (
   some (h.kind==1)
  ) else (
   some (h.kind==2)
  )
 ) fun a2=>
 if a2=true then (
  Qp (
   Qp (Q2i N l0 h.type ((h.args.length:Nat):Int)) fun a5=>
   if (!a5)=true then (
    some true
   ) else (
    Qp (Q3o N h.test.kind h.test.value.k h.test.value.n h.test.value.s h.test.var h.test.op h.test.kids) fun a6=>
    some (!a6)
   )
  ) fun a3=>
  if a3=true then (
   some (.inr (.inr (.inr false)))
  ) else (
   Q1O (
    Q19 (Q24 N h) N (0,z)
   ) fun a0=>
   if (h.kind==1)=true then (
    gd (y+1≤9223372036854775807) <|
    some (.inl (y+1,a0))
   ) else (
    some (.inl (y,a0))
   )
  )
 ) else (
  if (h.kind==3)=true then (
   Qp (Q4k N h z
   ) fun a1=>
   if a1=true then (
    some (.inr (.inr (.inr false)))
   ) else (
    some (.inl (y,z))
   )
  ) else (
   some (.inr (.inr (.inr false)))
  )
 )
def Q23 (N:Nat)(l4:List QE)(l0:List Qg):(Nat×Nat×Int)→Option ((Nat×Nat×Int)⊕((Int×Nat)⊕Bool)):=fun (h,s,y)=>
 if (decide (h < l4.length))=true then (
  Q1O (Q4j N l4 h l0 y s
  ) fun (z,a0)=>
  gd (h+1≤9223372036854775807) <|
  some (.inl (h+1,z,a0))
 ) else (
  some (.inr (.inl (y,s)))
 )
def Q4l (N:Nat)(h:Q20)(l0:List Qg)(s:Int)(y:Nat):Option (Bool) :=
 if (h.kind==1)=true then (
  if (h.which==0)=true then (
   Qp (Q2i N l0 h.type ((h.exprs.length:Nat):Int)) fun z=>
   if z=true then (
    Qp (Q35 N h.exprs s) fun a0=>
    some a0
   ) else (
    some false
   )
  ) else (
   some false
  )
 ) else (
  if (h.kind==2)=true then (
   if (h.type==0)=true then (
    if (h.exprs.length==0)=true then (
     if (decide (h.which ≥ 0))=true then (
      some (decide (h.which < ((y:Nat):Int)))
     ) else (
      some false
     )
    ) else (
     some false
    )
   ) else (
    some false
   )
  ) else (
   if (h.kind==3)=true then (
    if (h.type==0)=true then (
     if (h.which==0)=true then (
      if (decide (0 < h.exprs.length))=true then (
       Qp (Q35 N h.exprs s) fun a1=>
       some a1
      ) else (
       some false
      )
     ) else (
      some false
     )
    ) else (
     some false
    )
   ) else (
    if (h.kind==4)=true then (
     if (h.type==0)=true then (
      if (h.which==0)=true then (
       some (h.exprs.length==0)
      ) else (
       some false
      )
     ) else (
      some false
     )
    ) else (
     some false
    )
   )
  )
 )
def Q3n (N:Nat)(l5:List Q20)(l0:List Qg)(y:Int)(z:Nat):Nat→Option (Nat⊕(Unit⊕Bool)):=fun h=>
 if (decide (h < l5.length))=true then (
  Qp (l5[h]?) fun a0=>
  Qp (Q4l N a0 l0 y z
  ) fun s=>
  if (!s)=true then (
   some (.inr (.inr false))
  ) else (
   gd (h+1≤9223372036854775807) <|
   some (.inl (h+1))
  )
 ) else (
  some (.inr (.inl ()))
 )
def Q4a (N:Nat)(z:List Qg)(a1:ByteArray)(a2:Int)(a3:Int)(l4:List QE)(l5:List Q20):Option (Bool) :=
 Qp (Q4i N a1 a2 l4 l5
 ) fun s=>
 if s=true then (
  some false
 ) else (
  Q1O (
   Q19 (Q23 N l4 z) N (0,0,0)
  ) fun (h,y)=>
  Q1O (
   Q19 (Q3n N l5 z h y) N 0
  ) fun _=>
  if (a3==h)=true then (
   some (decide (h≤16))
  ) else (
   some false
  )
 )
def Q44 (N:Nat)(h:Qg):Option (Bool) :=
 Qp (Q1Y N h.name) fun s=>
 if (!s)=true then (
  some true
 ) else (
  if (decide (h.fields < 0))=true then (
   some true
  ) else (
   some (decide (h.fields > 6))
  )
 )
def Q2s (_:Nat)(s:Nat)(l0:List Qg)(y:Qg):Nat→Option (Nat⊕(Unit⊕(Nat⊕(Unit⊕Bool)))):=fun h=>
 if (decide (h < s))=true then (
  Qp (l0[h]?) fun z=>
  if (z.name.toList==y.name.toList)=true then (
   some (.inr (.inr (.inr (.inr false))))
  ) else (
   gd (h+1≤9223372036854775807) <|
   some (.inl (h+1))
  )
 ) else (
  some (.inr (.inl ()))
 )
def Q5m (N:Nat)(z:List Qg)(s:Nat):Option (Unit⊕(Nat⊕(Unit⊕Bool))) :=
 Qp (z[s]?) fun y=>
 Qp (Q44 N y
 ) fun h=>
 if h=true then (
  some (.inr (.inr (.inr false)))
 ) else (
  Q19 (Q2s N s z y) N 0
 )
def Q1S (N:Nat)(s:List Qg):Nat→Option (Nat⊕(Unit⊕Bool)):=fun h=>
 if (decide (h < s.length))=true then (
  Q1O (Q5m N s h
  ) fun _=>
  gd (h+1≤9223372036854775807) <|
  some (.inl (h+1))
 ) else (
  some (.inr (.inl ()))
 )
def Q2t (_:Nat)(s:Nat)(l1:List Qj):Nat→Option (Nat⊕(Unit⊕(Nat⊕(Unit⊕Bool)))):=fun h=>
 if (decide (h < s))=true then (
  Qp (l1[h]?) fun y=>
  Qp (l1[s]?) fun z=>
  if (y.name.toList==z.name.toList)=true then (
   some (.inr (.inr (.inr (.inr false))))
  ) else (
   gd (h+1≤9223372036854775807) <|
   some (.inl (h+1))
  )
 ) else (
  some (.inr (.inl ()))
 )
def Q1T (N:Nat)(y:List Qj)(l0:List Qg):Nat→Option (Nat⊕(Unit⊕Bool)):=fun h=>
 if (decide (h < y.length))=true then (
  Q1O (
   Q19 (Q2t N h y) N 0
  ) fun _=>
  Qp (y[h]?) fun s=>
  Qp (Q4a N l0 s.name s.salience s.vars s.conds s.acts) fun z=>
  if (!z)=true then (
   some (.inr (.inr false))
  ) else (
   gd (h+1≤9223372036854775807) <|
   some (.inl (h+1))
  )
 ) else (
  some (.inr (.inl ()))
 )
def Q34 (N:Nat)(s:List Qg)(y:List Qj):Option (Bool) :=
 Qp (
  if (decide (32 < s.length))=true then (
   some true
  ) else (
   some (decide (64 < y.length))
  )
 ) fun h=>
 if h=true then (
  some false
 ) else (
  Q1O (
   Q19 (Q1S N s) N 0
  ) fun _=>
  Q1O (
   Q19 (Q1T N y s) N 0
  ) fun _=>
  some true
 )
def Q45 (_:Nat)(h:QP)(s:Int)(z:List Qg):Option (Bool) :=
 if (decide (h.id≤s))=true then (
  some true
 ) else (
  if (decide (h.id > 1099511627776))=true then (
   some true
  ) else (
   if (decide (h.ty < 0))=true then (
    some true
   ) else (
    if (decide (h.ty ≥ ((z.length:Nat):Int)))=true then (
     some true
    ) else (
     gd (0≤h.ty) <|
     Qp (z[h.ty.toNat]?) fun y=>
     some (((h.args.length:Nat):Int) !=y.fields)
    )
   )
  )
 )
def Q2u (N:Nat)(y:QP):Nat→Option (Nat⊕(Int⊕((Nat×Int)⊕(Unit⊕Bool)))):=fun h=>
 if (decide (h < y.args.length))=true then (
  Qp (y.args[h]?) fun z=>
  Qp (Q1r N z.k z.n z.s) fun a0=>
  if (!a0)=true then (
   some (.inr (.inr (.inr (.inr false))))
  ) else (
   gd (h+1≤9223372036854775807) <|
   some (.inl (h+1))
  )
 ) else (
  some (.inr (.inl y.id))
 )
def Q5n (N:Nat)(l2:List QP)(s:Nat)(y:Int)(l0:List Qg):Option (Int⊕((Nat×Int)⊕(Unit⊕Bool))) :=
 Qp (l2[s]?) fun z=>
 Qp (Q45 N z y l0
 ) fun h=>
 if h=true then (
  some (.inr (.inr (.inr false)))
 ) else (
  Q19 (Q2u N z) N 0
 )
def Q1U (N:Nat)(z:List QP)(l0:List Qg):(Nat×Int)→Option ((Nat×Int)⊕(Unit⊕Bool)):=fun (h,y)=>
 if (decide (h < z.length))=true then (
  Q1O (Q5n N z h y l0
  ) fun s=>
  gd (h+1≤9223372036854775807) <|
  some (.inl (h+1,s))
 ) else (
  some (.inr (.inl ()))
 )
def Q36 (N:Nat)(h:List Qg)(_:List Qj)(s:List QP):Option (Bool) :=
 Q1O (
  Q19 (Q1U N s h) N (0,0)
 ) fun _=>
 some true
def Q2R (_:Nat)(_:Int):Option (Unit) :=
 some ()
def Q1s (N:Nat)(h:Bool):Option (Int) :=
 if h=true then (
  Qp (Q2R N 1) fun _=>
  some 1
 ) else (
  Qp (Q2R N 0) fun _=>
  some 0
 )
def Q4B (_:Nat)(h:Int)(s:Int):Option (Bool) :=
 if (decide (h > 0))=true then (
  gd (-9223372036854775808≤9223372036854775807 - h∧9223372036854775807 - h≤9223372036854775807) <|
  if (decide (s > (9223372036854775807 - h)))=true then (
   some true
  ) else (
   if (decide (h < 0))=true then (
    gd (-9223372036854775808≤-9223372036854775808 - h∧-9223372036854775808 - h≤9223372036854775807) <|
    some (decide (s < (-9223372036854775808 - h)))
   ) else (
    some false
   )
  )
 ) else (
  if (decide (h < 0))=true then (
   gd (-9223372036854775808≤-9223372036854775808 - h∧-9223372036854775808 - h≤9223372036854775807) <|
   some (decide (s < (-9223372036854775808 - h)))
  ) else (
   some false
  )
 )
def Q3F (N:Nat)(s:Int)(y:Int):Option (Int×Bool) :=
 Qp (Q4B N y s
 ) fun h=>
 if h=true then (
  some (0,false)
 ) else (
  gd (-9223372036854775808≤s+y∧s+y≤9223372036854775807) <|
  some (s+y,true)
 )
def Q3m (_:Nat)(y:Int)(s:Int):Option (Int×Bool) :=
 Qp (
  if (y==0)=true then (
   some true
  ) else (
   some (s==0)
  )
 ) fun h=>
 if h=true then (
  some (0,true)
 ) else (
  if (y==-1)=true then (
   some (IntKind.wrap .i64 (0 - s),s !=-9223372036854775808)
  ) else (
   if (s==-1)=true then (
    some (IntKind.wrap .i64 (0 - y),y !=-9223372036854775808)
   ) else (
    gd (s≠0) <|
    some (IntKind.wrap .i64 (y * s),(IntKind.wrap .i64 (Int.tdiv (IntKind.wrap .i64 (y * s)) s))==y)
   )
  )
 )
def Q1i (N:Nat)(a0:Int)(h:Int)(a2:Int):Option (Int×Bool) :=
 if (a0==1)=true then (
  Qp (Q3F N h a2) fun (s,y)=>
  some (s,y)
 ) else (
  if (a0==2)=true then (
   if (a2==-9223372036854775808)=true then (
    some (IntKind.wrap .i64 (h - a2),decide (h < 0))
   ) else (
    Qp (Q3F N h (IntKind.wrap .i64 (0 - a2))) fun (z,a3)=>
    some (z,a3)
   )
  ) else (
   if (a0==3)=true then (
    Qp (Q3m N h a2) fun (a4,a5)=>
    some (a4,a5)
   ) else (
    some (IntKind.wrap .i64 (0 - h),h !=-9223372036854775808)
   )
  )
 )
def Q4X (_:Nat)(s:Int):Option (Nat) :=
 Qp (
  if (s==4)=true then (
   some true
  ) else (
   some (s==11)
  )
 ) fun h=>
 if h=true then (
  some 1
 ) else (
  some 2
 )
def Q4Y (N:Nat)(l1:List V)(h:Nat)(z:Bool):Option (Bool⊕((Nat×Bool)⊕(Bool⊕(Nat×Int×Nat)))) :=
 Qp (l1[h]?) fun y=>
 Qp (Q1r N y.k y.n y.s) fun a0=>
 if (!a0)=true then (
  some (.inr (.inr (.inr (0,0,2))))
 ) else (
  if z=true then (
   some (.inl true)
  ) else (
   Qp (l1[h]?) fun a1=>
   some (.inl (a1.k==2))
  )
 )
def Q3P (N:Nat)(z:List V):(Nat×Bool)→Option ((Nat×Bool)⊕(Bool⊕(Nat×Int×Nat))):=fun (h,s)=>
 if (decide (h < z.length))=true then (
  Q1O (Q4Y N z h s
  ) fun y=>
  gd (h+1≤9223372036854775807) <|
  some (.inl (h+1,y))
 ) else (
  some (.inr (.inl s))
 )
def Q4S (N:Nat)(z:Int)(l1:List V):Option (Nat×Int×Nat) :=
 Qp (Q4X N z
 ) fun a7=>
 Qp (
  if (decide (z < 1))=true then (
   some true
  ) else (
   if (decide (z > 11))=true then (
    some true
   ) else (
    some (l1.length !=a7)
   )
  )
 ) fun a3=>
 if a3=true then (
  some (0,0,2)
 ) else (
  Q1O (
   Q19 (Q3P N l1) N (0,false)
  ) fun a8=>
  Qp (l1[0]?) fun h=>
  gd (-9223372036854775808≤((l1.length:Nat):Int) - 1∧((l1.length:Nat):Int) - 1≤9223372036854775807) <|
  gd (0≤((l1.length:Nat):Int) - 1) <|
  Qp (l1[(((l1.length:Nat):Int) - 1).toNat]?) fun y=>
  Qp (
   if (z==5)=true then (
    some true
   ) else (
    some (z==6)
   )
  ) fun a4=>
  if a4=true then (
   Qp (Q1s N ((decide (h=y))==(z==5))) fun aA=>
   some (1,aA,0)
  ) else (
   if a8=true then (
    some (0,0,301)
   ) else (
    if (z==7)=true then (
     Qp (Q1s N (decide (h.n < y.n))) fun aB=>
     some (1,aB,0)
    ) else (
     if (z==8)=true then (
      Qp (Q1s N (decide (h.n≤y.n))) fun aC=>
      some (1,aC,0)
     ) else (
      if (z==9)=true then (
       if (h.n !=0)=true then (
        Qp (Q1s N (y.n !=0)) fun a1=>
        some (1,a1,0)
       ) else (
        Qp (Q1s N false) fun a1=>
        some (1,a1,0)
       )
      ) else (
       if (z==10)=true then (
        if (h.n !=0)=true then (
         Qp (Q1s N true) fun a2=>
         some (1,a2,0)
        ) else (
         Qp (Q1s N (y.n !=0)) fun a2=>
         some (1,a2,0)
        )
       ) else (
        if (z==11)=true then (
         Qp (Q1s N (h.n==0)) fun a9=>
         some (1,a9,0)
        ) else (
         Qp (Q1i N z h.n y.n) fun (s,a5)=>
         if (!a5)=true then (
          some (0,0,300)
         ) else (
          Qp (Q2R N s) fun _=>
          some (1,s,0)
         )
        )
       )
      )
     )
    )
   )
  )
 )
def Q2H (_:Nat)(l6:List Qe)(rc:Int→Int→Int→ByteArray→Int→Int→(List Qe)→(List V)→Option (Int×Int×ByteArray×Nat))(l7:List V):(Nat×(List V))→Option ((Nat×(List V))⊕((List V)⊕((Int×Int×ByteArray)⊕(Int×Int×ByteArray×Nat)))):=fun (z,h)=>
 if (decide (z < l6.length))=true then (
  Qp (l6[z]?) fun y=>
  Qp (rc y.kind y.value.k y.value.n y.value.s y.var y.op y.kids l7) fun (a0,a1,a2,a3)=>
  if (a3 !=0)=true then (
   some (.inr (.inr (.inr (0,0,(⟨#[]⟩ : ByteArray),a3))))
  ) else (
   gd (h.length+([(⟨a0,a1,a2⟩ : V)]).length≤4398046511104) <|
   gd (z+1≤9223372036854775807) <|
   some (.inl (z+1,(h++([(⟨a0,a1,a2⟩ : V)]))))
  )
 ) else (
  some (.inr (.inl h))
 )
def Q5C (N:Nat)(a0:Int)(a1:Int)(a2:Int)(a3:ByteArray)(a4:Int)(l7:List V)(l6:List Qe)(rc:Int→Int→Int→ByteArray→Int→Int→(List Qe)→(List V)→Option (Int×Int×ByteArray×Nat))(a5:Int):Option ((Int×Int×ByteArray)⊕(Int×Int×ByteArray×Nat)) :=
 if (a0==1)=true then (
  some (.inl (a1,a2,a3))
 ) else (
  if (a0==2)=true then (
   Qp (
    if (decide (a4 ≥ 0))=true then (
     some (decide (a4 < ((l7.length:Nat):Int)))
    ) else (
     some false
    )
   ) fun y=>
   if y=true then (
    gd (0≤a4) <|
    Qp (l7[a4.toNat]?) fun z=>
    some (.inl (z.k,z.n,z.s))
   ) else (
    some (.inl (0,0,(⟨#[]⟩ : ByteArray)))
   )
  ) else (
   if (a0==3)=true then (
    Q1O (
     Q19 (Q2H N l6 rc l7) N (0,[])
    ) fun h=>
    Qp (Q4S N a5 h) fun (a6,a7,a8)=>
    some (.inr (((a6:Nat):Int),a7,(⟨#[]⟩ : ByteArray),a8))
   ) else (
    some (.inl (0,0,(⟨#[]⟩ : ByteArray)))
   )
  )
 )
def Q3x (N:Nat)(rc:Int→Int→Int→ByteArray→Int→Int→(List Qe)→(List V)→Option (Int×Int×ByteArray×Nat))(a0:Int)(a1:Int)(a2:Int)(a3:ByteArray)(a4:Int)(a5:Int)(l6:List Qe)(l7:List V):Option (Int×Int×ByteArray×Nat) :=
 Q1O (Q5C N a0 a1 a2 a3 a4 l7 l6 rc a5
 ) fun (h,s,y)=>
 Qp (Q1r N h s y) fun z=>
 if (!z)=true then (
  some (0,0,(⟨#[]⟩ : ByteArray),2)
 ) else (
  some (h,s,y,0)
 )
def Q2d:Nat→Int→Int→Int→ByteArray→Int→Int→(List Qe)→(List V)→Option (Int×Int×ByteArray×Nat)
 | 0=>fun _=>fun _=>fun _=>fun _=>fun _=>fun _=>fun _=>fun _=>none
 | N+1=>Q3x N (Q2d N)
def Q46 (_:Nat)(l2:List Q3S)(s:Nat)(z:List V)(h:List V):Option ((List V)⊕((Nat×(List V))⊕((List V)⊕((List V)×Bool)))) :=
 Qp (l2[s]?) fun y=>
 if (y.k==2)=true then (
  Qp (z[s]?) fun a0=>
  gd (h.length+[a0].length≤4398046511104) <|
  some (.inl (h++[a0]))
 ) else (
  if (y.k==3)=true then (
   gd (0≤y.var) <|
   Qp (h[y.var.toNat]?) fun a1=>
   Qp (z[s]?) fun a2=>
   if (!decide (a1=a2))=true then (
    some (.inr (.inr (.inr ([],false))))
   ) else (
    some (.inl h)
   )
  ) else (
   if (y.k==4)=true then (
    Qp (z[s]?) fun a3=>
    if (!decide (y.v=a3))=true then (
     some (.inr (.inr (.inr ([],false))))
    ) else (
     some (.inl h)
    )
   ) else (
    some (.inl h)
   )
  )
 )
def Q1V (N:Nat)(l2:List Q3S)(z:List V):(Nat×(List V))→Option ((Nat×(List V))⊕((List V)⊕((List V)×Bool))):=fun (h,s)=>
 if (decide (h < l2.length))=true then (
  Q1O (Q46 N l2 h z s
  ) fun y=>
  gd (h+1≤9223372036854775807) <|
  some (.inl (h+1,y))
 ) else (
  some (.inr (.inl s))
 )
def Q3Q (N:Nat)(_:Int)(a1:Int)(l2:List Q3S)(_:Int)(_:Int)(_:Int)(_:ByteArray)(_:Int)(_:Int)(_:List Qe)(_:Int)(y:Int)(z:List V)(s:List V):Option ((List V)×Bool) :=
 if (y !=a1)=true then (
  some ([],false)
 ) else (
  gd (([] : List V).length+s.length≤4398046511104) <|
  Q1O (
   Q19 (Q1V N l2 z) N (0,s)
  ) fun h=>
  some (h,true)
 )
def Q64 (N:Nat)(aB:List QP)(s:Nat)(a0:Int)(a1:Int)(l2:List Q3S)(a3:Int)(a4:Int)(a5:Int)(a6:ByteArray)(a7:Int)(a8:Int)(l9:List Qe)(aC:List V)(h:List Qc)(z:List Int):Option ((List Qc)⊕((Nat×(List Qc))⊕((List Qc)⊕(List Qc)))) :=
 Qp (aB[s]?) fun a2=>
 Qp (Q3Q N a0 a1 l2 a3 a4 a5 a6 a7 a8 l9 a2.id a2.ty a2.args aC) fun (y,a9)=>
 if (!a9)=true then (
  some (.inl h)
 ) else (
  if (a0==2)=true then (
   some (.inr (.inr (.inr [])))
  ) else (
   gd (([] : List Int).length+z.length≤17592186044416) <|
   Qp (aB[s]?) fun aA=>
   gd (z.length+[aA.id].length≤17592186044416) <|
   gd (h.length+([(⟨z++[aA.id],y⟩ : Qc)]).length≤2932031007402) <|
   some (.inl (h++[(⟨z++[aA.id],y⟩ : Qc)]))
  )
 )
def Q2z (N:Nat)(z:List QP)(a0:Int)(a1:Int)(l2:List Q3S)(a3:Int)(a4:Int)(a5:Int)(a6:ByteArray)(a7:Int)(a8:Int)(l9:List Qe)(a2:List V)(a9:List Int):(Nat×(List Qc))→Option ((Nat×(List Qc))⊕((List Qc)⊕(List Qc))):=fun (h,s)=>
 if (decide (h < z.length))=true then (
  Q1O (Q64 N z h a0 a1 l2 a3 a4 a5 a6 a7 a8 l9 a2 s a9
  ) fun y=>
  gd (h+1≤9223372036854775807) <|
  some (.inl (h+1,y))
 ) else (
  some (.inr (.inl s))
 )
def Q3X (N:Nat)(a0:Int)(a1:Int)(l2:List Q3S)(a3:Int)(a4:Int)(a5:Int)(a6:ByteArray)(a7:Int)(a8:Int)(l9:List Qe)(z:List Int)(s:List V)(aC:List QP):Option (List Qc) :=
 if (a0==3)=true then (
  Qp (Q2d N a3 a4 a5 a6 a7 a8 l9 s) fun (a2,a9,_,aA)=>
  Qp (
   if (aA==0)=true then (
    if (a2==1)=true then (
     some (a9 !=0)
    ) else (
     some false
    )
   ) else (
    some false
   )
  ) fun y=>
  if y=true then (
   some [(⟨z,s⟩ : Qc)]
  ) else (
   some []
  )
 ) else (
  Q1O (
   Q19 (Q2z N aC a0 a1 l2 a3 a4 a5 a6 a7 a8 l9 s z) N (0,[])
  ) fun h=>
  if (a0==2)=true then (
   some [(⟨z,s⟩ : Qc)]
  ) else (
   some h
  )
 )
def Q27 (N:Nat)(a0:List Qc)(a2:Nat)(l3:List QE)(a3:Nat)(l5:List QP):(Nat×(List Qc))→Option ((Nat×(List Qc))⊕(List Qc)):=fun (z,h)=>
 Qp (
  if (decide (z < a0.length))=true then (
   gd (a2+h.length≤9223372036854775807) <|
   some (decide ((a2+h.length)≤4096))
  ) else (
   some false
  )
 ) fun a1=>
 if a1=true then (
  Qp (l3[a3]?) fun y=>
  Qp (a0[z]?) fun a4=>
  Qp (Q3X N y.kind y.type y.args y.test.kind y.test.value.k y.test.value.n y.test.value.s y.test.var y.test.op y.test.kids a4.ids a4.vars l5) fun a5=>
  gd (h.length+a5.length≤2932031007402) <|
  gd (z+1≤9223372036854775807) <|
  some (.inl (z+1,h++a5))
 ) else (
  some (.inr h)
 )
def Q1x (N:Nat)(l3:List QE)(l5:List QP):(Nat×Nat×(List Qc))→Option ((Nat×Nat×(List Qc))⊕((List Qc)×Nat)):=fun (y,s,z)=>
 Qp (
  if (decide (y < l3.length))=true then (
   some (decide (s≤4096))
  ) else (
   some false
  )
 ) fun a0=>
 if a0=true then (
  Qp (
   Q19 (Q27 N z s l3 y l5) N (0,[])
  ) fun h=>
  gd (s+h.length≤9223372036854775807) <|
  gd (y+1≤9223372036854775807) <|
  some (.inl (y+1,s+h.length,h))
 ) else (
  some (.inr (z,s))
 )
def Q4c (N:Nat)(_:ByteArray)(_:Int)(_:Int)(y:List QE)(_:List Q20)(z:List QP):Option ((List Qc)×Nat) :=
 Qp (
  Q19 (Q1x N y z) N (0,0,[(⟨[],[]⟩ : Qc)])
 ) fun (h,s)=>
 some (h,s)
def Q2g (_:Nat)(y:List Qc)(z:Nat)(a1:Nat)(a0:Nat):(Nat×(List QU))→Option ((Nat×(List QU))⊕((Nat×(List QU))⊕((Nat×Nat×(List QU))⊕((List QU)⊕((List QU)×Nat))))):=fun (h,s)=>
 if (decide (h < y.length))=true then (
  Qp (y[h]?) fun a2=>
  gd (s.length+([(⟨(((z:Nat):Int)),a2.ids⟩ : QU)]).length≤4398046511104) <|
  gd (h+1≤9223372036854775807) <|
  some (.inl (h+1,(s++([(⟨(((z:Nat):Int)),a2.ids⟩ : QU)]))))
 ) else (
  some (.inr (.inl (a1+a0,s)))
 )
def Q3K (N:Nat)(l1:List Qj)(a0:Nat)(l2:List QP)(s:Nat)(z:List QU):Option ((Nat×(List QU))⊕((Nat×Nat×(List QU))⊕((List QU)⊕((List QU)×Nat)))) :=
 Qp (l1[a0]?) fun y=>
 Qp (Q4c N y.name y.salience y.vars y.conds y.acts l2) fun (a1,h)=>
 gd (s+h≤9223372036854775807) <|
 if (decide (4096 < (s+h)))=true then (
  some (.inr (.inr (.inr ([],204))))
 ) else (
  Q19 (Q2g N a1 a0 s h) N (0,z)
 )
def Q1z (N:Nat)(l1:List Qj)(l2:List QP):(Nat×Nat×(List QU))→Option ((Nat×Nat×(List QU))⊕((List QU)⊕((List QU)×Nat))):=fun (h,a0,s)=>
 if (decide (h < l1.length))=true then (
  Q1O (Q3K N l1 h l2 a0 s
  ) fun (z,y)=>
  gd (h+1≤9223372036854775807) <|
  some (.inl (h+1,z,y))
 ) else (
  some (.inr (.inl s))
 )
def Q3y (N:Nat)(l0:List Qg)(y:List Qj)(l2:List QP):Option ((List QU)×Nat) :=
 Qp (
  Qp (Q34 N l0 y) fun z=>
  if (!z)=true then (
   some true
  ) else (
   Qp (Q36 N l0 y l2) fun a0=>
   some (!a0)
  )
 ) fun s=>
 if s=true then (
  some ([],2)
 ) else (
  Q1O (
   Q19 (Q1z N y l2) N (0,0,[])
  ) fun h=>
  some (h,0)
 )
def Q4R (_:Nat)(y:Int)(h:Int):Option (Int) :=
 if (decide (h < 1))=true then (
  some 0
 ) else (
  gd (h≠0) <|
  Qp (
   if (decide ((Int.tmod y h) < 0))=true then (
    gd (-9223372036854775808≤(Int.tmod y h)+h∧(Int.tmod y h)+h≤9223372036854775807) <|
    some ((Int.tmod y h)+h)
   ) else (
    some (Int.tmod y h)
   )
  ) fun s=>
  some s
 )
def Q7y (_:Nat)(h:ByteArray):Option (Bool) :=
 if (!(h.toList==(⟨#[]⟩ : ByteArray).toList))=true then (
  if (decide (h.size≤24))=true then (
   Qp (h[0]?) fun s=>
   if (decide ((Lib.indexByte (⟨#[97,98,99,100,101,102,103,104,105,106,107,108,109,110,111,112,113,114,115,116,117,118,119,120,121,122]⟩ : ByteArray).data.toList (((s.toNat:Nat):Int)).toNat.toUInt8) ≥ 0))=true then (
    gd (h.size≤9223372036854775807) <|
    some ((⟨(Lib.trimS h.data.toList (⟨#[97,98,99,100,101,102,103,104,105,106,107,108,109,110,111,112,113,114,115,116,117,118,119,120,121,122,48,49,50,51,52,53,54,55,56,57,95]⟩ : ByteArray).data.toList).toArray⟩ : ByteArray).toList==(⟨#[]⟩ : ByteArray).toList)
   ) else (
    some false
   )
  ) else (
   some false
  )
 ) else (
  some false
 )
def Q6D (N:Nat)(s:ByteArray):Option (Bool) :=
 Qp (Q7y N s
 ) fun h=>
 some h
def Q1E (N:Nat)(s:Int)(z:Int)(y:ByteArray):Option (Bool) :=
 if (s==1)=true then (
  some (y.toList==(⟨#[]⟩ : ByteArray).toList)
 ) else (
  if (s==2)=true then (
   if (z==0)=true then (
    Qp (Q6D N y) fun h=>
    some h
   ) else (
    some false
   )
  ) else (
   some false
  )
 )
def Q61 (N:Nat)(h:ByteArray):Option (Bool) :=
 Qp (Q1E N 2 0 h) fun s=>
 some s
def Q58 (_:Nat)(_:ByteArray)(_:Int)(_:ByteArray):Option (Unit) :=
 some ()
def Q2O (N:Nat)(y:List Qg)(z:ByteArray):Nat→Option (Nat⊕(Unit⊕Int)):=fun h=>
 if (decide (h < y.length))=true then (
  Qp (y[h]?) fun s=>
  Qp (Q58 N s.name s.fields z) fun _=>
  if (s.name.toList==z.toList)=true then (
   some (.inr (.inr ((h:Nat):Int)))
  ) else (
   gd (h+1≤9223372036854775807) <|
   some (.inl (h+1))
  )
 ) else (
  some (.inr (.inl ()))
 )
def Q4q (N:Nat)(h:List Qg)(s:ByteArray):Option (Int) :=
 Q1O (
  Q19 (Q2O N h s) N 0
 ) fun _=>
 some (-1)
def Q4N (N:Nat)(s:List Qg)(_:List Qj)(_:Int)(_:Int)(y:ByteArray):Option (Int) :=
 Qp (Q4q N s y) fun h=>
 some h
def Q59 (_:Nat)(_:ByteArray)(_:Int)(_:Int)(_:List QE)(_:List Q20)(_:ByteArray):Option (Unit) :=
 some ()
def Q2N (N:Nat)(y:List Qj)(z:ByteArray):Nat→Option (Nat⊕(Unit⊕Int)):=fun h=>
 if (decide (h < y.length))=true then (
  Qp (y[h]?) fun s=>
  Qp (Q59 N s.name s.salience s.vars s.conds s.acts z) fun _=>
  if (s.name.toList==z.toList)=true then (
   some (.inr (.inr ((h:Nat):Int)))
  ) else (
   gd (h+1≤9223372036854775807) <|
   some (.inl (h+1))
  )
 ) else (
  some (.inr (.inl ()))
 )
def Q4p (N:Nat)(h:List Qj)(s:ByteArray):Option (Int) :=
 Q1O (
  Q19 (Q2N N h s) N 0
 ) fun _=>
 some (-1)
def Q4O (N:Nat)(_:List Qg)(s:List Qj)(_:Int)(_:Int)(y:ByteArray):Option (Int) :=
 Qp (Q4p N s y) fun h=>
 some h
def Q3V (_:Nat)(y:List Qg)(_:List Qj)(_:Int)(_:Int)(h:Int)(z:Int):Option (Bool) :=
 if (decide (h ≥ 0))=true then (
  if (decide (h < ((y.length:Nat):Int)))=true then (
   gd (0≤h) <|
   Qp (y[h.toNat]?) fun s=>
   some (s.fields==z)
  ) else (
   some false
  )
 ) else (
  some false
 )
def Q7x (_:Nat)(a7:Bool)(z:Bool)(h:Bool)(s:Int)(y:List Qe)(a4:Int)(a1:Int)(a2:Int)(a3:ByteArray):Option (Bool) :=
 if a7=true then (
  if z=true then (
   if h=true then (
    some true
   ) else (
    if (s==0)=true then (
     some (y.length==0)
    ) else (
     some false
    )
   )
  ) else (
   if (a4==0)=true then (
    if h=true then (
     some true
    ) else (
     if (s==0)=true then (
      some (y.length==0)
     ) else (
      some false
     )
    )
   ) else (
    some false
   )
  )
 ) else (
  if (decide ((⟨a1,a2,a3⟩ : V)=(⟨0,0,(⟨#[]⟩ : ByteArray)⟩ : V)))=true then (
   if z=true then (
    if h=true then (
     some true
    ) else (
     if (s==0)=true then (
      some (y.length==0)
     ) else (
      some false
     )
    )
   ) else (
    if (a4==0)=true then (
     if h=true then (
      some true
     ) else (
      if (s==0)=true then (
       some (y.length==0)
      ) else (
       some false
      )
     )
    ) else (
     some false
    )
   )
  ) else (
   some false
  )
 )
def Q4F (N:Nat)(_:Int)(s:Int)(y:Int)(z:ByteArray)(a4:Int)(a5:Int)(l6:List Qe)(a7:Bool)(a8:Bool)(a9:Bool):Option (Bool) :=
 Qp (Q7x N a7 a8 a9 a5 l6 a4 s y z
 ) fun h=>
 some h
def Q5w (N:Nat)(_:List Qg)(_:List Qj)(h:Int)(_:Int)(y:Int)(s:Int)(z:Int)(a7:Int)(a8:ByteArray)(a9:Bool):Option (Bool×Int) :=
 if (y==1)=true then (
  if (s==0)=true then (
   some ((decide ((⟨z,a7,a8⟩ : V)=(⟨0,0,(⟨#[]⟩ : ByteArray)⟩ : V))),h)
  ) else (
   some (false,h)
  )
 ) else (
  if (y==2)=true then (
   gd (-9223372036854775808≤h+1∧h+1≤9223372036854775807) <|
   if a9=true then (
    gd (-9223372036854775808≤(h+1) - 1∧(h+1) - 1≤9223372036854775807) <|
    if (s==((h+1) - 1))=true then (
     some ((decide ((⟨z,a7,a8⟩ : V)=(⟨0,0,(⟨#[]⟩ : ByteArray)⟩ : V))),h+1)
    ) else (
     some (false,h+1)
    )
   ) else (
    some (false,h+1)
   )
  ) else (
   if (y==3)=true then (
    if (decide (s ≥ 0))=true then (
     if (decide (s < h))=true then (
      some ((decide ((⟨z,a7,a8⟩ : V)=(⟨0,0,(⟨#[]⟩ : ByteArray)⟩ : V))),h)
     ) else (
      some (false,h)
     )
    ) else (
     some (false,h)
    )
   ) else (
    if (y==4)=true then (
     if (s==0)=true then (
      Qp (Q1E N z a7 a8) fun aA=>
      some (aA,h)
     ) else (
      some (false,h)
     )
    ) else (
     some (false,h)
    )
   )
  )
 )
def Q4g (_:Nat)(rc:(List Qg)→(List Qj)→Int→Int→Int→Int→Int→ByteArray→Int→Int→(List Qe)→Option (Bool))(s:Int)(y:Int)(z:Int)(a3:ByteArray)(a4:Int)(a5:Int)(l6:List Qe)(l7:List Qg)(l8:List Qj)(a9:Int)(h:Int):Option (Bool) :=
 Qp (rc l7 l8 a9 h s y z a3 a4 a5 l6) fun v6=>
 some (!v6)
def Q2e (N:Nat)(l0:List Qe)(rc:(List Qg)→(List Qj)→Int→Int→Int→Int→Int→ByteArray→Int→Int→(List Qe)→Option (Bool))(l1:List Qg)(l2:List Qj)(a3:Int)(a4:Int):Nat→Option (Nat⊕(Unit⊕Int)):=fun h=>
 if (decide (h < l0.length))=true then (
  Qp (l0[h]?) fun y=>
  Qp (Q4g N rc y.kind y.value.k y.value.n y.value.s y.var y.op y.kids l1 l2 a3 a4) fun z=>
  if z=true then (
   some (.inr (.inr ((h:Nat):Int)))
  ) else (
   gd (h+1≤9223372036854775807) <|
   some (.inl (h+1))
  )
 ) else (
  some (.inr (.inl ()))
 )
def Q3B (N:Nat)(rc:(List Qg)→(List Qj)→Int→Int→Int→Int→Int→ByteArray→Int→Int→(List Qe)→Option (Bool))(h:List Qe)(s:List Qg)(y:List Qj)(z:Int)(a4:Int):Option (Int) :=
 Q1O (
  Q19 (Q2e N h rc s y z a4) N 0
 ) fun _=>
 some (-1)
def Q32 (N:Nat)(rc:(List Qg)→(List Qj)→Int→Int→Int→Int→Int→ByteArray→Int→Int→(List Qe)→Option (Bool))(h:List Qe)(s:List Qg)(y:List Qj)(z:Int)(a4:Int):Option (Bool) :=
 Qp (Q3B N rc h s y z a4) fun v7=>
 some (decide (v7 ≥ 0))
def Q3M (N:Nat)(rc:(List Qg)→(List Qj)→Int→Int→Int→Int→Int→ByteArray→Int→Int→(List Qe)→Option (Bool))(h:List Qg)(s:List Qj)(y:Int)(z:Int)(l4:List Qe):Option (Bool) :=
 Qp (Q32 N rc l4 h s y z) fun v7=>
 some (!v7)
def Q5c (_:Nat)(s:Int):Option (Nat) :=
 Qp (
  if (s==4)=true then (
   some true
  ) else (
   some (s==11)
  )
 ) fun h=>
 if h=true then (
  some 1
 ) else (
  some 2
 )
def Q6d (N:Nat)(a4:Int)(a5:Int)(a6:Int)(a7:ByteArray)(a8:Int)(y:Int)(h:List Qe)(s:Nat)(rc:(List Qg)→(List Qj)→Int→Int→Int→Int→Int→ByteArray→Int→Int→(List Qe)→Option (Bool))(l0:List Qg)(l1:List Qj)(a2:Int)(a3:Int):Option (Bool) :=
 Qp (Q4F N a4 a5 a6 a7 a8 y h false false true) fun z=>
 if z=true then (
  if (decide (y ≥ 1))=true then (
   if (decide (y≤11))=true then (
    if (h.length==s)=true then (
     Qp (Q3M N rc l0 l1 a2 a3 h) fun a0=>
     some a0
    ) else (
     some false
    )
   ) else (
    some false
   )
  ) else (
   some false
  )
 ) else (
  some false
 )
def Q4x (N:Nat)(rc:(List Qg)→(List Qj)→Int→Int→Int→Int→Int→ByteArray→Int→Int→(List Qe)→Option (Bool))(l0:List Qg)(l1:List Qj)(a2:Int)(a3:Int)(z:Int)(a5:Int)(a6:Int)(a7:ByteArray)(a8:Int)(a9:Int)(h:List Qe):Option (Bool) :=
 if (z==1)=true then (
  Qp (Q4F N z a5 a6 a7 a8 a9 h true false false) fun aD=>
  if aD=true then (
   Qp (Q1E N a5 a6 a7) fun aE=>
   some aE
  ) else (
   some false
  )
 ) else (
  if (z==2)=true then (
   Qp (Q4F N z a5 a6 a7 a8 a9 h false true false) fun aF=>
   if aF=true then (
    if (decide (a8 ≥ 0))=true then (
     some (decide (a8 < a2))
    ) else (
     some false
    )
   ) else (
    some false
   )
  ) else (
   if (z==3)=true then (
    Qp (Q5c N a9
    ) fun s=>
    Qp (Q6d N z a5 a6 a7 a8 a9 h s rc l0 l1 a2 a3
    ) fun y=>
    some y
   ) else (
    some false
   )
  )
 )
def Q31:Nat→(List Qg)→(List Qj)→Int→Int→Int→Int→Int→ByteArray→Int→Int→(List Qe)→Option (Bool)
 | 0=>fun _=>fun _=>fun _=>fun _=>fun _=>fun _=>fun _=>fun _=>fun _=>fun _=>fun _=>none
 | N+1=>Q4x N (Q31 N)
def Q5b (N:Nat)(l0:List Qg)(l1:List Qj)(a2:Int)(a3:Int)(a5:Int)(l6:List Q3S)(a7:Int)(a8:Int)(a9:Int)(h:ByteArray)(s:Int)(y:Int)(z:List Qe):Option (Bool) :=
 Qp (Q3V N l0 l1 a2 a3 a5 ((l6.length:Nat):Int)) fun a0=>
 if (!a0)=true then (
  some true
 ) else (
  if (a7 !=0)=true then (
   some true
  ) else (
   Qp (Q4F N a7 a8 a9 h s y z false false false) fun a1=>
   some (!a1)
  )
 )
def Q2K (N:Nat)(l6:List Q3S)(l0:List Qg)(l1:List Qj)(a3:Int)(a4:Int):(Nat×Int)→Option ((Nat×Int)⊕(Int⊕(Bool×Int×Int))):=fun (h,y)=>
 if (decide (h < l6.length))=true then (
  Qp (l6[h]?) fun z=>
  Qp (Q5w N l0 l1 y a3 z.k z.var z.v.k z.v.n z.v.s (a4==1)) fun (a1,a0)=>
  if (!a1)=true then (
   some (.inr (.inr (false,a0,a3)))
  ) else (
   gd (h+1≤9223372036854775807) <|
   some (.inl (h+1,a0))
  )
 ) else (
  some (.inr (.inl y))
 )
def Q5a (N:Nat)(l0:List Qg)(l1:List Qj)(a2:Int)(y:Int)(a4:Int)(a5:Int)(l6:List Q3S)(a7:Int)(a8:Int)(a9:Int)(aA:ByteArray)(aB:Int)(aC:Int)(aD:List Qe):Option (Bool×Int×Int) :=
 Qp (
  if (a4==1)=true then (
   some (a4==1)
  ) else (
   some (a4==2)
  )
 ) fun a1=>
 if a1=true then (
  Qp (Q5b N l0 l1 a2 y a5 l6 a7 a8 a9 aA aB aC aD
  ) fun z=>
  if z=true then (
   some (false,a2,y)
  ) else (
   Q1O (
    Q19 (Q2K N l6 l0 l1 y a4) N (0,a2)
   ) fun s=>
   Qp (
    if (a4==1)=true then (
     gd (-9223372036854775808≤y+1∧y+1≤9223372036854775807) <|
     some (y+1)
    ) else (
     some y
    )
   ) fun h=>
   some (true,s,h)
  )
 ) else (
  if (a4==3)=true then (
   if (a5==0)=true then (
    if (l6.length==0)=true then (
     Qp (Q31 N l0 l1 a2 y a7 a8 a9 aA aB aC aD) fun aH=>
     some (aH,a2,y)
    ) else (
     some (false,a2,y)
    )
   ) else (
    some (false,a2,y)
   )
  ) else (
   some (false,a2,y)
  )
 )
def Q5d (N:Nat)(s:Int)(y:Int)(z:Int)(a3:ByteArray)(a4:Int)(a5:Int)(l6:List Qe)(l7:List Qg)(l8:List Qj)(a9:Int)(h:Int):Option (Bool) :=
 Qp (Q31 N l7 l8 a9 h s y z a3 a4 a5 l6) fun v6=>
 some (!v6)
def Q2L (N:Nat)(l0:List Qe)(l1:List Qg)(l2:List Qj)(a3:Int)(a4:Int):Nat→Option (Nat⊕(Unit⊕Int)):=fun h=>
 if (decide (h < l0.length))=true then (
  Qp (l0[h]?) fun y=>
  Qp (Q5d N y.kind y.value.k y.value.n y.value.s y.var y.op y.kids l1 l2 a3 a4) fun z=>
  if z=true then (
   some (.inr (.inr ((h:Nat):Int)))
  ) else (
   gd (h+1≤9223372036854775807) <|
   some (.inl (h+1))
  )
 ) else (
  some (.inr (.inl ()))
 )
def Q4n (N:Nat)(h:List Qe)(s:List Qg)(y:List Qj)(z:Int)(a4:Int):Option (Int) :=
 Q1O (
  Q19 (Q2L N h s y z a4) N 0
 ) fun _=>
 some (-1)
def Q3z (N:Nat)(h:List Qe)(s:List Qg)(y:List Qj)(z:Int)(a4:Int):Option (Bool) :=
 Qp (Q4n N h s y z a4) fun v7=>
 some (decide (v7 ≥ 0))
def Q3U (N:Nat)(h:List Qg)(s:List Qj)(y:Int)(z:Int)(l4:List Qe):Option (Bool) :=
 Qp (Q3z N l4 h s y z) fun v7=>
 some (!v7)
def Q6u (_:Nat)(s:Int)(y:List Qe)(h:Int)(z:Int):Option (Bool) :=
 if (s==0)=true then (
  if (y.length==0)=true then (
   if (decide (h ≥ 0))=true then (
    some (decide (h < z))
   ) else (
    some false
   )
  ) else (
   some false
  )
 ) else (
  some false
 )
def Q6v (N:Nat)(y:Int)(z:Int)(s:List Qe)(l0:List Qg)(l1:List Qj)(a2:Int)(a3:Int):Option (Bool) :=
 if (y==0)=true then (
  if (z==0)=true then (
   if (decide (0 < s.length))=true then (
    Qp (Q3U N l0 l1 a2 a3 s) fun h=>
    some h
   ) else (
    some false
   )
  ) else (
   some false
  )
 ) else (
  some false
 )
def Q6w (_:Nat)(h:Int)(s:Int)(y:Int)(z:List Qe):Option (Bool) :=
 if (h==4)=true then (
  if (s==0)=true then (
   if (y==0)=true then (
    some (z.length==0)
   ) else (
    some false
   )
  ) else (
   some false
  )
 ) else (
  some false
 )
def Q5v (N:Nat)(l0:List Qg)(l1:List Qj)(a2:Int)(a3:Int)(a4:Int)(a5:Int)(a6:Int)(z:List Qe):Option (Bool) :=
 if (a4==1)=true then (
  if (a6==0)=true then (
   Qp (Q3V N l0 l1 a2 a3 a5 ((z.length:Nat):Int)) fun aC=>
   if aC=true then (
    Qp (Q3U N l0 l1 a2 a3 z) fun aD=>
    some aD
   ) else (
    some false
   )
  ) else (
   some false
  )
 ) else (
  if (a4==2)=true then (
   Qp (Q6u N a5 z a6 a3
   ) fun h=>
   some h
  ) else (
   if (a4==3)=true then (
    Qp (Q6v N a5 a6 z l0 l1 a2 a3
    ) fun s=>
    some s
   ) else (
    Qp (Q6w N a4 a5 a6 z
    ) fun y=>
    some y
   )
  )
 )
def Q5e (N:Nat)(h:Int)(s:Int)(y:Int)(z:List Qe)(l4:List Qg)(l5:List Qj)(a6:Int)(a7:Int):Option (Bool) :=
 Qp (Q5v N l4 l5 a6 a7 h s y z) fun v6=>
 some (!v6)
def Q2W (N:Nat)(z:List Q20)(l1:List Qg)(l2:List Qj)(a3:Int)(a4:Int):Nat→Option (Nat⊕(Unit⊕Int)):=fun h=>
 if (decide (h < z.length))=true then (
  Qp (z[h]?) fun s=>
  Qp (Q5e N s.kind s.type s.which s.exprs l1 l2 a3 a4) fun y=>
  if y=true then (
   some (.inr (.inr ((h:Nat):Int)))
  ) else (
   gd (h+1≤9223372036854775807) <|
   some (.inl (h+1))
  )
 ) else (
  some (.inr (.inl ()))
 )
def Q4C (N:Nat)(h:List Q20)(s:List Qg)(y:List Qj)(z:Int)(a4:Int):Option (Int) :=
 Q1O (
  Q19 (Q2W N h s y z a4) N 0
 ) fun _=>
 some (-1)
def Q3L (N:Nat)(h:List Q20)(s:List Qg)(y:List Qj)(z:Int)(a4:Int):Option (Bool) :=
 Qp (Q4C N h s y z a4) fun v7=>
 some (decide (v7 ≥ 0))
def Q4W (N:Nat)(y:ByteArray)(s:Int)(z:List QE)(l8:List Q20):Option (Bool) :=
 Qp (Q61 N y) fun h=>
 if (!h)=true then (
  some true
 ) else (
  if (decide (s < -1000))=true then (
   some true
  ) else (
   if (decide (s > 1000))=true then (
    some true
   ) else (
    if (decide (8 < z.length))=true then (
     some true
    ) else (
     some (decide (8 < l8.length))
    )
   )
  )
 )
def Q2x (N:Nat)(l7:List QE)(l0:List Qg)(l1:List Qj):(Nat×Int×Int)→Option ((Nat×Int×Int)⊕((Int×Int)⊕(Bool×Int×Int))):=fun (a0,h,y)=>
 if (decide (a0 < l7.length))=true then (
  Qp (l7[a0]?) fun z=>
  Qp (Q5a N l0 l1 h y z.kind z.type z.args z.test.kind z.test.value.k z.test.value.n z.test.value.s z.test.var z.test.op z.test.kids) fun (a3,a1,a2)=>
  if (!a3)=true then (
   some (.inr (.inr (false,a1,a2)))
  ) else (
   gd (a0+1≤9223372036854775807) <|
   some (.inl (a0+1,a1,a2))
  )
 ) else (
  some (.inr (.inl (h,y)))
 )
def Q4P (N:Nat)(l0:List Qg)(l1:List Qj)(_:Int)(_:Int)(a4:ByteArray)(a5:Int)(a6:Int)(l7:List QE)(l8:List Q20):Option (Bool×Int×Int) :=
 Qp (Q4W N a4 a5 l7 l8
 ) fun y=>
 if y=true then (
  some (false,0,0)
 ) else (
  Q1O (
   Q19 (Q2x N l7 l0 l1) N (0,0,0)
  ) fun (h,s)=>
  if (a6==h)=true then (
   if (decide (h≤16))=true then (
    Qp (Q3L N l8 l0 l1 h s) fun z=>
    some (!z,h,s)
   ) else (
    some (false,h,s)
   )
  ) else (
   some (false,h,s)
  )
 )
def Q6k (N:Nat)(h:Qg)(l0:List Qg)(l1:List Qj)(s:Nat):Option (Bool) :=
 Qp (Q61 N h.name) fun y=>
 if (!y)=true then (
  some true
 ) else (
  if (decide (h.fields < 0))=true then (
   some true
  ) else (
   if (decide (h.fields > 6))=true then (
    some true
   ) else (
    Qp (Q4N N l0 l1 0 0 h.name) fun z=>
    some (z !=((s:Nat):Int))
   )
  )
 )
def Q4I (N:Nat)(y:List Qg)(l1:List Qj):Nat→Option (Nat⊕(Unit⊕Bool)):=fun h=>
 if (decide (h < y.length))=true then (
  Qp (y[h]?) fun z=>
  Qp (Q6k N z y l1 h
  ) fun s=>
  if s=true then (
   some (.inr (.inr false))
  ) else (
   gd (h+1≤9223372036854775807) <|
   some (.inl (h+1))
  )
 ) else (
  some (.inr (.inl ()))
 )
def Q4J (N:Nat)(l1:List Qj)(l0:List Qg):(Nat×Int×Int)→Option ((Nat×Int×Int)⊕(Unit⊕Bool)):=fun (h,s,y)=>
 if (decide (h < l1.length))=true then (
  Qp (l1[h]?) fun z=>
  Qp (
   Qp (Q4O N l0 l1 s y z.name) fun a7=>
   if (a7 !=((h:Nat):Int))=true then (
    some (s,y,true)
   ) else (
    Qp (Q4P N l0 l1 s y z.name z.salience z.vars z.conds z.acts) fun (a3,a4,a5)=>
    some (a4,a5,!a3)
   )
  ) fun (a0,a1,a2)=>
  if a2=true then (
   some (.inr (.inr false))
  ) else (
   gd (h+1≤9223372036854775807) <|
   some (.inl (h+1,a0,a1))
  )
 ) else (
  some (.inr (.inl ()))
 )
def Q6B (N:Nat)(s:List Qg)(y:List Qj):Option (Bool) :=
 Qp (
  if (decide (32 < s.length))=true then (
   some true
  ) else (
   some (decide (64 < y.length))
  )
 ) fun h=>
 if h=true then (
  some false
 ) else (
  Q1O (
   Q19 (Q4I N s y) N 0
  ) fun _=>
  Q1O (
   Q19 (Q4J N y s) N (0,0,0)
  ) fun _=>
  some true
 )
def Q6I (N:Nat)(h:Int)(s:Int)(y:ByteArray):Option (Bool) :=
 Qp (Q1E N h s y) fun z=>
 some (!z)
def Q2D (N:Nat)(l0:List V):Nat→Option (Nat⊕(Unit⊕Int)):=fun h=>
 if (decide (h < l0.length))=true then (
  Qp (l0[h]?) fun y=>
  Qp (Q6I N y.k y.n y.s) fun z=>
  if z=true then (
   some (.inr (.inr ((h:Nat):Int)))
  ) else (
   gd (h+1≤9223372036854775807) <|
   some (.inl (h+1))
  )
 ) else (
  some (.inr (.inl ()))
 )
def Q47 (N:Nat)(h:List V):Option (Int) :=
 Q1O (
  Q19 (Q2D N h) N 0
 ) fun _=>
 some (-1)
def Q3t (N:Nat)(h:List V):Option (Bool) :=
 Qp (Q47 N h) fun s=>
 some (decide (s ≥ 0))
def Q6l (N:Nat)(h:QP)(s:Int)(l0:List Qg):Option (Bool) :=
 if (decide (h.id≤s))=true then (
  some true
 ) else (
  if (decide (h.id > 1099511627776))=true then (
   some true
  ) else (
   if (decide (h.ty < 0))=true then (
    some true
   ) else (
    if (decide (h.ty ≥ ((l0.length:Nat):Int)))=true then (
     some true
    ) else (
     gd (0≤h.ty) <|
     Qp (l0[h.ty.toNat]?) fun y=>
     if (((h.args.length:Nat):Int) !=y.fields)=true then (
      some true
     ) else (
      Qp (Q3t N h.args) fun z=>
      some z
     )
    )
   )
  )
 )
def Q3W (N:Nat)(l2:List QP)(l0:List Qg):(Nat×Int)→Option ((Nat×Int)⊕(Unit⊕Bool)):=fun (h,y)=>
 if (decide (h < l2.length))=true then (
  Qp (l2[h]?) fun z=>
  Qp (Q6l N z y l0
  ) fun s=>
  if s=true then (
   some (.inr (.inr false))
  ) else (
   gd (h+1≤9223372036854775807) <|
   some (.inl (h+1,z.id))
  )
 ) else (
  some (.inr (.inl ()))
 )
def Q6C (N:Nat)(h:List Qg)(_:List Qj)(s:List QP):Option (Bool) :=
 Q1O (
  Q19 (Q3W N s h) N (0,0)
 ) fun _=>
 some true
def Q4G (_:Nat)(h:Int):Option ((List Bool)×(List V)) :=
 Qp (
  if (decide (h < 0))=true then (
   some true
  ) else (
   some (decide (h > 16))
  )
 ) fun s=>
 if s=true then (
  some ([],[])
 ) else (
  gd (0≤h) <|
  gd (h.toNat≤140737488355328) <|
  gd (0≤h) <|
  gd (h.toNat≤4398046511104) <|
  some (List.replicate h.toNat false,(List.replicate h.toNat (⟨0,0,(⟨#[]⟩ : ByteArray)⟩ : V)))
 )
def Q6V (N:Nat)(h:Int)(s:Int)(y:ByteArray):Option (Int×Int×ByteArray×Nat) :=
 Qp (Q1E N h s y) fun z=>
 if (!z)=true then (
  some (0,0,(⟨#[]⟩ : ByteArray),2)
 ) else (
  some (h,s,y,0)
 )
def Q7I (N:Nat)(_:Int)(a1:Int)(a2:Int)(a3:ByteArray)(_:Int)(_:Int)(_:List Qe):Option (Int×Int×ByteArray×Nat) :=
 Qp (Q6V N a1 a2 a3) fun (h,s,y,z)=>
 some (h,s,y,z)
def Q5k (N:Nat)(_:Int)(_:Int)(_:Int)(_:ByteArray)(a4:Int)(_:Int)(_:List Qe)(l7:List V):Option (Int×Int×ByteArray×Nat) :=
 Qp (
  if (decide (a4 < 0))=true then (
   some true
  ) else (
   some (decide (a4 ≥ ((l7.length:Nat):Int)))
  )
 ) fun h=>
 if h=true then (
  some (0,0,(⟨#[]⟩ : ByteArray),2)
 ) else (
  gd (0≤a4) <|
  Qp (l7[a4.toNat]?) fun y=>
  Qp (Q6V N y.k y.n y.s) fun (z,a6,a7,a8)=>
  some (z,a6,a7,a8)
 )
def Q6f (_:Nat)(_:Int):Option (Unit) :=
 some ()
def Q5o (N:Nat)(h:Bool):Option (Int) :=
 if h=true then (
  Qp (Q6f N 1) fun _=>
  some 1
 ) else (
  Qp (Q6f N 0) fun _=>
  some 0
 )
def Q3f (_:Nat)(h:Int):Option (Unit⊕(Unit⊕(Unit⊕(Unit⊕(Unit⊕(Unit⊕(Unit⊕(Unit⊕(Unit⊕Unit))))))))) :=
 if (h==1)=true then (
 some (.inl ())
 ) else (
 if (h==2)=true then (
 some (.inr (.inl ()))
 ) else (
 if (h==3)=true then (
 some (.inr (.inr (.inl ())))
 ) else (
 if (h==4)=true then (
 some (.inr (.inr (.inr (.inl ()))))
 ) else (
 if (h==7)=true then (
 some (.inr (.inr (.inr (.inr (.inl ())))))
 ) else (
 if (h==8)=true then (
 some (.inr (.inr (.inr (.inr (.inr (.inl ()))))))
 ) else (
 if (h==9)=true then (
 some (.inr (.inr (.inr (.inr (.inr (.inr (.inl ())))))))
 ) else (
 if (h==10)=true then (
 some (.inr (.inr (.inr (.inr (.inr (.inr (.inr (.inl ()))))))))
 ) else (
 if (h==11)=true then (
 some (.inr (.inr (.inr (.inr (.inr (.inr (.inr (.inr (.inl ())))))))))
 ) else (
 some (.inr (.inr (.inr (.inr (.inr (.inr (.inr (.inr (.inr ())))))))))
 )))))))))
def Q8n (_:Nat)(_:Int)(_:Int):Option (Unit) :=
 some ()
def Q8o (_:Nat)(_:Int)(_:Int):Option (Unit) :=
 some ()
def Q4t (_:Nat)(y:Int)(z:Int):Option (Int×Bool) :=
 Qp (
  if (decide (y < 0))=true then (
   some (IntKind.wrap .u64 (0 - (IntKind.wrap .u64 y)))
  ) else (
   some (IntKind.wrap .u64 y)
  )
 ) fun h=>
 Qp (
  if (decide (z < 0))=true then (
   some (IntKind.wrap .u64 (0 - (IntKind.wrap .u64 z)))
  ) else (
   some (IntKind.wrap .u64 z)
  )
 ) fun s=>
 gd (0≤h∧h < 18446744073709551616) <|
 gd (0≤s∧s < 18446744073709551616) <|
 if ((decide (y < 0)) !=(decide (z < 0)))=true then (
  if (((h.toNat * s.toNat / 18446744073709551616:Nat):Int)==0)=true then (
   some ((IntKind.wrap .i64 (IntKind.wrap .u64 (0 - ((h.toNat * s.toNat % 18446744073709551616:Nat):Int)))),(decide (((h.toNat * s.toNat % 18446744073709551616:Nat):Int)≤9223372036854775808)))
  ) else (
   some ((IntKind.wrap .i64 (IntKind.wrap .u64 (0 - ((h.toNat * s.toNat % 18446744073709551616:Nat):Int)))),false)
  )
 ) else (
  if (((h.toNat * s.toNat / 18446744073709551616:Nat):Int)==0)=true then (
   some ((IntKind.wrap .i64 ((h.toNat * s.toNat % 18446744073709551616:Nat):Int)),(decide (((h.toNat * s.toNat % 18446744073709551616:Nat):Int) < 9223372036854775808)))
  ) else (
   some ((IntKind.wrap .i64 ((h.toNat * s.toNat % 18446744073709551616:Nat):Int)),false)
  )
 )
def Q8p (_:Nat)(_:Int)(_:Int):Option (Unit) :=
 some ()
def Q1A (N:Nat)(h:Bool):Option (Int) :=
 Qp (Q5o N h) fun s=>
 some s
def Q7b (N:Nat)(s:Int)(y:Int):Option (Int) :=
 Qp (Q1A N (decide (s < y))) fun h=>
 some h
def Q7c (N:Nat)(s:Int)(y:Int):Option (Int) :=
 Qp (Q1A N (decide (s≤y))) fun h=>
 some h
def Q7d (N:Nat)(s:Int)(y:Int):Option (Int) :=
 if (s !=0)=true then (
  Qp (Q1A N (y !=0)) fun h=>
  some h
 ) else (
  Qp (Q1A N false) fun h=>
  some h
 )
def Q7e (N:Nat)(s:Int)(y:Int):Option (Int) :=
 if (s !=0)=true then (
  Qp (Q1A N true) fun h=>
  some h
 ) else (
  Qp (Q1A N (y !=0)) fun h=>
  some h
 )
def Q7f (N:Nat)(s:Int)(_:Int):Option (Int) :=
 Qp (Q1A N (s==0)) fun h=>
 some h
def Q63 (_:Nat)(s:Int):Option (Nat) :=
 Qp (
  if (s==4)=true then (
   some true
  ) else (
   some (s==11)
  )
 ) fun h=>
 if h=true then (
  some 1
 ) else (
  some 2
 )
def Q4H (N:Nat)(l1:List V)(y:Nat)(z:Bool):Option (Bool⊕((Nat×Bool)⊕(Bool⊕(Nat×Int×Nat)))) :=
 Qp (l1[y]?) fun h=>
 Qp (Q1E N h.k h.n h.s) fun a0=>
 if (!a0)=true then (
  some (.inr (.inr (.inr (0,0,2))))
 ) else (
  if z=true then (
   some (.inl true)
  ) else (
   some (.inl (h.k==2))
  )
 )
def Q1M (N:Nat)(z:List V):(Nat×Bool)→Option ((Nat×Bool)⊕(Bool⊕(Nat×Int×Nat))):=fun (h,s)=>
 if (decide (h < z.length))=true then (
  Q1O (Q4H N z h s
  ) fun y=>
  gd (h+1≤9223372036854775807) <|
  some (.inl (h+1,y))
 ) else (
  some (.inr (.inl s))
 )
def QV (N:Nat)(a0:Int)(h:V)(s:V):Option (Int×Bool) :=
 Qp (Q3f N a0) fun
 | .inl _=>(
 Qp (Q8n N h.n s.n) fun _=>
 some (IntKind.wrap .i64 (h.n+s.n),(decide ((IntKind.wrap .i64 (h.n+s.n)) < h.n))==(decide (s.n < 0)))
 )
 | .inr (.inl _)=>(
 Qp (Q8o N h.n s.n) fun _=>
 some (IntKind.wrap .i64 (h.n - s.n),(decide ((IntKind.wrap .i64 (h.n - s.n)) > h.n))==(decide (s.n < 0)))
 )
 | .inr (.inr (.inl _))=>(
 Qp (Q4t N h.n s.n) fun (z,a1)=>
 some (z,a1)
 )
 | .inr (.inr (.inr (.inl _)))=>(
 Qp (Q8p N h.n s.n) fun _=>
 some (IntKind.wrap .i64 (0 - h.n),h.n !=-9223372036854775808)
 )
 | .inr (.inr (.inr (.inr (.inl _))))=>(
 Qp (Q7b N h.n s.n) fun y=>
 some (y,true)
 )
 | .inr (.inr (.inr (.inr (.inr (.inl _)))))=>(
 Qp (Q7c N h.n s.n) fun y=>
 some (y,true)
 )
 | .inr (.inr (.inr (.inr (.inr (.inr (.inl _))))))=>(
 Qp (Q7d N h.n s.n) fun y=>
 some (y,true)
 )
 | .inr (.inr (.inr (.inr (.inr (.inr (.inr (.inl _)))))))=>(
 Qp (Q7e N h.n s.n) fun y=>
 some (y,true)
 )
 | .inr (.inr (.inr (.inr (.inr (.inr (.inr (.inr (.inl _))))))))=>(
 Qp (Q7f N h.n s.n) fun y=>
 some (y,true)
 )
 | .inr (.inr (.inr (.inr (.inr (.inr (.inr (.inr (.inr _))))))))=>(
 none
 )
def Q2Y (N:Nat)(a0:Int)(l1:List V):Option (Nat×Int×Nat) :=
 Qp (Q63 N a0
 ) fun h=>
 Qp (
  if (decide (a0 < 1))=true then (
   some true
  ) else (
   if (decide (a0 > 11))=true then (
    some true
   ) else (
    some (l1.length !=h)
   )
  )
 ) fun y=>
 if y=true then (
  some (0,0,2)
 ) else (
  Q1O (
   Q19 (Q1M N l1) N (0,false)
  ) fun a1=>
  Qp (l1[0]?) fun a2=>
  gd (-9223372036854775808≤((h:Nat):Int) - 1∧((h:Nat):Int) - 1≤9223372036854775807) <|
  gd (0≤((h:Nat):Int) - 1) <|
  Qp (l1[(((h:Nat):Int) - 1).toNat]?) fun a3=>
  if (a0==5)=true then (
   Qp (Q5o N (decide (a2=a3))) fun a6=>
   some (1,a6,0)
  ) else (
   if (a0==6)=true then (
    Qp (Q5o N (!decide (a2=a3))) fun a7=>
    some (1,a7,0)
   ) else (
    if a1=true then (
     some (0,0,301)
    ) else (
     Qp (QV N a0 a2 a3
     ) fun (s,z)=>
     if (!z)=true then (
      some (0,0,300)
     ) else (
      Qp (Q6f N s) fun _=>
      some (1,s,0)
     )
    )
   )
  )
 )
def Q4K (_:Nat)(l1:List Qe)(rc:Int→Int→Int→ByteArray→Int→Int→(List Qe)→(List V)→Option (Int×Int×ByteArray×Nat))(l0:List V):(Nat×(List V))→Option ((Nat×(List V))⊕((List V)⊕((List V)×Nat))):=fun (h,y)=>
 if (decide (h < l1.length))=true then (
  Qp (l1[h]?) fun z=>
  Qp (rc z.kind z.value.k z.value.n z.value.s z.var z.op z.kids l0) fun (a0,a1,a2,a3)=>
  if (a3 !=0)=true then (
   some (.inr (.inr ([],a3)))
  ) else (
   gd (y.length+([(⟨a0,a1,a2⟩ : V)]).length≤4398046511104) <|
   gd (h+1≤9223372036854775807) <|
   some (.inl (h+1,(y++([(⟨a0,a1,a2⟩ : V)]))))
  )
 ) else (
  some (.inr (.inl y))
 )
def Q62 (N:Nat)(rc:Int→Int→Int→ByteArray→Int→Int→(List Qe)→(List V)→Option (Int×Int×ByteArray×Nat))(s:List V)(y:List Qe):Option ((List V)×Nat) :=
 Q1O (
  Q19 (Q4K N y rc s) N (0,[])
 ) fun h=>
 some (h,0)
def Q4L (N:Nat)(rc:Int→Int→Int→ByteArray→Int→Int→(List Qe)→(List V)→Option (Int×Int×ByteArray×Nat))(l0:List V)(_:Int)(_:Int)(_:Int)(_:ByteArray)(_:Int)(a6:Int)(l7:List Qe):Option (Nat×Int×Nat) :=
 Qp (Q62 N rc l0 l7) fun (s,h)=>
 if (h !=0)=true then (
  some (0,0,h)
 ) else (
  Qp (Q2Y N a6 s) fun (y,z,a0)=>
  some (y,z,a0)
 )
def Q38 (N:Nat)(rc:Int→Int→Int→ByteArray→Int→Int→(List Qe)→(List V)→Option (Int×Int×ByteArray×Nat))(a0:Int)(a1:Int)(a2:Int)(a3:ByteArray)(a4:Int)(a5:Int)(l6:List Qe)(l7:List V):Option (Int×Int×ByteArray×Nat) :=
 if (a0==1)=true then (
 Qp (Q7I N a0 a1 a2 a3 a4 a5 l6) fun (h,s,y,z)=>
 some (h,s,y,z)
 ) else (
 if (a0==2)=true then (
 Qp (Q5k N a0 a1 a2 a3 a4 a5 l6 l7) fun (h,s,y,z)=>
 some (h,s,y,z)
 ) else (
 if (a0==3)=true then (
 Qp (Q4L N rc l7 a0 a1 a2 a3 a4 a5 l6) fun (h,s,y)=>
 some (((h:Nat):Int),s,(⟨#[]⟩ : ByteArray),y)
 ) else (
 if (!false)=true then (
  some (0,0,(⟨#[]⟩ : ByteArray),2)
 ) else (
  none
 )
 )))
def Q1m:Nat→Int→Int→Int→ByteArray→Int→Int→(List Qe)→(List V)→Option (Int×Int×ByteArray×Nat)
 | 0=>fun _=>fun _=>fun _=>fun _=>fun _=>fun _=>fun _=>fun _=>none
 | N+1=>Q38 N (Q1m N)
def Q2y (_:Nat)(l0:List Bool)(l1:List V):Nat→Option (Nat⊕(Unit⊕Bool)):=fun h=>
 if (decide (h < l0.length))=true then (
  Qp (l0[h]?) fun y=>
  Qp (
   if (!y)=true then (
    Qp (l1[h]?) fun z=>
    some (!decide (z=(⟨0,0,(⟨#[]⟩ : ByteArray)⟩ : V)))
   ) else (
    some false
   )
  ) fun s=>
  if s=true then (
   some (.inr (.inr false))
  ) else (
   gd (h+1≤9223372036854775807) <|
   some (.inl (h+1))
  )
 ) else (
  some (.inr (.inl ()))
 )
def Q4Q (N:Nat)(h:List Bool)(s:List V):Option (Bool) :=
 if (h.length !=s.length)=true then (
  some false
 ) else (
  Q1O (
   Q19 (Q2y N h s) N 0
  ) fun _=>
  some true
 )
def Q8b (_:Nat)(h:List Bool)(s:List V):Option (Unit) :=
 gd (h.length≤140737488355328) <|
 gd (s.length≤4398046511104) <|
 some ()
def Q42 (_:Nat)(h:Bool)(s:Int)(y:List Bool)(z:List V)(a7:Int)(a8:Int)(a9:ByteArray):Option ((List Bool)×(List V)) :=
 if h=true then (
  gd (0≤s) <|
  Qp (y[s.toNat]?) fun _=>
  gd (0≤s) <|
  Qp (z[s.toNat]?) fun _=>
  some (y.set s.toNat true,(z.set s.toNat (⟨a7,a8,a9⟩ : V)))
 ) else (
  some (y,z)
 )
def Q3N (N:Nat)(z:List Bool)(l1:List V)(a2:Int)(a3:Int)(a4:Int)(a5:Int)(a6:ByteArray)(a7:Int)(a8:Int)(a9:ByteArray):Option (Bool×(List Bool)×(List V)) :=
 Qp (
  if (decide (a3 ≥ 0))=true then (
   some (decide (a3 < ((z.length:Nat):Int)))
  ) else (
   some false
  )
 ) fun h=>
 if (a2==1)=true then (
  some (true,z,l1)
 ) else (
  if (a2==4)=true then (
   some ((decide ((⟨a4,a5,a6⟩ : V)=(⟨a7,a8,a9⟩ : V))),z,l1)
  ) else (
   if (a2==3)=true then (
    if h=true then (
     gd (0≤a3) <|
     Qp (z[a3.toNat]?) fun aE=>
     if aE=true then (
      gd (0≤a3) <|
      Qp (l1[a3.toNat]?) fun aF=>
      some ((decide (aF=(⟨a7,a8,a9⟩ : V))),z,l1)
     ) else (
      some (false,z,l1)
     )
    ) else (
     some (false,z,l1)
    )
   ) else (
    if (a2==2)=true then (
     Qp (Q42 N h a3 z l1 a7 a8 a9
     ) fun (s,y)=>
     some (h,s,y)
    ) else (
     some (false,z,l1)
    )
   )
  )
 )
def Q5O (N:Nat)(h:Bool)(a1:Int)(s:Int)(l2:List Q3S)(y:List V)(z:List Bool)(a0:List V):Option (Bool) :=
 if (!h)=true then (
  some true
 ) else (
  if (a1 !=s)=true then (
   some true
  ) else (
   if (l2.length !=y.length)=true then (
    some true
   ) else (
    Qp (Q4Q N z a0) fun a2=>
    some (!a2)
   )
  )
 )
def Q3j (N:Nat)(l2:List Q3S)(a5:List V):(Nat×(List Bool)×(List V))→Option ((Nat×(List Bool)×(List V))⊕(((List Bool)×(List V))⊕((List Bool)×(List V)×Bool))):=fun (h,y,z)=>
 if (decide (h < l2.length))=true then (
  Qp (l2[h]?) fun a0=>
  Qp (a5[h]?) fun a1=>
  Qp (Q3N N y z a0.k a0.var a0.v.k a0.v.n a0.v.s a1.k a1.n a1.s) fun (a2,a3,a4)=>
  if (!a2)=true then (
   some (.inr (.inr ([],[],false)))
  ) else (
   gd (h+1≤9223372036854775807) <|
   some (.inl (h+1,a3,a4))
  )
 ) else (
  some (.inr (.inl (y,z)))
 )
def Q54 (N:Nat)(a0:Int)(a1:Int)(l2:List Q3S)(_:Int)(_:Int)(_:Int)(_:ByteArray)(_:Int)(_:Int)(_:List Qe)(_:Int)(aB:Int)(aA:List V)(z:List Bool)(a2:List V):Option ((List Bool)×(List V)×Bool) :=
 Qp (
  if (a0==1)=true then (
   some true
  ) else (
   some (a0==2)
  )
 ) fun a9=>
 Qp (Q5O N a9 a1 aB l2 aA z a2
 ) fun y=>
 if y=true then (
  some ([],[],false)
 ) else (
  Qp (Q8b N z a2) fun _=>
  Q1O (
   Q19 (Q3j N l2 aA) N (0,z,a2)
  ) fun (h,s)=>
  some (h,s,true)
 )
def Q6m (N:Nat)(a0:Int)(a1:Int)(l2:List V)(a3:Int)(a4:Int)(l5:List Q3S)(a6:Int)(a7:Int)(a8:Int)(a9:ByteArray)(s:Int)(y:Int)(z:List Qe)(a2:List Bool)(a5:List V):Option (Bool) :=
 Qp (Q54 N a3 a4 l5 a6 a7 a8 a9 s y z a0 a1 l2 a2 a5) fun (_,_,h)=>
 some h
def Q2M (N:Nat)(l0:List QP)(a1:Int)(a2:Int)(l3:List Q3S)(a4:Int)(a5:Int)(a6:Int)(a7:ByteArray)(a8:Int)(a9:Int)(y:List Qe)(z:List Bool)(a0:List V):Nat→Option (Nat⊕(Unit⊕Int)):=fun h=>
 if (decide (h < l0.length))=true then (
  Qp (l0[h]?) fun s=>
  Qp (Q6m N s.id s.ty s.args a1 a2 l3 a4 a5 a6 a7 a8 a9 y z a0) fun a3=>
  if a3=true then (
   some (.inr (.inr ((h:Nat):Int)))
  ) else (
   gd (h+1≤9223372036854775807) <|
   some (.inl (h+1))
  )
 ) else (
  some (.inr (.inl ()))
 )
def Q4o (N:Nat)(z:List QP)(a1:Int)(a2:Int)(l3:List Q3S)(a4:Int)(a5:Int)(a6:Int)(a7:ByteArray)(a8:Int)(a9:Int)(h:List Qe)(s:List Bool)(y:List V):Option (Int) :=
 Q1O (
  Q19 (Q2M N z a1 a2 l3 a4 a5 a6 a7 a8 a9 h s y) N 0
 ) fun _=>
 some (-1)
def Q3A (N:Nat)(z:List QP)(a1:Int)(a2:Int)(l3:List Q3S)(a4:Int)(a5:Int)(a6:Int)(a7:ByteArray)(a8:Int)(a9:Int)(h:List Qe)(s:List Bool)(y:List V):Option (Bool) :=
 Qp (Q4o N z a1 a2 l3 a4 a5 a6 a7 a8 a9 h s y) fun v7=>
 some (decide (v7 ≥ 0))
def Q6e (N:Nat)(z:Int)(a1:Int)(l2:List Q3S)(a3:Int)(a4:Int)(a5:Int)(a6:ByteArray)(a7:Int)(a8:Int)(l9:List Qe)(h:List Bool)(s:List V)(y:List QP):Option (Bool) :=
 Qp (Q3A N y z a1 l2 a3 a4 a5 a6 a7 a8 l9 h s) fun v9=>
 some v9
def Q5X (_:Nat)(_:Int):Option (Unit) :=
 some ()
def Q66 (N:Nat)(s:Int)(h:Int):Option (Int) :=
 Qp (Q5X N s) fun _=>
 Qp (Q5X N h) fun _=>
 if (s !=s)=true then (
  if (h !=h)=true then (
   some 0
  ) else (
   some (-1)
  )
 ) else (
  if (h !=h)=true then (
   some 1
  ) else (
   if (decide (s < h))=true then (
    some (-1)
   ) else (
    if (decide (s > h))=true then (
     some 1
    ) else (
     some 0
    )
   )
  )
 )
def Q5x (N:Nat)(h:Int)(_:Int)(_:List V)(s:Int):Option (Int) :=
 Qp (Q66 N h s) fun y=>
 some y
def Q1P (N:Nat)(l0:List QP)(a1:Int):(Int×Int)→Option ((Int×Int)⊕Int):=fun (h,s)=>
 if (decide (s < h))=true then (
  gd (-9223372036854775808≤s+h∧s+h≤9223372036854775807) <|
  gd (0≤IntKind.wrap .i64 (Int.fdiv (IntKind.wrap .u64 (s+h)) (2 ^ (1)))) <|
  Qp (l0[(IntKind.wrap .i64 (Int.fdiv (IntKind.wrap .u64 (s+h)) (2 ^ (1)))).toNat]?) fun y=>
  Qp (Q5x N y.id y.ty y.args a1) fun z=>
  if (decide (z < 0))=true then (
   gd (-9223372036854775808≤(IntKind.wrap .i64 (Int.fdiv (IntKind.wrap .u64 (s+h)) (2 ^ (1))))+1∧(IntKind.wrap .i64 (Int.fdiv (IntKind.wrap .u64 (s+h)) (2 ^ (1))))+1≤9223372036854775807) <|
   some (.inl (h,(IntKind.wrap .i64 (Int.fdiv (IntKind.wrap .u64 (s+h)) (2 ^ (1))))+1))
  ) else (
   some (.inl (IntKind.wrap .i64 (Int.fdiv (IntKind.wrap .u64 (s+h)) (2 ^ (1))),s))
  )
 ) else (
  some (.inr s)
 )
def Q1J (N:Nat)(y:List QP)(a1:Int):Option (Int×Bool) :=
 Qp (
  Q19 (Q1P N y a1) N (((y.length:Nat):Int),0)
 ) fun h=>
 if (decide (h < ((y.length:Nat):Int)))=true then (
  gd (0≤h) <|
  Qp (y[h.toNat]?) fun s=>
  Qp (Q5x N s.id s.ty s.args a1) fun z=>
  some (h,z==0)
 ) else (
  some (h,false)
 )
def Q6H (N:Nat)(z:List Qg)(h:List Qj)(l4:List QP)(a2:Int):Option (Bool) :=
 Qp (Q6B N z h) fun s=>
 if (!s)=true then (
  some true
 ) else (
  Qp (Q6C N z h l4) fun y=>
  if (!y)=true then (
   some true
  ) else (
   if (decide (a2 < 0))=true then (
    some true
   ) else (
    some (decide (a2 ≥ ((h.length:Nat):Int)))
   )
  )
 )
def Q7Y (N:Nat)(aD:Qj)(a3:Nat)(y:List V)(a0:Nat)(z:List Bool)(l4:List QP)(l3:List Int):Option ((Nat×(List Bool)×(List V))⊕((Nat×Nat×(List Bool)×(List V))⊕((Nat×(List Bool)×(List V))⊕((List V)×Bool)))) :=
 Qp (aD.conds[a3]?) fun h=>
 if (h.kind==3)=true then (
  Qp (Q1m N h.test.kind h.test.value.k h.test.value.n h.test.value.s h.test.var h.test.op h.test.kids y) fun (a4,a5,_,a6)=>
  Qp (
   if (a6 !=0)=true then (
    some true
   ) else (
    if (a4 !=1)=true then (
     some true
    ) else (
     some (a5==0)
    )
   )
  ) fun a1=>
  if a1=true then (
   some (.inr (.inr (.inr ([],false))))
  ) else (
   some (.inl (a0,z,y))
  )
 ) else (
  if (h.kind==2)=true then (
   Qp (Q6e N h.kind h.type h.args h.test.kind h.test.value.k h.test.value.n h.test.value.s h.test.var h.test.op h.test.kids z y l4) fun aC=>
   if aC=true then (
    some (.inr (.inr (.inr ([],false))))
   ) else (
    some (.inl (a0,z,y))
   )
  ) else (
   if (decide (l3.length≤a0))=true then (
    some (.inr (.inr (.inr ([],false))))
   ) else (
    Qp (l3[a0]?) fun aG=>
    Qp (Q1J N l4 aG) fun (a2,a7)=>
    if (!a7)=true then (
     some (.inr (.inr (.inr ([],false))))
    ) else (
     gd (0≤a2) <|
     Qp (l4[a2.toNat]?) fun a8=>
     Qp (Q54 N h.kind h.type h.args h.test.kind h.test.value.k h.test.value.n h.test.value.s h.test.var h.test.op h.test.kids a8.id a8.ty a8.args z y) fun (a9,aA,aB)=>
     if (!aB)=true then (
      some (.inr (.inr (.inr ([],false))))
     ) else (
      gd (a0+1≤9223372036854775807) <|
      some (.inl (a0+1,a9,aA))
     )
    )
   )
  )
 )
def Q4s (N:Nat)(a3:Qj)(l4:List QP)(l3:List Int):(Nat×Nat×(List Bool)×(List V))→Option ((Nat×Nat×(List Bool)×(List V))⊕((Nat×(List Bool)×(List V))⊕((List V)×Bool))):=fun (y,a1,h,s)=>
 if (decide (y < a3.conds.length))=true then (
  Q1O (Q7Y N a3 y s a1 h l4 l3
  ) fun (a2,z,a0)=>
  gd (y+1≤9223372036854775807) <|
  some (.inl (y+1,a2,z,a0))
 ) else (
  some (.inr (.inl (a1,h,s)))
 )
def Q7a (N:Nat)(l0:List Qg)(l1:List Qj)(a2:Int)(l3:List Int)(l4:List QP):Option ((List V)×Bool) :=
 Qp (Q6H N l0 l1 l4 a2
 ) fun s=>
 if s=true then (
  some ([],false)
 ) else (
  gd (0≤a2) <|
  Qp (l1[a2.toNat]?) fun a3=>
  Qp (Q4G N a3.vars) fun (a0,a1)=>
  Q1O (
   Q19 (Q4s N a3 l4 l3) N (0,0,a0,a1)
  ) fun (y,_,h)=>
  if (decide (y < l3.length))=true then (
   some ([],false)
  ) else (
   some (h,true)
  )
 )
def Q3p (_:Nat)(z:List Int)(l1:List Int):Nat→Option (Nat⊕(Unit⊕Bool)):=fun h=>
 if (decide (h < z.length))=true then (
  Qp (z[h]?) fun s=>
  Qp (l1[h]?) fun y=>
  if (s !=y)=true then (
   some (.inr (.inr false))
  ) else (
   gd (h+1≤9223372036854775807) <|
   some (.inl (h+1))
  )
 ) else (
  some (.inr (.inl ()))
 )
def Q4d (N:Nat)(h:List Int)(s:List Int):Option (Bool) :=
 if (h.length !=s.length)=true then (
  some false
 ) else (
  Q1O (
   Q19 (Q3p N h s) N 0
  ) fun _=>
  some true
 )
def Q4m (N:Nat)(z:List Qg)(h:List Qj)(l4:List QP)(a2:Int):Option (Bool) :=
 Qp (Q34 N z h) fun s=>
 if (!s)=true then (
  some true
 ) else (
  Qp (Q36 N z h l4) fun y=>
  if (!y)=true then (
   some true
  ) else (
   if (decide (a2 < 0))=true then (
    some true
   ) else (
    some (decide (a2 ≥ ((h.length:Nat):Int)))
   )
  )
 )
def Q26 (_:Nat)(l4:List QP)(h:List Int)(l3:List Int):(Nat×(List QP))→Option ((Nat×(List QP))⊕(List QP)):=fun (s,y)=>
 Qp (
  if (decide (s < l4.length))=true then (
   some (decide (h.length < l3.length))
  ) else (
   some false
  )
 ) fun a0=>
 if a0=true then (
  Qp (
   Qp (l4[s]?) fun a2=>
   Qp (l3[h.length]?) fun a3=>
   if (a2.id==a3)=true then (
    Qp (l4[s]?) fun a4=>
    some [a4]
   ) else (
    some y
   )
  ) fun z=>
  gd (s+1≤9223372036854775807) <|
  some (.inl (s+1,z))
 ) else (
  some (.inr y)
 )
def Q25 (N:Nat)(a2:Int)(l1:List Qj)(l4:List QP)(l3:List Int):(Nat×(List Int)×(List V))→Option ((Nat×(List Int)×(List V))⊕(((List Int)×(List V))⊕((List V)×Bool))):=fun (a0,h,y)=>
 gd (0≤a2) <|
 Qp (l1[a2.toNat]?) fun a6=>
 if (decide (a0 < a6.conds.length))=true then (
  gd (0≤a2) <|
  Qp (l1[a2.toNat]?) fun a7=>
  Qp (a7.conds[a0]?) fun z=>
  Qp (
   if (z.kind==1)=true then (
    Q19 (Q26 N l4 h l3) N (0,[])
   ) else (
    some l4
   )
  ) fun a1=>
  Qp (Q3X N z.kind z.type z.args z.test.kind z.test.value.k z.test.value.n z.test.value.s z.test.var z.test.op z.test.kids h y a1) fun a4=>
  if (a4.length !=1)=true then (
   some (.inr (.inr ([],false)))
  ) else (
   Qp (a4[0]?) fun a3=>
   gd (a0+1≤9223372036854775807) <|
   some (.inl (a0+1,a3.ids,a3.vars))
  )
 ) else (
  some (.inr (.inl (h,y)))
 )
def Q4b (N:Nat)(l0:List Qg)(l1:List Qj)(a2:Int)(l3:List Int)(l4:List QP):Option ((List V)×Bool) :=
 Qp (Q4m N l0 l1 l4 a2
 ) fun y=>
 if y=true then (
  some ([],false)
 ) else (
  Q1O (
   Q19 (Q25 N a2 l1 l4 l3) N (0,[],[])
  ) fun (h,s)=>
  Qp (Q4d N h l3) fun z=>
  if (!z)=true then (
   some ([],false)
  ) else (
   some (s,true)
  )
 )
def Q2B (_:Nat)(z:List V)(l1:List V):Nat→Option (Nat⊕(Unit⊕Bool)):=fun h=>
 if (decide (h < z.length))=true then (
  Qp (z[h]?) fun s=>
  Qp (l1[h]?) fun y=>
  if (!decide (s=y))=true then (
   some (.inr (.inr false))
  ) else (
   gd (h+1≤9223372036854775807) <|
   some (.inl (h+1))
  )
 ) else (
  some (.inr (.inl ()))
 )
def Q39 (N:Nat)(h:List V)(s:List V):Option (Bool) :=
 if (h.length !=s.length)=true then (
  some false
 ) else (
  Q1O (
   Q19 (Q2B N h s) N 0
  ) fun _=>
  some true
 )
def Q3e (N:Nat)(h:List QU)(a4:Int)(a2:Int)(l3:List Int):Option (Int×(List Int)) :=
 Qp (
  if (decide (0 < h.length))=true then (
   some (decide (a4 > 0))
  ) else (
   some false
  )
 ) fun s=>
 if s=true then (
  Qp (Q4R N a4 ((h.length:Nat):Int)) fun y=>
  gd (0≤y) <|
  Qp (h[y.toNat]?) fun z=>
  some (z.rule,z.ids)
 ) else (
  some (a2,l3)
 )
def Q2V (N:Nat)(l0:List Qg)(l1:List Qj)(a2:Int)(l3:List Int)(a4:Int)(l5:List QP):Option (Bool) :=
 Qp (
  Qp (Q3O N l0 l1 l5) fun a9=>
  if (!a9)=true then (
   some true
  ) else (
   some (decide (50 < l3.length))
  )
 ) fun y=>
 if y=true then (
  some true
 ) else (
  Qp (Q3y N l0 l1 l5) fun (z,_)=>
  Qp (Q3e N z a4 a2 l3
  ) fun (s,h)=>
  Qp (Q7a N l0 l1 s h l5) fun (a0,a1)=>
  Qp (Q4b N l0 l1 s h l5) fun (a3,a5)=>
  if (a1==a5)=true then (
   Qp (Q39 N a0 a3) fun aB=>
   some aB
  ) else (
   some false
  )
 )
end Go.Proofs.YtbgodclhmgmcgaaGreatDoor
