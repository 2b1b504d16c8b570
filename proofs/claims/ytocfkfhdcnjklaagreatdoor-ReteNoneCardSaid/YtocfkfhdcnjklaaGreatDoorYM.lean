import Derived.Test.YtocfkfhdcnjklaaGreatDoorSq
namespace Go.Proofs.YtocfkfhdcnjklaaGreatDoor
section
open Go Go.RowKit
noncomputable section
def OG (_:Nat)(h:Nat)(s1:Q7):WM Bool:=
 Qr (gRow s1 h) λs=>
 Qr (gNet s1 s.net) λz=>
 eF (decide (z.parts>4096))
def Mc (_:Nat)(a0:Nat)(U:Nat)(l2:List Bool)(l3:List V)(a4:Int)(s5:Q7):WM (Nat×Q7):=
 kf λ(a5:Nat)=>
 qd s5 (λh=>PO.part ⟨l2,l3,(some U),a4,(MS.nil:MS Nat Bool),a5,none⟩) λh s1=>
 Qr (gPart s1 U) λz=>
 eS (∀y,y=h\/y∈z.kids.keys->s1 y≠none)<|
 gP (cq s1 U (PO.part ({z with kids:=MS.put z.kids h true}))) λs2=>
 Qr (gRow s2 a0) λa2=>
 Qr (gNet s2 a2.net) λs=>
 eS (-9223372036854775808<=s.parts+1/\s.parts+1<=9223372036854775807)<|
 gP (cq s2 a2.net (PO.net ({s with parts:=s.parts+1}))) λs3=>
 eF (h,s3)
def WO (_:Nat)(z:Nat)(U:Nat)(h:Q7):WM Q7:=
 Qr (iq h z) λs=>
 eS (∀y,y=U\/y∈s.parts.keys->h y≠none)<|
 gP (cq h z (PO.join ({s with parts:=MS.del s.parts U}))) λs1=>
 eF s1
def Wu (_:Nat)(z:Nat)(U:Nat)(h:Q7):WM Q7:=
 Qr (ir h z) λs=>
 eS (∀y,y=U\/y∈s.parts.keys->h y≠none)<|
 gP (cq h z (PO.nt ({s with parts:=MS.del s.parts U}))) λs1=>
 eF s1
def Wv (_:Nat)(z:Nat)(U:Nat)(h:Q7):WM Q7:=
 Qr (py h z) λs=>
 eS (∀y,y=U\/y∈s.parts.keys->h y≠none)<|
 gP (cq h z (PO.test ({s with parts:=MS.del s.parts U}))) λs1=>
 eF s1
def X0 (N:Nat)(rc:Nat->Nat->Q7->WM Q7)(a0:Nat)(U:Nat)(s2:Q7):WM Q7:=
 eG (rc a0 U s2) λs2=>
 Qr (gRow s2 a0) λaC=>
 Qr (gNet s2 aC.net) λa6=>
 eS (-9223372036854775808<=a6.parts-1/\a6.parts-1<=9223372036854775807)<|
 gP (cq s2 aC.net (PO.net ({a6 with parts:=a6.parts-1}))) λs3=>
 Qr (gPart s3 U) λaG=>
 Qr (aG.up) λaD=>
 Qr (gPart s3 aD) λa8=>
 eS (∀y,y=U\/y∈a8.kids.keys->s3 y≠none)<|
 gP (cq s3 aD (PO.part ({a8 with kids:=MS.del a8.kids U}))) λs4=>
 Qr (gRow s4 a0) λz=>
 eS (∀y,y=U\/y∈z.whole.keys->s4 y≠none)<|
 gP (cq s4 a0 (PO.row ({z with whole:=MS.del z.whole U}))) λs5=>
 j1 (λ(aE:(Nat×Q7)->WM Q7) ((s,h))=>
  ff ((decide (s<z.steps.length))) (
   jU (λa2=>(
    eS (s+1<=9223372036854775807)<|
    aE (s+1,a2)
  )) λa3=>
  Qr (gRow h a0) λa7=>
  eS (a7.stepsP=z.stepsP/\a7.steps.length=z.steps.length/\a7.stepsC=z.stepsC)<|
  Qr (a7.steps[s]?) λa9=>
  kE a9 (λa4=>
  eG (WO N a4 U h) λs9=>
  a3 s9
  ) (λa4=>
  eG (Wu N a4 U h) λaI=>
  a3 aI
  ) (λa4=>
  eG (Wv N a4 U h) λaJ=>
  a3 aJ
  )
  ) (
   eF h
  )
 ) N (0,s5)
def Q6k (N:Nat)(rc:Nat->Nat->Q7->WM Q7)(a0:Nat)(U:Nat)(s2:Q7):WM Q7:=
 Qr (gPart s2 U) λx9=>
 eG (JS x9.kids) λz=>
 j1 (λ(a2:(Nat×Q7)->WM Q7) ((h,s))=>
  ff ((decide (h<z.length))) (
   Qr (z[h]?) λa4=>
   eG (X0 N rc a0 a4 s) λs2=>
   eS (h+1<=9223372036854775807)<|
   a2 (h+1,s2)
  ) (
   eF s
  )
 ) N (0,s2)
def Lu:Nat->Nat->Nat->Q7->WM Q7
 |0=>λ_=>λ_=>λ_=>Ir
 |N+1=>Q6k N (Lu N)
def Qbh (N:Nat)(a0:Nat)(U:Nat)(s2:Q7):WM Q7:=
 eG (Lu N a0 U s2) λs2=>
 Qr (gRow s2 a0) λaC=>
 Qr (gNet s2 aC.net) λa6=>
 eS (-9223372036854775808<=a6.parts-1/\a6.parts-1<=9223372036854775807)<|
 gP (cq s2 aC.net (PO.net ({a6 with parts:=a6.parts-1}))) λs3=>
 Qr (gPart s3 U) λaG=>
 Qr (aG.up) λaD=>
 Qr (gPart s3 aD) λa8=>
 eS (∀y,y=U\/y∈a8.kids.keys->s3 y≠none)<|
 gP (cq s3 aD (PO.part ({a8 with kids:=MS.del a8.kids U}))) λs4=>
 Qr (gRow s4 a0) λz=>
 eS (∀y,y=U\/y∈z.whole.keys->s4 y≠none)<|
 gP (cq s4 a0 (PO.row ({z with whole:=MS.del z.whole U}))) λs5=>
 j1 (λ(aE:(Nat×Q7)->WM Q7) ((s,h))=>
  ff ((decide (s<z.steps.length))) (
   jU (λa2=>(
    eS (s+1<=9223372036854775807)<|
    aE (s+1,a2)
  )) λa3=>
  Qr (gRow h a0) λa7=>
  eS (a7.stepsP=z.stepsP/\a7.steps.length=z.steps.length/\a7.stepsC=z.stepsC)<|
  Qr (a7.steps[s]?) λa9=>
  kE a9 (λa4=>
  eG (WO N a4 U h) λs9=>
  a3 s9
  ) (λa4=>
  eG (Wu N a4 U h) λaI=>
  a3 aI
  ) (λa4=>
  eG (Wv N a4 U h) λaJ=>
  a3 aJ
  )
  ) (
   eF h
  )
 ) N (0,s5)
def Vc (N:Nat)(a0:Nat)(s1:Q7):WM (List Qq):=
 jU (λz=>(
  eF z
)) λa3=>
Qr (tX s1 a0) λU=>
eS (RF U.facts=true)<|
j1 (λ(a4:(Nat×(List Qq))->WM (List Qq)) ((s,h))=>
 ff ((decide (s<((QU U.facts).length)))) (
  jU (λa1=>(
   eS (s+1<=9223372036854775807)<|
   a4 (s+1,a1)
 )) λa2=>
 Qr ((QU U.facts)[s]?) λa7=>
 xV (MS.look U.facts a7) (
 eS (h.length+([(⟨0,0,[]⟩:Qq)]).length<=3518437208883)<|
 a2 (h++([(⟨0,0,[]⟩:Qq)]))
 ) (λa5=>
 eS (h.length+[a5].length<=3518437208883)<|
 a2 (h++[a5])
 )
 ) (
  a3 h
 )
) N (0,[])
def WZ (N:Nat)(rc:Nat->Int->Nat->Q7->WM Q7)(a0:Nat)(a1:Nat)(a2:Int)(a3:Int)(l4:List V)(U:Q7):WM Q7:=
 Qr (iq U a0) λh=>
 eG (OG N h.row U) λa9=>
 ff (a9) (
  eF U
 ) (
  Qr (gPart U a1) λa7=>
  Qr (Lt N h.cond.kind h.cond.type h.cond.args h.cond.test.kind h.cond.test.value.k h.cond.test.value.n h.cond.test.value.s h.cond.test.var h.cond.test.op h.cond.test.kids a2 a3 l4 a7.has a7.vals) λ(z,a4,a5)=>
  ff (a5) (
   eS (-9223372036854775808<=h.k+1/\h.k+1<=9223372036854775807)<|
   eG (Mc N h.row a1 z a4 a2 (del U a0)) λ(aA,s1)=>
   eG (rc h.row (h.k+1) aA s1) λs2=>
   gP (cq s2 a0 (PO.join h)) λs3=>
   iQ s2 a0<|
   eF s3
  ) (
   eF U
  )
 )
def Q4L (N:Nat)(rc:Nat->Int->Nat->Q7->WM Q7)(a0:Nat)(U:Nat)(s2:Q7):WM Q7:=
 Qr (iq s2 a0) λz=>
 eS (∀y,y=U\/y∈z.parts.keys->s2 y≠none)<|
 gP (cq s2 a0 (PO.join ({z with parts:=MS.put z.parts U true}))) λs2=>
 eG (Vc N z.alpha s2) λa4=>
 j1 (λ(a5:(Nat×Q7)->WM Q7) ((h,s))=>
  ff ((decide (h<a4.length))) (
   Qr (a4[h]?) λa2=>
   eG (WZ N rc a0 U a2.id a2.ty a2.args s) λs4=>
   eS (h+1<=9223372036854775807)<|
   a5 (h+1,s4)
  ) (
   eF s
  )
 ) N (0,s2)
def Rm (N:Nat)(rc:Nat->Int->Nat->Q7->WM Q7)(a0:Nat)(U:Nat)(s:Q7):WM Q7:=
 jU (λz=>(
  ff (z) (
   Qr (ir s a0) λh=>
   Qr (gPart s U) λa4=>
   eS (-9223372036854775808<=h.k+1/\h.k+1<=9223372036854775807)<|
   eG (Mc N h.row U a4.has a4.vals 0 (del s a0)) λ(a6,s1)=>
   eG (rc h.row (h.k+1) a6 s1) λs=>
   gP (cq s a0 (PO.nt h)) λs3=>
   iQ s a0<|
   eF s3
  ) (
   eF s
  )
)) λa2=>
Qr (gPart s U) λx7=>
Qr (x7.blocks) λa7=>
ff ((a7.2.es.length==0)) (
 Qr (ir s a0) λa8=>
 eG (OG N a8.row s) λa9=>
 a2 (!a9)
) (
 a2 false
)
def Q52 (N:Nat)(rc:Nat->Int->Nat->Q7->WM Q7)(a0:Nat)(U:Nat)(s2:Q7):WM Q7:=
 Qr (ir s2 a0) λaC=>
 eS (∀y,y=U\/y∈aC.parts.keys->s2 y≠none)<|
 gP (cq s2 a0 (PO.nt ({aC with parts:=MS.put aC.parts U true}))) λs1=>
 Qr (gPart s1 U) λaD=>
 kf λ(aL:Nat)=>
 gP (cq s1 U (PO.part ({aD with blocks:=some (aL,(MS.nil:MS Int Bool))}))) λs4=>
 jU (λa6=>(
  eG (Rm N rc a0 U a6) λs5=>
  eF s5
)) λaH=>
Qr (ir s4 a0) λaI=>
Qr (tX s4 aI.alpha) λaJ=>
j1 (λ(aA:(Nat×(MS Int _)×(List Int)×Q7)->WM Q7) ((a7,a8,a2,h))=>
 Qr (tX h aI.alpha) λa3=>
 eS (a3.facts=a8/\a3.factsA=a7)<|
 jo a3.facts a2 (
 aH h
 ) λa9=>(
 Qr (MS.look a3.facts a9) λaE=>
 Qr (ir h a0) λz=>
 Qr (gPart h U) λa4=>
 Qr (Lt N z.cond.kind z.cond.type z.cond.args z.cond.test.kind z.cond.test.value.k z.cond.test.value.n z.cond.test.value.s z.cond.test.var z.cond.test.op z.cond.test.kids aE.id aE.ty aE.args a4.has a4.vals) λ(_,_,aF)=>
 ff (aF) (
  Qr (a4.blocks) λa5=>
  gP (cq h U (PO.part ({a4 with blocks:=some (a5.1,MS.put a5.2 a9 true)}))) λs6=>
  aA (a3.factsA,a3.facts,a2++[a9],s6)
 ) (
  aA (a3.factsA,a3.facts,a2++[a9],h)
 )
 )
) N (aJ.factsA,aJ.facts,([]:List Int),s4)
def Q4M (N:Nat)(rc:Nat->Int->Nat->Q7->WM Q7)(a0:Nat)(U:Nat)(s2:Q7):WM Q7:=
 Qr (py s2 a0) λh=>
 Qr (gPart s2 U) λaB=>
 Qr (wG N h.cond.test.kind h.cond.test.value.k h.cond.test.value.n h.cond.test.value.s h.cond.test.var h.cond.test.op h.cond.test.kids aB.vals) λ(a6,a7,_,a8)=>
 jU (λa4=>(
  ff (a4) (
   Qr (py s2 a0) λa2=>
   Qr (gPart s2 U) λa5=>
   eS (-9223372036854775808<=a2.k+1/\a2.k+1<=9223372036854775807)<|
   eG (Mc N a2.row U a5.has a5.vals 0 (del s2 a0)) λ(aD,s1)=>
   eG (rc a2.row (a2.k+1) aD s1) λs2=>
   gP (cq s2 a0 (PO.test a2)) λs3=>
   iQ s2 a0<|
   eF s3
  ) (
   eF s2
  )
)) λz=>
ff ((a8==0)) (
 ff ((a6==1)) (
  ff ((a7 !=0)) (
   eG (OG N h.row s2) λaE=>
   z (!aE)
  ) (
   z false
  )
 ) (
  z false
 )
) (
 z false
)
def Q6U (N:Nat)(rc:Nat->Int->Nat->Q7->WM Q7)(a0:Nat)(U:Int)(a2:Nat)(z:Q7):WM Q7:=
 Qr (gRow z a0) λh=>
 ff ((U==(h.steps.length:Int))) (
  eS (∀y,y=a2\/y∈h.whole.keys->z y≠none)<|
  gP (cq z a0 (PO.row ({h with whole:=MS.put h.whole a2 true}))) λs1=>
  eF s1
 ) (
  eS (0<=U)<|
  Qr (h.steps[U.toNat]?) λa5=>
  kE a5 (λs=>
  eG (Q4L N rc s a2 z) λs2=>
  eF s2
  ) (λs=>
  eG (Q52 N rc s a2 z) λz=>
  eF z
  ) (λs=>
  eG (Q4M N rc s a2 z) λs4=>
  eF s4
  )
 )
def GS:Nat->Nat->Int->Nat->Q7->WM Q7
 |0=>λ_=>λ_=>λ_=>λ_=>Ir
 |N+1=>Q6U N (GS N)
def OD (_:Nat)(h:Nat)(s1:Q7):WM Bool:=
 Qr (gNet s1 h) λs=>
 eF (!Option.isNone s.rowsP)
def X6 (N:Nat)(h:Nat)(s1:Q7):WM Nat:=
 eG (OD N h s1) λs=>
 ff ((!s)) (
  eF 0
 ) (
  Qr (gNet s1 h) λz=>
  eF z.facts.es.length
 )
def Rq (_:Nat)(rc:(Option Nat)->Q7->WM (List Int))(a0:Option Nat)(s1:Q7):WM (List Int):=
 Qr (a0) λa5=>
 Qr (gPart s1 a5) λx7=>
 ff (x7.up.isNone) (
  eF []
 ) (
  Qr (a0) λa3=>
  Qr (gPart s1 a3) λa4=>
  eG (rc a4.up s1) λz=>
  jU (λh=>(
   eF h
 )) λs=>
 Qr (a0) λa6=>
 Qr (gPart s1 a6) λa7=>
 ff ((decide (a7.id>0))) (
  Qr (a0) λa8=>
  Qr (gPart s1 a8) λU=>
  eS (z.length+[U.id].length<=17592186044416)<|
  s (z++[U.id])
 ) (
  s z
 )
 )
def Rn:Nat->(Option Nat)->Q7->WM (List Int)
 |0=>λ_=>λ_=>Ir
 |N+1=>Rq N (Rn N)
def X9 (N:Nat)(a0:Nat)(s1:Q7):WM (List Int):=
 Qr (gPart s1 a0) λU=>
 ff (U.up.isNone) (
  eF []
 ) (
  eG (Rn N U.up s1) λz=>
  jU (λh=>(
   eF h
 )) λs=>
 ff ((decide (U.id>0))) (
  eS (z.length+[U.id].length<=17592186044416)<|
  s (z++[U.id])
 ) (
  s z
 )
 )
def WT (N:Nat)(a0:Nat)(s1:Q7):WM (List QB):=
 eG (OD N a0 s1) λv9=>
 ff ((!v9)) (
  eF []
 ) (
  jU (λa2=>(
   eF a2
 )) λa5=>
 Qr (gNet s1 a0) λa6=>
 j1 (λ(a7:(Nat×(List QB))->WM (List QB)) ((h,s))=>
  ff ((decide (h<a6.rows.length))) (
   Qr (a6.rows[h]?) λaD=>
   jU (λa3=>(
    Qr (pJ (λx_ y_=>OB N x_.rule x_.ids y_.rule y_.ids) a3) λa8=>
    eS (s.length+a8.length<=4398046511104)<|
    eS (h+1<=9223372036854775807)<|
    a7 (h+1,s++a8)
  )) λa9=>
  Qr (gRow s1 aD) λaA=>
  j1 (λ(aB:((List Nat)×(List QB))->WM (List QB)) ((U,z))=>
   jo aA.whole U (
   a9 z
   ) λa4=>(
   Qr (MS.look aA.whole a4) λ_=>
   eG (X9 N a4 s1) λaC=>
   eS (z.length+([(⟨((h:Int)),aC⟩:QB)]).length<=4398046511104)<|
   aB (U++[a4],(z++[(⟨((h:Int)),aC⟩:QB)]))
   )
  ) N (([]:List Nat),[])
  ) (
   a5 s
  )
 ) N (0,[])
 )
def Q6i (N:Nat)(a0:Nat)(a1:Int)(s2:Q7):WM Q7:=
 Qr (iq s2 a0) λa9=>
 j1 (λ(aA:(Nat×(MS Nat Bool)×(List Nat)×Q7)->WM Q7) ((a5,a6,a2,s))=>
  Qr (iq s a0) λa3=>
  eS (a3.parts=a6/\a3.partsA=a5)<|
  jo a3.parts a2 (
  eF s
  ) λU=>(
  Qr (MS.look a3.parts U) λ_=>
  Qr (gPart s U) λaG=>
  eG (JS aG.kids) λaB=>
  j1 (λ(aC:(Nat×Q7)->WM Q7) ((z,h))=>
   ff ((decide (z<aB.length))) (
    jU (λa4=>(
     eS (z+1<=9223372036854775807)<|
     aC (z+1,a4)
   )) λa7=>
   Qr (aB[z]?) λaD=>
   Qr (gPart h aD) λaH=>
   ff ((aH.id==a1)) (
    Qr (iq h a0) λaI=>
    eG (Qbh N aI.row aD h) λs2=>
    a7 s2
   ) (
    a7 h
   )
   ) (
    aA (a3.partsA,a3.parts,a2++[U],h)
   )
  ) N (0,s)
  )
 ) N (a9.partsA,a9.parts,([]:List Nat),s2)
def Q7B (_:Nat)(_:Nat)(_:Int)(_:Q7):WM Unit:=
 eF ()
def Q61 (_:Nat)(_:Nat)(_:Int)(_:Q7):WM Unit:=
 eF ()
def Vg (N:Nat)(a0:bu)(z:Int)(h:Q7):WM Q7:=
 kE a0 (λs=>
 eG (Q6i N s z h) λs1=>
 eF s1
 ) (λs=>
 eG (Q7B N s z h) λ_=>
 eF h
 ) (λs=>
 eG (Q61 N s z h) λ_=>
 eF h
 )
def Q7A (_:Nat)(_:Nat)(_:Int)(_:Q7):WM Unit:=
 eF ()
def Qbg (N:Nat)(a0:Nat)(U:Nat)(s:Q7):WM Q7:=
 jU (λz=>(
  ff (z) (
   Qr (ir s a0) λh=>
   Qr (gPart s U) λa4=>
   eS (-9223372036854775808<=h.k+1/\h.k+1<=9223372036854775807)<|
   eG (Mc N h.row U a4.has a4.vals 0 (del s a0)) λ(a6,s1)=>
   eG (GS N h.row (h.k+1) a6 s1) λs=>
   gP (cq s a0 (PO.nt h)) λs3=>
   iQ s a0<|
   eF s3
  ) (
   eF s
  )
)) λa2=>
Qr (gPart s U) λx7=>
Qr (x7.blocks) λa7=>
ff ((a7.2.es.length==0)) (
 Qr (ir s a0) λa8=>
 eG (OG N a8.row s) λa9=>
 a2 (!a9)
) (
 a2 false
)
def Q6T (N:Nat)(a0:Nat)(U:Int)(s2:Q7):WM Q7:=
 Qr (ir s2 a0) λx9=>
 j1 (λ(a3:((List Nat)×Q7)->WM Q7) ((s,h))=>
  jo x9.parts s (
  eF h
  ) λgK=>(
  Qr (MS.look x9.parts gK) λ_=>
  jU (λa2=>(
   ff (a2) (
    Qr (gPart h gK) λa5=>
    Qr (a5.blocks) λz=>
    gP (cq h gK (PO.part ({a5 with blocks:=some (z.1,MS.del z.2 U)}))) λs1=>
    eG (Qbg N a0 gK s1) λs2=>
    a3 (s++[gK],s2)
   ) (
    a3 (s++[gK],h)
   )
 )) λa4=>
 Qr (gPart h gK) λa8=>
 Qr (a8.blocks) λa6=>
 xV (MS.look a6.2 U) (
 a4 false
 ) (λa9=>
 a4 a9
 )
  )
 ) N (([]:List Nat),s2)
def Q60 (_:Nat)(_:Nat)(_:Int)(_:Q7):WM Unit:=
 eF ()
def Vh (N:Nat)(a0:bu)(z:Int)(h:Q7):WM Q7:=
 kE a0 (λs=>
 eG (Q7A N s z h) λ_=>
 eF h
 ) (λs=>
 eG (Q6T N s z h) λs1=>
 eF s1
 ) (λs=>
 eG (Q60 N s z h) λ_=>
 eF h
 )
def Vp (N:Nat)(a0:Nat)(U:Int)(s2:Q7):WM Q7:=
 Qr (gNet s2 a0) λs=>
 gP (cq s2 a0 (PO.net ({s with facts:=MS.del s.facts U}))) λs3=>
 jU (λa2=>(
  eG (E4 (λlH lG=>Vg N lH U lG) a0 a2) λs5=>
  eG (E4 (λlH lG=>Vh N lH U lG) a0 s5) λs6=>
  eF s6
)) λa9=>
gP (cq s3 a0 (PO.net ({({s with facts:=MS.del s.facts U}:fk)with rows:=({s with facts:=MS.del s.facts U}:fk).rows}))) λs7=>
j1 (λ(aA:(Nat×(MS ByteArray Nat)×(List ByteArray)×Q7)->WM Q7) ((a4,a5,z,h))=>
 Qr (gNet h a0) λa3=>
 eS (a3.alphas=a5/\a3.alphasA=a4)<|
 jo a3.alphas z (
 a9 h
 ) λaB=>(
 Qr (MS.look a3.alphas aB) λaC=>
 Qr (tX h aC) λa7=>
 gP (cq h aC (PO.alpha ({a7 with facts:=MS.del a7.facts U}))) λs8=>
 aA (a3.alphasA,a3.alphas,z++[aB],s8)
 )
) N ((({s with facts:=MS.del s.facts U}:fk).alphasA),(({s with facts:=MS.del s.facts U}:fk).alphas),([]:List ByteArray),s7)
def Md (N:Nat)(a0:Nat)(_:Int)(a2:Int)(l3:List V)(s4:Q7):WM Bool:=
 Qr (tX s4 a0) λa3=>
 ff ((a2 !=a3.kind)) (
  eF false
 ) (
  jU (λ_=>(
   eF true
 )) λa4=>
 j1 (λ(a5:Nat->WM Bool) (h:Nat)=>
  ff ((decide (h<a3.args.length))) (
   Qr (a3.args[h]?) λU=>
   jU (λs=>(
    ff (s) (
     eF false
    ) (
     eS (h+1<=9223372036854775807)<|
     a5 (h+1)
    )
  )) λz=>
  ff ((U.k==4)) (
   Qr (l3[h]?) λa7=>
   z (!decide (U.v=a7))
  ) (
   z false
  )
  ) (
   a4 ()
  )
 ) N 0
 )
def Q73 (_:Nat)(_:Nat)(_:Int)(_:Int)(_:List V)(_:Q7):WM Unit:=
 eF ()
def Q6j (N:Nat)(a0:Nat)(a1:Int)(a2:Int)(l3:List V)(s4:Q7):WM Q7:=
 Qr (ir s4 a0) λaA=>
 eG (Md N aA.alpha a1 a2 l3 s4) λaF=>
 ff ((!aF)) (
  eF s4
 ) (
  j1 (λ(a9:(Nat×(MS Nat Bool)×(List Nat)×Q7)->WM Q7) ((a7,a8,a3,z))=>
   Qr (ir z a0) λh=>
   eS (h.parts=a8/\h.partsA=a7)<|
   jo h.parts a3 (
   eF z
   ) λU=>(
   Qr (MS.look h.parts U) λ_=>
   Qr (gPart z U) λa4=>
   Qr (Lt N h.cond.kind h.cond.type h.cond.args h.cond.test.kind h.cond.test.value.k h.cond.test.value.n h.cond.test.value.s h.cond.test.var h.cond.test.op h.cond.test.kids a1 a2 l3 a4.has a4.vals) λ(_,_,aB)=>
   ff (aB) (
    Qr (a4.blocks) λa5=>
    gP (cq z U (PO.part ({a4 with blocks:=some (a5.1,MS.put a5.2 a1 true)}))) λs1=>
    Qr (ir s1 a0) λaI=>
    eG (Lu N aI.row U s1) λs2=>
    a9 (h.partsA,h.parts,a3++[U],s2)
   ) (
    a9 (h.partsA,h.parts,a3++[U],z)
   )
   )
  ) N (aA.partsA,aA.parts,([]:List Nat),s4)
 )
def Q5H (_:Nat)(_:Nat)(_:Int)(_:Int)(_:List V)(_:Q7):WM Unit:=
 eF ()
def Ve (N:Nat)(a0:bu)(z:Int)(a2:Int)(U:List V)(h:Q7):WM Q7:=
 kE a0 (λs=>
 eG (Q73 N s z a2 U h) λ_=>
 eF h
 ) (λs=>
 eG (Q6j N s z a2 U h) λs1=>
 eF s1
 ) (λs=>
 eG (Q5H N s z a2 U h) λ_=>
 eF h
 )
def Qbf (N:Nat)(a0:Nat)(a1:Nat)(a2:Int)(a3:Int)(l4:List V)(U:Q7):WM Q7:=
 Qr (iq U a0) λh=>
 eG (OG N h.row U) λa9=>
 ff (a9) (
  eF U
 ) (
  Qr (gPart U a1) λa7=>
  Qr (Lt N h.cond.kind h.cond.type h.cond.args h.cond.test.kind h.cond.test.value.k h.cond.test.value.n h.cond.test.value.s h.cond.test.var h.cond.test.op h.cond.test.kids a2 a3 l4 a7.has a7.vals) λ(z,a4,a5)=>
  ff (a5) (
   eS (-9223372036854775808<=h.k+1/\h.k+1<=9223372036854775807)<|
   eG (Mc N h.row a1 z a4 a2 (del U a0)) λ(aA,s1)=>
   eG (GS N h.row (h.k+1) aA s1) λs2=>
   gP (cq s2 a0 (PO.join h)) λs3=>
   iQ s2 a0<|
   eF s3
  ) (
   eF U
  )
 )
def Q6h (N:Nat)(a0:Nat)(a1:Int)(a2:Int)(l3:List V)(U:Q7):WM Q7:=
 Qr (iq U a0) λz=>
 eG (Md N z.alpha a1 a2 l3 U) λa6=>
 ff ((!a6)) (
  eF U
 ) (
  j1 (λ(a4:((List Nat)×Q7)->WM Q7) ((h,s))=>
   jo z.parts h (
   eF s
   ) λa3=>(
   Qr (MS.look z.parts a3) λ_=>
   eG (Qbf N a0 a3 a1 a2 l3 s) λs1=>
   a4 (h++[a3],s1)
   )
  ) N (([]:List Nat),U)
 )
def Q7z (_:Nat)(_:Nat)(_:Int)(_:Int)(_:List V)(_:Q7):WM Unit:=
 eF ()
def Q5Z (_:Nat)(_:Nat)(_:Int)(_:Int)(_:List V)(_:Q7):WM Unit:=
 eF ()
def Vf (N:Nat)(a0:bu)(z:Int)(a2:Int)(U:List V)(h:Q7):WM Q7:=
 kE a0 (λs=>
 eG (Q6h N s z a2 U h) λs1=>
 eF s1
 ) (λs=>
 eG (Q7z N s z a2 U h) λ_=>
 eF h
 ) (λs=>
 eG (Q5Z N s z a2 U h) λ_=>
 eF h
 )
def Rt (N:Nat)(a0:Nat)(U:Int)(a2:Int)(l3:List V)(s4:Q7):WM Q7:=
 Qr (gNet s4 a0) λz=>
 gP (cq s4 a0 (PO.net ({z with facts:=MS.put z.facts U (⟨U,a2,l3⟩:Qq)}))) λs3=>
 jU (λa5=>(
  eG (E4 (λlH lG=>Ve N lH U a2 l3 lG) a0 a5) λs5=>
  eG (E4 (λlH lG=>Vf N lH U a2 l3 lG) a0 s5) λs6=>
  eF s6
)) λaF=>
gP (cq s3 a0 (PO.net ({({z with facts:=MS.put z.facts U (⟨U,a2,l3⟩:Qq)}:fk)with rows:=({z with facts:=MS.put z.facts U (⟨U,a2,l3⟩:Qq)}:fk).rows}))) λs7=>
j1 (λ(aA:(Nat×(MS ByteArray Nat)×(List ByteArray)×Q7)->WM Q7) ((a6,a7,s,h))=>
 Qr (gNet h a0) λa3=>
 eS (a3.alphas=a7/\a3.alphasA=a6)<|
 jo a3.alphas s (
 aF h
 ) λaC=>(
 Qr (MS.look a3.alphas aC) λaD=>
 eG (Md N aD U a2 l3 h) λaG=>
 ff (aG) (
  Qr (tX h aD) λaB=>
  gP (cq h aD (PO.alpha ({aB with facts:=MS.put aB.facts U (⟨U,a2,l3⟩:Qq)}))) λs8=>
  aA (a3.alphasA,a3.alphas,s++[aC],s8)
 ) (
  aA (a3.alphasA,a3.alphas,s++[aC],h)
 )
 )
) N ((({z with facts:=MS.put z.facts U (⟨U,a2,l3⟩:Qq)}:fk).alphasA),(({z with facts:=MS.put z.facts U (⟨U,a2,l3⟩:Qq)}:fk).alphas),([]:List ByteArray),s7)
def X8 (N:Nat)(a0:Nat)(a1:Int)(s2:Q7):WM (Nat×Q7):=
 eG (OD N a0 s2) λv8=>
 ff ((!v8)) (
  eF (1,s2)
 ) (
  jU (λ(s,z,h,a3)=>(
   ff ((!a3)) (
    eF (6,s2)
   ) (
    eG (Vp N a0 a1 s2) λU=>
    Qr (gNet U a0) λa8=>
    ff ((decide (a8.parts>4096))) (
     eG (Rt N a0 s z h U) λs8=>
     eF (204,s8)
    ) (
     eF (0,U)
    )
   )
 )) λa2=>
 Qr (gNet s2 a0) λa9=>
 xV (MS.look a9.facts a1) (
 a2 (0,0,[],false)
 ) (λa4=>
 a2 (a4.id,a4.ty,a4.args,true)
 )
 )
def X5 (N:Nat)(a0:Nat)(a1:Int)(a2:Int)(l3:List V)(U:Q7):WM (Nat×Q7):=
 eG (OD N a0 U) λv8=>
 ff ((!v8)) (
  eF (1,U)
 ) (
  jU (λs=>(
   ff (s) (
    eF (2,U)
   ) (
    jU (λa5=>(
     ff (a5) (
      eF (7,U)
     ) (
      eS (l3.length<=4398046511104)<|
      eG (Rt N a0 a1 a2 l3 U) λs6=>
      Qr (gNet s6 a0) λaC=>
      ff ((decide (aC.parts>4096))) (
       eG (Vp N a0 a1 s6) λs8=>
       eF (204,s8)
      ) (
       eF (0,s6)
      )
     )
   )) λz=>
   Qr (gNet U a0) λa9=>
   xV (MS.look a9.facts a1) (
   z false
   ) (λ_=>
   z true
   )
   )
 )) λh=>
 Qr (gNet U a0) λa3=>
 ff ((decide (a1<1))) (
  h true
 ) (
  ff ((decide (a1>1099511627776))) (
   h true
  ) (
   ff ((decide (a2<0))) (
    h true
   ) (
    ff ((decide (a2>=(a3.types.length:Int)))) (
     h true
    ) (
     eS (0<=a2)<|
     Qr (a3.types[a2.toNat]?) λaD=>
     ff (((l3.length:Int) !=aD.fields)) (
      h true
     ) (
      Qr (UZ N l3) λaE=>
      h aE
     )
    )
   )
  )
 )
 )
def OC (N:Nat)(a0:Nat)(_:Int)(a2:Int)(l3:List fl)(_:Int)(_:Int)(_:Int)(_:ByteArray)(_:Int)(_:Int)(_:List Q4)(aZ:Q7):WM ((Option Nat)×Q7):=
 kf λ(b0:Nat)=>
 qd aZ (λaJ=>PO.alpha ⟨a2,[],none,0,(MS.nil:MS Int Qq),b0⟩) λaJ s1=>
 jU (λh=>(
  Qr (tX h aJ) λaK=>
  eS (-9223372036854775808<=aK.kind/\aK.kind<=9223372036854775807)<|
  jU (λaH=>(
   jU (λz=>(
    Qr (gNet z a0) λb1=>
    xV (MS.look b1.alphas aH) (
    eF (none,z)
    ) (λb2=>
    eF (some b2,z)
    )
  )) λaO=>
  jU (λaN=>(
   ff (aN) (
    Qr (gNet h a0) λaT=>
    gP (cq h a0 (PO.net ({aT with alphas:=MS.put aT.alphas aH aJ}))) λs3=>
    aO s3
   ) (
    aO h
   )
 )) λaP=>
 Qr (gNet h a0) λb3=>
 xV (MS.look b3.alphas aH) (
 aP true
 ) (λ_=>
 aP false
 )
 )) λaU=>
 j1 (λ(aV:(Nat×ByteArray)->WM ((Option Nat)×Q7)) ((aF,aL))=>
  ff ((decide (aF<aK.args.length))) (
   Qr (aK.args[aF]?) λaR=>
   Qr (Xg N aR.v.k aR.v.n aR.v.s) λaS=>
   eS ((⟨#[44]⟩:ByteArray).size+aS.size<=9223372036854775807)<|
   eS (aL.size+((⟨#[44]⟩:ByteArray)++aS).size<=9223372036854775807)<|
   eS (aF+1<=9223372036854775807)<|
   aV (aF+1,(aL++((⟨#[44]⟩:ByteArray)++aS)))
  ) (
   aU aL
  )
 ) N (0,ui aK.kind)
)) λaW=>
j1 (λ(aX:(Nat×Q7)->WM ((Option Nat)×Q7)) ((aG,a3))=>
 ff ((decide (aG<l3.length))) (
  Qr (l3[aG]?) λU=>
  jU (λ(aA,aB,aC,aD,aE)=>(
   Qr (tX a3 aJ) λaM=>
   eS (aM.args.length+([(⟨aA,aB,(⟨aC,aD,aE⟩:V)⟩:fl)]).length<=2932031007402)<|
   eS (aG+1<=9223372036854775807)<|
   kf λ(b4:Option Addr)=>
   kf λ(b5:Nat)=>
   gP (cq a3 aJ (PO.alpha ({aM with args:=aM.args++([(⟨aA,aB,(⟨aC,aD,aE⟩:V)⟩:fl)]),argsP:=b4,argsC:=b5}))) λs4=>
   aX (aG+1,s4)
 )) λaQ=>
 ff ((U.k !=4)) (
  aQ (1,0,0,0,(⟨#[]⟩:ByteArray))
 ) (
  aQ (U.k,U.var,U.v.k,U.v.n,U.v.s)
 )
 ) (
  aW a3
 )
) N (0,s1)
def Vy (N:Nat)(l0:List Q9)(l1:List Qb)(s2:Q7):WM ((Option Nat)×Q7):=
 Qr (OH N l0 l1) λb7=>
 ff ((!b7)) (
  eF (none,s2)
 ) (
  eS (l0.length<=5864062014805)<|
  kf λ(b8:Nat)=>
  kf λ(b9:Nat)=>
  kf λ(bA:Nat)=>
  qd s2 (λa5=>PO.net ⟨l0,[],(some (⟨b8,0,none⟩:Addr)),0,(MS.nil:MS ByteArray Nat),b9,(MS.nil:MS Int Qq),bA,0⟩) λa5 s2=>
  jU (λa9=>(
   eF (some a5,a9)
 )) λaQ=>
 j1 (λ(aR:(Nat×Q7)->WM ((Option Nat)×Q7)) ((a3,a4))=>
  ff ((decide (a3<l1.length))) (
   Qr (l1[a3]?) λaL=>
   kf λ(bB:Nat)=>
   qd a4 (λa0=>PO.row ⟨a5,[],none,0,(MS.nil:MS Nat Bool),bB⟩) λa0 bC=>
   jU (λa2=>(
    Qr (gNet a2 a5) λaB=>
    eS (aB.rows.length+[a0].length<=17592186044416)<|
    Qr (OK N aL.vars) λ(aE,aF)=>
    kf λ(aG:Option Addr)=>
    kf λ(aS:Nat)=>
    S3 (aG.isSome=true)<|
    gP (cq a2 a5 (PO.net ({aB with rows:=aB.rows++[a0],rowsP:=aG,rowsC:=aS}))) λaT=>
    kf λ(aU:Nat)=>
    qd aT (λaH=>PO.part ⟨aE,aF,none,0,(MS.nil:MS Nat Bool),aU,none⟩) λaH aV=>
    eG (GS N a0 0 aH aV) λaW=>
    eS (a3+1<=9223372036854775807)<|
    aR (a3+1,aW)
  )) λaX=>
  j1 (λ(aY:(Nat×Q7)->WM ((Option Nat)×Q7)) ((U,z))=>
   ff ((decide (U<aL.conds.length))) (
    jU (λaA=>(
     eS (U+1<=9223372036854775807)<|
     aY (U+1,aA)
   )) λaC=>
   Qr (aL.conds[U]?) λh=>
   Qr (Vt N h.kind h.type h.args h.test.kind h.test.value.k h.test.value.n h.test.value.s h.test.var h.test.op h.test.kids) λaM=>
   ff ((h.kind==1)) (
    Qr (gRow z a0) λa6=>
    eG (OC N a5 h.kind h.type h.args h.test.kind h.test.value.k h.test.value.n h.test.value.s h.test.var h.test.op h.test.kids (del z a0)) λ(bD,aZ)=>
    Qr (bD) λbF=>
    kf λ(aD:Nat)=>
    qd aZ (λaN=>PO.join ⟨bF,a0,(U:Int),(⟨h.kind,h.type,h.args,(⟨h.test.kind,h.test.value,h.test.var,h.test.op,aM⟩:Q4)⟩:Qv),(MS.nil:MS Nat Bool),aD⟩) λaN aI=>
    eS (a6.steps.length+([(.join aN:bu)]).length<=8796093022208)<|
    kf λ(bG:Option Addr)=>
    kf λ(bH:Nat)=>
    gP (cq aI a0 (PO.row ({a6 with steps:=a6.steps++([(.join aN:bu)]),stepsP:=bG,stepsC:=bH}))) λb0=>
    iQ aI a0<|
    aC b0
   ) (
    ff ((h.kind==2)) (
     Qr (gRow z a0) λa7=>
     eG (OC N a5 h.kind h.type h.args h.test.kind h.test.value.k h.test.value.n h.test.value.s h.test.var h.test.op h.test.kids (del z a0)) λ(bI,b1)=>
     Qr (bI) λbK=>
     kf λ(aD:Nat)=>
     qd b1 (λaO=>PO.nt ⟨bK,a0,(U:Int),(⟨h.kind,h.type,h.args,(⟨h.test.kind,h.test.value,h.test.var,h.test.op,aM⟩:Q4)⟩:Qv),(MS.nil:MS Nat Bool),aD⟩) λaO aJ=>
     eS (a7.steps.length+([(.nt aO:bu)]).length<=8796093022208)<|
     kf λ(bL:Option Addr)=>
     kf λ(bM:Nat)=>
     gP (cq aJ a0 (PO.row ({a7 with steps:=a7.steps++([(.nt aO:bu)]),stepsP:=bL,stepsC:=bM}))) λb2=>
     iQ aJ a0<|
     aC b2
    ) (
     Qr (gRow z a0) λa8=>
     kf λ(aD:Nat)=>
     qd (del z a0) (λaP=>PO.test ⟨a0,(U:Int),(⟨h.kind,h.type,h.args,(⟨h.test.kind,h.test.value,h.test.var,h.test.op,aM⟩:Q4)⟩:Qv),(MS.nil:MS Nat Bool),aD⟩) λaP aK=>
     eS (a8.steps.length+([(.test aP:bu)]).length<=8796093022208)<|
     kf λ(bN:Option Addr)=>
     kf λ(bO:Nat)=>
     gP (cq aK a0 (PO.row ({a8 with steps:=a8.steps++([(.test aP:bu)]),stepsP:=bN,stepsC:=bO}))) λb3=>
     iQ aK a0<|
     aC b3
    )
   )
   ) (
    aX z
   )
  ) N (0,bC)
  ) (
   aQ a4
  )
 ) N (0,s2)
 )
end
end
section
open Go Go.RowKit
section
variable {A R S:Type} {Q:R->Prop}
theorem Qh {o:Option A} {k:A->WM R} {a:A} (h:o=some a)(hk:k a Q):Qr o k Q:=⟨a,h,hk⟩
theorem fR {c:Prop} {k:WM R} (h:c)(hk:k Q):eS c k Q:=⟨h,hk⟩
theorem lR {x:A} {k:A->WM R} (hk:k x Q):gP x k Q:=λ_ e=>e▸hk
theorem ud {k:A->WM R} (hk:∀a,k a Q):kf k Q:=hk
theorem S5 {c:Prop} {k:WM R} (h:c->k Q):S3 c k Q:=h
theorem QR {m:WM A} {k:A->WM R} (h:m (λa=>k a Q)):eG m k Q:=h
theorem jj {b:Bool} {x y:WM R} (h:b=true)(U:x Q):ff b x y Q:=⟨λ_=>U,λe=>by rw[h]at e;cases e⟩
theorem z6 {b:Bool} {x y:WM R} (h:b=false)(hy:y Q):ff b x y Q:=⟨λe=>(by rw[h]at e;cases e),λ_=>hy⟩
theorem ig {b:Bool} {x y:WM R} (U:b=true->x Q)(hy:b=false->y Q):ff b x y Q:=⟨U,hy⟩
theorem xW {o:Option A} {x:WM R} {k:A->WM R} (U:o=none->x Q)(hk:∀a,o=some a->k a Q):xV o x k Q:=⟨U,hk⟩
theorem Dm {o:Option A} {x:WM R} {k:A->WM R} {a:A} (h:o=some a)(hk:k a Q):xV o x k Q:=⟨λe=>(by rw[h]at e;cases e),λb e=>by rw[h]at e;cases e;exact hk⟩
theorem jm {O:Type} {s:Nat->Option O} {o:Nat->O} {k:Nat->(Nat->Option O)->WM R} (h:∀a,s a=none->k a (cq s a (o a)) Q):qd s o k Q:=λa U _ e=>e▸h a U
theorem jB {O:Type} {s:Nat->Option O} {a:Nat} {k:WM R} (h:s a=none->k Q):iQ s a k Q:=h
theorem OY {κ α:Type} [DecidableEq κ] {m:MS κ α} {done:List κ} {x:WM R} {k:κ->WM R} (U:(∀y∈m.keys,y∈done)->x Q)(hk:∀y,y∈m.keys->y∉done->k y Q):jo m done x k Q:=⟨U,hk⟩
end
theorem jG {R:Type} {Q:R->Prop} {a:Nat} {f g h:Nat->WM R} (hk:f a Q):kE (.join a) f g h Q:=⟨λb e=>(by cases e;exact hk),λb e=>(by cases e),λb e=>(by cases e)⟩
theorem jH {R:Type} {Q:R->Prop} {a:Nat} {f g h:Nat->WM R} (hk:g a Q):kE (.nt a) f g h Q:=⟨λb e=>(by cases e),λb e=>(by cases e;exact hk),λb e=>(by cases e)⟩
theorem jI {R:Type} {Q:R->Prop} {a:Nat} {f g h:Nat->WM R} (hk:h a Q):kE (.test a) f g h Q:=⟨λb e=>(by cases e),λb e=>(by cases e),λb e=>(by cases e;exact hk)⟩
section maps
variable {κ α:Type} [DecidableEq κ]
theorem vx {x:κ} {v:α×Nat} {y:κ}:∀{l:List (κ×α×Nat)},y∈(jl x v l).map (·.1)↔y=x\/y∈l.map (·.1)
 |[]=>by simp[jl]
 | z ::l=>by
   unfold jl;split
   ·rename_i h;simp only[List.map_cons,List.mem_cons];rw[h];constructor
    ·rintro(h1|h1);· exact .inl h1
     · exact .inr (.inr h1)
    ·rintro(h1|h1|h1);· exact .inl h1
     · exact .inl h1
     · exact .inr h1
   ·simp only[List.map_cons,List.mem_cons,vx (l:=l)];constructor
    ·rintro(h1|h1|h1);· exact .inr (.inl h1)
     · exact .inl h1
     · exact .inr (.inr h1)
    ·rintro(h1|h1|h1);· exact .inr (.inl h1)
     · exact .inl h1
     · exact .inr (.inr h1)
theorem MS.keys_put {m:MS κ α} {x y:κ} {a:α}:y∈(m.put x a).keys↔y=x\/y∈m.keys:=by
 unfold MS.put MS.keys;cases h:fW x m.es with
 |some v=>exact vx
 |none=>simp only[List.map_append,List.map_cons,List.map_nil,List.mem_append,List.mem_singleton,or_comm]
theorem MS.keys_del {m:MS κ α} {x y:κ}:y∈(m.del x).keys↔y≠x/\y∈m.keys:=by
 unfold MS.del MS.keys;simp only[List.mem_map,List.mem_filter,Bool.not_eq_true',decide_eq_false_iff_not];constructor;· rintro⟨z,⟨h1,U⟩,rfl⟩;exact⟨U,z,h1,rfl⟩
 · rintro⟨U,z,h1,rfl⟩;exact⟨z,⟨h1,U⟩,rfl⟩
theorem MS.keys_nil {κ α:Type} {y:κ}:¬y∈(MS.nil:MS κ α).keys:=by simp[MS.nil,MS.keys]
theorem MS.del_none {m:MS κ α} {x:κ} (h:x∉m.keys):m.del x=m:=by
 unfold MS.del;have:m.es.filter (λy=>!decide (y.1=x))=m.es:=filter_none h;rw[this]
theorem sT {x y:κ} {v:α×Nat}:∀{l:List (κ×α×Nat)},fW y (jl x v l)=if y=x then some v else fW y l
 | []=>by
   simp only[jl,fW];by_cases h:y=x;· subst h;simp
   · rw[if_neg h,if_neg (λe=>h e.symm)]
 | z::l=>by
   unfold jl;by_cases h:z.1=x
   ·rw[if_pos h];simp only[fW];by_cases U:y=x;· subst U;simp
    · rw[if_neg U,if_neg (λe=>U e.symm),if_neg (λe=>U (by rw[<-h,e]))]
   ·rw[if_neg h];simp only[fW,sT (l:=l)];by_cases U:z.1=y;· rw[if_pos U,if_pos U,if_neg (λe=>h (by rw[U,e]))]
    · rw[if_neg U,if_neg U]
theorem vE {x y:κ} {v:α×Nat}:∀{l:List (κ×α×Nat)},fW x l=none->fW y (l++[(x,v)])=if y=x then some v else fW y l
 | [],_=>by
   simp only[List.nil_append,fW];by_cases h:y=x;· subst h;simp
   · rw[if_neg h,if_neg (λe=>h e.symm)]
 | z::l,h=>by
   unfold fW at h;split at h;· cases h
   ·rename_i hz;simp only[List.cons_append,fW,vE (y:=y) h];by_cases U:z.1=y;· rw[if_pos U,if_pos U,if_neg (λe=>hz (by rw[U,e]))]
    · rw[if_neg U,if_neg U]
theorem MS.look_put {m:MS κ α} {x y:κ} {a:α}:(m.put x a).look y=if y=x then some a else m.look y:=by
 unfold MS.put MS.look;cases h:fW x m.es with
 | some v=>
   simp only[sT];by_cases h2:y=x<;>simp[h2]
 | none=>
   simp only[vE h];by_cases h2:y=x<;>simp[h2]
theorem QaF {x y:κ}:∀{l:List (κ×α×Nat)},fW y (l.filter λz=> !decide (z.1=x))=if y=x then none else fW y l
 |[]=>by simp[fW]
 | z::l=>by
   by_cases h:z.1=x
   ·rw[List.filter_cons_of_neg (by simp[h]),QaF (l:=l)];by_cases U:y=x;· rw[if_pos U,if_pos U]
    ·rw[if_neg U,if_neg U];simp only[fW];rw[if_neg (λe=>U (by rw[<-e,h]))]
   ·rw[List.filter_cons_of_pos (by simp[h])];simp only[fW,QaF (l:=l)];by_cases U:z.1=y;· rw[if_pos U,if_pos U,if_neg (λe=>h (by rw[U,e]))]
    · rw[if_neg U,if_neg U]
theorem MS.look_del {m:MS κ α} {x y:κ}:(m.del x).look y=if y=x then none else m.look y:=by
 unfold MS.del MS.look;simp only[QaF];by_cases h2:y=x<;>simp[h2]
theorem MS.look_iff {m:MS κ α} {x:κ}:x∈m.keys↔∃a,m.look x=some a:=by
 unfold MS.keys MS.look
 have key:∀l:List (κ×α×Nat),x∈l.map (·.1)↔∃v,fW x l=some v:=by
  intro l;induction l with
  |nil=>simp[fW]
  | cons z l U=>
    simp only[List.map_cons,List.mem_cons,fW];by_cases h:z.1=x;· simp[h]
    ·rw [if_neg h,<-U];constructor
     ·rintro(h1|h1);· exact absurd h1.symm h
      · exact h1
     · exact .inr
 rw[key];constructor;· rintro⟨v,h⟩;exact⟨v.1,by simp[h]⟩
 ·rintro⟨a,h⟩;cases hv:fW x m.es with
  |none=>simp[hv]at h
  |some v=>exact⟨v,rfl⟩
theorem MS.keys_put_eq {m:MS κ α} {x:κ} {a:α}:(m.put x a).keys=if x∈m.keys then m.keys else m.keys++[x]:=by
 unfold MS.put
 have hm:x∈m.keys↔∃v,fW x m.es=some v:=by
   rw[MS.look_iff];unfold MS.look;constructor
   ·rintro⟨a,h⟩;cases U:fW x m.es with
    |none=>simp[U]at h
    |some v=>exact⟨v,rfl⟩
   · rintro⟨v,h⟩;exact⟨v.1,by simp[h]⟩
 cases h:fW x m.es with
 | some v=>
   rw[if_pos (hm.2 ⟨v,h⟩)];unfold MS.keys
   have key:∀l:List (κ×α×Nat),(∃v,fW x l=some v)->(jl x (a,v.2) l).map (·.1)=l.map (·.1):=by
    intro l;induction l with
    |nil=>rintro⟨v,h⟩;cases h
    | cons z l ih=>
      rintro⟨w,h⟩;unfold fW at h;unfold jl;split;· rename_i hz;simp[hz]
      ·rename_i hz;rw[if_neg hz]at h;simp[ih ⟨w,h⟩]
   exact key _ ⟨v,h⟩
 | none=>
   rw[if_neg (λhh=>by obtain⟨v,U⟩:=hm.1 hh;rw[h]at U;cases U)];simp[MS.keys]
theorem MS.nodup_put {m:MS κ α} {x:κ} {a:α} (h:m.keys.Nodup):(m.put x a).keys.Nodup:=by
 rw[MS.keys_put_eq];split;· exact h
 ·rename_i hx;exact List.nodup_append.2 ⟨h,ax,λy hy z U e=>hx (by simp at U;rw[<-U,<-e];exact hy)⟩
theorem MS.nodup_del {m:MS κ α} {x:κ} (h:m.keys.Nodup):(m.del x).keys.Nodup:=by
 unfold MS.del MS.keys at*;exact List.Nodup.sublist (List.Sublist.map _ List.filter_sublist) h
theorem GV:∀{ks l:List κ},ks.Nodup->(∀z∈ks,z∈l)->ks.length<=l.length
 |[],l,_,_=>Nat.zero_le _
 | k::ks,l,h,hs=>by
   have h1:=List.nodup_cons.1 h;have hk:k∈l:=hs k ax;have:=GV (l:=l.erase k) h1.2 λz U=>(List.mem_erase_of_ne (λe=>h1.1 (by rw[<-e];exact U))).2 (hs z (by simp[U]));rw[List.length_erase_of_mem hk]at this;have:=List.length_pos_of_mem hk;simp only[List.length_cons];omega
end maps
end
section
open Go Go.RowKit
structure fe where
 mt:Qv->List Bool->List V->Qq->Option (List Bool×List V)
 ev:Qv->List V->Bool
structure eL where
 st:bu
 al:Nat
 c:Qv
structure eO where
 b:Nat
 steps:List eL
 sP:Option Addr
 sC:Nat
 root:Nat
 hs:List Bool
 vs:List V
structure Hz where
 b:Nat
 kind:Int
 args:List fl
structure fz where
 g:Nat
 types:List Q9
 rows:List eO
 rP:Option Addr
 rC:Nat
 alphas:MS ByteArray Nat
 alphasA:Nat
 als:List Hz
abbrev bz:=Int->Option Qq
abbrev ep:=List Bool×List V
abbrev Loc:=Nat->Option (Nat×List Int)
def fU (S:fe)(T:bz)(sc:eL)(e:ep)(i:Int):Option ep:=match sc.st with
 | .join _=>(T i).bind λf=>S.mt sc.c e.1 e.2 f
 | .nt _=>if i=0 then some e else none
 | .test _=>if i=0/\S.ev sc.c e.2=true then some e else none
def fE (S:fe)(T:bz):List eL->ep->List Int->Option ep
 |_,e,[]=>some e
 |[],_,_::_=>none
 |sc::l,e,i::π=>(fU S T sc e i).bind λU=>fE S T l U π
theorem Xr {S:fe} {T:bz} {i:Int}:∀{π:List Int} {l:List eL} {e:ep},fE S T l e (π++[i])=(fE S T l e π).bind λU=>(l[π.length]?).bind λsc=>fU S T sc U i
 |[],[],e=>by simp[fE]
 | [],sc::l,e=>by
   simp only[List.nil_append,fE,List.length_nil,List.getElem?_cons_zero,Option.bind_some];cases fU S T sc e i<;>rfl
 |j::π,[],e=>by simp[fE]
 | j::π,sc::l,e=>by
   simp only[List.cons_append,fE,List.length_cons,List.getElem?_cons_succ];cases h:fU S T sc e j with
   |none=>rfl
   |some U=>simp only[Option.bind_some];exact Xr
theorem mw {S:fe} {T:bz}:∀{π:List Int} {l:List eL} {e U:ep},fE S T l e π=some U->π.length<=l.length
 |[],l,e,U,_=>Nat.zero_le _
 |j::π,[],e,U,h=>by simp[fE]at h
 | j::π,sc::l,e,U,h=>by
   simp only[fE]at h;cases h1:fU S T sc e j with
   |none=>rw[h1]at h;cases h
   |some e1=>rw[h1]at h;have:=mw h;simp;exact this
def jx (S:fe)(sc:eL)(e:ep)(T:bz)(i:Int):Prop:=∃f,T i=some f/\(S.mt sc.c e.1 e.2 f).isSome=true
def hasB (A:Hz)(f:Qq):Bool:=decide (f.ty=A.kind)&&(List.range A.args.length).all λj=>match A.args[j]? with
 |some a=>if a.k=4 then decide (f.args[j]? =some a.v)else true
 |none=>true
def gX (loc:Loc)(n:Nat):Prop:=∃L:List Nat,L.Nodup/\(∀p,p∈L↔∃r π,loc p=some (r,π)/\π≠[])/\L.length=n
section
variable (S:fe) (C:fz) (T:bz) (Ta:Nat->bz) (B:Nat->List Int->bz×bz) (Zo:Nat->Prop) (ck:Option Nat) (loc:Loc) (s:Q7)
def LK (r k:Nat)(m:MS Nat Bool):Prop:=∀y,y∈m.keys↔(∃π,loc y=some (r,π)/\π.length=k)/\some y≠ck
def Wp (o:Option PO):Prop:=∃x,o=some (.net x)/\x.types=C.types/\x.rows=C.rows.map (·.b)/\x.rowsP=C.rP/\x.rowsC=C.rC/\x.alphas=C.alphas/\x.alphasA=C.alphasA/\(x.facts.keys.Nodup/\∀i,x.facts.look i=Ta C.g i)/\∃n:Nat,x.parts=(n:Int)/\gX loc n
def XN (r:Nat)(R:eO)(o:Option PO):Prop:=∃y,o=some (.row y)/\y.net=C.g/\y.steps=R.steps.map (·.st)/\y.stepsP=R.sP/\y.stepsC=R.sC/\LK ck loc r R.steps.length y.whole
def ia (r:Nat)(R:eO)(k:Nat)(sc:eL)(o:Option PO):Prop:=match sc.st with
 | .join _=>∃x,o=some (.join x)/\x.alpha=sc.al/\x.row=R.b/\x.k=(k:Int)/\x.cond=sc.c/\LK ck loc r k x.parts
 | .nt _=>∃x,o=some (.nt x)/\x.alpha=sc.al/\x.row=R.b/\x.k=(k:Int)/\x.cond=sc.c/\LK ck loc r k x.parts
 | .test _=>∃x,o=some (.test x)/\x.row=R.b/\x.k=(k:Int)/\x.cond=sc.c/\∀y,y∉x.parts.keys
def HA (Tb:bz)(A:Hz)(o:Option PO):Prop:=∃x,o=some (.alpha x)/\x.kind=A.kind/\x.args=A.args/\x.facts.keys.Nodup/\∀i,x.facts.look i=(Tb i).filter (hasB A)
structure Oy (R:eO) (r p:Nat) (π:List Int) (x:ie):Prop where
 env:fE S T R.steps (R.hs,R.vs) π=some (x.has,x.vals)
 top:π=[]->x.up=none/\x.id=0/\p=R.root
 up:∀ρ i,π=ρ++[i]->x.id=i/\∃q,x.up=some q/\loc q=some (r,ρ)
 kids:∀y,y∈x.kids.keys↔∃i,loc y=some (r,π++[i])
 blocks:some p≠ck->∀sc a,R.steps[π.length]? =some sc->sc.st=.nt a->∃bb m,x.blocks=some (bb,m)/\(∀i,i∈m.keys↔jx S sc (x.has,x.vals) (B r π).1 i)/\∀i v,m.look i=some v->v=true
 free:∀sc a,R.steps[π.length]? =some sc->sc.st=.nt a->(∃y i,loc y=some (r,π++[i]))->∀i,¬jx S sc (x.has,x.vals) (B r π).2 i
 kn:x.kids.keys.Nodup
def Rh (p r:Nat)(π:List Int)(o:Option PO):Prop:=∃R x,C.rows[r]? =some R/\o=some (.part x)/\Oy S T B ck loc R r p π x
structure Inv:Prop where
 net:Wp C Ta loc (s C.g)
 row:∀r R,C.rows[r]? =some R->XN C ck loc r R (s R.b)
 step:∀r R k sc,C.rows[r]? =some R->R.steps[k]? =some sc->¬Zo sc.st.adr->ia ck loc r R k sc (s sc.st.adr)
 al:∀A∈C.als,HA (Ta A.b) A (s A.b)
 part:∀p r π,loc p=some (r,π)->Rh S C T B ck loc p r π (s p)
 inj:∀p q l,loc p=some l->loc q=some l->p=q
 root:∀r R,C.rows[r]? =some R->loc R.root=some (r,[])
 le:∀n,gX loc n->n<=4097
end
structure nZ (C:fz):Prop where
 rows:∀(r r':Nat) (R R':eO),C.rows[r]? =some R->C.rows[r']? =some R'->R.b=R'.b->r=r'
 steps:∀(r r':Nat) (R R':eO) (k k':Nat) (sc dh:eL),C.rows[r]? =some R->C.rows[r']? =some R'->R.steps[k]? =some sc->R'.steps[k']? =some dh->sc.st.adr=dh.st.adr->r=r'/\k=k'
 kind:∀(r:Nat) (R:eO) (k:Nat) (sc:eL),C.rows[r]? =some R->R.steps[k]? =some sc->(match sc.st with| .join _=>sc.c.kind=1| .nt _=>sc.c.kind=2| .test _=>sc.c.kind=3)
theorem gX.unique {loc:Loc} {n m:Nat} (h:gX loc n)(h':gX loc m):n=m:=by
 obtain⟨L,a1,a2,rfl⟩:=h;obtain⟨M,b1,b2,rfl⟩:=h';exact Nat.le_antisymm (HL a1 λz U=>(b2 z).2 ((a2 z).1 U)) (HL b1 λz U=>(a2 z).2 ((b2 z).1 U))
def gR (loc:Loc)(p:Nat)(l:Nat×List Int):Loc:=λb=>if b=p then some l else loc b
theorem gX.add {loc:Loc} {n p r:Nat} {π:List Int} (h:gX loc n)(hp:loc p=none)(jb:π≠[]):gX (gR loc p (r,π)) (n+1):=by
 obtain⟨L,U,a2,rfl⟩:=h;refine⟨p::L,List.nodup_cons.2 ⟨λhm=>?_,U⟩,λq=>?_,rfl⟩
 ·obtain⟨r',fc,h1,_⟩:=(a2 p).1 hm;rw[hp]at h1;cases h1
 ·simp only[List.mem_cons,a2,gR];by_cases hq:q=p;· subst hq;simp;exact⟨r,π,⟨rfl,rfl⟩,jb⟩
  · simp[hq]
section
variable {S:fe} {C:fz} {T:bz} {Ta:Nat->bz} {B:Nat->List Int->bz×bz} {Zo:Nat->Prop} {ck:Option Nat} {loc:Loc} {s:Q7}
theorem Inv.gNet (h:Inv S C T Ta B Zo ck loc s):∃x,Go.Proofs.YtocfkfhdcnjklaaGreatDoor.gNet s C.g=some x/\s C.g=some (.net x)/\x.types=C.types/\x.rows=C.rows.map (·.b)/\x.rowsP=C.rP/\x.rowsC=C.rC/\x.alphas=C.alphas/\x.alphasA=C.alphasA/\(x.facts.keys.Nodup/\∀i,x.facts.look i=Ta C.g i)/\∃n:Nat,x.parts=(n:Int)/\gX loc n:=by
 obtain⟨x,h1,U⟩:=h.net;exact⟨x,by simp[Go.Proofs.YtocfkfhdcnjklaaGreatDoor.gNet,h1],h1,U⟩
theorem Inv.gRow (h:Inv S C T Ta B Zo ck loc s) {r:Nat} {R:eO} (hr:C.rows[r]? =some R):∃y,Go.Proofs.YtocfkfhdcnjklaaGreatDoor.gRow s R.b=some y/\s R.b=some (.row y)/\y.net=C.g/\y.steps=R.steps.map (·.st)/\y.stepsP=R.sP/\y.stepsC=R.sC/\LK ck loc r R.steps.length y.whole:=by
 obtain⟨x,h1,U⟩:=h.row r R hr;exact⟨x,by simp[Go.Proofs.YtocfkfhdcnjklaaGreatDoor.gRow,h1],h1,U⟩
theorem Inv.gPart (h:Inv S C T Ta B Zo ck loc s) {p r:Nat} {π:List Int} (hp:loc p=some (r,π)):∃R x,C.rows[r]? =some R/\Go.Proofs.YtocfkfhdcnjklaaGreatDoor.gPart s p=some x/\s p=some (.part x)/\Oy S T B ck loc R r p π x:=by
 obtain⟨R,x,h1,U,h3⟩:=h.part p r π hp;exact⟨R,x,h1,by simp[Go.Proofs.YtocfkfhdcnjklaaGreatDoor.gPart,U],U,h3⟩
theorem CK {N r:Nat} {R:eO} {Q:Bool->Prop} (h:Inv S C T Ta B Zo ck loc s)(hr:C.rows[r]? =some R)(hQ:∀n,gX loc n->Q (decide (4096<n))):OG N R.b s Q:=by
 obtain⟨y,h1,_,U,_⟩:=h.gRow hr;obtain⟨x,g1,_,_,_,_,_,_,_,_,n,g2,g3⟩:=h.gNet;refine Qh h1 ?_;rw[U];refine Qh g1 ?_;have:=hQ n g3;show Q (decide (x.parts>4096));rw[g2]
 have e:decide ((n:Int)>4096)=decide (4096<n):=by
  by_cases hh:4096<n;· rw[decide_eq_true hh,decide_eq_true an]
  · rw[decide_eq_false hh,decide_eq_false an]
 rw[e];exact this
theorem QD {s:Q7} {a b:Nat} {o:PO} (h:b≠a):cq s a o b=s b:=if_neg h
theorem LK.fresh {r k p:Nat} {l:Nat×List Int} {m:MS Nat Bool} (hp:loc p=none)(h:LK none loc r k m):LK (some p) (gR loc p l) r k m:=λy=>by
 rw[h y];unfold gR;by_cases hy:y=p;· subst hy;simp[hp]
 · simp[hy]
theorem Inv.none_loc (h:Inv S C T Ta B Zo ck loc s) {p:Nat} (hp:s p=none):loc p=none:=by
 cases hl:loc p with
 |none=>rfl
 | some l=>
   obtain⟨R,x,_,U,_⟩:=h.part p l.1 l.2 hl;rw[hp]at U;cases U
theorem VK {ρ U:List Int} {i i':Int} (h:ρ++[i]=U++[i']):ρ=U/\i=i':=by
 have:=List.append_inj' h rfl;exact⟨this.1,by simpa using this.2⟩
theorem Inv.kid (h:Inv S C T Ta B Zo none loc s) {p q r:Nat} {ρ:List Int} {i:Int} {R:eO} {x:ie} {xn:fk} {hs:List Bool} {vs:List V} {ka:Nat} (hr:C.rows[r]? =some R)(hp:s p=none)(hq:loc q=some (r,ρ))(hx:s q=some (.part x))(hn:s C.g=some (.net xn))
  (he:fE S T R.steps (R.hs,R.vs) (ρ++[i])=some (hs,vs)) (fG:∀y,loc y≠some (r,ρ++[i])) (fK:∀sc a,R.steps[ρ.length]? =some sc->sc.st=.nt a->∀j,¬jx S sc (x.has,x.vals) (B r ρ).2 j) (hle:∀n,gX loc n->n<=4096):
  Inv S C T Ta B Zo (some p) (gR loc p (r,ρ++[i])) (cq (cq (cq s p (.part ⟨hs,vs,some q,i,MS.nil,ka,none⟩)) q (.part {x with kids:=x.kids.put p true})) C.g (.net {xn with parts:=xn.parts+1})):=by
 have D5:=h.none_loc hp;have Z5:q≠p:=λe=>by rw[e,hp]at hx;cases hx
 have Z4:q≠C.g:=λe=>by rw[e,hn]at hx;cases hx
 have Z1:p≠C.g:=λe=>by rw[e,hn]at hp;cases hp
 have old:∀b,b≠p->b≠q->b≠C.g->(cq (cq (cq s p (.part ⟨hs,vs,some q,i,MS.nil,ka,none⟩)) q (.part {x with kids:=x.kids.put p true})) C.g (.net {xn with parts:=xn.parts+1})) b=s b:=λb h1 h2 h3=>by
  rw[QD h3,QD h2,QD h1]
 have UP:∀y l,loc y=some l->gR loc p (r,ρ++[i]) y=some l:=λy l hl=>by
  unfold gR;rw[if_neg (λe=>by rw[e,D5]at hl;cases hl)];exact hl
 have PJ:∀y j,gR loc p (r,ρ++[i]) y≠some (r,ρ++[i]++[j]):=λy j hy=>by
  unfold gR at hy;split at hy
  ·simp only[Option.some.injEq,Prod.mk.injEq,true_and]at hy;have:=congrArg List.length hy;simp at this
  ·obtain⟨R',x',_,_,h4⟩:=h.part _ _ _ hy;obtain⟨_,q2,_,h5⟩:=h4.up _ _ rfl;exact fG _ h5
 refine⟨?_,?_,?_,?_,?_,?_,?_,?_⟩
 ·obtain⟨x0,a1,a2,a3,a4,a5,a6,a7,a8,n,a9,hY⟩:=h.net;rw[hn]at a1;cases a1;exact⟨_,iN _ _ _,a2,a3,a4,a5,a6,a7,a8,n+1,by simp[a9],hY.add D5 ax⟩
 ·intro r' R' cy;obtain⟨y,U,b2,b3,b4,b5,b6⟩:=h.row r' R' cy;rw[old _ (λe=>by rw[e,hp]at U;cases U) (λe=>by rw[e,hx]at U;cases U) (λe=>by rw[e,hn]at U;cases U)];exact⟨y,U,b2,b3,b4,b5,b6.fresh D5⟩
 ·intro r' R' k sc cy hk hz;have h0:=h.step r' R' k sc cy hk hz
  have hb:∀o,s sc.st.adr=some o->(∀z,o≠.part z)->(∀z,o≠.net z)->(cq (cq (cq s p (.part ⟨hs,vs,some q,i,MS.nil,ka,none⟩)) q (.part {x with kids:=x.kids.put p true})) C.g (.net {xn with parts:=xn.parts+1})) sc.st.adr=some o:=λo ho c1 c2=>by
   rw[old _ (λe=>by rw[e,hp]at ho;cases ho) (λe=>by rw[e,hx]at ho;cases ho;exact c1 _ rfl) (λe=>by rw[e,hn]at ho;cases ho;exact c2 _ rfl)];exact ho
  unfold ia at h0⊢;split at h0
  ·obtain⟨z,U,b2,b3,b4,b5,b6⟩:=h0;exact⟨z,hb _ U (λ_ e=>by cases e) (λ_ e=>by cases e),b2,b3,b4,b5,b6.fresh D5⟩
  ·obtain⟨z,U,b2,b3,b4,b5,b6⟩:=h0;exact⟨z,hb _ U (λ_ e=>by cases e) (λ_ e=>by cases e),b2,b3,b4,b5,b6.fresh D5⟩
  ·obtain⟨z,U,b3,b4,b5,b6⟩:=h0;exact⟨z,hb _ U (λ_ e=>by cases e) (λ_ e=>by cases e),b3,b4,b5,b6⟩
 ·intro A hA;obtain⟨z,U,b2⟩:=h.al A hA;refine⟨z,?_,b2⟩;rw[old _ (λe=>by rw[e,hp]at U;cases U) (λe=>by rw[e,hx]at U;cases U) (λe=>by rw[e,hn]at U;cases U)];exact U
 ·intro p' r' fc hl;by_cases h1:p'=p
  ·subst h1;have:(r,ρ++[i])=(r',fc):=by simpa[gR]using hl
   cases this;refine⟨R,⟨hs,vs,some q,i,MS.nil,ka,none⟩,hr,(by rw[QD Z1,QD (Ne.symm Z5),iN]),⟨he,λe=>by simp at e,λcj i' e=>?_,λy=>?_,λe=>absurd rfl e,λsc a _ _ hk=>?_,List.nodup_nil⟩⟩
   ·obtain⟨rfl,rfl⟩:=VK e;exact⟨rfl,q,rfl,UP _ _ hq⟩
   · exact⟨λhy=>absurd hy MS.keys_nil,λ⟨j,hj⟩=>absurd hj (PJ y j)⟩
   · obtain⟨y,j,hj⟩:=hk;exact absurd hj (PJ y j)
  ·have qN:loc p'=some (r',fc):=by unfold gR at hl;rwa [if_neg h1]at hl
   obtain⟨R',x',c1,c2,c3⟩:=h.part p' r' fc qN;have YY:p'≠C.g:=λe=>by rw[e,hn]at c2;cases c2
   have Zf:∀cj j,fc=cj++[j]->x'.id=j/\∃q2,x'.up=some q2/\gR loc p (r,ρ++[i]) q2=some (r',cj):=λcj j e=>by
    obtain⟨d1,q2,d2,d3⟩:=c3.up cj j e;exact⟨d1,q2,d2,UP _ _ d3⟩
   by_cases h2:p'=q
   ·subst h2;rw[hq]at qN;cases qN;rw[hr]at c1;cases c1;rw[hx]at c2;cases c2;refine⟨R,{x with kids:=x.kids.put p true},hr,(by rw[QD YY,iN]),⟨c3.env,c3.top,Zf,λy=>?_,λ_=>c3.blocks ax,λsc a e1 e2 _=>fK sc a e1 e2,MS.nodup_put c3.kn⟩⟩;show y∈(x.kids.put p true).keys↔_;rw[MS.keys_put,c3.kids];unfold gR;by_cases hy:y=p;· subst hy;simp
    · simp[hy]
   ·refine ⟨R',x',c1,(by rw[old _ h1 h2 YY];exact c2),⟨c3.env,c3.top,Zf,λy=>?_,λ_=>c3.blocks ax,λsc a e1 e2 hk=>c3.free sc a e1 e2 ?_,c3.kn⟩⟩
    ·rw[c3.kids];unfold gR;by_cases hy:y=p
     ·subst hy;simp only[D5,if_true,reduceCtorEq,exists_false,Option.some.injEq,Prod.mk.injEq,false_iff,not_exists];rintro j ⟨rfl,e⟩;obtain⟨rfl,_⟩:=VK e;exact h2 (h.inj _ _ _ qN hq)
     · simp[hy]
    ·obtain⟨y,j,hj⟩:=hk;refine⟨y,j,?_⟩;unfold gR at hj;split at hj
     ·simp only[Option.some.injEq,Prod.mk.injEq]at hj;obtain⟨rfl,e⟩:=hj;obtain⟨rfl,_⟩:=VK e;exact absurd (h.inj _ _ _ qN hq) h2
     · exact hj
 ·intro a b l ha hb;unfold gR at ha hb;by_cases h1:a=p<;>by_cases h2:b=p;· rw[h1,h2]
  ·rw[if_pos h1]at ha;rw[if_neg h2]at hb;cases ha;exact absurd hb (fG _)
  ·rw[if_neg h1]at ha;rw[if_pos h2]at hb;cases hb;exact absurd ha (fG _)
  ·rw[if_neg h1]at ha;rw[if_neg h2]at hb;exact h.inj _ _ _ ha hb
 ·intro r' R' cy;exact UP _ _ (h.root r' R' cy)
 ·intro n' Hn;obtain⟨_,_,_,_,_,_,_,_,_,n,_,hY⟩:=h.net;have:=Hn.unique (hY.add D5 ax);have:=hle n hY;omega
end
end
section
open Go Go.RowKit
section
variable {s:Q7} {a b:Nat} {o:PO}
theorem qK (h:b≠a):gPart (cq s a o) b=gPart s b:=by simp[gPart,cq,h]
theorem xr (h:b≠a):gRow (cq s a o) b=gRow s b:=by simp[gRow,cq,h]
theorem Je (h:b≠a):gNet (cq s a o) b=gNet s b:=by simp[gNet,cq,h]
theorem mz (h:b≠a):tX (cq s a o) b=tX s b:=by simp[tX,cq,h]
theorem CM (h:b≠a):ir (cq s a o) b=ir s b:=by simp[ir,cq,h]
theorem Jf {x:ie} (h:s a=some (.part x)):gPart s a=some x:=by simp[gPart,h]
theorem qL {x:mg} (h:s a=some (.row x)):gRow s a=some x:=by simp[gRow,h]
theorem N2 {x:fk} (h:s a=some (.net x)):gNet s a=some x:=by simp[gNet,h]
theorem VD {x:LJ} (h:s a=some (.alpha x)):tX s a=some x:=by simp[tX,h]
theorem RG {x:uT} (h:s a=some (.join x)):iq s a=some x:=by simp[iq,h]
theorem LG {x:uT} (h:s a=some (.nt x)):ir s a=some x:=by simp[ir,h]
theorem su {x:kl} (h:s a=some (.test x)):py s a=some x:=by simp[py,h]
theorem r8 {U:PO}:cq (cq s a o) a U=cq s a U:=by funext c;unfold cq;split<;>rfl
theorem vg (h:b≠a):del s a b=s b:=if_neg h
end
section
variable {S:fe} {C:fz} {T:bz} {Ta:Nat->bz} {B:Nat->List Int->bz×bz} {Zo:Nat->Prop} {ck:Option Nat} {loc:Loc} {s:Q7}
theorem JU {N p0 q r:Nat} {ρ:List Int} {i:Int} {R:eO} {e:ep} {hs:List Bool} {vs:List V} {Q:Nat×Q7->Prop} (h:Inv S C T Ta B Zo none loc s)(hr:C.rows[r]? =some R)(hq:loc q=some (r,ρ))(h0:fE S T R.steps (R.hs,R.vs) ρ=some e)
  (he:fE S T R.steps (R.hs,R.vs) (ρ++[i])=some (hs,vs)) (fG:∀y,loc y≠some (r,ρ++[i])) (fK:∀sc a,R.steps[ρ.length]? =some sc->sc.st=.nt a->∀j,¬jx S sc e (B r ρ).2 j) (Ni:∀n,gX loc n->n<=4096)
  (hQ:∀p s',loc p=none->Inv S C T Ta B Zo (some p) (gR loc p (r,ρ++[i])) s'->Q (p,s')):Mc N R.b q hs vs i s Q:=by
 obtain⟨R',x,r1,r2,U,r4⟩:=h.gPart hq;rw[hr]at r1;cases r1;have Zp:e=(x.has,x.vals):=by have:=h0.symm.trans r4.env;exact Option.some.inj this
 obtain⟨y,y1,y2,y3,_⟩:=h.gRow hr;obtain⟨xn,g1,g2,_,_,_,_,_,_,_,n,g3,g4⟩:=h.gNet;have hn:=Ni n g4;refine ud λka=>jm λp hp=>?_;have Z5:q≠p:=λe=>by rw[e,hp]at U;cases U
 have Z4:q≠C.g:=λe=>by rw[e,g2]at U;cases U
 have Z1:p≠C.g:=λe=>by rw[e,g2]at hp;cases hp
 have hRp:R.b≠p:=λe=>by rw[e,hp]at y2;cases y2
 have hRq:R.b≠q:=λe=>by rw[e,U]at y2;cases y2
 refine Qh (a:=x) (by rw[qK Z5];exact r2) ?_;refine fR (λz hz=>?_) ?_
 ·rcases hz with rfl|hz;· rw[iN];simp
  ·obtain⟨j,hj⟩:=(r4.kids z).1 hz;obtain⟨_,xz,_,c2,_⟩:=h.part _ _ _ hj;rw[QD (λe=>by rw[e,hp]at c2;cases c2),c2];simp
 refine lR ?_;refine Qh (a:=y) (by rw[xr hRq,xr hRp];exact y1) ?_;rw[y3];refine Qh (a:=xn) (by rw[Je (Ne.symm Z4),Je (Ne.symm Z1)];exact g1) ?_;refine fR an ?_;refine lR ?_;exact hQ p _ (h.none_loc hp) (h.kid hr hp hq U g2 he fG (λsc a e1 e2=>by rw[<-Zp];exact fK sc a e1 e2) Ni)
theorem U0 {N q r:Nat} {ρ:List Int} {i:Int} {R:eO} {e:ep} {hs:List Bool} {vs:List V} {Q:Nat×Q7->Prop} (h:Inv S C T Ta B Zo none loc s)(hr:C.rows[r]? =some R)(hq:loc q=some (r,ρ))(h0:fE S T R.steps (R.hs,R.vs) ρ=some e)
 (he:fE S T R.steps (R.hs,R.vs) (ρ++[i])=some (hs,vs)) (fG:∀y,loc y≠some (r,ρ++[i])) (fK:∀sc a,R.steps[ρ.length]? =some sc->sc.st=.nt a->∀j,¬jx S sc e (B r ρ).2 j) (U:∀n,gX loc n->n<=4096)
 (hQ:∀p s',loc p=none->Inv S C T Ta B Zo (some p) (gR loc p (r,ρ++[i])) s'->Q (p,s')):Mc N R.b q hs vs i s Q:=JU (N:=N) (p0:=0) h hr hq h0 he fG fK U hQ
theorem Inv.del (hW:nZ C)(h:Inv S C T Ta B Zo ck loc s) {r k:Nat} {R:eO} {sc:eL} (hr:C.rows[r]? =some R)(hk:R.steps[k]? =some sc)(hz:¬Zo sc.st.adr):Inv S C T Ta B (λb=>Zo b\/b=sc.st.adr) ck loc (del s sc.st.adr):=by
 have h0:=h.step r R k sc hr hk hz
 have hs:∀b o,s b=some o->(∀z,o≠.join z)->(∀z,o≠.nt z)->(∀z,o≠.test z)->Go.Proofs.YtocfkfhdcnjklaaGreatDoor.del s sc.st.adr b=some o:=λb o hb c1 c2 c3=>by
  rw[vg];· exact hb
  ·intro e;subst e;unfold ia at h0;split at h0;· obtain⟨x,U,_⟩:=h0;rw[hb]at U;cases U;exact c1 _ rfl
   · obtain⟨x,U,_⟩:=h0;rw[hb]at U;cases U;exact c2 _ rfl
   · obtain⟨x,U,_⟩:=h0;rw[hb]at U;cases U;exact c3 _ rfl
 refine⟨?_,?_,?_,?_,?_,h.inj,h.root,h.le⟩
 ·obtain⟨x,a1,a2⟩:=h.net;exact⟨x,hs _ _ a1 (λ_ e=>by cases e) (λ_ e=>by cases e) (λ_ e=>by cases e),a2⟩
 ·intro r' R' cy;obtain⟨x,a1,a2⟩:=h.row r' R' cy;exact⟨x,hs _ _ a1 (λ_ e=>by cases e) (λ_ e=>by cases e) (λ_ e=>by cases e),a2⟩
 ·intro r' R' k' dh cy dx xB;rw[vg (λe=>xB (.inr e))];exact h.step r' R' k' dh cy dx λe=>xB (.inl e)
 ·intro A hA;obtain⟨x,a1,a2⟩:=h.al A hA;exact⟨x,hs _ _ a1 (λ_ e=>by cases e) (λ_ e=>by cases e) (λ_ e=>by cases e),a2⟩
 ·intro p r' π hl;obtain⟨R',x,a1,a2,a3⟩:=h.part p r' π hl;exact⟨R',x,a1,hs _ _ a2 (λ_ e=>by cases e) (λ_ e=>by cases e) (λ_ e=>by cases e),a3⟩
theorem Inv.back (hW:nZ C) {r k:Nat} {R:eO} {sc:eL} {o:PO} (h:Inv S C T Ta B (λb=>Zo b\/b=sc.st.adr) ck loc s)(hr:C.rows[r]? =some R)(hk:R.steps[k]? =some sc)(hs:s sc.st.adr=none)(ho:ia ck loc r R k sc (some o)):Inv S C T Ta B Zo ck loc (cq s sc.st.adr o):=by
 have ne:∀b o',s b=some o'->cq s sc.st.adr o b=some o':=λb o' hb=>by
  rw[QD (λe=>by rw[e,hs]at hb;cases hb)];exact hb
 refine⟨?_,?_,?_,?_,?_,h.inj,h.root,h.le⟩;· obtain⟨x,U,a2⟩:=h.net;exact⟨x,ne _ _ U,a2⟩
 ·intro r' R' cy;obtain⟨x,U,a2⟩:=h.row r' R' cy;exact⟨x,ne _ _ U,a2⟩
 ·intro r' R' k' dh cy dx xB;by_cases e:dh.st.adr=sc.st.adr
  ·obtain⟨rfl,rfl⟩:=hW.steps _ _ _ _ _ _ _ _ cy hr dx hk e;rw[hr]at cy;cases cy;rw[hk]at dx;cases dx;rw[iN];exact ho
  ·rw[QD e];exact h.step r' R' k' dh cy dx λe'=>by rcases e' with e'|e';exact xB e';exact e e'
 ·intro A hA;obtain⟨x,U,a2⟩:=h.al A hA;exact⟨x,ne _ _ U,a2⟩
 ·intro p r' π hl;obtain⟨R',x,U,a2,a3⟩:=h.part p r' π hl;exact⟨R',x,U,ne _ _ a2,a3⟩
structure il (T:bz) (D:List Int):Prop where
 mem:∀i f,T i=some f->i∈D/\f.id=i/\1<=i/\i<=1099511627776
 len:D.length<=8000000000000
theorem Km {N:Nat} {A:Hz} {Ta:bz} {D:List Int} {Q:List Qq->Prop} (hA:HA Ta A (s A.b))(hT:il Ta D)(hN:D.length<N)(hD:D.length<=3518437208882)
  (hQ:∀l:List Qq,(l.map (·.id)).Nodup->(∀f,f∈l↔Ta f.id=some f/\hasB A f=true)->l.length<=D.length->Q l):Vc N A.b s Q:=by
 obtain⟨x,h1,h2,h3,h4,h5⟩:=hA
 have hk:∀i,i∈x.facts.keys↔∃f,Ta i=some f/\hasB A f=true:=λi=>by
  rw[MS.look_iff];constructor;· rintro⟨f,U⟩;rw[h5]at U;exact⟨f,by simpa using U⟩
  · rintro⟨f,BV,zL⟩;exact⟨f,by rw[h5];simp[BV,zL]⟩
 have hlen:x.facts.keys.length<=D.length:=GV h4 λi hi=>by
  obtain⟨f,U,_⟩:=(hk i).1 hi;exact(hT.mem i f U).1
 have pC:(QU x.facts).Perm x.facts.keys:=List.mergeSort_perm _ _
 have Jw:RF x.facts=true:=by
  unfold RF;simp only[Bool.and_eq_true,List.all_eq_true,decide_eq_true_eq];refine⟨λi hi=>?_,by have:=hT.len;omega⟩;obtain⟨f,U,_⟩:=(hk i).1 hi;obtain⟨_,_,b1,b2⟩:=hT.mem i f U;have e1:IntKind.min .i64=-9223372036854775808:=bj
  have e2:IntKind.max .i64=9223372036854775807:=bj
  simp only[Lit.wf,Bool.and_eq_true,decide_eq_true_eq,e1,e2];omega
 refine Qh (VD h1) ?_;refine fR Jw ?_;refine wQ (λ(u,l)=>u<=(QU x.facts).length/\l.map (·.id)=(QU x.facts).take u/\∀f∈l,Ta f.id=some f/\hasB A f=true) (λ(u,_)=>(QU x.facts).length-u) ?_ N (0,[]) ⟨Nat.zero_le _,rfl,λ_ h=>by cases h⟩ (by rw[pC.length_eq];simp;omega);rintro⟨u,l⟩ ag ⟨hu,hl,U⟩ eY;dsimp only at hu hl U eY⊢;refine ig (λhb=>?_) (λhb=>?_)
 ·have bp:u<(QU x.facts).length:=of_decide_eq_true hb;obtain⟨i,hi⟩:∃i,(QU x.facts)[u]? =some i:=⟨_,List.getElem?_eq_getElem bp⟩
  have him:i∈x.facts.keys:=pC.mem_iff.1 (List.mem_of_getElem? hi);obtain⟨f,BV,zL⟩:=(hk i).1 him;have VX:=(hT.mem i f BV).2.1;refine Qh hi ?_;refine Dm (a:=f) (by rw[h5];simp[BV,zL]) ?_;have hll:l.length=u:=by have:=congrArg List.length hl;simpa[Nat.min_eq_left hu]using this
  have hsl:(QU x.facts).length<=D.length:=by rw[pC.length_eq];exact hlen
  refine fR (by simp only[List.length_cons,List.length_nil];omega) ?_;refine fR an ?_;refine eY (u+1,l++[f]) ⟨an,?_,λg hg=>?_⟩ an
  ·rw[List.map_append,hl,List.take_add_one,hi];simp[VX]
  ·rcases List.mem_append.1 hg with hg|hg;· exact U g hg
   · rw[List.mem_singleton.1 hg,VX];exact⟨BV,zL⟩
 ·have pB:¬u<(QU x.facts).length:=of_decide_eq_false hb;have xu:l.map (·.id)=QU x.facts:=by rw[hl,List.take_of_length_le an]
  refine hQ l ?_ (λf=>⟨U f,λ⟨f1,f2⟩=>?_⟩) ?_;· rw[xu];exact pC.nodup_iff.2 h4
  ·have:f.id∈l.map (·.id):=by rw[xu];exact pC.mem_iff.2 ((hk _).2 ⟨f,f1,f2⟩)
   obtain⟨g,hg,hgi⟩:=List.mem_map.1 this;have:=(U g hg).1;rw[hgi,f1]at this;cases this;exact hg
  ·have:=congrArg List.length xu;rw[List.length_map]at this;rw[this,pC.length_eq];exact hlen
end
end
section
open Go Go.RowKit Classical
noncomputable section
def iV (S:fe)(T:bz)(sc:eL)(e:ep)(i:Int):Option ep:=match sc.st with
 | .join _=>(T i).bind λf=>S.mt sc.c e.1 e.2 f
 | .nt _=>if i=0/\∀j,¬jx S sc e T j then some e else none
 | .test _=>if i=0/\S.ev sc.c e.2=true then some e else none
def fI (S:fe)(T:bz):List eL->ep->List Int->Option ep
 |_,e,[]=>some e
 |[],_,_::_=>none
 |sc::l,e,i::π=>(iV S T sc e i).bind λU=>fI S T l U π
end
abbrev B0:Nat:=9223372036855775808
structure wE (S:fe) (I:ep->Prop) (C:fz) (T:bz) (sc:eL):Prop where
 mt:(∀a,sc.st≠.test a)->∀N,B0<=N->∀f,T f.id=some f->∀e,I e->
  ∃a b,Lt N sc.c.kind sc.c.type sc.c.args sc.c.test.kind sc.c.test.value.k sc.c.test.value.n sc.c.test.value.s sc.c.test.var sc.c.test.op sc.c.test.kids f.id f.ty f.args e.1 e.2=some (a,b,(S.mt sc.c e.1 e.2 f).isSome)/\∀p,S.mt sc.c e.1 e.2 f=some p->p=(a,b)/\I p
 ev:∀a,sc.st=.test a->∀N,B0<=N->∀e,I e->
  ∃k n s z,wG N sc.c.test.kind sc.c.test.value.k sc.c.test.value.n sc.c.test.value.s sc.c.test.var sc.c.test.op sc.c.test.kids e.2=some (k,n,s,z)/\S.ev sc.c e.2=(z==0&&(k==1&&n !=0))
 al:(∀a,sc.st≠.test a)->∃A∈C.als,A.b=sc.al/\∀(f:Qq) (e p:ep),S.mt sc.c e.1 e.2 f=some p->hasB A f=true
def pX (loc:Loc):Prop:=∀n,gX loc n->n<=4096
def ke (loc U:Loc):Prop:=∀y l,loc y=some l->U y=some l
def BL (loc U:Loc)(r:Nat)(π:List Int):Prop:=ke loc U/\∀y l,U y=some l->loc y=none->∃τ,τ≠[]/\l=(r,π++τ)
def iH (S:fe)(T:bz)(loc:Loc)(r:Nat)(π:List Int)(l:List eL)(e:ep):Prop:=∀U,fI S T l e U≠none->∃y,loc y=some (r,π++U)
theorem gX.mono {loc U:Loc} {n n':Nat} (h:gX loc n)(h':gX U n')(he:ke loc U):n<=n':=by
 obtain⟨L,a1,a2,rfl⟩:=h;obtain⟨M,b1,b2,rfl⟩:=h';refine HL a1 λz hz=>?_;obtain⟨r,π,h1,h2⟩:=(a2 z).1 hz;exact(b2 z).2 ⟨r,π,he _ _ h1,h2⟩
theorem ke.refl (loc:Loc):ke loc loc:=λ_ _ h=>h
theorem ke.trans {a b c:Loc} (h:ke a b)(h':ke b c):ke a c:=λy l hy=>h' y l (h y l hy)
theorem BL.refl (loc:Loc)(r:Nat)(π:List Int):BL loc loc r π:=⟨ke.refl _,λy l h h'=>by rw[h]at h';cases h'⟩
theorem iH.mono {S:fe} {T:bz} {loc U:Loc} {r:Nat} {π:List Int} {l:List eL} {e:ep} (h:iH S T loc r π l e)(he:ke loc U):iH S T U r π l e:=λτ fT=>by
 obtain⟨y,hy⟩:=h τ fT;exact⟨y,he _ _ hy⟩
section
variable {S:fe} {I:ep->Prop} {C:fz} {T:bz} {Ta:Nat->bz} {B:Nat->List Int->bz×bz} {Zo:Nat->Prop} {ck:Option Nat} {loc:Loc} {s:Q7} {D:List Int}
theorem Inv.cnt (h:Inv S C T Ta B Zo ck loc s):∃n,gX loc n:=by
 obtain⟨x,_,_,_,_,_,_,_,_,n,_,U⟩:=h.net;exact⟨n,U⟩
theorem Xh (h:∃n,gX loc n) {U:Loc} (he:ke loc U)(h':pX U)(hc:∃n,gX U n):pX loc:=λn hn=>by
 obtain⟨m,hm⟩:=hc;exact Nat.le_trans (hn.mono hm he) (h' m hm)
theorem LK.grown {bf:Loc} {r r' k:Nat} {π:List Int} {m:MS Nat Bool} (h:LK none loc r' k m)(hg:BL loc bf r π)(hk:r'=r->k<=π.length):LK none bf r' k m:=λy=>by
 rw[h y];constructor;· rintro⟨⟨ρ,h1,U⟩,h3⟩;exact⟨⟨ρ,hg.1 _ _ h1,U⟩,h3⟩
 ·rintro⟨⟨ρ,h1,U⟩,h3⟩;refine⟨⟨ρ,?_,U⟩,h3⟩;cases hl:loc y with
  |some l=>have:=hg.1 _ _ hl;rw[h1]at this;exact this.symm
  | none=>
    obtain⟨τ,q1,q2⟩:=hg.2 _ _ h1 hl;simp only[Prod.mk.injEq]at q2;obtain⟨rfl,rfl⟩:=q2;have:=hk rfl;have:=List.length_pos_iff.2 q1;simp only[List.length_append]at U;omega
def UY (S:fe)(C:fz)(T:bz)(B:Nat->List Int->bz×bz)(I:ep->Prop)(rc:Nat->Int->Nat->Q7->WM Q7)(r:Nat)(R:eO)(k:Nat):Prop:=
 ∀ (Zo:Nat->Prop) (loc:Loc) (s:Q7) (p:Nat) (π:List Int) (e:ep) (Q:Q7->Prop),Inv S C T (λ_=>T) B Zo (some p) loc s->loc p=some (r,π)->π.length=k->fE S T R.steps (R.hs,R.vs) π=some e->I e->
   (∀y i,loc y≠some (r,π++[i]))->(∀k' sc,k<=k'->R.steps[k']? =some sc->¬Zo sc.st.adr)->
   (∀U s',Inv S C T (λ_=>T) B Zo none U s'->BL loc U r π->(pX U->iH S T U r π (R.steps.drop k) e)->Q s')->rc R.b (k:Int) p s Q
theorem lp {p:Nat} {l:Nat×List Int}:gR loc p l p=some l:=if_pos rfl
theorem oF {p:Nat} {l:Nat×List Int} (hp:loc p=none):ke loc (gR loc p l):=λy U h=>by
 unfold gR;rw[if_neg (λe=>by rw[e,hp]at h;cases h)];exact h
theorem PL {N r k a p:Nat} {R:eO} {sc:eL} {π:List Int} {e:ep} {f:Qq} {rc:Nat->Int->Nat->Q7->WM Q7} {Q:Q7->Prop} (hW:nZ C)(hlen:R.steps.length<9223372036854775807)(hN:B0<=N)(hr:C.rows[r]? =some R)(hk:R.steps[k]? =some sc)(bw:sc.st=.join a)(cn:wE S I C T sc)(G0:UY S C T B I rc r R (k+1))
  (h:Inv S C T (λ_=>T) B Zo none loc s) (hp:loc p=some (r,π)) (jb:π.length=k) (he:fE S T R.steps (R.hs,R.vs) π=some e) (hI:I e) (hf:T f.id=some f) (fG:∀y,loc y≠some (r,π++[f.id])) (hZ:∀k' sc,k<=k'->R.steps[k']? =some sc->¬Zo sc.st.adr)
  (hQ:∀bf s',Inv S C T (λ_=>T) B Zo none bf s'->ke loc bf->(∀y l,bf y=some l->loc y=none->∃τ,l=(r,π++[f.id]++τ))->(pX bf->∀U,S.mt sc.c e.1 e.2 f=some U->iH S T bf r (π++[f.id]) (R.steps.drop (k+1)) U)->Q s'):
  WZ N rc a p f.id f.ty f.args s Q:=by
 have hz:=hZ k sc (Nat.le_refl _) hk;have eX:sc.st.adr=a:=by rw[bw];rfl
 have h0:=h.step r R k sc hr hk hz;unfold ia at h0;rw[bw]at h0;obtain⟨x,b1,b2,b3,b4,b5,b6⟩:=h0;have qa:s a=some (.join x):=b1;refine Qh (RG qa) ?_;refine QR ?_;rw[b3];refine CK h hr λn hn=>?_;refine ig (λhb=>?_) (λhb=>?_)
 ·refine hQ loc s h (ke.refl _) (λy l h1 h2=>by rw[h1]at h2;cases h2) λfS=>?_;have:=fS n hn;have:=of_decide_eq_true hb;omega
 ·have hnn:=of_decide_eq_false hb;obtain⟨R',z,c1,c2,c3,c4⟩:=h.gPart hp;rw[hr]at c1;cases c1;have yM:e=(z.has,z.vals):=Option.some.inj (he.symm.trans c4.env);refine Qh c2 ?_;obtain⟨ha,hv,d1,d2⟩:=cn.mt (λa' U=>by rw[bw]at U;cases U) N hN f hf e hI;rw[yM]at d1;rw[b5];refine Qh d1 ?_;refine ig (λsB=>?_) (λsB=>?_)
  ·obtain ⟨U,hme⟩:∃U,S.mt sc.c e.1 e.2 f=some U:=by rw[yM];exact Option.isSome_iff_exists.1 sB
   obtain⟨Et,a0u⟩:=d2 U hme;have jC:k<R.steps.length:=(List.getElem?_eq_some_iff.1 hk).1
   have PC:fE S T R.steps (R.hs,R.vs) (π++[f.id])=some (ha,hv):=by
    rw[Xr,he];simp only[Option.bind_some,jb,hk,fU,bw,hf,hme,Et]
   refine fR (by rw[b4];omega) ?_;refine QR ?_;rw[b4];have mB:=h.del hW hr hk hz;rw[eX]at mB;refine U0 mB hr hp he PC fG (λdh a' q1 q2=>by rw[jb,hk]at q1;cases q1;rw[bw]at q2;cases q2) (λm hm=>by have:=hm.unique hn;omega) λp' s1 dc j9=>?_;refine QR ?_;have zH:(k:Int)+1=((k+1:Nat):Int):=an
   rw[zH];refine G0 _ _ s1 p' (π++[f.id]) (ha,hv) _ j9 lp (by simp[jb]) PC (by rw[<-Et];exact a0u) (λy i hy=>?_) (λk' dh dx Ey=>?_) λeo s2 j2 mE tY=>?_
   ·unfold gR at hy;split at hy
    ·simp only[Option.some.injEq,Prod.mk.injEq,true_and]at hy;have:=congrArg List.length hy;simp at this
    ·obtain⟨R',z',_,_,h4⟩:=h.part _ _ _ hy;obtain⟨_,q2,_,h5⟩:=h4.up _ _ rfl;exact fG _ h5
   ·rintro(hh|hh);· exact hZ k' dh an Ey hh
    ·have:=(hW.steps r r R R k' k dh sc hr hr Ey hk (by rw[hh,eX])).2;omega
   ·refine lR (jB λGf=>?_)
    have pB:BL loc eo r π:=⟨(oF dc).trans mE.1,λy l h1 h2=>by
     cases hy:gR loc p' (r,π++[f.id]) y with
     | none=>
       obtain⟨τ,_,rfl⟩:=mE.2 y l h1 hy;exact⟨f.id::τ,ax,ax⟩
     | some l'=>
       have h3:=mE.1 y l' hy;rw[h1]at h3;cases h3;unfold gR at hy;split at hy;· cases hy;exact⟨[f.id],ax,rfl⟩
       · rw[h2]at hy;cases hy⟩
    have hb:Inv S C T (λ_=>T) B Zo none eo (cq s2 sc.st.adr (.join x)):=by
     refine Inv.back hW (by rw[eX];exact j2) hr hk (by rw[eX];exact Gf) ?_;unfold ia;rw[bw];exact⟨x,rfl,b2,b3,b4,b5,b6.grown pB (λ_=>an)⟩
    rw[eX]at hb;refine hQ eo _ hb pB.1 (λy l h1 h2=>?_) λfS e2 ic=>?_
    ·cases hy:gR loc p' (r,π++[f.id]) y with
     | none=>
       obtain⟨τ,_,rfl⟩:=mE.2 y l h1 hy;exact⟨τ,rfl⟩
     | some l'=>
       have h3:=mE.1 y l' hy;rw[h1]at h3;cases h3;unfold gR at hy;split at hy;· cases hy;exact⟨[],ax⟩
       · rw[h2]at hy;cases hy
    ·rw[hme]at ic;cases ic;rw[Et];exact tY fS
  ·refine hQ loc s h (ke.refl _) (λy l h1 h2=>by rw[h1]at h2;cases h2) λ_ e2 ic=>?_;rw[yM]at ic;rw[ic]at sB;cases sB
end
end
section
open Go Go.RowKit Classical
section
variable {S:fe} {I:ep->Prop} {C:fz} {T:bz} {Ta:Nat->bz} {B:Nat->List Int->bz×bz} {Zo:Nat->Prop} {ck:Option Nat} {loc:Loc} {s:Q7} {D:List Int}
theorem LK.reg {r k p:Nat} {π:List Int} {m:MS Nat Bool} (h:LK (some p) loc r k m)(hp:loc p=some (r,π))(hk:π.length=k):LK none loc r k (m.put p true):=λy=>by
 rw[MS.keys_put,h y];by_cases hy:y=p;· subst hy;simp only[true_or,true_iff];exact⟨⟨π,hp,hk⟩,ax⟩
 · simp[hy]
theorem LK.reg' {r U k p:Nat} {π:List Int} {m:MS Nat Bool} (h:LK (some p) loc U k m)(hp:loc p=some (r,π))(hk:U=r->π.length≠k):LK none loc U k m:=λy=>by
 rw[h y];by_cases hy:y=p
 ·subst hy;simp only[ne_eq,not_true_eq_false,and_false,false_iff,not_and,reduceCtorEq,not_false_eq_true,not_true_eq_false];rintro⟨ρ,h1,h2⟩;rw[hp]at h1;cases h1;exact hk rfl h2
 · simp[hy]
theorem Inv.reg (hW:nZ C) {p r:Nat} {π:List Int} {R:eO} {sc:eL} {o:PO} (h:Inv S C T Ta B Zo (some p) loc s)(hr:C.rows[r]? =some R)(hp:loc p=some (r,π))(hk:R.steps[π.length]? =some sc)(hz:¬Zo sc.st.adr)(ho:ia none loc r R π.length sc (some o))
  (hb:∀a x,sc.st=.nt a->s p=some (.part x)->∃bb m,x.blocks=some (bb,m)/\(∀i,i∈m.keys↔jx S sc (x.has,x.vals) (B r π).1 i)/\∀i v,m.look i=some v->v=true):Inv S C T Ta B Zo none loc (cq s sc.st.adr o):=by
 have h0:=h.step r R _ sc hr hk hz;have jC:π.length<R.steps.length:=(List.getElem?_eq_some_iff.1 hk).1
 have ne:∀b o',s b=some o'->(∀z,o'≠.join z)->(∀z,o'≠.nt z)->(∀z,o'≠.test z)->cq s sc.st.adr o b=some o':=λb o' hb c1 c2 c3=>by
  rw[QD];· exact hb
  ·intro e;subst e;unfold ia at h0;split at h0;· obtain⟨x,U,_⟩:=h0;rw[hb]at U;cases U;exact c1 _ rfl
   · obtain⟨x,U,_⟩:=h0;rw[hb]at U;cases U;exact c2 _ rfl
   · obtain⟨x,U,_⟩:=h0;rw[hb]at U;cases U;exact c3 _ rfl
 refine⟨?_,?_,?_,?_,?_,h.inj,h.root,h.le⟩
 ·obtain⟨x,a1,a2⟩:=h.net;exact⟨x,ne _ _ a1 (λ_ e=>by cases e) (λ_ e=>by cases e) (λ_ e=>by cases e),a2⟩
 ·intro r' R' cy;obtain⟨x,a1,a2,a3,a4,a5,a6⟩:=h.row r' R' cy;refine⟨x,ne _ _ a1 (λ_ e=>by cases e) (λ_ e=>by cases e) (λ_ e=>by cases e),a2,a3,a4,a5,a6.reg' hp λe=>?_⟩;subst e;rw[hr]at cy;cases cy;omega
 ·intro r' R' k' dh cy dx xB;by_cases e:dh.st.adr=sc.st.adr
  ·obtain⟨rfl,rfl⟩:=hW.steps _ _ _ _ _ _ _ _ cy hr dx hk e;rw[hr]at cy;cases cy;rw[hk]at dx;cases dx;rw[iN];exact ho
  ·rw [QD e];have h1:=h.step r' R' k' dh cy dx xB
   have db:r'=r->π.length≠k':=λU e2=>by
    subst U;subst e2;rw[hr]at cy;cases cy;rw[hk]at dx;cases dx;exact e rfl
   unfold ia at h1⊢;split at h1;· obtain⟨x,c1,c2,c3,c4,c5,c6⟩:=h1;exact⟨x,c1,c2,c3,c4,c5,c6.reg' hp db⟩
   · obtain⟨x,c1,c2,c3,c4,c5,c6⟩:=h1;exact⟨x,c1,c2,c3,c4,c5,c6.reg' hp db⟩
   · obtain⟨x,c1,c2,c3,c4,c5⟩:=h1;exact⟨x,c1,c2,c3,c4,c5⟩
 ·intro A hA;obtain⟨x,a1,a2⟩:=h.al A hA;exact⟨x,ne _ _ a1 (λ_ e=>by cases e) (λ_ e=>by cases e) (λ_ e=>by cases e),a2⟩
 ·intro q r' ρ hl;obtain⟨R',x,a1,a2,a3⟩:=h.part q r' ρ hl;refine⟨R',x,a1,ne _ _ a2 (λ_ e=>by cases e) (λ_ e=>by cases e) (λ_ e=>by cases e),⟨a3.env,a3.top,a3.up,a3.kids,λ_ dh a' U e2=>?_,a3.free,a3.kn⟩⟩;by_cases hq:q=p
  ·subst hq;rw[hp]at hl;cases hl;rw[hr]at a1;cases a1;rw[hk]at U;cases U;exact hb a' x e2 a2
  · exact a3.blocks (cw hq) dh a' U e2
theorem keys_in {r k p:Nat} {π:List Int} {m:MS Nat Bool} (h:Inv S C T Ta B Zo ck loc s)(hm:LK ck loc r k m)(hp:loc p=some (r,π)):∀y,y=p\/y∈m.keys->s y≠none:=λy hy=>by
 have:∃l:Nat×List Int,loc y=some l:=by
  rcases hy with rfl|hy;· exact⟨_,hp⟩
  ·obtain⟨⟨ρ,h1,_⟩,_⟩:=(hm y).1 hy;exact⟨_,h1⟩
 obtain⟨l,U⟩:=this;obtain⟨_,x,_,c2,_⟩:=h.part y l.1 l.2 U;rw[c2];simp
theorem OP {α:Type} {l:List α} {k:Nat} {x:α} (h:l[k]? =some x):l.drop k=x::l.drop (k+1):=by
 obtain⟨h1,U⟩:=List.getElem?_eq_some_iff.1 h;rw[List.drop_eq_getElem_cons h1,U]
theorem Gx {N a b:Nat} {s:Q7} {Q:List Qq->Prop} (e:a=b)(h:Vc N b s Q):Vc N a s Q:=e▸h
theorem xQ {N r k a p:Nat} {R:eO} {sc:eL} {π:List Int} {e:ep} {rc:Nat->Int->Nat->Q7->WM Q7} {Q:Q7->Prop} (hW:nZ C)(hlen:R.steps.length<9223372036854775807)(hN:B0<=N)(hND:D.length<N)(hT:il T D)(hD:D.length<=3518437208882)(hr:C.rows[r]? =some R)(hk:R.steps[k]? =some sc)(bw:sc.st=.join a)(cn:wE S I C T sc)(G0:UY S C T B I rc r R (k+1))
  (h:Inv S C T (λ_=>T) B Zo (some p) loc s) (hp:loc p=some (r,π)) (jb:π.length=k) (he:fE S T R.steps (R.hs,R.vs) π=some e) (hI:I e) (fG:∀y i,loc y≠some (r,π++[i])) (hZ:∀k' sc,k<=k'->R.steps[k']? =some sc->¬Zo sc.st.adr)
  (hQ:∀bf s',Inv S C T (λ_=>T) B Zo none bf s'->BL loc bf r π->(pX bf->iH S T bf r π (R.steps.drop k) e)->Q s'):Q4L N rc a p s Q:=by
 subst jb;have hz:=hZ _ sc (Nat.le_refl _) hk;have eX:sc.st.adr=a:=by rw[bw];rfl
 have h0:=h.step r R _ sc hr hk hz;unfold ia at h0;rw[bw]at h0;obtain⟨x,b1,b2,b3,b4,b5,b6⟩:=h0;have qa:s a=some (.join x):=b1;refine Qh (RG qa) ?_;refine fR (keys_in h b6 hp) ?_;refine lR ?_;have TN:=h.reg hW (o:=.join {x with parts:=x.parts.put p true}) hr hp hk hz (by unfold ia;rw[bw];exact⟨_,rfl,b2,b3,b4,b5,b6.reg hp rfl⟩) (λa' x' q1 _=>by rw[bw]at q1;cases q1);rw[eX]at TN;obtain⟨A,pz,LR,Tk⟩:=cn.al (λa' e'=>by rw[bw]at e';cases e');refine QR ?_;refine Gx (b2.trans LR.symm) ?_;refine Km (TN.al A pz) hT hND hD λl iU xu hl3=>?_;refine wQ (λ(u,s')=>u<=l.length/\∃bf,Inv S C T (λ_=>T) B Zo none bf s'/\ke loc bf/\(∀y z,bf y=some z->loc y=none->∃f U,f∈l.take u/\z=(r,π++[f.id]++U))/\(pX bf->∀f∈l.take u,∀e',S.mt sc.c e.1 e.2 f=some e'->iH S T bf r (π++[f.id]) (R.steps.drop (π.length+1)) e')) (λ(u,_)=>l.length-u) ?_ N (0,_) ⟨Nat.zero_le _,loc,TN,ke.refl _,(λy z h1 h2=>by rw[h1]at h2;cases h2),(λ_ f hf=>by cases hf)⟩ (by show l.length-0<N;omega);rintro⟨u,s'⟩ ag ⟨hu,cz,j9,yL,BW,CT⟩ eY;dsimp only at hu eY⊢;refine ig (λhb=>?_) (λhb=>?_)
 ·have bp:u<l.length:=of_decide_eq_true hb;obtain⟨f,hf⟩:∃f,l[u]? =some f:=⟨_,List.getElem?_eq_getElem bp⟩
  have hfm:=(xu f).1 (List.mem_of_getElem? hf);have fu:l.take (u+1)=l.take u++[f]:=by rw[List.take_add_one,hf];rfl
  have sG:∀g∈l.take u,g.id≠f.id:=λg hg e1=>by
   have h1:(l.take (u+1)).map (·.id)=(l.take u).map (·.id)++[f.id]:=by rw[fu];simp
   have h2:((l.take (u+1)).map (·.id)).Nodup:=List.Nodup.sublist (List.Sublist.map _ (List.take_sublist _ _)) iU;rw[h1]at h2;exact(List.nodup_append.1 h2).2.2 _ (List.mem_map.2 ⟨g,hg,rfl⟩) _ ax e1
  refine Qh hf ?_;refine QR ?_;refine PL hW hlen hN hr hk bw cn G0 j9 (yL _ _ hp) rfl he hI hfm.1 (λy hy=>?_) hZ λeo s2 j2 ic mE tY=>?_
  ·cases qN:loc y with
   |some z=>have:=yL _ _ qN;rw[hy]at this;cases this;exact fG _ _ qN
   | none=>
     obtain⟨g,U,q1,q2⟩:=BW y _ hy qN;simp only[Prod.mk.injEq,true_and,List.append_assoc,List.append_cancel_left_eq,List.cons_append,List.nil_append,List.cons.injEq]at q2;exact sG g q1 q2.1.symm
  ·refine fR (by have:=hT.len;omega) ?_;refine eY (u+1,s2) ⟨an,eo,j2,yL.trans ic,λy z h1 h2=>?_,λfS g hg e' pB=>?_⟩ an
   · cases TG:cz y with
     | some z'=>
       have:=ic _ _ TG;rw[h1]at this;cases this;obtain⟨g,U,q1,q2⟩:=BW y _ TG h2;exact⟨g,U,by rw[fu];exact List.mem_append_left _ q1,q2⟩
     | none=>
       obtain⟨U,q2⟩:=mE y z h1 TG;exact⟨f,U,by rw[fu];simp,q2⟩
   · rw[fu]at hg;rcases List.mem_append.1 hg with hg|hg;· exact(CT (Xh j9.cnt ic fS j2.cnt) g hg e' pB).mono ic
     · rw[List.mem_singleton.1 hg]at pB⊢;exact tY fS e' pB
 ·have pB:¬u<l.length:=of_decide_eq_false hb;have W3:l.take u=l:=List.take_of_length_le an;rw[W3]at BW CT;refine hQ cz s' j9 ⟨yL,λy z h1 h2=>?_⟩ λfS U fT=>?_
  ·obtain⟨f,U,_,rfl⟩:=BW y z h1 h2;exact⟨f.id::U,ax,ax⟩
  ·rw [OP hk]at fT;cases U with
   |nil=>exact⟨p,by simpa using yL _ _ hp⟩
   | cons i U=>
     simp only[fI,iV,bw]at fT;cases hTi:T i with
     |none=>rw[hTi]at fT;simp at fT
     | some f=>
       rw[hTi]at fT;simp only[Option.bind_some]at fT;cases hmf:S.mt sc.c e.1 e.2 f with
       |none=>rw[hmf]at fT;simp at fT
       | some e'=>
         rw[hmf]at fT;simp only[Option.bind_some]at fT;have hid:=(hT.mem i f hTi).2.1;have hfl:f∈l:=(xu f).2 ⟨by rw[hid];exact hTi,Tk f e e' hmf⟩;obtain⟨y,hy⟩:=CT fS f hfl e' hmf U fT;exact⟨y,by rw[hy,hid];simp⟩
end
end
section
open Go Go.RowKit Classical
theorem jk {A R:Type} {Q:R->Prop} {f:A->WM R} {g:(A->WM R)->WM R} (h:g f Q):jU f g Q:=h
section
variable {S:fe} {I:ep->Prop} {C:fz} {T:bz} {Ta:Nat->bz} {B:Nat->List Int->bz×bz} {Zo:Nat->Prop} {ck:Option Nat} {loc:Loc} {s:Q7} {D:List Int}
theorem Inv.setBlocks {B':Nat->List Int->bz×bz} {p r:Nat} {π:List Int} {R:eO} {x:ie} {bl:Option (Nat×MS Int Bool)} (h:Inv S C T Ta B Zo ck loc s)(hr:C.rows[r]? =some R)(hp:loc p=some (r,π))(hx:s p=some (.part x))(hB:∀U fc,(U,fc)≠(r,π)->B' U fc=B U fc)
  (hb:some p≠ck->∀sc a,R.steps[π.length]? =some sc->sc.st=.nt a->∃bb m,bl=some (bb,m)/\(∀i,i∈m.keys↔jx S sc (x.has,x.vals) (B' r π).1 i)/\∀i v,m.look i=some v->v=true)
  (hf:∀sc a,R.steps[π.length]? =some sc->sc.st=.nt a->(∃y i,loc y=some (r,π++[i]))->∀i,¬jx S sc (x.has,x.vals) (B' r π).2 i):Inv S C T Ta B' Zo ck loc (cq s p (.part {x with blocks:=bl})):=by
 have ne:∀b o',s b=some o'->(∀z,o'≠.part z)->cq s p (.part {x with blocks:=bl}) b=some o':=λb o' hb c1=>by
  rw[QD (λe=>by rw[e,hx]at hb;cases hb;exact c1 _ rfl)];exact hb
 refine⟨?_,?_,?_,?_,?_,h.inj,h.root,h.le⟩
 ·obtain⟨y,a1,a2⟩:=h.net;exact⟨y,ne _ _ a1 (λ_ e=>by cases e),a2⟩
 ·intro U R' cy;obtain⟨y,a1,a2⟩:=h.row U R' cy;exact⟨y,ne _ _ a1 (λ_ e=>by cases e),a2⟩
 ·intro U R' k' dh cy dx xB;have h1:=h.step U R' k' dh cy dx xB;unfold ia at h1⊢;split at h1;· obtain⟨y,c1,c2⟩:=h1;exact⟨y,ne _ _ c1 (λ_ e=>by cases e),c2⟩
  · obtain⟨y,c1,c2⟩:=h1;exact⟨y,ne _ _ c1 (λ_ e=>by cases e),c2⟩
  · obtain⟨y,c1,c2⟩:=h1;exact⟨y,ne _ _ c1 (λ_ e=>by cases e),c2⟩
 ·intro A hA;obtain⟨y,a1,a2⟩:=h.al A hA;exact⟨y,ne _ _ a1 (λ_ e=>by cases e),a2⟩
 ·intro q U ρ hl;obtain⟨R',y,a1,a2,a3⟩:=h.part q U ρ hl;by_cases hq:q=p
  ·subst hq;rw[hp]at hl;cases hl;rw[hr]at a1;cases a1;rw[hx]at a2;cases a2;exact⟨R,_,hr,iN _ _ _,⟨a3.env,a3.top,a3.up,a3.kids,hb,hf,a3.kn⟩⟩
  ·have db:(U,ρ)≠(r,π):=λe=>hq (h.inj _ _ _ (by rw[<-e];exact hl) hp);refine⟨R',y,a1,(by rw[QD hq];exact a2),⟨a3.env,a3.top,a3.up,a3.kids,?_,?_,a3.kn⟩⟩;· rw[hB _ _ db];exact a3.blocks
   · rw[hB _ _ db];exact a3.free
theorem sW {N r k a p:Nat} {R:eO} {sc:eL} {π:List Int} {e:ep} {rc:Nat->Int->Nat->Q7->WM Q7} {Q:Q7->Prop} (hW:nZ C)(hlen:R.steps.length<9223372036854775807)(hr:C.rows[r]? =some R)(hk:R.steps[k]? =some sc)(bw:sc.st=.nt a)(G0:UY S C T B I rc r R (k+1))
  (h:Inv S C T (λ_=>T) B Zo none loc s) (hp:loc p=some (r,π)) (jb:π.length=k) (he:fE S T R.steps (R.hs,R.vs) π=some e) (hI:I e) (hB:B r π=(T,T)) (fG:∀y i,loc y≠some (r,π++[i])) (hZ:∀k' sc,k<=k'->R.steps[k']? =some sc->¬Zo sc.st.adr)
  (hQ:∀bf s',Inv S C T (λ_=>T) B Zo none bf s'->BL loc bf r π->(pX bf->iH S T bf r π (R.steps.drop k) e)->Q s'):Rm N rc a p s Q:=by
 subst jb;have hz:=hZ _ sc (Nat.le_refl _) hk;have eX:sc.st.adr=a:=by rw[bw];rfl
 have h0:=h.step r R _ sc hr hk hz;unfold ia at h0;rw[bw]at h0;obtain⟨x,b1,b2,b3,b4,b5,b6⟩:=h0;have qa:s a=some (.nt x):=b1;obtain⟨R',z,c1,c2,c3,c4⟩:=h.gPart hp;rw[hr]at c1;cases c1;have yM:e=(z.has,z.vals):=Option.some.inj (he.symm.trans c4.env);obtain⟨bb,m,m1,m2,m3⟩:=c4.blocks ax sc a hk bw;rw[hB,<-yM]at m2;dsimp only at m2;have zS:(∀τ:List Int,fI S T (R.steps.drop π.length) e τ≠none->τ=[])->Rm N rc a p s Q->Rm N rc a p s Q:=λ_ h=>h;refine jk ?_;refine Qh c2 ?_;refine Qh m1 ?_;have jC:π.length<R.steps.length:=(List.getElem?_eq_some_iff.1 hk).1;refine ig (λhb=>?_) (λhb=>?_)
 ·have mF:∀i,¬jx S sc e T i:=λi hi=>by
    have:=(m2 i).2 hi
    have h0:m.es=[]:=by
     have:m.es.length=0:=by simpa using hb
     exact List.eq_nil_of_length_eq_zero this
    simp[MS.keys,h0]at this
  refine Qh (LG qa) ?_;refine QR ?_;rw[b3];refine CK h hr λn hn=>?_;refine ig (λhf=>?_) (λhf=>?_)
  · have hnn:¬4096<n:=by simpa using hf
    refine Qh (LG qa) ?_;refine Qh c2 ?_;refine fR (by rw[b4];omega) ?_;refine QR ?_;rw[b3,b4]
    have PC:fE S T R.steps (R.hs,R.vs) (π++[0])=some (z.has,z.vals):=by
     rw[Xr,he];simp only[Option.bind_some,hk,fU,bw,if_true,yM]
    have mB:=h.del hW hr hk hz;rw[eX]at mB;refine JU (p0:=0) mB hr hp he PC (λy=>fG y 0) (λdh a' q1 q2=>by rw[hk]at q1;cases q1;rw[hB];exact mF) (λm hm=>by have:=hm.unique hn;omega) λp' s1 dc j9=>?_;refine QR ?_;have zH:(π.length:Int)+1=((π.length+1:Nat):Int):=an
    rw[zH];refine G0 _ _ s1 p' (π++[0]) (z.has,z.vals) _ j9 lp ax PC (by rw[<-yM];exact hI) (λy i hy=>?_) (λk' dh dx Ey=>?_) λeo s2 j2 mE tY=>?_
    ·unfold gR at hy;split at hy
     · simp only[Option.some.injEq,Prod.mk.injEq,true_and]at hy;have:=congrArg List.length hy;simp at this
     · obtain⟨R',z',_,_,h4⟩:=h.part _ _ _ hy;obtain⟨_,q2,_,h5⟩:=h4.up _ _ rfl;exact fG _ _ h5
    ·rintro(hh|hh);· exact hZ k' dh an Ey hh
     · have:=(hW.steps r r R R k' _ dh sc hr hr Ey hk (by rw[hh,eX])).2;omega
    ·refine lR (jB λGf=>?_)
     have pB:BL loc eo r π:=⟨(oF dc).trans mE.1,λy l h1 h2=>by
       cases hy:gR loc p' (r,π++[0]) y with
       | none=>
         obtain⟨τ,_,rfl⟩:=mE.2 y l h1 hy;exact⟨0::τ,ax,ax⟩
       | some l'=>
         have h3:=mE.1 y l' hy;rw[h1]at h3;cases h3;unfold gR at hy;split at hy;· cases hy;exact⟨[0],ax,rfl⟩
         · rw[h2]at hy;cases hy⟩
     have hb:Inv S C T (λ_=>T) B Zo none eo (cq s2 sc.st.adr (.nt x)):=by
       refine Inv.back hW (by rw[eX];exact j2) hr hk (by rw[eX];exact Gf) ?_;unfold ia;rw[bw];exact⟨x,rfl,b2,b3,b4,b5,b6.grown pB (λ_=>an)⟩
     rw[eX]at hb;refine hQ eo _ hb pB λfS τ U=>?_
     rw[OP hk]at U;cases τ with
     |nil=>exact⟨p,by simpa using pB.1 _ _ hp⟩
     | cons i τ=>
       simp only[fI,iV,bw]at U;by_cases hi:i=0
       · subst hi;rw[if_pos ⟨rfl,mF⟩]at U;simp only[Option.bind_some]at U;rw[yM]at U;obtain⟨y,hy⟩:=tY fS τ U;exact⟨y,by rw[hy];simp⟩
       · rw[if_neg (λhh=>hi hh.1)]at U;simp at U
  · have hnn:4096<n:=by simpa using hf
    exact hQ loc s h (BL.refl _ _ _) λfS=>by have:=fS n hn;omega
 ·refine z6 rfl ?_;refine hQ loc s h (BL.refl _ _ _) λfS τ U=>?_;rw[OP hk]at U;cases τ with
  |nil=>exact⟨p,by simpa using hp⟩
  | cons i τ=>
    exfalso;simp only[fI,iV,bw]at U;have db:m.es≠[]:=λe1=>by simp[e1]at hb
    obtain⟨y,l,hl⟩:=List.exists_cons_of_ne_nil db;have hy:y.1∈m.keys:=by simp[MS.keys,hl]
    rw[if_neg (λhh=>hh.2 y.1 ((m2 _).1 hy))]at U;simp at U
end
end
section
open Go Go.RowKit Classical
section
variable {S:fe} {I:ep->Prop} {C:fz} {T:bz} {Ta:Nat->bz} {B:Nat->List Int->bz×bz} {Zo:Nat->Prop} {ck:Option Nat} {loc:Loc} {s:Q7} {D:List Int}
theorem Inv.regT {a p r:Nat} {π:List Int} {R:eO} {sc:eL} (h:Inv S C T Ta B Zo (some p) loc s)(hr:C.rows[r]? =some R)(hp:loc p=some (r,π))(hk:R.steps[π.length]? =some sc)(bw:sc.st=.test a):Inv S C T Ta B Zo none loc s:=by
 have jC:π.length<R.steps.length:=(List.getElem?_eq_some_iff.1 hk).1;refine⟨h.net,?_,?_,h.al,?_,h.inj,h.root,h.le⟩
 ·intro r' R' U;obtain⟨x,a1,a2,a3,a4,a5,a6⟩:=h.row r' R' U;refine⟨x,a1,a2,a3,a4,a5,a6.reg' hp λe=>?_⟩;subst e;rw[hr]at U;cases U;omega
 ·intro r' R' k' dh U dx xB;have h1:=h.step r' R' k' dh U dx xB
  have db:(∀b,dh.st≠.test b)->r'=r->π.length≠k':=λhh e1 e2=>by
   subst e1;subst e2;rw[hr]at U;cases U;rw[hk]at dx;cases dx;exact hh a bw
  unfold ia at h1⊢;split at h1
  ·rename_i b hb;obtain⟨x,c1,c2,c3,c4,c5,c6⟩:=h1;exact⟨x,c1,c2,c3,c4,c5,c6.reg' hp (db λb' e=>by rw[hb]at e;cases e)⟩
  ·rename_i b hb;obtain⟨x,c1,c2,c3,c4,c5,c6⟩:=h1;exact⟨x,c1,c2,c3,c4,c5,c6.reg' hp (db λb' e=>by rw[hb]at e;cases e)⟩
  · exact h1
 ·intro q r' ρ hl;obtain⟨R',x,a1,a2,a3⟩:=h.part q r' ρ hl;refine⟨R',x,a1,a2,⟨a3.env,a3.top,a3.up,a3.kids,λ_ dh a' e1 e2=>?_,a3.free,a3.kn⟩⟩;by_cases hq:q=p
  ·subst hq;rw[hp]at hl;cases hl;rw[hr]at a1;cases a1;rw[hk]at e1;cases e1;rw[bw]at e2;cases e2
  · exact a3.blocks (cw hq) dh a' e1 e2
theorem yr {N r k a p:Nat} {R:eO} {sc:eL} {π:List Int} {e:ep} {rc:Nat->Int->Nat->Q7->WM Q7} {Q:Q7->Prop} (hW:nZ C)(hlen:R.steps.length<9223372036854775807)(hN:B0<=N)(hr:C.rows[r]? =some R)(hk:R.steps[k]? =some sc)(bw:sc.st=.test a)(cn:wE S I C T sc)(G0:UY S C T B I rc r R (k+1))
  (h0:Inv S C T (λ_=>T) B Zo (some p) loc s) (hp:loc p=some (r,π)) (jb:π.length=k) (he:fE S T R.steps (R.hs,R.vs) π=some e) (hI:I e) (fG:∀y i,loc y≠some (r,π++[i])) (hZ:∀k' sc,k<=k'->R.steps[k']? =some sc->¬Zo sc.st.adr)
  (hQ:∀bf s',Inv S C T (λ_=>T) B Zo none bf s'->BL loc bf r π->(pX bf->iH S T bf r π (R.steps.drop k) e)->Q s'):Q4M N rc a p s Q:=by
 subst jb;have h:=h0.regT hr hp hk bw;have hz:=hZ _ sc (Nat.le_refl _) hk;have eX:sc.st.adr=a:=by rw[bw];rfl
 have h1:=h.step r R _ sc hr hk hz;unfold ia at h1;rw[bw]at h1;obtain⟨x,b1,b3,b4,b5,b6⟩:=h1;have qa:s a=some (.test x):=b1;obtain⟨R',z,c1,c2,c3,c4⟩:=h.gPart hp;rw[hr]at c1;cases c1;have yM:e=(z.has,z.vals):=Option.some.inj (he.symm.trans c4.env);have jC:π.length<R.steps.length:=(List.getElem?_eq_some_iff.1 hk).1;obtain⟨kk,n,sx,zz,d1,d2⟩:=cn.ev a bw N hN e hI;rw[yM]at d1;refine Qh (su qa) ?_;refine Qh c2 ?_;rw[b5];refine Qh d1 ?_;refine jk ?_
 have stop:S.ev sc.c e.2=false->Q s:=λHl=>hQ loc s h (BL.refl _ _ _) λ_ τ U=>by
  rw[OP hk]at U;cases τ with
  |nil=>exact⟨p,by simpa using hp⟩
  | cons i τ=>
    exfalso;simp only[fI,iV,bw]at U;rw[if_neg (λhh=>by rw[Hl]at hh;cases hh.2)]at U;simp at U
 refine ig (λTq=>?_) (λTq=>z6 rfl (stop (by rw[d2,Tq];rfl)));refine ig (λsB=>?_) (λsB=>z6 rfl (stop (by rw[d2,Tq,sB];rfl)));refine ig (λLS=>?_) (λLS=>z6 rfl (stop (by rw[d2,Tq,sB,LS];rfl)));have Hl:S.ev sc.c e.2=true:=by rw[d2,Tq,sB,LS];rfl
 refine QR ?_;rw[b3];refine CK h hr λn hn=>?_;refine ig (λhf=>?_) (λhf=>hQ loc s h (BL.refl _ _ _) λfS=>by have hnn:4096<n:=(cw hf);have:=fS n hn;omega);have hnn:¬4096<n:=by simpa using hf
 refine Qh (su qa) ?_;refine Qh c2 ?_;refine fR (by rw[b4];omega) ?_;refine QR ?_;rw[b3,b4]
 have PC:fE S T R.steps (R.hs,R.vs) (π++[0])=some (z.has,z.vals):=by
  rw[Xr,he];simp only[Option.bind_some,hk,fU,bw];rw[if_pos ⟨trivial,Hl⟩,yM]
 have mB:=h.del hW hr hk hz;rw[eX]at mB;refine JU (p0:=0) mB hr hp he PC (λy=>fG y 0) (λdh a' q1 q2=>by rw[hk]at q1;cases q1;rw[bw]at q2;cases q2) (λm hm=>by have:=hm.unique hn;omega) λp' s1 dc j9=>?_;refine QR ?_;have zH:(π.length:Int)+1=((π.length+1:Nat):Int):=an
 rw[zH];refine G0 _ _ s1 p' (π++[0]) (z.has,z.vals) _ j9 lp ax PC (by rw[<-yM];exact hI) (λy i hy=>?_) (λk' dh dx Ey=>?_) λeo s2 j2 mE tY=>?_
 ·unfold gR at hy;split at hy
  · simp only[Option.some.injEq,Prod.mk.injEq,true_and]at hy;have:=congrArg List.length hy;simp at this
  · obtain⟨R',z',_,_,h4⟩:=h.part _ _ _ hy;obtain⟨_,q2,_,h5⟩:=h4.up _ _ rfl;exact fG _ _ h5
 ·rintro(hh|hh);· exact hZ k' dh an Ey hh
  · have:=(hW.steps r r R R k' _ dh sc hr hr Ey hk (by rw[hh,eX])).2;omega
 ·refine lR (jB λGf=>?_)
  have pB:BL loc eo r π:=⟨(oF dc).trans mE.1,λy l h1 h2=>by
    cases hy:gR loc p' (r,π++[0]) y with
    | none=>
      obtain⟨τ,_,rfl⟩:=mE.2 y l h1 hy;exact⟨0::τ,ax,ax⟩
    | some l'=>
      have h3:=mE.1 y l' hy;rw[h1]at h3;cases h3;unfold gR at hy;split at hy;· cases hy;exact⟨[0],ax,rfl⟩
      · rw[h2]at hy;cases hy⟩
  have hb:Inv S C T (λ_=>T) B Zo none eo (cq s2 sc.st.adr (.test x)):=by
    refine Inv.back hW (by rw[eX];exact j2) hr hk (by rw[eX];exact Gf) ?_;unfold ia;rw[bw];exact⟨x,rfl,b3,b4,b5,b6⟩
  rw[eX]at hb;refine hQ eo _ hb pB λfS τ U=>?_
  rw[OP hk]at U;cases τ with
  |nil=>exact⟨p,by simpa using pB.1 _ _ hp⟩
  | cons i τ=>
    simp only[fI,iV,bw]at U;by_cases hi:i=0
    · subst hi;rw[if_pos ⟨rfl,Hl⟩]at U;simp only[Option.bind_some]at U;rw[yM]at U;obtain⟨y,hy⟩:=tY fS τ U;exact⟨y,by rw[hy];simp⟩
    · rw[if_neg (λhh=>hi hh.1)]at U;simp at U
end
end
section
open Go Go.RowKit Classical
section
variable {S:fe} {I:ep->Prop} {C:fz} {T:bz} {Ta:Nat->bz} {B:Nat->List Int->bz×bz} {Zo:Nat->Prop} {ck:Option Nat} {loc:Loc} {s:Q7} {D:List Int}
theorem oP {a:Nat} {o:PO}:cq s a o a=some o:=iN _ _ _
theorem Lc {a b:Nat} {o o':PO} (h:a≠b):cq (cq s a o) b o'=cq (cq s b o') a o:=by
 funext c;by_cases h1:c=b
 ·subst h1;rw[iN,QD (λe=>h e.symm),iN]
 ·by_cases U:c=a
  ·subst U;rw[QD h1,iN,iN]
  · rw[QD h1,QD U,QD U,QD h1]
theorem Au {N r k a p:Nat} {R:eO} {sc:eL} {π:List Int} {e:ep} {rc:Nat->Int->Nat->Q7->WM Q7} {Q:Q7->Prop} (hW:nZ C)(hlen:R.steps.length<9223372036854775807)(hN:B0<=N)(hND:D.length<N)(hT:il T D)(hr:C.rows[r]? =some R)(hk:R.steps[k]? =some sc)(bw:sc.st=.nt a)(cn:wE S I C T sc)(G0:UY S C T B I rc r R (k+1))
  (h:Inv S C T (λ_=>T) B Zo (some p) loc s) (hp:loc p=some (r,π)) (jb:π.length=k) (he:fE S T R.steps (R.hs,R.vs) π=some e) (hI:I e) (hB:B r π=(T,T)) (fG:∀y i,loc y≠some (r,π++[i])) (hZ:∀k' sc,k<=k'->R.steps[k']? =some sc->¬Zo sc.st.adr)
  (hQ:∀bf s',Inv S C T (λ_=>T) B Zo none bf s'->BL loc bf r π->(pX bf->iH S T bf r π (R.steps.drop k) e)->Q s'):Q52 N rc a p s Q:=by
 subst jb;have hz:=hZ _ sc (Nat.le_refl _) hk;have eX:sc.st.adr=a:=by rw[bw];rfl
 have h0:=h.step r R _ sc hr hk hz;unfold ia at h0;rw[bw]at h0;obtain⟨x,b1,b2,b3,b4,b5,b6⟩:=h0;have qa:s a=some (.nt x):=b1;obtain⟨R',z,c1,c2,c3,c4⟩:=h.gPart hp;rw[hr]at c1;cases c1;have yM:e=(z.has,z.vals):=Option.some.inj (he.symm.trans c4.env);have sy:a≠p:=λe1=>by rw[e1,c3]at qa;cases qa
 obtain⟨A,pz,LR,Tk⟩:=cn.al (λa' e'=>by rw[bw]at e';cases e');obtain⟨xA,d1,d2,d3,d4,d5⟩:=h.al A pz;have hAa:A.b≠a:=λe1=>by rw[e1,qa]at d1;cases d1
 have hAp:A.b≠p:=λe1=>by rw[e1,c3]at d1;cases d1
 have qc:∀i,i∈xA.facts.keys↔∃f,T i=some f/\hasB A f=true:=λi=>by
  rw[MS.look_iff];constructor;· rintro⟨f,hf⟩;rw[d5]at hf;exact⟨f,by simpa using hf⟩
  · rintro⟨f,BV,zL⟩;exact⟨f,by rw[d5];simp[BV,zL]⟩
 have jC:xA.facts.keys.length<=D.length:=GV d4 λi hi=>by
  obtain⟨f,hf,_⟩:=(qc i).1 hi;exact(hT.mem i f hf).1
 have a0S:∀U:MS Int Bool,∀g:Nat,(∀i,i∈U.keys↔jx S sc e T i)->(∀i v,U.look i=some v->v=true)->Inv S C T (λ_=>T) B Zo none loc (cq (cq s a (.nt {x with parts:=x.parts.put p true})) p (.part {z with blocks:=some (g,U)})):=λU g W0 Pw=>by
  rw[Lc sy];have q1:Inv S C T (λ_=>T) B Zo (some p) loc (cq s p (.part {z with blocks:=some (g,U)})):=h.setBlocks hr hp c3 (λ_ _ _=>rfl) (λhh=>absurd rfl hh) (λ_ _ _ _ ⟨y,i,hy⟩=>absurd hy (fG y i))
  have:=q1.reg hW (o:=.nt {x with parts:=x.parts.put p true}) hr hp hk hz (by unfold ia;rw[bw];exact⟨_,rfl,b2,b3,b4,b5,b6.reg hp rfl⟩) (λa' x' _ lU=>by
   rw[iN]at lU;cases lU;refine⟨g,U,rfl,λi=>?_,Pw⟩;rw[W0 i,hB,yM])
  rw[eX]at this;exact this
 refine Qh (LG qa) ?_;refine fR (keys_in h b6 hp) ?_;refine lR ?_;refine Qh (a:=z) (by rw[qK (Ne.symm sy)];exact c2) ?_;refine ud λg15=>lR ?_;refine jk ?_;refine Qh (a:={x with parts:=x.parts.put p true}) (by rw[CM sy];exact LG oP) ?_;have G2:x.alpha=A.b:=b2.trans LR.symm;refine Qh (a:=xA) (by show tX _ x.alpha=_;rw[G2,mz hAp,mz hAa];exact VD d1) ?_;refine wQ (λ(b,m,d,s')=>b=xA.factsA/\m=xA.facts/\d.Nodup/\(∀i∈d,i∈xA.facts.keys)/\∃U:MS Int Bool,s'=cq (cq s a (.nt {x with parts:=x.parts.put p true})) p (.part {z with blocks:=some (g15,U)})/\(∀i,i∈U.keys↔i∈d/\jx S sc e T i)/\∀i v,U.look i=some v->v=true) (λ(_,_,d,_)=>xA.facts.keys.length-d.length) ?_ N (xA.factsA,xA.facts,[],_) ⟨rfl,rfl,List.nodup_nil,(λi hi=>by cases hi),MS.nil,rfl,(λi=>⟨λhi=>absurd hi MS.keys_nil,λhi=>by cases hi.1⟩),λi v hv=>by simp[MS.look,MS.nil,fW]at hv⟩ (by show xA.facts.keys.length-0<N;omega);rintro⟨b,m,d,s'⟩ ag ⟨rfl,rfl,jY,mC,U,rfl,W0,Pw⟩ eY;dsimp only at jY mC eY⊢;refine Qh (a:=xA) (by show tX _ x.alpha=_;rw[G2,mz hAp,mz hAa];exact VD d1) ?_;refine fR ⟨rfl,rfl⟩ ?_;refine OY (λej=>?_) λi hi hid=>?_
 ·refine QR ?_
  have a0K:∀i,i∈U.keys↔jx S sc e T i:=λi=>by
   rw[W0];refine⟨λhh=>hh.2,λhh=>⟨?_,hh⟩⟩;obtain⟨f,f1,f2⟩:=hh;obtain⟨e',Et⟩:=Option.isSome_iff_exists.1 f2;exact ej i ((qc i).2 ⟨f,f1,Tk f e e' Et⟩)
  exact sW hW hlen hr hk bw G0 (a0S U g15 a0K Pw) hp rfl he hI hB fG hZ hQ
 ·obtain ⟨f,f1,f2⟩:=(qc i).1 hi;have VX:=(hT.mem i f f1).2.1
  have bp:d.length<xA.facts.keys.length:=by
   have:=GV (List.nodup_cons.2 ⟨hid,jY⟩) (l:=xA.facts.keys) (by
    intro j hj;rcases List.mem_cons.1 hj with rfl|hj;· exact hi
    · exact mC j hj)
   simp only[List.length_cons]at this;omega
  refine Qh (a:=f) (by rw[d5];simp[f1,f2]) ?_;refine Qh (a:={x with parts:=x.parts.put p true}) (by rw[CM sy];exact LG oP) ?_;refine Qh (a:={z with blocks:=some (g15,U)}) (Jf oP) ?_;obtain⟨ha,hv,q1,q2⟩:=cn.mt (λa' e'=>by rw[bw]at e';cases e') N hN f (by rw[VX];exact f1) e hI;rw[yM]at q1
  refine Qh (a:=(ha,hv,(S.mt sc.c (z.has,z.vals).1 (z.has,z.vals).2 f).isSome)) (by
   show Lt N x.cond.kind x.cond.type x.cond.args x.cond.test.kind x.cond.test.value.k x.cond.test.value.n x.cond.test.value.s x.cond.test.var x.cond.test.op x.cond.test.kids f.id f.ty f.args z.has z.vals=_;rw[b5];exact q1) ?_
  have G7:(d++[i]).Nodup:=List.nodup_append.2 ⟨jY,ax,λy hy w hw e1=>hid (by simp at hw;rw[<-hw,<-e1];exact hy)⟩
  have gI:∀j∈d++[i],j∈xA.facts.keys:=λj hj=>by
   rcases List.mem_append.1 hj with hj|hj;· exact mC j hj
   · rw[List.mem_singleton.1 hj];exact hi
  refine ig (λhb=>?_) (λhb=>?_)
  ·refine Qh (a:=(g15,U)) rfl ?_;refine lR ?_;refine eY _ ⟨rfl,rfl,G7,gI,U.put i true,r8,λj=>?_,λj v hv=>?_⟩ (by show xA.facts.keys.length-(d++[i]).length<_;simp only[List.length_append,List.length_cons,List.length_nil];omega)
   ·rw[MS.keys_put,W0,List.mem_append,List.mem_singleton];by_cases hj:j=i
    ·subst hj;simp only[true_or,true_iff,or_true,true_and];exact⟨f,f1,by rw[yM];exact hb⟩
    · simp[hj]
   ·rw[MS.look_put]at hv;split at hv;· cases hv;rfl
    · exact Pw j v hv
  ·refine eY _ ⟨rfl,rfl,G7,gI,U,rfl,λj=>?_,Pw⟩ (by show xA.facts.keys.length-(d++[i]).length<_;simp only[List.length_append,List.length_cons,List.length_nil];omega);rw[W0,List.mem_append,List.mem_singleton];by_cases hj:j=i
   ·subst hj;simp only[or_true,true_and,iff_false_intro hid,false_and,false_iff,false_or];rintro⟨g,g1,g2⟩;rw[f1]at g1;cases g1;rw[yM]at g2;rw[g2]at hb;cases hb
   · simp[hj]
end
end
section
open Go Go.RowKit Classical
section
variable {S:fe} {I:ep->Prop} {C:fz} {T:bz} {Ta:Nat->bz} {B:Nat->List Int->bz×bz} {Zo:Nat->Prop} {ck:Option Nat} {loc:Loc} {s:Q7} {D:List Int}
theorem Inv.regW (hW:nZ C) {p r:Nat} {π:List Int} {R:eO} {y:mg} (h:Inv S C T Ta B Zo (some p) loc s)(hr:C.rows[r]? =some R)(hp:loc p=some (r,π))(hk:π.length=R.steps.length)(hy:s R.b=some (.row y)):Inv S C T Ta B Zo none loc (cq s R.b (.row {y with whole:=y.whole.put p true})):=by
 have ne:∀b o',s b=some o'->(∀z,o'≠.row z)->cq s R.b (.row {y with whole:=y.whole.put p true}) b=some o':=λb o' hb c1=>by
  rw[QD (λe=>by rw[e,hy]at hb;cases hb;exact c1 _ rfl)];exact hb
 refine⟨?_,?_,?_,?_,?_,h.inj,h.root,h.le⟩
 ·obtain⟨x,U,a2⟩:=h.net;exact⟨x,ne _ _ U (λ_ e=>by cases e),a2⟩
 ·intro r' R' cy;obtain⟨x,U,a2,a3,a4,a5,a6⟩:=h.row r' R' cy;by_cases e:R'.b=R.b
  ·obtain rfl:=hW.rows _ _ _ _ cy hr e;rw[hr]at cy;cases cy;rw[hy]at U;cases U;exact⟨{y with whole:=y.whole.put p true},iN _ _ _,a2,a3,a4,a5,a6.reg hp hk⟩
  ·refine⟨x,(by rw[QD e];exact U),a2,a3,a4,a5,a6.reg' hp λe1=>?_⟩;subst e1;rw[hr]at cy;cases cy;exact absurd rfl e
 ·intro r' R' k' dh cy dx xB;have h1:=h.step r' R' k' dh cy dx xB
  have db:r'=r->π.length≠k':=λe1 e2=>by
   subst e1;rw[hr]at cy;cases cy;have:=(List.getElem?_eq_some_iff.1 dx).1;omega
  unfold ia at h1⊢;split at h1;· obtain⟨x,c1,c2,c3,c4,c5,c6⟩:=h1;exact⟨x,ne _ _ c1 (λ_ e=>by cases e),c2,c3,c4,c5,c6.reg' hp db⟩
  · obtain⟨x,c1,c2,c3,c4,c5,c6⟩:=h1;exact⟨x,ne _ _ c1 (λ_ e=>by cases e),c2,c3,c4,c5,c6.reg' hp db⟩
  · obtain⟨x,c1,c2⟩:=h1;exact⟨x,ne _ _ c1 (λ_ e=>by cases e),c2⟩
 ·intro A hA;obtain⟨x,U,a2⟩:=h.al A hA;exact⟨x,ne _ _ U (λ_ e=>by cases e),a2⟩
 ·intro q r' ρ hl;obtain⟨R',x,U,a2,a3⟩:=h.part q r' ρ hl;refine⟨R',x,U,ne _ _ a2 (λ_ e=>by cases e),⟨a3.env,a3.top,a3.up,a3.kids,λ_ dh a' e1 e2=>?_,a3.free,a3.kn⟩⟩;by_cases hq:q=p
  ·subst hq;rw[hp]at hl;cases hl;rw[hr]at U;cases U;have:=(List.getElem?_eq_some_iff.1 e1).1;omega
  · exact a3.blocks (cw hq) dh a' e1 e2
theorem NY {r:Nat} {R:eO} (hW:nZ C)(hlen:R.steps.length<9223372036854775807)(hT:il T D)(hD:D.length<=3518437208882)(U:C.rows[r]? =some R)(cn:∀sc∈R.steps,wE S I C T sc):∀(d k:Nat),k+d=R.steps.length->(∀π:List Int,k<=π.length->B r π=(T,T))->∀N,B0+D.length+d+1<N->UY S C T B I (GS N) r R k
 |d,k,hd,hB,0,hN=>an
 | d,k,hd,hB,N+1,hN=>by
   intro Zo loc s p π e Q h hp jb he hI fG hZ hQ;show Q6U N (GS N) R.b (k:Int) p s Q;obtain⟨y,h1,h2,h3,h4,h5,h6,h7⟩:=h.gRow U;have PF:y.steps.length=R.steps.length:=by rw[h4];simp
   refine Qh h1 ?_;refine ig (λhb=>?_) (λhb=>?_)
   ·have hkn:k=R.steps.length:=by rw[PF]at hb;have h9:(k:Int)=(R.steps.length:Int):=(cw hb);omega
    refine fR (keys_in h h7 hp) ?_;refine lR ?_;refine hQ loc _ (h.regW hW U hp an h2) (BL.refl _ _ _) λ_ τ fT=>?_;rw[hkn,List.drop_length]at fT;cases τ with
    |nil=>exact⟨p,by simpa using hp⟩
    |cons i τ=>simp[fI]at fT
   ·have hkn:k≠R.steps.length:=λe1=>by rw[PF,e1]at hb;simp at hb
    have bp:k<R.steps.length:=an
    obtain⟨sc,ez⟩:∃sc,R.steps[k]? =some sc:=⟨_,List.getElem?_eq_getElem bp⟩
    obtain⟨d',rfl⟩:∃d',d=d'+1:=⟨d-1,an⟩
    have G0:=NY hW hlen hT hD U cn d' (k+1) an (λfc Zt=>hB fc an) N an;have G8:=cn sc (List.mem_of_getElem? ez);refine fR an ?_;refine Qh (a:=sc.st) (by rw[h4,Int.toNat_natCast,List.getElem?_map,ez];rfl) ?_;cases bw:sc.st with
    | join a=>
      refine jG (QR ?_);exact xQ hW hlen (by unfold B0 at*;omega) an hT hD U ez bw G8 G0 h hp jb he hI fG hZ hQ
    | nt a=>
      refine jH (QR ?_);exact Au hW hlen (by unfold B0 at*;omega) an hT U ez bw G8 G0 h hp jb he hI (hB π an) fG hZ hQ
    | test a=>
      refine jI (QR ?_);exact yr hW hlen (by unfold B0 at*;omega) U ez bw G8 G0 h hp jb he hI fG hZ hQ
end
end
end Go.Proofs.YtocfkfhdcnjklaaGreatDoor
