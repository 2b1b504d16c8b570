import Derived.Test.YtocfkfhdcnjklaaGreatDoorSq
namespace Go.Proofs.YtocfkfhdcnjklaaGreatDoor
section
open Go Go.RowKit
noncomputable section
def OZ (_:Nat)(h:Nat)(s1:Q8):WM Bool:=
 Qu (gRow s1 h) λq=>
 Qu (gNet s1 q.net) λs=>
 eG (decide (s.parts>4096))
def Mx (_:Nat)(a0:Nat)(U:Nat)(l2:List Bool)(l3:List V)(a4:Int)(s5:Q8):WM (Nat×Q8):=
 kA λ(a3:Nat)=>
 qn s5 (λh=>PO.part ⟨l2,l3,(some U),a4,(MS.nil:MS Nat Bool),a3,none⟩) λh s1=>
 Qu (gPart s1 U) λs=>
 eU (∀y,y=h\/y∈s.kids.keys->s1 y≠none)<|
 gR (cq s1 U (PO.part ({s with kids:=MS.put s.kids h true}))) λs2=>
 Qu (gRow s2 a0) λz=>
 Qu (gNet s2 z.net) λq=>
 eU (-9223372036854775808<=q.parts+1/\q.parts+1<=9223372036854775807)<|
 gR (cq s2 z.net (PO.net ({q with parts:=q.parts+1}))) λs3=>
 eG (h,s3)
def X7 (_:Nat)(s:Nat)(z:Nat)(h:Q8):WM Q8:=
 Qu (iz h s) λq=>
 eU (∀y,y=z\/y∈q.parts.keys->h y≠none)<|
 gR (cq h s (PO.join ({q with parts:=MS.del q.parts z}))) λs1=>
 eG s1
def WU (_:Nat)(s:Nat)(z:Nat)(h:Q8):WM Q8:=
 Qu (iA h s) λq=>
 eU (∀y,y=z\/y∈q.parts.keys->h y≠none)<|
 gR (cq h s (PO.nt ({q with parts:=MS.del q.parts z}))) λs1=>
 eG s1
def X0 (_:Nat)(s:Nat)(z:Nat)(h:Q8):WM Q8:=
 Qu (pG h s) λq=>
 eU (∀y,y=z\/y∈q.parts.keys->h y≠none)<|
 gR (cq h s (PO.test ({q with parts:=MS.del q.parts z}))) λs1=>
 eG s1
def Xg (N:Nat)(rc:Nat->Nat->Q8->WM Q8)(a0:Nat)(U:Nat)(s2:Q8):WM Q8:=
 eH (rc a0 U s2) λs2=>
 Qu (gRow s2 a0) λaB=>
 Qu (gNet s2 aB.net) λa5=>
 eU (-9223372036854775808<=a5.parts-1/\a5.parts-1<=9223372036854775807)<|
 gR (cq s2 aB.net (PO.net ({a5 with parts:=a5.parts-1}))) λs3=>
 Qu (gPart s3 U) λaG=>
 Qu (aG.up) λaC=>
 Qu (gPart s3 aC) λa7=>
 eU (∀y,y=U\/y∈a7.kids.keys->s3 y≠none)<|
 gR (cq s3 aC (PO.part ({a7 with kids:=MS.del a7.kids U}))) λs4=>
 Qu (gRow s4 a0) λs=>
 eU (∀y,y=U\/y∈s.whole.keys->s4 y≠none)<|
 gR (cq s4 a0 (PO.row ({s with whole:=MS.del s.whole U}))) λs5=>
 j6 (λ(aD:(Nat×Q8)->WM Q8) ((q,h))=>
  fj ((decide (q<s.steps.length))) (
   ke (λz=>(
    eU (q+1<=9223372036854775807)<|
    aD (q+1,z)
  )) λa2=>
  Qu (gRow h a0) λa6=>
  eU (a6.stepsP=s.stepsP/\a6.steps.length=s.steps.length/\a6.stepsC=s.stepsC)<|
  Qu (a6.steps[q]?) λa8=>
  kL a8 (λa3=>
  eH (X7 N a3 U h) λs9=>
  a2 s9
  ) (λa3=>
  eH (WU N a3 U h) λaI=>
  a2 aI
  ) (λa3=>
  eH (X0 N a3 U h) λaJ=>
  a2 aJ
  )
  ) (
   eG h
  )
 ) N (0,s5)
def Q6g (N:Nat)(rc:Nat->Nat->Q8->WM Q8)(a0:Nat)(U:Nat)(s2:Q8):WM Q8:=
 Qu (gPart s2 U) λx9=>
 eH (K8 x9.kids) λs=>
 j6 (λ(z:(Nat×Q8)->WM Q8) ((h,q))=>
  fj ((decide (h<s.length))) (
   Qu (s[h]?) λa3=>
   eH (Xg N rc a0 a3 q) λs2=>
   eU (h+1<=9223372036854775807)<|
   z (h+1,s2)
  ) (
   eG q
  )
 ) N (0,s2)
def LL:Nat->Nat->Nat->Q8->WM Q8
 |0=>λ_=>λ_=>λ_=>IH
 |N+1=>Q6g N (LL N)
def Qb8 (N:Nat)(a0:Nat)(U:Nat)(s2:Q8):WM Q8:=
 eH (LL N a0 U s2) λs2=>
 Qu (gRow s2 a0) λaB=>
 Qu (gNet s2 aB.net) λa5=>
 eU (-9223372036854775808<=a5.parts-1/\a5.parts-1<=9223372036854775807)<|
 gR (cq s2 aB.net (PO.net ({a5 with parts:=a5.parts-1}))) λs3=>
 Qu (gPart s3 U) λaG=>
 Qu (aG.up) λaC=>
 Qu (gPart s3 aC) λa7=>
 eU (∀y,y=U\/y∈a7.kids.keys->s3 y≠none)<|
 gR (cq s3 aC (PO.part ({a7 with kids:=MS.del a7.kids U}))) λs4=>
 Qu (gRow s4 a0) λs=>
 eU (∀y,y=U\/y∈s.whole.keys->s4 y≠none)<|
 gR (cq s4 a0 (PO.row ({s with whole:=MS.del s.whole U}))) λs5=>
 j6 (λ(aD:(Nat×Q8)->WM Q8) ((q,h))=>
  fj ((decide (q<s.steps.length))) (
   ke (λz=>(
    eU (q+1<=9223372036854775807)<|
    aD (q+1,z)
  )) λa2=>
  Qu (gRow h a0) λa6=>
  eU (a6.stepsP=s.stepsP/\a6.steps.length=s.steps.length/\a6.stepsC=s.stepsC)<|
  Qu (a6.steps[q]?) λa8=>
  kL a8 (λa3=>
  eH (X7 N a3 U h) λs9=>
  a2 s9
  ) (λa3=>
  eH (WU N a3 U h) λaI=>
  a2 aI
  ) (λa3=>
  eH (X0 N a3 U h) λaJ=>
  a2 aJ
  )
  ) (
   eG h
  )
 ) N (0,s5)
def VE (N:Nat)(a0:Nat)(s1:Q8):WM (List Qq):=
 ke (λs=>(
  eG s
)) λa2=>
Qu (uh s1 a0) λU=>
eU (RY U.facts=true)<|
j6 (λ(a3:(Nat×(List Qq))->WM (List Qq)) ((q,h))=>
 fj ((decide (q<((QY U.facts).length)))) (
  ke (λz=>(
   eU (q+1<=9223372036854775807)<|
   a3 (q+1,z)
 )) λa1=>
 Qu ((QY U.facts)[q]?) λa6=>
 yd (MS.look U.facts a6) (
 eU (h.length+([(⟨0,0,[]⟩:Qq)]).length<=3518437208883)<|
 a1 (h++([(⟨0,0,[]⟩:Qq)]))
 ) (λa4=>
 eU (h.length+[a4].length<=3518437208883)<|
 a1 (h++[a4])
 )
 ) (
  a2 h
 )
) N (0,[])
def Xf (N:Nat)(rc:Nat->Int->Nat->Q8->WM Q8)(a0:Nat)(a1:Nat)(a2:Int)(a3:Int)(l4:List V)(U:Q8):WM Q8:=
 Qu (iz U a0) λh=>
 eH (OZ N h.row U) λa8=>
 fj (a8) (
  eG U
 ) (
  Qu (gPart U a1) λa6=>
  Qu (LM N h.cond.kind h.cond.type h.cond.args h.cond.test.kind h.cond.test.value.k h.cond.test.value.n h.cond.test.value.s h.cond.test.var h.cond.test.op h.cond.test.kids a2 a3 l4 a6.has a6.vals) λ(q,z,a4)=>
  fj (a4) (
   eU (-9223372036854775808<=h.k+1/\h.k+1<=9223372036854775807)<|
   eH (Mx N h.row a1 q z a2 (del U a0)) λ(a9,s1)=>
   eH (rc h.row (h.k+1) a9 s1) λs2=>
   gR (cq s2 a0 (PO.join h)) λs3=>
   iU s2 a0<|
   eG s3
  ) (
   eG U
  )
 )
def Q4I (N:Nat)(rc:Nat->Int->Nat->Q8->WM Q8)(a0:Nat)(U:Nat)(s2:Q8):WM Q8:=
 Qu (iz s2 a0) λs=>
 eU (∀y,y=U\/y∈s.parts.keys->s2 y≠none)<|
 gR (cq s2 a0 (PO.join ({s with parts:=MS.put s.parts U true}))) λs2=>
 eH (VE N s.alpha s2) λa3=>
 j6 (λ(a4:(Nat×Q8)->WM Q8) ((h,q))=>
  fj ((decide (h<a3.length))) (
   Qu (a3[h]?) λz=>
   eH (Xf N rc a0 U z.id z.ty z.args q) λs4=>
   eU (h+1<=9223372036854775807)<|
   a4 (h+1,s4)
  ) (
   eG q
  )
 ) N (0,s2)
def RC (N:Nat)(rc:Nat->Int->Nat->Q8->WM Q8)(a0:Nat)(U:Nat)(q:Q8):WM Q8:=
 ke (λs=>(
  fj (s) (
   Qu (iA q a0) λh=>
   Qu (gPart q U) λa3=>
   eU (-9223372036854775808<=h.k+1/\h.k+1<=9223372036854775807)<|
   eH (Mx N h.row U a3.has a3.vals 0 (del q a0)) λ(a5,s1)=>
   eH (rc h.row (h.k+1) a5 s1) λq=>
   gR (cq q a0 (PO.nt h)) λs3=>
   iU q a0<|
   eG s3
  ) (
   eG q
  )
)) λz=>
Qu (gPart q U) λx7=>
Qu (x7.blocks) λa6=>
fj ((a6.2.es.length==0)) (
 Qu (iA q a0) λa7=>
 eH (OZ N a7.row q) λa8=>
 z (!a8)
) (
 z false
)
def Q4X (N:Nat)(rc:Nat->Int->Nat->Q8->WM Q8)(a0:Nat)(U:Nat)(s2:Q8):WM Q8:=
 Qu (iA s2 a0) λaB=>
 eU (∀y,y=U\/y∈aB.parts.keys->s2 y≠none)<|
 gR (cq s2 a0 (PO.nt ({aB with parts:=MS.put aB.parts U true}))) λs1=>
 Qu (gPart s1 U) λaC=>
 kA λ(aL:Nat)=>
 gR (cq s1 U (PO.part ({aC with blocks:=some (aL,(MS.nil:MS Int Bool))}))) λs4=>
 ke (λa5=>(
  eH (RC N rc a0 U a5) λs5=>
  eG s5
)) λaH=>
Qu (iA s4 a0) λaI=>
Qu (uh s4 aI.alpha) λaJ=>
j6 (λ(a9:(Nat×(MS Int _)×(List Int)×Q8)->WM Q8) ((a6,a7,z,h))=>
 Qu (uh h aI.alpha) λa2=>
 eU (a2.facts=a7/\a2.factsA=a6)<|
 jw a2.facts z (
 aH h
 ) λa8=>(
 Qu (MS.look a2.facts a8) λaD=>
 Qu (iA h a0) λq=>
 Qu (gPart h U) λa3=>
 Qu (LM N q.cond.kind q.cond.type q.cond.args q.cond.test.kind q.cond.test.value.k q.cond.test.value.n q.cond.test.value.s q.cond.test.var q.cond.test.op q.cond.test.kids aD.id aD.ty aD.args a3.has a3.vals) λ(_,_,aE)=>
 fj (aE) (
  Qu (a3.blocks) λa4=>
  gR (cq h U (PO.part ({a3 with blocks:=some (a4.1,MS.put a4.2 a8 true)}))) λs6=>
  a9 (a2.factsA,a2.facts,z++[a8],s6)
 ) (
  a9 (a2.factsA,a2.facts,z++[a8],h)
 )
 )
) N (aJ.factsA,aJ.facts,([]:List Int),s4)
def Q4J (N:Nat)(rc:Nat->Int->Nat->Q8->WM Q8)(a0:Nat)(U:Nat)(s2:Q8):WM Q8:=
 Qu (pG s2 a0) λh=>
 Qu (gPart s2 U) λaA=>
 Qu (wT N h.cond.test.kind h.cond.test.value.k h.cond.test.value.n h.cond.test.value.s h.cond.test.var h.cond.test.op h.cond.test.kids aA.vals) λ(a5,a6,_,a7)=>
 ke (λa3=>(
  fj (a3) (
   Qu (pG s2 a0) λz=>
   Qu (gPart s2 U) λa4=>
   eU (-9223372036854775808<=z.k+1/\z.k+1<=9223372036854775807)<|
   eH (Mx N z.row U a4.has a4.vals 0 (del s2 a0)) λ(aC,s1)=>
   eH (rc z.row (z.k+1) aC s1) λs2=>
   gR (cq s2 a0 (PO.test z)) λs3=>
   iU s2 a0<|
   eG s3
  ) (
   eG s2
  )
)) λq=>
fj ((a7==0)) (
 fj ((a5==1)) (
  fj ((a6 !=0)) (
   eH (OZ N h.row s2) λaD=>
   q (!aD)
  ) (
   q false
  )
 ) (
  q false
 )
) (
 q false
)
def Q6P (N:Nat)(rc:Nat->Int->Nat->Q8->WM Q8)(a0:Nat)(U:Int)(z:Nat)(s:Q8):WM Q8:=
 Qu (gRow s a0) λh=>
 fj ((U==(h.steps.length:Int))) (
  eU (∀y,y=z\/y∈h.whole.keys->s y≠none)<|
  gR (cq s a0 (PO.row ({h with whole:=MS.put h.whole z true}))) λs1=>
  eG s1
 ) (
  eU (0<=U)<|
  Qu (h.steps[U.toNat]?) λa4=>
  kL a4 (λq=>
  eH (Q4I N rc q z s) λs2=>
  eG s2
  ) (λq=>
  eH (Q4X N rc q z s) λs=>
  eG s
  ) (λq=>
  eH (Q4J N rc q z s) λs4=>
  eG s4
  )
 )
def Hl:Nat->Nat->Int->Nat->Q8->WM Q8
 |0=>λ_=>λ_=>λ_=>λ_=>IH
 |N+1=>Q6P N (Hl N)
def OW (_:Nat)(h:Nat)(s1:Q8):WM Bool:=
 Qu (gNet s1 h) λq=>
 eG (!Option.isNone q.rowsP)
def Xm (N:Nat)(h:Nat)(s1:Q8):WM Nat:=
 eH (OW N h s1) λq=>
 fj ((!q)) (
  eG 0
 ) (
  Qu (gNet s1 h) λs=>
  eG s.facts.es.length
 )
def RI (_:Nat)(rc:(Option Nat)->Q8->WM (List Int))(a0:Option Nat)(s1:Q8):WM (List Int):=
 Qu (a0) λa5=>
 Qu (gPart s1 a5) λx7=>
 fj (x7.up.isNone) (
  eG []
 ) (
  Qu (a0) λa2=>
  Qu (gPart s1 a2) λa3=>
  eH (rc a3.up s1) λs=>
  ke (λh=>(
   eG h
 )) λq=>
 Qu (a0) λa4=>
 Qu (gPart s1 a4) λU=>
 fj ((decide (U.id>0))) (
  Qu (a0) λa7=>
  Qu (gPart s1 a7) λz=>
  eU (s.length+[z.id].length<=17592186044416)<|
  q (s++[z.id])
 ) (
  q s
 )
 )
def RD:Nat->(Option Nat)->Q8->WM (List Int)
 |0=>λ_=>λ_=>IH
 |N+1=>RI N (RD N)
def Xr (N:Nat)(a0:Nat)(s1:Q8):WM (List Int):=
 Qu (gPart s1 a0) λz=>
 fj (z.up.isNone) (
  eG []
 ) (
  eH (RD N z.up s1) λs=>
  ke (λh=>(
   eG h
 )) λq=>
 fj ((decide (z.id>0))) (
  eU (s.length+[z.id].length<=17592186044416)<|
  q (s++[z.id])
 ) (
  q s
 )
 )
def Xa (N:Nat)(a0:Nat)(s1:Q8):WM (List QA):=
 eH (OW N a0 s1) λv9=>
 fj ((!v9)) (
  eG []
 ) (
  ke (λa1=>(
   eG a1
 )) λa4=>
 Qu (gNet s1 a0) λa5=>
 j6 (λ(a6:(Nat×(List QA))->WM (List QA)) ((h,q))=>
  fj ((decide (h<a5.rows.length))) (
   Qu (a5.rows[h]?) λaC=>
   ke (λa2=>(
    Qu (pQ (λx_ y_=>OX N x_.rule x_.ids y_.rule y_.ids) a2) λU=>
    eU (q.length+U.length<=4398046511104)<|
    eU (h+1<=9223372036854775807)<|
    a6 (h+1,q++U)
  )) λa8=>
  Qu (gRow s1 aC) λa9=>
  j6 (λ(aA:((List Nat)×(List QA))->WM (List QA)) ((z,s))=>
   jw a9.whole z (
   a8 s
   ) λa3=>(
   Qu (MS.look a9.whole a3) λ_=>
   eH (Xr N a3 s1) λaB=>
   eU (s.length+([(⟨((h:Int)),aB⟩:QA)]).length<=4398046511104)<|
   aA (z++[a3],(s++[(⟨((h:Int)),aB⟩:QA)]))
   )
  ) N (([]:List Nat),[])
  ) (
   a4 q
  )
 ) N (0,[])
 )
def Q6e (N:Nat)(a0:Nat)(a1:Int)(s2:Q8):WM Q8:=
 Qu (iz s2 a0) λa8=>
 j6 (λ(a9:(Nat×(MS Nat Bool)×(List Nat)×Q8)->WM Q8) ((a4,a5,z,q))=>
  Qu (iz q a0) λa2=>
  eU (a2.parts=a5/\a2.partsA=a4)<|
  jw a2.parts z (
  eG q
  ) λU=>(
  Qu (MS.look a2.parts U) λ_=>
  Qu (gPart q U) λaG=>
  eH (K8 aG.kids) λaA=>
  j6 (λ(aB:(Nat×Q8)->WM Q8) ((s,h))=>
   fj ((decide (s<aA.length))) (
    ke (λa3=>(
     eU (s+1<=9223372036854775807)<|
     aB (s+1,a3)
   )) λa6=>
   Qu (aA[s]?) λaC=>
   Qu (gPart h aC) λaH=>
   fj ((aH.id==a1)) (
    Qu (iz h a0) λaI=>
    eH (Qb8 N aI.row aC h) λs2=>
    a6 s2
   ) (
    a6 h
   )
   ) (
    a9 (a2.partsA,a2.parts,z++[U],h)
   )
  ) N (0,q)
  )
 ) N (a8.partsA,a8.parts,([]:List Nat),s2)
def Q7s (_:Nat)(_:Nat)(_:Int)(_:Q8):WM Unit:=
 eG ()
def Q5U (_:Nat)(_:Nat)(_:Int)(_:Q8):WM Unit:=
 eG ()
def VB (N:Nat)(z:bu)(s:Int)(h:Q8):WM Q8:=
 kL z (λq=>
 eH (Q6e N q s h) λs1=>
 eG s1
 ) (λq=>
 eH (Q7s N q s h) λ_=>
 eG h
 ) (λq=>
 eH (Q5U N q s h) λ_=>
 eG h
 )
def Q7r (_:Nat)(_:Nat)(_:Int)(_:Q8):WM Unit:=
 eG ()
def Qb7 (N:Nat)(a0:Nat)(U:Nat)(q:Q8):WM Q8:=
 ke (λs=>(
  fj (s) (
   Qu (iA q a0) λh=>
   Qu (gPart q U) λa3=>
   eU (-9223372036854775808<=h.k+1/\h.k+1<=9223372036854775807)<|
   eH (Mx N h.row U a3.has a3.vals 0 (del q a0)) λ(a5,s1)=>
   eH (Hl N h.row (h.k+1) a5 s1) λq=>
   gR (cq q a0 (PO.nt h)) λs3=>
   iU q a0<|
   eG s3
  ) (
   eG q
  )
)) λz=>
Qu (gPart q U) λx7=>
Qu (x7.blocks) λa6=>
fj ((a6.2.es.length==0)) (
 Qu (iA q a0) λa7=>
 eH (OZ N a7.row q) λa8=>
 z (!a8)
) (
 z false
)
def Q6O (N:Nat)(a0:Nat)(U:Int)(s2:Q8):WM Q8:=
 Qu (iA s2 a0) λx9=>
 j6 (λ(a2:((List Nat)×Q8)->WM Q8) ((q,h))=>
  jw x9.parts q (
  eG h
  ) λgM=>(
  Qu (MS.look x9.parts gM) λ_=>
  ke (λz=>(
   fj (z) (
    Qu (gPart h gM) λa4=>
    Qu (a4.blocks) λs=>
    gR (cq h gM (PO.part ({a4 with blocks:=some (s.1,MS.del s.2 U)}))) λs1=>
    eH (Qb7 N a0 gM s1) λs2=>
    a2 (q++[gM],s2)
   ) (
    a2 (q++[gM],h)
   )
 )) λa3=>
 Qu (gPart h gM) λa7=>
 Qu (a7.blocks) λa5=>
 yd (MS.look a5.2 U) (
 a3 false
 ) (λa8=>
 a3 a8
 )
  )
 ) N (([]:List Nat),s2)
def Q5T (_:Nat)(_:Nat)(_:Int)(_:Q8):WM Unit:=
 eG ()
def VC (N:Nat)(z:bu)(s:Int)(h:Q8):WM Q8:=
 kL z (λq=>
 eH (Q7r N q s h) λ_=>
 eG h
 ) (λq=>
 eH (Q6O N q s h) λs1=>
 eG s1
 ) (λq=>
 eH (Q5T N q s h) λ_=>
 eG h
 )
def VL (N:Nat)(a0:Nat)(U:Int)(s2:Q8):WM Q8:=
 Qu (gNet s2 a0) λq=>
 gR (cq s2 a0 (PO.net ({q with facts:=MS.del q.facts U}))) λs3=>
 ke (λz=>(
  eH (Ep (λlJ lI=>VB N lJ U lI) a0 z) λs5=>
  eH (Ep (λlJ lI=>VC N lJ U lI) a0 s5) λs6=>
  eG s6
)) λa8=>
gR (cq s3 a0 (PO.net ({({q with facts:=MS.del q.facts U}:fo)with rows:=({q with facts:=MS.del q.facts U}:fo).rows}))) λs7=>
j6 (λ(a9:(Nat×(MS ByteArray Nat)×(List ByteArray)×Q8)->WM Q8) ((a3,a4,s,h))=>
 Qu (gNet h a0) λa2=>
 eU (a2.alphas=a4/\a2.alphasA=a3)<|
 jw a2.alphas s (
 a8 h
 ) λaA=>(
 Qu (MS.look a2.alphas aA) λaB=>
 Qu (uh h aB) λa6=>
 gR (cq h aB (PO.alpha ({a6 with facts:=MS.del a6.facts U}))) λs8=>
 a9 (a2.alphasA,a2.alphas,s++[aA],s8)
 )
) N ((({q with facts:=MS.del q.facts U}:fo).alphasA),(({q with facts:=MS.del q.facts U}:fo).alphas),([]:List ByteArray),s7)
def Mw (N:Nat)(a0:Nat)(_:Int)(a2:Int)(l3:List V)(s4:Q8):WM Bool:=
 Qu (uh s4 a0) λz=>
 fj ((a2 !=z.kind)) (
  eG false
 ) (
  ke (λ_=>(
   eG true
 )) λa3=>
 j6 (λ(a4:Nat->WM Bool) (h:Nat)=>
  fj ((decide (h<z.args.length))) (
   Qu (z.args[h]?) λa5=>
   ke (λq=>(
    fj (q) (
     eG false
    ) (
     eU (h+1<=9223372036854775807)<|
     a4 (h+1)
    )
  )) λs=>
  fj ((a5.k==4)) (
   Qu (l3[h]?) λU=>
   s (!decide (a5.v=U))
  ) (
   s false
  )
  ) (
   a3 ()
  )
 ) N 0
 )
def Q6X (_:Nat)(_:Nat)(_:Int)(_:Int)(_:List V)(_:Q8):WM Unit:=
 eG ()
def Q6f (N:Nat)(a0:Nat)(a1:Int)(a2:Int)(l3:List V)(U:Q8):WM Q8:=
 Qu (iA U a0) λa9=>
 eH (Mw N a9.alpha a1 a2 l3 U) λaE=>
 fj ((!aE)) (
  eG U
 ) (
  j6 (λ(a8:(Nat×(MS Nat Bool)×(List Nat)×Q8)->WM Q8) ((a6,a7,z,q))=>
   Qu (iA q a0) λh=>
   eU (h.parts=a7/\h.partsA=a6)<|
   jw h.parts z (
   eG q
   ) λa5=>(
   Qu (MS.look h.parts a5) λ_=>
   Qu (gPart q a5) λa3=>
   Qu (LM N h.cond.kind h.cond.type h.cond.args h.cond.test.kind h.cond.test.value.k h.cond.test.value.n h.cond.test.value.s h.cond.test.var h.cond.test.op h.cond.test.kids a1 a2 l3 a3.has a3.vals) λ(_,_,aA)=>
   fj (aA) (
    Qu (a3.blocks) λa4=>
    gR (cq q a5 (PO.part ({a3 with blocks:=some (a4.1,MS.put a4.2 a1 true)}))) λs1=>
    Qu (iA s1 a0) λaI=>
    eH (LL N aI.row a5 s1) λs2=>
    a8 (h.partsA,h.parts,z++[a5],s2)
   ) (
    a8 (h.partsA,h.parts,z++[a5],q)
   )
   )
  ) N (a9.partsA,a9.parts,([]:List Nat),U)
 )
def Q5C (_:Nat)(_:Nat)(_:Int)(_:Int)(_:List V)(_:Q8):WM Unit:=
 eG ()
def Vz (N:Nat)(a0:bu)(s:Int)(z:Int)(U:List V)(h:Q8):WM Q8:=
 kL a0 (λq=>
 eH (Q6X N q s z U h) λ_=>
 eG h
 ) (λq=>
 eH (Q6f N q s z U h) λs1=>
 eG s1
 ) (λq=>
 eH (Q5C N q s z U h) λ_=>
 eG h
 )
def Qb6 (N:Nat)(a0:Nat)(a1:Nat)(a2:Int)(a3:Int)(l4:List V)(U:Q8):WM Q8:=
 Qu (iz U a0) λh=>
 eH (OZ N h.row U) λa8=>
 fj (a8) (
  eG U
 ) (
  Qu (gPart U a1) λa6=>
  Qu (LM N h.cond.kind h.cond.type h.cond.args h.cond.test.kind h.cond.test.value.k h.cond.test.value.n h.cond.test.value.s h.cond.test.var h.cond.test.op h.cond.test.kids a2 a3 l4 a6.has a6.vals) λ(q,z,a4)=>
  fj (a4) (
   eU (-9223372036854775808<=h.k+1/\h.k+1<=9223372036854775807)<|
   eH (Mx N h.row a1 q z a2 (del U a0)) λ(a9,s1)=>
   eH (Hl N h.row (h.k+1) a9 s1) λs2=>
   gR (cq s2 a0 (PO.join h)) λs3=>
   iU s2 a0<|
   eG s3
  ) (
   eG U
  )
 )
def Q6d (N:Nat)(a0:Nat)(a1:Int)(a2:Int)(l3:List V)(U:Q8):WM Q8:=
 Qu (iz U a0) λs=>
 eH (Mw N s.alpha a1 a2 l3 U) λa5=>
 fj ((!a5)) (
  eG U
 ) (
  j6 (λ(a3:((List Nat)×Q8)->WM Q8) ((h,q))=>
   jw s.parts h (
   eG q
   ) λz=>(
   Qu (MS.look s.parts z) λ_=>
   eH (Qb6 N a0 z a1 a2 l3 q) λs1=>
   a3 (h++[z],s1)
   )
  ) N (([]:List Nat),U)
 )
def Q7q (_:Nat)(_:Nat)(_:Int)(_:Int)(_:List V)(_:Q8):WM Unit:=
 eG ()
def Q5S (_:Nat)(_:Nat)(_:Int)(_:Int)(_:List V)(_:Q8):WM Unit:=
 eG ()
def VA (N:Nat)(a0:bu)(s:Int)(z:Int)(U:List V)(h:Q8):WM Q8:=
 kL a0 (λq=>
 eH (Q6d N q s z U h) λs1=>
 eG s1
 ) (λq=>
 eH (Q7q N q s z U h) λ_=>
 eG h
 ) (λq=>
 eH (Q5S N q s z U h) λ_=>
 eG h
 )
def RL (N:Nat)(a0:Nat)(U:Int)(a2:Int)(l3:List V)(s4:Q8):WM Q8:=
 Qu (gNet s4 a0) λs=>
 gR (cq s4 a0 (PO.net ({s with facts:=MS.put s.facts U (⟨U,a2,l3⟩:Qq)}))) λs3=>
 ke (λa4=>(
  eH (Ep (λlJ lI=>Vz N lJ U a2 l3 lI) a0 a4) λs5=>
  eH (Ep (λlJ lI=>VA N lJ U a2 l3 lI) a0 s5) λs6=>
  eG s6
)) λaE=>
gR (cq s3 a0 (PO.net ({({s with facts:=MS.put s.facts U (⟨U,a2,l3⟩:Qq)}:fo)with rows:=({s with facts:=MS.put s.facts U (⟨U,a2,l3⟩:Qq)}:fo).rows}))) λs7=>
j6 (λ(a9:(Nat×(MS ByteArray Nat)×(List ByteArray)×Q8)->WM Q8) ((a5,a6,q,h))=>
 Qu (gNet h a0) λz=>
 eU (z.alphas=a6/\z.alphasA=a5)<|
 jw z.alphas q (
 aE h
 ) λaB=>(
 Qu (MS.look z.alphas aB) λaC=>
 eH (Mw N aC U a2 l3 h) λaG=>
 fj (aG) (
  Qu (uh h aC) λaA=>
  gR (cq h aC (PO.alpha ({aA with facts:=MS.put aA.facts U (⟨U,a2,l3⟩:Qq)}))) λs8=>
  a9 (z.alphasA,z.alphas,q++[aB],s8)
 ) (
  a9 (z.alphasA,z.alphas,q++[aB],h)
 )
 )
) N ((({s with facts:=MS.put s.facts U (⟨U,a2,l3⟩:Qq)}:fo).alphasA),(({s with facts:=MS.put s.facts U (⟨U,a2,l3⟩:Qq)}:fo).alphas),([]:List ByteArray),s7)
def Xq (N:Nat)(a0:Nat)(a1:Int)(s2:Q8):WM (Nat×Q8):=
 eH (OW N a0 s2) λv8=>
 fj ((!v8)) (
  eG (1,s2)
 ) (
  ke (λ(q,s,h,a2)=>(
   fj ((!a2)) (
    eG (6,s2)
   ) (
    eH (VL N a0 a1 s2) λU=>
    Qu (gNet U a0) λa7=>
    fj ((decide (a7.parts>4096))) (
     eH (RL N a0 q s h U) λs8=>
     eG (204,s8)
    ) (
     eG (0,U)
    )
   )
 )) λz=>
 Qu (gNet s2 a0) λa8=>
 yd (MS.look a8.facts a1) (
 z (0,0,[],false)
 ) (λa3=>
 z (a3.id,a3.ty,a3.args,true)
 )
 )
def Xl (N:Nat)(a0:Nat)(a1:Int)(a2:Int)(l3:List V)(U:Q8):WM (Nat×Q8):=
 eH (OW N a0 U) λv8=>
 fj ((!v8)) (
  eG (1,U)
 ) (
  ke (λq=>(
   fj (q) (
    eG (2,U)
   ) (
    ke (λa4=>(
     fj (a4) (
      eG (7,U)
     ) (
      eU (l3.length<=4398046511104)<|
      eH (RL N a0 a1 a2 l3 U) λs6=>
      Qu (gNet s6 a0) λaB=>
      fj ((decide (aB.parts>4096))) (
       eH (VL N a0 a1 s6) λs8=>
       eG (204,s8)
      ) (
       eG (0,s6)
      )
     )
   )) λs=>
   Qu (gNet U a0) λa8=>
   yd (MS.look a8.facts a1) (
   s false
   ) (λ_=>
   s true
   )
   )
 )) λh=>
 Qu (gNet U a0) λz=>
 fj ((decide (a1<1))) (
  h true
 ) (
  fj ((decide (a1>1099511627776))) (
   h true
  ) (
   fj ((decide (a2<0))) (
    h true
   ) (
    fj ((decide (a2>=(z.types.length:Int)))) (
     h true
    ) (
     eU (0<=a2)<|
     Qu (z.types[a2.toNat]?) λaC=>
     fj (((l3.length:Int) !=aC.fields)) (
      h true
     ) (
      Qu (Vx N l3) λaD=>
      h aD
     )
    )
   )
  )
 )
 )
def OV (N:Nat)(a0:Nat)(_:Int)(a2:Int)(l3:List eN)(_:Int)(_:Int)(_:Int)(_:ByteArray)(_:Int)(_:Int)(_:List Q4)(aZ:Q8):WM ((Option Nat)×Q8):=
 kA λ(b0:Nat)=>
 qn aZ (λaJ=>PO.alpha ⟨a2,[],none,0,(MS.nil:MS Int Qq),b0⟩) λaJ s1=>
 ke (λh=>(
  Qu (uh h aJ) λaK=>
  eU (-9223372036854775808<=aK.kind/\aK.kind<=9223372036854775807)<|
  ke (λaH=>(
   ke (λq=>(
    Qu (gNet q a0) λb1=>
    yd (MS.look b1.alphas aH) (
    eG (none,q)
    ) (λb2=>
    eG (some b2,q)
    )
  )) λaO=>
  ke (λaN=>(
   fj (aN) (
    Qu (gNet h a0) λaT=>
    gR (cq h a0 (PO.net ({aT with alphas:=MS.put aT.alphas aH aJ}))) λs3=>
    aO s3
   ) (
    aO h
   )
 )) λaP=>
 Qu (gNet h a0) λb3=>
 yd (MS.look b3.alphas aH) (
 aP true
 ) (λ_=>
 aP false
 )
 )) λaU=>
 j6 (λ(aV:(Nat×ByteArray)->WM ((Option Nat)×Q8)) ((aE,aL))=>
  fj ((decide (aE<aK.args.length))) (
   Qu (aK.args[aE]?) λaR=>
   Qu (XA N aR.v.k aR.v.n aR.v.s) λaS=>
   eU ((⟨#[44]⟩:ByteArray).size+aS.size<=9223372036854775807)<|
   eU (aL.size+((⟨#[44]⟩:ByteArray)++aS).size<=9223372036854775807)<|
   eU (aE+1<=9223372036854775807)<|
   aV (aE+1,(aL++((⟨#[44]⟩:ByteArray)++aS)))
  ) (
   aU aL
  )
 ) N (0,uz aK.kind)
)) λaW=>
j6 (λ(aX:(Nat×Q8)->WM ((Option Nat)×Q8)) ((aG,z))=>
 fj ((decide (aG<l3.length))) (
  Qu (l3[aG]?) λU=>
  ke (λ(a3,aA,aB,aC,aD)=>(
   Qu (uh z aJ) λaM=>
   eU (aM.args.length+([(⟨a3,aA,(⟨aB,aC,aD⟩:V)⟩:eN)]).length<=2932031007402)<|
   eU (aG+1<=9223372036854775807)<|
   kA λ(b4:Option Addr)=>
   kA λ(b5:Nat)=>
   gR (cq z aJ (PO.alpha ({aM with args:=aM.args++([(⟨a3,aA,(⟨aB,aC,aD⟩:V)⟩:eN)]),argsP:=b4,argsC:=b5}))) λs4=>
   aX (aG+1,s4)
 )) λaQ=>
 fj ((U.k !=4)) (
  aQ (1,0,0,0,(⟨#[]⟩:ByteArray))
 ) (
  aQ (U.k,U.var,U.v.k,U.v.n,U.v.s)
 )
 ) (
  aW z
 )
) N (0,s1)
def VV (N:Nat)(l0:List Q7)(l1:List Qa)(s2:Q8):WM ((Option Nat)×Q8):=
 Qu (Mz N l0 l1) λb7=>
 fj ((!b7)) (
  eG (none,s2)
 ) (
  eU (l0.length<=5864062014805)<|
  kA λ(b8:Nat)=>
  kA λ(b9:Nat)=>
  kA λ(bA:Nat)=>
  qn s2 (λa4=>PO.net ⟨l0,[],(some (⟨b8,0,none⟩:Addr)),0,(MS.nil:MS ByteArray Nat),b9,(MS.nil:MS Int Qq),bA,0⟩) λa4 s2=>
  ke (λa8=>(
   eG (some a4,a8)
 )) λaQ=>
 j6 (λ(aR:(Nat×Q8)->WM ((Option Nat)×Q8)) ((a2,a3))=>
  fj ((decide (a2<l1.length))) (
   Qu (l1[a2]?) λaL=>
   kA λ(bB:Nat)=>
   qn a3 (λz=>PO.row ⟨a4,[],none,0,(MS.nil:MS Nat Bool),bB⟩) λz bC=>
   ke (λa1=>(
    Qu (gNet a1 a4) λaA=>
    eU (aA.rows.length+[z].length<=17592186044416)<|
    Qu (P3 N aL.vars) λ(aD,aE)=>
    kA λ(aG:Option Addr)=>
    kA λ(aS:Nat)=>
    Sl (aG.isSome=true)<|
    gR (cq a1 a4 (PO.net ({aA with rows:=aA.rows++[z],rowsP:=aG,rowsC:=aS}))) λaT=>
    kA λ(aU:Nat)=>
    qn aT (λaH=>PO.part ⟨aD,aE,none,0,(MS.nil:MS Nat Bool),aU,none⟩) λaH aV=>
    eH (Hl N z 0 aH aV) λaW=>
    eU (a2+1<=9223372036854775807)<|
    aR (a2+1,aW)
  )) λaX=>
  j6 (λ(aY:(Nat×Q8)->WM ((Option Nat)×Q8)) ((a0,q))=>
   fj ((decide (a0<aL.conds.length))) (
    ke (λa9=>(
     eU (a0+1<=9223372036854775807)<|
     aY (a0+1,a9)
   )) λaB=>
   Qu (aL.conds[a0]?) λh=>
   Qu (VO N h.kind h.type h.args h.test.kind h.test.value.k h.test.value.n h.test.value.s h.test.var h.test.op h.test.kids) λaM=>
   fj ((h.kind==1)) (
    Qu (gRow q z) λa5=>
    eH (OV N a4 h.kind h.type h.args h.test.kind h.test.value.k h.test.value.n h.test.value.s h.test.var h.test.op h.test.kids (del q z)) λ(bD,aZ)=>
    Qu (bD) λbG=>
    kA λ(U:Nat)=>
    qn aZ (λaN=>PO.join ⟨bG,z,(a0:Int),(⟨h.kind,h.type,h.args,(⟨h.test.kind,h.test.value,h.test.var,h.test.op,aM⟩:Q4)⟩:Qp),(MS.nil:MS Nat Bool),U⟩) λaN aI=>
    eU (a5.steps.length+([(.join aN:bu)]).length<=8796093022208)<|
    kA λ(bH:Option Addr)=>
    kA λ(bI:Nat)=>
    gR (cq aI z (PO.row ({a5 with steps:=a5.steps++([(.join aN:bu)]),stepsP:=bH,stepsC:=bI}))) λb0=>
    iU aI z<|
    aB b0
   ) (
    fj ((h.kind==2)) (
     Qu (gRow q z) λa6=>
     eH (OV N a4 h.kind h.type h.args h.test.kind h.test.value.k h.test.value.n h.test.value.s h.test.var h.test.op h.test.kids (del q z)) λ(bK,b1)=>
     Qu (bK) λbL=>
     kA λ(U:Nat)=>
     qn b1 (λaO=>PO.nt ⟨bL,z,(a0:Int),(⟨h.kind,h.type,h.args,(⟨h.test.kind,h.test.value,h.test.var,h.test.op,aM⟩:Q4)⟩:Qp),(MS.nil:MS Nat Bool),U⟩) λaO aJ=>
     eU (a6.steps.length+([(.nt aO:bu)]).length<=8796093022208)<|
     kA λ(bM:Option Addr)=>
     kA λ(bN:Nat)=>
     gR (cq aJ z (PO.row ({a6 with steps:=a6.steps++([(.nt aO:bu)]),stepsP:=bM,stepsC:=bN}))) λb2=>
     iU aJ z<|
     aB b2
    ) (
     Qu (gRow q z) λa7=>
     kA λ(U:Nat)=>
     qn (del q z) (λaP=>PO.test ⟨z,(a0:Int),(⟨h.kind,h.type,h.args,(⟨h.test.kind,h.test.value,h.test.var,h.test.op,aM⟩:Q4)⟩:Qp),(MS.nil:MS Nat Bool),U⟩) λaP aK=>
     eU (a7.steps.length+([(.test aP:bu)]).length<=8796093022208)<|
     kA λ(bO:Option Addr)=>
     kA λ(bP:Nat)=>
     gR (cq aK z (PO.row ({a7 with steps:=a7.steps++([(.test aP:bu)]),stepsP:=bO,stepsC:=bP}))) λb3=>
     iU aK z<|
     aB b3
    )
   )
   ) (
    aX q
   )
  ) N (0,bC)
  ) (
   aQ a3
  )
 ) N (0,s2)
 )
end
end
section
open Go Go.RowKit
section
variable {A R S:Type} {Q:R->Prop}
theorem Qi {o:Option A} {k:A->WM R} {a:A} (h:o=some a)(hk:k a Q):Qu o k Q:=⟨a,h,hk⟩
theorem fQ {c:Prop} {k:WM R} (h:c)(hk:k Q):eU c k Q:=⟨h,hk⟩
theorem lV {x:A} {k:A->WM R} (hk:k x Q):gR x k Q:=λ_ e=>e▸hk
theorem ux {k:A->WM R} (hk:∀a,k a Q):kA k Q:=hk
theorem Sn {c:Prop} {k:WM R} (h:c->k Q):Sl c k Q:=h
theorem QS {m:WM A} {k:A->WM R} (h:m (λa=>k a Q)):eH m k Q:=h
theorem jr {b:Bool} {x y:WM R} (h:b=true)(U:x Q):fj b x y Q:=⟨λ_=>U,λe=>by rw[h]at e;cases e⟩
theorem zi {b:Bool} {x y:WM R} (h:b=false)(hy:y Q):fj b x y Q:=⟨λe=>(by rw[h]at e;cases e),λ_=>hy⟩
theorem iu {b:Bool} {x y:WM R} (U:b=true->x Q)(hy:b=false->y Q):fj b x y Q:=⟨U,hy⟩
theorem ye {o:Option A} {x:WM R} {k:A->WM R} (U:o=none->x Q)(hk:∀a,o=some a->k a Q):yd o x k Q:=⟨U,hk⟩
theorem DE {o:Option A} {x:WM R} {k:A->WM R} {a:A} (h:o=some a)(hk:k a Q):yd o x k Q:=⟨λe=>(by rw[h]at e;cases e),λb e=>by rw[h]at e;cases e;exact hk⟩
theorem jv {O:Type} {s:Nat->Option O} {o:Nat->O} {k:Nat->(Nat->Option O)->WM R} (h:∀a,s a=none->k a (cq s a (o a)) Q):qn s o k Q:=λa U _ e=>e▸h a U
theorem jK {O:Type} {s:Nat->Option O} {a:Nat} {k:WM R} (h:s a=none->k Q):iU s a k Q:=h
theorem Ph {κ α:Type} [DecidableEq κ] {m:MS κ α} {done:List κ} {x:WM R} {k:κ->WM R} (U:(∀y∈m.keys,y∈done)->x Q)(hk:∀y,y∈m.keys->y∉done->k y Q):jw m done x k Q:=⟨U,hk⟩
end
theorem jQ {R:Type} {Q:R->Prop} {a:Nat} {f g h:Nat->WM R} (hk:f a Q):kL (.join a) f g h Q:=⟨λb e=>(by cases e;exact hk),λb e=>(by cases e),λb e=>(by cases e)⟩
theorem jR {R:Type} {Q:R->Prop} {a:Nat} {f g h:Nat->WM R} (hk:g a Q):kL (.nt a) f g h Q:=⟨λb e=>(by cases e),λb e=>(by cases e;exact hk),λb e=>(by cases e)⟩
theorem jS {R:Type} {Q:R->Prop} {a:Nat} {f g h:Nat->WM R} (hk:h a Q):kL (.test a) f g h Q:=⟨λb e=>(by cases e),λb e=>(by cases e),λb e=>(by cases e;exact hk)⟩
section maps
variable {κ α:Type} [DecidableEq κ]
theorem vF {x:κ} {v:α×Nat} {y:κ}:∀{l:List (κ×α×Nat)},y∈(ju x v l).map (·.1)↔y=x\/y∈l.map (·.1)
 |[]=>by simp[ju]
 | z ::l=>by
   unfold ju;split
   ·rename_i h;simp only[List.map_cons,List.mem_cons];rw[h];constructor
    ·rintro(h1|h1);· exact .inl h1
     · exact .inr (.inr h1)
    ·rintro(h1|h1|h1);· exact .inl h1
     · exact .inl h1
     · exact .inr h1
   ·simp only[List.map_cons,List.mem_cons,vF (l:=l)];constructor
    ·rintro(h1|h1|h1);· exact .inr (.inl h1)
     · exact .inl h1
     · exact .inr (.inr h1)
    ·rintro(h1|h1|h1);· exact .inr (.inl h1)
     · exact .inl h1
     · exact .inr (.inr h1)
theorem MS.keys_put {m:MS κ α} {x y:κ} {a:α}:y∈(m.put x a).keys↔y=x\/y∈m.keys:=by
 unfold MS.put MS.keys;cases h:fW x m.es with
 |some v=>exact vF
 |none=>simp only[List.map_append,List.map_cons,List.map_nil,List.mem_append,List.mem_singleton,or_comm]
theorem MS.keys_del {m:MS κ α} {x y:κ}:y∈(m.del x).keys↔y≠x/\y∈m.keys:=by
 unfold MS.del MS.keys;simp only[List.mem_map,List.mem_filter,Bool.not_eq_true',decide_eq_false_iff_not];constructor;· rintro⟨z,⟨h1,U⟩,rfl⟩;exact⟨U,z,h1,rfl⟩
 · rintro⟨U,z,h1,rfl⟩;exact⟨z,⟨h1,U⟩,rfl⟩
theorem MS.keys_nil {κ α:Type} {y:κ}:¬y∈(MS.nil:MS κ α).keys:=by simp[MS.nil,MS.keys]
theorem MS.del_none {m:MS κ α} {x:κ} (h:x∉m.keys):m.del x=m:=by
 unfold MS.del;have:m.es.filter (λy=>!decide (y.1=x))=m.es:=filter_none h;rw[this]
theorem ti {x y:κ} {v:α×Nat}:∀{l:List (κ×α×Nat)},fW y (ju x v l)=if y=x then some v else fW y l
 | []=>by
   simp only[ju,fW];by_cases h:y=x;· subst h;simp
   · rw[if_neg h,if_neg (λe=>h e.symm)]
 | z::l=>by
   unfold ju;by_cases h:z.1=x
   ·rw[if_pos h];simp only[fW];by_cases U:y=x;· subst U;simp
    · rw[if_neg U,if_neg (λe=>U e.symm),if_neg (λe=>U (by rw[<-h,e]))]
   ·rw[if_neg h];simp only[fW,ti (l:=l)];by_cases U:z.1=y;· rw[if_pos U,if_pos U,if_neg (λe=>h (by rw[U,e]))]
    · rw[if_neg U,if_neg U]
theorem vN {x y:κ} {v:α×Nat}:∀{l:List (κ×α×Nat)},fW x l=none->fW y (l++[(x,v)])=if y=x then some v else fW y l
 | [],_=>by
   simp only[List.nil_append,fW];by_cases h:y=x;· subst h;simp
   · rw[if_neg h,if_neg (λe=>h e.symm)]
 | z::l,h=>by
   unfold fW at h;split at h;· cases h
   ·rename_i hz;simp only[List.cons_append,fW,vN (y:=y) h];by_cases U:z.1=y;· rw[if_pos U,if_pos U,if_neg (λe=>hz (by rw[U,e]))]
    · rw[if_neg U,if_neg U]
theorem MS.look_put {m:MS κ α} {x y:κ} {a:α}:(m.put x a).look y=if y=x then some a else m.look y:=by
 unfold MS.put MS.look;cases h:fW x m.es with
 | some v=>
   simp only[ti];by_cases h2:y=x<;>simp[h2]
 | none=>
   simp only[vN h];by_cases h2:y=x<;>simp[h2]
theorem Qay {x y:κ}:∀{l:List (κ×α×Nat)},fW y (l.filter λz=> !decide (z.1=x))=if y=x then none else fW y l
 |[]=>by simp[fW]
 | z::l=>by
   by_cases h:z.1=x
   ·rw[List.filter_cons_of_neg (by simp[h]),Qay (l:=l)];by_cases U:y=x;· rw[if_pos U,if_pos U]
    ·rw[if_neg U,if_neg U];simp only[fW];rw[if_neg (λe=>U (by rw[<-e,h]))]
   ·rw[List.filter_cons_of_pos (by simp[h])];simp only[fW,Qay (l:=l)];by_cases U:z.1=y;· rw[if_pos U,if_pos U,if_neg (λe=>h (by rw[U,e]))]
    · rw[if_neg U,if_neg U]
theorem MS.look_del {m:MS κ α} {x y:κ}:(m.del x).look y=if y=x then none else m.look y:=by
 unfold MS.del MS.look;simp only[Qay];by_cases h2:y=x<;>simp[h2]
theorem MS.look_iff {m:MS κ α} {x:κ}:x∈m.keys↔∃a,m.look x=some a:=by
 unfold MS.keys MS.look
 have key:∀l:List (κ×α×Nat),x∈l.map (·.1)↔∃v,fW x l=some v:=by
  intro l;induction l with
  |nil=>simp[fW]
  | cons z l U=>
    simp only[List.map_cons,List.mem_cons,fW];by_cases h:z.1=x;· simp[h]
    ·rw [if_neg h,<-U];constructor
     ·rintro(h1|h1);· exact absurd h1.symm h
      · exact h1
     · exact .inr
 rw[key];constructor;· rintro⟨v,h⟩;exact⟨v.1,by simp[h]⟩
 ·rintro⟨a,h⟩;cases hv:fW x m.es with
  |none=>simp[hv]at h
  |some v=>exact⟨v,rfl⟩
theorem MS.keys_put_eq {m:MS κ α} {x:κ} {a:α}:(m.put x a).keys=if x∈m.keys then m.keys else m.keys++[x]:=by
 unfold MS.put
 have hm:x∈m.keys↔∃v,fW x m.es=some v:=by
   rw[MS.look_iff];unfold MS.look;constructor
   ·rintro⟨a,h⟩;cases U:fW x m.es with
    |none=>simp[U]at h
    |some v=>exact⟨v,rfl⟩
   · rintro⟨v,h⟩;exact⟨v.1,by simp[h]⟩
 cases h:fW x m.es with
 | some v=>
   rw[if_pos (hm.2 ⟨v,h⟩)];unfold MS.keys
   have key:∀l:List (κ×α×Nat),(∃v,fW x l=some v)->(ju x (a,v.2) l).map (·.1)=l.map (·.1):=by
    intro l;induction l with
    |nil=>rintro⟨v,h⟩;cases h
    | cons z l ih=>
      rintro⟨w,h⟩;unfold fW at h;unfold ju;split;· rename_i hz;simp[hz]
      ·rename_i hz;rw[if_neg hz]at h;simp[ih ⟨w,h⟩]
   exact key _ ⟨v,h⟩
 | none=>
   rw[if_neg (λhh=>by obtain⟨v,U⟩:=hm.1 hh;rw[h]at U;cases U)];simp[MS.keys]
theorem MS.nodup_put {m:MS κ α} {x:κ} {a:α} (h:m.keys.Nodup):(m.put x a).keys.Nodup:=by
 rw[MS.keys_put_eq];split;· exact h
 ·rename_i hx;exact List.nodup_append.2 ⟨h,ax,λy hy z U e=>hx (by simp at U;rw[<-U,<-e];exact hy)⟩
theorem MS.nodup_del {m:MS κ α} {x:κ} (h:m.keys.Nodup):(m.del x).keys.Nodup:=by
 unfold MS.del MS.keys at*;exact List.Nodup.sublist (List.Sublist.map _ List.filter_sublist) h
theorem Hm:∀{ks l:List κ},ks.Nodup->(∀z∈ks,z∈l)->ks.length<=l.length
 |[],l,_,_=>Nat.zero_le _
 | k::ks,l,h,hs=>by
   have h1:=List.nodup_cons.1 h;have hk:k∈l:=hs k ax;have:=Hm (l:=l.erase k) h1.2 λz U=>(List.mem_erase_of_ne (λe=>h1.1 (by rw[<-e];exact U))).2 (hs z (by simp[U]));rw[List.length_erase_of_mem hk]at this;have:=List.length_pos_of_mem hk;simp only[List.length_cons];omega
end maps
end
section
open Go Go.RowKit
structure fh where
 mt:Qp->List Bool->List V->Qq->Option (List Bool×List V)
 ev:Qp->List V->Bool
structure eM where
 st:bu
 al:Nat
 c:Qp
structure eQ where
 b:Nat
 steps:List eM
 sP:Option Addr
 sC:Nat
 root:Nat
 hs:List Bool
 vs:List V
structure HT where
 b:Nat
 kind:Int
 args:List eN
structure fC where
 g:Nat
 types:List Q7
 rows:List eQ
 rP:Option Addr
 rC:Nat
 alphas:MS ByteArray Nat
 alphasA:Nat
 als:List HT
abbrev bx:=Int->Option Qq
abbrev ew:=List Bool×List V
abbrev Loc:=Nat->Option (Nat×List Int)
def fU (S:fh)(T:bx)(sc:eM)(e:ew)(i:Int):Option ew:=match sc.st with
 | .join _=>(T i).bind λf=>S.mt sc.c e.1 e.2 f
 | .nt _=>if i=0 then some e else none
 | .test _=>if i=0/\S.ev sc.c e.2=true then some e else none
def fF (S:fh)(T:bx):List eM->ew->List Int->Option ew
 |_,e,[]=>some e
 |[],_,_::_=>none
 |sc::l,e,i::π=>(fU S T sc e i).bind λU=>fF S T l U π
theorem XH {S:fh} {T:bx} {i:Int}:∀{π:List Int} {l:List eM} {e:ew},fF S T l e (π++[i])=(fF S T l e π).bind λU=>(l[π.length]?).bind λsc=>fU S T sc U i
 |[],[],e=>by simp[fF]
 | [],sc::l,e=>by
   simp only[List.nil_append,fF,List.length_nil,List.getElem?_cons_zero,Option.bind_some];cases fU S T sc e i<;>rfl
 |j::π,[],e=>by simp[fF]
 | j::π,sc::l,e=>by
   simp only[List.cons_append,fF,List.length_cons,List.getElem?_cons_succ];cases h:fU S T sc e j with
   |none=>rfl
   |some U=>simp only[Option.bind_some];exact XH
theorem my {S:fh} {T:bx}:∀{π:List Int} {l:List eM} {e U:ew},fF S T l e π=some U->π.length<=l.length
 |[],l,e,U,_=>Nat.zero_le _
 |j::π,[],e,U,h=>by simp[fF]at h
 | j::π,sc::l,e,U,h=>by
   simp only[fF]at h;cases h1:fU S T sc e j with
   |none=>rw[h1]at h;cases h
   |some e1=>rw[h1]at h;have:=my h;simp;exact this
def jG (S:fh)(sc:eM)(e:ew)(T:bx)(i:Int):Prop:=∃f,T i=some f/\(S.mt sc.c e.1 e.2 f).isSome=true
def hasB (A:HT)(f:Qq):Bool:=decide (f.ty=A.kind)&&(List.range A.args.length).all λj=>match A.args[j]? with
 |some a=>if a.k=4 then decide (f.args[j]? =some a.v)else true
 |none=>true
def hY (loc:Loc)(n:Nat):Prop:=∃L:List Nat,L.Nodup/\(∀p,p∈L↔∃r π,loc p=some (r,π)/\π≠[])/\L.length=n
section
variable (S:fh) (C:fC) (T:bx) (Ta:Nat->bx) (B:Nat->List Int->bx×bx) (Zo:Nat->Prop) (cj:Option Nat) (loc:Loc) (s:Q8)
def LK (r k:Nat)(m:MS Nat Bool):Prop:=∀y,y∈m.keys↔(∃π,loc y=some (r,π)/\π.length=k)/\some y≠cj
def WO (o:Option PO):Prop:=∃x,o=some (.net x)/\x.types=C.types/\x.rows=C.rows.map (·.b)/\x.rowsP=C.rP/\x.rowsC=C.rC/\x.alphas=C.alphas/\x.alphasA=C.alphasA/\(x.facts.keys.Nodup/\∀i,x.facts.look i=Ta C.g i)/\∃n:Nat,x.parts=(n:Int)/\hY loc n
def Y4 (r:Nat)(R:eQ)(o:Option PO):Prop:=∃y,o=some (.row y)/\y.net=C.g/\y.steps=R.steps.map (·.st)/\y.stepsP=R.sP/\y.stepsC=R.sC/\LK cj loc r R.steps.length y.whole
def im (r:Nat)(R:eQ)(k:Nat)(sc:eM)(o:Option PO):Prop:=match sc.st with
 | .join _=>∃x,o=some (.join x)/\x.alpha=sc.al/\x.row=R.b/\x.k=(k:Int)/\x.cond=sc.c/\LK cj loc r k x.parts
 | .nt _=>∃x,o=some (.nt x)/\x.alpha=sc.al/\x.row=R.b/\x.k=(k:Int)/\x.cond=sc.c/\LK cj loc r k x.parts
 | .test _=>∃x,o=some (.test x)/\x.row=R.b/\x.k=(k:Int)/\x.cond=sc.c/\∀y,y∉x.parts.keys
def HU (Tb:bx)(A:HT)(o:Option PO):Prop:=∃x,o=some (.alpha x)/\x.kind=A.kind/\x.args=A.args/\x.facts.keys.Nodup/\∀i,x.facts.look i=(Tb i).filter (hasB A)
structure OT (R:eQ) (r p:Nat) (π:List Int) (x:ir):Prop where
 env:fF S T R.steps (R.hs,R.vs) π=some (x.has,x.vals)
 top:π=[]->x.up=none/\x.id=0/\p=R.root
 up:∀ρ i,π=ρ++[i]->x.id=i/\∃q,x.up=some q/\loc q=some (r,ρ)
 kids:∀y,y∈x.kids.keys↔∃i,loc y=some (r,π++[i])
 blocks:some p≠cj->∀sc a,R.steps[π.length]? =some sc->sc.st=.nt a->∃bb m,x.blocks=some (bb,m)/\(∀i,i∈m.keys↔jG S sc (x.has,x.vals) (B r π).1 i)/\∀i v,m.look i=some v->v=true
 free:∀sc a,R.steps[π.length]? =some sc->sc.st=.nt a->(∃y i,loc y=some (r,π++[i]))->∀i,¬jG S sc (x.has,x.vals) (B r π).2 i
 kn:x.kids.keys.Nodup
def Rz (p r:Nat)(π:List Int)(o:Option PO):Prop:=∃R x,C.rows[r]? =some R/\o=some (.part x)/\OT S T B cj loc R r p π x
structure Inv:Prop where
 net:WO C Ta loc (s C.g)
 row:∀r R,C.rows[r]? =some R->Y4 C cj loc r R (s R.b)
 step:∀r R k sc,C.rows[r]? =some R->R.steps[k]? =some sc->¬Zo sc.st.adr->im cj loc r R k sc (s sc.st.adr)
 al:∀A∈C.als,HU (Ta A.b) A (s A.b)
 part:∀p r π,loc p=some (r,π)->Rz S C T B cj loc p r π (s p)
 inj:∀p q l,loc p=some l->loc q=some l->p=q
 root:∀r R,C.rows[r]? =some R->loc R.root=some (r,[])
 le:∀n,hY loc n->n<=4097
end
structure oi (C:fC):Prop where
 rows:∀(r r':Nat) (R R':eQ),C.rows[r]? =some R->C.rows[r']? =some R'->R.b=R'.b->r=r'
 steps:∀(r r':Nat) (R R':eQ) (k k':Nat) (sc df:eM),C.rows[r]? =some R->C.rows[r']? =some R'->R.steps[k]? =some sc->R'.steps[k']? =some df->sc.st.adr=df.st.adr->r=r'/\k=k'
 kind:∀(r:Nat) (R:eQ) (k:Nat) (sc:eM),C.rows[r]? =some R->R.steps[k]? =some sc->(match sc.st with| .join _=>sc.c.kind=1| .nt _=>sc.c.kind=2| .test _=>sc.c.kind=3)
theorem hY.unique {loc:Loc} {n m:Nat} (h:hY loc n)(h':hY loc m):n=m:=by
 obtain⟨L,a1,a2,rfl⟩:=h;obtain⟨M,b1,b2,rfl⟩:=h';exact Nat.le_antisymm (I5 a1 λz U=>(b2 z).2 ((a2 z).1 U)) (I5 b1 λz U=>(a2 z).2 ((b2 z).1 U))
def gV (loc:Loc)(p:Nat)(l:Nat×List Int):Loc:=λb=>if b=p then some l else loc b
theorem hY.add {loc:Loc} {n p r:Nat} {π:List Int} (h:hY loc n)(hp:loc p=none)(je:π≠[]):hY (gV loc p (r,π)) (n+1):=by
 obtain⟨L,U,a2,rfl⟩:=h;refine⟨p::L,List.nodup_cons.2 ⟨λhm=>?_,U⟩,λq=>?_,rfl⟩
 ·obtain⟨r',fg,h1,_⟩:=(a2 p).1 hm;rw[hp]at h1;cases h1
 ·simp only[List.mem_cons,a2,gV];by_cases hq:q=p;· subst hq;simp;exact⟨r,π,⟨rfl,rfl⟩,je⟩
  · simp[hq]
section
variable {S:fh} {C:fC} {T:bx} {Ta:Nat->bx} {B:Nat->List Int->bx×bx} {Zo:Nat->Prop} {cj:Option Nat} {loc:Loc} {s:Q8}
theorem Inv.gNet (h:Inv S C T Ta B Zo cj loc s):∃x,Go.Proofs.YtocfkfhdcnjklaaGreatDoor.gNet s C.g=some x/\s C.g=some (.net x)/\x.types=C.types/\x.rows=C.rows.map (·.b)/\x.rowsP=C.rP/\x.rowsC=C.rC/\x.alphas=C.alphas/\x.alphasA=C.alphasA/\(x.facts.keys.Nodup/\∀i,x.facts.look i=Ta C.g i)/\∃n:Nat,x.parts=(n:Int)/\hY loc n:=by
 obtain⟨x,h1,U⟩:=h.net;exact⟨x,by simp[Go.Proofs.YtocfkfhdcnjklaaGreatDoor.gNet,h1],h1,U⟩
theorem Inv.gRow (h:Inv S C T Ta B Zo cj loc s) {r:Nat} {R:eQ} (hr:C.rows[r]? =some R):∃y,Go.Proofs.YtocfkfhdcnjklaaGreatDoor.gRow s R.b=some y/\s R.b=some (.row y)/\y.net=C.g/\y.steps=R.steps.map (·.st)/\y.stepsP=R.sP/\y.stepsC=R.sC/\LK cj loc r R.steps.length y.whole:=by
 obtain⟨x,h1,U⟩:=h.row r R hr;exact⟨x,by simp[Go.Proofs.YtocfkfhdcnjklaaGreatDoor.gRow,h1],h1,U⟩
theorem Inv.gPart (h:Inv S C T Ta B Zo cj loc s) {p r:Nat} {π:List Int} (hp:loc p=some (r,π)):∃R x,C.rows[r]? =some R/\Go.Proofs.YtocfkfhdcnjklaaGreatDoor.gPart s p=some x/\s p=some (.part x)/\OT S T B cj loc R r p π x:=by
 obtain⟨R,x,h1,U,h3⟩:=h.part p r π hp;exact⟨R,x,h1,by simp[Go.Proofs.YtocfkfhdcnjklaaGreatDoor.gPart,U],U,h3⟩
theorem D5 {N r:Nat} {R:eQ} {Q:Bool->Prop} (h:Inv S C T Ta B Zo cj loc s)(hr:C.rows[r]? =some R)(hQ:∀n,hY loc n->Q (decide (4096<n))):OZ N R.b s Q:=by
 obtain⟨y,h1,_,U,_⟩:=h.gRow hr;obtain⟨x,g1,_,_,_,_,_,_,_,_,n,g2,g3⟩:=h.gNet;refine Qi h1 ?_;rw[U];refine Qi g1 ?_;have:=hQ n g3;show Q (decide (x.parts>4096));rw[g2]
 have e:decide ((n:Int)>4096)=decide (4096<n):=by
  by_cases hh:4096<n;· rw[decide_eq_true hh,decide_eq_true an]
  · rw[decide_eq_false hh,decide_eq_false an]
 rw[e];exact this
theorem QC {s:Q8} {a b:Nat} {o:PO} (h:b≠a):cq s a o b=s b:=if_neg h
theorem LK.fresh {r k p:Nat} {l:Nat×List Int} {m:MS Nat Bool} (hp:loc p=none)(h:LK none loc r k m):LK (some p) (gV loc p l) r k m:=λy=>by
 rw[h y];unfold gV;by_cases hy:y=p;· subst hy;simp[hp]
 · simp[hy]
theorem Inv.none_loc (h:Inv S C T Ta B Zo cj loc s) {p:Nat} (hp:s p=none):loc p=none:=by
 cases hl:loc p with
 |none=>rfl
 | some l=>
   obtain⟨R,x,_,U,_⟩:=h.part p l.1 l.2 hl;rw[hp]at U;cases U
theorem W7 {ρ U:List Int} {i i':Int} (h:ρ++[i]=U++[i']):ρ=U/\i=i':=by
 have:=List.append_inj' h rfl;exact⟨this.1,by simpa using this.2⟩
theorem Inv.kid (h:Inv S C T Ta B Zo none loc s) {p q r:Nat} {ρ:List Int} {i:Int} {R:eQ} {x:ir} {xn:fo} {hs:List Bool} {vs:List V} {ka:Nat} (hr:C.rows[r]? =some R)(hp:s p=none)(hq:loc q=some (r,ρ))(hx:s q=some (.part x))(hn:s C.g=some (.net xn))
  (he:fF S T R.steps (R.hs,R.vs) (ρ++[i])=some (hs,vs)) (fG:∀y,loc y≠some (r,ρ++[i])) (fJ:∀sc a,R.steps[ρ.length]? =some sc->sc.st=.nt a->∀j,¬jG S sc (x.has,x.vals) (B r ρ).2 j) (hle:∀n,hY loc n->n<=4096):
  Inv S C T Ta B Zo (some p) (gV loc p (r,ρ++[i])) (cq (cq (cq s p (.part ⟨hs,vs,some q,i,MS.nil,ka,none⟩)) q (.part {x with kids:=x.kids.put p true})) C.g (.net {xn with parts:=xn.parts+1})):=by
 have Dp:=h.none_loc hp;have Zm:q≠p:=λe=>by rw[e,hp]at hx;cases hx
 have Zl:q≠C.g:=λe=>by rw[e,hn]at hx;cases hx
 have Zh:p≠C.g:=λe=>by rw[e,hn]at hp;cases hp
 have old:∀b,b≠p->b≠q->b≠C.g->(cq (cq (cq s p (.part ⟨hs,vs,some q,i,MS.nil,ka,none⟩)) q (.part {x with kids:=x.kids.put p true})) C.g (.net {xn with parts:=xn.parts+1})) b=s b:=λb h1 h2 h3=>by
  rw[QC h3,QC h2,QC h1]
 have Vj:∀y l,loc y=some l->gV loc p (r,ρ++[i]) y=some l:=λy l hl=>by
  unfold gV;rw[if_neg (λe=>by rw[e,Dp]at hl;cases hl)];exact hl
 have R7:∀y j,gV loc p (r,ρ++[i]) y≠some (r,ρ++[i]++[j]):=λy j hy=>by
  unfold gV at hy;split at hy
  ·simp only[Option.some.injEq,Prod.mk.injEq,true_and]at hy;have:=congrArg List.length hy;simp at this
  ·obtain⟨R',x',_,_,h4⟩:=h.part _ _ _ hy;obtain⟨_,q2,_,h5⟩:=h4.up _ _ rfl;exact fG _ h5
 refine⟨?_,?_,?_,?_,?_,?_,?_,?_⟩
 ·obtain⟨x0,a1,a2,a3,a4,a5,a6,a7,a8,n,a9,ig⟩:=h.net;rw[hn]at a1;cases a1;exact⟨_,iQ _ _ _,a2,a3,a4,a5,a6,a7,a8,n+1,by simp[a9],ig.add Dp ax⟩
 ·intro r' R' cy;obtain⟨y,U,b2,b3,b4,b5,b6⟩:=h.row r' R' cy;rw[old _ (λe=>by rw[e,hp]at U;cases U) (λe=>by rw[e,hx]at U;cases U) (λe=>by rw[e,hn]at U;cases U)];exact⟨y,U,b2,b3,b4,b5,b6.fresh Dp⟩
 ·intro r' R' k sc cy hk hz;have h0:=h.step r' R' k sc cy hk hz
  have hb:∀o,s sc.st.adr=some o->(∀z,o≠.part z)->(∀z,o≠.net z)->(cq (cq (cq s p (.part ⟨hs,vs,some q,i,MS.nil,ka,none⟩)) q (.part {x with kids:=x.kids.put p true})) C.g (.net {xn with parts:=xn.parts+1})) sc.st.adr=some o:=λo ho c1 c2=>by
   rw[old _ (λe=>by rw[e,hp]at ho;cases ho) (λe=>by rw[e,hx]at ho;cases ho;exact c1 _ rfl) (λe=>by rw[e,hn]at ho;cases ho;exact c2 _ rfl)];exact ho
  unfold im at h0⊢;split at h0
  ·obtain⟨z,U,b2,b3,b4,b5,b6⟩:=h0;exact⟨z,hb _ U (λ_ e=>by cases e) (λ_ e=>by cases e),b2,b3,b4,b5,b6.fresh Dp⟩
  ·obtain⟨z,U,b2,b3,b4,b5,b6⟩:=h0;exact⟨z,hb _ U (λ_ e=>by cases e) (λ_ e=>by cases e),b2,b3,b4,b5,b6.fresh Dp⟩
  ·obtain⟨z,U,b3,b4,b5,b6⟩:=h0;exact⟨z,hb _ U (λ_ e=>by cases e) (λ_ e=>by cases e),b3,b4,b5,b6⟩
 ·intro A hA;obtain⟨z,U,b2⟩:=h.al A hA;refine⟨z,?_,b2⟩;rw[old _ (λe=>by rw[e,hp]at U;cases U) (λe=>by rw[e,hx]at U;cases U) (λe=>by rw[e,hn]at U;cases U)];exact U
 ·intro p' r' fg hl;by_cases h1:p'=p
  ·subst h1;have:(r,ρ++[i])=(r',fg):=by simpa[gV]using hl
   cases this;refine⟨R,⟨hs,vs,some q,i,MS.nil,ka,none⟩,hr,(by rw[QC Zh,QC (Ne.symm Zm),iQ]),⟨he,λe=>by simp at e,λca i' e=>?_,λy=>?_,λe=>absurd rfl e,λsc a _ _ hk=>?_,List.nodup_nil⟩⟩
   ·obtain⟨rfl,rfl⟩:=W7 e;exact⟨rfl,q,rfl,Vj _ _ hq⟩
   · exact⟨λhy=>absurd hy MS.keys_nil,λ⟨j,hj⟩=>absurd hj (R7 y j)⟩
   · obtain⟨y,j,hj⟩:=hk;exact absurd hj (R7 y j)
  ·have qX:loc p'=some (r',fg):=by unfold gV at hl;rwa [if_neg h1]at hl
   obtain⟨R',x',c1,c2,c3⟩:=h.part p' r' fg qX;have Ze:p'≠C.g:=λe=>by rw[e,hn]at c2;cases c2
   have Zy:∀ca j,fg=ca++[j]->x'.id=j/\∃q2,x'.up=some q2/\gV loc p (r,ρ++[i]) q2=some (r',ca):=λca j e=>by
    obtain⟨d1,q2,d2,d3⟩:=c3.up ca j e;exact⟨d1,q2,d2,Vj _ _ d3⟩
   by_cases h2:p'=q
   ·subst h2;rw[hq]at qX;cases qX;rw[hr]at c1;cases c1;rw[hx]at c2;cases c2;refine⟨R,{x with kids:=x.kids.put p true},hr,(by rw[QC Ze,iQ]),⟨c3.env,c3.top,Zy,λy=>?_,λ_=>c3.blocks ax,λsc a e1 e2 _=>fJ sc a e1 e2,MS.nodup_put c3.kn⟩⟩;show y∈(x.kids.put p true).keys↔_;rw[MS.keys_put,c3.kids];unfold gV;by_cases hy:y=p;· subst hy;simp
    · simp[hy]
   ·refine ⟨R',x',c1,(by rw[old _ h1 h2 Ze];exact c2),⟨c3.env,c3.top,Zy,λy=>?_,λ_=>c3.blocks ax,λsc a e1 e2 hk=>c3.free sc a e1 e2 ?_,c3.kn⟩⟩
    ·rw[c3.kids];unfold gV;by_cases hy:y=p
     ·subst hy;simp only[Dp,if_true,reduceCtorEq,exists_false,Option.some.injEq,Prod.mk.injEq,false_iff,not_exists];rintro j ⟨rfl,e⟩;obtain⟨rfl,_⟩:=W7 e;exact h2 (h.inj _ _ _ qX hq)
     · simp[hy]
    ·obtain⟨y,j,hj⟩:=hk;refine⟨y,j,?_⟩;unfold gV at hj;split at hj
     ·simp only[Option.some.injEq,Prod.mk.injEq]at hj;obtain⟨rfl,e⟩:=hj;obtain⟨rfl,_⟩:=W7 e;exact absurd (h.inj _ _ _ qX hq) h2
     · exact hj
 ·intro a b l ha hb;unfold gV at ha hb;by_cases h1:a=p<;>by_cases h2:b=p;· rw[h1,h2]
  ·rw[if_pos h1]at ha;rw[if_neg h2]at hb;cases ha;exact absurd hb (fG _)
  ·rw[if_neg h1]at ha;rw[if_pos h2]at hb;cases hb;exact absurd ha (fG _)
  ·rw[if_neg h1]at ha;rw[if_neg h2]at hb;exact h.inj _ _ _ ha hb
 ·intro r' R' cy;exact Vj _ _ (h.root r' R' cy)
 ·intro n' ET;obtain⟨_,_,_,_,_,_,_,_,_,n,_,ig⟩:=h.net;have:=ET.unique (ig.add Dp ax);have:=hle n ig;omega
end
end
section
open Go Go.RowKit
section
variable {s:Q8} {a b:Nat} {o:PO}
theorem qU (h:b≠a):gPart (cq s a o) b=gPart s b:=by simp[gPart,cq,h]
theorem xG (h:b≠a):gRow (cq s a o) b=gRow s b:=by simp[gRow,cq,h]
theorem Js (h:b≠a):gNet (cq s a o) b=gNet s b:=by simp[gNet,cq,h]
theorem mC (h:b≠a):uh (cq s a o) b=uh s b:=by simp[uh,cq,h]
theorem D7 (h:b≠a):iA (cq s a o) b=iA s b:=by simp[iA,cq,h]
theorem Jt {x:ir} (h:s a=some (.part x)):gPart s a=some x:=by simp[gPart,h]
theorem qV {x:mi} (h:s a=some (.row x)):gRow s a=some x:=by simp[gRow,h]
theorem Np {x:fo} (h:s a=some (.net x)):gNet s a=some x:=by simp[gNet,h]
theorem W0 {x:M3} (h:s a=some (.alpha x)):uh s a=some x:=by simp[uh,h]
theorem RZ {x:va} (h:s a=some (.join x)):iz s a=some x:=by simp[iz,h]
theorem LZ {x:va} (h:s a=some (.nt x)):iA s a=some x:=by simp[iA,h]
theorem sM {x:kC} (h:s a=some (.test x)):pG s a=some x:=by simp[pG,h]
theorem ry {U:PO}:cq (cq s a o) a U=cq s a U:=by funext c;unfold cq;split<;>rfl
theorem vn (h:b≠a):del s a b=s b:=if_neg h
end
section
variable {S:fh} {C:fC} {T:bx} {Ta:Nat->bx} {B:Nat->List Int->bx×bx} {Zo:Nat->Prop} {cj:Option Nat} {loc:Loc} {s:Q8}
theorem Ka {N p0 q r:Nat} {ρ:List Int} {i:Int} {R:eQ} {e:ew} {hs:List Bool} {vs:List V} {Q:Nat×Q8->Prop} (h:Inv S C T Ta B Zo none loc s)(hr:C.rows[r]? =some R)(hq:loc q=some (r,ρ))(h0:fF S T R.steps (R.hs,R.vs) ρ=some e)
  (he:fF S T R.steps (R.hs,R.vs) (ρ++[i])=some (hs,vs)) (fG:∀y,loc y≠some (r,ρ++[i])) (fJ:∀sc a,R.steps[ρ.length]? =some sc->sc.st=.nt a->∀j,¬jG S sc e (B r ρ).2 j) (NF:∀n,hY loc n->n<=4096)
  (hQ:∀p s',loc p=none->Inv S C T Ta B Zo (some p) (gV loc p (r,ρ++[i])) s'->Q (p,s')):Mx N R.b q hs vs i s Q:=by
 obtain⟨R',x,r1,r2,U,r4⟩:=h.gPart hq;rw[hr]at r1;cases r1;have ZE:e=(x.has,x.vals):=by have:=h0.symm.trans r4.env;exact Option.some.inj this
 obtain⟨y,y1,y2,y3,_⟩:=h.gRow hr;obtain⟨xn,g1,g2,_,_,_,_,_,_,_,n,g3,g4⟩:=h.gNet;have hn:=NF n g4;refine ux λka=>jv λp hp=>?_;have Zm:q≠p:=λe=>by rw[e,hp]at U;cases U
 have Zl:q≠C.g:=λe=>by rw[e,g2]at U;cases U
 have Zh:p≠C.g:=λe=>by rw[e,g2]at hp;cases hp
 have hRp:R.b≠p:=λe=>by rw[e,hp]at y2;cases y2
 have hRq:R.b≠q:=λe=>by rw[e,U]at y2;cases y2
 refine Qi (a:=x) (by rw[qU Zm];exact r2) ?_;refine fQ (λz hz=>?_) ?_
 ·rcases hz with rfl|hz;· rw[iQ];simp
  ·obtain⟨j,hj⟩:=(r4.kids z).1 hz;obtain⟨_,xz,_,c2,_⟩:=h.part _ _ _ hj;rw[QC (λe=>by rw[e,hp]at c2;cases c2),c2];simp
 refine lV ?_;refine Qi (a:=y) (by rw[xG hRq,xG hRp];exact y1) ?_;rw[y3];refine Qi (a:=xn) (by rw[Js (Ne.symm Zl),Js (Ne.symm Zh)];exact g1) ?_;refine fQ an ?_;refine lV ?_;exact hQ p _ (h.none_loc hp) (h.kid hr hp hq U g2 he fG (λsc a e1 e2=>by rw[<-ZE];exact fJ sc a e1 e2) NF)
theorem Ul {N q r:Nat} {ρ:List Int} {i:Int} {R:eQ} {e:ew} {hs:List Bool} {vs:List V} {Q:Nat×Q8->Prop} (h:Inv S C T Ta B Zo none loc s)(hr:C.rows[r]? =some R)(hq:loc q=some (r,ρ))(h0:fF S T R.steps (R.hs,R.vs) ρ=some e)
 (he:fF S T R.steps (R.hs,R.vs) (ρ++[i])=some (hs,vs)) (fG:∀y,loc y≠some (r,ρ++[i])) (fJ:∀sc a,R.steps[ρ.length]? =some sc->sc.st=.nt a->∀j,¬jG S sc e (B r ρ).2 j) (U:∀n,hY loc n->n<=4096)
 (hQ:∀p s',loc p=none->Inv S C T Ta B Zo (some p) (gV loc p (r,ρ++[i])) s'->Q (p,s')):Mx N R.b q hs vs i s Q:=Ka (N:=N) (p0:=0) h hr hq h0 he fG fJ U hQ
theorem Inv.del (hW:oi C)(h:Inv S C T Ta B Zo cj loc s) {r k:Nat} {R:eQ} {sc:eM} (hr:C.rows[r]? =some R)(hk:R.steps[k]? =some sc)(hz:¬Zo sc.st.adr):Inv S C T Ta B (λb=>Zo b\/b=sc.st.adr) cj loc (del s sc.st.adr):=by
 have h0:=h.step r R k sc hr hk hz
 have hs:∀b o,s b=some o->(∀z,o≠.join z)->(∀z,o≠.nt z)->(∀z,o≠.test z)->Go.Proofs.YtocfkfhdcnjklaaGreatDoor.del s sc.st.adr b=some o:=λb o hb c1 c2 c3=>by
  rw[vn];· exact hb
  ·intro e;subst e;unfold im at h0;split at h0;· obtain⟨x,U,_⟩:=h0;rw[hb]at U;cases U;exact c1 _ rfl
   · obtain⟨x,U,_⟩:=h0;rw[hb]at U;cases U;exact c2 _ rfl
   · obtain⟨x,U,_⟩:=h0;rw[hb]at U;cases U;exact c3 _ rfl
 refine⟨?_,?_,?_,?_,?_,h.inj,h.root,h.le⟩
 ·obtain⟨x,a1,a2⟩:=h.net;exact⟨x,hs _ _ a1 (λ_ e=>by cases e) (λ_ e=>by cases e) (λ_ e=>by cases e),a2⟩
 ·intro r' R' cy;obtain⟨x,a1,a2⟩:=h.row r' R' cy;exact⟨x,hs _ _ a1 (λ_ e=>by cases e) (λ_ e=>by cases e) (λ_ e=>by cases e),a2⟩
 ·intro r' R' k' df cy dy xW;rw[vn (λe=>xW (.inr e))];exact h.step r' R' k' df cy dy λe=>xW (.inl e)
 ·intro A hA;obtain⟨x,a1,a2⟩:=h.al A hA;exact⟨x,hs _ _ a1 (λ_ e=>by cases e) (λ_ e=>by cases e) (λ_ e=>by cases e),a2⟩
 ·intro p r' π hl;obtain⟨R',x,a1,a2,a3⟩:=h.part p r' π hl;exact⟨R',x,a1,hs _ _ a2 (λ_ e=>by cases e) (λ_ e=>by cases e) (λ_ e=>by cases e),a3⟩
theorem Inv.back (hW:oi C) {r k:Nat} {R:eQ} {sc:eM} {o:PO} (h:Inv S C T Ta B (λb=>Zo b\/b=sc.st.adr) cj loc s)(hr:C.rows[r]? =some R)(hk:R.steps[k]? =some sc)(hs:s sc.st.adr=none)(ho:im cj loc r R k sc (some o)):Inv S C T Ta B Zo cj loc (cq s sc.st.adr o):=by
 have ne:∀b o',s b=some o'->cq s sc.st.adr o b=some o':=λb o' hb=>by
  rw[QC (λe=>by rw[e,hs]at hb;cases hb)];exact hb
 refine⟨?_,?_,?_,?_,?_,h.inj,h.root,h.le⟩;· obtain⟨x,U,a2⟩:=h.net;exact⟨x,ne _ _ U,a2⟩
 ·intro r' R' cy;obtain⟨x,U,a2⟩:=h.row r' R' cy;exact⟨x,ne _ _ U,a2⟩
 ·intro r' R' k' df cy dy xW;by_cases e:df.st.adr=sc.st.adr
  ·obtain⟨rfl,rfl⟩:=hW.steps _ _ _ _ _ _ _ _ cy hr dy hk e;rw[hr]at cy;cases cy;rw[hk]at dy;cases dy;rw[iQ];exact ho
  ·rw[QC e];exact h.step r' R' k' df cy dy λe'=>by rcases e' with e'|e';exact xW e';exact e e'
 ·intro A hA;obtain⟨x,U,a2⟩:=h.al A hA;exact⟨x,ne _ _ U,a2⟩
 ·intro p r' π hl;obtain⟨R',x,U,a2,a3⟩:=h.part p r' π hl;exact⟨R',x,U,ne _ _ a2,a3⟩
structure iy (T:bx) (D:List Int):Prop where
 mem:∀i f,T i=some f->i∈D/\f.id=i/\1<=i/\i<=1099511627776
 len:D.length<=8000000000000
theorem KC {N:Nat} {A:HT} {Ta:bx} {D:List Int} {Q:List Qq->Prop} (hA:HU Ta A (s A.b))(hT:iy Ta D)(hN:D.length<N)(hD:D.length<=3518437208882)
  (hQ:∀l:List Qq,(l.map (·.id)).Nodup->(∀f,f∈l↔Ta f.id=some f/\hasB A f=true)->l.length<=D.length->Q l):VE N A.b s Q:=by
 obtain⟨x,h1,h2,h3,h4,h5⟩:=hA
 have hk:∀i,i∈x.facts.keys↔∃f,Ta i=some f/\hasB A f=true:=λi=>by
  rw[MS.look_iff];constructor;· rintro⟨f,U⟩;rw[h5]at U;exact⟨f,by simpa using U⟩
  · rintro⟨f,Cc,A4⟩;exact⟨f,by rw[h5];simp[Cc,A4]⟩
 have hlen:x.facts.keys.length<=D.length:=Hm h4 λi hi=>by
  obtain⟨f,U,_⟩:=(hk i).1 hi;exact(hT.mem i f U).1
 have pJ:(QY x.facts).Perm x.facts.keys:=List.mergeSort_perm _ _
 have JL:RY x.facts=true:=by
  unfold RY;simp only[Bool.and_eq_true,List.all_eq_true,decide_eq_true_eq];refine⟨λi hi=>?_,by have:=hT.len;omega⟩;obtain⟨f,U,_⟩:=(hk i).1 hi;obtain⟨_,_,b1,b2⟩:=hT.mem i f U;have e1:IntKind.min .i64=-9223372036854775808:=bf
  have e2:IntKind.max .i64=9223372036854775807:=bf
  simp only[Lit.wf,Bool.and_eq_true,decide_eq_true_eq,e1,e2];omega
 refine Qi (W0 h1) ?_;refine fQ JL ?_;refine wX (λ(u,l)=>u<=(QY x.facts).length/\l.map (·.id)=(QY x.facts).take u/\∀f∈l,Ta f.id=some f/\hasB A f=true) (λ(u,_)=>(QY x.facts).length-u) ?_ N (0,[]) ⟨Nat.zero_le _,rfl,λ_ h=>by cases h⟩ (by rw[pJ.length_eq];simp;omega);rintro⟨u,l⟩ ag ⟨hu,hl,U⟩ fa;dsimp only at hu hl U fa⊢;refine iu (λhb=>?_) (λhb=>?_)
 ·have bq:u<(QY x.facts).length:=of_decide_eq_true hb;obtain⟨i,hi⟩:∃i,(QY x.facts)[u]? =some i:=⟨_,List.getElem?_eq_getElem bq⟩
  have him:i∈x.facts.keys:=pJ.mem_iff.1 (List.mem_of_getElem? hi);obtain⟨f,Cc,A4⟩:=(hk i).1 him;have Wk:=(hT.mem i f Cc).2.1;refine Qi hi ?_;refine DE (a:=f) (by rw[h5];simp[Cc,A4]) ?_;have hll:l.length=u:=by have:=congrArg List.length hl;simpa[Nat.min_eq_left hu]using this
  have hsl:(QY x.facts).length<=D.length:=by rw[pJ.length_eq];exact hlen
  refine fQ (by simp only[List.length_cons,List.length_nil];omega) ?_;refine fQ an ?_;refine fa (u+1,l++[f]) ⟨an,?_,λg hg=>?_⟩ an
  ·rw[List.map_append,hl,List.take_add_one,hi];simp[Wk]
  ·rcases List.mem_append.1 hg with hg|hg;· exact U g hg
   · rw[List.mem_singleton.1 hg,Wk];exact⟨Cc,A4⟩
 ·have pI:¬u<(QY x.facts).length:=of_decide_eq_false hb;have xQ:l.map (·.id)=QY x.facts:=by rw[hl,List.take_of_length_le an]
  refine hQ l ?_ (λf=>⟨U f,λ⟨f1,f2⟩=>?_⟩) ?_;· rw[xQ];exact pJ.nodup_iff.2 h4
  ·have:f.id∈l.map (·.id):=by rw[xQ];exact pJ.mem_iff.2 ((hk _).2 ⟨f,f1,f2⟩)
   obtain⟨g,hg,hgi⟩:=List.mem_map.1 this;have:=(U g hg).1;rw[hgi,f1]at this;cases this;exact hg
  ·have:=congrArg List.length xQ;rw[List.length_map]at this;rw[this,pJ.length_eq];exact hlen
end
end
section
open Go Go.RowKit Classical
noncomputable section
def iY (S:fh)(T:bx)(sc:eM)(e:ew)(i:Int):Option ew:=match sc.st with
 | .join _=>(T i).bind λf=>S.mt sc.c e.1 e.2 f
 | .nt _=>if i=0/\∀j,¬jG S sc e T j then some e else none
 | .test _=>if i=0/\S.ev sc.c e.2=true then some e else none
def fH (S:fh)(T:bx):List eM->ew->List Int->Option ew
 |_,e,[]=>some e
 |[],_,_::_=>none
 |sc::l,e,i::π=>(iY S T sc e i).bind λU=>fH S T l U π
end
abbrev B0:Nat:=9223372036855775808
structure wR (S:fh) (I:ew->Prop) (C:fC) (T:bx) (sc:eM):Prop where
 mt:(∀a,sc.st≠.test a)->∀N,B0<=N->∀f,T f.id=some f->∀e,I e->
  ∃a b,LM N sc.c.kind sc.c.type sc.c.args sc.c.test.kind sc.c.test.value.k sc.c.test.value.n sc.c.test.value.s sc.c.test.var sc.c.test.op sc.c.test.kids f.id f.ty f.args e.1 e.2=some (a,b,(S.mt sc.c e.1 e.2 f).isSome)/\∀p,S.mt sc.c e.1 e.2 f=some p->p=(a,b)/\I p
 ev:∀a,sc.st=.test a->∀N,B0<=N->∀e,I e->
  ∃k n s z,wT N sc.c.test.kind sc.c.test.value.k sc.c.test.value.n sc.c.test.value.s sc.c.test.var sc.c.test.op sc.c.test.kids e.2=some (k,n,s,z)/\S.ev sc.c e.2=(z==0&&(k==1&&n !=0))
 al:(∀a,sc.st≠.test a)->∃A∈C.als,A.b=sc.al/\∀(f:Qq) (e p:ew),S.mt sc.c e.1 e.2 f=some p->hasB A f=true
def qd (loc:Loc):Prop:=∀n,hY loc n->n<=4096
def kz (loc U:Loc):Prop:=∀y l,loc y=some l->U y=some l
def C3 (loc U:Loc)(r:Nat)(π:List Int):Prop:=kz loc U/\∀y l,U y=some l->loc y=none->∃τ,τ≠[]/\l=(r,π++τ)
def iL (S:fh)(T:bx)(loc:Loc)(r:Nat)(π:List Int)(l:List eM)(e:ew):Prop:=∀U,fH S T l e U≠none->∃y,loc y=some (r,π++U)
theorem hY.mono {loc U:Loc} {n n':Nat} (h:hY loc n)(h':hY U n')(he:kz loc U):n<=n':=by
 obtain⟨L,a1,a2,rfl⟩:=h;obtain⟨M,b1,b2,rfl⟩:=h';refine I5 a1 λz hz=>?_;obtain⟨r,π,h1,h2⟩:=(a2 z).1 hz;exact(b2 z).2 ⟨r,π,he _ _ h1,h2⟩
theorem kz.refl (loc:Loc):kz loc loc:=λ_ _ h=>h
theorem kz.trans {a b c:Loc} (h:kz a b)(h':kz b c):kz a c:=λy l hy=>h' y l (h y l hy)
theorem C3.refl (loc:Loc)(r:Nat)(π:List Int):C3 loc loc r π:=⟨kz.refl _,λy l h h'=>by rw[h]at h';cases h'⟩
theorem iL.mono {S:fh} {T:bx} {loc U:Loc} {r:Nat} {π:List Int} {l:List eM} {e:ew} (h:iL S T loc r π l e)(he:kz loc U):iL S T U r π l e:=λτ fT=>by
 obtain⟨y,hy⟩:=h τ fT;exact⟨y,he _ _ hy⟩
section
variable {S:fh} {I:ew->Prop} {C:fC} {T:bx} {Ta:Nat->bx} {B:Nat->List Int->bx×bx} {Zo:Nat->Prop} {cj:Option Nat} {loc:Loc} {s:Q8} {D:List Int}
theorem Inv.cnt (h:Inv S C T Ta B Zo cj loc s):∃n,hY loc n:=by
 obtain⟨x,_,_,_,_,_,_,_,_,n,_,U⟩:=h.net;exact⟨n,U⟩
theorem Xw (h:∃n,hY loc n) {U:Loc} (he:kz loc U)(h':qd U)(hc:∃n,hY U n):qd loc:=λn hn=>by
 obtain⟨m,hm⟩:=hc;exact Nat.le_trans (hn.mono hm he) (h' m hm)
theorem LK.grown {bg:Loc} {r r' k:Nat} {π:List Int} {m:MS Nat Bool} (h:LK none loc r' k m)(hg:C3 loc bg r π)(hk:r'=r->k<=π.length):LK none bg r' k m:=λy=>by
 rw[h y];constructor;· rintro⟨⟨ρ,h1,U⟩,h3⟩;exact⟨⟨ρ,hg.1 _ _ h1,U⟩,h3⟩
 ·rintro⟨⟨ρ,h1,U⟩,h3⟩;refine⟨⟨ρ,?_,U⟩,h3⟩;cases hl:loc y with
  |some l=>have:=hg.1 _ _ hl;rw[h1]at this;exact this.symm
  | none=>
    obtain⟨τ,q1,q2⟩:=hg.2 _ _ h1 hl;simp only[Prod.mk.injEq]at q2;obtain⟨rfl,rfl⟩:=q2;have:=hk rfl;have:=List.length_pos_iff.2 q1;simp only[List.length_append]at U;omega
def Vt (S:fh)(C:fC)(T:bx)(B:Nat->List Int->bx×bx)(I:ew->Prop)(rc:Nat->Int->Nat->Q8->WM Q8)(r:Nat)(R:eQ)(k:Nat):Prop:=
 ∀ (Zo:Nat->Prop) (loc:Loc) (s:Q8) (p:Nat) (π:List Int) (e:ew) (Q:Q8->Prop),Inv S C T (λ_=>T) B Zo (some p) loc s->loc p=some (r,π)->π.length=k->fF S T R.steps (R.hs,R.vs) π=some e->I e->
   (∀y i,loc y≠some (r,π++[i]))->(∀k' sc,k<=k'->R.steps[k']? =some sc->¬Zo sc.st.adr)->
   (∀U s',Inv S C T (λ_=>T) B Zo none U s'->C3 loc U r π->(qd U->iL S T U r π (R.steps.drop k) e)->Q s')->rc R.b (k:Int) p s Q
theorem lu {p:Nat} {l:Nat×List Int}:gV loc p l p=some l:=if_pos rfl
theorem oM {p:Nat} {l:Nat×List Int} (hp:loc p=none):kz loc (gV loc p l):=λy U h=>by
 unfold gV;rw[if_neg (λe=>by rw[e,hp]at h;cases h)];exact h
theorem R9 {N r k a p:Nat} {R:eQ} {sc:eM} {π:List Int} {e:ew} {f:Qq} {rc:Nat->Int->Nat->Q8->WM Q8} {Q:Q8->Prop} (hW:oi C)(hlen:R.steps.length<9223372036854775807)(hN:B0<=N)(hr:C.rows[r]? =some R)(hk:R.steps[k]? =some sc)(bw:sc.st=.join a)(cn:wR S I C T sc)(Gq:Vt S C T B I rc r R (k+1))
  (h:Inv S C T (λ_=>T) B Zo none loc s) (hp:loc p=some (r,π)) (je:π.length=k) (he:fF S T R.steps (R.hs,R.vs) π=some e) (hI:I e) (hf:T f.id=some f) (fG:∀y,loc y≠some (r,π++[f.id])) (hZ:∀k' sc,k<=k'->R.steps[k']? =some sc->¬Zo sc.st.adr)
  (hQ:∀bg s',Inv S C T (λ_=>T) B Zo none bg s'->kz loc bg->(∀y l,bg y=some l->loc y=none->∃τ,l=(r,π++[f.id]++τ))->(qd bg->∀U,S.mt sc.c e.1 e.2 f=some U->iL S T bg r (π++[f.id]) (R.steps.drop (k+1)) U)->Q s'):
  Xf N rc a p f.id f.ty f.args s Q:=by
 have hz:=hZ k sc (Nat.le_refl _) hk;have eZ:sc.st.adr=a:=by rw[bw];rfl
 have h0:=h.step r R k sc hr hk hz;unfold im at h0;rw[bw]at h0;obtain⟨x,b1,b2,b3,b4,b5,b6⟩:=h0;have qk:s a=some (.join x):=b1;refine Qi (RZ qk) ?_;refine QS ?_;rw[b3];refine D5 h hr λn hn=>?_;refine iu (λhb=>?_) (λhb=>?_)
 ·refine hQ loc s h (kz.refl _) (λy l h1 h2=>by rw[h1]at h2;cases h2) λfS=>?_;have:=fS n hn;have:=of_decide_eq_true hb;omega
 ·have hnn:=of_decide_eq_false hb;obtain⟨R',z,c1,c2,c3,c4⟩:=h.gPart hp;rw[hr]at c1;cases c1;have yX:e=(z.has,z.vals):=Option.some.inj (he.symm.trans c4.env);refine Qi c2 ?_;obtain⟨ha,hv,d1,d2⟩:=cn.mt (λa' U=>by rw[bw]at U;cases U) N hN f hf e hI;rw[yX]at d1;rw[b5];refine Qi d1 ?_;refine iu (λsS=>?_) (λsS=>?_)
  ·obtain ⟨U,hme⟩:∃U,S.mt sc.c e.1 e.2 f=some U:=by rw[yX];exact Option.isSome_iff_exists.1 sS
   obtain⟨EP,a0I⟩:=d2 U hme;have jL:k<R.steps.length:=(List.getElem?_eq_some_iff.1 hk).1
   have PW:fF S T R.steps (R.hs,R.vs) (π++[f.id])=some (ha,hv):=by
    rw[XH,he];simp only[Option.bind_some,je,hk,fU,bw,hf,hme,EP]
   refine fQ (by rw[b4];omega) ?_;refine QS ?_;rw[b4];have mF:=h.del hW hr hk hz;rw[eZ]at mF;refine Ul mF hr hp he PW fG (λdf a' q1 q2=>by rw[je,hk]at q1;cases q1;rw[bw]at q2;cases q2) (λm hm=>by have:=hm.unique hn;omega) λp' s1 dc jb=>?_;refine QS ?_;have zX:(k:Int)+1=((k+1:Nat):Int):=an
   rw[zX];refine Gq _ _ s1 p' (π++[f.id]) (ha,hv) _ jb lu (by simp[je]) PW (by rw[<-EP];exact a0I) (λy i hy=>?_) (λk' df dy EV=>?_) λeu s2 iN mI uj=>?_
   ·unfold gV at hy;split at hy
    ·simp only[Option.some.injEq,Prod.mk.injEq,true_and]at hy;have:=congrArg List.length hy;simp at this
    ·obtain⟨R',z',_,_,h4⟩:=h.part _ _ _ hy;obtain⟨_,q2,_,h5⟩:=h4.up _ _ rfl;exact fG _ h5
   ·rintro(hh|hh);· exact hZ k' df an EV hh
    ·have:=(hW.steps r r R R k' k df sc hr hr EV hk (by rw[hh,eZ])).2;omega
   ·refine lV (jK λGH=>?_)
    have pI:C3 loc eu r π:=⟨(oM dc).trans mI.1,λy l h1 h2=>by
     cases hy:gV loc p' (r,π++[f.id]) y with
     | none=>
       obtain⟨τ,_,rfl⟩:=mI.2 y l h1 hy;exact⟨f.id::τ,ax,ax⟩
     | some l'=>
       have h3:=mI.1 y l' hy;rw[h1]at h3;cases h3;unfold gV at hy;split at hy;· cases hy;exact⟨[f.id],ax,rfl⟩
       · rw[h2]at hy;cases hy⟩
    have hb:Inv S C T (λ_=>T) B Zo none eu (cq s2 sc.st.adr (.join x)):=by
     refine Inv.back hW (by rw[eZ];exact iN) hr hk (by rw[eZ];exact GH) ?_;unfold im;rw[bw];exact⟨x,rfl,b2,b3,b4,b5,b6.grown pI (λ_=>an)⟩
    rw[eZ]at hb;refine hQ eu _ hb pI.1 (λy l h1 h2=>?_) λfS e2 iq=>?_
    ·cases hy:gV loc p' (r,π++[f.id]) y with
     | none=>
       obtain⟨τ,_,rfl⟩:=mI.2 y l h1 hy;exact⟨τ,rfl⟩
     | some l'=>
       have h3:=mI.1 y l' hy;rw[h1]at h3;cases h3;unfold gV at hy;split at hy;· cases hy;exact⟨[],ax⟩
       · rw[h2]at hy;cases hy
    ·rw[hme]at iq;cases iq;rw[EP];exact uj fS
  ·refine hQ loc s h (kz.refl _) (λy l h1 h2=>by rw[h1]at h2;cases h2) λ_ e2 iq=>?_;rw[yX]at iq;rw[iq]at sS;cases sS
end
end
section
open Go Go.RowKit Classical
section
variable {S:fh} {I:ew->Prop} {C:fC} {T:bx} {Ta:Nat->bx} {B:Nat->List Int->bx×bx} {Zo:Nat->Prop} {cj:Option Nat} {loc:Loc} {s:Q8} {D:List Int}
theorem LK.reg {r k p:Nat} {π:List Int} {m:MS Nat Bool} (h:LK (some p) loc r k m)(hp:loc p=some (r,π))(hk:π.length=k):LK none loc r k (m.put p true):=λy=>by
 rw[MS.keys_put,h y];by_cases hy:y=p;· subst hy;simp only[true_or,true_iff];exact⟨⟨π,hp,hk⟩,ax⟩
 · simp[hy]
theorem LK.reg' {r U k p:Nat} {π:List Int} {m:MS Nat Bool} (h:LK (some p) loc U k m)(hp:loc p=some (r,π))(hk:U=r->π.length≠k):LK none loc U k m:=λy=>by
 rw[h y];by_cases hy:y=p
 ·subst hy;simp only[ne_eq,not_true_eq_false,and_false,false_iff,not_and,reduceCtorEq,not_false_eq_true,not_true_eq_false];rintro⟨ρ,h1,h2⟩;rw[hp]at h1;cases h1;exact hk rfl h2
 · simp[hy]
theorem Inv.reg (hW:oi C) {p r:Nat} {π:List Int} {R:eQ} {sc:eM} {o:PO} (h:Inv S C T Ta B Zo (some p) loc s)(hr:C.rows[r]? =some R)(hp:loc p=some (r,π))(hk:R.steps[π.length]? =some sc)(hz:¬Zo sc.st.adr)(ho:im none loc r R π.length sc (some o))
  (hb:∀a x,sc.st=.nt a->s p=some (.part x)->∃bb m,x.blocks=some (bb,m)/\(∀i,i∈m.keys↔jG S sc (x.has,x.vals) (B r π).1 i)/\∀i v,m.look i=some v->v=true):Inv S C T Ta B Zo none loc (cq s sc.st.adr o):=by
 have h0:=h.step r R _ sc hr hk hz;have jL:π.length<R.steps.length:=(List.getElem?_eq_some_iff.1 hk).1
 have ne:∀b o',s b=some o'->(∀z,o'≠.join z)->(∀z,o'≠.nt z)->(∀z,o'≠.test z)->cq s sc.st.adr o b=some o':=λb o' hb c1 c2 c3=>by
  rw[QC];· exact hb
  ·intro e;subst e;unfold im at h0;split at h0;· obtain⟨x,U,_⟩:=h0;rw[hb]at U;cases U;exact c1 _ rfl
   · obtain⟨x,U,_⟩:=h0;rw[hb]at U;cases U;exact c2 _ rfl
   · obtain⟨x,U,_⟩:=h0;rw[hb]at U;cases U;exact c3 _ rfl
 refine⟨?_,?_,?_,?_,?_,h.inj,h.root,h.le⟩
 ·obtain⟨x,a1,a2⟩:=h.net;exact⟨x,ne _ _ a1 (λ_ e=>by cases e) (λ_ e=>by cases e) (λ_ e=>by cases e),a2⟩
 ·intro r' R' cy;obtain⟨x,a1,a2,a3,a4,a5,a6⟩:=h.row r' R' cy;refine⟨x,ne _ _ a1 (λ_ e=>by cases e) (λ_ e=>by cases e) (λ_ e=>by cases e),a2,a3,a4,a5,a6.reg' hp λe=>?_⟩;subst e;rw[hr]at cy;cases cy;omega
 ·intro r' R' k' df cy dy xW;by_cases e:df.st.adr=sc.st.adr
  ·obtain⟨rfl,rfl⟩:=hW.steps _ _ _ _ _ _ _ _ cy hr dy hk e;rw[hr]at cy;cases cy;rw[hk]at dy;cases dy;rw[iQ];exact ho
  ·rw [QC e];have h1:=h.step r' R' k' df cy dy xW
   have db:r'=r->π.length≠k':=λU e2=>by
    subst U;subst e2;rw[hr]at cy;cases cy;rw[hk]at dy;cases dy;exact e rfl
   unfold im at h1⊢;split at h1;· obtain⟨x,c1,c2,c3,c4,c5,c6⟩:=h1;exact⟨x,c1,c2,c3,c4,c5,c6.reg' hp db⟩
   · obtain⟨x,c1,c2,c3,c4,c5,c6⟩:=h1;exact⟨x,c1,c2,c3,c4,c5,c6.reg' hp db⟩
   · obtain⟨x,c1,c2,c3,c4,c5⟩:=h1;exact⟨x,c1,c2,c3,c4,c5⟩
 ·intro A hA;obtain⟨x,a1,a2⟩:=h.al A hA;exact⟨x,ne _ _ a1 (λ_ e=>by cases e) (λ_ e=>by cases e) (λ_ e=>by cases e),a2⟩
 ·intro q r' ρ hl;obtain⟨R',x,a1,a2,a3⟩:=h.part q r' ρ hl;refine⟨R',x,a1,ne _ _ a2 (λ_ e=>by cases e) (λ_ e=>by cases e) (λ_ e=>by cases e),⟨a3.env,a3.top,a3.up,a3.kids,λ_ df a' U e2=>?_,a3.free,a3.kn⟩⟩;by_cases hq:q=p
  ·subst hq;rw[hp]at hl;cases hl;rw[hr]at a1;cases a1;rw[hk]at U;cases U;exact hb a' x e2 a2
  · exact a3.blocks (cv hq) df a' U e2
theorem keys_in {r k p:Nat} {π:List Int} {m:MS Nat Bool} (h:Inv S C T Ta B Zo cj loc s)(hm:LK cj loc r k m)(hp:loc p=some (r,π)):∀y,y=p\/y∈m.keys->s y≠none:=λy hy=>by
 have:∃l:Nat×List Int,loc y=some l:=by
  rcases hy with rfl|hy;· exact⟨_,hp⟩
  ·obtain⟨⟨ρ,h1,_⟩,_⟩:=(hm y).1 hy;exact⟨_,h1⟩
 obtain⟨l,U⟩:=this;obtain⟨_,x,_,c2,_⟩:=h.part y l.1 l.2 U;rw[c2];simp
theorem P8 {α:Type} {l:List α} {k:Nat} {x:α} (h:l[k]? =some x):l.drop k=x::l.drop (k+1):=by
 obtain⟨h1,U⟩:=List.getElem?_eq_some_iff.1 h;rw[List.drop_eq_getElem_cons h1,U]
theorem GW {N a b:Nat} {s:Q8} {Q:List Qq->Prop} (e:a=b)(h:VE N b s Q):VE N a s Q:=e▸h
theorem ya {N r k a p:Nat} {R:eQ} {sc:eM} {π:List Int} {e:ew} {rc:Nat->Int->Nat->Q8->WM Q8} {Q:Q8->Prop} (hW:oi C)(hlen:R.steps.length<9223372036854775807)(hN:B0<=N)(hND:D.length<N)(hT:iy T D)(hD:D.length<=3518437208882)(hr:C.rows[r]? =some R)(hk:R.steps[k]? =some sc)(bw:sc.st=.join a)(cn:wR S I C T sc)(Gq:Vt S C T B I rc r R (k+1))
  (h:Inv S C T (λ_=>T) B Zo (some p) loc s) (hp:loc p=some (r,π)) (je:π.length=k) (he:fF S T R.steps (R.hs,R.vs) π=some e) (hI:I e) (fG:∀y i,loc y≠some (r,π++[i])) (hZ:∀k' sc,k<=k'->R.steps[k']? =some sc->¬Zo sc.st.adr)
  (hQ:∀bg s',Inv S C T (λ_=>T) B Zo none bg s'->C3 loc bg r π->(qd bg->iL S T bg r π (R.steps.drop k) e)->Q s'):Q4I N rc a p s Q:=by
 subst je;have hz:=hZ _ sc (Nat.le_refl _) hk;have eZ:sc.st.adr=a:=by rw[bw];rfl
 have h0:=h.step r R _ sc hr hk hz;unfold im at h0;rw[bw]at h0;obtain⟨x,b1,b2,b3,b4,b5,b6⟩:=h0;have qk:s a=some (.join x):=b1;refine Qi (RZ qk) ?_;refine fQ (keys_in h b6 hp) ?_;refine lV ?_;have U6:=h.reg hW (o:=.join {x with parts:=x.parts.put p true}) hr hp hk hz (by unfold im;rw[bw];exact⟨_,rfl,b2,b3,b4,b5,b6.reg hp rfl⟩) (λa' x' q1 _=>by rw[bw]at q1;cases q1);rw[eZ]at U6;obtain⟨A,pH,Ma,TF⟩:=cn.al (λa' e'=>by rw[bw]at e';cases e');refine QS ?_;refine GW (b2.trans Ma.symm) ?_;refine KC (U6.al A pH) hT hND hD λl iX xQ hl3=>?_;refine wX (λ(u,s')=>u<=l.length/\∃bg,Inv S C T (λ_=>T) B Zo none bg s'/\kz loc bg/\(∀y z,bg y=some z->loc y=none->∃f U,f∈l.take u/\z=(r,π++[f.id]++U))/\(qd bg->∀f∈l.take u,∀e',S.mt sc.c e.1 e.2 f=some e'->iL S T bg r (π++[f.id]) (R.steps.drop (π.length+1)) e')) (λ(u,_)=>l.length-u) ?_ N (0,_) ⟨Nat.zero_le _,loc,U6,kz.refl _,(λy z h1 h2=>by rw[h1]at h2;cases h2),(λ_ f hf=>by cases hf)⟩ (by show l.length-0<N;omega);rintro⟨u,s'⟩ ag ⟨hu,da,jb,yW,Cd,yV⟩ fa;dsimp only at hu fa⊢;refine iu (λhb=>?_) (λhb=>?_)
 ·have bq:u<l.length:=of_decide_eq_true hb;obtain⟨f,hf⟩:∃f,l[u]? =some f:=⟨_,List.getElem?_eq_getElem bq⟩
  have hfm:=(xQ f).1 (List.mem_of_getElem? hf);have fz:l.take (u+1)=l.take u++[f]:=by rw[List.take_add_one,hf];rfl
  have sW:∀g∈l.take u,g.id≠f.id:=λg hg e1=>by
   have h1:(l.take (u+1)).map (·.id)=(l.take u).map (·.id)++[f.id]:=by rw[fz];simp
   have h2:((l.take (u+1)).map (·.id)).Nodup:=List.Nodup.sublist (List.Sublist.map _ (List.take_sublist _ _)) iX;rw[h1]at h2;exact(List.nodup_append.1 h2).2.2 _ (List.mem_map.2 ⟨g,hg,rfl⟩) _ ax e1
  refine Qi hf ?_;refine QS ?_;refine R9 hW hlen hN hr hk bw cn Gq jb (yW _ _ hp) rfl he hI hfm.1 (λy hy=>?_) hZ λeu s2 iN iq mI uj=>?_
  ·cases qX:loc y with
   |some z=>have:=yW _ _ qX;rw[hy]at this;cases this;exact fG _ _ qX
   | none=>
     obtain⟨g,U,q1,q2⟩:=Cd y _ hy qX;simp only[Prod.mk.injEq,true_and,List.append_assoc,List.append_cancel_left_eq,List.cons_append,List.nil_append,List.cons.injEq]at q2;exact sW g q1 q2.1.symm
  ·refine fQ (by have:=hT.len;omega) ?_;refine fa (u+1,s2) ⟨an,eu,iN,yW.trans iq,λy z h1 h2=>?_,λfS g hg e' pI=>?_⟩ an
   · cases TZ:da y with
     | some z'=>
       have:=iq _ _ TZ;rw[h1]at this;cases this;obtain⟨g,U,q1,q2⟩:=Cd y _ TZ h2;exact⟨g,U,by rw[fz];exact List.mem_append_left _ q1,q2⟩
     | none=>
       obtain⟨U,q2⟩:=mI y z h1 TZ;exact⟨f,U,by rw[fz];simp,q2⟩
   · rw[fz]at hg;rcases List.mem_append.1 hg with hg|hg;· exact(yV (Xw jb.cnt iq fS iN.cnt) g hg e' pI).mono iq
     · rw[List.mem_singleton.1 hg]at pI⊢;exact uj fS e' pI
 ·have pI:¬u<l.length:=of_decide_eq_false hb;have Wo:l.take u=l:=List.take_of_length_le an;rw[Wo]at Cd yV;refine hQ da s' jb ⟨yW,λy z h1 h2=>?_⟩ λfS U fT=>?_
  ·obtain⟨f,U,_,rfl⟩:=Cd y z h1 h2;exact⟨f.id::U,ax,ax⟩
  ·rw [P8 hk]at fT;cases U with
   |nil=>exact⟨p,by simpa using yW _ _ hp⟩
   | cons i U=>
     simp only[fH,iY,bw]at fT;cases hTi:T i with
     |none=>rw[hTi]at fT;simp at fT
     | some f=>
       rw[hTi]at fT;simp only[Option.bind_some]at fT;cases hmf:S.mt sc.c e.1 e.2 f with
       |none=>rw[hmf]at fT;simp at fT
       | some e'=>
         rw[hmf]at fT;simp only[Option.bind_some]at fT;have hid:=(hT.mem i f hTi).2.1;have hfl:f∈l:=(xQ f).2 ⟨by rw[hid];exact hTi,TF f e e' hmf⟩;obtain⟨y,hy⟩:=yV fS f hfl e' hmf U fT;exact⟨y,by rw[hy,hid];simp⟩
end
end
section
open Go Go.RowKit Classical
theorem jt {A R:Type} {Q:R->Prop} {f:A->WM R} {g:(A->WM R)->WM R} (h:g f Q):ke f g Q:=h
section
variable {S:fh} {I:ew->Prop} {C:fC} {T:bx} {Ta:Nat->bx} {B:Nat->List Int->bx×bx} {Zo:Nat->Prop} {cj:Option Nat} {loc:Loc} {s:Q8} {D:List Int}
theorem Inv.setBlocks {B':Nat->List Int->bx×bx} {p r:Nat} {π:List Int} {R:eQ} {x:ir} {bl:Option (Nat×MS Int Bool)} (h:Inv S C T Ta B Zo cj loc s)(hr:C.rows[r]? =some R)(hp:loc p=some (r,π))(hx:s p=some (.part x))(hB:∀U fg,(U,fg)≠(r,π)->B' U fg=B U fg)
  (hb:some p≠cj->∀sc a,R.steps[π.length]? =some sc->sc.st=.nt a->∃bb m,bl=some (bb,m)/\(∀i,i∈m.keys↔jG S sc (x.has,x.vals) (B' r π).1 i)/\∀i v,m.look i=some v->v=true)
  (hf:∀sc a,R.steps[π.length]? =some sc->sc.st=.nt a->(∃y i,loc y=some (r,π++[i]))->∀i,¬jG S sc (x.has,x.vals) (B' r π).2 i):Inv S C T Ta B' Zo cj loc (cq s p (.part {x with blocks:=bl})):=by
 have ne:∀b o',s b=some o'->(∀z,o'≠.part z)->cq s p (.part {x with blocks:=bl}) b=some o':=λb o' hb c1=>by
  rw[QC (λe=>by rw[e,hx]at hb;cases hb;exact c1 _ rfl)];exact hb
 refine⟨?_,?_,?_,?_,?_,h.inj,h.root,h.le⟩
 ·obtain⟨y,a1,a2⟩:=h.net;exact⟨y,ne _ _ a1 (λ_ e=>by cases e),a2⟩
 ·intro U R' cy;obtain⟨y,a1,a2⟩:=h.row U R' cy;exact⟨y,ne _ _ a1 (λ_ e=>by cases e),a2⟩
 ·intro U R' k' df cy dy xW;have h1:=h.step U R' k' df cy dy xW;unfold im at h1⊢;split at h1;· obtain⟨y,c1,c2⟩:=h1;exact⟨y,ne _ _ c1 (λ_ e=>by cases e),c2⟩
  · obtain⟨y,c1,c2⟩:=h1;exact⟨y,ne _ _ c1 (λ_ e=>by cases e),c2⟩
  · obtain⟨y,c1,c2⟩:=h1;exact⟨y,ne _ _ c1 (λ_ e=>by cases e),c2⟩
 ·intro A hA;obtain⟨y,a1,a2⟩:=h.al A hA;exact⟨y,ne _ _ a1 (λ_ e=>by cases e),a2⟩
 ·intro q U ρ hl;obtain⟨R',y,a1,a2,a3⟩:=h.part q U ρ hl;by_cases hq:q=p
  ·subst hq;rw[hp]at hl;cases hl;rw[hr]at a1;cases a1;rw[hx]at a2;cases a2;exact⟨R,_,hr,iQ _ _ _,⟨a3.env,a3.top,a3.up,a3.kids,hb,hf,a3.kn⟩⟩
  ·have db:(U,ρ)≠(r,π):=λe=>hq (h.inj _ _ _ (by rw[<-e];exact hl) hp);refine⟨R',y,a1,(by rw[QC hq];exact a2),⟨a3.env,a3.top,a3.up,a3.kids,?_,?_,a3.kn⟩⟩;· rw[hB _ _ db];exact a3.blocks
   · rw[hB _ _ db];exact a3.free
theorem tl {N r k a p:Nat} {R:eQ} {sc:eM} {π:List Int} {e:ew} {rc:Nat->Int->Nat->Q8->WM Q8} {Q:Q8->Prop} (hW:oi C)(hlen:R.steps.length<9223372036854775807)(hr:C.rows[r]? =some R)(hk:R.steps[k]? =some sc)(bw:sc.st=.nt a)(Gq:Vt S C T B I rc r R (k+1))
  (h:Inv S C T (λ_=>T) B Zo none loc s) (hp:loc p=some (r,π)) (je:π.length=k) (he:fF S T R.steps (R.hs,R.vs) π=some e) (hI:I e) (hB:B r π=(T,T)) (fG:∀y i,loc y≠some (r,π++[i])) (hZ:∀k' sc,k<=k'->R.steps[k']? =some sc->¬Zo sc.st.adr)
  (hQ:∀bg s',Inv S C T (λ_=>T) B Zo none bg s'->C3 loc bg r π->(qd bg->iL S T bg r π (R.steps.drop k) e)->Q s'):RC N rc a p s Q:=by
 subst je;have hz:=hZ _ sc (Nat.le_refl _) hk;have eZ:sc.st.adr=a:=by rw[bw];rfl
 have h0:=h.step r R _ sc hr hk hz;unfold im at h0;rw[bw]at h0;obtain⟨x,b1,b2,b3,b4,b5,b6⟩:=h0;have qk:s a=some (.nt x):=b1;obtain⟨R',z,c1,c2,c3,c4⟩:=h.gPart hp;rw[hr]at c1;cases c1;have yX:e=(z.has,z.vals):=Option.some.inj (he.symm.trans c4.env);obtain⟨bb,m,m1,m2,m3⟩:=c4.blocks ax sc a hk bw;rw[hB,<-yX]at m2;dsimp only at m2;have Ab:(∀τ:List Int,fH S T (R.steps.drop π.length) e τ≠none->τ=[])->RC N rc a p s Q->RC N rc a p s Q:=λ_ h=>h;refine jt ?_;refine Qi c2 ?_;refine Qi m1 ?_;have jL:π.length<R.steps.length:=(List.getElem?_eq_some_iff.1 hk).1;refine iu (λhb=>?_) (λhb=>?_)
 ·have mJ:∀i,¬jG S sc e T i:=λi hi=>by
    have:=(m2 i).2 hi
    have h0:m.es=[]:=by
     have:m.es.length=0:=by simpa using hb
     exact List.eq_nil_of_length_eq_zero this
    simp[MS.keys,h0]at this
  refine Qi (LZ qk) ?_;refine QS ?_;rw[b3];refine D5 h hr λn hn=>?_;refine iu (λhf=>?_) (λhf=>?_)
  · have hnn:¬4096<n:=by simpa using hf
    refine Qi (LZ qk) ?_;refine Qi c2 ?_;refine fQ (by rw[b4];omega) ?_;refine QS ?_;rw[b3,b4]
    have PW:fF S T R.steps (R.hs,R.vs) (π++[0])=some (z.has,z.vals):=by
     rw[XH,he];simp only[Option.bind_some,hk,fU,bw,if_true,yX]
    have mF:=h.del hW hr hk hz;rw[eZ]at mF;refine Ka (p0:=0) mF hr hp he PW (λy=>fG y 0) (λdf a' q1 q2=>by rw[hk]at q1;cases q1;rw[hB];exact mJ) (λm hm=>by have:=hm.unique hn;omega) λp' s1 dc jb=>?_;refine QS ?_;have zX:(π.length:Int)+1=((π.length+1:Nat):Int):=an
    rw[zX];refine Gq _ _ s1 p' (π++[0]) (z.has,z.vals) _ jb lu ax PW (by rw[<-yX];exact hI) (λy i hy=>?_) (λk' df dy EV=>?_) λeu s2 iN mI uj=>?_
    ·unfold gV at hy;split at hy
     · simp only[Option.some.injEq,Prod.mk.injEq,true_and]at hy;have:=congrArg List.length hy;simp at this
     · obtain⟨R',z',_,_,h4⟩:=h.part _ _ _ hy;obtain⟨_,q2,_,h5⟩:=h4.up _ _ rfl;exact fG _ _ h5
    ·rintro(hh|hh);· exact hZ k' df an EV hh
     · have:=(hW.steps r r R R k' _ df sc hr hr EV hk (by rw[hh,eZ])).2;omega
    ·refine lV (jK λGH=>?_)
     have pI:C3 loc eu r π:=⟨(oM dc).trans mI.1,λy l h1 h2=>by
       cases hy:gV loc p' (r,π++[0]) y with
       | none=>
         obtain⟨τ,_,rfl⟩:=mI.2 y l h1 hy;exact⟨0::τ,ax,ax⟩
       | some l'=>
         have h3:=mI.1 y l' hy;rw[h1]at h3;cases h3;unfold gV at hy;split at hy;· cases hy;exact⟨[0],ax,rfl⟩
         · rw[h2]at hy;cases hy⟩
     have hb:Inv S C T (λ_=>T) B Zo none eu (cq s2 sc.st.adr (.nt x)):=by
       refine Inv.back hW (by rw[eZ];exact iN) hr hk (by rw[eZ];exact GH) ?_;unfold im;rw[bw];exact⟨x,rfl,b2,b3,b4,b5,b6.grown pI (λ_=>an)⟩
     rw[eZ]at hb;refine hQ eu _ hb pI λfS τ U=>?_
     rw[P8 hk]at U;cases τ with
     |nil=>exact⟨p,by simpa using pI.1 _ _ hp⟩
     | cons i τ=>
       simp only[fH,iY,bw]at U;by_cases hi:i=0
       · subst hi;rw[if_pos ⟨rfl,mJ⟩]at U;simp only[Option.bind_some]at U;rw[yX]at U;obtain⟨y,hy⟩:=uj fS τ U;exact⟨y,by rw[hy];simp⟩
       · rw[if_neg (λhh=>hi hh.1)]at U;simp at U
  · have hnn:4096<n:=by simpa using hf
    exact hQ loc s h (C3.refl _ _ _) λfS=>by have:=fS n hn;omega
 ·refine zi rfl ?_;refine hQ loc s h (C3.refl _ _ _) λfS τ U=>?_;rw[P8 hk]at U;cases τ with
  |nil=>exact⟨p,by simpa using hp⟩
  | cons i τ=>
    exfalso;simp only[fH,iY,bw]at U;have db:m.es≠[]:=λe1=>by simp[e1]at hb
    obtain⟨y,l,hl⟩:=List.exists_cons_of_ne_nil db;have hy:y.1∈m.keys:=by simp[MS.keys,hl]
    rw[if_neg (λhh=>hh.2 y.1 ((m2 _).1 hy))]at U;simp at U
end
end
section
open Go Go.RowKit Classical
section
variable {S:fh} {I:ew->Prop} {C:fC} {T:bx} {Ta:Nat->bx} {B:Nat->List Int->bx×bx} {Zo:Nat->Prop} {cj:Option Nat} {loc:Loc} {s:Q8} {D:List Int}
theorem Inv.regT {a p r:Nat} {π:List Int} {R:eQ} {sc:eM} (h:Inv S C T Ta B Zo (some p) loc s)(hr:C.rows[r]? =some R)(hp:loc p=some (r,π))(hk:R.steps[π.length]? =some sc)(bw:sc.st=.test a):Inv S C T Ta B Zo none loc s:=by
 have jL:π.length<R.steps.length:=(List.getElem?_eq_some_iff.1 hk).1;refine⟨h.net,?_,?_,h.al,?_,h.inj,h.root,h.le⟩
 ·intro r' R' U;obtain⟨x,a1,a2,a3,a4,a5,a6⟩:=h.row r' R' U;refine⟨x,a1,a2,a3,a4,a5,a6.reg' hp λe=>?_⟩;subst e;rw[hr]at U;cases U;omega
 ·intro r' R' k' df U dy xW;have h1:=h.step r' R' k' df U dy xW
  have db:(∀b,df.st≠.test b)->r'=r->π.length≠k':=λhh e1 e2=>by
   subst e1;subst e2;rw[hr]at U;cases U;rw[hk]at dy;cases dy;exact hh a bw
  unfold im at h1⊢;split at h1
  ·rename_i b hb;obtain⟨x,c1,c2,c3,c4,c5,c6⟩:=h1;exact⟨x,c1,c2,c3,c4,c5,c6.reg' hp (db λb' e=>by rw[hb]at e;cases e)⟩
  ·rename_i b hb;obtain⟨x,c1,c2,c3,c4,c5,c6⟩:=h1;exact⟨x,c1,c2,c3,c4,c5,c6.reg' hp (db λb' e=>by rw[hb]at e;cases e)⟩
  · exact h1
 ·intro q r' ρ hl;obtain⟨R',x,a1,a2,a3⟩:=h.part q r' ρ hl;refine⟨R',x,a1,a2,⟨a3.env,a3.top,a3.up,a3.kids,λ_ df a' e1 e2=>?_,a3.free,a3.kn⟩⟩;by_cases hq:q=p
  ·subst hq;rw[hp]at hl;cases hl;rw[hr]at a1;cases a1;rw[hk]at e1;cases e1;rw[bw]at e2;cases e2
  · exact a3.blocks (cv hq) df a' e1 e2
theorem yC {N r k a p:Nat} {R:eQ} {sc:eM} {π:List Int} {e:ew} {rc:Nat->Int->Nat->Q8->WM Q8} {Q:Q8->Prop} (hW:oi C)(hlen:R.steps.length<9223372036854775807)(hN:B0<=N)(hr:C.rows[r]? =some R)(hk:R.steps[k]? =some sc)(bw:sc.st=.test a)(cn:wR S I C T sc)(Gq:Vt S C T B I rc r R (k+1))
  (h0:Inv S C T (λ_=>T) B Zo (some p) loc s) (hp:loc p=some (r,π)) (je:π.length=k) (he:fF S T R.steps (R.hs,R.vs) π=some e) (hI:I e) (fG:∀y i,loc y≠some (r,π++[i])) (hZ:∀k' sc,k<=k'->R.steps[k']? =some sc->¬Zo sc.st.adr)
  (hQ:∀bg s',Inv S C T (λ_=>T) B Zo none bg s'->C3 loc bg r π->(qd bg->iL S T bg r π (R.steps.drop k) e)->Q s'):Q4J N rc a p s Q:=by
 subst je;have h:=h0.regT hr hp hk bw;have hz:=hZ _ sc (Nat.le_refl _) hk;have eZ:sc.st.adr=a:=by rw[bw];rfl
 have h1:=h.step r R _ sc hr hk hz;unfold im at h1;rw[bw]at h1;obtain⟨x,b1,b3,b4,b5,b6⟩:=h1;have qk:s a=some (.test x):=b1;obtain⟨R',z,c1,c2,c3,c4⟩:=h.gPart hp;rw[hr]at c1;cases c1;have yX:e=(z.has,z.vals):=Option.some.inj (he.symm.trans c4.env);have jL:π.length<R.steps.length:=(List.getElem?_eq_some_iff.1 hk).1;obtain⟨kk,n,sx,zz,d1,d2⟩:=cn.ev a bw N hN e hI;rw[yX]at d1;refine Qi (sM qk) ?_;refine Qi c2 ?_;rw[b5];refine Qi d1 ?_;refine jt ?_
 have stop:S.ev sc.c e.2=false->Q s:=λHJ=>hQ loc s h (C3.refl _ _ _) λ_ τ U=>by
  rw[P8 hk]at U;cases τ with
  |nil=>exact⟨p,by simpa using hp⟩
  | cons i τ=>
    exfalso;simp only[fH,iY,bw]at U;rw[if_neg (λhh=>by rw[HJ]at hh;cases hh.2)]at U;simp at U
 refine iu (λTK=>?_) (λTK=>zi rfl (stop (by rw[d2,TK];rfl)));refine iu (λsS=>?_) (λsS=>zi rfl (stop (by rw[d2,TK,sS];rfl)));refine iu (λMc=>?_) (λMc=>zi rfl (stop (by rw[d2,TK,sS,Mc];rfl)));have HJ:S.ev sc.c e.2=true:=by rw[d2,TK,sS,Mc];rfl
 refine QS ?_;rw[b3];refine D5 h hr λn hn=>?_;refine iu (λhf=>?_) (λhf=>hQ loc s h (C3.refl _ _ _) λfS=>by have hnn:4096<n:=(cv hf);have:=fS n hn;omega);have hnn:¬4096<n:=by simpa using hf
 refine Qi (sM qk) ?_;refine Qi c2 ?_;refine fQ (by rw[b4];omega) ?_;refine QS ?_;rw[b3,b4]
 have PW:fF S T R.steps (R.hs,R.vs) (π++[0])=some (z.has,z.vals):=by
  rw[XH,he];simp only[Option.bind_some,hk,fU,bw];rw[if_pos ⟨trivial,HJ⟩,yX]
 have mF:=h.del hW hr hk hz;rw[eZ]at mF;refine Ka (p0:=0) mF hr hp he PW (λy=>fG y 0) (λdf a' q1 q2=>by rw[hk]at q1;cases q1;rw[bw]at q2;cases q2) (λm hm=>by have:=hm.unique hn;omega) λp' s1 dc jb=>?_;refine QS ?_;have zX:(π.length:Int)+1=((π.length+1:Nat):Int):=an
 rw[zX];refine Gq _ _ s1 p' (π++[0]) (z.has,z.vals) _ jb lu ax PW (by rw[<-yX];exact hI) (λy i hy=>?_) (λk' df dy EV=>?_) λeu s2 iN mI uj=>?_
 ·unfold gV at hy;split at hy
  · simp only[Option.some.injEq,Prod.mk.injEq,true_and]at hy;have:=congrArg List.length hy;simp at this
  · obtain⟨R',z',_,_,h4⟩:=h.part _ _ _ hy;obtain⟨_,q2,_,h5⟩:=h4.up _ _ rfl;exact fG _ _ h5
 ·rintro(hh|hh);· exact hZ k' df an EV hh
  · have:=(hW.steps r r R R k' _ df sc hr hr EV hk (by rw[hh,eZ])).2;omega
 ·refine lV (jK λGH=>?_)
  have pI:C3 loc eu r π:=⟨(oM dc).trans mI.1,λy l h1 h2=>by
    cases hy:gV loc p' (r,π++[0]) y with
    | none=>
      obtain⟨τ,_,rfl⟩:=mI.2 y l h1 hy;exact⟨0::τ,ax,ax⟩
    | some l'=>
      have h3:=mI.1 y l' hy;rw[h1]at h3;cases h3;unfold gV at hy;split at hy;· cases hy;exact⟨[0],ax,rfl⟩
      · rw[h2]at hy;cases hy⟩
  have hb:Inv S C T (λ_=>T) B Zo none eu (cq s2 sc.st.adr (.test x)):=by
    refine Inv.back hW (by rw[eZ];exact iN) hr hk (by rw[eZ];exact GH) ?_;unfold im;rw[bw];exact⟨x,rfl,b3,b4,b5,b6⟩
  rw[eZ]at hb;refine hQ eu _ hb pI λfS τ U=>?_
  rw[P8 hk]at U;cases τ with
  |nil=>exact⟨p,by simpa using pI.1 _ _ hp⟩
  | cons i τ=>
    simp only[fH,iY,bw]at U;by_cases hi:i=0
    · subst hi;rw[if_pos ⟨rfl,HJ⟩]at U;simp only[Option.bind_some]at U;rw[yX]at U;obtain⟨y,hy⟩:=uj fS τ U;exact⟨y,by rw[hy];simp⟩
    · rw[if_neg (λhh=>hi hh.1)]at U;simp at U
end
end
section
open Go Go.RowKit Classical
section
variable {S:fh} {I:ew->Prop} {C:fC} {T:bx} {Ta:Nat->bx} {B:Nat->List Int->bx×bx} {Zo:Nat->Prop} {cj:Option Nat} {loc:Loc} {s:Q8} {D:List Int}
theorem oV {a:Nat} {o:PO}:cq s a o a=some o:=iQ _ _ _
theorem Ls {a b:Nat} {o o':PO} (h:a≠b):cq (cq s a o) b o'=cq (cq s b o') a o:=by
 funext c;by_cases h1:c=b
 ·subst h1;rw[iQ,QC (λe=>h e.symm),iQ]
 ·by_cases U:c=a
  ·subst U;rw[QC h1,iQ,iQ]
  · rw[QC h1,QC U,QC U,QC h1]
theorem AH {N r k a p:Nat} {R:eQ} {sc:eM} {π:List Int} {e:ew} {rc:Nat->Int->Nat->Q8->WM Q8} {Q:Q8->Prop} (hW:oi C)(hlen:R.steps.length<9223372036854775807)(hN:B0<=N)(hND:D.length<N)(hT:iy T D)(hr:C.rows[r]? =some R)(hk:R.steps[k]? =some sc)(bw:sc.st=.nt a)(cn:wR S I C T sc)(Gq:Vt S C T B I rc r R (k+1))
  (h:Inv S C T (λ_=>T) B Zo (some p) loc s) (hp:loc p=some (r,π)) (je:π.length=k) (he:fF S T R.steps (R.hs,R.vs) π=some e) (hI:I e) (hB:B r π=(T,T)) (fG:∀y i,loc y≠some (r,π++[i])) (hZ:∀k' sc,k<=k'->R.steps[k']? =some sc->¬Zo sc.st.adr)
  (hQ:∀bg s',Inv S C T (λ_=>T) B Zo none bg s'->C3 loc bg r π->(qd bg->iL S T bg r π (R.steps.drop k) e)->Q s'):Q4X N rc a p s Q:=by
 subst je;have hz:=hZ _ sc (Nat.le_refl _) hk;have eZ:sc.st.adr=a:=by rw[bw];rfl
 have h0:=h.step r R _ sc hr hk hz;unfold im at h0;rw[bw]at h0;obtain⟨x,b1,b2,b3,b4,b5,b6⟩:=h0;have qk:s a=some (.nt x):=b1;obtain⟨R',z,c1,c2,c3,c4⟩:=h.gPart hp;rw[hr]at c1;cases c1;have yX:e=(z.has,z.vals):=Option.some.inj (he.symm.trans c4.env);have sQ:a≠p:=λe1=>by rw[e1,c3]at qk;cases qk
 obtain⟨A,pH,Ma,TF⟩:=cn.al (λa' e'=>by rw[bw]at e';cases e');obtain⟨xA,d1,d2,d3,d4,d5⟩:=h.al A pH;have hAa:A.b≠a:=λe1=>by rw[e1,qk]at d1;cases d1
 have hAp:A.b≠p:=λe1=>by rw[e1,c3]at d1;cases d1
 have qm:∀i,i∈xA.facts.keys↔∃f,T i=some f/\hasB A f=true:=λi=>by
  rw[MS.look_iff];constructor;· rintro⟨f,hf⟩;rw[d5]at hf;exact⟨f,by simpa using hf⟩
  · rintro⟨f,Cc,A4⟩;exact⟨f,by rw[d5];simp[Cc,A4]⟩
 have jL:xA.facts.keys.length<=D.length:=Hm d4 λi hi=>by
  obtain⟨f,hf,_⟩:=(qm i).1 hi;exact(hT.mem i f hf).1
 have a1b:∀U:MS Int Bool,∀g:Nat,(∀i,i∈U.keys↔jG S sc e T i)->(∀i v,U.look i=some v->v=true)->Inv S C T (λ_=>T) B Zo none loc (cq (cq s a (.nt {x with parts:=x.parts.put p true})) p (.part {z with blocks:=some (g,U)})):=λU g Gx PQ=>by
  rw[Ls sQ];have q1:Inv S C T (λ_=>T) B Zo (some p) loc (cq s p (.part {z with blocks:=some (g,U)})):=h.setBlocks hr hp c3 (λ_ _ _=>rfl) (λhh=>absurd rfl hh) (λ_ _ _ _ ⟨y,i,hy⟩=>absurd hy (fG y i))
  have:=q1.reg hW (o:=.nt {x with parts:=x.parts.put p true}) hr hp hk hz (by unfold im;rw[bw];exact⟨_,rfl,b2,b3,b4,b5,b6.reg hp rfl⟩) (λa' x' _ lY=>by
   rw[iQ]at lY;cases lY;refine⟨g,U,rfl,λi=>?_,PQ⟩;rw[Gx i,hB,yX])
  rw[eZ]at this;exact this
 refine Qi (LZ qk) ?_;refine fQ (keys_in h b6 hp) ?_;refine lV ?_;refine Qi (a:=z) (by rw[qU (Ne.symm sQ)];exact c2) ?_;refine ux λg15=>lV ?_;refine jt ?_;refine Qi (a:={x with parts:=x.parts.put p true}) (by rw[D7 sQ];exact LZ oV) ?_;have Gs:x.alpha=A.b:=b2.trans Ma.symm;refine Qi (a:=xA) (by show uh _ x.alpha=_;rw[Gs,mC hAp,mC hAa];exact W0 d1) ?_;refine wX (λ(b,m,d,s')=>b=xA.factsA/\m=xA.facts/\d.Nodup/\(∀i∈d,i∈xA.facts.keys)/\∃U:MS Int Bool,s'=cq (cq s a (.nt {x with parts:=x.parts.put p true})) p (.part {z with blocks:=some (g15,U)})/\(∀i,i∈U.keys↔i∈d/\jG S sc e T i)/\∀i v,U.look i=some v->v=true) (λ(_,_,d,_)=>xA.facts.keys.length-d.length) ?_ N (xA.factsA,xA.facts,[],_) ⟨rfl,rfl,List.nodup_nil,(λi hi=>by cases hi),MS.nil,rfl,(λi=>⟨λhi=>absurd hi MS.keys_nil,λhi=>by cases hi.1⟩),λi v hv=>by simp[MS.look,MS.nil,fW]at hv⟩ (by show xA.facts.keys.length-0<N;omega);rintro⟨b,m,d,s'⟩ ag ⟨rfl,rfl,kp,mG,U,rfl,Gx,PQ⟩ fa;dsimp only at kp mG fa⊢;refine Qi (a:=xA) (by show uh _ x.alpha=_;rw[Gs,mC hAp,mC hAa];exact W0 d1) ?_;refine fQ ⟨rfl,rfl⟩ ?_;refine Ph (λef=>?_) λi hi hid=>?_
 ·refine QS ?_
  have a0Z:∀i,i∈U.keys↔jG S sc e T i:=λi=>by
   rw[Gx];refine⟨λhh=>hh.2,λhh=>⟨?_,hh⟩⟩;obtain⟨f,f1,f2⟩:=hh;obtain⟨e',EP⟩:=Option.isSome_iff_exists.1 f2;exact ef i ((qm i).2 ⟨f,f1,TF f e e' EP⟩)
  exact tl hW hlen hr hk bw Gq (a1b U g15 a0Z PQ) hp rfl he hI hB fG hZ hQ
 ·obtain ⟨f,f1,f2⟩:=(qm i).1 hi;have Wk:=(hT.mem i f f1).2.1
  have bq:d.length<xA.facts.keys.length:=by
   have:=Hm (List.nodup_cons.2 ⟨hid,kp⟩) (l:=xA.facts.keys) (by
    intro j hj;rcases List.mem_cons.1 hj with rfl|hj;· exact hi
    · exact mG j hj)
   simp only[List.length_cons]at this;omega
  refine Qi (a:=f) (by rw[d5];simp[f1,f2]) ?_;refine Qi (a:={x with parts:=x.parts.put p true}) (by rw[D7 sQ];exact LZ oV) ?_;refine Qi (a:={z with blocks:=some (g15,U)}) (Jt oV) ?_;obtain⟨ha,hv,q1,q2⟩:=cn.mt (λa' e'=>by rw[bw]at e';cases e') N hN f (by rw[Wk];exact f1) e hI;rw[yX]at q1
  refine Qi (a:=(ha,hv,(S.mt sc.c (z.has,z.vals).1 (z.has,z.vals).2 f).isSome)) (by
   show LM N x.cond.kind x.cond.type x.cond.args x.cond.test.kind x.cond.test.value.k x.cond.test.value.n x.cond.test.value.s x.cond.test.var x.cond.test.op x.cond.test.kids f.id f.ty f.args z.has z.vals=_;rw[b5];exact q1) ?_
  have Gy:(d++[i]).Nodup:=List.nodup_append.2 ⟨kp,ax,λy hy w hw e1=>hid (by simp at hw;rw[<-hw,<-e1];exact hy)⟩
  have gK:∀j∈d++[i],j∈xA.facts.keys:=λj hj=>by
   rcases List.mem_append.1 hj with hj|hj;· exact mG j hj
   · rw[List.mem_singleton.1 hj];exact hi
  refine iu (λhb=>?_) (λhb=>?_)
  ·refine Qi (a:=(g15,U)) rfl ?_;refine lV ?_;refine fa _ ⟨rfl,rfl,Gy,gK,U.put i true,ry,λj=>?_,λj v hv=>?_⟩ (by show xA.facts.keys.length-(d++[i]).length<_;simp only[List.length_append,List.length_cons,List.length_nil];omega)
   ·rw[MS.keys_put,Gx,List.mem_append,List.mem_singleton];by_cases hj:j=i
    ·subst hj;simp only[true_or,true_iff,or_true,true_and];exact⟨f,f1,by rw[yX];exact hb⟩
    · simp[hj]
   ·rw[MS.look_put]at hv;split at hv;· cases hv;rfl
    · exact PQ j v hv
  ·refine fa _ ⟨rfl,rfl,Gy,gK,U,rfl,λj=>?_,PQ⟩ (by show xA.facts.keys.length-(d++[i]).length<_;simp only[List.length_append,List.length_cons,List.length_nil];omega);rw[Gx,List.mem_append,List.mem_singleton];by_cases hj:j=i
   ·subst hj;simp only[or_true,true_and,iff_false_intro hid,false_and,false_iff,false_or];rintro⟨g,g1,g2⟩;rw[f1]at g1;cases g1;rw[yX]at g2;rw[g2]at hb;cases hb
   · simp[hj]
end
end
section
open Go Go.RowKit Classical
section
variable {S:fh} {I:ew->Prop} {C:fC} {T:bx} {Ta:Nat->bx} {B:Nat->List Int->bx×bx} {Zo:Nat->Prop} {cj:Option Nat} {loc:Loc} {s:Q8} {D:List Int}
theorem Inv.regW (hW:oi C) {p r:Nat} {π:List Int} {R:eQ} {y:mi} (h:Inv S C T Ta B Zo (some p) loc s)(hr:C.rows[r]? =some R)(hp:loc p=some (r,π))(hk:π.length=R.steps.length)(hy:s R.b=some (.row y)):Inv S C T Ta B Zo none loc (cq s R.b (.row {y with whole:=y.whole.put p true})):=by
 have ne:∀b o',s b=some o'->(∀z,o'≠.row z)->cq s R.b (.row {y with whole:=y.whole.put p true}) b=some o':=λb o' hb c1=>by
  rw[QC (λe=>by rw[e,hy]at hb;cases hb;exact c1 _ rfl)];exact hb
 refine⟨?_,?_,?_,?_,?_,h.inj,h.root,h.le⟩
 ·obtain⟨x,U,a2⟩:=h.net;exact⟨x,ne _ _ U (λ_ e=>by cases e),a2⟩
 ·intro r' R' cy;obtain⟨x,U,a2,a3,a4,a5,a6⟩:=h.row r' R' cy;by_cases e:R'.b=R.b
  ·obtain rfl:=hW.rows _ _ _ _ cy hr e;rw[hr]at cy;cases cy;rw[hy]at U;cases U;exact⟨{y with whole:=y.whole.put p true},iQ _ _ _,a2,a3,a4,a5,a6.reg hp hk⟩
  ·refine⟨x,(by rw[QC e];exact U),a2,a3,a4,a5,a6.reg' hp λe1=>?_⟩;subst e1;rw[hr]at cy;cases cy;exact absurd rfl e
 ·intro r' R' k' df cy dy xW;have h1:=h.step r' R' k' df cy dy xW
  have db:r'=r->π.length≠k':=λe1 e2=>by
   subst e1;rw[hr]at cy;cases cy;have:=(List.getElem?_eq_some_iff.1 dy).1;omega
  unfold im at h1⊢;split at h1;· obtain⟨x,c1,c2,c3,c4,c5,c6⟩:=h1;exact⟨x,ne _ _ c1 (λ_ e=>by cases e),c2,c3,c4,c5,c6.reg' hp db⟩
  · obtain⟨x,c1,c2,c3,c4,c5,c6⟩:=h1;exact⟨x,ne _ _ c1 (λ_ e=>by cases e),c2,c3,c4,c5,c6.reg' hp db⟩
  · obtain⟨x,c1,c2⟩:=h1;exact⟨x,ne _ _ c1 (λ_ e=>by cases e),c2⟩
 ·intro A hA;obtain⟨x,U,a2⟩:=h.al A hA;exact⟨x,ne _ _ U (λ_ e=>by cases e),a2⟩
 ·intro q r' ρ hl;obtain⟨R',x,U,a2,a3⟩:=h.part q r' ρ hl;refine⟨R',x,U,ne _ _ a2 (λ_ e=>by cases e),⟨a3.env,a3.top,a3.up,a3.kids,λ_ df a' e1 e2=>?_,a3.free,a3.kn⟩⟩;by_cases hq:q=p
  ·subst hq;rw[hp]at hl;cases hl;rw[hr]at U;cases U;have:=(List.getElem?_eq_some_iff.1 e1).1;omega
  · exact a3.blocks (cv hq) df a' e1 e2
theorem Oe {r:Nat} {R:eQ} (hW:oi C)(hlen:R.steps.length<9223372036854775807)(hT:iy T D)(hD:D.length<=3518437208882)(U:C.rows[r]? =some R)(cn:∀sc∈R.steps,wR S I C T sc):∀(d k:Nat),k+d=R.steps.length->(∀π:List Int,k<=π.length->B r π=(T,T))->∀N,B0+D.length+d+1<N->Vt S C T B I (Hl N) r R k
 |d,k,hd,hB,0,hN=>an
 | d,k,hd,hB,N+1,hN=>by
   intro Zo loc s p π e Q h hp je he hI fG hZ hQ;show Q6P N (Hl N) R.b (k:Int) p s Q;obtain⟨y,h1,h2,h3,h4,h5,h6,h7⟩:=h.gRow U;have PZ:y.steps.length=R.steps.length:=by rw[h4];simp
   refine Qi h1 ?_;refine iu (λhb=>?_) (λhb=>?_)
   ·have hkn:k=R.steps.length:=by rw[PZ]at hb;have h9:(k:Int)=(R.steps.length:Int):=(cv hb);omega
    refine fQ (keys_in h h7 hp) ?_;refine lV ?_;refine hQ loc _ (h.regW hW U hp an h2) (C3.refl _ _ _) λ_ τ fT=>?_;rw[hkn,List.drop_length]at fT;cases τ with
    |nil=>exact⟨p,by simpa using hp⟩
    |cons i τ=>simp[fH]at fT
   ·have hkn:k≠R.steps.length:=λe1=>by rw[PZ,e1]at hb;simp at hb
    have bq:k<R.steps.length:=an
    obtain⟨sc,eE⟩:∃sc,R.steps[k]? =some sc:=⟨_,List.getElem?_eq_getElem bq⟩
    obtain⟨d',rfl⟩:∃d',d=d'+1:=⟨d-1,an⟩
    have Gq:=Oe hW hlen hT hD U cn d' (k+1) an (λfg ZH=>hB fg an) N an;have Gz:=cn sc (List.mem_of_getElem? eE);refine fQ an ?_;refine Qi (a:=sc.st) (by rw[h4,Int.toNat_natCast,List.getElem?_map,eE];rfl) ?_;cases bw:sc.st with
    | join a=>
      refine jQ (QS ?_);exact ya hW hlen (by unfold B0 at*;omega) an hT hD U eE bw Gz Gq h hp je he hI fG hZ hQ
    | nt a=>
      refine jR (QS ?_);exact AH hW hlen (by unfold B0 at*;omega) an hT U eE bw Gz Gq h hp je he hI (hB π an) fG hZ hQ
    | test a=>
      refine jS (QS ?_);exact yC hW hlen (by unfold B0 at*;omega) U eE bw Gz Gq h hp je he hI fG hZ hQ
end
end
end Go.Proofs.YtocfkfhdcnjklaaGreatDoor
