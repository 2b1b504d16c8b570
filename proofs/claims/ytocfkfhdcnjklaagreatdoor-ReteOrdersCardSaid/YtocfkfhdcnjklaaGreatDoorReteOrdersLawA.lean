import Derived.Test.YtocfkfhdcnjklaaGreatDoorCards
import Derived.Test.YtocfkfhdcnjklaaGreatDoorTie
import Derived.Test.YtocfkfhdcnjklaaGreatDoorReteAN
import Derived.LaidMore
import Derived.Stop.Joined
open List renaming take_succ_cons->a',drop_succ_cons->b',drop_zero->c',take_zero->d',drop->e'
open Nat renaming le_trans->f'
namespace Go.Proofs.YtocfkfhdcnjklaaGreatDoor
open Go.ChangeShapes Go.WideShapes Go.ChangeAt Go.RowKit Go.Deep
set_option maxRecDepth 100000 in
theorem nb {H:Type} {enc:TypeId×Value->H} {w:World} {base:Nat} {spare:Nat->Bool} {held:Bool} {fuel:Nat} {cs:List Value} {y:DataW H×List MemPlace} (h:DataW.trod enc Tryz.prog w base spare held fuel 9 cs=some y)(hw:gV Tryz.prog 9 y.1):∃x:ByteArray,a00.p (λk=>k<w.heap.size) w cs x/\x.size<=140737488351232:=by
 obtain⟨x,e,U,ok⟩:=DataW.trod_string Tryz.underlying9 h;subst U;exact⟨x,⟨(),e,QF⟩,KM hw⟩
set_option maxRecDepth 100000 in
theorem JT {H:Type} {enc:TypeId×Value->H} {w:World} {base:Nat} {spare:Nat->Bool} {held:Bool} {fuel:Nat} {cs:List Value} {y:DataW H×List MemPlace} (h:DataW.trod enc Tryz.prog w base spare held fuel 3 cs=some y)(hw:gV Tryz.prog 3 y.1):∃x:Int,jv.p (λk=>k<w.heap.size) w cs x/\lA .i64 x:=by
 obtain⟨x,e,_,ok⟩:=DataW.trod_int Tryz.underlying3 h;exact⟨x,⟨(),e,QF⟩,lp ok⟩
set_option maxRecDepth 100000 in
theorem oK {H:Type} {enc:TypeId×Value->H} {w:World} {base:Nat} {spare:Nat->Bool} {held:Bool} {fuel:Nat} {cs:List Value} {y:DataW H×List MemPlace} (h:DataW.trod enc Tryz.prog w base spare held fuel 78 cs=some y)(hw:gV Tryz.prog 78 y.1):∃x:Qa,Qd.p (λk=>k<w.heap.size) w cs x/\Qbp x:=by
 obtain⟨n,hl,hf⟩:=Sk Tryz.underlying78 h hw;have c:Tryz.prog.cellsOf 78=2:=aq
 rw[c]at hl;match cs,hl with
 |[c0,c1],_=>
 obtain⟨z0,h0,g0⟩:∃z,DataW.trod enc Tryz.prog w base spare held n 9 ((e' 0 [c0,c1]).take (Tryz.prog.cellsOf 9))=some z/\gV Tryz.prog 9 z.1:=hf 0 _ rfl;have d0:Tryz.prog.cellsOf 9=1:=aq
 simp only[d0,c',a',d',b']at h0;obtain⟨z1,h1,g1⟩:∃z,DataW.trod enc Tryz.prog w base spare held n 3 ((e' 1 [c0,c1]).take (Tryz.prog.cellsOf 3))=some z/\gV Tryz.prog 3 z.1:=hf 1 _ rfl;have d1:Tryz.prog.cellsOf 3=1:=aq
 simp only[d1,c',a',d',b']at h1;obtain⟨x0,⟨r0,U,f0⟩,vW⟩:=nb h0 g0;simp only[AU,List.cons.injEq,and_true]at U;obtain rfl:=U;obtain⟨x1,⟨r1,e1,f1⟩,rX⟩:=JT h1 g1;simp only[Ei,List.cons.injEq,and_true]at e1;obtain rfl:=e1;exact⟨⟨x0,x1⟩,⟨(),rfl,QF⟩,vW,rX⟩
set_option maxRecDepth 100000 in
theorem FA {H:Type} {enc:TypeId×Value->H} {w:World} {base:Nat} {spare:Nat->Bool} {held:Bool} {fuel:Nat} {cs:List Value} {y:DataW H×List MemPlace} (h:DataW.trod enc Tryz.prog w base spare held fuel 61 cs=some y)(hw:gV Tryz.prog 61 y.1):∃x:Int,HU.p (λk=>k<w.heap.size) w cs x/\lA .u8 x:=by
 obtain⟨x,e,_,ok⟩:=DataW.trod_int Tryz.underlying61 h;exact⟨x,⟨(),e,QF⟩,lp ok⟩
set_option maxRecDepth 100000 in
theorem Fv {H:Type} {enc:TypeId×Value->H} {w:World} {base:Nat} {spare:Nat->Bool} {held:Bool} {fuel:Nat} {cs:List Value} {y:DataW H×List MemPlace} (h:DataW.trod enc Tryz.prog w base spare held fuel 2 cs=some y)(hw:gV Tryz.prog 2 y.1):∃x:Int,jv.p (λk=>k<w.heap.size) w cs x/\lA .i64 x:=by
 obtain⟨x,e,_,ok⟩:=DataW.trod_int Tryz.underlying2 h;exact⟨x,⟨(),e,QF⟩,lp ok⟩
set_option maxRecDepth 100000 in
theorem qq {H:Type} {enc:TypeId×Value->H} {w:World} {base:Nat} {spare:Nat->Bool} {held:Bool} {fuel:Nat} {cs:List Value} {y:DataW H×List MemPlace} (h:DataW.trod enc Tryz.prog w base spare held fuel 63 cs=some y)(hw:gV Tryz.prog 63 y.1):∃x:V,dw.p (λk=>k<w.heap.size) w cs x/\wJ x:=by
 obtain⟨n,hl,U⟩:=Sk Tryz.underlying63 h hw;have c:Tryz.prog.cellsOf 63=3:=aq
 rw[c]at hl;match cs,hl with
 |[c0,c1,c2],_=>
 obtain⟨z0,h0,g0⟩:∃z,DataW.trod enc Tryz.prog w base spare held n 61 ((e' 0 [c0,c1,c2]).take (Tryz.prog.cellsOf 61))=some z/\gV Tryz.prog 61 z.1:=U 0 _ rfl;have d0:Tryz.prog.cellsOf 61=1:=aq
 simp only[d0,c',a',d',b']at h0;obtain⟨z1,h1,g1⟩:∃z,DataW.trod enc Tryz.prog w base spare held n 2 ((e' 1 [c0,c1,c2]).take (Tryz.prog.cellsOf 2))=some z/\gV Tryz.prog 2 z.1:=U 1 _ rfl;have d1:Tryz.prog.cellsOf 2=1:=aq
 simp only[d1,c',a',d',b']at h1;obtain⟨z2,h2,g2⟩:∃z,DataW.trod enc Tryz.prog w base spare held n 9 ((e' 2 [c0,c1,c2]).take (Tryz.prog.cellsOf 9))=some z/\gV Tryz.prog 9 z.1:=U 2 _ rfl;have d2:Tryz.prog.cellsOf 9=1:=aq
 simp only[d2,c',a',d',b']at h2;obtain⟨x0,⟨r0,e0,f0⟩,vW⟩:=FA h0 g0;simp only[AV,List.cons.injEq,and_true]at e0;obtain rfl:=e0;obtain⟨x1,⟨r1,e1,f1⟩,rX⟩:=Fv h1 g1;simp only[Ei,List.cons.injEq,and_true]at e1;obtain rfl:=e1;obtain⟨x2,⟨r2,e2,f2⟩,sV⟩:=nb h2 g2;simp only[AU,List.cons.injEq,and_true]at e2;obtain rfl:=e2;exact⟨⟨x0,x1,x2⟩,⟨(),rfl,QF⟩,vW,rX,sV⟩
set_option maxRecDepth 100000 in
theorem FC {H:Type} {enc:TypeId×Value->H} {w:World} {base:Nat} {spare:Nat->Bool} {held:Bool} {fuel:Nat} {cs:List Value} {y:DataW H×List MemPlace} (h:DataW.trod enc Tryz.prog w base spare held fuel 74 cs=some y)(hw:gV Tryz.prog 74 y.1):∃x:Int,HU.p (λk=>k<w.heap.size) w cs x/\lA .u8 x:=by
 obtain⟨x,e,_,ok⟩:=DataW.trod_int Tryz.underlying74 h;exact⟨x,⟨(),e,QF⟩,lp ok⟩
set_option maxRecDepth 100000 in
theorem zX {H:Type} {enc:TypeId×Value->H} {w:World} {base:Nat} {spare:Nat->Bool} {held:Bool} {fuel:Nat} {cs:List Value} {y:DataW H×List MemPlace} (h:DataW.trod enc Tryz.prog w base spare held fuel 76 cs=some y)(hw:gV Tryz.prog 76 y.1):∃x:gS,jt.p (λk=>k<w.heap.size) w cs x/\zU x:=by
 obtain⟨n,hl,hf⟩:=Sk Tryz.underlying76 h hw;have c:Tryz.prog.cellsOf 76=5:=aq
 rw[c]at hl;match cs,hl with
 |[c0,c1,c2,U,c4],_=>
 obtain⟨z0,h0,g0⟩:∃z,DataW.trod enc Tryz.prog w base spare held n 74 ((e' 0 [c0,c1,c2,U,c4]).take (Tryz.prog.cellsOf 74))=some z/\gV Tryz.prog 74 z.1:=hf 0 _ rfl;have d0:Tryz.prog.cellsOf 74=1:=aq
 simp only[d0,c',a',d',b']at h0;obtain⟨z1,h1,g1⟩:∃z,DataW.trod enc Tryz.prog w base spare held n 3 ((e' 1 [c0,c1,c2,U,c4]).take (Tryz.prog.cellsOf 3))=some z/\gV Tryz.prog 3 z.1:=hf 1 _ rfl;have d1:Tryz.prog.cellsOf 3=1:=aq
 simp only[d1,c',a',d',b']at h1;obtain⟨z2,h2,g2⟩:∃z,DataW.trod enc Tryz.prog w base spare held n 63 ((e' 2 [c0,c1,c2,U,c4]).take (Tryz.prog.cellsOf 63))=some z/\gV Tryz.prog 63 z.1:=hf 2 _ rfl;have d2:Tryz.prog.cellsOf 63=3:=aq
 simp only[d2,c',a',d',b']at h2;obtain⟨x0,⟨r0,e0,f0⟩,vW⟩:=FC h0 g0;simp only[AV,List.cons.injEq,and_true]at e0;obtain rfl:=e0;obtain⟨x1,⟨r1,e1,f1⟩,rX⟩:=JT h1 g1;simp only[Ei,List.cons.injEq,and_true]at e1;obtain rfl:=e1;obtain⟨x2,⟨r2,e2,f2⟩,sV⟩:=qq h2 g2;simp only[YU,List.cons.injEq,and_true]at e2;obtain⟨rfl,rfl,rfl⟩:=e2;exact⟨⟨x0,x1,x2⟩,⟨(),rfl,QF⟩,vW,rX,sV⟩
set_option maxRecDepth 100000 in
theorem Fz {H:Type} {enc:TypeId×Value->H} {w:World} {base:Nat} {spare:Nat->Bool} {held:Bool} {fuel:Nat} {cs:List Value} {y:DataW H×List MemPlace} (h:DataW.trod enc Tryz.prog w base spare held fuel 60 cs=some y)(hw:gV Tryz.prog 60 y.1):∃x:Int,HU.p (λk=>k<w.heap.size) w cs x/\lA .u8 x:=by
 obtain⟨x,e,_,ok⟩:=DataW.trod_int Tryz.underlying60 h;exact⟨x,⟨(),e,QF⟩,lp ok⟩
set_option maxRecDepth 100000 in
theorem FB {H:Type} {enc:TypeId×Value->H} {w:World} {base:Nat} {spare:Nat->Bool} {held:Bool} {fuel:Nat} {cs:List Value} {y:DataW H×List MemPlace} (h:DataW.trod enc Tryz.prog w base spare held fuel 64 cs=some y)(hw:gV Tryz.prog 64 y.1):∃x:Int,HU.p (λk=>k<w.heap.size) w cs x/\lA .u8 x:=by
 obtain⟨x,e,_,ok⟩:=DataW.trod_int Tryz.underlying64 h;exact⟨x,⟨(),e,QF⟩,lp ok⟩
set_option maxRecDepth 100000 in
theorem Qat {H:Type} {enc:TypeId×Value->H} {w:World} {base:Nat} {spare:Nat->Bool} {held:Bool}:∀(fuel:Nat)(cs:List Value)(y:DataW H×List MemPlace)(h:DataW.trod enc Tryz.prog w base spare held fuel 67 cs=some y)(hw:gV Tryz.prog 67 y.1),∃x:Q4,Qj.p (λk=>k<w.heap.size) w cs x/\cj x:=by
 intro fuel;induction fuel using Nat.strongRecOn with
 |_ fuel ih=>
 intro cs y h hw;obtain⟨n,hn,hl,hf⟩:=Aq Tryz.underlying67 h hw;have c:Tryz.prog.cellsOf 67=7:=aq
 rw[c]at hl;match cs,hl with
 |[c0,c1,c2,c3,c4,c5,c6],_=>
 obtain⟨z0,h0,g0⟩:∃z,DataW.trod enc Tryz.prog w base spare held n 60 ((e' 0 [c0,c1,c2,c3,c4,c5,c6]).take (Tryz.prog.cellsOf 60))=some z/\gV Tryz.prog 60 z.1:=hf 0 _ rfl;have d0:Tryz.prog.cellsOf 60=1:=aq
 simp only[d0,c',a',d',b']at h0;obtain⟨z1,h1,g1⟩:∃z,DataW.trod enc Tryz.prog w base spare held n 63 ((e' 1 [c0,c1,c2,c3,c4,c5,c6]).take (Tryz.prog.cellsOf 63))=some z/\gV Tryz.prog 63 z.1:=hf 1 _ rfl;have d1:Tryz.prog.cellsOf 63=3:=aq
 simp only[d1,c',a',d',b']at h1;obtain⟨z2,h2,g2⟩:∃z,DataW.trod enc Tryz.prog w base spare held n 3 ((e' 4 [c0,c1,c2,c3,c4,c5,c6]).take (Tryz.prog.cellsOf 3))=some z/\gV Tryz.prog 3 z.1:=hf 2 _ rfl;have d2:Tryz.prog.cellsOf 3=1:=aq
 simp only[d2,c',a',d',b']at h2;obtain⟨z3,h3,g3⟩:∃z,DataW.trod enc Tryz.prog w base spare held n 64 ((e' 5 [c0,c1,c2,c3,c4,c5,c6]).take (Tryz.prog.cellsOf 64))=some z/\gV Tryz.prog 64 z.1:=hf 3 _ rfl;have d3:Tryz.prog.cellsOf 64=1:=aq
 simp only[d3,c',a',d',b']at h3;obtain⟨z4,h4,g4⟩:∃z,DataW.trod enc Tryz.prog w base spare held n 65 ((e' 6 [c0,c1,c2,c3,c4,c5,c6]).take (Tryz.prog.cellsOf 65))=some z/\gV Tryz.prog 65 z.1:=hf 4 _ rfl;have d4:Tryz.prog.cellsOf 65=1:=aq
 simp only[d4,c',a',d',b']at h4;obtain⟨x0,⟨r0,e0,f0⟩,vW⟩:=Fz h0 g0;simp only[AV,List.cons.injEq,and_true]at e0;obtain rfl:=e0;obtain⟨x1,⟨r1,e1,f1⟩,rX⟩:=qq h1 g1;simp only[YU,List.cons.injEq,and_true]at e1;obtain⟨rfl,rfl,rfl⟩:=e1;obtain⟨x2,⟨r2,e2,f2⟩,sV⟩:=JT h2 g2;simp only[Ei,List.cons.injEq,and_true]at e2;obtain rfl:=e2;obtain⟨x3,⟨r3,e3,f3⟩,Fq⟩:=FB h3 g3;simp only[AV,List.cons.injEq,and_true]at e3;obtain rfl:=e3;obtain⟨p4,k4,x4,e4,f4,U⟩:=Fw Tryz.underlying65 (sz:=7) (R:=Qj) (q:=λy=>cj y) aq bf (λm hm cs y h hw=>ih m an cs y h hw) h4 g4;replace U:=And.intro (NU (m:=1759218604390) U.1 (by kernel_rfl:Tryz.prog.bytesOf 67=80) bf bf bf) U.2;simp only[List.cons.injEq,and_true]at e4;subst e4;exact⟨⟨x0,x1,x2,x3,x4⟩,oO (p4,k4) rfl ((jm f4 QF)),.mk _ vW rX sV Fq U.1 U.2⟩
set_option maxRecDepth 100000 in
theorem Fy {H:Type} {enc:TypeId×Value->H} {w:World} {base:Nat} {spare:Nat->Bool} {held:Bool} {fuel:Nat} {cs:List Value} {y:DataW H×List MemPlace} (h:DataW.trod enc Tryz.prog w base spare held fuel 58 cs=some y)(hw:gV Tryz.prog 58 y.1):∃x:Int,HU.p (λk=>k<w.heap.size) w cs x/\lA .u8 x:=by
 obtain⟨x,e,_,ok⟩:=DataW.trod_int Tryz.underlying58 h;exact⟨x,⟨(),e,QF⟩,lp ok⟩
set_option maxRecDepth 100000 in
theorem oI {H:Type} {enc:TypeId×Value->H} {w:World} {base:Nat} {spare:Nat->Bool} {held:Bool} {fuel:Nat} {cs:List Value} {y:DataW H×List MemPlace} (h:DataW.trod enc Tryz.prog w base spare held fuel 69 cs=some y)(hw:gV Tryz.prog 69 y.1):∃x:Qv,yU.p (λk=>k<w.heap.size) w cs x/\Q9B x:=by
 obtain⟨n,hl,hf⟩:=Sk Tryz.underlying69 h hw;have c:Tryz.prog.cellsOf 69=10:=aq
 rw[c]at hl;match cs,hl with
 |[c0,c1,c2,U,c4,c5,c6,c7,c8,c9],_=>
 obtain⟨z0,h0,g0⟩:∃z,DataW.trod enc Tryz.prog w base spare held n 58 ((e' 0 [c0,c1,c2,U,c4,c5,c6,c7,c8,c9]).take (Tryz.prog.cellsOf 58))=some z/\gV Tryz.prog 58 z.1:=hf 0 _ rfl;have d0:Tryz.prog.cellsOf 58=1:=aq
 simp only[d0,c',a',d',b']at h0;obtain⟨z1,h1,g1⟩:∃z,DataW.trod enc Tryz.prog w base spare held n 3 ((e' 1 [c0,c1,c2,U,c4,c5,c6,c7,c8,c9]).take (Tryz.prog.cellsOf 3))=some z/\gV Tryz.prog 3 z.1:=hf 1 _ rfl;have d1:Tryz.prog.cellsOf 3=1:=aq
 simp only[d1,c',a',d',b']at h1;obtain⟨z2,h2,g2⟩:∃z,DataW.trod enc Tryz.prog w base spare held n 59 ((e' 2 [c0,c1,c2,U,c4,c5,c6,c7,c8,c9]).take (Tryz.prog.cellsOf 59))=some z/\gV Tryz.prog 59 z.1:=hf 2 _ rfl;have d2:Tryz.prog.cellsOf 59=1:=aq
 simp only[d2,c',a',d',b']at h2;obtain⟨z3,h3,g3⟩:∃z,DataW.trod enc Tryz.prog w base spare held n 67 ((e' 3 [c0,c1,c2,U,c4,c5,c6,c7,c8,c9]).take (Tryz.prog.cellsOf 67))=some z/\gV Tryz.prog 67 z.1:=hf 3 _ rfl;have d3:Tryz.prog.cellsOf 67=7:=aq
 simp only[d3,c',a',d',b']at h3;obtain⟨x0,⟨r0,e0,f0⟩,vW⟩:=Fy h0 g0;simp only[AV,List.cons.injEq,and_true]at e0;obtain rfl:=e0;obtain⟨x1,⟨r1,e1,f1⟩,rX⟩:=JT h1 g1;simp only[Ei,List.cons.injEq,and_true]at e1;obtain rfl:=e1;obtain⟨p2,k2,x2,e2,f2,sV⟩:=OI Tryz.underlying59 (sz:=5) (R:=jt) (q:=λy=>zU y) aq bf (λ_ _ _ h hw=>zX h hw) h2 g2;replace sV:=And.intro (NU (m:=2932031007317) sV.1 (by kernel_rfl:Tryz.prog.bytesOf 76=48) bf bf bf) sV.2;simp only[List.cons.injEq,and_true]at e2;subst e2;obtain⟨x3,hp3,Fq⟩:=(Qat _ _ _) h3 g3;obtain⟨r3,e3,_,f3⟩:=S8 _ _ _ _ hp3;simp only[Qak,List.cons.injEq,and_true]at e3;obtain⟨rfl,rfl,rfl,rfl,rfl,rfl,rfl⟩:=e3;exact⟨⟨x0,x1,x2,x3⟩,⟨((p2,k2),r3),rfl,(jm f2 (jm (f3 _ (iZ (k:=0) rfl)) QF))⟩,vW,rX,sV,Fq⟩
set_option maxRecDepth 100000 in
theorem Cz {H:Type} {enc:TypeId×Value->H} {w:World} {base:Nat} {spare:Nat->Bool} {held:Bool} {fuel:Nat} {cs:List Value} {y:DataW H×List MemPlace} (h:DataW.trod enc Tryz.prog w base spare held fuel 103 cs=some y)(hw:gV Tryz.prog 103 y.1):∃x:Int,HU.p (λk=>k<w.heap.size) w cs x/\lA .u8 x:=by
 obtain⟨x,e,_,ok⟩:=DataW.trod_int Tryz.underlying103 h;exact⟨x,⟨(),e,QF⟩,lp ok⟩
set_option maxRecDepth 100000 in
theorem oH {H:Type} {enc:TypeId×Value->H} {w:World} {base:Nat} {spare:Nat->Bool} {held:Bool} {fuel:Nat} {cs:List Value} {y:DataW H×List MemPlace} (h:DataW.trod enc Tryz.prog w base spare held fuel 105 cs=some y)(hw:gV Tryz.prog 105 y.1):∃x:vZ,vL.p (λk=>k<w.heap.size) w cs x/\Qcm x:=by
 obtain⟨n,hl,hf⟩:=Sk Tryz.underlying105 h hw;have c:Tryz.prog.cellsOf 105=4:=aq
 rw[c]at hl;match cs,hl with
 |[c0,c1,c2,c3],_=>
 obtain⟨z0,h0,g0⟩:∃z,DataW.trod enc Tryz.prog w base spare held n 103 ((e' 0 [c0,c1,c2,c3]).take (Tryz.prog.cellsOf 103))=some z/\gV Tryz.prog 103 z.1:=hf 0 _ rfl;have d0:Tryz.prog.cellsOf 103=1:=aq
 simp only[d0,c',a',d',b']at h0;obtain⟨z1,h1,g1⟩:∃z,DataW.trod enc Tryz.prog w base spare held n 3 ((e' 1 [c0,c1,c2,c3]).take (Tryz.prog.cellsOf 3))=some z/\gV Tryz.prog 3 z.1:=hf 1 _ rfl;have d1:Tryz.prog.cellsOf 3=1:=aq
 simp only[d1,c',a',d',b']at h1;obtain⟨z2,h2,g2⟩:∃z,DataW.trod enc Tryz.prog w base spare held n 3 ((e' 2 [c0,c1,c2,c3]).take (Tryz.prog.cellsOf 3))=some z/\gV Tryz.prog 3 z.1:=hf 2 _ rfl;have d2:Tryz.prog.cellsOf 3=1:=aq
 simp only[d2,c',a',d',b']at h2;obtain⟨z3,h3,g3⟩:∃z,DataW.trod enc Tryz.prog w base spare held n 65 ((e' 3 [c0,c1,c2,c3]).take (Tryz.prog.cellsOf 65))=some z/\gV Tryz.prog 65 z.1:=hf 3 _ rfl;have d3:Tryz.prog.cellsOf 65=1:=aq
 simp only[d3,c',a',d',b']at h3;obtain⟨x0,⟨r0,e0,f0⟩,vW⟩:=Cz h0 g0;simp only[AV,List.cons.injEq,and_true]at e0;obtain rfl:=e0;obtain⟨x1,⟨r1,e1,f1⟩,rX⟩:=JT h1 g1;simp only[Ei,List.cons.injEq,and_true]at e1;obtain rfl:=e1;obtain⟨x2,⟨r2,e2,f2⟩,sV⟩:=JT h2 g2;simp only[Ei,List.cons.injEq,and_true]at e2;obtain rfl:=e2;obtain⟨p3,k3,x3,e3,f3,U⟩:=OI Tryz.underlying65 (sz:=7) (R:=Qj) (q:=λy=>cj y) aq bf (λ_ _ _ h hw=>(Qat _ _ _) h hw) h3 g3;replace U:=And.intro (NU (m:=1759218604390) U.1 (by kernel_rfl:Tryz.prog.bytesOf 67=80) bf bf bf) U.2;simp only[List.cons.injEq,and_true]at e3;subst e3;exact⟨⟨x0,x1,x2,x3⟩,⟨(p3,k3),rfl,(jm f3 QF)⟩,vW,rX,sV,U⟩
set_option maxRecDepth 100000 in
theorem oJ {H:Type} {enc:TypeId×Value->H} {w:World} {base:Nat} {spare:Nat->Bool} {held:Bool} {fuel:Nat} {cs:List Value} {y:DataW H×List MemPlace} (h:DataW.trod enc Tryz.prog w base spare held fuel 73 cs=some y)(hw:gV Tryz.prog 73 y.1):∃x:Q9,Qe.p (λk=>k<w.heap.size) w cs x/\TX x:=by
 obtain⟨n,hl,hf⟩:=Sk Tryz.underlying73 h hw;have c:Tryz.prog.cellsOf 73=5:=aq
 rw[c]at hl;match cs,hl with
 |[c0,c1,c2,U,c4],_=>
 obtain⟨z0,h0,g0⟩:∃z,DataW.trod enc Tryz.prog w base spare held n 9 ((e' 0 [c0,c1,c2,U,c4]).take (Tryz.prog.cellsOf 9))=some z/\gV Tryz.prog 9 z.1:=hf 0 _ rfl;have d0:Tryz.prog.cellsOf 9=1:=aq
 simp only[d0,c',a',d',b']at h0;obtain⟨z1,h1,g1⟩:∃z,DataW.trod enc Tryz.prog w base spare held n 3 ((e' 1 [c0,c1,c2,U,c4]).take (Tryz.prog.cellsOf 3))=some z/\gV Tryz.prog 3 z.1:=hf 1 _ rfl;have d1:Tryz.prog.cellsOf 3=1:=aq
 simp only[d1,c',a',d',b']at h1;obtain⟨z2,h2,g2⟩:∃z,DataW.trod enc Tryz.prog w base spare held n 3 ((e' 2 [c0,c1,c2,U,c4]).take (Tryz.prog.cellsOf 3))=some z/\gV Tryz.prog 3 z.1:=hf 2 _ rfl;have d2:Tryz.prog.cellsOf 3=1:=aq
 simp only[d2,c',a',d',b']at h2;obtain⟨z3,h3,g3⟩:∃z,DataW.trod enc Tryz.prog w base spare held n 70 ((e' 3 [c0,c1,c2,U,c4]).take (Tryz.prog.cellsOf 70))=some z/\gV Tryz.prog 70 z.1:=hf 3 _ rfl;have d3:Tryz.prog.cellsOf 70=1:=aq
 simp only[d3,c',a',d',b']at h3;obtain⟨z4,h4,g4⟩:∃z,DataW.trod enc Tryz.prog w base spare held n 71 ((e' 4 [c0,c1,c2,U,c4]).take (Tryz.prog.cellsOf 71))=some z/\gV Tryz.prog 71 z.1:=hf 4 _ rfl;have d4:Tryz.prog.cellsOf 71=1:=aq
 simp only[d4,c',a',d',b']at h4;obtain⟨x0,⟨r0,e0,f0⟩,vW⟩:=nb h0 g0;simp only[AU,List.cons.injEq,and_true]at e0;obtain rfl:=e0;obtain⟨x1,⟨r1,e1,f1⟩,rX⟩:=JT h1 g1;simp only[Ei,List.cons.injEq,and_true]at e1;obtain rfl:=e1;obtain⟨x2,⟨r2,e2,f2⟩,sV⟩:=JT h2 g2;simp only[Ei,List.cons.injEq,and_true]at e2;obtain rfl:=e2;obtain⟨p3,k3,x3,e3,f3,Fq⟩:=OI Tryz.underlying70 (sz:=10) (R:=yU) (q:=λy=>Q9B y) aq bf (λ_ _ _ h hw=>oI h hw) h3 g3;replace Fq:=And.intro (NU (m:=1172812402926) Fq.1 (by kernel_rfl:Tryz.prog.bytesOf 69=120) bf bf bf) Fq.2;simp only[List.cons.injEq,and_true]at e3;subst e3;obtain⟨p4,k4,x4,e4,f4,Oq⟩:=OI Tryz.underlying71 (sz:=4) (R:=vL) (q:=λy=>Qcm y) aq bf (λ_ _ _ h hw=>oH h hw) h4 g4;replace Oq:=And.intro (NU (m:=2932031007317) Oq.1 (by kernel_rfl:Tryz.prog.bytesOf 105=48) bf bf bf) Oq.2;simp only[List.cons.injEq,and_true]at e4;subst e4;exact⟨⟨x0,x1,x2,x3,x4⟩,⟨((p3,k3),(p4,k4)),rfl,(jm f3 (jm f4 QF))⟩,vW,rX,sV,Fq,Oq⟩
set_option maxRecDepth 100000 in
theorem Qd8 {H:Type} {enc:TypeId×Value->H} {w:World} {base:Nat} {spare:Nat->Bool} {held:Bool} {fuel:Nat} {cs:List Value} {y:DataW H×List MemPlace} (h:DataW.trod enc Tryz.prog w base spare held fuel 25 cs=some y)(hw:gV Tryz.prog 25 y.1):∃x:Sm,zf.p (λk=>k<w.heap.size) w cs x/\Q8W x:=by
 obtain⟨n,hl,hf⟩:=Sk Tryz.underlying25 h hw;have c:Tryz.prog.cellsOf 25=2:=aq
 rw[c]at hl;match cs,hl with
 |[c0,c1],_=>
 obtain⟨z0,h0,g0⟩:∃z,DataW.trod enc Tryz.prog w base spare held n 22 ((e' 0 [c0,c1]).take (Tryz.prog.cellsOf 22))=some z/\gV Tryz.prog 22 z.1:=hf 0 _ rfl;have d0:Tryz.prog.cellsOf 22=1:=aq
 simp only[d0,c',a',d',b']at h0;obtain⟨z1,h1,g1⟩:∃z,DataW.trod enc Tryz.prog w base spare held n 23 ((e' 1 [c0,c1]).take (Tryz.prog.cellsOf 23))=some z/\gV Tryz.prog 23 z.1:=hf 1 _ rfl;have d1:Tryz.prog.cellsOf 23=1:=aq
 simp only[d1,c',a',d',b']at h1;obtain⟨p0,k0,x0,e0,f0,vW⟩:=OI Tryz.underlying22 (sz:=2) (R:=Qd) (q:=λy=>Qbp y) aq bf (λ_ _ _ h hw=>oK h hw) h0 g0;replace vW:=And.intro (NU (m:=5864062014634) vW.1 (by kernel_rfl:Tryz.prog.bytesOf 78=24) bf bf bf) vW.2;simp only[List.cons.injEq,and_true]at e0;subst e0;obtain⟨p1,k1,x1,e1,f1,U⟩:=OI Tryz.underlying23 (sz:=5) (R:=Qe) (q:=λy=>TX y) aq bf (λ_ _ _ h hw=>oJ h hw) h1 g1;replace U:=And.intro (NU (m:=1759218604390) U.1 (by kernel_rfl:Tryz.prog.bytesOf 73=80) bf bf bf) U.2;simp only[List.cons.injEq,and_true]at e1;subst e1;exact⟨⟨x0,x1⟩,⟨((p0,k0),(p1,k1)),rfl,(jm f0 (jm f1 QF))⟩,vW,U⟩
set_option maxRecDepth 100000 in
theorem Qd4 {H:Type} {enc:TypeId×Value->H} {w:World} {base:Nat} {spare:Nat->Bool} {held:Bool} {fuel:Nat} {cs:List Value} {y:DataW H×List MemPlace} (h:DataW.trod enc Tryz.prog w base spare held fuel 40 cs=some y)(hw:gV Tryz.prog 40 y.1):∃x:Qo,QL.p (λk=>k<w.heap.size) w cs x/\Jj x:=by
 obtain⟨n,hl,hf⟩:=Sk Tryz.underlying40 h hw;have c:Tryz.prog.cellsOf 40=3:=aq
 rw[c]at hl;match cs,hl with
 |[c0,c1,c2],_=>
 obtain⟨z0,h0,g0⟩:∃z,DataW.trod enc Tryz.prog w base spare held n 3 ((e' 0 [c0,c1,c2]).take (Tryz.prog.cellsOf 3))=some z/\gV Tryz.prog 3 z.1:=hf 0 _ rfl;have d0:Tryz.prog.cellsOf 3=1:=aq
 simp only[d0,c',a',d',b']at h0;obtain⟨z1,h1,g1⟩:∃z,DataW.trod enc Tryz.prog w base spare held n 3 ((e' 1 [c0,c1,c2]).take (Tryz.prog.cellsOf 3))=some z/\gV Tryz.prog 3 z.1:=hf 1 _ rfl;have d1:Tryz.prog.cellsOf 3=1:=aq
 simp only[d1,c',a',d',b']at h1;obtain⟨z2,h2,g2⟩:∃z,DataW.trod enc Tryz.prog w base spare held n 38 ((e' 2 [c0,c1,c2]).take (Tryz.prog.cellsOf 38))=some z/\gV Tryz.prog 38 z.1:=hf 2 _ rfl;have d2:Tryz.prog.cellsOf 38=1:=aq
 simp only[d2,c',a',d',b']at h2;obtain⟨x0,⟨r0,e0,f0⟩,vW⟩:=JT h0 g0;simp only[Ei,List.cons.injEq,and_true]at e0;obtain rfl:=e0;obtain⟨x1,⟨r1,e1,f1⟩,rX⟩:=JT h1 g1;simp only[Ei,List.cons.injEq,and_true]at e1;obtain rfl:=e1;obtain⟨p2,k2,x2,e2,f2,U⟩:=OI Tryz.underlying38 (sz:=3) (R:=dw) (q:=λy=>wJ y) aq bf (λ_ _ _ h hw=>qq h hw) h2 g2;replace U:=And.intro (NU (m:=4398046510976) U.1 (by kernel_rfl:Tryz.prog.bytesOf 63=32) bf bf bf) U.2;simp only[List.cons.injEq,and_true]at e2;subst e2;exact⟨⟨x0,x1,x2⟩,⟨(p2,k2),rfl,(jm f2 QF)⟩,vW,rX,U⟩
theorem Re:ownKnob Tryz.prog.godebug=none:=aq
theorem M7:laidOutB Tryz.prog=true:=aq
def Ms:Array Value:=match Go.Pinned.utf8First with
 | .agg l=>(l.map λd=>match d with| .lit (.int k n)=>Value.int k n|_=>.bool false).toArray
 |_=>#[]
noncomputable def a1z (os:Os):World:={World.doorLaid Tryz.prog 4000 os with heap:=match Tryz.prog.globalNamed "unicode/utf8.first" with
 | some g=>match(((begin Tryz.prog (λ_ _=>0) default).world.heap[g]?).bind Obj.row?)with
   |some (_,t)=>(World.doorLaid Tryz.prog 4000 os).heap.setIfInBounds g (.cells Ms t (0,0))
   |none=>#[]
 |none=>#[]}
theorem Ky (os:Os)(args:Array Value):laidMetH Tryz.prog Rows.reteOrdersRow.laid ((a1z os).forCall (λ_ _=>0) ⟨#[],args,[]⟩).memory:=
 laidMetH_of_parts3 (fuel:=8) (laidMet_of_run' 8 aq aq) aq aq
set_option maxRecDepth 100000 in
theorem oQ (os:Os)(started:os.Started)(H:Type)(enc:TypeId×Value->H):
  ReturnsInHanded {} Tryz.checked os 6 .any (λw args=>(Rows.reteOrdersSpec.pre enc Tryz.prog Tryz.f6 [] false w args/\laidMetH Tryz.prog Rows.reteOrdersRow.laid w)/\sizedMet enc Tryz.prog Tryz.f6 (OpenSpec.ofChange Rows.reteOrdersSpec) false w args)
   (Rows.reteOrdersSpec.post enc Tryz.prog Tryz.f6 false true false false):=by
 refine returnsInHanded_of_change_and (C:=Tryz.checked) (X:=λw _=>laidMetH Tryz.prog Rows.reteOrdersRow.laid w) (λ_ _ _ hh h=>h.of_heap hh) Re started aq Tryz.func6
  (ChangeSpec.witness_shaped (enc:=enc) (C:=Tryz.checked) (os:=os) (X:=λw _=>laidMetH Tryz.prog Rows.reteOrdersRow.laid w) false (a1z os) #[.agg #[.slice none 0 0,.slice none 0 0],.slice none 0 0,.slice none 0 0,.int .i64 0] 8 rfl (World.shaped_of_RefB aq aq) aq aq aq (Ky os _)) ?_
 intro W base args ds gs before T9 hW a3y a1b hL _;have LS:∀(j:Nat) t v,Tryz.f6.params[j]? =some t->args[j]? =some v->Value.okWide Tryz.prog W .any base t v:=T9;have hW':=hW;obtain⟨p,q,hA0,hV,rfl,hfz,Iq⟩:=hW;have U:DataW.TrodAll enc Tryz.prog W 0 (λ_=>true) true Tryz.f6.params.toList args.toList ds p:=hA0;have j9:(DataW.weightsEach Tryz.prog (Tryz.f6.params.toList++_) (ds++gs)).all (·<=reachBytes)=true:=a1b;rw[Tryz.params6]at U LS j9;clear hA0 T9 a1b;obtain⟨args⟩:=args;obtain⟨v0,r0,d0,s0,p0,q0,e0,rfl,rfl,⟨n0,h0⟩,U⟩:=trodAll_cons U;obtain⟨v1,r1,d1,s1,p1,q1,e1,rfl,rfl,⟨n1,h1⟩,U⟩:=trodAll_cons U;obtain⟨v2,r2,d2,s2,p2,q2,e2,rfl,rfl,⟨n2,h2⟩,U⟩:=trodAll_cons U;obtain⟨v3,r3,d3,s3,p3,q3,e3,rfl,rfl,⟨n3,h3⟩,U⟩:=trodAll_cons U;obtain⟨e4,rfl,rfl⟩:=trodAll_nil U;subst e4;subst e3;subst e2;subst e1;simp only at e0;subst e0;obtain⟨rfl,rfl⟩:=trodVars_none hV;obtain⟨⟨c0⟩,rfl⟩:=Ft Tryz.underlying25 (LS 0 _ v0 rfl rfl);obtain⟨x0,⟨r0,e,f0⟩,vW⟩:=Qd8 h0 (oc j9 0 rfl rfl);replace e:c0=Qbh x0 r0:=e;subst e;rw[y0 Tryz.underlying50 (LS 1 _ v1 rfl rfl)]at h1;obtain⟨pa1,ca1,x1,e,Fc,rX⟩:=OI Tryz.underlying50 (sz:=3) (R:=QL) (q:=λy=>Jj y) aq bf (λ_ _ _ h hw=>Qd4 h hw) h1 (oc j9 1 rfl rfl);replace rX:=And.intro (f' (NU (m:=3518437208780) rX.1 (by kernel_rfl:Tryz.prog.bytesOf 40=40) bf bf bf) (by decide:3518437208780<=140737488351232)) rX.2;simp only[List.cons.injEq,and_true]at e;subst e;rw[y0 Tryz.underlying50 (LS 2 _ v2 rfl rfl)]at h2;obtain⟨pa2,ca2,x2,e,Fe,sV⟩:=OI Tryz.underlying50 (sz:=3) (R:=QL) (q:=λy=>Jj y) aq bf (λ_ _ _ h hw=>Qd4 h hw) h2 (oc j9 2 rfl rfl);replace sV:=And.intro (f' (NU (m:=3518437208780) sV.1 (by kernel_rfl:Tryz.prog.bytesOf 40=40) bf bf bf) (by decide:3518437208780<=140737488351232)) sV.2;simp only[List.cons.injEq,and_true]at e;subst e;rw[Fu Tryz.underlying3 (LS 3 _ v3 rfl rfl)]at h3;obtain⟨x3,⟨r3,e,f3⟩,Fq⟩:=JT h3 (oc j9 3 rfl rfl);simp only[Ei,List.cons.injEq,and_true]at e;subst e;have a0M:=(laidMetH_iff.1 hL).1.filter (λx=>x.1== "internal/strconv.uint64pow10");have a2e:((Rows.reteOrdersRow.laid.filter λx=>x.2.handleName?.isNone).filter λx=>x.1== "internal/strconv.uint64pow10")=[("internal/strconv.uint64pow10",Lib.tabData .u64 Lib.pow10Tab)]:=aq
 rw[a2e]at a0M;have LQ:Lib.TabIs Tryz.prog W "internal/strconv.uint64pow10" .u64 Lib.pow10Tab:=Lib.tabIs_of_head (t:=498) (e:=322) (n:=20) sX aq aq aq aq aq a0M;have fa:=vf (Q9p 9223372036860000000 r0.1.1 r0.1.2 x0.types r0.2.1 r0.2.2 x0.rules pa1 ca1 x1 pa2 ca2 x2 x3 _ (uY x0 vW x1 rX x2 sV x3 Fq)) (w:=W) (jm (f0 _ (iZ (k:=0) rfl)) (jm (f0 _ (iZ (k:=1) rfl)) (jm Fc (jm Fe (jm (RO LQ) QF)))));refine fa.mono λe W' ⟨he,hm⟩=>?_
 subst he;have hb:Below W.heap.size W W':=hm.to_below (Nat.le_refl _) (λ_ h=>h.elim);refine⟨_,rfl,M8 M7 ?_ rfl Tryz.underlying4 rfl hW' rfl rfl rfl hb⟩;rw[Tryz.params6];intro t ht;simp only[List.mem_cons,List.not_mem_nil,or_false]at ht;rcases ht with rfl|rfl|rfl|rfl<;>exact⟨aq,of_decide_eq_true aq⟩
end Go.Proofs.YtocfkfhdcnjklaaGreatDoor
