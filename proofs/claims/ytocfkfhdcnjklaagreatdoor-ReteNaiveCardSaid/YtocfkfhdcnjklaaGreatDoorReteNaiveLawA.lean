import Derived.Test.YtocfkfhdcnjklaaGreatDoorCards
import Derived.Test.YtocfkfhdcnjklaaGreatDoorTie
import Derived.Test.YtocfkfhdcnjklaaGreatDoorReteAN
import Derived.LaidMore
import Derived.Stop.Joined
namespace Go.Proofs.YtocfkfhdcnjklaaGreatDoor
open Go.ChangeShapes Go.WideShapes Go.ChangeAt Go.RowKit Go.Deep
variable {H:Type}{enc:TypeId×bc->H}{w:bx}{base fuel:Nat}{spare:Nat->Bool}{held:Bool}{cs:aq bc}{y:DataW H×aq MemPlace}
set_option maxRecDepth 100000 in
theorem oD (h:DataW.trod enc Tryz.prog w base spare held fuel 78 cs=some y)(hw:lz Tryz.prog 78 y.1):∃x:Q9,Qc.p (λk=>k<w.heap.size) w cs x/\Qcb x:=by
 obtain⟨n,hl,U⟩:=P8 Tryz.underlying78 h hw;have c:Tryz.prog.cellsOf 78=2:=aw
 rw[c]at hl;match cs,hl with
 |[c0,c1],_=>
 obtain⟨x0,rfl,wY⟩:=fS Tryz.underlying9 (U 0 _ rfl) aw rfl;obtain⟨x1,rfl,tn⟩:=fI Tryz.underlying3 (U 1 _ rfl) aw rfl;exact⟨⟨x0,x1⟩,⟨(),rfl,QQ⟩,wY,tn⟩
set_option maxRecDepth 100000 in
theorem qw (h:DataW.trod enc Tryz.prog w base spare held fuel 63 cs=some y)(hw:lz Tryz.prog 63 y.1):∃x:V,dz.p (λk=>k<w.heap.size) w cs x/\wZ x:=by
 obtain⟨n,hl,U⟩:=P8 Tryz.underlying63 h hw;have c:Tryz.prog.cellsOf 63=3:=aw
 rw[c]at hl;match cs,hl with
 |[c0,c1,c2],_=>
 obtain⟨x0,rfl,wY⟩:=fI Tryz.underlying61 (U 0 _ rfl) aw rfl;obtain⟨x1,rfl,tn⟩:=fI Tryz.underlying2 (U 1 _ rfl) aw rfl;obtain⟨x2,rfl,J2⟩:=fS Tryz.underlying9 (U 2 _ rfl) aw rfl;exact⟨⟨x0,x1,x2⟩,⟨(),rfl,QQ⟩,wY,tn,J2⟩
set_option maxRecDepth 100000 in
theorem zY (h:DataW.trod enc Tryz.prog w base spare held fuel 76 cs=some y)(hw:lz Tryz.prog 76 y.1):∃x:fK,iA.p (λk=>k<w.heap.size) w cs x/\zU x:=by
 obtain⟨n,hl,U⟩:=P8 Tryz.underlying76 h hw;have c:Tryz.prog.cellsOf 76=5:=aw
 rw[c]at hl;match cs,hl with
 |[c0,c1,c2,c3,c4],_=>
 obtain⟨x0,rfl,wY⟩:=fI Tryz.underlying74 (U 0 _ rfl) aw rfl;obtain⟨x1,rfl,tn⟩:=fI Tryz.underlying3 (U 1 _ rfl) aw rfl;obtain⟨z2,h2,g2⟩:=fA (U 2 _ rfl) 3 aw (l:=[c2,c3,c4]) rfl;obtain⟨x2,⟨r2,e2,f2⟩,J2⟩:=qw h2 g2;simp only[Δ,List.cons.injEq,and_true]at e2;obtain⟨rfl,rfl,rfl⟩:=e2;exact⟨⟨x0,x1,x2⟩,⟨(),rfl,QQ⟩,wY,tn,J2⟩
set_option maxRecDepth 100000 in
theorem Qbc:∀(fuel:Nat)(cs:aq bc)(y:DataW H×aq MemPlace)(_:DataW.trod enc Tryz.prog w base spare held fuel 67 cs=some y)(_:lz Tryz.prog 67 y.1),∃x:Q3,Qi.p (λk=>k<w.heap.size) w cs x/\db x:=by
 intro fuel;induction fuel using Nat.strongRecOn with
 |_ fuel ih=>
 intro cs y h hw;obtain⟨n,hn,hl,hf⟩:=Ax Tryz.underlying67 h hw;have c:Tryz.prog.cellsOf 67=7:=aw
 rw[c]at hl;match cs,hl with
 |[c0,c1,c2,c3,c4,c5,c6],_=>
 obtain⟨x0,rfl,wY⟩:=fI Tryz.underlying60 (hf 0 _ rfl) aw rfl;obtain⟨z1,h1,g1⟩:=fA (hf 1 _ rfl) 3 aw (l:=[c1,c2,c3]) rfl;obtain⟨x1,⟨r1,e1,f1⟩,tn⟩:=qw h1 g1;simp only[Δ,List.cons.injEq,and_true]at e1;obtain⟨rfl,rfl,rfl⟩:=e1;obtain⟨x2,rfl,J2⟩:=fI Tryz.underlying3 (hf 2 _ rfl) aw rfl;obtain⟨x3,rfl,XI⟩:=fI Tryz.underlying64 (hf 3 _ rfl) aw rfl;obtain⟨z4,h4,g4⟩:=fA (hf 4 _ rfl) 1 aw (l:=[c6]) rfl;obtain⟨p4,k4,x4,e4,f4,U⟩:=FE Tryz.underlying65 (sz:=7) (R:=Qi) (q:=λy=>db y) aw bp (λm hm cs y h hw=>ih m au cs y h hw) h4 g4;replace U:=And.intro (Qd5 (m:=1759218604390) U.1 (by kernel_rfl:Tryz.prog.bytesOf 67=80) bp bp bp) U.2;simp only[List.cons.injEq,and_true]at e4;subst e4;exact⟨⟨x0,x1,x2,x3,x4⟩,oJ (p4,k4) rfl ((jf f4 QQ)),.mk _ wY tn J2 XI U.1 U.2⟩
set_option maxRecDepth 100000 in
theorem oB (h:DataW.trod enc Tryz.prog w base spare held fuel 69 cs=some y)(hw:lz Tryz.prog 69 y.1):∃x:Qq,pL.p (λk=>k<w.heap.size) w cs x/\Qa9 x:=by
 obtain⟨n,hl,U⟩:=P8 Tryz.underlying69 h hw;have c:Tryz.prog.cellsOf 69=10:=aw
 rw[c]at hl;match cs,hl with
 |[c0,c1,c2,c3,c4,c5,c6,c7,c8,c9],_=>
 obtain⟨x0,rfl,wY⟩:=fI Tryz.underlying58 (U 0 _ rfl) aw rfl;obtain⟨x1,rfl,tn⟩:=fI Tryz.underlying3 (U 1 _ rfl) aw rfl;obtain⟨p2,k2,x2,rfl,f2,J2⟩:=fL (m:=2932031007317) (b:=48) Tryz.underlying59 (sz:=5) (R:=iA) (q:=λy=>zU y) aw bp (λ_ _ _ h hw=>zY h hw) (U 2 _ rfl) aw rfl aw bp bp;obtain⟨z3,h3,g3⟩:=fA (U 3 _ rfl) 7 aw (l:=[c3,c4,c5,c6,c7,c8,c9]) rfl;obtain⟨x3,hp3,XI⟩:=(Qbc _ _ _) h3 g3;obtain⟨r3,e3,_,f3⟩:=SH _ _ _ _ hp3;simp only[Qb2,List.cons.injEq,and_true]at e3;obtain⟨rfl,rfl,rfl,rfl,rfl,rfl,rfl⟩:=e3;exact⟨⟨x0,x1,x2,x3⟩,⟨((p2,k2),r3),rfl,(jf f2 (jf (f3 _ (gv (k:=0) rfl)) QQ))⟩,wY,tn,J2,XI⟩
set_option maxRecDepth 100000 in
theorem oA (h:DataW.trod enc Tryz.prog w base spare held fuel 105 cs=some y)(hw:lz Tryz.prog 105 y.1):∃x:kW,mr.p (λk=>k<w.heap.size) w cs x/\Qd7 x:=by
 obtain⟨n,hl,U⟩:=P8 Tryz.underlying105 h hw;have c:Tryz.prog.cellsOf 105=4:=aw
 rw[c]at hl;match cs,hl with
 |[c0,c1,c2,c3],_=>
 obtain⟨x0,rfl,wY⟩:=fI Tryz.underlying103 (U 0 _ rfl) aw rfl;obtain⟨x1,rfl,tn⟩:=fI Tryz.underlying3 (U 1 _ rfl) aw rfl;obtain⟨x2,rfl,J2⟩:=fI Tryz.underlying3 (U 2 _ rfl) aw rfl;obtain⟨p3,k3,x3,rfl,f3,XI⟩:=fL (m:=1759218604390) (b:=80) Tryz.underlying65 (sz:=7) (R:=Qi) (q:=λy=>db y) aw bp (λ_ _ _ h hw=>(Qbc _ _ _) h hw) (U 3 _ rfl) aw rfl aw bp bp;exact⟨⟨x0,x1,x2,x3⟩,⟨(p3,k3),rfl,(jf f3 QQ)⟩,wY,tn,J2,XI⟩
set_option maxRecDepth 100000 in
theorem oC (h:DataW.trod enc Tryz.prog w base spare held fuel 73 cs=some y)(hw:lz Tryz.prog 73 y.1):∃x:Q8,Qd.p (λk=>k<w.heap.size) w cs x/\SQ x:=by
 obtain⟨n,hl,U⟩:=P8 Tryz.underlying73 h hw;have c:Tryz.prog.cellsOf 73=5:=aw
 rw[c]at hl;match cs,hl with
 |[c0,c1,c2,c3,c4],_=>
 obtain⟨x0,rfl,wY⟩:=fS Tryz.underlying9 (U 0 _ rfl) aw rfl;obtain⟨x1,rfl,tn⟩:=fI Tryz.underlying3 (U 1 _ rfl) aw rfl;obtain⟨x2,rfl,J2⟩:=fI Tryz.underlying3 (U 2 _ rfl) aw rfl;obtain⟨p3,k3,x3,rfl,f3,XI⟩:=fL (m:=1172812402926) (b:=120) Tryz.underlying70 (sz:=10) (R:=pL) (q:=λy=>Qa9 y) aw bp (λ_ _ _ h hw=>oB h hw) (U 3 _ rfl) aw rfl aw bp bp;obtain⟨p4,k4,x4,rfl,f4,XJ⟩:=fL (m:=2932031007317) (b:=48) Tryz.underlying71 (sz:=4) (R:=mr) (q:=λy=>Qd7 y) aw bp (λ_ _ _ h hw=>oA h hw) (U 4 _ rfl) aw rfl aw bp bp;exact⟨⟨x0,x1,x2,x3,x4⟩,⟨((p3,k3),(p4,k4)),rfl,(jf f3 (jf f4 QQ))⟩,wY,tn,J2,XI,XJ⟩
set_option maxRecDepth 100000 in
theorem QdV (h:DataW.trod enc Tryz.prog w base spare held fuel 25 cs=some y)(hw:lz Tryz.prog 25 y.1):∃x:P9,zh.p (λk=>k<w.heap.size) w cs x/\Q7V x:=by
 obtain⟨n,hl,U⟩:=P8 Tryz.underlying25 h hw;have c:Tryz.prog.cellsOf 25=2:=aw
 rw[c]at hl;match cs,hl with
 |[c0,c1],_=>
 obtain⟨p0,k0,x0,rfl,f0,wY⟩:=fL (m:=5864062014634) (b:=24) Tryz.underlying22 (sz:=2) (R:=Qc) (q:=λy=>Qcb y) aw bp (λ_ _ _ h hw=>oD h hw) (U 0 _ rfl) aw rfl aw bp bp;obtain⟨p1,k1,x1,rfl,f1,tn⟩:=fL (m:=1759218604390) (b:=80) Tryz.underlying23 (sz:=5) (R:=Qd) (q:=λy=>SQ y) aw bp (λ_ _ _ h hw=>oC h hw) (U 1 _ rfl) aw rfl aw bp bp;exact⟨⟨x0,x1⟩,⟨((p0,k0),(p1,k1)),rfl,(jf f0 (jf f1 QQ))⟩,wY,tn⟩
set_option maxRecDepth 100000 in
theorem x5 (h:DataW.trod enc Tryz.prog w base spare held fuel 40 cs=some y)(hw:lz Tryz.prog 40 y.1):∃x:Qg,QH.p (λk=>k<w.heap.size) w cs x/\oy x:=by
 obtain⟨n,hl,U⟩:=P8 Tryz.underlying40 h hw;have c:Tryz.prog.cellsOf 40=3:=aw
 rw[c]at hl;match cs,hl with
 |[c0,c1,c2],_=>
 obtain⟨x0,rfl,wY⟩:=fI Tryz.underlying3 (U 0 _ rfl) aw rfl;obtain⟨x1,rfl,tn⟩:=fI Tryz.underlying3 (U 1 _ rfl) aw rfl;obtain⟨p2,k2,x2,rfl,f2,J2⟩:=fL (m:=4398046510976) (b:=32) Tryz.underlying38 (sz:=3) (R:=dz) (q:=λy=>wZ y) aw bp (λ_ _ _ h hw=>qw h hw) (U 2 _ rfl) aw rfl aw bp bp;exact⟨⟨x0,x1,x2⟩,⟨(p2,k2),rfl,(jf f2 QQ)⟩,wY,tn,J2⟩
set_option maxRecDepth 100000 in
theorem Qaa (h:DataW.trod enc Tryz.prog w base spare held fuel 42 cs=some y)(hw:lz Tryz.prog 42 y.1):∃x:QU,QO.p (λk=>k<w.heap.size) w cs x/\Q4R x:=by
 obtain⟨n,hl,hf⟩:=P8 Tryz.underlying42 h hw;have c:Tryz.prog.cellsOf 42=4:=aw
 rw[c]at hl;match cs,hl with
 |[c0,c1,c2,c3],_=>
 obtain⟨x0,rfl,wY⟩:=fB Tryz.underlying4 (hf 0 _ rfl) aw rfl;obtain⟨z1,h1,g1⟩:=fA (hf 1 _ rfl) 3 aw (l:=[c1,c2,c3]) rfl;obtain⟨x1,⟨r1,U,f1⟩,tn⟩:=x5 h1 g1;simp only[kU,List.cons.injEq,and_true]at U;obtain⟨rfl,rfl,rfl⟩:=U;exact⟨⟨x0,x1⟩,⟨r1,rfl,(jf (f1 _ (gv (k:=0) rfl)) QQ)⟩,wY,tn⟩
theorem RG:ownKnob Tryz.prog.godebug=none:=aw
theorem Ms:laidOutB Tryz.prog=true:=aw
def MM:Array bc:=match Go.Pinned.utf8First with
 | .agg l=>(l.map λd=>match d with| .lit (.int k n)=>Value.int k n|_=>.bool false).toArray
 |_=>#[]
noncomputable def a1D (os:Os):bx:={World.doorLaid Tryz.prog 4000 os with heap:=match Tryz.prog.globalNamed "unicode/utf8.first" with
 | some g=>match(((begin Tryz.prog (λ_ _=>0) default).world.heap[g]?).bind Obj.row?)with
   |some (_,t)=>(World.doorLaid Tryz.prog 4000 os).heap.setIfInBounds g (.cells MM t (0,0))
   |none=>#[]
 |none=>#[]}
theorem KR (os:Os)(args:Array bc):laidMetH Tryz.prog Rows.reteNaiveRow.laid ((a1D os).forCall (λ_ _=>0) ⟨#[],args,[]⟩).memory:=
 laidMetH_of_parts3 (fuel:=8) (laidMet_of_run' 8 aw aw) aw aw
set_option maxRecDepth 100000 in
theorem qB (os:Os)(started:os.Started)(H:Type)(enc:TypeId×bc->H):
  ReturnsInHanded {} Tryz.checked os 8 .any (λw args=>(Rows.reteNaiveSpec.pre enc Tryz.prog Tryz.f8 [] false w args/\laidMetH Tryz.prog Rows.reteNaiveRow.laid w)/\sizedMet enc Tryz.prog Tryz.f8 (OpenSpec.ofChange Rows.reteNaiveSpec) false w args)
   (Rows.reteNaiveSpec.post enc Tryz.prog Tryz.f8 false true false false):=by
 refine returnsInHanded_of_change_and (C:=Tryz.checked) (X:=λw _=>laidMetH Tryz.prog Rows.reteNaiveRow.laid w) (λ_ _ _ hh h=>h.of_heap hh) RG started aw Tryz.func8
  (ChangeSpec.witness_shaped (enc:=enc) (C:=Tryz.checked) (os:=os) (X:=λw _=>laidMetH Tryz.prog Rows.reteNaiveRow.laid w) false (a1D os) #[.agg #[.slice none 0 0,.slice none 0 0],.slice none 0 0] 8 rfl (World.shaped_of_RefB aw aw) aw aw aw (KR os _)) ?_
 intro W base args ds gs before TT hW a3O a1b hL _;have Xn:∀(j:Nat) t v,Tryz.f8.params[j]? =some t->args[j]? =some v->Value.okWide Tryz.prog W .any base t v:=TT;have hW':=hW;obtain⟨p,q,hA0,hV,rfl,hfz,IG⟩:=hW;have U:DataW.TrodAll enc Tryz.prog W 0 (λ_=>true) true Tryz.f8.params.toList args.toList ds p:=hA0;have iR:(DataW.weightsEach Tryz.prog (Tryz.f8.params.toList++_) (ds++gs)).all (·<=reachBytes)=true:=a1b;rw[Tryz.params8]at U Xn iR;clear hA0 TT a1b;obtain⟨args⟩:=args;obtain⟨v0,r0,d0,s0,p0,q0,e0,rfl,rfl,⟨n0,h0⟩,U⟩:=trodAll_cons U;obtain⟨v1,r1,d1,s1,p1,q1,e1,rfl,rfl,⟨n1,h1⟩,U⟩:=trodAll_cons U;obtain⟨e2,rfl,rfl⟩:=trodAll_nil U;subst e2;subst e1;simp only at e0;subst e0;obtain⟨rfl,rfl⟩:=trodVars_none hV;obtain⟨⟨c0⟩,rfl⟩:=FC Tryz.underlying25 (Xn 0 _ v0 rfl rfl);obtain⟨x0,⟨r0,e,f0⟩,wY⟩:=QdV h0 (BC iR 0 rfl rfl);replace e:c0=Qc4 x0 r0:=e;subst e;rw[J3 Tryz.underlying26 (Xn 1 _ v1 rfl rfl)]at h1;obtain⟨pa1,ca1,x1,e,Fk,tn⟩:=vh Tryz.underlying26 (sz:=4) (R:=QO) (q:=λy=>Q4R y) aw bp (λ_ _ _ h hw=>Qaa h hw) h1 (BC iR 1 rfl rfl);replace tn:=And.intro (Nat.le_trans (Qd5 (m:=2932031007317) tn.1 (by kernel_rfl:Tryz.prog.bytesOf 42=48) bp bp bp) (by decide:2932031007317<=140737488351232)) tn.2;simp only[List.cons.injEq,and_true]at e;subst e;have a0H:=(laidMetH_iff.1 hL).1.filter (λx=>x.1== "internal/strconv.uint64pow10");have a2j:((Rows.reteNaiveRow.laid.filter λx=>x.2.handleName?.isNone).filter λx=>x.1== "internal/strconv.uint64pow10")=[("internal/strconv.uint64pow10",Lib.tabData .u64 Lib.pow10Tab)]:=aw
 rw[a2j]at a0H;have Mh:Lib.TabIs Tryz.prog W "internal/strconv.uint64pow10" .u64 Lib.pow10Tab:=Lib.tabIs_of_head (t:=498) (e:=322) (n:=20) tr aw aw aw aw aw a0H;have eS:=vw (Qah 9223372036860000000 r0.1.1 r0.1.2 x0.types r0.2.1 r0.2.2 x0.rules pa1 ca1 x1 _ (xd x0 wY x1 tn)) (w:=W) (jf (f0 _ (gv (k:=0) rfl)) (jf (f0 _ (gv (k:=1) rfl)) (jf Fk (jf (Sr Mh) QQ))));refine eS.mono λe W' ⟨he,hm⟩=>?_
 subst he;have hb:Below W.heap.size W W':=hm.to_below (Nat.le_refl _) (λ_ h=>h.elim);refine⟨_,rfl,Mt Ms ?_ rfl Tryz.underlying4 rfl hW' rfl rfl rfl hb⟩;rw[Tryz.params8];intro t ht;simp only[List.mem_cons,List.not_mem_nil,or_false]at ht;rcases ht with rfl|rfl<;>exact⟨aw,of_decide_eq_true aw⟩
end Go.Proofs.YtocfkfhdcnjklaaGreatDoor
