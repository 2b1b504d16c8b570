import Derived.Test.YtocfkfhdcnjklaaGreatDoorCards
import Derived.Test.YtocfkfhdcnjklaaGreatDoorTie
import Derived.Test.YtocfkfhdcnjklaaGreatDoorReteAN
import Derived.LaidMore
import Derived.Stop.Joined
namespace Go.Proofs.YtocfkfhdcnjklaaGreatDoor
open Go.ChangeShapes Go.WideShapes Go.ChangeAt Go.RowKit Go.Deep
set_option maxRecDepth 100000 in
theorem Dl {H:Type} {enc:TypeId×Value->H} {w:World} {base:Nat} {spare:Nat->Bool} {held:Bool} {fuel:Nat} {cs:List Value} {y:DataW H×List MemPlace} (h:DataW.trod enc Tryz.prog w base spare held fuel 61 cs=some y)(hw:hX Tryz.prog 61 y.1):∃x:Int,a0i.p (λk=>k<w.heap.size) w cs x/\nR .u8 x:=by
 obtain⟨x,e,_,ok⟩:=DataW.trod_int Tryz.underlying61 h;exact⟨x,⟨(),e,QP⟩,DO ok⟩
set_option maxRecDepth 100000 in
theorem Di {H:Type} {enc:TypeId×Value->H} {w:World} {base:Nat} {spare:Nat->Bool} {held:Bool} {fuel:Nat} {cs:List Value} {y:DataW H×List MemPlace} (h:DataW.trod enc Tryz.prog w base spare held fuel 2 cs=some y)(hw:hX Tryz.prog 2 y.1):∃x:Int,j6.p (λk=>k<w.heap.size) w cs x/\nR .i64 x:=by
 obtain⟨x,e,_,ok⟩:=DataW.trod_int Tryz.underlying2 h;exact⟨x,⟨(),e,QP⟩,DO ok⟩
set_option maxRecDepth 100000 in
theorem Dk {H:Type} {enc:TypeId×Value->H} {w:World} {base:Nat} {spare:Nat->Bool} {held:Bool} {fuel:Nat} {cs:List Value} {y:DataW H×List MemPlace} (h:DataW.trod enc Tryz.prog w base spare held fuel 9 cs=some y)(hw:hX Tryz.prog 9 y.1):∃x:ByteArray,XM.p (λk=>k<w.heap.size) w cs x/\x.size<=140737488351232:=by
 obtain⟨x,e,U,ok⟩:=DataW.trod_string Tryz.underlying9 h;subst U;exact⟨x,⟨(),e,QP⟩,IJ hw⟩
set_option maxRecDepth 100000 in
theorem Gp {H:Type} {enc:TypeId×Value->H} {w:World} {base:Nat} {spare:Nat->Bool} {held:Bool} {fuel:Nat} {cs:List Value} {y:DataW H×List MemPlace} (h:DataW.trod enc Tryz.prog w base spare held fuel 63 cs=some y)(hw:hX Tryz.prog 63 y.1):∃x:V,dq.p (λk=>k<w.heap.size) w cs x/\xU x:=by
 obtain⟨n,hl,U⟩:=pQ Tryz.underlying63 h hw;have c:Tryz.prog.cellsOf 63=3:=au
 rw[c]at hl;match cs,hl with
 |[c0,c1,c2],_=>
 obtain⟨z0,h0,g0⟩:∃z,DataW.trod enc Tryz.prog w base spare held n 61 ((List.drop 0 [c0,c1,c2]).take (Tryz.prog.cellsOf 61))=some z/\hX Tryz.prog 61 z.1:=U 0 _ rfl;have d0:Tryz.prog.cellsOf 61=1:=au
 simp only[d0,List.drop_zero,List.take_succ_cons,List.take_zero,List.drop_succ_cons]at h0;obtain⟨z1,h1,g1⟩:∃z,DataW.trod enc Tryz.prog w base spare held n 2 ((List.drop 1 [c0,c1,c2]).take (Tryz.prog.cellsOf 2))=some z/\hX Tryz.prog 2 z.1:=U 1 _ rfl;have d1:Tryz.prog.cellsOf 2=1:=au
 simp only[d1,List.drop_zero,List.take_succ_cons,List.take_zero,List.drop_succ_cons]at h1;obtain⟨z2,h2,g2⟩:∃z,DataW.trod enc Tryz.prog w base spare held n 9 ((List.drop 2 [c0,c1,c2]).take (Tryz.prog.cellsOf 9))=some z/\hX Tryz.prog 9 z.1:=U 2 _ rfl;have d2:Tryz.prog.cellsOf 9=1:=au
 simp only[d2,List.drop_zero,List.take_succ_cons,List.take_zero,List.drop_succ_cons]at h2;obtain⟨x0,⟨r0,e0,f0⟩,ZN⟩:=Dl h0 g0;simp only[R9,List.cons.injEq,and_true]at e0;obtain rfl:=e0;obtain⟨x1,⟨r1,e1,f1⟩,ok1⟩:=Di h1 g1;simp only[uP,List.cons.injEq,and_true]at e1;obtain rfl:=e1;obtain⟨x2,⟨r2,e2,f2⟩,Wb⟩:=Dk h2 g2;simp only[HD,List.cons.injEq,and_true]at e2;obtain rfl:=e2;exact⟨⟨x0,x1,x2⟩,⟨(),rfl,QP⟩,ZN,ok1,Wb⟩
set_option maxRecDepth 100000 in
theorem sZ {H:Type} {enc:TypeId×Value->H} {w:World} {base:Nat} {spare:Nat->Bool} {held:Bool} {fuel:Nat} {cs:List Value} {y:DataW H×List MemPlace} (h:DataW.trod enc Tryz.prog w base spare held fuel 3 cs=some y)(hw:hX Tryz.prog 3 y.1):∃x:Int,j6.p (λk=>k<w.heap.size) w cs x/\nR .i64 x:=by
 obtain⟨x,e,_,ok⟩:=DataW.trod_int Tryz.underlying3 h;exact⟨x,⟨(),e,QP⟩,DO ok⟩
set_option maxRecDepth 100000 in
theorem uE {H:Type} {enc:TypeId×Value->H} {w:World} {base:Nat} {spare:Nat->Bool} {held:Bool} {fuel:Nat} {cs:List Value} {y:DataW H×List MemPlace} (h:DataW.trod enc Tryz.prog w base spare held fuel 40 cs=some y)(hw:hX Tryz.prog 40 y.1):∃x:Qq,j0.p (λk=>k<w.heap.size) w cs x/\AB x:=by
 obtain⟨n,hl,hf⟩:=pQ Tryz.underlying40 h hw;have c:Tryz.prog.cellsOf 40=3:=au
 rw[c]at hl;match cs,hl with
 |[c0,c1,c2],_=>
 obtain⟨z0,h0,g0⟩:∃z,DataW.trod enc Tryz.prog w base spare held n 3 ((List.drop 0 [c0,c1,c2]).take (Tryz.prog.cellsOf 3))=some z/\hX Tryz.prog 3 z.1:=hf 0 _ rfl;have d0:Tryz.prog.cellsOf 3=1:=au
 simp only[d0,List.drop_zero,List.take_succ_cons,List.take_zero,List.drop_succ_cons]at h0;obtain⟨z1,h1,g1⟩:∃z,DataW.trod enc Tryz.prog w base spare held n 3 ((List.drop 1 [c0,c1,c2]).take (Tryz.prog.cellsOf 3))=some z/\hX Tryz.prog 3 z.1:=hf 1 _ rfl;have d1:Tryz.prog.cellsOf 3=1:=au
 simp only[d1,List.drop_zero,List.take_succ_cons,List.take_zero,List.drop_succ_cons]at h1;obtain⟨z2,h2,g2⟩:∃z,DataW.trod enc Tryz.prog w base spare held n 38 ((List.drop 2 [c0,c1,c2]).take (Tryz.prog.cellsOf 38))=some z/\hX Tryz.prog 38 z.1:=hf 2 _ rfl;have d2:Tryz.prog.cellsOf 38=1:=au
 simp only[d2,List.drop_zero,List.take_succ_cons,List.take_zero,List.drop_succ_cons]at h2;obtain⟨x0,⟨r0,e0,f0⟩,ZN⟩:=sZ h0 g0;simp only[uP,List.cons.injEq,and_true]at e0;obtain rfl:=e0;obtain⟨x1,⟨r1,e1,f1⟩,ok1⟩:=sZ h1 g1;simp only[uP,List.cons.injEq,and_true]at e1;obtain rfl:=e1;obtain⟨p2,k2,x2,e2,f2,U⟩:=Dj Tryz.underlying38 (sz:=3) (R:=dq) (q:=λy=>xU y) au bj (λ_ _ _ h hw=>Gp h hw) h2 g2;replace U:=And.intro (Am (m:=4398046510976) U.1 (by kernel_rfl:Tryz.prog.bytesOf 63=32) bj bj bj) U.2;simp only[List.cons.injEq,and_true]at e2;subst e2;exact⟨⟨x0,x1,x2⟩,⟨(p2,k2),rfl,(pW f2 QP)⟩,ZN,ok1,U⟩
theorem NM:ownKnob Tryz.prog.godebug=none:=au
theorem JX:laidOutB Tryz.prog=true:=au
def Ke:Array Value:=match Go.Pinned.utf8First with
 | .agg l=>(l.map λd=>match d with| .lit (.int k n)=>Value.int k n|_=>.bool false).toArray
 |_=>#[]
noncomputable def ZO (os:Os):World:={World.doorLaid Tryz.prog 4000 os with heap:=match Tryz.prog.globalNamed "unicode/utf8.first" with
 | some g=>match(((begin Tryz.prog (λ_ _=>0) default).world.heap[g]?).bind Obj.row?)with
   |some (_,t)=>(World.doorLaid Tryz.prog 4000 os).heap.setIfInBounds g (.cells Ke t (0,0))
   |none=>#[]
 |none=>#[]}
theorem It (os:Os)(args:Array Value):laidMetH Tryz.prog Rows.reteNoneRow.laid ((ZO os).forCall (λ_ _=>0) ⟨#[],args,[]⟩).memory:=
 laidMetH_of_parts3 (fuel:=8) (laidMet_of_run' 8 au au) au au
set_option maxRecDepth 100000 in
theorem qe (os:Os)(started:os.Started)(H:Type)(enc:TypeId×Value->H):
  ReturnsInHanded {} Tryz.checked os 5 .any (λw args=>(Rows.reteNoneSpec.pre enc Tryz.prog Tryz.f5 [] false w args/\laidMetH Tryz.prog Rows.reteNoneRow.laid w)/\sizedMet enc Tryz.prog Tryz.f5 (OpenSpec.ofChange Rows.reteNoneSpec) false w args)
   (Rows.reteNoneSpec.post enc Tryz.prog Tryz.f5 false true false false):=by
 refine returnsInHanded_of_change_and (C:=Tryz.checked) (X:=λw _=>laidMetH Tryz.prog Rows.reteNoneRow.laid w) (λ_ _ _ hh h=>h.of_heap hh) NM started au Tryz.func5
  (ChangeSpec.witness_shaped (enc:=enc) (C:=Tryz.checked) (os:=os) (X:=λw _=>laidMetH Tryz.prog Rows.reteNoneRow.laid w) false (ZO os) #[.agg #[.int .i64 0,.int .i64 0,.slice none 0 0]] 8 rfl (World.shaped_of_RefB au au) au au au (It os _)) ?_
 intro W base args ds gs before PD hW a1p Ze hL _;have Zg:∀(j:Nat) t v,Tryz.f5.params[j]? =some t->args[j]? =some v->Value.okWide Tryz.prog W .any base t v:=PD;have hW':=hW;obtain⟨p,q,U,hV,rfl,hfz,G7⟩:=hW;have hA:DataW.TrodAll enc Tryz.prog W 0 (λ_=>true) true Tryz.f5.params.toList args.toList ds p:=U;have iJ:(DataW.weightsEach Tryz.prog (Tryz.f5.params.toList++_) (ds++gs)).all (·<=reachBytes)=true:=Ze;rw[Tryz.params5]at hA Zg iJ;clear U PD Ze;obtain⟨args⟩:=args;obtain⟨v0,r0,d0,s0,p0,q0,e0,rfl,rfl,⟨n0,h0⟩,hA⟩:=trodAll_cons hA;obtain⟨e1,rfl,rfl⟩:=trodAll_nil hA;subst e1;simp only at e0;subst e0;obtain⟨rfl,rfl⟩:=trodVars_none hV;obtain⟨⟨c0⟩,rfl⟩:=Dh Tryz.underlying40 (Zg 0 _ v0 rfl rfl);obtain⟨x0,⟨r0,e,f0⟩,ZN⟩:=uE h0 (II iJ 0 rfl rfl);replace e:c0=qA x0 r0:=e;subst e;have YF:=(laidMetH_iff.1 hL).1.filter (λx=>x.1== "internal/strconv.uint64pow10");have a0m:((Rows.reteNoneRow.laid.filter λx=>x.2.handleName?.isNone).filter λx=>x.1== "internal/strconv.uint64pow10")=[("internal/strconv.uint64pow10",Lib.tabData .u64 Lib.pow10Tab)]:=au
 rw[a0m]at YF;have JJ:Lib.TabIs Tryz.prog W "internal/strconv.uint64pow10" .u64 Lib.pow10Tab:=Lib.tabIs_of_head (t:=498) (e:=322) (n:=20) qS au au au au au YF;have eh:=tr (Q9v 9223372036860000000 x0.id x0.ty r0.1 r0.2 x0.args _ (xZ x0 ZN)) (w:=W) (pW (f0 _ (iL (k:=0) rfl)) (pW (Oi JJ) QP));refine eh.mono λe W' ⟨he,hm⟩=>?_
 subst he;have hb:Below W.heap.size W W':=hm.to_below (Nat.le_refl _) (λ_ h=>h.elim);refine⟨_,rfl,JY JX ?_ rfl Tryz.underlying4 rfl hW' rfl rfl rfl hb⟩;rw[Tryz.params5];intro t ht;simp only[List.mem_cons,List.not_mem_nil,or_false]at ht;subst ht;exact⟨au,of_decide_eq_true au⟩
end Go.Proofs.YtocfkfhdcnjklaaGreatDoor
