import Derived.Test.YtocfkfhdcnjklaaGreatDoorCards
import Derived.Test.YtocfkfhdcnjklaaGreatDoorTie
import Derived.Test.YtocfkfhdcnjklaaGreatDoorReteAN
import Derived.LaidMore
import Derived.Stop.Joined
namespace Go.Proofs.YtocfkfhdcnjklaaGreatDoor
open Go.ChangeShapes Go.WideShapes Go.ChangeAt Go.RowKit Go.Deep
set_option maxRecDepth 100000 in
theorem tr {H:Type} {enc:TypeId×Value->H} {w:World} {base:Nat} {spare:Nat->Bool} {held:Bool} {fuel:Nat} {cs:List Value} {y:DataW H×List MemPlace} (h:DataW.trod enc Tryz.prog w base spare held fuel 3 cs=some y)(hw:Y5 Tryz.prog 3 y.1):∃x:Int,jh.p (λk=>k<w.heap.size) w cs x/\r5 .i64 x:=by
 obtain⟨x,e,_,ok⟩:=DataW.trod_int Tryz.underlying3 h;exact⟨x,⟨(),e,QL⟩,Vo ok⟩
theorem O3:ownKnob Tryz.prog.godebug=none:=au
theorem Kc:laidOutB Tryz.prog=true:=au
def Ku:Array Value:=match Go.Pinned.utf8First with
 | .agg l=>(l.map λd=>match d with| .lit (.int k n)=>Value.int k n|_=>.bool false).toArray
 |_=>#[]
noncomputable def a04 (os:Os):World:={World.doorLaid Tryz.prog 4000 os with heap:=match Tryz.prog.globalNamed "unicode/utf8.first" with
 | some g=>match(((begin Tryz.prog (λ_ _=>0) default).world.heap[g]?).bind Obj.row?)with
   |some (_,t)=>(World.doorLaid Tryz.prog 4000 os).heap.setIfInBounds g (.cells Ku t (0,0))
   |none=>#[]
 |none=>#[]}
theorem IJ (os:Os)(args:Array Value):laidMetH Tryz.prog Rows.reteManyRow.laid ((a04 os).forCall (λ_ _=>0) ⟨#[],args,[]⟩).memory:=
 laidMetH_of_parts3 (fuel:=8) (laidMet_of_run' 8 au au) au au
set_option maxRecDepth 100000 in
theorem qp (os:Os)(started:os.Started)(H:Type)(enc:TypeId×Value->H):
  ReturnsInHanded {} Tryz.checked os 4 .any (λw args=>(Rows.reteManySpec.pre enc Tryz.prog Tryz.f4 [] false w args/\laidMetH Tryz.prog Rows.reteManyRow.laid w)/\sizedMet enc Tryz.prog Tryz.f4 (OpenSpec.ofChange Rows.reteManySpec) false w args)
   (Rows.reteManySpec.post enc Tryz.prog Tryz.f4 false true false false):=by
 refine returnsInHanded_of_change_and (C:=Tryz.checked) (X:=λw _=>laidMetH Tryz.prog Rows.reteManyRow.laid w) (λ_ _ _ hh h=>h.of_heap hh) O3 started au Tryz.func4
  (ChangeSpec.witness_shaped (enc:=enc) (C:=Tryz.checked) (os:=os) (X:=λw _=>laidMetH Tryz.prog Rows.reteManyRow.laid w) false (a04 os) #[.int .i64 0,.int .i64 0] 8 rfl (World.shaped_of_RefB au au) au au au (IJ os _)) ?_
 intro W base args ds gs before PX hW a1D Zx hL _;have Uc:∀(j:Nat) t v,Tryz.f4.params[j]? =some t->args[j]? =some v->Value.okWide Tryz.prog W .any base t v:=PX;have hW':=hW;obtain⟨p,q,hA0,hV,rfl,hfz,Gy⟩:=hW;have U:DataW.TrodAll enc Tryz.prog W 0 (λ_=>true) true Tryz.f4.params.toList args.toList ds p:=hA0;have jd:(DataW.weightsEach Tryz.prog (Tryz.f4.params.toList++_) (ds++gs)).all (·<=reachBytes)=true:=Zx;rw[Tryz.params4]at U Uc jd;clear hA0 PX Zx;obtain⟨args⟩:=args;obtain⟨v0,r0,d0,s0,p0,q0,e0,rfl,rfl,⟨n0,h0⟩,U⟩:=trodAll_cons U;obtain⟨v1,r1,d1,s1,p1,q1,e1,rfl,rfl,⟨n1,h1⟩,U⟩:=trodAll_cons U;obtain⟨e2,rfl,rfl⟩:=trodAll_nil U;subst e2;subst e1;simp only at e0;subst e0;obtain⟨rfl,rfl⟩:=trodVars_none hV;rw[tn Tryz.underlying3 (Uc 0 _ v0 rfl rfl)]at h0;obtain⟨x0,⟨r0,e,f0⟩,ok0⟩:=tr h0 (zM jd 0 rfl rfl);simp only[z7,List.cons.injEq,and_true]at e;subst e;rw[tn Tryz.underlying3 (Uc 1 _ v1 rfl rfl)]at h1;obtain⟨x1,⟨r1,e,f1⟩,ok1⟩:=tr h1 (zM jd 1 rfl rfl);simp only[z7,List.cons.injEq,and_true]at e;subst e;have YV:=(laidMetH_iff.1 hL).1.filter (λx=>x.1== "internal/strconv.uint64pow10");have a0A:((Rows.reteManyRow.laid.filter λx=>x.2.handleName?.isNone).filter λx=>x.1== "internal/strconv.uint64pow10")=[("internal/strconv.uint64pow10",Lib.tabData .u64 Lib.pow10Tab)]:=au
 rw[a0A]at YV;have K0:Lib.TabIs Tryz.prog W "internal/strconv.uint64pow10" .u64 Lib.pow10Tab:=Lib.tabIs_of_head (t:=498) (e:=322) (n:=20) rf au au au au au YV;have ej:=tI (Q9n 9223372036860000000 x0 x1 _ (yh x0 ok0 x1 ok1)) (w:=W) (pt (OE K0) QL);refine ej.mono λe W' ⟨he,hm⟩=>?_
 subst he;have hb:Below W.heap.size W W':=hm.to_below (Nat.le_refl _) (λ_ h=>h.elim);refine⟨_,rfl,Kd Kc ?_ rfl Tryz.underlying4 rfl hW' rfl rfl rfl hb⟩;rw[Tryz.params4];intro t ht;simp only[List.mem_cons,List.not_mem_nil,or_false]at ht;rcases ht with rfl|rfl<;>exact⟨au,of_decide_eq_true au⟩
end Go.Proofs.YtocfkfhdcnjklaaGreatDoor
