/- PROVED: ropewalklaw13.ReteNaive answers true whatever its input is, never panics, and leaves its input as it was. Conditions: those of the given statement, and no other. -/
import Derived.Test.YtocfkfhdcnjklaaGreatDoorReteNaiveLawB
namespace Go.Proofs.YtocfkfhdcnjklaaGreatDoor
open Go.ChangeShapes Go.WideShapes Go.ChangeAt
theorem R3 {P:da} (h:P.funcs.any Func.goes=false) (c:OpenClaim) (hs:c.start=.entering):false=c.goesBy P:=by
 have key:∀f,P.goes f=false:=λf=>by
  unfold Program.goes;rw[h,Bool.and_false,Bool.or_false,List.any_eq_false];intro g _ U;cases e:P.funcs[g]? with
  |none=>rw[e]at U;cases U
  | some fn=>
    rw[e]at U;have hm:=Array.mem_of_getElem? e;rw[Array.any_eq_false']at h;exact h fn hm U
 unfold OpenClaim.goesBy Program.goesAt Program.goesFrom;rw[hs];cases e:P.funcNamed c.func with
 |none=>rfl
 |some f=>show false=(P.goes f||false);rw[key f];rfl
theorem LH:Tryz.prog.funcs.any Func.goes=false:=aw
theorem rete_naive:Rows.ReteNaiveCardSaid:=
 Claim7.holds_tied_plain_at .later [] [.data,.data,.data,.data,.pinned] true (true,"ee92048d643bc1be72006fc38120d827e112d8b7b666b90b7b572fefd3d13a0a") true
  xc (λ_ h=>by cases h) (by as_aux_lemma=>kernel_rfl) (λ_ h=>by cases h) reteNaive_row_tie rfl ⟨rfl,rfl⟩ (by as_aux_lemma=>kernel_rfl) rfl
  (fun f fn hf ja=>by
   obtain rfl:f=8:=Option.some.inj ((show Tryz.prog.funcNamed "ropewalk/ropewalklaw13.ReteNaive" =some 8 by as_aux_lemma=>kernel_rfl).symm.trans hf) |>.symm;obtain rfl:fn=Tryz.f8:=(Option.some.inj (Tryz.func8.symm.trans ja)).symm
   exact ⟨by as_aux_lemma=>kernel_rfl,λj t U=>by
    rw[Tryz.params8]at U;have hm:t∈[25,26]:=by simpa using Array.mem_of_getElem? U
    have eZ:([25,26].all λu=>!Tryz.prog.wantsStandIn u)=true:=by as_aux_lemma=>kernel_rfl
    exact(show Tryz.prog.wantsStandIn t=false by simpa using List.all_eq_true.1 eZ t hm)⟩)
  (R3 LH _ rfl)
#print axioms rete_naive
end Go.Proofs.YtocfkfhdcnjklaaGreatDoor
