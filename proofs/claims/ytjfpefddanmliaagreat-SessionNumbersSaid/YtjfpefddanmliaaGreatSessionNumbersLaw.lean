import Derived.Test.YtjfpefddanmliaaGreatRows
import Derived.Test.YtjfpefddanmliaaGreatXW1
import Derived.Test.YtjfpefddanmliaaGreatXW2
import Derived.Test.YtjfpefddanmliaaGreatXW3
import Derived.Test.YtjfpefddanmliaaGreatXW4
import Derived.Test.YtjfpefddanmliaaGreatXW5
import Derived.Test.YtjfpefddanmliaaGreatXW6
import Derived.Test.YtjfpefddanmliaaGreatXW7
import Derived.Test.YtjfpefddanmliaaGreatSesNumP
import Derived.Test.YtjfpefddanmliaaGreatLawG
import Derived.Test.YtjfpefddanmliaaGreatOpenA
import Derived.ProofKit
namespace Go.Proofs.YtjfpefddanmliaaGreat
open Go.ChangeShapes Go.WideShapes Go.ChangeAt Go.RowKit Go.Deep
theorem law_own:ownKnob Tryz.prog.godebug = none:=by kernel_rfl
theorem law_laid:laidOutB Tryz.prog = true:=by kernel_rfl
set_option maxRecDepth 100000 in
theorem sessionNumbers_lifted (os:Os) (started:os.Started) (H:Type) (enc:TypeId × Value → H) :
    ReturnsInHanded {} Tryz.checked os 3 .any (Rows.sessionNumbersSpec.pre6 enc Tryz.prog Tryz.f3 Rows.sessionNumbersRow.domain false) (Rows.sessionNumbersSpec.post enc Tryz.prog Tryz.f3 false true false false):=by
  refine returnsInHanded_of_change_sized (C := Tryz.checked) law_own started (by kernel_rfl) Tryz.func3
    (ChangeSpec.witness6 (enc:=enc) (C:=Tryz.checked) false ⟨#[],#[],[]⟩ 8 (by kernel_rfl) (by kernel_rfl) (by kernel_rfl) (by kernel_rfl)) ?_
  intro W base args ds gs before hval0 hW hcnd hsz0 _
  have hval : ∀ (j:Nat) t v,Tryz.f3.params[j]? = some t → args[j]? = some v → Value.okWide Tryz.prog W .any base t v:=hval0
  have hW':=hW
  obtain ⟨p,q,hA0,hV,rfl,hfz,hnd⟩:=hW
  have hA:DataW.TrodAll enc Tryz.prog W 0 (fun _=>true) true Tryz.f3.params.toList args.toList ds p:=hA0
  have hsz:(DataW.weightsEach Tryz.prog (Tryz.f3.params.toList ++ _) (ds ++ gs)).all (· ≤ reachBytes) = true:=hsz0
  rw [Tryz.params3] at hA hval hsz
  clear hA0 hval0 hsz0
  obtain ⟨args⟩:=args
  obtain ⟨e0,rfl,rfl⟩:=trodAll_nil hA
  simp only at e0
  subst e0
  obtain ⟨rfl,rfl⟩:=trodVars_none hV
  have hcall:=spec_calls (Q6M 9223372036854775808  _ (sesnum_arg )) (w:=W) Q1f
  refine hcall.mono fun e W' ⟨he,hm⟩=>?_
  subst he
  have hb:Below W.heap.size W W':=hm.to_below (Nat.le_refl _) (fun _ h=>h.elim)
  refine ⟨_,rfl,law_post law_laid ?_ rfl Tryz.underlying4 rfl hW' rfl rfl rfl hb⟩
  rw [Tryz.params3]
  intro t ht
  cases ht
theorem session_numbers:Rows.SessionNumbersSaid :=
  OpenClaim.holds_of_wide 3 Tryz.f3 rfl rfl rfl rfl rfl rfl rfl ⟨rfl, rfl, rfl, rfl, rfl⟩ rfl rfl rfl rfl rfl (by kernel_rfl) Tryz.func3 (by kernel_rfl)
    (of_decide_eq_true (by kernel_rfl)) (by unfold Func.isWrapper; rw [if_neg (by decide +kernel)]; exact ⟨rfl,rfl⟩)
    (fun os started H enc _=>sessionNumbers_lifted os started H enc)
#print axioms session_numbers
end Go.Proofs.YtjfpefddanmliaaGreat
