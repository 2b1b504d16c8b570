import Derived.Test.YtegkmbkbaenkcaaRows
import Derived.Test.YtegkmbkbaenkcaaXW1
import Derived.Test.YtegkmbkbaenkcaaXW2
import Derived.Test.YtegkmbkbaenkcaaNetNumP
import Derived.Test.YtegkmbkbaenkcaaLawG
import Derived.Test.YtegkmbkbaenkcaaOpenA
import Derived.ProofKit
namespace Go.Proofs.Ytegkmbkbaenkcaa
open Go.ChangeShapes Go.WideShapes Go.ChangeAt Go.RowKit Go.Deep
theorem law_own : ownKnob Try.prog.godebug = none := by kernel_rfl
theorem law_laid : laidOutB Try.prog = true := by kernel_rfl
set_option maxRecDepth 100000 in
theorem netNumbers_lifted (os : Os) (started : os.Started) (H : Type) (enc : TypeId × Value → H) :
    ReturnsInHanded {} Try.checked os 5 .any (Rows.netNumbersSpec.pre6 enc Try.prog Try.f5 Rows.netNumbersRow.domain false) (Rows.netNumbersSpec.post enc Try.prog Try.f5 false true false false) := by
  refine returnsInHanded_of_change_sized (C := Try.checked) law_own started (by kernel_rfl) Try.func5
    (ChangeSpec.witness6 (enc := enc) (C := Try.checked) false ⟨#[], #[], []⟩ 8 (by kernel_rfl) (by kernel_rfl) (by kernel_rfl) (by kernel_rfl)) ?_
  intro W base args ds gs before hval0 hW hcnd hsz0 _
  have hval : ∀ (j : Nat) t v, Try.f5.params[j]? = some t → args[j]? = some v → Value.okWide Try.prog W .any base t v := hval0
  have hW' := hW
  obtain ⟨p, q, hA0, hV, rfl, hfz, hnd⟩ := hW
  have hA : DataW.TrodAll enc Try.prog W 0 (fun _ => true) true Try.f5.params.toList args.toList ds p := hA0
  have hsz : (DataW.weightsEach Try.prog (Try.f5.params.toList ++ _) (ds ++ gs)).all (· ≤ reachBytes) = true := hsz0
  rw [Try.params5] at hA hval hsz
  clear hA0 hval0 hsz0
  obtain ⟨args⟩ := args
  obtain ⟨e0, rfl, rfl⟩ := trodAll_nil hA
  simp only at e0
  subst e0
  obtain ⟨rfl, rfl⟩ := trodVars_none hV
  have hcall := spec_calls (w_ropewalklaw20_NetNumbers_s 9223372036854775808  _ (netnum_arg )) (w := W) ask_nil
  refine hcall.mono fun e W' ⟨he, hm⟩ => ?_
  subst he
  have hb : Below W.heap.size W W' := hm.to_below (Nat.le_refl _) (fun _ h => h.elim)
  refine ⟨_, rfl, law_post law_laid ?_ rfl Try.underlying4 rfl hW' rfl rfl rfl hb⟩
  rw [Try.params5]
  intro t ht
  cases ht
theorem net_numbers : Rows.NetNumbersSaid :=
  OpenClaim.holds_of_wide 5 Try.f5 rfl rfl rfl rfl rfl rfl rfl ⟨rfl, rfl, rfl, rfl, rfl⟩ rfl rfl rfl rfl rfl (by kernel_rfl) Try.func5 (by kernel_rfl)
    (of_decide_eq_true (by kernel_rfl)) (by unfold Func.isWrapper; rw [if_neg (by decide +kernel)]; exact ⟨rfl, rfl⟩)
    (fun os started H enc _ => netNumbers_lifted os started H enc)
#print axioms net_numbers
end Go.Proofs.Ytegkmbkbaenkcaa
