import Derived.Test.YtalbennlmcpnmaaGreatRows
import Derived.Test.YtalbennlmcpnmaaGreatXW1
import Derived.Test.YtalbennlmcpnmaaGreatXW2
import Derived.Test.YtalbennlmcpnmaaGreatXW3
import Derived.Test.YtalbennlmcpnmaaGreatXW4
import Derived.Test.YtalbennlmcpnmaaGreatXW5
import Derived.Test.YtalbennlmcpnmaaGreatXW6
import Derived.Test.YtalbennlmcpnmaaGreatXW7
import Derived.Test.YtalbennlmcpnmaaGreatPatNumP
import Derived.Test.YtalbennlmcpnmaaGreatLawG
import Derived.Test.YtalbennlmcpnmaaGreatOpenA
import Derived.ProofKit
namespace Go.Proofs.YtalbennlmcpnmaaGreat
open Go.ChangeShapes Go.WideShapes Go.ChangeAt Go.RowKit Go.Deep
theorem law_own : ownKnob Tryz.prog.godebug = none := by kernel_rfl
theorem law_laid : laidOutB Tryz.prog = true := by kernel_rfl
set_option maxRecDepth 100000 in
theorem patternNumbers_lifted (os : Os) (started : os.Started) (H : Type) (enc : TypeId × Value → H) :
    ReturnsInHanded {} Tryz.checked os 4 .any (Rows.patternNumbersSpec.pre6 enc Tryz.prog Tryz.f4 Rows.patternNumbersRow.domain false) (Rows.patternNumbersSpec.post enc Tryz.prog Tryz.f4 false true false false) := by
  refine returnsInHanded_of_change_sized (C := Tryz.checked) law_own started (by kernel_rfl) Tryz.func4
    (ChangeSpec.witness6 (enc := enc) (C := Tryz.checked) false ⟨#[], #[], []⟩ 8 (by kernel_rfl) (by kernel_rfl) (by kernel_rfl) (by kernel_rfl)) ?_
  intro W base args ds gs before hval0 hW hcnd hsz0 _
  have hval : ∀ (j : Nat) t v, Tryz.f4.params[j]? = some t → args[j]? = some v → Value.okWide Tryz.prog W .any base t v := hval0
  have hW' := hW
  obtain ⟨p, q, hA0, hV, rfl, hfz, hnd⟩ := hW
  have hA : DataW.TrodAll enc Tryz.prog W 0 (fun _ => true) true Tryz.f4.params.toList args.toList ds p := hA0
  have hsz : (DataW.weightsEach Tryz.prog (Tryz.f4.params.toList ++ _) (ds ++ gs)).all (· ≤ reachBytes) = true := hsz0
  rw [Tryz.params4] at hA hval hsz
  clear hA0 hval0 hsz0
  obtain ⟨args⟩ := args
  obtain ⟨e0, rfl, rfl⟩ := trodAll_nil hA
  simp only at e0
  subst e0
  obtain ⟨rfl, rfl⟩ := trodVars_none hV
  have hcall := spec_calls (w_ropewalklaw10_PatternNumbers_s 9223372036854778808  _ (patnum_arg )) (w := W) ask_nil
  refine hcall.mono fun e W' ⟨he, hm⟩ => ?_
  subst he
  have hb : Below W.heap.size W W' := hm.to_below (Nat.le_refl _) (fun _ h => h.elim)
  refine ⟨_, rfl, law_post law_laid ?_ rfl Tryz.underlying4 rfl hW' rfl rfl rfl hb⟩
  rw [Tryz.params4]
  intro t ht
  cases ht
theorem pattern_numbers : Rows.PatternNumbersSaid :=
  OpenClaim.holds_of_wide 4 Tryz.f4 rfl rfl rfl rfl rfl rfl rfl ⟨rfl, rfl, rfl, rfl, rfl⟩ rfl rfl rfl rfl rfl (by kernel_rfl) Tryz.func4 (by kernel_rfl)
    (of_decide_eq_true (by kernel_rfl)) (by unfold Func.isWrapper; rw [if_neg (by decide +kernel)]; exact ⟨rfl, rfl⟩)
    (fun os started H enc _ => patternNumbers_lifted os started H enc)
#print axioms pattern_numbers
end Go.Proofs.YtalbennlmcpnmaaGreat
