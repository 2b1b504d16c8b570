/- PROVED: ropewalklaw27.SessionNil answers true whatever its input is, never panics, and leaves its input as it was. Conditions: those of the given statement, and no other. -/
import Derived.Test.YtighbinghbnjhaaRows
import Derived.Test.YtighbinghbnjhaaCeF
import Derived.Test.YtighbinghbnjhaaLawG
import Derived.ProofKit
namespace Go.Proofs.Ytighbinghbnjhaa
open Go.ChangeShapes Go.WideShapes Go.ChangeAt Go.RowKit
theorem law_own : ownKnob Try.prog.godebug = none := by kernel_rfl
theorem law_laid : laidOutB Try.prog = true := by kernel_rfl
set_option maxRecDepth 100000 in
theorem sessionNil_true : saysTrue (callC Try.prog 100000 100 4 [.opq 0, .opq 1] [] 0 (2 ^ 4096)) = true := by kernel_rfl
theorem sessionNil_s (v0 v1 : Value) : Spec Try.prog 4 [v0, v1] [] [] (fun v Φr Hr => v = .bool true ∧ Φr = [] ∧ Hr = []) := spec_true (E := [v0, v1]) (args := [.opq 0, .opq 1]) rfl sessionNil_true
set_option maxRecDepth 100000 in
theorem sessionNil_lifted (os : Os) (started : os.Started) (H : Type) (enc : TypeId × Value → H) :
    ReturnsInHanded {} Try.checked os 4 .any (Rows.sessionNilSpec.pre6 enc Try.prog Try.f4 Rows.sessionNilRow.domain false) (Rows.sessionNilSpec.post enc Try.prog Try.f4 false true false false) := by
  refine returnsInHanded_of_change (C := Try.checked) law_own started (by kernel_rfl) Try.func4
    (ChangeSpec.witness6 (enc := enc) (C := Try.checked) false ⟨#[], #[.int .i64 0, .int .i64 0], []⟩ 8 (by kernel_rfl) (by kernel_rfl) (by kernel_rfl) (by kernel_rfl)) ?_
  intro W base args ds gs before hval0 hW hcnd _
  have hW' := hW
  obtain ⟨p, q, hA0, hV, rfl, hfz, hnd⟩ := hW
  have hA : DataW.TrodAll enc Try.prog W 0 (fun _ => true) true Try.f4.params.toList args.toList ds p := hA0
  rw [Try.params4] at hA
  clear hA0 hval0
  obtain ⟨args⟩ := args
  obtain ⟨v0, r0, d0, s0, p0, q0, e0, rfl, rfl, ⟨n0, h0⟩, hA⟩ := trodAll_cons hA
  obtain ⟨v1, r1, d1, s1, p1, q1, e1, rfl, rfl, ⟨n1, h1⟩, hA⟩ := trodAll_cons hA
  obtain ⟨e2, rfl, rfl⟩ := trodAll_nil hA
  subst e2; subst e1
  simp only at e0
  subst e0
  obtain ⟨rfl, rfl⟩ := trodVars_none hV
  have hcall := spec_calls (sessionNil_s v0 v1) (w := W) (fun φ hφ => by cases hφ)
  refine hcall.mono fun e W' ⟨he, hm⟩ => ?_
  subst he
  have hb : Below W.heap.size W W' := hm.to_below (Nat.le_refl _) (fun _ h => h.elim)
  refine ⟨_, rfl, law_post law_laid ?_ rfl Try.underlying4 rfl hW' rfl rfl rfl hb⟩
  rw [Try.params4]
  intro t ht
  simp only [List.mem_cons, List.not_mem_nil, or_false] at ht
  rcases ht with rfl | rfl <;> exact ⟨by kernel_rfl, of_decide_eq_true (by kernel_rfl)⟩
theorem session_nil : Rows.SessionNilSaid :=
  OpenClaim.holds_of_wide 4 Try.f4 rfl rfl rfl rfl rfl rfl rfl ⟨rfl, rfl, rfl, rfl, rfl⟩ rfl rfl rfl rfl rfl (by kernel_rfl) Try.func4 (by kernel_rfl)
    (of_decide_eq_true (by kernel_rfl)) (by unfold Func.isWrapper; rw [if_neg (by decide +kernel)]; exact ⟨rfl, rfl⟩)
    (fun os started H enc _ => sessionNil_lifted os started H enc)
#print axioms session_nil
end Go.Proofs.Ytighbinghbnjhaa
