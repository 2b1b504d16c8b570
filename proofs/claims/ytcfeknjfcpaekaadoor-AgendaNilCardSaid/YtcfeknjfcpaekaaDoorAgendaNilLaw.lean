/- PROVED: ropewalklaw14.AgendaNil answers true whatever its input is, never panics, and leaves its input as it was. Conditions: those of the given card, and no other. -/
import Derived.Test.YtcfeknjfcpaekaaDoorRows
import Derived.Test.YtcfeknjfcpaekaaDoorCards
import Derived.Test.YtcfeknjfcpaekaaDoorTie
import Derived.Test.YtcfeknjfcpaekaaDoorCeF
import Derived.Test.YtcfeknjfcpaekaaDoorLawG
import Derived.ProofKit
import Derived.LaidMore
import Derived.OpenShut
import Derived.Stop.Joined
import Derived.SevenTiedAt
namespace Go.Proofs.YtcfeknjfcpaekaaDoor
open Go.ChangeShapes Go.WideShapes Go.ChangeAt Go.RowKit
theorem law_own : ownKnob Tryd.prog.godebug = none := by kernel_rfl
theorem law_laid : laidOutB Tryd.prog = true := by kernel_rfl
set_option maxRecDepth 100000 in
theorem agendaNil_true : saysTrue (callC Tryd.prog 100000 100 4 [.agg [.opq 0, .opq 1]] [] 0 (2 ^ 300)) = true := by kernel_rfl
theorem agendaNil_s (c0_0 c0_1 : Value) : Spec Tryd.prog 4 [.agg #[c0_0, c0_1]] [] [] (fun v Φr Hr => v = .bool true ∧ Φr = [] ∧ Hr = []) := spec_true (E := [c0_0, c0_1]) (args := [.agg [.opq 0, .opq 1]]) rfl agendaNil_true
theorem door_met (os : Os) (args : Array Value) : laidMetH Tryd.prog Rows.agendaNilRow.laid ((World.doorLaid Tryd.prog 4000 os).forCall (fun _ _ => 0) ⟨#[], args, []⟩).memory :=
  laidMetH_of_parts3 (fuel := 8) (laidMet_of_run' 8 (by kernel_rfl) (by kernel_rfl)) (by kernel_rfl) (by kernel_rfl)
theorem okWide_cells {P : Program} {w : World} {r : Reach} {base t : Nat} {v : Value} {fs : Array Field} {k : Nat} (ht : P.underlying t = some (.struct fs)) (hc : P.cellsOf t = k) (h : Value.okWide P w r base t v) : ∃ cs : List Value, v = .agg cs.toArray ∧ cs.length = k := by
  unfold Value.okWide at h
  rw [ht] at h
  obtain ⟨cs, h1, h2, _⟩ := h
  exact ⟨cs.toList, by simpa using h1, by rw [← hc, ← h2]; simp⟩
set_option maxRecDepth 100000 in
theorem agendaNil_lifted (os : Os) (started : os.Started) (H : Type) (enc : TypeId × Value → H) :
    ReturnsInHanded {} Tryd.checked os 4 .any (fun w args => (Rows.agendaNilSpec.pre enc Tryd.prog Tryd.f4 [] false w args ∧ laidMetH Tryd.prog Rows.agendaNilRow.laid w) ∧ sizedMet enc Tryd.prog Tryd.f4 (OpenSpec.ofChange Rows.agendaNilSpec) false w args)
      (Rows.agendaNilSpec.post enc Tryd.prog Tryd.f4 false true false false) := by
  refine returnsInHanded_of_change_and (C := Tryd.checked) (X := fun w _ => laidMetH Tryd.prog Rows.agendaNilRow.laid w) (fun _ _ _ hh h => h.of_heap hh) law_own started (by kernel_rfl) Tryd.func4
    (ChangeSpec.witness_shaped (enc := enc) (C := Tryd.checked) (os := os) (X := fun w _ => laidMetH Tryd.prog Rows.agendaNilRow.laid w) false (World.doorLaid Tryd.prog 4000 os) #[.agg #[.int .i64 0, .slice none 0 0]] 8 rfl (World.shaped_of_RefB (by kernel_rfl) (by kernel_rfl)) (by kernel_rfl) (by kernel_rfl) (by kernel_rfl) (door_met os _)) ?_
  intro W base args ds gs before hval0 hW _ _ hL _
  have hval : ∀ (j : Nat) t v, Tryd.f4.params[j]? = some t → args[j]? = some v → Value.okWide Tryd.prog W .any base t v := hval0
  have hW' := hW
  obtain ⟨p, q, hA0, hV, rfl, hfz, hnd⟩ := hW
  have hA : DataW.TrodAll enc Tryd.prog W 0 (fun _ => true) true Tryd.f4.params.toList args.toList ds p := hA0
  rw [Tryd.params4] at hA hval
  clear hA0 hval0
  obtain ⟨args⟩ := args
  obtain ⟨v0, r0, d0, s0, p0, q0, e0, rfl, rfl, ⟨n0, h0⟩, hA⟩ := trodAll_cons hA
  obtain ⟨e1, rfl, rfl⟩ := trodAll_nil hA
  subst e1
  simp only at e0
  subst e0
  obtain ⟨rfl, rfl⟩ := trodVars_none hV
  obtain ⟨l0, hv0, hl0⟩ := okWide_cells (k := 2) Tryd.underlying51 (by kernel_rfl) (hval 0 _ v0 rfl rfl)
  obtain ⟨c0_0, c0_1, rfl⟩ : ∃ c0_0 c0_1, l0 = [c0_0, c0_1] := by
    match l0, hl0 with
    | [c0_0, c0_1], _ => exact ⟨c0_0, c0_1, rfl⟩
  subst hv0
  have hcall := spec_calls (agendaNil_s c0_0 c0_1) (w := W) (fun φ hφ => by cases hφ)
  refine hcall.mono fun e W' ⟨he, hm⟩ => ?_
  subst he
  have hb : Below W.heap.size W W' := hm.to_below (Nat.le_refl _) (fun _ h => h.elim)
  refine ⟨_, rfl, law_post law_laid ?_ rfl Tryd.underlying4 rfl hW' rfl rfl rfl hb⟩
  rw [Tryd.params4]
  intro t ht
  simp only [List.mem_cons, List.not_mem_nil, or_false] at ht
  subst ht; exact ⟨by kernel_rfl, of_decide_eq_true (by kernel_rfl)⟩
theorem agendaNil_row : Rows.AgendaNilSaid :=
  OpenClaim.holds_of_wide 4 Tryd.f4 rfl rfl rfl rfl rfl rfl rfl ⟨rfl, rfl, rfl, rfl, rfl⟩ rfl rfl rfl rfl rfl (by kernel_rfl) Tryd.func4 (by kernel_rfl)
    (of_decide_eq_true (by kernel_rfl)) (by unfold Func.isWrapper; first | (rw [if_pos (by decide +kernel)]; kernel_rfl) | (rw [if_neg (by decide +kernel)]; exact ⟨rfl, rfl⟩))
    (fun os started H enc _ => agendaNil_lifted os started H enc)
theorem agenda_nil : Rows.AgendaNilCardSaid :=
  Claim7.holds_tied_plain_at .later [] [.data, .data, .data] true (true, "3b6291d68831547240d2f92d0f90e5ea9540c19b51e0cc3fc633d3bafe3d6c89") false
    agendaNil_row (fun _ h => by cases h) (by kernel_rfl) (fun _ h => by cases h) agendaNil_row_tie rfl ⟨rfl, rfl⟩ (by kernel_rfl) rfl
    (fun f fn hf hfn => by
      obtain rfl : f = 4 := Option.some.inj ((show Tryd.prog.funcNamed "ropewalk/ropewalklaw14.AgendaNil" = some 4 by kernel_rfl).symm.trans hf) |>.symm
      obtain rfl : fn = Tryd.f4 := (Option.some.inj (Tryd.func4.symm.trans hfn)).symm
      exact ⟨by kernel_rfl, fun j t ht => by
        rw [Tryd.params4] at ht
        have hm : t ∈ [51] := by simpa using Array.mem_of_getElem? ht
        have hall : ([51].all fun u => !Tryd.prog.wantsStandIn u) = true := by kernel_rfl
        exact (show Tryd.prog.wantsStandIn t = false by simpa using List.all_eq_true.1 hall t hm)⟩)
    (by kernel_rfl)
#print axioms agenda_nil
end Go.Proofs.YtcfeknjfcpaekaaDoor
