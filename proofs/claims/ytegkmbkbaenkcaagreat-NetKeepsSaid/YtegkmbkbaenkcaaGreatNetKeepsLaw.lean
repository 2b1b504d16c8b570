import Derived.Test.YtegkmbkbaenkcaaGreatRows
import Derived.Test.YtegkmbkbaenkcaaGreatXW1
import Derived.Test.YtegkmbkbaenkcaaGreatXW2
import Derived.Test.YtegkmbkbaenkcaaGreatNetKeepP
import Derived.Test.YtegkmbkbaenkcaaGreatLawG
import Derived.Test.YtegkmbkbaenkcaaGreatOpenA
import Derived.ProofKit
namespace Go.Proofs.YtegkmbkbaenkcaaGreat
open Go.ChangeShapes Go.WideShapes Go.ChangeAt Go.RowKit Go.Deep
set_option maxRecDepth 100000 in
theorem open_u8_5 {H : Type} {enc : TypeId × Value → H} {w : World} {base : Nat} {spare : Nat → Bool} {held : Bool} {fuel : Nat} {cs : List Value} {y : DataW H × List MemPlace} (h : DataW.trod enc Tryz.prog w base spare held fuel 5 cs = some y) (hw : Snug Tryz.prog 5 y.1) : ∃ x : Int, R_u8.p (fun k => k < w.heap.size) w cs x ∧ inK .u8 x := by
  obtain ⟨x, e, _, ok⟩ := DataW.trod_int Tryz.underlying5 h
  exact ⟨x, ⟨(), e, ask_nil⟩, wf_inK ok⟩
theorem law_own : ownKnob Tryz.prog.godebug = none := by kernel_rfl
theorem law_laid : laidOutB Tryz.prog = true := by kernel_rfl
set_option maxRecDepth 100000 in
theorem netKeeps_lifted (os : Os) (started : os.Started) (H : Type) (enc : TypeId × Value → H) :
    ReturnsInHanded {} Tryz.checked os 3 .any (Rows.netKeepsSpec.pre6 enc Tryz.prog Tryz.f3 Rows.netKeepsRow.domain false) (Rows.netKeepsSpec.post enc Tryz.prog Tryz.f3 false true false false) := by
  refine returnsInHanded_of_change_sized (C := Tryz.checked) law_own started (by kernel_rfl) Tryz.func3
    (ChangeSpec.witness6 (enc := enc) (C := Tryz.checked) false ⟨#[], #[.slice none 0 0], []⟩ 8 (by kernel_rfl) (by kernel_rfl) (by kernel_rfl) (by kernel_rfl)) ?_
  intro W base args ds gs before hval0 hW hcnd hsz0 _
  have hval : ∀ (j : Nat) t v, Tryz.f3.params[j]? = some t → args[j]? = some v → Value.okWide Tryz.prog W .any base t v := hval0
  have hW' := hW
  obtain ⟨p, q, hA0, hV, rfl, hfz, hnd⟩ := hW
  have hA : DataW.TrodAll enc Tryz.prog W 0 (fun _ => true) true Tryz.f3.params.toList args.toList ds p := hA0
  have hsz : (DataW.weightsEach Tryz.prog (Tryz.f3.params.toList ++ _) (ds ++ gs)).all (· ≤ reachBytes) = true := hsz0
  rw [Tryz.params3] at hA hval hsz
  clear hA0 hval0 hsz0
  obtain ⟨args⟩ := args
  obtain ⟨v0, r0, d0, s0, p0, q0, e0, rfl, rfl, ⟨n0, h0⟩, hA⟩ := trodAll_cons hA
  obtain ⟨e1, rfl, rfl⟩ := trodAll_nil hA
  subst e1
  simp only at e0
  subst e0
  obtain ⟨rfl, rfl⟩ := trodVars_none hV
  rw [okWide_sl Tryz.underlying22 (hval 0 _ v0 rfl rfl)] at h0
  obtain ⟨pa0, ca0, x0, e, hs0, ok0⟩ := open_listA Tryz.underlying22 (sz := 1) (R := R_u8) (q := fun y => inK .u8 y) (by kernel_rfl) (by decide) (fun _ _ _ h hw => open_u8_5 h hw) h0 (fits_arg hsz 0 rfl rfl)
  replace ok0 := And.intro (Nat.le_trans (le_of_bytes (m := 140737488351232) ok0.1 (by kernel_rfl : Tryz.prog.bytesOf 5 = 1) (by decide) (by decide) (by decide)) (by decide : 140737488351232 ≤ 140737488351232)) ok0.2
  simp only [List.cons.injEq, and_true] at e
  subst e
  have hcall := spec_calls (w_ropewalklaw20_NetKeeps_s 9223372036854775808 pa0 ca0 x0 _ (netkeep_arg x0 ok0)) (w := W) (ask_cons hs0 ask_nil)
  refine hcall.mono fun e W' ⟨he, hm⟩ => ?_
  subst he
  have hb : Below W.heap.size W W' := hm.to_below (Nat.le_refl _) (fun _ h => h.elim)
  refine ⟨_, rfl, law_post law_laid ?_ rfl Tryz.underlying4 rfl hW' rfl rfl rfl hb⟩
  rw [Tryz.params3]
  intro t ht
  simp only [List.mem_cons, List.not_mem_nil, or_false] at ht
  subst ht; exact ⟨by kernel_rfl, of_decide_eq_true (by kernel_rfl)⟩
theorem net_keeps : Rows.NetKeepsSaid :=
  OpenClaim.holds_of_wide 3 Tryz.f3 rfl rfl rfl rfl rfl rfl rfl ⟨rfl, rfl, rfl, rfl, rfl⟩ rfl rfl rfl rfl rfl (by kernel_rfl) Tryz.func3 (by kernel_rfl)
    (of_decide_eq_true (by kernel_rfl)) (by unfold Func.isWrapper; rw [if_neg (by decide +kernel)]; exact ⟨rfl, rfl⟩)
    (fun os started H enc _ => netKeeps_lifted os started H enc)
#print axioms net_keeps
end Go.Proofs.YtegkmbkbaenkcaaGreat
