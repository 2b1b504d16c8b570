import Derived.Test.YtegkmbkbaenkcaaRows
import Derived.Test.YtegkmbkbaenkcaaXW1
import Derived.Test.YtegkmbkbaenkcaaXW2
import Derived.Test.YtegkmbkbaenkcaaXW3
import Derived.Test.YtegkmbkbaenkcaaNetSentP
import Derived.Test.YtegkmbkbaenkcaaLawG
import Derived.Test.YtegkmbkbaenkcaaOpenA
import Derived.ProofKit
namespace Go.Proofs.Ytegkmbkbaenkcaa
open Go.ChangeShapes Go.WideShapes Go.ChangeAt Go.RowKit Go.Deep
set_option maxRecDepth 100000 in
theorem open_i64_3 {H : Type} {enc : TypeId × Value → H} {w : World} {base : Nat} {spare : Nat → Bool} {held : Bool} {fuel : Nat} {cs : List Value} {y : DataW H × List MemPlace} (h : DataW.trod enc Try.prog w base spare held fuel 3 cs = some y) (hw : Snug Try.prog 3 y.1) : ∃ x : Int, R_i64.p (fun k => k < w.heap.size) w cs x ∧ inK .i64 x := by
  obtain ⟨x, e, _, ok⟩ := DataW.trod_int Try.underlying3 h
  exact ⟨x, ⟨(), e, ask_nil⟩, wf_inK ok⟩
set_option maxRecDepth 100000 in
theorem open_u8_5 {H : Type} {enc : TypeId × Value → H} {w : World} {base : Nat} {spare : Nat → Bool} {held : Bool} {fuel : Nat} {cs : List Value} {y : DataW H × List MemPlace} (h : DataW.trod enc Try.prog w base spare held fuel 5 cs = some y) (hw : Snug Try.prog 5 y.1) : ∃ x : Int, R_u8.p (fun k => k < w.heap.size) w cs x ∧ inK .u8 x := by
  obtain ⟨x, e, _, ok⟩ := DataW.trod_int Try.underlying5 h
  exact ⟨x, ⟨(), e, ask_nil⟩, wf_inK ok⟩
set_option maxRecDepth 100000 in
theorem open_Ropewalklaw20_DoD_30 {H : Type} {enc : TypeId × Value → H} {w : World} {base : Nat} {spare : Nat → Bool} {held : Bool} {fuel : Nat} {cs : List Value} {y : DataW H × List MemPlace} (h : DataW.trod enc Try.prog w base spare held fuel 30 cs = some y) (hw : Snug Try.prog 30 y.1) : ∃ x : Ropewalklaw20_DoD, R_Ropewalklaw20_DoD.p (fun k => k < w.heap.size) w cs x ∧ ok_Ropewalklaw20_DoD x := by
  obtain ⟨n, hl, hf⟩ := trod_fields Try.underlying30 h hw
  have c : Try.prog.cellsOf 30 = 5 := by kernel_rfl
  rw [c] at hl
  match cs, hl with
  | [c0, c1, c2, c3, c4], _ =>
  obtain ⟨z0, h0, g0⟩ : ∃ z, DataW.trod enc Try.prog w base spare held n 3 ((List.drop 0 [c0, c1, c2, c3, c4]).take (Try.prog.cellsOf 3)) = some z ∧ Snug Try.prog 3 z.1 := hf 0 _ rfl
  have d0 : Try.prog.cellsOf 3 = 1 := by kernel_rfl
  simp only [d0, List.drop_zero, List.take_succ_cons, List.take_zero, List.drop_succ_cons] at h0
  obtain ⟨z1, h1, g1⟩ : ∃ z, DataW.trod enc Try.prog w base spare held n 3 ((List.drop 1 [c0, c1, c2, c3, c4]).take (Try.prog.cellsOf 3)) = some z ∧ Snug Try.prog 3 z.1 := hf 1 _ rfl
  have d1 : Try.prog.cellsOf 3 = 1 := by kernel_rfl
  simp only [d1, List.drop_zero, List.take_succ_cons, List.take_zero, List.drop_succ_cons] at h1
  obtain ⟨z2, h2, g2⟩ : ∃ z, DataW.trod enc Try.prog w base spare held n 3 ((List.drop 2 [c0, c1, c2, c3, c4]).take (Try.prog.cellsOf 3)) = some z ∧ Snug Try.prog 3 z.1 := hf 2 _ rfl
  have d2 : Try.prog.cellsOf 3 = 1 := by kernel_rfl
  simp only [d2, List.drop_zero, List.take_succ_cons, List.take_zero, List.drop_succ_cons] at h2
  obtain ⟨z3, h3, g3⟩ : ∃ z, DataW.trod enc Try.prog w base spare held n 3 ((List.drop 3 [c0, c1, c2, c3, c4]).take (Try.prog.cellsOf 3)) = some z ∧ Snug Try.prog 3 z.1 := hf 3 _ rfl
  have d3 : Try.prog.cellsOf 3 = 1 := by kernel_rfl
  simp only [d3, List.drop_zero, List.take_succ_cons, List.take_zero, List.drop_succ_cons] at h3
  obtain ⟨z4, h4, g4⟩ : ∃ z, DataW.trod enc Try.prog w base spare held n 28 ((List.drop 4 [c0, c1, c2, c3, c4]).take (Try.prog.cellsOf 28)) = some z ∧ Snug Try.prog 28 z.1 := hf 4 _ rfl
  have d4 : Try.prog.cellsOf 28 = 1 := by kernel_rfl
  simp only [d4, List.drop_zero, List.take_succ_cons, List.take_zero, List.drop_succ_cons] at h4
  obtain ⟨x0, ⟨r0, e0, f0⟩, ok0⟩ := open_i64_3 h0 g0
  simp only [C_i64, List.cons.injEq, and_true] at e0
  obtain rfl := e0
  obtain ⟨x1, ⟨r1, e1, f1⟩, ok1⟩ := open_i64_3 h1 g1
  simp only [C_i64, List.cons.injEq, and_true] at e1
  obtain rfl := e1
  obtain ⟨x2, ⟨r2, e2, f2⟩, ok2⟩ := open_i64_3 h2 g2
  simp only [C_i64, List.cons.injEq, and_true] at e2
  obtain rfl := e2
  obtain ⟨x3, ⟨r3, e3, f3⟩, ok3⟩ := open_i64_3 h3 g3
  simp only [C_i64, List.cons.injEq, and_true] at e3
  obtain rfl := e3
  obtain ⟨p4, k4, x4, e4, f4, ok4⟩ := open_listA Try.underlying28 (sz := 1) (R := R_u8) (q := fun y => inK .u8 y) (by kernel_rfl) (by decide) (fun _ _ _ h hw => open_u8_5 h hw) h4 g4
  replace ok4 := And.intro (le_of_bytes (m := 140737488351232) ok4.1 (by kernel_rfl : Try.prog.bytesOf 5 = 1) (by decide) (by decide) (by decide)) ok4.2
  simp only [List.cons.injEq, and_true] at e4
  subst e4
  exact ⟨⟨x0, x1, x2, x3, x4⟩, ⟨(p4, k4), rfl, (ask_cons f4 ask_nil)⟩, ok0, ok1, ok2, ok3, ok4⟩
theorem law_own : ownKnob Try.prog.godebug = none := by kernel_rfl
theorem law_laid : laidOutB Try.prog = true := by kernel_rfl
set_option maxRecDepth 100000 in
theorem netSent_lifted (os : Os) (started : os.Started) (H : Type) (enc : TypeId × Value → H) :
    ReturnsInHanded {} Try.checked os 3 .any (Rows.netSentSpec.pre6 enc Try.prog Try.f3 Rows.netSentRow.domain false) (Rows.netSentSpec.post enc Try.prog Try.f3 false true false false) := by
  refine returnsInHanded_of_change_sized (C := Try.checked) law_own started (by kernel_rfl) Try.func3
    (ChangeSpec.witness6 (enc := enc) (C := Try.checked) false ⟨#[], #[.slice none 0 0], []⟩ 8 (by kernel_rfl) (by kernel_rfl) (by kernel_rfl) (by kernel_rfl)) ?_
  intro W base args ds gs before hval0 hW hcnd hsz0 _
  have hval : ∀ (j : Nat) t v, Try.f3.params[j]? = some t → args[j]? = some v → Value.okWide Try.prog W .any base t v := hval0
  have hW' := hW
  obtain ⟨p, q, hA0, hV, rfl, hfz, hnd⟩ := hW
  have hA : DataW.TrodAll enc Try.prog W 0 (fun _ => true) true Try.f3.params.toList args.toList ds p := hA0
  have hsz : (DataW.weightsEach Try.prog (Try.f3.params.toList ++ _) (ds ++ gs)).all (· ≤ reachBytes) = true := hsz0
  rw [Try.params3] at hA hval hsz
  clear hA0 hval0 hsz0
  obtain ⟨args⟩ := args
  obtain ⟨v0, r0, d0, s0, p0, q0, e0, rfl, rfl, ⟨n0, h0⟩, hA⟩ := trodAll_cons hA
  obtain ⟨e1, rfl, rfl⟩ := trodAll_nil hA
  subst e1
  simp only at e0
  subst e0
  obtain ⟨rfl, rfl⟩ := trodVars_none hV
  rw [okWide_sl Try.underlying22 (hval 0 _ v0 rfl rfl)] at h0
  obtain ⟨pa0, ca0, x0, e, hs0, ok0⟩ := open_listA Try.underlying22 (sz := 5) (R := R_Ropewalklaw20_DoD) (q := fun y => ok_Ropewalklaw20_DoD y) (by kernel_rfl) (by decide) (fun _ _ _ h hw => open_Ropewalklaw20_DoD_30 h hw) h0 (fits_arg hsz 0 rfl rfl)
  replace ok0 := And.intro (Nat.le_trans (le_of_bytes (m := 2513169434843) ok0.1 (by kernel_rfl : Try.prog.bytesOf 30 = 56) (by decide) (by decide) (by decide)) (by decide : 2513169434843 ≤ 140737488351232)) ok0.2
  simp only [List.cons.injEq, and_true] at e
  subst e
  have hcall := spec_calls (w_ropewalklaw20_NetSent_s 9223372036854775808 pa0 ca0 x0 _ (netsent_arg x0 ok0)) (w := W) (ask_cons hs0 ask_nil)
  refine hcall.mono fun e W' ⟨he, hm⟩ => ?_
  subst he
  have hb : Below W.heap.size W W' := hm.to_below (Nat.le_refl _) (fun _ h => h.elim)
  refine ⟨_, rfl, law_post law_laid ?_ rfl Try.underlying4 rfl hW' rfl rfl rfl hb⟩
  rw [Try.params3]
  intro t ht
  simp only [List.mem_cons, List.not_mem_nil, or_false] at ht
  subst ht; exact ⟨by kernel_rfl, of_decide_eq_true (by kernel_rfl)⟩
theorem net_sent : Rows.NetSentSaid :=
  OpenClaim.holds_of_wide 3 Try.f3 rfl rfl rfl rfl rfl rfl rfl ⟨rfl, rfl, rfl, rfl, rfl⟩ rfl rfl rfl rfl rfl (by kernel_rfl) Try.func3 (by kernel_rfl)
    (of_decide_eq_true (by kernel_rfl)) (by unfold Func.isWrapper; rw [if_neg (by decide +kernel)]; exact ⟨rfl, rfl⟩)
    (fun os started H enc _ => netSent_lifted os started H enc)
#print axioms net_sent
end Go.Proofs.Ytegkmbkbaenkcaa
