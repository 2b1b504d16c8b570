/- PROVED: ropewalklaw17.DiskCopies answers true whatever its input is, never panics, and leaves its input as it was. Conditions: those of the given statement, and no other. -/
import Derived.Test.YtkakbckmajdggaaRows
import Derived.Test.YtkakbckmajdggaaXW1
import Derived.Test.YtkakbckmajdggaaXW2
import Derived.Test.YtkakbckmajdggaaXW3
import Derived.Test.YtkakbckmajdggaaXW4
import Derived.Test.YtkakbckmajdggaaXW5
import Derived.Test.YtkakbckmajdggaaXW6
import Derived.Test.YtkakbckmajdggaaDiskLivesP
import Derived.Test.YtkakbckmajdggaaLawG
import Derived.Test.YtkakbckmajdggaaOpenA
import Derived.ProofKit
namespace Go.Proofs.Ytkakbckmajdggaa
open Go.ChangeShapes Go.WideShapes Go.ChangeAt Go.RowKit Go.Deep
set_option maxRecDepth 100000 in
theorem open_i64_3 {H : Type} {enc : TypeId × Value → H} {w : World} {base : Nat} {spare : Nat → Bool} {held : Bool} {fuel : Nat} {cs : List Value} {y : DataW H × List MemPlace} (h : DataW.trod enc Try.prog w base spare held fuel 3 cs = some y) (hw : Snug Try.prog 3 y.1) : ∃ x : Int, R_i64.p (fun k => k < w.heap.size) w cs x ∧ inK .i64 x := by
  obtain ⟨x, e, _, ok⟩ := DataW.trod_int Try.underlying3 h
  exact ⟨x, ⟨(), e, ask_nil⟩, wf_inK ok⟩
set_option maxRecDepth 100000 in
theorem open_str_9 {H : Type} {enc : TypeId × Value → H} {w : World} {base : Nat} {spare : Nat → Bool} {held : Bool} {fuel : Nat} {cs : List Value} {y : DataW H × List MemPlace} (h : DataW.trod enc Try.prog w base spare held fuel 9 cs = some y) (hw : Snug Try.prog 9 y.1) : ∃ x : ByteArray, R_str.p (fun k => k < w.heap.size) w cs x ∧ x.size ≤ 140737488351232 := by
  obtain ⟨x, e, e2, ok⟩ := DataW.trod_string Try.underlying9 h
  subst e2
  exact ⟨x, ⟨(), e, ask_nil⟩, fits_str hw⟩
set_option maxRecDepth 100000 in
theorem open_u8_5 {H : Type} {enc : TypeId × Value → H} {w : World} {base : Nat} {spare : Nat → Bool} {held : Bool} {fuel : Nat} {cs : List Value} {y : DataW H × List MemPlace} (h : DataW.trod enc Try.prog w base spare held fuel 5 cs = some y) (hw : Snug Try.prog 5 y.1) : ∃ x : Int, R_u8.p (fun k => k < w.heap.size) w cs x ∧ inK .u8 x := by
  obtain ⟨x, e, _, ok⟩ := DataW.trod_int Try.underlying5 h
  exact ⟨x, ⟨(), e, ask_nil⟩, wf_inK ok⟩
set_option maxRecDepth 100000 in
theorem open_Ropewalklaw17_DoD_54 {H : Type} {enc : TypeId × Value → H} {w : World} {base : Nat} {spare : Nat → Bool} {held : Bool} {fuel : Nat} {cs : List Value} {y : DataW H × List MemPlace} (h : DataW.trod enc Try.prog w base spare held fuel 54 cs = some y) (hw : Snug Try.prog 54 y.1) : ∃ x : Ropewalklaw17_DoD, R_Ropewalklaw17_DoD.p (fun k => k < w.heap.size) w cs x ∧ ok_Ropewalklaw17_DoD x := by

  obtain ⟨n, hl, hf⟩ := trod_fields Try.underlying54 h hw
  have c : Try.prog.cellsOf 54 = 5 := by kernel_rfl
  rw [c] at hl
  match cs, hl with
  | [c0, c1, c2, c3, c4], _ =>
  obtain ⟨z0, h0, g0⟩ : ∃ z, DataW.trod enc Try.prog w base spare held n 3 ((List.drop 0 [c0, c1, c2, c3, c4]).take (Try.prog.cellsOf 3)) = some z ∧ Snug Try.prog 3 z.1 := hf 0 _ rfl
  have d0 : Try.prog.cellsOf 3 = 1 := by kernel_rfl
  simp only [d0, List.drop_zero, List.take_succ_cons, List.take_zero, List.drop_succ_cons] at h0
  obtain ⟨z1, h1, g1⟩ : ∃ z, DataW.trod enc Try.prog w base spare held n 9 ((List.drop 1 [c0, c1, c2, c3, c4]).take (Try.prog.cellsOf 9)) = some z ∧ Snug Try.prog 9 z.1 := hf 1 _ rfl
  have d1 : Try.prog.cellsOf 9 = 1 := by kernel_rfl
  simp only [d1, List.drop_zero, List.take_succ_cons, List.take_zero, List.drop_succ_cons] at h1
  obtain ⟨z2, h2, g2⟩ : ∃ z, DataW.trod enc Try.prog w base spare held n 9 ((List.drop 2 [c0, c1, c2, c3, c4]).take (Try.prog.cellsOf 9)) = some z ∧ Snug Try.prog 9 z.1 := hf 2 _ rfl
  have d2 : Try.prog.cellsOf 9 = 1 := by kernel_rfl
  simp only [d2, List.drop_zero, List.take_succ_cons, List.take_zero, List.drop_succ_cons] at h2
  obtain ⟨z3, h3, g3⟩ : ∃ z, DataW.trod enc Try.prog w base spare held n 27 ((List.drop 3 [c0, c1, c2, c3, c4]).take (Try.prog.cellsOf 27)) = some z ∧ Snug Try.prog 27 z.1 := hf 3 _ rfl
  have d3 : Try.prog.cellsOf 27 = 1 := by kernel_rfl
  simp only [d3, List.drop_zero, List.take_succ_cons, List.take_zero, List.drop_succ_cons] at h3
  obtain ⟨z4, h4, g4⟩ : ∃ z, DataW.trod enc Try.prog w base spare held n 3 ((List.drop 4 [c0, c1, c2, c3, c4]).take (Try.prog.cellsOf 3)) = some z ∧ Snug Try.prog 3 z.1 := hf 4 _ rfl
  have d4 : Try.prog.cellsOf 3 = 1 := by kernel_rfl
  simp only [d4, List.drop_zero, List.take_succ_cons, List.take_zero, List.drop_succ_cons] at h4
  obtain ⟨x0, ⟨r0, e0, f0⟩, ok0⟩ := open_i64_3 h0 g0
  simp only [C_i64, List.cons.injEq, and_true] at e0
  obtain rfl := e0
  obtain ⟨x1, ⟨r1, e1, f1⟩, ok1⟩ := open_str_9 h1 g1
  simp only [C_str, List.cons.injEq, and_true] at e1
  obtain rfl := e1
  obtain ⟨x2, ⟨r2, e2, f2⟩, ok2⟩ := open_str_9 h2 g2
  simp only [C_str, List.cons.injEq, and_true] at e2
  obtain rfl := e2
  obtain ⟨p3, k3, x3, e3, f3, ok3⟩ := open_listA Try.underlying27 (sz := 1) (R := R_u8) (q := fun y => inK .u8 y) (by kernel_rfl) (by decide) (fun _ _ _ h hw => open_u8_5 h hw) h3 g3
  replace ok3 := And.intro (le_of_bytes (m := 140737488351232) ok3.1 (by kernel_rfl : Try.prog.bytesOf 5 = 1) (by decide) (by decide) (by decide)) ok3.2
  simp only [List.cons.injEq, and_true] at e3
  subst e3
  obtain ⟨x4, ⟨r4, e4, f4⟩, ok4⟩ := open_i64_3 h4 g4
  simp only [C_i64, List.cons.injEq, and_true] at e4
  obtain rfl := e4
  exact ⟨⟨x0, x1, x2, x3, x4⟩, ⟨(p3, k3), rfl, (ask_cons f3 ask_nil)⟩, ok0, ok1, ok2, ok3, ok4⟩
theorem law_own : ownKnob Try.prog.godebug = none := by kernel_rfl
theorem law_laid : laidOutB Try.prog = true := by kernel_rfl
set_option maxRecDepth 100000 in
theorem diskCopies_lifted (os : Os) (started : os.Started) (H : Type) (enc : TypeId × Value → H) :
    ReturnsInHanded {} Try.checked os 5 .any (Rows.diskCopiesSpec.pre6 enc Try.prog Try.f5 Rows.diskCopiesRow.domain false) (Rows.diskCopiesSpec.post enc Try.prog Try.f5 false true false false) := by
  refine returnsInHanded_of_change_sized (C := Try.checked) law_own started (by kernel_rfl) Try.func5
    (ChangeSpec.witness6 (enc := enc) (C := Try.checked) false ⟨#[], #[.int .i64 0, .slice none 0 0, .int .i64 0], []⟩ 8 (by kernel_rfl) (by kernel_rfl) (by kernel_rfl) (by kernel_rfl)) ?_
  intro W base args ds gs before hval0 hW hcnd hsz0 _
  have hval : ∀ (j : Nat) t v, Try.f5.params[j]? = some t → args[j]? = some v → Value.okWide Try.prog W .any base t v := hval0
  have hW' := hW
  obtain ⟨p, q, hA0, hV, rfl, hfz, hnd⟩ := hW
  have hA : DataW.TrodAll enc Try.prog W 0 (fun _ => true) true Try.f5.params.toList args.toList ds p := hA0
  have hsz : (DataW.weightsEach Try.prog (Try.f5.params.toList ++ _) (ds ++ gs)).all (· ≤ reachBytes) = true := hsz0
  rw [Try.params5] at hA hval hsz
  clear hA0 hval0 hsz0
  obtain ⟨args⟩ := args
  obtain ⟨v0, r0, d0, s0, p0, q0, e0, rfl, rfl, ⟨n0, h0⟩, hA⟩ := trodAll_cons hA
  obtain ⟨v1, r1, d1, s1, p1, q1, e1, rfl, rfl, ⟨n1, h1⟩, hA⟩ := trodAll_cons hA
  obtain ⟨v2, r2, d2, s2, p2, q2, e2, rfl, rfl, ⟨n2, h2⟩, hA⟩ := trodAll_cons hA
  obtain ⟨e3, rfl, rfl⟩ := trodAll_nil hA
  subst e3; subst e2; subst e1
  simp only at e0
  subst e0
  obtain ⟨rfl, rfl⟩ := trodVars_none hV
  rw [okWide_one Try.underlying3 (hval 0 _ v0 rfl rfl)] at h0
  obtain ⟨x0, ⟨r0, e, f0⟩, ok0⟩ := open_i64_3 h0 (fits_arg hsz 0 rfl rfl)
  simp only [C_i64, List.cons.injEq, and_true] at e
  subst e
  rw [okWide_sl Try.underlying40 (hval 1 _ v1 rfl rfl)] at h1
  obtain ⟨pa1, ca1, x1, e, hs1, ok1⟩ := open_listA Try.underlying40 (sz := 5) (R := R_Ropewalklaw17_DoD) (q := fun y => ok_Ropewalklaw17_DoD y) (by kernel_rfl) (by decide) (fun _ _ _ h hw => open_Ropewalklaw17_DoD_54 h hw) h1 (fits_arg hsz 1 rfl rfl)
  replace ok1 := And.intro (Nat.le_trans (le_of_bytes (m := 1954687338211) ok1.1 (by kernel_rfl : Try.prog.bytesOf 54 = 72) (by decide) (by decide) (by decide)) (by decide : 1954687338211 ≤ 140737488351232)) ok1.2
  simp only [List.cons.injEq, and_true] at e
  subst e
  rw [okWide_one Try.underlying3 (hval 2 _ v2 rfl rfl)] at h2
  obtain ⟨x2, ⟨r2, e, f2⟩, ok2⟩ := open_i64_3 h2 (fits_arg hsz 2 rfl rfl)
  simp only [C_i64, List.cons.injEq, and_true] at e
  subst e
  have hcall := spec_calls (w_ropewalklaw17_DiskCopies_s 9223372036854775808 x0 pa1 ca1 x1 x2 _ (diskcopies_arg x0 ok0 x1 ok1 x2 ok2)) (w := W) (ask_cons hs1 ask_nil)
  refine hcall.mono fun e W' ⟨he, hm⟩ => ?_
  subst he
  have hb : Below W.heap.size W W' := hm.to_below (Nat.le_refl _) (fun _ h => h.elim)
  refine ⟨_, rfl, law_post law_laid ?_ rfl Try.underlying4 rfl hW' rfl rfl rfl hb⟩
  rw [Try.params5]
  intro t ht
  simp only [List.mem_cons, List.not_mem_nil, or_false] at ht
  rcases ht with rfl | rfl | rfl <;> exact ⟨by kernel_rfl, of_decide_eq_true (by kernel_rfl)⟩
theorem disk_copies : Rows.DiskCopiesSaid :=
  OpenClaim.holds_of_wide 5 Try.f5 rfl rfl rfl rfl rfl rfl rfl ⟨rfl, rfl, rfl, rfl, rfl⟩ rfl rfl rfl rfl rfl (by kernel_rfl) Try.func5 (by kernel_rfl)
    (of_decide_eq_true (by kernel_rfl)) (by unfold Func.isWrapper; rw [if_neg (by decide +kernel)]; exact ⟨rfl, rfl⟩)
    (fun os started H enc _ => diskCopies_lifted os started H enc)
#print axioms disk_copies
end Go.Proofs.Ytkakbckmajdggaa
