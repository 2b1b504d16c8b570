/- PROVED: ropewalklaw17.DiskCrashes answers true whatever its input is, never panics, and leaves its input as it was. Conditions: those of the given statement, and no other. -/
import Derived.Test.YtkakbckmajdggaaRows
import Derived.Test.YtkakbckmajdggaaXW1
import Derived.Test.YtkakbckmajdggaaXW2
import Derived.Test.YtkakbckmajdggaaXW3
import Derived.Test.YtkakbckmajdggaaXW4
import Derived.Test.YtkakbckmajdggaaXW5
import Derived.Test.YtkakbckmajdggaaXW6
import Derived.Test.YtkakbckmajdggaaDiskCrashesP
import Derived.Test.YtkakbckmajdggaaLawG
import Derived.Test.YtkakbckmajdggaaOpenA
import Derived.ProofKit
namespace Go.Proofs.Ytkakbckmajdggaa
open Go.ChangeShapes Go.WideShapes Go.ChangeAt Go.RowKit Go.Deep
set_option maxRecDepth 100000 in
theorem open_u8_5 {H : Type} {enc : TypeId × Value → H} {w : World} {base : Nat} {spare : Nat → Bool} {held : Bool} {fuel : Nat} {cs : List Value} {y : DataW H × List MemPlace} (h : DataW.trod enc Try.prog w base spare held fuel 5 cs = some y) (hw : Snug Try.prog 5 y.1) : ∃ x : Int, R_u8.p (fun k => k < w.heap.size) w cs x ∧ inK .u8 x := by
  obtain ⟨x, e, _, ok⟩ := DataW.trod_int Try.underlying5 h
  exact ⟨x, ⟨(), e, ask_nil⟩, wf_inK ok⟩
set_option maxRecDepth 100000 in
theorem open_l_u8_27 {H : Type} {enc : TypeId × Value → H} {w : World} {base : Nat} {spare : Nat → Bool} {held : Bool} {fuel : Nat} {cs : List Value} {y : DataW H × List MemPlace} (h : DataW.trod enc Try.prog w base spare held fuel 27 cs = some y) (hw : Snug Try.prog 27 y.1) : ∃ x : List Int, R_l_u8.p (fun k => k < w.heap.size) w cs x ∧ (x.length ≤ 140737488351232 ∧ ∀ y ∈ x, inK .u8 y) := by
  obtain ⟨p, c, x, e, f, ok⟩ := open_listA Try.underlying27 (sz := 1) (R := R_u8) (q := fun y => inK .u8 y) (by kernel_rfl) (by decide) (fun _ _ _ h hw => open_u8_5 h hw) h hw
  exact ⟨x, ⟨(p, c), e, ask_cons f ask_nil⟩, le_of_bytes (m := 140737488351232) ok.1 (by kernel_rfl : Try.prog.bytesOf 5 = 1) (by decide) (by decide) (by decide), ok.2⟩
set_option maxRecDepth 100000 in
theorem open_i64_3 {H : Type} {enc : TypeId × Value → H} {w : World} {base : Nat} {spare : Nat → Bool} {held : Bool} {fuel : Nat} {cs : List Value} {y : DataW H × List MemPlace} (h : DataW.trod enc Try.prog w base spare held fuel 3 cs = some y) (hw : Snug Try.prog 3 y.1) : ∃ x : Int, R_i64.p (fun k => k < w.heap.size) w cs x ∧ inK .i64 x := by
  obtain ⟨x, e, _, ok⟩ := DataW.trod_int Try.underlying3 h
  exact ⟨x, ⟨(), e, ask_nil⟩, wf_inK ok⟩
theorem law_own : ownKnob Try.prog.godebug = none := by kernel_rfl
theorem law_laid : laidOutB Try.prog = true := by kernel_rfl
set_option maxRecDepth 100000 in
theorem diskCrashes_lifted (os : Os) (started : os.Started) (H : Type) (enc : TypeId × Value → H) :
    ReturnsInHanded {} Try.checked os 3 .any (Rows.diskCrashesSpec.pre6 enc Try.prog Try.f3 Rows.diskCrashesRow.domain false) (Rows.diskCrashesSpec.post enc Try.prog Try.f3 false true false false) := by
  refine returnsInHanded_of_change_sized (C := Try.checked) law_own started (by kernel_rfl) Try.func3
    (ChangeSpec.witness6 (enc := enc) (C := Try.checked) false ⟨#[], #[.slice none 0 0, .slice none 0 0, .int .i64 0, .int .i64 0], []⟩ 8 (by kernel_rfl) (by kernel_rfl) (by kernel_rfl) (by kernel_rfl)) ?_
  intro W base args ds gs before hval0 hW hcnd hsz0 _
  have hval : ∀ (j : Nat) t v, Try.f3.params[j]? = some t → args[j]? = some v → Value.okWide Try.prog W .any base t v := hval0
  have hW' := hW
  obtain ⟨p, q, hA0, hV, rfl, hfz, hnd⟩ := hW
  have hA : DataW.TrodAll enc Try.prog W 0 (fun _ => true) true Try.f3.params.toList args.toList ds p := hA0
  have hsz : (DataW.weightsEach Try.prog (Try.f3.params.toList ++ _) (ds ++ gs)).all (· ≤ reachBytes) = true := hsz0
  rw [Try.params3] at hA hval hsz
  clear hA0 hval0 hsz0
  obtain ⟨args⟩ := args
  obtain ⟨v0, r0, d0, s0, p0, q0, e0, rfl, rfl, ⟨n0, h0⟩, hA⟩ := trodAll_cons hA
  obtain ⟨v1, r1, d1, s1, p1, q1, e1, rfl, rfl, ⟨n1, h1⟩, hA⟩ := trodAll_cons hA
  obtain ⟨v2, r2, d2, s2, p2, q2, e2, rfl, rfl, ⟨n2, h2⟩, hA⟩ := trodAll_cons hA
  obtain ⟨v3, r3, d3, s3, p3, q3, e3, rfl, rfl, ⟨n3, h3⟩, hA⟩ := trodAll_cons hA
  obtain ⟨e4, rfl, rfl⟩ := trodAll_nil hA
  subst e4; subst e3; subst e2; subst e1
  simp only at e0
  subst e0
  obtain ⟨rfl, rfl⟩ := trodVars_none hV
  rw [okWide_sl Try.underlying22 (hval 0 _ v0 rfl rfl)] at h0
  obtain ⟨pa0, ca0, x0, e, hs0, ok0⟩ := open_listA Try.underlying22 (sz := 1) (R := R_l_u8) (q := fun y => (y.length ≤ 140737488351232 ∧ ∀ z ∈ y, inK .u8 z)) (by kernel_rfl) (by decide) (fun _ _ _ h hw => open_l_u8_27 h hw) h0 (fits_arg hsz 0 rfl rfl)
  replace ok0 := And.intro (Nat.le_trans (le_of_bytes (m := 5864062014634) ok0.1 (by kernel_rfl : Try.prog.bytesOf 27 = 24) (by decide) (by decide) (by decide)) (by decide : 5864062014634 ≤ 140737488351232)) ok0.2
  simp only [List.cons.injEq, and_true] at e
  subst e
  rw [okWide_sl Try.underlying22 (hval 1 _ v1 rfl rfl)] at h1
  obtain ⟨pa1, ca1, x1, e, hs1, ok1⟩ := open_listA Try.underlying22 (sz := 1) (R := R_l_u8) (q := fun y => (y.length ≤ 140737488351232 ∧ ∀ z ∈ y, inK .u8 z)) (by kernel_rfl) (by decide) (fun _ _ _ h hw => open_l_u8_27 h hw) h1 (fits_arg hsz 1 rfl rfl)
  replace ok1 := And.intro (Nat.le_trans (le_of_bytes (m := 5864062014634) ok1.1 (by kernel_rfl : Try.prog.bytesOf 27 = 24) (by decide) (by decide) (by decide)) (by decide : 5864062014634 ≤ 140737488351232)) ok1.2
  simp only [List.cons.injEq, and_true] at e
  subst e
  rw [okWide_one Try.underlying3 (hval 2 _ v2 rfl rfl)] at h2
  obtain ⟨x2, ⟨r2, e, f2⟩, ok2⟩ := open_i64_3 h2 (fits_arg hsz 2 rfl rfl)
  simp only [C_i64, List.cons.injEq, and_true] at e
  subst e
  rw [okWide_one Try.underlying3 (hval 3 _ v3 rfl rfl)] at h3
  obtain ⟨x3, ⟨r3, e, f3⟩, ok3⟩ := open_i64_3 h3 (fits_arg hsz 3 rfl rfl)
  simp only [C_i64, List.cons.injEq, and_true] at e
  subst e
  have hcall := spec_calls (w_ropewalklaw17_DiskCrashes_s 9223372036854775808 pa0 ca0 x0 pa1 ca1 x1 x2 x3 _ (diskcrashes_arg x0 ok0 x1 ok1 x2 ok2 x3 ok3)) (w := W) (ask_cons hs0 (ask_cons hs1 ask_nil))
  refine hcall.mono fun e W' ⟨he, hm⟩ => ?_
  subst he
  have hb : Below W.heap.size W W' := hm.to_below (Nat.le_refl _) (fun _ h => h.elim)
  refine ⟨_, rfl, law_post law_laid ?_ rfl Try.underlying4 rfl hW' rfl rfl rfl hb⟩
  rw [Try.params3]
  intro t ht
  simp only [List.mem_cons, List.not_mem_nil, or_false] at ht
  rcases ht with rfl | rfl | rfl | rfl <;> exact ⟨by kernel_rfl, of_decide_eq_true (by kernel_rfl)⟩
theorem disk_crashes : Rows.DiskCrashesSaid :=
  OpenClaim.holds_of_wide 3 Try.f3 rfl rfl rfl rfl rfl rfl rfl ⟨rfl, rfl, rfl, rfl, rfl⟩ rfl rfl rfl rfl rfl (by kernel_rfl) Try.func3 (by kernel_rfl)
    (of_decide_eq_true (by kernel_rfl)) (by unfold Func.isWrapper; rw [if_neg (by decide +kernel)]; exact ⟨rfl, rfl⟩)
    (fun os started H enc _ => diskCrashes_lifted os started H enc)
#print axioms disk_crashes
end Go.Proofs.Ytkakbckmajdggaa
