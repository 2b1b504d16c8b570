/- PROVED: ropewalklaw10.PatternFills answers true whatever its input is, never panics, and leaves its input as it was. Conditions: those of the given statement, and no other. -/
import Derived.Test.YtffcijddfhhbdaaRows
import Derived.Test.YtffcijddfhhbdaaW8
import Derived.Test.YtffcijddfhhbdaaLaw
import Derived.ProofKit
namespace Go.Proofs.Ytffcijddfhhbdaa
open Go.ChangeShapes Go.WideShapes Go.ChangeAt Go.RowKit

theorem law_own : ownKnob Try.prog.godebug = none := by kernel_rfl
theorem law_laid : laidOutB Try.prog = true := by kernel_rfl

set_option maxRecDepth 100000 in
theorem fills_lifted (os : Os) (started : os.Started) (H : Type) (enc : TypeId × Value → H) :
    ReturnsInHanded {} Try.checked os 3 .any (Rows.patternFillsSpec.pre6 enc Try.prog Try.f3 Rows.patternFillsRow.domain false) (Rows.patternFillsSpec.post enc Try.prog Try.f3 false true false false) := by
  refine returnsInHanded_of_change (C := Try.checked) law_own started (by kernel_rfl) Try.func3
    (ChangeSpec.witness6 (enc := enc) (C := Try.checked) false ⟨#[], #[.agg #[.int .u8 0, .int .i64 0, .slice none 0 0, .int .u8 0, .int .u8 0, .int .i64 0, .string ⟨#[]⟩, .int .i64 0, .int .u8 0, .slice none 0 0], .agg #[.int .i64 0, .int .i64 0, .slice none 0 0], .slice none 0 0, .slice none 0 0, .agg #[.int .u8 0, .int .i64 0, .string ⟨#[]⟩]], []⟩ 8 (by kernel_rfl) (by kernel_rfl) (by kernel_rfl) (by kernel_rfl)) ?_
  intro W base args ds gs before hval0 hW hcnd _
  have hval : ∀ (j : Nat) t v, Try.f3.params[j]? = some t → args[j]? = some v → Value.okWide Try.prog W .any base t v := hval0
  have hW' := hW
  obtain ⟨p, q, hA0, hV, rfl, hfz, hnd⟩ := hW
  have hA : DataW.TrodAll enc Try.prog W 0 (fun _ => true) true Try.f3.params.toList args.toList ds p := hA0
  rw [Try.params3] at hA hval
  clear hA0 hval0
  obtain ⟨args⟩ := args
  obtain ⟨v0, r0, d0, s0, p0, q0, e0, rfl, rfl, ⟨n0, h0⟩, hA⟩ := trodAll_cons hA
  obtain ⟨v1, r1, d1, s1, p1, q1, e1, rfl, rfl, ⟨n1, h1⟩, hA⟩ := trodAll_cons hA
  obtain ⟨v2, r2, d2, s2, p2, q2, e2, rfl, rfl, ⟨n2, h2⟩, hA⟩ := trodAll_cons hA
  obtain ⟨v3, r3, d3, s3, p3, q3, e3, rfl, rfl, ⟨n3, h3⟩, hA⟩ := trodAll_cons hA
  obtain ⟨v4, r4, d4, s4, p4, q4, e4, rfl, rfl, ⟨n4, h4⟩, hA⟩ := trodAll_cons hA
  obtain ⟨e5, rfl, rfl⟩ := trodAll_nil hA
  subst e5; subst e4; subst e3; subst e2; subst e1
  simp only at e0
  subst e0
  obtain ⟨rfl, rfl⟩ := trodVars_none hV
  obtain ⟨c0, rfl⟩ := okWide_agg Try.underlying33 (hval 0 _ v0 rfl rfl)
  obtain ⟨c1, rfl⟩ := okWide_agg Try.underlying36 (hval 1 _ v1 rfl rfl)
  obtain ⟨c4, rfl⟩ := okWide_agg Try.underlying27 (hval 4 _ v4 rfl rfl)
  rw [okWide_sl Try.underlying37 (hval 2 _ v2 rfl rfl)] at h2
  rw [okWide_sl Try.underlying34 (hval 3 _ v3 rfl rfl)] at h3
  obtain ⟨pa, ca, k, ty, la, t0, t1, t2, t3, t4, t5, t6, x0, hs0⟩ := open_C h0
  obtain ⟨px, cx, f, x1, _, hs1⟩ := open_F h1
  obtain ⟨pb, cb, has, rfl, hs2⟩ := open_Bs h2
  obtain ⟨pv, cv, vals, rfl, hs3⟩ := open_Vs h3
  obtain ⟨v, x4, okv⟩ := open_V h4
  obtain ⟨c0⟩ := c0
  obtain ⟨c1⟩ := c1
  obtain ⟨c4⟩ := c4
  have x0' : c0 = [.int .u8 k, .int .i64 ty, .slice pa la.length ca, t0, t1, t2, t3, t4, t5, t6] := x0
  have x1' : c1 = [.int .i64 f.id, .int .i64 f.ty, .slice px f.args.length cx] := x1
  have x4' : c4 = vCells v () := x4
  subst x0'; subst x1'; subst x4'
  have hcall := spec_calls (fills_s pa px pb pv ca cx cb cv t0 t1 t2 t3 t4 t5 t6 ⟨k, ty, la⟩ f has vals v okv) (w := W) (fun φ hφ => by
    simp only [List.mem_cons, List.not_mem_nil, or_false] at hφ
    rcases hφ with rfl | rfl | rfl | rfl
    · exact hs0
    · exact hs1
    · exact hs2
    · exact hs3)
  refine hcall.mono fun e W' ⟨he, hm⟩ => ?_
  subst he
  have hb : Below W.heap.size W W' := hm.to_below (Nat.le_refl _) (fun _ h => h.elim)
  refine ⟨_, rfl, law_post law_laid ?_ rfl Try.underlying4 rfl hW' rfl rfl rfl hb⟩
  rw [Try.params3]
  intro t ht
  simp only [List.mem_cons, List.not_mem_nil, or_false] at ht
  rcases ht with rfl | rfl | rfl | rfl | rfl <;> exact ⟨by kernel_rfl, of_decide_eq_true (by kernel_rfl)⟩

theorem pattern_fills : Rows.PatternFillsSaid :=
  OpenClaim.holds_of_wide 3 Try.f3 rfl rfl rfl rfl rfl rfl rfl ⟨rfl, rfl, rfl, rfl, rfl⟩ rfl rfl rfl rfl rfl (by kernel_rfl) Try.func3 (by kernel_rfl)
    (of_decide_eq_true (by kernel_rfl)) (by unfold Func.isWrapper; rw [if_neg (by decide +kernel)]; exact ⟨rfl, rfl⟩)
    (fun os started H enc _ => fills_lifted os started H enc)
#print axioms pattern_fills
end Go.Proofs.Ytffcijddfhhbdaa
