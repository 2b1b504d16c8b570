/- PROVED: ropewalklaw10.PatternSome answers true whatever its input is, never panics, and leaves its input as it was. Conditions: those of the given statement, and no other. -/
import Derived.Test.YtffcijddfhhbdaaRows
import Derived.Test.YtffcijddfhhbdaaW14
import Derived.Test.YtffcijddfhhbdaaLaw
import Derived.ProofKit
namespace Go.Proofs.Ytffcijddfhhbdaa
open Go.ChangeShapes Go.WideShapes Go.ChangeAt Go.RowKit

theorem open_Fs {H : Type} {enc : TypeId × Value → H} {w : World} {base : Nat} {spare : Nat → Bool} {held : Bool} {fuel : Nat} {y : DataW H × List MemPlace} {u : Value} (h : DataW.trod enc Try.prog w base spare held fuel 52 [u] = some y) :
    ∃ p c l, u = .slice p l.length c ∧ (Fact.sli 3 fRep p c l).p (fun k => k < w.heap.size) w :=
  open_list Try.underlying52 (by kernel_rfl) (by decide) (fun _ _ _ h => by
    obtain ⟨p, c, f, h1, h2, h3⟩ := open_F h
    exact ⟨f, h2, (p, c), h1, h3⟩) h
theorem law_own : ownKnob Try.prog.godebug = none := by kernel_rfl
theorem law_laid : laidOutB Try.prog = true := by kernel_rfl

set_option maxRecDepth 100000 in
theorem some_lifted (os : Os) (started : os.Started) (H : Type) (enc : TypeId × Value → H) :
    ReturnsInHanded {} Try.checked os 4 .any (Rows.patternSomeSpec.pre6 enc Try.prog Try.f4 Rows.patternSomeRow.domain false) (Rows.patternSomeSpec.post enc Try.prog Try.f4 false true false false) := by
  refine returnsInHanded_of_change (C := Try.checked) law_own started (by kernel_rfl) Try.func4
    (ChangeSpec.witness6 (enc := enc) (C := Try.checked) false ⟨#[], #[.agg #[.int .u8 0, .int .i64 0, .slice none 0 0, .int .u8 0, .int .u8 0, .int .i64 0, .string ⟨#[]⟩, .int .i64 0, .int .u8 0, .slice none 0 0], .slice none 0 0, .slice none 0 0, .slice none 0 0], []⟩ 8 (by kernel_rfl) (by kernel_rfl) (by kernel_rfl) (by kernel_rfl)) ?_
  intro W base args ds gs before hval0 hW hcnd _
  have hval : ∀ (j : Nat) t v, Try.f4.params[j]? = some t → args[j]? = some v → Value.okWide Try.prog W .any base t v := hval0
  have hW' := hW
  obtain ⟨p, q, hA0, hV, rfl, hfz, hnd⟩ := hW
  have hA : DataW.TrodAll enc Try.prog W 0 (fun _ => true) true Try.f4.params.toList args.toList ds p := hA0
  rw [Try.params4] at hA hval
  clear hA0 hval0
  obtain ⟨args⟩ := args
  obtain ⟨v0, r0, d0, s0, p0, q0, e0, rfl, rfl, ⟨n0, h0⟩, hA⟩ := trodAll_cons hA
  obtain ⟨v1, r1, d1, s1, p1, q1, e1, rfl, rfl, ⟨n1, h1⟩, hA⟩ := trodAll_cons hA
  obtain ⟨v2, r2, d2, s2, p2, q2, e2, rfl, rfl, ⟨n2, h2⟩, hA⟩ := trodAll_cons hA
  obtain ⟨v3, r3, d3, s3, p3, q3, e3, rfl, rfl, ⟨n3, h3⟩, hA⟩ := trodAll_cons hA
  obtain ⟨e5, rfl, rfl⟩ := trodAll_nil hA
  subst e5; subst e3; subst e2; subst e1
  simp only at e0
  subst e0
  obtain ⟨rfl, rfl⟩ := trodVars_none hV
  obtain ⟨c0, rfl⟩ := okWide_agg Try.underlying33 (hval 0 _ v0 rfl rfl)
  rw [okWide_sl Try.underlying37 (hval 1 _ v1 rfl rfl)] at h1
  rw [okWide_sl Try.underlying34 (hval 2 _ v2 rfl rfl)] at h2
  rw [okWide_sl Try.underlying52 (hval 3 _ v3 rfl rfl)] at h3
  obtain ⟨pa, ca, k, ty, la, t0, t1, t2, t3, t4, t5, t6, x0, hs0⟩ := open_C h0
  obtain ⟨pb, cb, has, rfl, hs2⟩ := open_Bs h1
  obtain ⟨pv, cv, vals, rfl, hs3⟩ := open_Vs h2
  obtain ⟨pl, cl, l, rfl, hs4⟩ := open_Fs h3
  obtain ⟨c0⟩ := c0
  have x0' : c0 = [.int .u8 k, .int .i64 ty, .slice pa la.length ca, t0, t1, t2, t3, t4, t5, t6] := x0
  subst x0'
  have hcall := spec_calls (lawsome_s pa pb pv ca cb cv t0 t1 t2 t3 t4 t5 t6 ⟨k, ty, la⟩ has vals pl cl l) (w := W) (fun φ hφ => by
    simp only [List.mem_cons, List.not_mem_nil, or_false] at hφ
    rcases hφ with rfl | rfl | rfl | rfl
    · exact hs0
    · exact hs2
    · exact hs3
    · exact hs4)
  refine hcall.mono fun e W' ⟨he, hm⟩ => ?_
  subst he
  have hb : Below W.heap.size W W' := hm.to_below (Nat.le_refl _) (fun _ h => h.elim)
  refine ⟨_, rfl, law_post law_laid ?_ rfl Try.underlying4 rfl hW' rfl rfl rfl hb⟩
  rw [Try.params4]
  intro t ht
  simp only [List.mem_cons, List.not_mem_nil, or_false] at ht
  rcases ht with rfl | rfl | rfl | rfl <;> exact ⟨by kernel_rfl, of_decide_eq_true (by kernel_rfl)⟩

theorem pattern_some : Rows.PatternSomeSaid :=
  OpenClaim.holds_of_wide 4 Try.f4 rfl rfl rfl rfl rfl rfl rfl ⟨rfl, rfl, rfl, rfl, rfl⟩ rfl rfl rfl rfl rfl (by kernel_rfl) Try.func4 (by kernel_rfl)
    (of_decide_eq_true (by kernel_rfl)) (by unfold Func.isWrapper; rw [if_neg (by decide +kernel)]; exact ⟨rfl, rfl⟩)
    (fun os started H enc _ => some_lifted os started H enc)
#print axioms pattern_some
end Go.Proofs.Ytffcijddfhhbdaa
