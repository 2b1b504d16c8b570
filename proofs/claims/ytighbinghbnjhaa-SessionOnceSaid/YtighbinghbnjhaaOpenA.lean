/- Arguments opened, by printed texts: fields, lists with what holds of all their elements. No program in sight. -/
import Derived.Test.YtighbinghbnjhaaLawG
import Derived.Test.YtighbinghbnjhaaAuto
namespace Go.Proofs.Ytighbinghbnjhaa
open Go Go.RowKit Go.Deep
def inK (k : IntKind) (x : Int) : Prop := IntKind.min k ≤ x ∧ x ≤ IntKind.max k
theorem wf_inK {k : IntKind} {n : Int} (h : (Lit.int k n).wf = true) : inK k n := by
  simp only [Lit.wf, Bool.and_eq_true, decide_eq_true_eq] at h
  exact h
theorem inK_i64 {x : Int} (h : inK .i64 x) : -9223372036854775808 ≤ x ∧ x ≤ 9223372036854775807 := by
  have e1 : IntKind.min .i64 = -9223372036854775808 := by decide
  have e2 : IntKind.max .i64 = 9223372036854775807 := by decide
  unfold inK at h; rwa [e1, e2] at h
theorem inK_u8 {x : Int} (h : inK .u8 x) : 0 ≤ x ∧ x ≤ 255 := by
  have e1 : IntKind.min .u8 = 0 := by decide
  have e2 : IntKind.max .u8 = 255 := by decide
  unfold inK at h; rwa [e1, e2] at h
section
variable {H : Type} {enc : TypeId × Value → H} {P : Program} {w : World} {base : Nat} {spare : Nat → Bool} {held : Bool} {fuel : Nat} {cs : List Value} {y : DataW H × List MemPlace}
theorem trod_fields {t : TypeId} {fs : Array Field} (ht : P.underlying t = some (.struct fs)) (h : DataW.trod enc P w base spare held fuel t cs = some y) :
    ∃ n, cs.length = P.cellsOf t ∧ ∀ (i : Nat) (f : Field), fs[i]? = some f → ∃ z, DataW.trod enc P w base spare held n f.type ((cs.drop f.offset).take (P.cellsOf f.type)) = some z := by
  obtain ⟨xs, n, _, rfl, hl, hlen, hf⟩ := DataW.trod_struct ht h
  refine ⟨n, hl, fun i f hi => ?_⟩
  have hlt : i < xs.length := by rw [hlen]; exact (Array.getElem?_eq_some_iff.1 hi).1
  exact ⟨xs[i], by have := hf i f hi; simpa [List.getElem?_eq_getElem hlt] using this⟩
theorem Chunks.pure {α : Type} {sz : Nat} {R : List Value → α → Prop} {q : α → Prop} : ∀ {l : List α} {xs : List Value}, Chunks sz (fun cs x => R cs x ∧ q x) xs l → Chunks sz R xs l ∧ ∀ x ∈ l, q x
  | [], xs, h => ⟨h, by simp⟩
  | x :: l, xs, ⟨cs, rest, h1, h2, h3, h4⟩ => by
    obtain ⟨h5, h6⟩ := Chunks.pure h4
    refine ⟨⟨cs, rest, h1, h2, h3.1, h5⟩, fun z hz => ?_⟩
    rcases List.mem_cons.1 hz with rfl | hz
    · exact h3.2
    · exact h6 z hz
theorem open_listA {α : Type} {t e sz : Nat} {R : Rep α} {q : α → Prop} (ht : P.underlying t = some (.slice e)) (hC : P.cellsOf e = sz) (hz : 0 < sz)
    (hel : ∀ n cs y, DataW.trod enc P w base spare held n e cs = some y → ∃ a, R.p (fun k => k < w.heap.size) w cs a ∧ q a) {us : List Value} (h : DataW.trod enc P w base spare held fuel t us = some y) :
    ∃ (p : Option Addr) (c : Nat) (l : List α), us = [.slice p l.length c] ∧ (Fact.sli sz R p c l).p (fun k => k < w.heap.size) w ∧ l.length ≤ 9223372036854775807 ∧ ∀ x ∈ l, q x := by
  obtain ⟨v, l, e1, hs⟩ := open_sli (R := fun cs x => R.p (fun k => k < w.heap.size) w cs x ∧ q x) ht hC hz hel h
  subst e1
  obtain ⟨p, n, c, xs, e2, hn, hc, hm, hch, hrow⟩ := hs
  subst hn; subst e2
  obtain ⟨h1, h2⟩ := Chunks.pure hch
  exact ⟨p, c, l, rfl, ⟨p, l.length, c, xs, rfl, rfl, hc, hm, h1, hrow⟩, by omega, h2⟩
theorem okWide_one {r : Reach} {b t : Nat} {v : Value} {k : IntKind} (ht : P.underlying t = some (.int k)) (h : Value.okWide P w r b t v) : v.cells.toList = [v] := by
  unfold Value.okWide at h
  rw [ht] at h
  unfold Cell.okWide at h
  rw [ht] at h
  unfold Cell.ok at h
  rw [ht] at h
  cases v <;> first | rfl | (simp at h)
theorem okWide_bool {r : Reach} {b t : Nat} {v : Value} (ht : P.underlying t = some .bool) (h : Value.okWide P w r b t v) : v.cells.toList = [v] := by
  unfold Value.okWide at h
  rw [ht] at h
  unfold Cell.okWide at h
  rw [ht] at h
  unfold Cell.ok at h
  rw [ht] at h
  cases v <;> first | rfl | (simp at h)
theorem okWide_str {r : Reach} {b t : Nat} {v : Value} (ht : P.underlying t = some .string) (h : Value.okWide P w r b t v) : v.cells.toList = [v] := by
  unfold Value.okWide at h
  rw [ht] at h
  unfold Cell.okWide at h
  rw [ht] at h
  unfold Cell.ok at h
  rw [ht] at h
  cases v <;> first | rfl | (simp at h)
end
end Go.Proofs.Ytighbinghbnjhaa
