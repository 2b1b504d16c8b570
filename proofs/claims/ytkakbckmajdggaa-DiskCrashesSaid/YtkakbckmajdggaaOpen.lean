/- Arguments opened: a slice that reads as data reads as a list; the frame of a law's proof. -/
import Derived.Test.YtkakbckmajdggaaBase
import Derived.ProofKit
import Derived.OpenShut
import Derived.Deep.Slices
import Derived.Deep.Fields
namespace Go.Proofs.Ytkakbckmajdggaa
open Go.RowKit Go.ChangeShapes Go.WideShapes Go.Deep

section
variable {H : Type} {enc : TypeId × Value → H} {P : Program} {w : World} {base : Nat} {spare : Nat → Bool} {held : Bool}
theorem open_sli {α : Type} {t e sz fuel : Nat} {R : List Value → α → Prop} {cs : List Value} {x : DataW H × List MemPlace} (ht : P.underlying t = some (.slice e)) (hC : P.cellsOf e = sz) (hz : 0 < sz)
    (hel : ∀ n cs y, DataW.trod enc P w base spare held n e cs = some y → ∃ a, R cs a) (h : DataW.trod enc P w base spare held fuel t cs = some x) :
    ∃ v l, cs = [v] ∧ Sli (fun k => k < w.heap.size) w sz R v l := by
  rcases open_slice ht h with ⟨rfl, _⟩ | ⟨a, len, cap, m, n, D, Pl, rfl, hb, hl, hm, hmm, _, hi⟩
  · exact ⟨_, [], rfl, Sli.nil⟩
  · subst hC
    have hle : len ≤ m := by rw [hmm]; split <;> omega
    have key : ∀ k, k ≤ len → ∃ xs l, l.length = k ∧ Chunks (P.cellsOf e) R xs l ∧ ∀ j u, xs[j]? = some u → w.cell? (a.add j) = some u := by
      intro k
      induction k with
      | zero => intro _; exact ⟨[], [], rfl, rfl, by simp⟩
      | succ k ih =>
        intro hk
        obtain ⟨xs, l, hl', hx, hc⟩ := ih (by omega)
        obtain ⟨cs', h1, h2⟩ := hi k (by omega)
        obtain ⟨_, hlen, hat⟩ := World.cells?_some h1
        obtain ⟨y, hy⟩ := hel _ _ _ h2
        refine ⟨xs ++ cs', l ++ [y], by simp [hl'], hx.append (Chunks.one hy hlen), fun j u hj => ?_⟩
        have hxl := hx.length
        rw [hl'] at hxl
        by_cases hjl : j < xs.length
        · rw [List.getElem?_append_left hjl] at hj; exact hc j u hj
        · rw [List.getElem?_append_right (by omega)] at hj
          have h3 := (List.getElem?_eq_some_iff.1 hj).1
          have := hat (j - xs.length) (by omega)
          rw [hj, Go.Deep.add_add] at this
          rw [← this]; congr 2; omega
    obtain ⟨xs, l, hl', hx, hc⟩ := key len (Nat.le_refl _)
    refine ⟨_, l, rfl, some a, len, cap, xs, rfl, hl'.symm, hl, hm, hx, fun h0 => ?_⟩
    have h1 : 0 < xs.length := by rw [hx.length, hl']; exact Nat.mul_pos h0 hz
    have h2 := hc 0 _ (List.getElem?_eq_getElem h1)
    have h3 : a.add 0 = a := rfl
    rw [h3] at h2
    have hsp : a = ⟨a.block, a.off, none⟩ := by
      rcases a with ⟨b, o, s⟩
      cases s with
      | none => rfl
      | some s =>
        exfalso
        simp only [World.cell?] at h2
        split at h2 <;> simp at h2
    have hlt := World.block_lt_of_cell? w a h2
    refine ⟨a.block, a.off, by rw [← hsp], hlt, fun j u hj => ?_⟩
    have := hc j u hj
    rw [hsp, addr_add] at this
    exact this
theorem open_lit_int {t fuel : Nat} {k : IntKind} {cs : List Value} {x : DataW H × List MemPlace} (ht : P.underlying t = some (.int k)) (h : DataW.trod enc P w base spare held fuel t cs = some x) : ∃ n, cs = [.int k n] ∧ (Lit.int k n).wf = true := by
  obtain ⟨n, h1, _, h2⟩ := DataW.trod_int ht h
  exact ⟨n, h1, h2⟩
end

theorem trodAll_below {H : Type} {enc : TypeId × Value → H} {P : Program} (hl : laidOutB P = true) {W W' : World} (hb : Below W.heap.size W W') : ∀ {ts : List TypeId} {vs : List Value} {ds : List (DataW H)} {ps : List MemPlace}, (∀ t ∈ ts, P.readableRec t = true ∧ t < P.types.size) →
    DataW.TrodAll enc P W 0 (fun _ => true) true ts vs ds ps → (∀ x ∈ ps, x.block < W.heap.size) → DataW.TrodAll enc P W' 0 (fun b => decide (b < W.heap.size)) true ts vs ds ps
  | [], vs, ds, ps, _, h, _ => by
    cases vs with
    | nil => cases ds with
      | nil => exact h
      | cons d ds => exact h
    | cons v vs => cases ds <;> exact h
  | t :: ts, vs, ds, ps, ht, h, hlt => by
    obtain ⟨v0, vs0, d0, ds0, p0, q0, rfl, rfl, rfl, h0, r0⟩ := trodAll_cons h
    exact trodAll_cons_mk (Below.trod hl (ht t (by simp)).1 (ht t (by simp)).2 h0 hb (fun x hx => hlt x (by simp [hx]))) (trodAll_below hl hb (fun t h => ht t (by simp [h])) r0 (fun x hx => hlt x (by simp [hx])))

/-- What a law leaves: true; its arguments read as they did. -/
theorem law_post {H : Type} {enc : TypeId × Value → H} {P : Program} {f : Func} {s : ChangeSpec} {apart fresh handsOn : Bool} {W W' : World} {args : Array Value} {ds gs : List (DataW H)} {before : List MemPlace} {tb : TypeId}
    (hl : laidOutB P = true) (hr : ∀ t ∈ f.params.toList, P.readableRec t = true ∧ t < P.types.size) (hres : f.resultTypes = #[tb]) (htb : P.underlying tb = some .bool) (hv : s.vars = [])
    (hW : DataW.Whole enc P f.params.toList s.vars apart W args.toList ds gs before) (hfn : (s.fn H (ds ++ gs)).results = [.lit (.bool true)]) (hfa : (s.fn H (ds ++ gs)).args = ds) (hfv : (s.fn H (ds ++ gs)).vars = [])
    (hb : Below W.heap.size W W') : s.post enc P f apart fresh handsOn false W args (.bool true) W' := by
  have hW' := hW
  obtain ⟨p, q, hA, hV, rfl, hfz, hnd⟩ := hW
  rw [hv] at hV
  obtain ⟨rfl, rfl⟩ := trodVars_none hV
  refine ⟨ds, [], p ++ [], [], p ++ [], [], hW', ?_, ?_, ?_, hb.frame _, fun h => by cases h⟩
  · rw [hfn, hres]
    exact trodAll_mk1 (shut_bool htb true)
  · rw [hfa, List.append_nil]
    exact trodAll_below hl hb hr hA (fun x hx => hW'.lt x (by simpa using hx))
  · rw [hfv, hv]; rfl
end Go.Proofs.Ytkakbckmajdggaa
