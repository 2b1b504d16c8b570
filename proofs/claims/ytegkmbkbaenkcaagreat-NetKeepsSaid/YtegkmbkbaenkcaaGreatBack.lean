import Derived.Test.YtegkmbkbaenkcaaGreatApart
namespace Go.Proofs.YtegkmbkbaenkcaaGreat
open Go Go.RowKit
theorem chunks_marks {α : Type} {sz : Nat} {R : Rep α} {F : Foot} {w : World} {f : Nat → α} {mc : Nat → List Value} (hR : ∀ i, R.p F w (mc i) (f i)) : ∀ {l : List Nat} {cs : List Value}, Chunks sz celO cs (l.map fun i => some (mc i)) → Chunks sz (R.p F w) cs (l.map f)
  | [], _, h => h
  | i :: _, _, ⟨a, b, e1, e2, e3, e4⟩ => ⟨a, b, e1, e2, by rw [e3.2 _ rfl]; exact hR i, chunks_marks hR e4⟩
section
variable {C : Ctx} {Φ H : List Fact} {w : World} {e sz : Nat} {α : Type} {R : Rep α} {mc : Nat → Nat → List Value}
theorem Holds.flHead {f : Nat → α} {r : Twin} {rows : List Twin} {j : Nat} (hR : ∀ i F w, R.p F w (mc j i) (f i)) (h : Holds C Φ H w) (k : Nat) (hk : H[k]? = some (flatF e sz (r :: rows))) (hl : r.l = marks mc j r.h.2.1) :
    Holds C Φ (.own e sz R (hdv r.h) ((List.range r.h.2.1).map f) :: H.set k (flatF e sz rows)) w := by
  obtain ⟨_, h1⟩ := h.split (Λ := Unit) (φ1 := fun _ => flatF e sz rows) (φ2 := fun _ => .own e sz R (hdv r.h) ((List.range r.h.2.1).map f)) k hk (fun N F ⟨Ns, a1, a2, a3⟩ =>
    ⟨(), Ns 0, fun q => ∃ i, Ns (i + 1) q, a1 0, fun q ⟨i, hq⟩ => ⟨a1 _ q hq, fun h0 => a2 (i + 1) 0 q (by omega) hq h0⟩,
      ⟨fun i => Ns (i + 1), fun i q hq => ⟨i, hq⟩, fun i j q hne => a2 _ _ q (by omega), fun i x hx => a3 (i + 1) x (by simpa using hx)⟩, by
        obtain ⟨t1, _, ⟨xs, ho, hc⟩, _⟩ := a3 0 r rfl
        refine ⟨t1, xs, ?_, ?_⟩
        · rw [hl] at ho; simpa [marks] using ho
        · rw [hl] at hc
          exact chunks_marks (fun i => hR i F w) hc⟩)
  exact h1
theorem Holds.flBack2 {f : Nat → Nat → α} {h0 h1 : Hdr} {rows : List Twin} (hR : ∀ j i F w, R.p F w (mc j i) (f j i)) (h : Holds C Φ H w) (k : Nat) (hk : H[k]? = some (flatF e sz rows)) (he : FlE [h0, h1] mc rows) :
    Holds C Φ (.own e sz R (hdv h1) ((List.range h1.2.1).map (f 1)) :: .own e sz R (hdv h0) ((List.range h0.2.1).map (f 0)) :: H.set k (flatF e sz [])) w := by
  obtain ⟨hlen, hat⟩ := he
  match rows, hlen with
  | [t0, t1], _ =>
    obtain ⟨r0, a1, a2, a3⟩ := hat 0 h0 rfl
    obtain ⟨r1, b1, b2, b3⟩ := hat 1 h1 rfl
    cases a1; cases b1
    subst a2; subst b2
    have hlt := (List.getElem?_eq_some_iff.1 hk).1
    have q1 := h.flHead (f := f 0) (j := 0) (fun i => hR 0 i) k hk a3
    have q2 := q1.flHead (e := e) (sz := sz) (rows := []) (r := t1) (f := f 1) (j := 1) (fun i => hR 1 i) (k + 1) (by simp [hlt]) b3
    simpa using q2
end
end Go.Proofs.YtegkmbkbaenkcaaGreat
