import Derived.Test.YtgangmegcejllaaDoorRec
namespace Go.Proofs.YtgangmegcejllaaDoor
open Go Go.RowKit
abbrev Hdr := Option Addr × Nat × Nat
def hdv (h : Hdr) : Value := .slice h.1 h.2.1 h.2.2
abbrev Cel := Option (List Value)
def celO (cs : List Value) (x : Cel) : Prop := (∀ u ∈ cs, u.oneCell' = true) ∧ ∀ y, x = some y → cs = y
structure Twin where
  h : Hdr
  l : List Cel
  g : Hdr
  m : List Cel
def TwinP (e sz : Nat) (r : Twin) (N : Foot) (w : World) : Prop :=
  (∀ k, (hdv r.h).ownBlock = some k → N k) ∧ (∀ k, (hdv r.g).ownBlock = some k → N k) ∧ OwnL 0 e sz celO r.l (hdv r.h) w ∧ OwnL 0 e sz celO r.m (hdv r.g) w ∧
    ((hdv r.h).ownBlock = (hdv r.g).ownBlock → r.l.length ≤ r.m.length)
theorem TwinP.good {e sz : Nat} {r : Twin} {N N' : Foot} {w w' : World} (h : TwinP e sz r N w) (hN : ∀ k, N k → N' k) (ha : Agree N w w') : TwinP e sz r N' w' := by
  obtain ⟨h1, h2, h3, h4, h5⟩ := h
  exact ⟨fun k hk => hN k (h1 k hk), fun k hk => hN k (h2 k hk), h3.keep fun k hk => ha k (h1 k hk), h4.keep fun k hk => ha k (h2 k hk), h5⟩
def FlatP (e sz : Nat) (rows : List Twin) (N : Foot) (w : World) : Prop :=
  ∃ Ns : Nat → Foot, (∀ i q, Ns i q → N q) ∧ (∀ i j q, i ≠ j → Ns i q → ¬ Ns j q) ∧ ∀ i r, rows[i]? = some r → TwinP e sz r (Ns i) w
theorem FlatP.good {e sz : Nat} {rows : List Twin} {N N' : Foot} {w w' : World} (h : FlatP e sz rows N w) (hN : ∀ k, N k → N' k) (ha : Agree N w w') : FlatP e sz rows N' w' := by
  obtain ⟨Ns, h1, h2, h3⟩ := h
  exact ⟨Ns, fun i q hq => hN q (h1 i q hq), h2, fun i r hr => (h3 i r hr).good (fun _ h => h) fun q hq => ha q (h1 i q hq)⟩
section
variable {C : Ctx} {Φ H : List Fact} {w : World} {e sz : Nat} {rows : List Twin} {r : Twin} {q j g : Nat}
theorem OwnL.at_ {l : List Cel} {h : Hdr} {cs : List Value} (ho : OwnL 0 e sz celO l (hdv h) w) (hg : h.1 = some ⟨g, 0, none⟩) (hj : l[j]? = some (some cs)) : CellsAt w g (j * sz) cs ∧ cs.length = sz := by
  obtain ⟨xs, ho', hch⟩ := ho
  obtain ⟨ds, hcl, hr, hu⟩ := hch.at hj
  obtain rfl := hr.2 _ rfl
  refine ⟨fun i u hq => ?_, hcl⟩
  have := ho'.cells (g := g) (by unfold hdv; rw [hg]; rfl) (j * sz + i) u (hu i u hq)
  rw [addr_add, Nat.zero_add] at this
  exact this
theorem FlatP.set {N : Foot} {r' : Twin} (h : FlatP e sz rows N w) (hr : rows[q]? = some r) (hs : ∀ M, TwinP e sz r M w → TwinP e sz r' M w) : FlatP e sz (rows.set q r') N w := by
  obtain ⟨Ns, h1, h2, h3⟩ := h
  refine ⟨Ns, h1, h2, fun i x hx => ?_⟩
  by_cases hq : i = q
  · subst hq
    rw [List.getElem?_set_self (List.getElem?_eq_some_iff.1 hr).1] at hx
    cases hx; exact hs _ (h3 i r hr)
  · rw [List.getElem?_set_ne (Ne.symm hq)] at hx
    exact h3 i x hx
end
def marks (mc : Nat → Nat → List Value) (k n : Nat) : List Cel := (List.range n).map fun i => some (mc k i)
section plain
variable {mc : Nat → Nat → List Value} {k n i : Nat} {hs gh : List Hdr} {h g : Hdr} {rows : List Twin} {r : Twin}
theorem marks_len : (marks mc k n).length = n := by simp [marks]
theorem marks_at (hi : i < n) : (marks mc k n)[i]? = some (some (mc k i)) := by simp [marks, hi]
def FlA (hs : List Hdr) (mc : Nat → Nat → List Value) (k i : Nat) (rows : List Twin) : Prop :=
  rows.length = hs.length ∧ ∀ j h, hs[j]? = some h → ∃ r, rows[j]? = some r ∧ r.h = h ∧ r.g = r.h ∧ r.m = r.l ∧ r.l.length = h.2.1 ∧ (j < k → r.l = marks mc j h.2.1) ∧ (j = k → ∀ q, q < i → r.l[q]? = some (some (mc j q)))
theorem FlA.at_ (hP : FlA hs mc k i rows) (hk : hs[k]? = some h) : ∃ r, rows[k]? = some r ∧ r.h = h ∧ (r.g = r.h ∧ r.m = r.l) ∧ r.l.length = h.2.1 := by
  obtain ⟨r, h1, h2, h3, h4, h5, _⟩ := hP.2 k h hk
  exact ⟨r, h1, h2, ⟨h3, h4⟩, h5⟩
theorem set_atT {j : Nat} (r' : Twin) (hr : rows[k]? = some r) (hj : j ≠ k) : (rows.set k r')[j]? = rows[j]? := by rw [List.getElem?_set_ne (Ne.symm hj)]
theorem set_eqT (r' : Twin) (hr : rows[k]? = some r) : (rows.set k r')[k]? = some r' := by rw [List.getElem?_set_self (List.getElem?_eq_some_iff.1 hr).1]
theorem FlA.store (hP : FlA hs mc k i rows) (hk : hs[k]? = some h) (hr : rows[k]? = some r) (hi : i < h.2.1) : FlA hs mc k (i + 1) (rows.set k ⟨r.h, r.l.set i (some (mc k i)), r.h, r.l.set i (some (mc k i))⟩) := by
  refine ⟨by rw [List.length_set]; exact hP.1, fun j h' hj => ?_⟩
  obtain ⟨r', h1, h2, h3, h4, h5, h6, h7⟩ := hP.2 j h' hj
  by_cases e : j = k
  · subst e
    rw [hr] at h1; cases h1
    rw [hk] at hj; cases hj
    refine ⟨_, set_eqT _ hr, h2, rfl, rfl, by simpa using h5, fun hlt => absurd hlt (Nat.lt_irrefl _), fun _ q hq => ?_⟩
    simp only
    by_cases eq : q = i
    · subst eq; rw [List.getElem?_set_self (by omega)]
    · rw [List.getElem?_set_ne (Ne.symm eq)]; exact h7 rfl q (by omega)
  · exact ⟨r', by rw [set_atT _ hr e]; exact h1, h2, h3, h4, h5, h6, fun e' => absurd e' e⟩
theorem FlA.next (hP : FlA hs mc k i rows) (hk : hs[k]? = some h) (hi : ¬ i < h.2.1) : FlA hs mc (k + 1) 0 rows := by
  refine ⟨hP.1, fun j h' hj => ?_⟩
  obtain ⟨r', h1, h2, h3, h4, h5, h6, h7⟩ := hP.2 j h' hj
  refine ⟨r', h1, h2, h3, h4, h5, fun hlt => ?_, fun _ q hq => absurd hq (Nat.not_lt_zero _)⟩
  by_cases e : j = k
  · subst e
    rw [hk] at hj; cases hj
    apply List.ext_getElem?
    intro q
    by_cases hq : q < h.2.1
    · rw [h7 rfl q (by omega), marks_at hq]
    · rw [List.getElem?_eq_none (by omega), List.getElem?_eq_none (by rw [marks_len]; omega)]
  · exact h6 (by omega)
def FlB (hs : List Hdr) (mc : Nat → Nat → List Value) (gh : List Hdr) (k : Nat) (rows : List Twin) : Prop :=
  rows.length = hs.length ∧ gh.length = hs.length ∧ ∀ j h, hs[j]? = some h → ∃ r, rows[j]? = some r ∧ r.h = h ∧ r.l = marks mc j h.2.1 ∧ (k ≤ j → r.g = h ∧ r.m = r.l) ∧ (j < k → gh[j]? = some r.g ∧ r.m = marks mc j (h.2.1 + 64))
theorem FlA.grow (hP : FlA hs mc k i rows) (hk : ¬ k < hs.length) (hg : gh.length = hs.length) : FlB hs mc gh 0 rows := by
  refine ⟨hP.1, hg, fun j h hj => ?_⟩
  obtain ⟨r, h1, h2, h3, h4, h5, h6, h7⟩ := hP.2 j h hj
  have := (List.getElem?_eq_some_iff.1 hj).1
  exact ⟨r, h1, h2, h6 (by omega), fun _ => ⟨h3.trans h2, h4⟩, fun h0 => absurd h0 (Nat.not_lt_zero _)⟩
def FlC (hs : List Hdr) (mc : Nat → Nat → List Value) (gh : List Hdr) (k i : Nat) (g : Hdr) (rows : List Twin) : Prop :=
  rows.length = hs.length ∧ gh.length = hs.length ∧ ∀ j h, hs[j]? = some h → ∃ r, rows[j]? = some r ∧ r.h = h ∧ r.l = marks mc j h.2.1 ∧ (k < j → r.g = h ∧ r.m = r.l) ∧ (j < k → gh[j]? = some r.g ∧ r.m = marks mc j (h.2.1 + 64)) ∧ (j = k → r.g = g ∧ r.m = marks mc j (h.2.1 + i))
theorem FlC.at_ (hP : FlC hs mc gh k i g rows) (hk : hs[k]? = some h) : ∃ r, rows[k]? = some r ∧ r.h = h ∧ r.l = marks mc k h.2.1 ∧ r.g = g ∧ r.m = marks mc k (h.2.1 + i) := by
  obtain ⟨r, h1, h2, h3, _, _, h6⟩ := hP.2.2 k h hk
  exact ⟨r, h1, h2, h3, (h6 rfl).1, (h6 rfl).2⟩
theorem FlC.done (hP : FlC hs mc gh k 64 g rows) (hk : k < hs.length) : FlB hs mc (gh.set k g) (k + 1) rows := by
  refine ⟨hP.1, by rw [List.length_set]; exact hP.2.1, fun j h' hj => ?_⟩
  obtain ⟨r', h1, h2, h3, h4, h5, h6⟩ := hP.2.2 j h' hj
  refine ⟨r', h1, h2, h3, fun hle => h4 (by omega), fun hlt => ?_⟩
  by_cases e : j = k
  · subst e
    refine ⟨?_, (h6 rfl).2⟩
    rw [(h6 rfl).1, List.getElem?_set_self (by rw [hP.2.1]; exact hk)]
  · rw [List.getElem?_set_ne (Ne.symm e)]; exact h5 (by omega)
def FlD (hs : List Hdr) (mc : Nat → Nat → List Value) (gh : List Hdr) (k : Nat) (rows : List Twin) : Prop :=
  rows.length = hs.length ∧ gh.length = hs.length ∧ ∀ j h, hs[j]? = some h → ∃ r, rows[j]? = some r ∧ r.h = h ∧ r.l = marks mc j h.2.1 ∧ (j < k → gh[j]? = some r.g ∧ ∃ t, r.m = marks mc j h.2.1 ++ t)
theorem FlB.look (hP : FlB hs mc gh k rows) (hk : ¬ k < hs.length) {q : Nat} (hq : hs[q]? = some h) : ∃ r, rows[q]? = some r ∧ r.h = h ∧ r.l = marks mc q h.2.1 ∧ gh[q]? = some r.g ∧ r.m = marks mc q (h.2.1 + 64) := by
  obtain ⟨r, h1, h2, h3, _, h5⟩ := hP.2.2 q h hq
  have := (List.getElem?_eq_some_iff.1 hq).1
  have := h5 (by omega)
  exact ⟨r, h1, h2, h3, this.1, this.2⟩
def FlE (hs : List Hdr) (mc : Nat → Nat → List Value) (rows : List Twin) : Prop := rows.length = hs.length ∧ ∀ j h, hs[j]? = some h → ∃ r, rows[j]? = some r ∧ r.h = h ∧ r.l = marks mc j h.2.1
theorem FlD.left (hP : FlD hs mc gh k rows) : FlE hs mc rows := ⟨hP.1, fun j h hj => by obtain ⟨r, h1, h2, h3, _⟩ := hP.2.2 j h hj; exact ⟨r, h1, h2, h3⟩⟩
theorem FlD.at_ (hP : FlD hs mc gh k rows) {q : Nat} (hq : hs[q]? = some h) : ∃ r, rows[q]? = some r ∧ r.h = h ∧ r.l = marks mc q h.2.1 := by
  obtain ⟨r, h1, h2, h3, _⟩ := hP.2.2 q h hq
  exact ⟨r, h1, h2, h3⟩
theorem FlD.look (hP : FlD hs mc gh k rows) (hk : ¬ k < hs.length) {q : Nat} (hq : hs[q]? = some h) : ∃ r, rows[q]? = some r ∧ r.h = h ∧ r.l = marks mc q h.2.1 ∧ gh[q]? = some r.g ∧ ∃ t, r.m = marks mc q h.2.1 ++ t := by
  obtain ⟨r, h1, h2, h3, h4⟩ := hP.2.2 q h hq
  have := (List.getElem?_eq_some_iff.1 hq).1
  have := h4 (by omega)
  exact ⟨r, h1, h2, h3, this.1, this.2⟩
def row0 (h : Hdr) : Twin := ⟨h, List.replicate h.2.1 none, h, List.replicate h.2.1 none⟩
theorem FlA.start : FlA hs mc 0 0 (hs.map row0) := by
  refine ⟨by simp, fun j h hj => ⟨row0 h, by simp [hj], rfl, rfl, rfl, by simp [row0], fun h0 => absurd h0 (Nat.not_lt_zero _), fun _ q hq => absurd hq (Nat.not_lt_zero _)⟩⟩
end plain
end Go.Proofs.YtgangmegcejllaaDoor
