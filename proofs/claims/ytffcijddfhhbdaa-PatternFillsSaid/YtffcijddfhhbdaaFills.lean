/- PatternFills in plain words: what a match that fits says of each variable. No program in sight. -/
import Derived.Test.YtffcijddfhhbdaaPatD
namespace Go.Proofs.Ytffcijddfhhbdaa
open Go.RowKit

/-- By which of the first k arguments a variable is bound last. -/
def lastTo (as : List ArgD) : Nat → Int → Option Int
  | 0, _ => none
  | k + 1, q => match as[k]? with
    | some a => if a.k = 2 ∧ q = a.var then some (k : Int) else lastTo as k q
    | none => none
def askedTo (as : List ArgD) : Nat → Int → Option Bool
  | 0, _ => none
  | k + 1, q => match as[k]? with
    | some a => if a.k = 3 ∧ q = a.var then some true else askedTo as k q
    | none => none
def lateTo (as : List ArgD) : Nat → Bool
  | 0 => false
  | k + 1 => match as[k]? with
    | some a => if a.k = 2 then lateTo as k || (askedTo as k a.var).getD false else lateTo as k
    | none => false
theorem fitOne_some {a : ArgD} {x : V} {h h' : List Bool} {v v' : List V} (e : fitOne a x h v = some (h', v')) :
    (a.k = 1 ∧ h' = h ∧ v' = v) ∨ (a.k = 4 ∧ a.v = x ∧ h' = h ∧ v' = v) ∨ (a.k = 3 ∧ (0 ≤ a.var ∧ a.var < h.length ∧ h[a.var.toNat]? = some true ∧ v[a.var.toNat]? = some x) ∧ h' = h ∧ v' = v) ∨
      (a.k = 2 ∧ (0 ≤ a.var ∧ a.var < h.length) ∧ h' = h.set a.var.toNat true ∧ v' = v.set a.var.toNat x) := by
  unfold fitOne at e
  split at e
  · simp at e; exact .inl ⟨by assumption, e.1.symm, e.2.symm⟩
  split at e
  · split at e
    · simp at e; exact .inr (.inl ⟨by assumption, by assumption, e.1.symm, e.2.symm⟩)
    · cases e
  split at e
  · split at e
    · simp at e; exact .inr (.inr (.inl ⟨by assumption, by assumption, e.1.symm, e.2.symm⟩))
    · cases e
  split at e
  · split at e
    · simp at e; exact .inr (.inr (.inr ⟨by assumption, by assumption, e.1.symm, e.2.symm⟩))
    · cases e
  · cases e
theorem fitTo_at {as : List ArgD} {xs : List V} {h : List Bool} {vs : List V} {n k : Nat} {r : List Bool × List V} (e : fitTo as xs h vs n = some r) (hk : k ≤ n) : ∃ h1 v1, fitTo as xs h vs k = some (h1, v1) := by
  cases e1 : fitTo as xs h vs k with
  | none => rw [fitTo_none e1 hk] at e; cases e
  | some r => exact ⟨r.1, r.2, rfl⟩
/-- One argument more fits. -/
theorem fitTo_succ {as : List ArgD} {xs : List V} {h : List Bool} {vs : List V} {k : Nat} {h2 : List Bool} {v2 : List V} (e : fitTo as xs h vs (k + 1) = some (h2, v2)) :
    ∃ h1 v1 a x, fitTo as xs h vs k = some (h1, v1) ∧ as[k]? = some a ∧ xs[k]? = some x ∧ fitOne a x h1 v1 = some (h2, v2) := by
  unfold fitTo at e
  split at e
  · rename_i h1 v1 a x e1 e2 e3
    exact ⟨h1, v1, a, x, e1, e2, e3, e⟩
  · cases e
/-- What stands in an env when k arguments have fitted. -/
def Told (as : List ArgD) (xs : List V) (has : List Bool) (vals : List V) (k : Nat) (h : List Bool) (v : List V) : Prop :=
  ∀ q : Nat, q < has.length → (∀ j, lastTo as k (q : Int) = some j → ∃ m : Nat, j = (m : Int) ∧ m < k ∧ h[q]? = some true ∧ v[q]? = xs[m]?) ∧ (lastTo as k (q : Int) = none → h[q]? = has[q]? ∧ v[q]? = vals[q]?)
theorem told_step {as : List ArgD} {xs : List V} {has : List Bool} {vals : List V} {k : Nat} {h h' : List Bool} {v v' : List V} {a : ArgD} {x : V} (hl : h.length = has.length) (hl' : v.length = has.length) (ht : Told as xs has vals k h v) (ha : as[k]? = some a) (hx : xs[k]? = some x)
    (e : fitOne a x h v = some (h', v')) : Told as xs has vals (k + 1) h' v' := by
  intro q hq
  have h0 := ht q hq
  have hlast : lastTo as (k + 1) (q : Int) = if a.k = 2 ∧ (q : Int) = a.var then some (k : Int) else lastTo as k q := by
    show (match as[k]? with | some a => _ | none => _) = _
    rw [ha]
  rw [hlast]
  have other : a.k ≠ 2 → h' = h → v' = v → (∀ j, (if a.k = 2 ∧ (q : Int) = a.var then some (k : Int) else lastTo as k q) = some j → ∃ m : Nat, j = (m : Int) ∧ m < k + 1 ∧ h'[q]? = some true ∧ v'[q]? = xs[m]?) ∧
      ((if a.k = 2 ∧ (q : Int) = a.var then some (k : Int) else lastTo as k q) = none → h'[q]? = has[q]? ∧ v'[q]? = vals[q]?) := fun hk e1 e2 => by
    subst e1; subst e2
    rw [if_neg (fun hh => hk hh.1)]
    exact ⟨fun j hj => by obtain ⟨m, h1, h2, h3⟩ := h0.1 j hj; exact ⟨m, h1, by omega, h3⟩, h0.2⟩
  rcases fitOne_some e with ⟨h1, h2, h3⟩ | ⟨h1, _, h2, h3⟩ | ⟨h1, _, h2, h3⟩ | ⟨h1, ⟨h4, h5⟩, h2, h3⟩
  · exact other (by omega) h2 h3
  · exact other (by omega) h2 h3
  · exact other (by omega) h2 h3
  · subst h2; subst h3
    by_cases hqv : (q : Int) = a.var
    · have hqn : a.var.toNat = q := by omega
      rw [if_pos ⟨h1, hqv⟩, hqn]
      refine ⟨fun j hj => ?_, fun hj => (by cases hj)⟩
      cases hj
      exact ⟨k, rfl, by omega, by rw [List.getElem?_set_self (by omega)], by rw [List.getElem?_set_self (by omega), hx]⟩
    · have hqn : a.var.toNat ≠ q := by omega
      rw [if_neg (fun hh => hqv hh.2), List.getElem?_set_ne hqn, List.getElem?_set_ne hqn]
      exact ⟨fun j hj => by obtain ⟨m, h1, h2, h3⟩ := h0.1 j hj; exact ⟨m, h1, by omega, h3⟩, h0.2⟩
theorem told {as : List ArgD} {xs : List V} {has : List Bool} {vals : List V} (hl : has.length = vals.length) : ∀ {k : Nat} {h : List Bool} {v : List V}, fitTo as xs has vals k = some (h, v) → Told as xs has vals k h v
  | 0, h, v, e => by cases e; exact fun q _ => ⟨fun j hj => (by cases hj), fun _ => ⟨rfl, rfl⟩⟩
  | k + 1, h, v, e => by
    obtain ⟨h1, v1, a, x, e1, ha, hx, e2⟩ := fitTo_succ e
    have := fitTo_len e1
    exact told_step (by omega) (by omega) (told hl e1) ha hx e2
/-- What a match that fits says. -/
theorem match_some {c : CondD} {f : FactD} {e e' : EnvD} (h : matchOf c f e = some e') : (c.k = 1 ∨ c.k = 2) ∧ c.ty = f.ty ∧ c.args.length = f.args.length ∧ Made e.has e.vals ∧ fitTo c.args f.args e.has e.vals c.args.length = some (e'.has, e'.vals) := by
  unfold matchOf at h
  split at h
  · rename_i h0
    refine ⟨h0.1, h0.2.1, h0.2.2.1, h0.2.2.2, ?_⟩
    cases hf : fitTo c.args f.args e.has e.vals c.args.length with
    | none => rw [hf] at h; cases h
    | some r => rw [hf] at h; cases h; rfl
  · cases h
theorem match_mk {c : CondD} {f : FactD} {e : EnvD} {h : List Bool} {v : List V} (h1 : c.k = 1 ∨ c.k = 2) (h2 : c.ty = f.ty) (h3 : c.args.length = f.args.length) (h4 : Made e.has e.vals) (h5 : fitTo c.args f.args e.has e.vals c.args.length = some (h, v)) : matchOf c f e = some ⟨h, v⟩ := by
  unfold matchOf
  rw [if_pos ⟨h1, h2, h3, h4⟩, h5]; rfl
theorem made_fit {a : ArgD} {x : V} {h h' : List Bool} {v v' : List V} (hm : Made h v) (e : fitOne a x h v = some (h', v')) : Made h' v' := by
  rcases fitOne_some e with ⟨_, rfl, rfl⟩ | ⟨_, _, rfl, rfl⟩ | ⟨_, _, rfl, rfl⟩ | ⟨_, ⟨h4, h5⟩, rfl, rfl⟩
  · exact hm
  · exact hm
  · exact hm
  · refine ⟨by simp [hm.1], fun i y h1 h2 => ?_⟩
    by_cases hi : a.var.toNat = i
    · subst hi
      rw [List.getElem?_set_self (by omega)] at h1; cases h1
    · rw [List.getElem?_set_ne hi] at h1 h2
      exact hm.2 i y h1 h2
theorem made_to {as : List ArgD} {xs : List V} {has : List Bool} {vals : List V} (hm : Made has vals) : ∀ {k : Nat} {h : List Bool} {v : List V}, fitTo as xs has vals k = some (h, v) → Made h v
  | 0, h, v, e => by cases e; exact hm
  | k + 1, h, v, e => by
    obtain ⟨h1, v1, a, x, e1, ha, hx, e2⟩ := fitTo_succ e
    exact made_fit (made_to hm e1) e2
/-- An env that has a variable more. -/
theorem fit_wide {as : List ArgD} {xs : List V} {has : List Bool} {vals : List V} (hl : has.length = vals.length) (w : V) : ∀ {k : Nat} {h : List Bool} {v : List V}, fitTo as xs has vals k = some (h, v) → fitTo as xs (has ++ [true]) (vals ++ [w]) k = some (h ++ [true], v ++ [w])
  | 0, h, v, e => by cases e; rfl
  | k + 1, h, v, e => by
    obtain ⟨h1, v1, a, x, e1, ha, hx, e2⟩ := fitTo_succ e
    have hlen := fitTo_len e1
    rw [fitTo_step (fit_wide hl w e1) ha hx]
    rcases fitOne_some e2 with ⟨h3, rfl, rfl⟩ | ⟨h3, h4, rfl, rfl⟩ | ⟨h3, ⟨h4, h5, h6, h7⟩, rfl, rfl⟩ | ⟨h3, ⟨h4, h5⟩, rfl, rfl⟩
    · simp [fitOne, h3]
    · simp [fitOne, h3, h4]
    · unfold fitOne
      rw [if_neg (by omega), if_neg (by omega), if_pos h3, if_pos]
      refine ⟨h4, by simp; omega, ?_, ?_⟩
      · rw [List.getElem?_append_left (by omega), h6]
      · rw [List.getElem?_append_left (by omega), h7]
    · unfold fitOne
      rw [if_neg (by omega), if_neg (by omega), if_neg (by omega), if_pos h3, if_pos ⟨h4, by simp; omega⟩, List.set_append_left _ _ (by omega), List.set_append_left _ _ (by omega)]
theorem made_wide {h : List Bool} {v : List V} (hm : Made h v) (w : V) : Made (h ++ [true]) (v ++ [w]) := by
  refine ⟨by simp [hm.1], fun i x h1 h2 => ?_⟩
  have hlt : i < h.length := by
    rcases Nat.lt_or_ge i h.length with h3 | h3
    · exact h3
    · rw [List.getElem?_append_right h3] at h1
      rcases hh : i - h.length with _ | m
      · rw [hh] at h1; cases h1
      · rw [hh] at h1; simp at h1
  rw [List.getElem?_append_left hlt] at h1
  rw [List.getElem?_append_left (by rw [← hm.1]; exact hlt)] at h2
  exact hm.2 i x h1 h2
/-- None is bound behind being asked for. -/
theorem late_mono {as : List ArgD} {k n : Nat} (h : lateTo as n = false) (hk : k ≤ n) (hn : n ≤ as.length) : lateTo as k = false := by
  induction n with
  | zero => obtain rfl : k = 0 := by omega
            exact h
  | succ n ih =>
    rcases Nat.lt_or_ge n k with h1 | h1
    · obtain rfl : k = n + 1 := by omega
      exact h
    · refine ih ?_ h1 (by omega)
      obtain ⟨a, ha⟩ : ∃ a, as[n]? = some a := ⟨_, List.getElem?_eq_getElem (by omega)⟩
      unfold lateTo at h
      rw [ha] at h
      simp only at h
      split at h
      · simp at h; exact h.1
      · exact h
theorem asked_on {as : List ArgD} {k n : Nat} {a : ArgD} (ha : as[k]? = some a) (h3 : a.k = 3) (hk : k < n) (hn : n ≤ as.length) : askedTo as n a.var = some true := by
  induction n with
  | zero => omega
  | succ n ih =>
    unfold askedTo
    rcases Nat.lt_or_ge k n with h1 | h1
    · obtain ⟨b, hb⟩ : ∃ b, as[n]? = some b := ⟨_, List.getElem?_eq_getElem (by omega)⟩
      rw [hb]
      simp only
      split
      · rfl
      · exact ih h1 (by omega)
    · obtain rfl : k = n := by omega
      rw [ha]
      simp only
      rw [if_pos (by simp [h3])]
theorem last_on {as : List ArgD} {k n : Nat} {a : ArgD} (ha : as[k]? = some a) (h3 : a.k = 3) (h0 : lastTo as k a.var = none) (hl : lateTo as n = false) (hk : k < n) (hn : n ≤ as.length) : lastTo as n a.var = none := by
  induction n with
  | zero => omega
  | succ n ih =>
    have hl' := late_mono hl (k := n) (by omega) hn
    unfold lastTo
    rcases Nat.lt_or_ge k n with h1 | h1
    · obtain ⟨b, hb⟩ : ∃ b, as[n]? = some b := ⟨_, List.getElem?_eq_getElem (by omega)⟩
      rw [hb]
      simp only
      split
      · rename_i h2
        exfalso
        unfold lateTo at hl
        rw [hb] at hl
        simp only [if_pos h2.1] at hl
        rw [← h2.2, asked_on ha h3 h1 (by omega)] at hl
        simp at hl
      · exact ih hl' h1 (by omega)
    · obtain rfl : k = n := by omega
      rw [ha]
      simp only
      rw [if_neg (by omega)]
      exact h0
/-- Matched once more, under what was told. -/
theorem fit_again {as : List ArgD} {xs : List V} {has h : List Bool} {vals v : List V} (hl : has.length = vals.length) {n : Nat} (hn : n = as.length) (e : fitTo as xs has vals n = some (h, v)) (hlate : lateTo as n = false) : fitTo as xs h v n = some (h, v) := by
  have hlen := fitTo_len e
  have tn := told hl e
  have key : ∀ k, k ≤ n → ∃ h2 v2, fitTo as xs h v k = some (h2, v2) := by
    intro k
    induction k with
    | zero => intro _; exact ⟨h, v, rfl⟩
    | succ k ih =>
      intro hk
      obtain ⟨h2, v2, e2⟩ := ih (by omega)
      obtain ⟨h0, v0, e0⟩ := fitTo_at e hk
      obtain ⟨h1, v1, a, x, e1, ha, hx, e3⟩ := fitTo_succ e0
      have l1 := fitTo_len e1
      have l2 := fitTo_len e2
      have t1 := told hl e1
      have t2 := told (by omega) e2
      rw [fitTo_step e2 ha hx]
      rcases fitOne_some e3 with ⟨h3, _, _⟩ | ⟨h3, h4, _, _⟩ | ⟨h3, ⟨h4, h5, h6, h7⟩, _, _⟩ | ⟨h3, ⟨h4, h5⟩, _, _⟩
      · exact ⟨h2, v2, by simp [fitOne, h3]⟩
      · exact ⟨h2, v2, by simp [fitOne, h3, h4]⟩
      · refine ⟨h2, v2, ?_⟩
        unfold fitOne
        rw [if_neg (by omega), if_neg (by omega), if_pos h3, if_pos]
        have hv : ((a.var.toNat : Nat) : Int) = a.var := by omega
        have a1 := t1 a.var.toNat (by omega)
        have a2 := t2 a.var.toNat (by omega)
        rw [hv] at a1 a2
        cases hq : lastTo as k a.var with
        | some j =>
          obtain ⟨m, hj, _, b1, b2⟩ := a1.1 j hq
          obtain ⟨m', hj', _, c1, c2⟩ := a2.1 j hq
          obtain rfl : m = m' := by omega
          exact ⟨h4, by omega, c1, by rw [c2, ← b2, h7]⟩
        | none =>
          obtain ⟨b1, b2⟩ := a1.2 hq
          obtain ⟨c1, c2⟩ := a2.2 hq
          have an := tn a.var.toNat (by omega)
          rw [hv] at an
          obtain ⟨d1, d2⟩ := an.2 (last_on ha h3 hq hlate (by omega) (by omega))
          exact ⟨h4, by omega, by rw [c1, d1, ← b1, h6], by rw [c2, d2, ← b2, h7]⟩
      · refine ⟨h2.set a.var.toNat true, v2.set a.var.toNat x, ?_⟩
        unfold fitOne
        rw [if_neg (by omega), if_neg (by omega), if_neg (by omega), if_pos h3, if_pos ⟨h4, by omega⟩]
  obtain ⟨h2, v2, e2⟩ := key n (Nat.le_refl _)
  have t2 := told (by omega) e2
  have l2 := fitTo_len e2
  have same : ∀ q : Nat, h2[q]? = h[q]? ∧ v2[q]? = v[q]? := by
    intro q
    rcases Nat.lt_or_ge q has.length with hq | hq
    · have a1 := tn q hq
      have a2 := t2 q (by omega)
      cases hc : lastTo as n (q : Int) with
      | some j =>
        obtain ⟨m, hj, _, b1, b2⟩ := a1.1 j hc
        obtain ⟨m', hj', _, c1, c2⟩ := a2.1 j hc
        obtain rfl : m = m' := by omega
        exact ⟨by rw [b1, c1], by rw [b2, c2]⟩
      | none => exact a2.2 hc
    · rw [List.getElem?_eq_none (by omega), List.getElem?_eq_none (by omega), List.getElem?_eq_none (by omega), List.getElem?_eq_none (by omega)]
      exact ⟨rfl, rfl⟩
  rw [e2, List.ext_getElem? fun q => (same q).1, List.ext_getElem? fun q => (same q).2]
theorem fills_at {as : List ArgD} {xs : List V} {has h : List Bool} {vals v : List V} {i : Nat} {a : ArgD} (e : fitTo as xs has vals as.length = some (h, v)) (hl : has.length = vals.length) (ha : as[i]? = some a) :
    ∃ x, xs[i]? = some x ∧ (a.k = 4 → a.v = x) ∧ (a.k = 3 → 0 ≤ a.var ∧ a.var < has.length ∧ (∀ j, lastTo as i a.var = some j → ∃ m : Nat, j = (m : Int) ∧ m < i ∧ xs[m]? = some x) ∧ (lastTo as i a.var = none → has[a.var.toNat]? = some true ∧ vals[a.var.toNat]? = some x)) := by
  have hlt := (List.getElem?_eq_some_iff.1 ha).1
  obtain ⟨h0, v0, e0⟩ := fitTo_at e (show i + 1 ≤ as.length from hlt)
  obtain ⟨h1, v1, a', x, e1, ha', hx, e3⟩ := fitTo_succ e0
  rw [ha] at ha'; cases ha'
  have l1 := fitTo_len e1
  refine ⟨x, hx, fun h4 => ?_, fun h3 => ?_⟩
  · rcases fitOne_some e3 with ⟨h5, _⟩ | ⟨_, h6, _⟩ | ⟨h5, _⟩ | ⟨h5, _⟩
    · omega
    · exact h6
    · omega
    · omega
  · rcases fitOne_some e3 with ⟨h5, _⟩ | ⟨h5, _⟩ | ⟨_, ⟨h4, h5, h6, h7⟩, _⟩ | ⟨h5, _⟩
    · omega
    · omega
    · have hv : ((a.var.toNat : Nat) : Int) = a.var := by omega
      have t1 := told hl e1 a.var.toNat (by omega)
      rw [hv] at t1
      refine ⟨h4, by omega, fun j hj => ?_, fun hj => ?_⟩
      · obtain ⟨m, b1, b2, b3, b4⟩ := t1.1 j hj
        exact ⟨m, b1, b2, by rw [← b4, h7]⟩
      · obtain ⟨b1, b2⟩ := t1.2 hj
        exact ⟨by rw [← b1, h6], by rw [← b2, h7]⟩
    · omega
theorem last_step {as : List ArgD} {i : Nat} {a : ArgD} (ha : as[i]? = some a) : lastTo as (i + 1) = fun q => if a.k = 2 ∧ q = a.var then some (i : Int) else lastTo as i q := by
  funext q
  show (match as[i]? with | some a => _ | none => _) = _
  rw [ha]
theorem asked_step {as : List ArgD} {i : Nat} {a : ArgD} (ha : as[i]? = some a) : askedTo as (i + 1) = fun q => if a.k = 3 ∧ q = a.var then some true else askedTo as i q := by
  funext q
  show (match as[i]? with | some a => _ | none => _) = _
  rw [ha]
theorem late_step {as : List ArgD} {i : Nat} {a : ArgD} (ha : as[i]? = some a) : lateTo as (i + 1) = if a.k = 2 then lateTo as i || (askedTo as i a.var).getD false else lateTo as i := by
  show (match as[i]? with | some a => _ | none => _) = _
  rw [ha]
theorem take_wide {l m : List V} {x : V} (h : l.length = m.length) : (l ++ [x]).take m.length = l := by
  rw [← h, List.take_left']
  rfl
end Go.Proofs.Ytffcijddfhhbdaa
