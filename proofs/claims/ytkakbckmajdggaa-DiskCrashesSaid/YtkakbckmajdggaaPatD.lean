/- Layer 10: what a match is, in plain words. No program in sight. -/
import Derived.Test.YtkakbckmajdggaaRep
namespace Go.Proofs.Ytkakbckmajdggaa
open Go.RowKit

/-- An env is well made. -/
def Made (has : List Bool) (vals : List V) : Prop := has.length = vals.length ∧ ∀ (i : Nat) (x : V), has[i]? = some false → vals[i]? = some x → x = V.zero
/-- An argument fits a value. -/
def fitOne (a : ArgD) (v : V) (has : List Bool) (vals : List V) : Option (List Bool × List V) :=
  if a.k = 1 then some (has, vals)
  else if a.k = 4 then if a.v = v then some (has, vals) else none
  else if a.k = 3 then if 0 ≤ a.var ∧ a.var < has.length ∧ has[a.var.toNat]? = some true ∧ vals[a.var.toNat]? = some v then some (has, vals) else none
  else if a.k = 2 then if 0 ≤ a.var ∧ a.var < has.length then some (has.set a.var.toNat true, vals.set a.var.toNat v) else none
  else none
/-- The first k arguments fit. -/
def fitTo (as : List ArgD) (xs : List V) (has : List Bool) (vals : List V) : Nat → Option (List Bool × List V)
  | 0 => some (has, vals)
  | k + 1 => match fitTo as xs has vals k, as[k]?, xs[k]? with
    | some (h, v), some a, some x => fitOne a x h v
    | _, _, _ => none
structure CondD where
  k : Int
  ty : Int
  args : List ArgD
structure EnvD where
  has : List Bool
  vals : List V
open Classical in
noncomputable def matchOf (c : CondD) (f : FactD) (e : EnvD) : Option EnvD :=
  if (c.k = 1 ∨ c.k = 2) ∧ c.ty = f.ty ∧ c.args.length = f.args.length ∧ Made e.has e.vals then (fitTo c.args f.args e.has e.vals c.args.length).map fun r => ⟨r.1, r.2⟩ else none
/-- What a match of one argument says. -/
def FitR (a : ArgD) (x : V) (h : List Bool) (vs : List V) (r : Bool) (h' : List Bool) (vs' : List V) : Prop := (r = true → fitOne a x h vs = some (h', vs')) ∧ (r = false → fitOne a x h vs = none)
theorem FitR.any {a : ArgD} {x : V} {h : List Bool} {vs : List V} (e : a.k = 1) : FitR a x h vs true h vs := ⟨fun _ => by simp [fitOne, e], fun h => by cases h⟩
theorem FitR.const {a : ArgD} {x : V} {h : List Bool} {vs : List V} (e : a.k = 4) : FitR a x h vs (decide (a.v = x)) h vs := ⟨fun hr => by simp [fitOne, e, of_decide_eq_true hr], fun hr => by simp [fitOne, e, of_decide_eq_false hr]⟩
theorem FitR.out3 {a : ArgD} {x : V} {h h' : List Bool} {vs vs' : List V} (e : a.k = 3) (hn : ¬ (0 ≤ a.var ∧ a.var < h.length)) : FitR a x h vs false h' vs' := ⟨fun hr => (by cases hr), fun _ => by unfold fitOne; rw [if_neg (by omega), if_neg (by omega), if_pos e, if_neg (fun hh => hn ⟨hh.1, hh.2.1⟩)]⟩
theorem FitR.off3 {a : ArgD} {x : V} {h h' : List Bool} {vs vs' : List V} (e : a.k = 3) (hh : h[a.var.toNat]? = some false) : FitR a x h vs false h' vs' := ⟨fun hr => (by cases hr), fun _ => by simp [fitOne, e, hh]⟩
theorem FitR.var3 {a : ArgD} {x y : V} {h : List Bool} {vs : List V} (e : a.k = 3) (hn : 0 ≤ a.var ∧ a.var < h.length) (hh : h[a.var.toNat]? = some true) (hv : vs[a.var.toNat]? = some y) : FitR a x h vs (decide (y = x)) h vs :=
  ⟨fun hr => (by
    unfold fitOne
    rw [if_neg (by omega), if_neg (by omega), if_pos e, if_pos ⟨hn.1, hn.2, hh, by rw [hv, of_decide_eq_true hr]⟩]), fun hr => (by
    unfold fitOne
    rw [if_neg (by omega), if_neg (by omega), if_pos e, if_neg]
    intro h0
    have := h0.2.2.2
    rw [hv] at this
    exact of_decide_eq_false hr (Option.some.inj this))⟩
theorem FitR.known {a : ArgD} {x : V} {h h' : List Bool} {vs vs' : List V} {p : Prop} [Decidable p] {b : Bool} (hf : FitR a x h vs (decide p) h' vs') (hb : decide p = b) : FitR a x h vs b h' vs' := hb ▸ hf
theorem FitR.out2 {a : ArgD} {x : V} {h h' : List Bool} {vs vs' : List V} (e : a.k = 2) (hn : ¬ (0 ≤ a.var ∧ a.var < h.length)) : FitR a x h vs false h' vs' := ⟨fun hr => (by cases hr), fun _ => by unfold fitOne; rw [if_neg (by omega), if_neg (by omega), if_neg (by omega), if_pos e, if_neg hn]⟩
theorem FitR.bind {a : ArgD} {x : V} {h : List Bool} {vs : List V} (e : a.k = 2) (hn : 0 ≤ a.var ∧ a.var < h.length) : FitR a x h vs true (h.set a.var.toNat true) (vs.set a.var.toNat x) := ⟨fun _ => by simp [fitOne, e, hn], fun h => by cases h⟩
theorem FitR.none_ {a : ArgD} {x : V} {h h' : List Bool} {vs vs' : List V} (e1 : a.k ≠ 1) (e2 : a.k ≠ 2) (e3 : a.k ≠ 3) (e4 : a.k ≠ 4) : FitR a x h vs false h' vs' := ⟨fun hr => (by cases hr), fun _ => by simp [fitOne, e1, e2, e3, e4]⟩
theorem fitOne_len {a : ArgD} {v : V} {h : List Bool} {vs : List V} {h' : List Bool} {vs' : List V} (e : fitOne a v h vs = some (h', vs')) : h'.length = h.length ∧ vs'.length = vs.length := by
  unfold fitOne at e
  repeat' split at e
  all_goals first | (cases e; done) | (simp at e; obtain ⟨rfl, rfl⟩ := e; simp)
theorem fitTo_len {as : List ArgD} {xs : List V} {h : List Bool} {vs : List V} : ∀ {k : Nat} {h' : List Bool} {vs' : List V}, fitTo as xs h vs k = some (h', vs') → h'.length = h.length ∧ vs'.length = vs.length
  | 0, h', vs', e => by cases e; exact ⟨rfl, rfl⟩
  | k + 1, h', vs', e => by
    unfold fitTo at e
    split at e
    · rename_i h1 v1 a x e1 _ _
      have := fitTo_len e1
      have := fitOne_len e
      omega
    · cases e
theorem fitTo_none {as : List ArgD} {xs : List V} {h : List Bool} {vs : List V} {k m : Nat} (e : fitTo as xs h vs k = none) (hk : k ≤ m) : fitTo as xs h vs m = none := by
  induction m with
  | zero => obtain rfl : k = 0 := by omega
            exact e
  | succ m ih =>
    rcases Nat.lt_or_ge m k with hlt | hge
    · obtain rfl : k = m + 1 := by omega
      exact e
    · unfold fitTo; rw [ih hge]
theorem fitTo_step {as : List ArgD} {xs : List V} {h : List Bool} {vs : List V} {k : Nat} {h1 : List Bool} {v1 : List V} {a : ArgD} {x : V} (e : fitTo as xs h vs k = some (h1, v1)) (ha : as[k]? = some a) (hx : xs[k]? = some x) : fitTo as xs h vs (k + 1) = fitOne a x h1 v1 := by
  show (match fitTo as xs h vs k, as[k]?, xs[k]? with | some (h, v), some a, some x => fitOne a x h v | _, _, _ => none) = _
  rw [e, ha, hx]
/-- What a match says. -/
def MatchR (c : CondD) (f : FactD) (e : EnvD) (r : Bool) (e' : EnvD) : Prop := (r = true → matchOf c f e = some e') ∧ (r = false → matchOf c f e = none ∧ e' = ⟨[], []⟩)
theorem MatchR.no {c : CondD} {f : FactD} {e : EnvD} (h : ¬ ((c.k = 1 ∨ c.k = 2) ∧ c.ty = f.ty ∧ c.args.length = f.args.length ∧ Made e.has e.vals)) : MatchR c f e false ⟨[], []⟩ :=
  ⟨fun hr => (by cases hr), fun _ => ⟨if_neg h, rfl⟩⟩
theorem MatchR.stop {c : CondD} {f : FactD} {e : EnvD} {k : Nat} {h h' : List Bool} {v v' : List V} {a : ArgD} {x : V} (hf : fitTo c.args f.args e.has e.vals k = some (h, v)) (ha : c.args[k]? = some a) (hx : f.args[k]? = some x) (hr : FitR a x h v false h' v') : MatchR c f e false ⟨[], []⟩ := by
  refine ⟨fun hr => (by cases hr), fun _ => ⟨?_, rfl⟩⟩
  have h1 : fitTo c.args f.args e.has e.vals (k + 1) = none := (fitTo_step hf ha hx).trans (hr.2 rfl)
  have h2 := fitTo_none h1 (show k + 1 ≤ c.args.length from (List.getElem?_eq_some_iff.1 ha).1)
  unfold matchOf
  split
  · rw [h2]; rfl
  · rfl
theorem MatchR.yes {c : CondD} {f : FactD} {e : EnvD} {h : List Bool} {v : List V} {k : Nat} (h0 : (c.k = 1 ∨ c.k = 2) ∧ c.ty = f.ty ∧ c.args.length = f.args.length ∧ Made e.has e.vals) (hf : fitTo c.args f.args e.has e.vals k = some (h, v)) (hk : k = c.args.length) : MatchR c f e true ⟨h, v⟩ := by
  refine ⟨fun _ => ?_, fun hr => (by cases hr)⟩
  unfold matchOf
  rw [if_pos h0, ← hk, hf]; rfl
theorem FitR.step {as : List ArgD} {xs : List V} {has h h' : List Bool} {vals v v' : List V} {k : Nat} {a : ArgD} {x : V} (hf : fitTo as xs has vals k = some (h, v)) (ha : as[k]? = some a) (hx : xs[k]? = some x) (hr : FitR a x h v true h' v') : fitTo as xs has vals (k + 1) = some (h', v') :=
  (fitTo_step hf ha hx).trans (hr.1 rfl)
def newOf (n : Int) : EnvD := if n < 0 ∨ n > 16 then ⟨[], []⟩ else ⟨List.replicate n.toNat false, List.replicate n.toNat V.zero⟩
theorem newOf_no {n : Int} (h : n < 0 ∨ n > 16) : newOf n = ⟨[], []⟩ := if_pos h
theorem newOf_yes {n : Int} (h : ¬ (n < 0 ∨ n > 16)) : newOf n = ⟨List.replicate n.toNat false, List.replicate n.toNat V.zero⟩ := if_neg h
def z0 : V := ⟨0, 0, ⟨#[]⟩⟩
theorem MatchR.is {c : CondD} {f : FactD} {e e1 e' : EnvD} {r : Bool} (h : MatchR c f e r e') (hm : matchOf c f e = some e1) : r = true ∧ e' = e1 := by
  cases r
  · rw [(h.2 rfl).1] at hm; cases hm
  · rw [h.1 rfl] at hm; exact ⟨rfl, Option.some.inj hm⟩
theorem MatchR.isnt {c : CondD} {f : FactD} {e e' : EnvD} {r : Bool} (h : MatchR c f e r e') (hm : matchOf c f e = none) : r = false ∧ e' = ⟨[], []⟩ := by
  cases r
  · exact ⟨rfl, (h.2 rfl).2⟩
  · rw [h.1 rfl] at hm; cases hm
theorem made_new1 : Made (newOf 1).has (newOf 1).vals := by
  refine ⟨by simp [newOf], fun i x h1 h2 => ?_⟩
  cases i with
  | zero => simp [newOf] at h2; exact h2.symm
  | succ i => simp [newOf] at h2
theorem awake1 {r : Bool} {e : EnvD} (h : MatchR ⟨1, 1, [⟨1, 0, ⟨0, 0, ⟨#[]⟩⟩⟩, ⟨2, 0, ⟨0, 0, ⟨#[]⟩⟩⟩, ⟨3, 0, ⟨0, 0, ⟨#[]⟩⟩⟩, ⟨4, 0, ⟨1, 5, ⟨#[]⟩⟩⟩]⟩ ⟨0, 1, [⟨1, 1, ⟨#[]⟩⟩, ⟨1, 2, ⟨#[]⟩⟩, ⟨1, 2, ⟨#[]⟩⟩, ⟨1, 5, ⟨#[]⟩⟩]⟩ ⟨(newOf 1).has, (newOf 1).vals⟩ r e) :
    r = true ∧ e = ⟨[true], [⟨1, 2, ⟨#[]⟩⟩]⟩ := h.is (by
  unfold matchOf
  rw [if_pos ⟨.inl rfl, rfl, rfl, made_new1⟩]
  simp [fitTo, fitOne, newOf])
theorem awake2 {r : Bool} {e : EnvD} (h : MatchR ⟨1, 1, [⟨1, 0, ⟨0, 0, ⟨#[]⟩⟩⟩, ⟨2, 0, ⟨0, 0, ⟨#[]⟩⟩⟩, ⟨3, 0, ⟨0, 0, ⟨#[]⟩⟩⟩, ⟨4, 0, ⟨1, 5, ⟨#[]⟩⟩⟩]⟩ ⟨0, 1, [⟨1, 1, ⟨#[]⟩⟩, ⟨1, 2, ⟨#[]⟩⟩, ⟨1, 3, ⟨#[]⟩⟩, ⟨1, 5, ⟨#[]⟩⟩]⟩ ⟨(newOf 1).has, (newOf 1).vals⟩ r e) :
    r = false ∧ e = ⟨[], []⟩ := h.isnt (by
  unfold matchOf
  rw [if_pos ⟨.inl rfl, rfl, rfl, made_new1⟩]
  simp [fitTo, fitOne, newOf])
theorem awake3 {r : Bool} {e : EnvD} (h : MatchR ⟨1, 1, [⟨1, 0, ⟨0, 0, ⟨#[]⟩⟩⟩, ⟨2, 0, ⟨0, 0, ⟨#[]⟩⟩⟩, ⟨3, 1, ⟨0, 0, ⟨#[]⟩⟩⟩, ⟨4, 0, ⟨1, 5, ⟨#[]⟩⟩⟩]⟩ ⟨0, 1, [⟨1, 1, ⟨#[]⟩⟩, ⟨1, 2, ⟨#[]⟩⟩, ⟨1, 2, ⟨#[]⟩⟩, ⟨1, 5, ⟨#[]⟩⟩]⟩ ⟨(newOf 1).has, (newOf 1).vals⟩ r e) :
    r = false ∧ e = ⟨[], []⟩ := h.isnt (by
  unfold matchOf
  rw [if_pos ⟨.inl rfl, rfl, rfl, made_new1⟩]
  simp [fitTo, fitOne, newOf])
end Go.Proofs.Ytkakbckmajdggaa
