import Derived.Test.YtegkmbkbaenkcaaGreatRep
namespace Go.Proofs.YtegkmbkbaenkcaaGreat
open Go.RowKit
def Made (has : List Bool) (vals : List V) : Prop := has.length = vals.length ∧ ∀ (i : Nat) (x : V), has[i]? = some false → vals[i]? = some x → x = V.zero
def fitOne (a : ArgD) (v : V) (has : List Bool) (vals : List V) : Option (List Bool × List V) :=
  if a.k = 1 then some (has, vals)
  else if a.k = 4 then if a.v = v then some (has, vals) else none
  else if a.k = 3 then if 0 ≤ a.var ∧ a.var < has.length ∧ has[a.var.toNat]? = some true ∧ vals[a.var.toNat]? = some v then some (has, vals) else none
  else if a.k = 2 then if 0 ≤ a.var ∧ a.var < has.length then some (has.set a.var.toNat true, vals.set a.var.toNat v) else none
  else none
def fitTo (as : List ArgD) (xs : List V) (has : List Bool) (vals : List V) : Nat → Option (List Bool × List V)
  | 0 => some (has, vals)
  | k + 1 => match fitTo as xs has vals k, as[k]?, xs[k]? with
    | some (h, v), some a, some x => fitOne a x h v
    | _, _, _ => none
structure CondD where
  k : Int
  ty : Int
  args : List ArgD
structure EnvD where
  has : List Bool
  vals : List V
open Classical in
noncomputable def matchOf (c : CondD) (f : FactD) (e : EnvD) : Option EnvD :=
  if (c.k = 1 ∨ c.k = 2) ∧ c.ty = f.ty ∧ c.args.length = f.args.length ∧ Made e.has e.vals then (fitTo c.args f.args e.has e.vals c.args.length).map fun r => ⟨r.1, r.2⟩ else none
def FitR (a : ArgD) (x : V) (h : List Bool) (vs : List V) (r : Bool) (h' : List Bool) (vs' : List V) : Prop := (r = true → fitOne a x h vs = some (h', vs')) ∧ (r = false → fitOne a x h vs = none)
theorem FitR.any {a : ArgD} {x : V} {h : List Bool} {vs : List V} (e : a.k = 1) : FitR a x h vs true h vs := ⟨fun _ => by simp [fitOne, e], fun h => by cases h⟩
theorem FitR.const {a : ArgD} {x : V} {h : List Bool} {vs : List V} (e : a.k = 4) : FitR a x h vs (decide (a.v = x)) h vs := ⟨fun hr => by simp [fitOne, e, of_decide_eq_true hr], fun hr => by simp [fitOne, e, of_decide_eq_false hr]⟩
theorem FitR.bind {a : ArgD} {x : V} {h : List Bool} {vs : List V} (e : a.k = 2) (hn : 0 ≤ a.var ∧ a.var < h.length) : FitR a x h vs true (h.set a.var.toNat true) (vs.set a.var.toNat x) := ⟨fun _ => by simp [fitOne, e, hn], fun h => by cases h⟩
theorem fitTo_none {as : List ArgD} {xs : List V} {h : List Bool} {vs : List V} {k m : Nat} (e : fitTo as xs h vs k = none) (hk : k ≤ m) : fitTo as xs h vs m = none := by
  induction m with
  | zero => obtain rfl : k = 0 := by omega
            exact e
  | succ m ih =>
    rcases Nat.lt_or_ge m k with hlt | hge
    · obtain rfl : k = m + 1 := by omega
      exact e
    · unfold fitTo; rw [ih hge]
theorem fitTo_step {as : List ArgD} {xs : List V} {h : List Bool} {vs : List V} {k : Nat} {h1 : List Bool} {v1 : List V} {a : ArgD} {x : V} (e : fitTo as xs h vs k = some (h1, v1)) (ha : as[k]? = some a) (hx : xs[k]? = some x) : fitTo as xs h vs (k + 1) = fitOne a x h1 v1 := by
  show (match fitTo as xs h vs k, as[k]?, xs[k]? with | some (h, v), some a, some x => fitOne a x h v | _, _, _ => none) = _
  rw [e, ha, hx]
def MatchR (c : CondD) (f : FactD) (e : EnvD) (r : Bool) (e' : EnvD) : Prop := (r = true → matchOf c f e = some e') ∧ (r = false → matchOf c f e = none ∧ e' = ⟨[], []⟩)
theorem MatchR.stop {c : CondD} {f : FactD} {e : EnvD} {k : Nat} {h h' : List Bool} {v v' : List V} {a : ArgD} {x : V} (hf : fitTo c.args f.args e.has e.vals k = some (h, v)) (ha : c.args[k]? = some a) (hx : f.args[k]? = some x) (hr : FitR a x h v false h' v') : MatchR c f e false ⟨[], []⟩ := by
  refine ⟨fun hr => (by cases hr), fun _ => ⟨?_, rfl⟩⟩
  have h1 : fitTo c.args f.args e.has e.vals (k + 1) = none := (fitTo_step hf ha hx).trans (hr.2 rfl)
  have h2 := fitTo_none h1 (show k + 1 ≤ c.args.length from (List.getElem?_eq_some_iff.1 ha).1)
  unfold matchOf
  split
  · rw [h2]; rfl
  · rfl
theorem FitR.step {as : List ArgD} {xs : List V} {has h h' : List Bool} {vals v v' : List V} {k : Nat} {a : ArgD} {x : V} (hf : fitTo as xs has vals k = some (h, v)) (ha : as[k]? = some a) (hx : xs[k]? = some x) (hr : FitR a x h v true h' v') : fitTo as xs has vals (k + 1) = some (h', v') :=
  (fitTo_step hf ha hx).trans (hr.1 rfl)
end Go.Proofs.YtegkmbkbaenkcaaGreat
