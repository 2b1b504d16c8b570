import Derived.Test.YtgangmegcejllaaDoorLend
import Derived.Maps.Own
import Derived.Maps.OwnSet
import Derived.Maps.Views
import Derived.Test.YtgangmegcejllaaDoorRep
namespace Go.Proofs.YtgangmegcejllaaDoor
open Go.RowKit
structure MElem (P : Program) (e : TypeId) (α : Type) where
  enc : α → Value
  lit : α → Lit
  ok : α → Prop
  reads : ∀ x, ok x → plainElem (H := Unit) P e (enc x) = some (.lit (lit x), [])
  inv : ∀ v z, plainElem (H := Unit) P e v = some z → ∃ x, v = enc x ∧ z.1 = .lit (lit x)
  inj : ∀ x y, lit x = lit y → x = y
def MapAt {α : Type} (P : Program) (k e : TypeId) (E : MElem P e α) (b m : Nat) (f : Int → Option α) (w : World) : Prop :=
  ∃ D : DataW Unit, w.ownsMap P k (plainElem P e) b m D ∧ ∀ (i : Int) (z : DataW Unit), D.atKey (.int .i64 i) z = match f i with
    | some x => .lit (E.lit x)
    | none => z
theorem MapAt.keep {α : Type} {P : Program} {k e : TypeId} {E : MElem P e α} {b m : Nat} {f : Int → Option α} {w w' : World} (h : MapAt P k e E b m f w) (hb : w'.heap[b]? = w.heap[b]?) : MapAt P k e E b m f w' := by
  obtain ⟨D, ⟨es, clock, h1, h2⟩, h3⟩ := h
  exact ⟨D, ⟨es, clock, hb.trans h1, h2⟩, h3⟩
def mapF {α : Type} (P : Program) (k e : TypeId) (E : MElem P e α) (b m : Nat) (f : Int → Option α) : Fact :=
  .raw (fun N w => N b ∧ MapAt P k e E b m f w) (fun hF ha h => ⟨hF _ h.1, h.2.keep (ha _ h.1)⟩)
theorem MapAt.look {α : Type} {P : Program} {k e t : TypeId} {E : MElem P e α} {b m : Nat} {f : Int → Option α} {w : World} (c : Bool) (h : MapAt P k e E b m f w) (hk : P.underlying k = some (.int .i64)) (ht : P.underlying t = some (.map k e)) {i : Int} {z : Value}
    (hi : (Lit.int .i64 i).wf = true) (hz : tZero P e = some z) :
    (Instr.lookup t (.map (some b)) (.int .i64 i) c).run P w = .ok (match f i with | some x => if c then .tuple #[E.enc x, .bool true] else E.enc x | none => if c then .tuple #[z, .bool false] else z) w := by
  obtain ⟨D, ⟨es, clock, hb, F, _, rfl⟩, h2⟩ := h
  have hkey : keyOf P k (.int .i64 i) = some (.int .i64 i) := by simp [keyOf, hk, mapKey, hi]
  rcases Maps.fit_look c (Maps.int_keyed hk) ht (tZero_run hz w) hb F hkey with ⟨hrun, _, hat⟩ | ⟨e0, y, _, _, hrun, hRv, hat, _⟩
  · cases hf : f i with
    | none => exact hrun
    | some x =>
      have e1 := (hat .nil).symm.trans (h2 i .nil)
      rw [hf] at e1; cases e1
  · obtain ⟨x', hx1, hx2⟩ := E.inv _ _ hRv
    cases hf : f i with
    | none =>
      have e1 := (hat .nil).symm.trans (h2 i .nil)
      rw [hf, hx2] at e1; cases e1
    | some x =>
      have e1 := (hat .nil).symm.trans (h2 i .nil)
      rw [hf, hx2] at e1
      simp only [DataW.lit.injEq] at e1
      rw [hx1, E.inj _ _ e1] at hrun
      exact hrun
section rules
variable {P : Program} {C : Ctx} {n : Nat} {Q : Exit → Act → World → Prop} {Φ Φ' : List Fact} {H H' : List Fact} {S S' : List (Nat × Value)} {ops : Array Oper} {rest : List Oper} {o : Oper} {d : Nat}
theorem wl_sliceTo {t e sz c m h : Nat} {x y : Operand} {p : Option Addr} {z : Int} (hg : wantS ops S o = some true) (hd : o.dst = some d) (hn : Nat.blt d n = true) (hS : outS d S = S') (ho : o.op = .slice t x none (some y) none)
    (hx : evS S x = some (.slice p m c)) (hy : evS S y = some (.int .i64 z)) (hz : z = (h : Int)) (ht : tElem P t = some e) (hs : tSize P e = some sz) (hc : h ≤ c) (hp : ∀ a, p = some a → a.spot = none)
    (next : WL P C n Q Φ H ((d, .slice p h c) :: S') ops rest) : WL P C n Q Φ H S ops (o :: rest) := by
  subst hz
  refine wl_val hg hd hn hS (fun a w hf hw => ?_) next
  have hadd : (if c = 0 then p else p.map (·.add (0 * sz))) = p := by
    split
    · rfl
    · cases p with
      | none => rfl
      | some q => 
        rcases q with ⟨b, o, s⟩
        have := hp _ rfl
        simp only at this
        subst this
        simp [addr_add]
  simp [execOp, ho, hf.eval hx, hf.eval hy, Instr.sliceAt, Instr.slice, run_underlying (tElem_run ht), Instr.sliceBounds, Instr.sliceBound, asIntOf, hc, tSize_run hs]
  intro h0
  rw [if_neg h0] at hadd
  simpa using hadd
end rules
end Go.Proofs.YtgangmegcejllaaDoor
namespace Go.Proofs.YtgangmegcejllaaDoor
open Go.RowKit
theorem sli_none {α : Type} {sz : Nat} {R : Rep α} {F : Foot} {w : World} : (Fact.sli sz R none 0 ([] : List α)).p F w := ⟨none, 0, 0, [], rfl, rfl, Nat.le_refl _, by omega, rfl, fun h => absurd h (by omega)⟩
theorem Chunks.back {α β : Type} {sz : Nat} {R : List Value → α → Prop} {R' : List Value → β → Prop} {g : β → α} (hR : ∀ cs x, R cs (g x) → R' cs x) : ∀ {l : List β} {xs : List Value}, Chunks sz R xs (l.map g) → Chunks sz R' xs l
  | [], _, h => h
  | x :: l, _, ⟨cs, rest, e, h1, h2, h3⟩ => ⟨cs, rest, e, h1, hR cs x h2, Chunks.back hR h3⟩
end Go.Proofs.YtgangmegcejllaaDoor
namespace Go.Proofs.YtgangmegcejllaaDoor
open Go.RowKit
def Made (has : List Bool) (vals : List V) : Prop := has.length = vals.length ∧ ∀ (i : Nat) (x : V), has[i]? = some false → vals[i]? = some x → x = V.zero
def fitOne (a : ArgD) (v : V) (has : List Bool) (vals : List V) : Option (List Bool × List V) :=
  if a.k = 1 then some (has, vals)
  else if a.k = 4 then if a.v = v then some (has, vals) else none
  else if a.k = 3 then if 0 ≤ a.var ∧ a.var < has.length ∧ has[a.var.toNat]? = some true ∧ vals[a.var.toNat]? = some v then some (has, vals) else none
  else if a.k = 2 then if 0 ≤ a.var ∧ a.var < has.length then some (has.set a.var.toNat true, vals.set a.var.toNat v) else none
  else none
def fitTo (as : List ArgD) (xs : List V) (has : List Bool) (vals : List V) : Nat → Option (List Bool × List V)
  | 0 => some (has, vals)
  | k + 1 => match fitTo as xs has vals k, as[k]?, xs[k]? with
    | some (h, v), some a, some x => fitOne a x h v
    | _, _, _ => none
structure CondD where
  k : Int
  ty : Int
  args : List ArgD
structure EnvD where
  has : List Bool
  vals : List V
open Classical in
noncomputable def matchOf (c : CondD) (f : FactD) (e : EnvD) : Option EnvD :=
  if (c.k = 1 ∨ c.k = 2) ∧ c.ty = f.ty ∧ c.args.length = f.args.length ∧ Made e.has e.vals then (fitTo c.args f.args e.has e.vals c.args.length).map fun r => ⟨r.1, r.2⟩ else none
def FitR (a : ArgD) (x : V) (h : List Bool) (vs : List V) (r : Bool) (h' : List Bool) (vs' : List V) : Prop := (r = true → fitOne a x h vs = some (h', vs')) ∧ (r = false → fitOne a x h vs = none)
theorem FitR.any {a : ArgD} {x : V} {h : List Bool} {vs : List V} (e : a.k = 1) : FitR a x h vs true h vs := ⟨fun _ => by simp [fitOne, e], fun h => by cases h⟩
theorem FitR.const {a : ArgD} {x : V} {h : List Bool} {vs : List V} (e : a.k = 4) : FitR a x h vs (decide (a.v = x)) h vs := ⟨fun hr => by simp [fitOne, e, of_decide_eq_true hr], fun hr => by simp [fitOne, e, of_decide_eq_false hr]⟩
theorem FitR.bind {a : ArgD} {x : V} {h : List Bool} {vs : List V} (e : a.k = 2) (hn : 0 ≤ a.var ∧ a.var < h.length) : FitR a x h vs true (h.set a.var.toNat true) (vs.set a.var.toNat x) := ⟨fun _ => by simp [fitOne, e, hn], fun h => by cases h⟩
theorem fitTo_none {as : List ArgD} {xs : List V} {h : List Bool} {vs : List V} {k m : Nat} (e : fitTo as xs h vs k = none) (hk : k ≤ m) : fitTo as xs h vs m = none := by
  induction m with
  | zero => obtain rfl : k = 0 := by omega
            exact e
  | succ m ih =>
    rcases Nat.lt_or_ge m k with hlt | hge
    · obtain rfl : k = m + 1 := by omega
      exact e
    · unfold fitTo; rw [ih hge]
theorem fitTo_step {as : List ArgD} {xs : List V} {h : List Bool} {vs : List V} {k : Nat} {h1 : List Bool} {v1 : List V} {a : ArgD} {x : V} (e : fitTo as xs h vs k = some (h1, v1)) (ha : as[k]? = some a) (hx : xs[k]? = some x) : fitTo as xs h vs (k + 1) = fitOne a x h1 v1 := by
  show (match fitTo as xs h vs k, as[k]?, xs[k]? with | some (h, v), some a, some x => fitOne a x h v | _, _, _ => none) = _
  rw [e, ha, hx]
def MatchR (c : CondD) (f : FactD) (e : EnvD) (r : Bool) (e' : EnvD) : Prop := (r = true → matchOf c f e = some e') ∧ (r = false → matchOf c f e = none ∧ e' = ⟨[], []⟩)
theorem MatchR.stop {c : CondD} {f : FactD} {e : EnvD} {k : Nat} {h h' : List Bool} {v v' : List V} {a : ArgD} {x : V} (hf : fitTo c.args f.args e.has e.vals k = some (h, v)) (ha : c.args[k]? = some a) (hx : f.args[k]? = some x) (hr : FitR a x h v false h' v') : MatchR c f e false ⟨[], []⟩ := by
  refine ⟨fun hr => (by cases hr), fun _ => ⟨?_, rfl⟩⟩
  have h1 : fitTo c.args f.args e.has e.vals (k + 1) = none := (fitTo_step hf ha hx).trans (hr.2 rfl)
  have h2 := fitTo_none h1 (show k + 1 ≤ c.args.length from (List.getElem?_eq_some_iff.1 ha).1)
  unfold matchOf
  split
  · rw [h2]; rfl
  · rfl
theorem FitR.step {as : List ArgD} {xs : List V} {has h h' : List Bool} {vals v v' : List V} {k : Nat} {a : ArgD} {x : V} (hf : fitTo as xs has vals k = some (h, v)) (ha : as[k]? = some a) (hx : xs[k]? = some x) (hr : FitR a x h v true h' v') : fitTo as xs has vals (k + 1) = some (h', v') :=
  (fitTo_step hf ha hx).trans (hr.1 rfl)
def z0 : V := ⟨0, 0, ⟨#[]⟩⟩
end Go.Proofs.YtgangmegcejllaaDoor
namespace Go.Proofs.YtgangmegcejllaaDoor
open Go.RowKit
section
variable {P : Program} {C : Ctx} {n : Nat} {Q : Exit → Act → World → Prop} {Φ Φ' : List Fact} {H H' : List Fact} {S S' : List (Nat × Value)} {ops : Array Oper} {rest : List Oper} {o : Oper} {d : Nat}
theorem call_any {f : FuncId} {args : List Value} {Φf Hf : List Fact} {R : Value → List Fact → List Fact → Prop} (l m : List Nat) (hg : wantS ops S o = some true)
    (hrun : ∀ a w, Frm n S a → (execOp a.eval o).run P w = .ok (.enter f args.toArray) w)
    (hH : pickH H l = Hf) (spec : Spec P f args Φf Hf R) (hΦ : ∀ F w, (∀ ψ ∈ Φ, ψ.p F w) → ∀ φ ∈ Φf, φ.p F w) (hl : okIdx (l ++ m) H.length = true) (hm : pickH H m = H')
    (next : ∀ v Φr Hr, R v Φr Hr → ∀ a w, Frm n S a → Holds C (Φr ++ Φ) (Hr ++ H') w → wpList P ops Q rest (a.put o.dst v) w) : WL P C n Q Φ H S ops (o :: rest) := by
  subst hH; subst hm
  intro a w hf ⟨F, N, hi⟩
  have hl1 : okIdx l H.length = true := by
    clear spec next
    have : ∀ (l : List Nat), okIdx (l ++ m) H.length = true → okIdx l H.length = true := by
      intro l
      induction l with
      | nil => intro _; rfl
      | cons i l ih =>
        intro h
        simp only [List.cons_append, okIdx, Bool.and_eq_true, Bool.not_eq_true', List.any_append, Bool.or_eq_false_iff] at h ⊢
        exact ⟨⟨h.1.1, h.1.2.1⟩, ih h.2⟩
    exact this l hl
  have hp := hi.pick l hl1
  have hcall := spec F _ w hi.flt (fun φ hφ => hΦ F w hi.facts φ hφ) hp.owns (fun i k hik hk => ⟨(hp.nlt i k hik hk).1, (hp.nlt i k hik hk).2.2⟩) hp.apart
  refine wpList_step fun K hK => ?_
  rw [wantS_spec hf hg, if_pos rfl]
  unfold Oper.wp
  rw [hrun a w hf, Oper.upon_enter]
  refine hcall.mono ?_
  rintro e w' ⟨v, Φr, Hr, rfl, hR, hh⟩
  exact hK _ _ (next v Φr Hr hR a w' hf (hi.after hl hh))
theorem dyn_run {f : FuncId} {y : Operand} {xs : Array Operand} {ts : Array TypeId} {args0 args : List Value} {caps : Array Value} (ho : o.op = .call { callee := .value y, args := xs, argTypes := ts }) (hy : evS S y = some (.func (.func f) #[] caps)) (hx : evL S xs.toList = some args0)
    (hfn : isFn P f = true) (ha : args0 ++ caps.toList = args) : ∀ a w, Frm n S a → (execOp a.eval o).run P w = .ok (.enter f args.toArray) w := by
  intro a w hf
  have hargs : xs.map a.eval = args0.toArray := by
    have := hf.evalL hx
    have h0 : xs = xs.toList.toArray := by simp
    rw [← this, h0, List.map_toArray]
  have h2 : (resolve a.eval { callee := .value y, args := xs, argTypes := ts } o.type).run P w = .ok { target := .fn (.func f) caps, args := args0.toArray } w := by
    simp [resolve, hf.eval hy, Deferred.ofValue, hargs]
  have h3 : args0.toArray ++ caps = args.toArray := by rw [← ha]; simp
  unfold execOp
  simp only [ho, Sem.run_bind, h2, Result.andThen_ok]
  simp [invoke, isFn_run hfn, h3]
theorem wl_callDyn {f : FuncId} {y : Operand} {xs : Array Operand} {ts : Array TypeId} {args0 args : List Value} {caps : Array Value} {Φf Hf : List Fact} {R : Value → List Fact → List Fact → Prop} (l m : List Nat) (hg : wantS ops S o = some true) (hd : o.dst = some d) (hn : Nat.blt d n = true) (hS : outS d S = S')
    (ho : o.op = .call { callee := .value y, args := xs, argTypes := ts }) (hy : evS S y = some (.func (.func f) #[] caps)) (hx : evL S xs.toList = some args0) (hfn : isFn P f = true) (ha : args0 ++ caps.toList = args)
    (hH : pickH H l = Hf) (spec : Spec P f args Φf Hf R) (hΦ : ∀ F w, (∀ ψ ∈ Φ, ψ.p F w) → ∀ φ ∈ Φf, φ.p F w) (hl : okIdx (l ++ m) H.length = true) (hm : pickH H m = H')
    (next : ∀ v Φr Hr, R v Φr Hr → WL P C n Q (Φr ++ Φ) (Hr ++ H') ((d, v) :: S') ops rest) : WL P C n Q Φ H S ops (o :: rest) :=
  call_any l m hg (dyn_run ho hy hx hfn ha) hH spec hΦ hl hm fun v Φr Hr hR a w hf hw => by rw [hd]; exact next v Φr Hr hR _ w (hf.put (Nat.le_of_ble_eq_true hn) hS) hw
theorem wl_makeFunc {f : FuncId} {xs : Array Operand} {caps : List Value} (hg : wantS ops S o = some true) (hd : o.dst = some d) (hn : Nat.blt d n = true) (hS : outS d S = S') (ho : o.op = .makeFunc (.func f) #[] xs) (hx : evL S xs.toList = some caps)
    (next : WL P C n Q Φ H ((d, .func (.func f) #[] caps.toArray) :: S') ops rest) : WL P C n Q Φ H S ops (o :: rest) :=
  wl_val hg hd hn hS (fun a w hf _ => by
    have hargs : xs.map a.eval = caps.toArray := by
      have := hf.evalL hx
      have h0 : xs = xs.toList.toArray := by simp
      rw [← this, h0, List.map_toArray]
    simp [execOp, ho, Instr.makeFunc, hargs]) next
end
end Go.Proofs.YtgangmegcejllaaDoor
namespace Go.Proofs.YtgangmegcejllaaDoor
open Go.RowKit
structure ReplyD where
  err : Int
  num : Int
  facts : List FactD
  said : List V
structure SessD where
  id : Int
  seq : Int
  r : ReplyD
def ReplyD.ok (x : ReplyD) : Prop := inI x.err ∧ inI x.num
def SessD.ok (x : SessD) : Prop := inI x.id ∧ inI x.seq ∧ x.r.ok
end Go.Proofs.YtgangmegcejllaaDoor
