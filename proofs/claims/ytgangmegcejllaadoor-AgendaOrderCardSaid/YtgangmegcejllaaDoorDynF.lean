import Derived.Test.YtgangmegcejllaaDoorEqA
import Derived.Test.YtgangmegcejllaaDoorStr
import Derived.Test.YtgangmegcejllaaDoorSess
import Derived.DeepKeys4
import Derived.Test.YtgangmegcejllaaDoorAuto
import Derived.Test.YtgangmegcejllaaDoorTree
namespace Go.Proofs.YtgangmegcejllaaDoor
theorem tI_3 : tInt Tryd.prog 3 = some .i64 := by kernel_rfl
theorem tI_5 : tInt Tryd.prog 5 = some .u8 := by kernel_rfl
theorem tT_9 : tStr Tryd.prog 9 = true := by kernel_rfl
theorem tQ_35 : tPtr Tryd.prog 35 = some 57 := by kernel_rfl
theorem tI_72 : tInt Tryd.prog 72 = some .u64 := by kernel_rfl
theorem tI_86 : tInt Tryd.prog 86 = some .u64 := by kernel_rfl
theorem tI_89 : tInt Tryd.prog 89 = some .u64 := by kernel_rfl
end Go.Proofs.YtgangmegcejllaaDoor
namespace Go.Proofs.YtgangmegcejllaaDoor
open Go Go.RowKit
structure MKey (P : Program) (k : TypeId) (κ : Type) where
  enc : κ → Value
  lit : κ → Lit
  ok : κ → Prop
  law : Maps.Keyed P k
  key : ∀ i, ok i → keyOf P k (enc i) = some (lit i)
  inj : ∀ i j, enc i = enc j → i = j
section
variable {κ α : Type} {P : Program} {k e : TypeId}
def MapAtK (P : Program) (k e : TypeId) (K : MKey P k κ) (E : MElem P e α) (b m : Nat) (f : κ → Option α) (w : World) : Prop :=
  ∃ D : DataW Unit, w.ownsMap P k (plainElem P e) b m D ∧ ∀ (i : κ), K.ok i → ∀ (z : DataW Unit), D.atKey (K.lit i) z = match f i with
    | some x => .lit (E.lit x)
    | none => z
variable {K : MKey P k κ} {E : MElem P e α} {b m : Nat} {f : κ → Option α} {w w' : World}
theorem MapAtK.keep (h : MapAtK P k e K E b m f w) (hb : w'.heap[b]? = w.heap[b]?) : MapAtK P k e K E b m f w' := by
  obtain ⟨D, ⟨es, clock, h1, h2⟩, h3⟩ := h
  exact ⟨D, ⟨es, clock, hb.trans h1, h2⟩, h3⟩
theorem MapAtK.look {t : TypeId} (c : Bool) (h : MapAtK P k e K E b m f w) (ht : P.underlying t = some (.map k e)) {i : κ} {z : Value}
    (hi : K.ok i) (hz : tZero P e = some z) :
    (Instr.lookup t (.map (some b)) (K.enc i) c).run P w = .ok (match f i with | some x => if c then .tuple #[E.enc x, .bool true] else E.enc x | none => if c then .tuple #[z, .bool false] else z) w := by
  obtain ⟨D, ⟨es, clock, hb, F, _, rfl⟩, h2⟩ := h
  have hkey := K.key i hi
  rcases Maps.fit_look c K.law ht (tZero_run hz w) hb F hkey with ⟨hrun, _, hat⟩ | ⟨e0, y, _, _, hrun, hRv, hat, _⟩
  · cases hf : f i with
    | none => exact hrun
    | some x =>
      have e1 := (hat .nil).symm.trans (h2 i hi .nil)
      rw [hf] at e1; cases e1
  · obtain ⟨x', hx1, hx2⟩ := E.inv _ _ hRv
    cases hf : f i with
    | none =>
      have e1 := (hat .nil).symm.trans (h2 i hi .nil)
      rw [hf, hx2] at e1; cases e1
    | some x =>
      have e1 := (hat .nil).symm.trans (h2 i hi .nil)
      rw [hf, hx2] at e1
      simp only [DataW.lit.injEq] at e1
      rw [hx1, E.inj _ _ e1] at hrun
      exact hrun
end
end Go.Proofs.YtgangmegcejllaaDoor
namespace Go.Proofs.YtgangmegcejllaaDoor
open Go.RowKit
section
variable {P : Program} {C : Ctx} {n : Nat} {Q : Exit → Act → World → Prop} {Φ Φ' : List Fact} {H H' : List Fact} {S S' : List (Nat × Value)} {ops : Array Oper} {rest : List Oper} {o : Oper} {d : Nat}
theorem dyn_runF {f : FuncId} {y : Operand} {xs : Array Operand} {ts : Array TypeId} {args0 args : List Value} {fst caps : Array Value} (ho : o.op = .call { callee := .value y, args := xs, argTypes := ts }) (hy : evS S y = some (.func (.func f) fst caps)) (hx : evL S xs.toList = some args0)
    (hfn : isFn P f = true) (ha : fst.toList ++ args0 ++ caps.toList = args) : ∀ a w, Frm n S a → (execOp a.eval o).run P w = .ok (.enter f args.toArray) w := by
  intro a w hf
  have hargs : xs.map a.eval = args0.toArray := by
    have := hf.evalL hx
    have h0 : xs = xs.toList.toArray := by simp
    rw [← this, h0, List.map_toArray]
  have h2 : (resolve a.eval { callee := .value y, args := xs, argTypes := ts } o.type).run P w = .ok { target := .fn (.func f) caps, args := fst ++ args0.toArray } w := by
    simp [resolve, hf.eval hy, Deferred.ofValue, hargs]
  have h3 : fst ++ args0.toArray ++ caps = args.toArray := by rw [← ha]; simp
  unfold execOp
  simp only [ho, Sem.run_bind, h2, Result.andThen_ok]
  simp only [invoke, isFn_run hfn, h3]
theorem wl_callDynF {f : FuncId} {y : Operand} {xs : Array Operand} {ts : Array TypeId} {args0 args : List Value} {fst caps : Array Value} {Φf Hf : List Fact} {R : Value → List Fact → List Fact → Prop} (l m : List Nat) (hg : wantS ops S o = some true) (hd : o.dst = some d) (hn : Nat.blt d n = true) (hS : outS d S = S')
    (ho : o.op = .call { callee := .value y, args := xs, argTypes := ts }) (hy : evS S y = some (.func (.func f) fst caps)) (hx : evL S xs.toList = some args0) (hfn : isFn P f = true) (ha : fst.toList ++ args0 ++ caps.toList = args)
    (hH : pickH H l = Hf) (spec : Spec P f args Φf Hf R) (hΦ : ∀ F w, (∀ ψ ∈ Φ, ψ.p F w) → ∀ φ ∈ Φf, φ.p F w) (hl : okIdx (l ++ m) H.length = true) (hm : pickH H m = H')
    (next : ∀ v Φr Hr, R v Φr Hr → WL P C n Q (Φr ++ Φ) (Hr ++ H') ((d, v) :: S') ops rest) : WL P C n Q Φ H S ops (o :: rest) :=
  call_any l m hg (dyn_runF ho hy hx hfn ha) hH spec hΦ hl hm fun v Φr Hr hR a w hf hw => by rw [hd]; exact next v Φr Hr hR _ w (hf.put (Nat.le_of_ble_eq_true hn) hS) hw
theorem wl_makeFuncF {f : FuncId} {ys xs : Array Operand} {fst caps : List Value} (hg : wantS ops S o = some true) (hd : o.dst = some d) (hn : Nat.blt d n = true) (hS : outS d S = S') (ho : o.op = .makeFunc (.func f) ys xs) (hy : evL S ys.toList = some fst) (hx : evL S xs.toList = some caps)
    (next : WL P C n Q Φ H ((d, .func (.func f) fst.toArray caps.toArray) :: S') ops rest) : WL P C n Q Φ H S ops (o :: rest) :=
  wl_val hg hd hn hS (fun a w hf _ => by
    have hargs : ∀ {zs : Array Operand} {cs : List Value}, evL S zs.toList = some cs → zs.map a.eval = cs.toArray := by
      intro zs cs hz
      have := hf.evalL hz
      have h0 : zs = zs.toList.toArray := by simp
      rw [← this, h0, List.map_toArray]
    simp [execOp, ho, Instr.makeFunc, hargs hx, hargs hy]) next
theorem wl_nn {α : Type} {e sz : Nat} {R : Rep α} {p : Option Addr} {m c : Nat} {l : List α} (k : Nat) (hk : H[k]? = some (.own e sz R (.slice p m c) l)) (hl : 0 < l.length) (next : ∀ u, p = some u → WL P C n Q Φ H S ops rest) : WL P C n Q Φ H S ops rest := by
  intro a w hf ⟨F, N, hi⟩
  obtain ⟨xs, ho, _⟩ := (hi.owns k _ hk).2
  rcases ho.2 with ⟨_, h1⟩ | ⟨g, cap, cur, hv, _⟩
  · omega
  · cases hv; exact next _ rfl a w hf ⟨F, N, hi⟩
theorem wx_treeLen {lights L : List Nat} {D : List (Nat × Fact)} {α Λ : Type} {T : Tre α Λ} {et sz : Nat} {xs : List α} {p : Option Addr} {m cp : Nat} (j : Nat) (hj : H[j]? = some (treeF T et sz (.slice p m cp) xs)) (next : m = xs.length → (0 < xs.length → ∃ g, p = some ⟨g, 0, none⟩) → WX P C n Q ops lights L D Φ H S) : WX P C n Q ops lights L D Φ H S :=
  fun listed a av w hr => next (hr.holds.treeLen j hj).1 (hr.holds.treeLen j hj).2 listed a av w hr
end
end Go.Proofs.YtgangmegcejllaaDoor
