import Derived.Test.YtegkmbkbaenkcaaGreatLend
import Derived.Maps.Own
import Derived.Maps.OwnSet
import Derived.Maps.Views
namespace Go.Proofs.YtegkmbkbaenkcaaGreat
open Go.RowKit
structure MElem (P : Program) (e : TypeId) (α : Type) where
  enc : α → Value
  lit : α → Lit
  ok : α → Prop
  reads : ∀ x, ok x → plainElem (H := Unit) P e (enc x) = some (.lit (lit x), [])
  inv : ∀ v z, plainElem (H := Unit) P e v = some z → ∃ x, v = enc x ∧ z.1 = .lit (lit x)
  inj : ∀ x y, lit x = lit y → x = y
def MapAt {α : Type} (P : Program) (k e : TypeId) (E : MElem P e α) (b m : Nat) (f : Int → Option α) (w : World) : Prop :=
  ∃ D : DataW Unit, w.ownsMap P k (plainElem P e) b m D ∧ ∀ (i : Int) (z : DataW Unit), D.atKey (.int .i64 i) z = match f i with
    | some x => .lit (E.lit x)
    | none => z
theorem MapAt.keep {α : Type} {P : Program} {k e : TypeId} {E : MElem P e α} {b m : Nat} {f : Int → Option α} {w w' : World} (h : MapAt P k e E b m f w) (hb : w'.heap[b]? = w.heap[b]?) : MapAt P k e E b m f w' := by
  obtain ⟨D, ⟨es, clock, h1, h2⟩, h3⟩ := h
  exact ⟨D, ⟨es, clock, hb.trans h1, h2⟩, h3⟩
theorem MapAt.look {α : Type} {P : Program} {k e t : TypeId} {E : MElem P e α} {b m : Nat} {f : Int → Option α} {w : World} (c : Bool) (h : MapAt P k e E b m f w) (hk : P.underlying k = some (.int .i64)) (ht : P.underlying t = some (.map k e)) {i : Int} {z : Value}
    (hi : (Lit.int .i64 i).wf = true) (hz : tZero P e = some z) :
    (Instr.lookup t (.map (some b)) (.int .i64 i) c).run P w = .ok (match f i with | some x => if c then .tuple #[E.enc x, .bool true] else E.enc x | none => if c then .tuple #[z, .bool false] else z) w := by
  obtain ⟨D, ⟨es, clock, hb, F, _, rfl⟩, h2⟩ := h
  have hkey : keyOf P k (.int .i64 i) = some (.int .i64 i) := by simp [keyOf, hk, mapKey, hi]
  rcases Maps.fit_look c (Maps.int_keyed hk) ht (tZero_run hz w) hb F hkey with ⟨hrun, _, hat⟩ | ⟨e0, y, _, _, hrun, hRv, hat, _⟩
  · cases hf : f i with
    | none => exact hrun
    | some x =>
      have e1 := (hat .nil).symm.trans (h2 i .nil)
      rw [hf] at e1; cases e1
  · obtain ⟨x', hx1, hx2⟩ := E.inv _ _ hRv
    cases hf : f i with
    | none =>
      have e1 := (hat .nil).symm.trans (h2 i .nil)
      rw [hf, hx2] at e1; cases e1
    | some x =>
      have e1 := (hat .nil).symm.trans (h2 i .nil)
      rw [hf, hx2] at e1
      simp only [DataW.lit.injEq] at e1
      rw [hx1, E.inj _ _ e1] at hrun
      exact hrun
theorem inI_wf {i : Int} (hi : inI i) : (Lit.int .i64 i).wf = true := by
  have h1 := hi.1; have h2 := hi.2
  have e1 : IntKind.min .i64 = -9223372036854775808 := by decide
  have e2 : IntKind.max .i64 = 9223372036854775807 := by decide
  simp only [Lit.wf, e1, e2, Bool.and_eq_true, decide_eq_true_eq]
  exact ⟨h1, h2⟩
section rules
variable {P : Program} {C : Ctx} {n : Nat} {Q : Exit → Act → World → Prop} {Φ Φ' : List Fact} {H H' : List Fact} {S S' : List (Nat × Value)} {ops : Array Oper} {rest : List Oper} {o : Oper} {d : Nat}
theorem wl_sliceTo {t e sz c m h : Nat} {x y : Operand} {p : Option Addr} {z : Int} (hg : wantS ops S o = some true) (hd : o.dst = some d) (hn : Nat.blt d n = true) (hS : outS d S = S') (ho : o.op = .slice t x none (some y) none)
    (hx : evS S x = some (.slice p m c)) (hy : evS S y = some (.int .i64 z)) (hz : z = (h : Int)) (ht : tElem P t = some e) (hs : tSize P e = some sz) (hc : h ≤ c) (hp : ∀ a, p = some a → a.spot = none)
    (next : WL P C n Q Φ H ((d, .slice p h c) :: S') ops rest) : WL P C n Q Φ H S ops (o :: rest) := by
  subst hz
  refine wl_val hg hd hn hS (fun a w hf hw => ?_) next
  have hadd : (if c = 0 then p else p.map (·.add (0 * sz))) = p := by
    split
    · rfl
    · cases p with
      | none => rfl
      | some q => 
        rcases q with ⟨b, o, s⟩
        have := hp _ rfl
        simp only at this
        subst this
        simp [addr_add]
  simp [execOp, ho, hf.eval hx, hf.eval hy, Instr.sliceAt, Instr.slice, run_underlying (tElem_run ht), Instr.sliceBounds, Instr.sliceBound, asIntOf, hc, tSize_run hs]
  intro h0
  rw [if_neg h0] at hadd
  simpa using hadd
theorem wl_ownSpot {α : Type} {e sz m : Nat} {R : Rep α} {p : Option Addr} {cp : Nat} {l : List α} {rest : List Oper} (k : Nat) (hφ : H[k]? = some (.own e sz R (.slice p m cp) l)) (next : (∀ a, p = some a → a.spot = none) → m ≤ cp ∧ m = l.length → WL P C n Q Φ H S ops rest) : WL P C n Q Φ H S ops rest := by
  intro a w hf hw
  obtain ⟨F, N, hi⟩ := hw
  have h1 := hi.owns k _ hφ
  obtain ⟨h2, h3⟩ := h1
  have hm := h3.len
  refine next ?_ ?_ a w hf ⟨F, N, hi⟩
  · obtain ⟨xs, ho, hch⟩ := h3
    rcases ho.2 with ⟨h0, h00⟩ | ⟨g, cap, cur, hv, _⟩
    · cases h0; intro a ha; cases ha
    · cases hv; intro a ha; cases ha; rfl
  · refine ⟨?_, hm⟩
    obtain ⟨xs, ho, hch⟩ := h3
    rcases ho.2 with ⟨h0, h00⟩ | ⟨g, cap, cur, hv, _, hg, hnc, _⟩
    · cases h0; exact Nat.le_refl _
    · cases hv; exact hnc
end rules
end Go.Proofs.YtegkmbkbaenkcaaGreat
