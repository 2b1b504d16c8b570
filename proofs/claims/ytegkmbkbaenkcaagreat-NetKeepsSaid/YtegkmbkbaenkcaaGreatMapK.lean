import Derived.Test.YtegkmbkbaenkcaaGreatMap
import Derived.DeepKeys4
namespace Go.Proofs.YtegkmbkbaenkcaaGreat
open Go Go.RowKit
structure MKey (P : Program) (k : TypeId) (κ : Type) where
  enc : κ → Value
  lit : κ → Lit
  ok : κ → Prop
  law : Maps.Keyed P k
  key : ∀ i, ok i → keyOf P k (enc i) = some (lit i)
  inj : ∀ i j, enc i = enc j → i = j
section
variable {κ α : Type} {P : Program} {k e : TypeId}
def MapAtK (P : Program) (k e : TypeId) (K : MKey P k κ) (E : MElem P e α) (b m : Nat) (f : κ → Option α) (w : World) : Prop :=
  ∃ D : DataW Unit, w.ownsMap P k (plainElem P e) b m D ∧ ∀ (i : κ), K.ok i → ∀ (z : DataW Unit), D.atKey (K.lit i) z = match f i with
    | some x => .lit (E.lit x)
    | none => z
variable {K : MKey P k κ} {E : MElem P e α} {b m : Nat} {f : κ → Option α} {w w' : World}
theorem MapAtK.keep (h : MapAtK P k e K E b m f w) (hb : w'.heap[b]? = w.heap[b]?) : MapAtK P k e K E b m f w' := by
  obtain ⟨D, ⟨es, clock, h1, h2⟩, h3⟩ := h
  exact ⟨D, ⟨es, clock, hb.trans h1, h2⟩, h3⟩
theorem MapAtK.look {t : TypeId} (c : Bool) (h : MapAtK P k e K E b m f w) (ht : P.underlying t = some (.map k e)) {i : κ} {z : Value}
    (hi : K.ok i) (hz : tZero P e = some z) :
    (Instr.lookup t (.map (some b)) (K.enc i) c).run P w = .ok (match f i with | some x => if c then .tuple #[E.enc x, .bool true] else E.enc x | none => if c then .tuple #[z, .bool false] else z) w := by
  obtain ⟨D, ⟨es, clock, hb, F, _, rfl⟩, h2⟩ := h
  have hkey := K.key i hi
  rcases Maps.fit_look c K.law ht (tZero_run hz w) hb F hkey with ⟨hrun, _, hat⟩ | ⟨e0, y, _, _, hrun, hRv, hat, _⟩
  · cases hf : f i with
    | none => exact hrun
    | some x =>
      have e1 := (hat .nil).symm.trans (h2 i hi .nil)
      rw [hf] at e1; cases e1
  · obtain ⟨x', hx1, hx2⟩ := E.inv _ _ hRv
    cases hf : f i with
    | none =>
      have e1 := (hat .nil).symm.trans (h2 i hi .nil)
      rw [hf, hx2] at e1; cases e1
    | some x =>
      have e1 := (hat .nil).symm.trans (h2 i hi .nil)
      rw [hf, hx2] at e1
      simp only [DataW.lit.injEq] at e1
      rw [hx1, E.inj _ _ e1] at hrun
      exact hrun
end
theorem pair_key {P : Program} {k e : TypeId} {q : Nat} (hk : P.underlying k = some (.array 2 e)) (he : P.underlying e = some (.int .i64)) (hkt : P.keyType k = true) (hck : P.cellsOf k = 2) (hce : P.cellsOf e = 1) (hq : P.types.size = q + 1)
    {a b : Int} (ha : (Lit.int .i64 a).wf = true) (hb : (Lit.int .i64 b).wf = true) : keyOf P k (.agg #[.int .i64 a, .int .i64 b]) = some (.string (keyBytes [.int .i64 a, .int .i64 b])) := by
  have h1 : ∀ z : Int, (Lit.int .i64 z).wf = true → P.keyLits (q + 1) e [.int .i64 z] = some [.int .i64 z] := fun z hz => by simp [Program.keyLits, he, hz]
  have h2 : P.keyLits (q + 1 + 1) k [.int .i64 a, .int .i64 b] = some [.int .i64 a, .int .i64 b] := by
    unfold Program.keyLits
    simp only [hk]
    simp [hck, hce, List.range_succ, h1 a ha, h1 b hb]
  unfold keyOf
  rw [hq]
  simp [hk, hkt, Value.formed, hck, h2, Value.cells]
end Go.Proofs.YtegkmbkbaenkcaaGreat
