/- Maps whose keys are what a law of the kit reads (arrays too). No program in sight. -/
import Derived.Test.YtkakbckmajdggaaMap
import Derived.DeepKeys4
namespace Go.Proofs.Ytkakbckmajdggaa
open Go Go.RowKit
/-- How a key stands, and how it reads. -/
structure MKey (P : Program) (k : TypeId) (κ : Type) where
  enc : κ → Value
  lit : κ → Lit
  ok : κ → Prop
  law : Maps.Keyed P k
  key : ∀ i, ok i → keyOf P k (enc i) = some (lit i)
  inj : ∀ i j, enc i = enc j → i = j
section
variable {κ α : Type} {P : Program} {k e : TypeId}
theorem MKey.lit_ne (K : MKey P k κ) {i j : κ} (hi : K.ok i) (hj : K.ok j) (h : j ≠ i) : K.lit j ≠ K.lit i := fun e => h (K.inj _ _ (K.law.inj (K.key j hj) (by rw [e]; exact K.key i hi)))
def MapAtK (P : Program) (k e : TypeId) (K : MKey P k κ) (E : MElem P e α) (b m : Nat) (f : κ → Option α) (w : World) : Prop :=
  ∃ D : DataW Unit, w.ownsMap P k (plainElem P e) b m D ∧ ∀ (i : κ), K.ok i → ∀ (z : DataW Unit), D.atKey (K.lit i) z = match f i with
    | some x => .lit (E.lit x)
    | none => z
variable {K : MKey P k κ} {E : MElem P e α} {b m : Nat} {f : κ → Option α} {w w' : World}
theorem MapAtK.keep (h : MapAtK P k e K E b m f w) (hb : w'.heap[b]? = w.heap[b]?) : MapAtK P k e K E b m f w' := by
  obtain ⟨D, ⟨es, clock, h1, h2⟩, h3⟩ := h
  exact ⟨D, ⟨es, clock, hb.trans h1, h2⟩, h3⟩
def mapK (P : Program) (k e : TypeId) (K : MKey P k κ) (E : MElem P e α) (b m : Nat) (f : κ → Option α) : Fact :=
  .raw (fun N w => N b ∧ MapAtK P k e K E b m f w) (fun hF ha h => ⟨hF _ h.1, h.2.keep (ha _ h.1)⟩)
theorem MapAtK.made (K : MKey P k κ) (E : MElem P e α) (w : World) : MapAtK P k e K E w.heap.size 0 (fun _ => none) (w.alloc (.map #[] 0)) :=
  ⟨.map [], World.ownsMap_made w P k _, fun _ _ _ => rfl⟩
theorem MapAtK.update [DecidableEq κ] {t : TypeId} (h : MapAtK P k e K E b m f w) (ht : P.underlying t = some (.map k e)) (hm : m < maxLen) {i : κ} {x : α}
    (hi : K.ok i) (hx : E.ok x) : ∃ w', (Instr.mapUpdate t (.map (some b)) (K.enc i) (E.enc x)).run P w = .ok () w' ∧ MapAtK P k e K E b (m + 1) (fun j => if j = i then some x else f j) w' ∧ w.grownBy w' (some b) := by
  obtain ⟨D, h1, h2⟩ := h
  have hkey := K.key i hi
  obtain ⟨w', r1, r2, r3⟩ := h1.update K.law ht hm hkey (E.reads x hx)
  refine ⟨w', r1, ⟨_, r2, fun j hj z => ?_⟩, r3⟩
  by_cases hji : j = i
  · subst hji
    rw [Maps.atKey_put_same h1.isMap (K.law.key hkey)]
    simp
  · rw [Maps.atKey_put_other (K.lit_ne hi hj hji)]
    simp only [if_neg hji]
    exact h2 j hj z
theorem MapAtK.look {t : TypeId} (c : Bool) (h : MapAtK P k e K E b m f w) (ht : P.underlying t = some (.map k e)) {i : κ} {z : Value}
    (hi : K.ok i) (hz : tZero P e = some z) :
    (Instr.lookup t (.map (some b)) (K.enc i) c).run P w = .ok (match f i with | some x => if c then .tuple #[E.enc x, .bool true] else E.enc x | none => if c then .tuple #[z, .bool false] else z) w := by
  obtain ⟨D, ⟨es, clock, hb, F, _, rfl⟩, h2⟩ := h
  have hkey := K.key i hi
  rcases Maps.fit_look c K.law ht (tZero_run hz w) hb F hkey with ⟨hrun, _, hat⟩ | ⟨e0, y, _, _, hrun, hRv, hat, _⟩
  · cases hf : f i with
    | none => exact hrun
    | some x =>
      have e1 := (hat .nil).symm.trans (h2 i hi .nil)
      rw [hf] at e1; cases e1
  · obtain ⟨x', hx1, hx2⟩ := E.inv _ _ hRv
    cases hf : f i with
    | none =>
      have e1 := (hat .nil).symm.trans (h2 i hi .nil)
      rw [hf, hx2] at e1; cases e1
    | some x =>
      have e1 := (hat .nil).symm.trans (h2 i hi .nil)
      rw [hf, hx2] at e1
      simp only [DataW.lit.injEq] at e1
      rw [hx1, E.inj _ _ e1] at hrun
      exact hrun
theorem Holds.allocMapK {C : Ctx} {Φ H : List Fact} {w : World} (h : Holds C Φ H w) (K : MKey P k κ) (E : MElem P e α) : Holds C Φ (mapK P k e K E w.heap.size 0 (fun _ => none) :: H) (w.alloc (.map #[] 0)) := by
  obtain ⟨F, N, hi⟩ := h
  have hb : Below w.heap.size w (w.alloc (.map #[] 0)) := (Below.refl _ _).alloc (Nat.le_refl _) _
  refine ⟨F, consN (fun k => k = w.heap.size) N, (hi.grow hb).push _ _ ⟨rfl, MapAtK.made K E w⟩ ?_ ?_⟩
  · rintro k rfl
    exact ⟨by simp, .inl hi.mod.size, fun hf => Nat.lt_irrefl _ (hi.flt _ hf)⟩
  · rintro i k hl rfl hn
    exact Nat.lt_irrefl _ (hi.nlt i _ hl hn).1
end
theorem pair_key {P : Program} {k e : TypeId} {q : Nat} (hk : P.underlying k = some (.array 2 e)) (he : P.underlying e = some (.int .i64)) (hkt : P.keyType k = true) (hck : P.cellsOf k = 2) (hce : P.cellsOf e = 1) (hq : P.types.size = q + 1)
    {a b : Int} (ha : (Lit.int .i64 a).wf = true) (hb : (Lit.int .i64 b).wf = true) : keyOf P k (.agg #[.int .i64 a, .int .i64 b]) = some (.string (keyBytes [.int .i64 a, .int .i64 b])) := by
  have h1 : ∀ z : Int, (Lit.int .i64 z).wf = true → P.keyLits (q + 1) e [.int .i64 z] = some [.int .i64 z] := fun z hz => by simp [Program.keyLits, he, hz]
  have h2 : P.keyLits (q + 1 + 1) k [.int .i64 a, .int .i64 b] = some [.int .i64 a, .int .i64 b] := by
    unfold Program.keyLits
    simp only [hk]
    simp [hck, hce, List.range_succ, h1 a ha, h1 b hb]
  unfold keyOf
  rw [hq]
  simp [hk, hkt, Value.formed, hck, h2, Value.cells]
section rules
variable {κ α : Type} {P : Program} {k e : TypeId} {K : MKey P k κ} {E : MElem P e α} {f : κ → Option α} {C : Ctx} {n : Nat} {Q : Exit → Act → World → Prop} {Φ Φ' : List Fact} {H H' : List Fact} {S S' : List (Nat × Value)} {ops : Array Oper} {rest : List Oper} {o : Oper} {d : Nat}
theorem wl_makeMapK {t : Nat} (K : MKey P k κ) (E : MElem P e α) (hg : wantS ops S o = some true) (hd : o.dst = some d) (hn : Nat.blt d n = true) (hS : outS d S = S') (ho : o.op = .makeMap t none)
    (next : ∀ g, WL P C n Q Φ (mapK P k e K E g 0 (fun _ => none) :: H) ((d, .map (some g)) :: S') ops rest) : WL P C n Q Φ H S ops (o :: rest) :=
  wl_run hg hd hn hS fun a w hf hw => ⟨_, _, (by simp [execOp, ho, run_makeMap]), _, _, hw.allocMapK K E, next _⟩
theorem wl_mapUpdateK [DecidableEq κ] {t b m : Nat} {x y z : Operand} {i : κ} {u : α} (j : Nat) (hg : wantS ops S o = some true) (hd : o.dst = none) (ho : o.op = .mapUpdate t x y z)
    (hφ : H[j]? = some (mapK P k e K E b m f)) (hx : evS S x = some (.map (some b))) (hy : evS S y = some (K.enc i)) (hz : evS S z = some (E.enc u)) (ht : P.underlying t = some (.map k e))
    (hm : m < 9223372036854775807) (hi : K.ok i) (hu : E.ok u) (hH : H.set j (mapK P k e K E b (m + 1) (fun q => if q = i then some u else f q)) = H') (next : WL P C n Q Φ H' S ops rest) : WL P C n Q Φ H S ops (o :: rest) := by
  refine wl_do (Φ' := Φ) hg hd (fun a w hf hw => ?_) next
  obtain ⟨F, N, hi'⟩ := hw
  have hlt := (List.getElem?_eq_some_iff.1 hφ).1
  obtain ⟨hn1, hop⟩ := hi'.owns j _ hφ
  obtain ⟨w', r1, r2, r3⟩ := hop.update ht (by unfold maxLen; omega) hi hu
  refine ⟨w', by simp [execOp, ho, hf.eval hx, hf.eval hy, hf.eval hz, r1], ?_⟩
  subst hH
  have hmod : Mod (N j) w w' := ⟨r3.os, r3.tape, r3.output, r3.size, fun q hq hn => r3.block q hq (fun e => hn (by cases e; exact hn1))⟩
  exact ⟨F, N, hi'.set j hlt hmod _ ⟨hn1, r2⟩⟩
theorem wl_lookupK {t b m : Nat} {x y : Operand} {i : κ} {z v : Value} {c : Bool} (j : Nat) (hg : wantS ops S o = some true) (hd : o.dst = some d) (hn : Nat.blt d n = true) (hS : outS d S = S') (ho : o.op = .lookup t x y c)
    (hφ : H[j]? = some (mapK P k e K E b m f)) (hx : evS S x = some (.map (some b))) (hy : evS S y = some (K.enc i)) (hz : tZero P e = some z) (ht : P.underlying t = some (.map k e)) (hi : K.ok i)
    (hv : (match f i with | some x => if c then .tuple #[E.enc x, .bool true] else E.enc x | none => if c then .tuple #[z, .bool false] else z) = v) (next : WL P C n Q Φ H ((d, v) :: S') ops rest) : WL P C n Q Φ H S ops (o :: rest) := by
  refine wl_val hg hd hn hS (fun a w hf hw => ?_) next
  obtain ⟨F, N, hi'⟩ := hw
  have := (hi'.owns j _ hφ).2.look c ht hi hz
  rw [hv] at this
  simp [execOp, ho, hf.eval hx, hf.eval hy, this]
end rules
end Go.Proofs.Ytkakbckmajdggaa
