/- Maps whose keys are ints, slices cut short, and states of a drawn region that more ways than one lead to. No program in sight. -/
import Derived.Test.YtkakbckmajdggaaLend
import Derived.Maps.Own
import Derived.Maps.OwnSet
import Derived.Maps.Views
namespace Go.Proofs.Ytkakbckmajdggaa
open Go.RowKit

/-! A map. -/
/-- How an element of a map stands, and how it reads. -/
structure MElem (P : Program) (e : TypeId) (α : Type) where
  enc : α → Value
  lit : α → Lit
  ok : α → Prop
  reads : ∀ x, ok x → plainElem (H := Unit) P e (enc x) = some (.lit (lit x), [])
  inv : ∀ v z, plainElem (H := Unit) P e v = some z → ∃ x, v = enc x ∧ z.1 = .lit (lit x)
  inj : ∀ x y, lit x = lit y → x = y
def mInt {P : Program} {e : TypeId} (he : P.underlying e = some (.int .i64)) : MElem P e Int :=
  ⟨fun x => .int .i64 x, fun x => .int .i64 x, fun x => (Lit.int .i64 x).wf = true, fun x h => plainElem_int he h, fun v z h => by
    obtain ⟨a, h1, h2, _⟩ := plainElem_int_inv he h
    exact ⟨a, h1, by rw [h2]⟩, fun x y h => by cases h; rfl⟩
def mBool {P : Program} {e : TypeId} (he : P.underlying e = some .bool) : MElem P e Bool :=
  ⟨fun x => .bool x, fun x => .bool x, fun _ => True, fun x _ => plainElem_bool he x, fun v z h => by
    unfold plainElem at h
    rw [he] at h
    cases v <;> simp at h
    exact ⟨_, rfl, by rw [← h]⟩, fun x y h => by cases h; rfl⟩
def MapAt {α : Type} (P : Program) (k e : TypeId) (E : MElem P e α) (b m : Nat) (f : Int → Option α) (w : World) : Prop :=
  ∃ D : DataW Unit, w.ownsMap P k (plainElem P e) b m D ∧ ∀ (i : Int) (z : DataW Unit), D.atKey (.int .i64 i) z = match f i with
    | some x => .lit (E.lit x)
    | none => z
theorem MapAt.keep {α : Type} {P : Program} {k e : TypeId} {E : MElem P e α} {b m : Nat} {f : Int → Option α} {w w' : World} (h : MapAt P k e E b m f w) (hb : w'.heap[b]? = w.heap[b]?) : MapAt P k e E b m f w' := by
  obtain ⟨D, ⟨es, clock, h1, h2⟩, h3⟩ := h
  exact ⟨D, ⟨es, clock, hb.trans h1, h2⟩, h3⟩
def mapF {α : Type} (P : Program) (k e : TypeId) (E : MElem P e α) (b m : Nat) (f : Int → Option α) : Fact :=
  .raw (fun N w => N b ∧ MapAt P k e E b m f w) (fun hF ha h => ⟨hF _ h.1, h.2.keep (ha _ h.1)⟩)
theorem MapAt.made {α : Type} (P : Program) (k e : TypeId) (E : MElem P e α) (w : World) : MapAt P k e E w.heap.size 0 (fun _ => none) (w.alloc (.map #[] 0)) :=
  ⟨.map [], World.ownsMap_made w P k _, fun i z => rfl⟩
theorem MapAt.update {α : Type} {P : Program} {k e t : TypeId} {E : MElem P e α} {b m : Nat} {f : Int → Option α} {w : World} (h : MapAt P k e E b m f w) (hk : P.underlying k = some (.int .i64)) (ht : P.underlying t = some (.map k e)) (hm : m < maxLen) {i : Int} {x : α}
    (hi : (Lit.int .i64 i).wf = true) (hx : E.ok x) : ∃ w', (Instr.mapUpdate t (.map (some b)) (.int .i64 i) (E.enc x)).run P w = .ok () w' ∧ MapAt P k e E b (m + 1) (fun j => if j = i then some x else f j) w' ∧ w.grownBy w' (some b) := by
  obtain ⟨D, h1, h2⟩ := h
  have hkey : keyOf P k (.int .i64 i) = some (.int .i64 i) := by simp [keyOf, hk, mapKey, hi]
  obtain ⟨w', r1, r2, r3⟩ := h1.update (Maps.int_keyed hk) ht hm hkey (E.reads x hx)
  refine ⟨w', r1, ⟨_, r2, fun j z => ?_⟩, r3⟩
  by_cases hj : j = i
  · subst hj
    rw [Maps.atKey_put_same h1.isMap ((Maps.int_keyed hk).key hkey)]
    simp
  · rw [Maps.atKey_put_other (by simp [hj])]
    simp only [if_neg hj]
    exact h2 j z
theorem MapAt.look {α : Type} {P : Program} {k e t : TypeId} {E : MElem P e α} {b m : Nat} {f : Int → Option α} {w : World} (c : Bool) (h : MapAt P k e E b m f w) (hk : P.underlying k = some (.int .i64)) (ht : P.underlying t = some (.map k e)) {i : Int} {z : Value}
    (hi : (Lit.int .i64 i).wf = true) (hz : tZero P e = some z) :
    (Instr.lookup t (.map (some b)) (.int .i64 i) c).run P w = .ok (match f i with | some x => if c then .tuple #[E.enc x, .bool true] else E.enc x | none => if c then .tuple #[z, .bool false] else z) w := by
  obtain ⟨D, ⟨es, clock, hb, F, _, rfl⟩, h2⟩ := h
  have hkey : keyOf P k (.int .i64 i) = some (.int .i64 i) := by simp [keyOf, hk, mapKey, hi]
  rcases Maps.fit_look c (Maps.int_keyed hk) ht (tZero_run hz w) hb F hkey with ⟨hrun, _, hat⟩ | ⟨e0, y, _, _, hrun, hRv, hat, _⟩
  · cases hf : f i with
    | none => exact hrun
    | some x =>
      have e1 := (hat .nil).symm.trans (h2 i .nil)
      rw [hf] at e1; cases e1
  · obtain ⟨x', hx1, hx2⟩ := E.inv _ _ hRv
    cases hf : f i with
    | none =>
      have e1 := (hat .nil).symm.trans (h2 i .nil)
      rw [hf, hx2] at e1; cases e1
    | some x =>
      have e1 := (hat .nil).symm.trans (h2 i .nil)
      rw [hf, hx2] at e1
      simp only [DataW.lit.injEq] at e1
      rw [hx1, E.inj _ _ e1] at hrun
      exact hrun
theorem inI_wf {i : Int} (hi : inI i) : (Lit.int .i64 i).wf = true := by
  have h1 := hi.1; have h2 := hi.2
  have e1 : IntKind.min .i64 = -9223372036854775808 := by decide
  have e2 : IntKind.max .i64 = 9223372036854775807 := by decide
  simp only [Lit.wf, e1, e2, Bool.and_eq_true, decide_eq_true_eq]
  exact ⟨h1, h2⟩
theorem Holds.allocMap {α : Type} {C : Ctx} {Φ H : List Fact} {w : World} (h : Holds C Φ H w) (P : Program) (k e : TypeId) (E : MElem P e α) : Holds C Φ (mapF P k e E w.heap.size 0 (fun _ => none) :: H) (w.alloc (.map #[] 0)) := by
  obtain ⟨F, N, hi⟩ := h
  have hb : Below w.heap.size w (w.alloc (.map #[] 0)) := (Below.refl _ _).alloc (Nat.le_refl _) _
  refine ⟨F, consN (fun k => k = w.heap.size) N, (hi.grow hb).push _ _ ⟨rfl, MapAt.made P k e E w⟩ ?_ ?_⟩
  · rintro k rfl
    exact ⟨by simp, .inl hi.mod.size, fun hf => Nat.lt_irrefl _ (hi.flt _ hf)⟩
  · rintro i k hl rfl hn
    exact Nat.lt_irrefl _ (hi.nlt i _ hl hn).1

section rules
variable {P : Program} {C : Ctx} {n : Nat} {Q : Exit → Act → World → Prop} {Φ Φ' : List Fact} {H H' : List Fact} {S S' : List (Nat × Value)} {ops : Array Oper} {rest : List Oper} {o : Oper} {d : Nat}
theorem wl_makeMap {α : Type} {t : Nat} (k e : TypeId) (E : MElem P e α) (hg : wantS ops S o = some true) (hd : o.dst = some d) (hn : Nat.blt d n = true) (hS : outS d S = S') (ho : o.op = .makeMap t none)
    (next : ∀ g, WL P C n Q Φ (mapF P k e E g 0 (fun _ => none) :: H) ((d, .map (some g)) :: S') ops rest) : WL P C n Q Φ H S ops (o :: rest) :=
  wl_run hg hd hn hS fun a w hf hw => ⟨_, _, (by simp [execOp, ho, run_makeMap]), _, _, hw.allocMap P k e E, next _⟩
theorem wl_mapUpdate {α : Type} {t k e b m : Nat} {E : MElem P e α} {f : Int → Option α} {x y z : Operand} {i : Int} {u : α} (j : Nat) (hg : wantS ops S o = some true) (hd : o.dst = none) (ho : o.op = .mapUpdate t x y z)
    (hφ : H[j]? = some (mapF P k e E b m f)) (hx : evS S x = some (.map (some b))) (hy : evS S y = some (.int .i64 i)) (hz : evS S z = some (E.enc u)) (hk : P.underlying k = some (.int .i64)) (ht : P.underlying t = some (.map k e))
    (hm : m < 9223372036854775807) (hi : inI i) (hu : E.ok u) (hH : H.set j (mapF P k e E b (m + 1) (fun q => if q = i then some u else f q)) = H') (next : WL P C n Q Φ H' S ops rest) : WL P C n Q Φ H S ops (o :: rest) := by
  have hwf := inI_wf hi
  refine wl_do (Φ' := Φ) hg hd (fun a w hf hw => ?_) next
  obtain ⟨F, N, hi⟩ := hw
  have hlt := (List.getElem?_eq_some_iff.1 hφ).1
  obtain ⟨hn1, hop⟩ := hi.owns j _ hφ
  obtain ⟨w', r1, r2, r3⟩ := hop.update hk ht (by unfold maxLen; omega) hwf hu
  refine ⟨w', by simp [execOp, ho, hf.eval hx, hf.eval hy, hf.eval hz, r1], ?_⟩
  subst hH
  have hmod : Mod (N j) w w' := ⟨r3.os, r3.tape, r3.output, r3.size, fun q hq hn => r3.block q hq (fun e => hn (by cases e; exact hn1))⟩
  exact ⟨F, N, hi.set j hlt hmod _ ⟨hn1, r2⟩⟩
theorem wl_lookup {α : Type} {t k e b m : Nat} {E : MElem P e α} {f : Int → Option α} {x y : Operand} {i : Int} {z v : Value} {c : Bool} (j : Nat) (hg : wantS ops S o = some true) (hd : o.dst = some d) (hn : Nat.blt d n = true) (hS : outS d S = S') (ho : o.op = .lookup t x y c)
    (hφ : H[j]? = some (mapF P k e E b m f)) (hx : evS S x = some (.map (some b))) (hy : evS S y = some (.int .i64 i)) (hz : tZero P e = some z) (hk : P.underlying k = some (.int .i64)) (ht : P.underlying t = some (.map k e)) (hi : inI i)
    (hv : (match f i with | some x => if c then .tuple #[E.enc x, .bool true] else E.enc x | none => if c then .tuple #[z, .bool false] else z) = v) (next : WL P C n Q Φ H ((d, v) :: S') ops rest) : WL P C n Q Φ H S ops (o :: rest) := by
  have hwf := inI_wf hi
  refine wl_val hg hd hn hS (fun a w hf hw => ?_) next
  obtain ⟨F, N, hi⟩ := hw
  have := (hi.owns j _ hφ).2.look c hk ht hwf hz
  rw [hv] at this
  simp [execOp, ho, hf.eval hx, hf.eval hy, this]
/-- Is the key there? -/
theorem wl_keyed {α : Type} {f : Int → Option α} (i : Int) (h0 : f i = none → WL P C n Q Φ H S ops rest) (h1 : ∀ x, f i = some x → WL P C n Q Φ H S ops rest) : WL P C n Q Φ H S ops rest := by
  cases h : f i with
  | none => exact h0 h
  | some x => exact h1 x h
/-- A slice's first places. -/
theorem wl_sliceTo {t e sz c m h : Nat} {x y : Operand} {p : Option Addr} {z : Int} (hg : wantS ops S o = some true) (hd : o.dst = some d) (hn : Nat.blt d n = true) (hS : outS d S = S') (ho : o.op = .slice t x none (some y) none)
    (hx : evS S x = some (.slice p m c)) (hy : evS S y = some (.int .i64 z)) (hz : z = (h : Int)) (ht : tElem P t = some e) (hs : tSize P e = some sz) (hc : h ≤ c) (hp : ∀ a, p = some a → a.spot = none)
    (next : WL P C n Q Φ H ((d, .slice p h c) :: S') ops rest) : WL P C n Q Φ H S ops (o :: rest) := by
  subst hz
  refine wl_val hg hd hn hS (fun a w hf hw => ?_) next
  have hadd : (if c = 0 then p else p.map (·.add (0 * sz))) = p := by
    split
    · rfl
    · cases p with
      | none => rfl
      | some q => 
        rcases q with ⟨b, o, s⟩
        have := hp _ rfl
        simp only at this
        subst this
        simp [addr_add]
  simp [execOp, ho, hf.eval hx, hf.eval hy, Instr.sliceAt, Instr.slice, run_underlying (tElem_run ht), Instr.sliceBounds, Instr.sliceBound, asIntOf, hc, tSize_run hs]
  intro h0
  rw [if_neg h0] at hadd
  simpa using hadd
/-- An owned row's first elements, lent. -/
theorem own_take {α : Type} {e sz m c : Nat} {R : Rep α} {p : Option Addr} {l : List α} {F : Foot} {w : World} (h : (Fact.own e sz R (.slice p m c) l).p F w) (k : Nat) : (Fact.sli sz R p c (l.take k)).p F w := by
  obtain ⟨p', n', c', xs, e1, e2, h1, h2, h3, h4⟩ := own_sli h
  cases e1
  refine ⟨p, _, c, xs.take (k * sz), rfl, rfl, by simp only [List.length_take]; omega, h2, h3.take k, fun h0 => ?_⟩
  obtain ⟨b, o, e3, h5, h6⟩ := h4 (by simp only [List.length_take] at h0; omega)
  refine ⟨b, o, e3, h5, fun j u hu => h6 j u ?_⟩
  rw [List.getElem?_take] at hu
  split at hu
  · exact hu
  · cases hu
theorem wl_ownSpot {α : Type} {e sz m : Nat} {R : Rep α} {p : Option Addr} {cp : Nat} {l : List α} {rest : List Oper} (k : Nat) (hφ : H[k]? = some (.own e sz R (.slice p m cp) l)) (next : (∀ a, p = some a → a.spot = none) → m ≤ cp ∧ m = l.length → WL P C n Q Φ H S ops rest) : WL P C n Q Φ H S ops rest := by
  intro a w hf hw
  obtain ⟨F, N, hi⟩ := hw
  have h1 := hi.owns k _ hφ
  obtain ⟨h2, h3⟩ := h1
  have hm := h3.len
  refine next ?_ ?_ a w hf ⟨F, N, hi⟩
  · obtain ⟨xs, ho, hch⟩ := h3
    rcases ho.2 with ⟨h0, h00⟩ | ⟨g, cap, cur, hv, _⟩
    · cases h0; intro a ha; cases ha
    · cases hv; intro a ha; cases ha; rfl
  · refine ⟨?_, hm⟩
    obtain ⟨xs, ho, hch⟩ := h3
    rcases ho.2 with ⟨h0, h00⟩ | ⟨g, cap, cur, hv, _, hg, hnc, _⟩
    · cases h0; exact Nat.le_refl _
    · cases hv; exact hnc
end rules

section memo
variable {P : Program} {C : Ctx} {n : Nat} {Q : Exit → Act → World → Prop} {ops : Array Oper} {lights L : List Nat} {D : List (Nat × Fact)} {Φ H : List Fact} {S : List (Nat × Value)}
/-- A state of a drawn region that more ways than one lead to. -/
theorem wx_memo {σ : Type} (ok : σ → Prop) (L1 : List Nat) (D1 : σ → List (Nat × Fact)) (Φ1 H1 : σ → List Fact) (S1 : σ → List (Nat × Value))
    (h1 : ∀ s, ok s → WX P C n Q ops lights L1 (D1 s) (Φ1 s) (H1 s) (S1 s))
    (next : (∀ s, ok s → WX P C n Q ops lights L1 (D1 s) (Φ1 s) (H1 s) (S1 s)) → WX P C n Q ops lights L D Φ H S) : WX P C n Q ops lights L D Φ H S := next h1
def pickG {α : Type _} (l : List α) (k : List Nat) : List α := k.filterMap fun i => l[i]?
theorem pickG_sub {α : Type _} {l m : List α} {k : List Nat} (h : pickG l k = m) : ∀ x ∈ m, x ∈ l := fun x hx => by
  rw [← h] at hx
  obtain ⟨i, _, hi⟩ := List.mem_filterMap.1 hx
  exact List.mem_of_getElem? hi
theorem wx_at {L1 : List Nat} {D1 : List (Nat × Fact)} {Φ1 H1 : List Fact} {S1 : List (Nat × Value)} (h : WX P C n Q ops lights L1 D1 Φ1 H1 S1) (hL : (L.all (memB L1) && L1.all (memB L)) = true) (d e p q k j t : List Nat)
    (hd : pickG D d = D1) (he : pickG D1 e = D) (hp : pickG Φ p = Φ1) (hq : pickG Φ1 q = Φ) (hl : okIdx k H.length = true) (hk : pickH H k = H1) (hj : pickH H1 j = H) (hS : keepS t S = S1) : WX P C n Q ops lights L D Φ H S := by
  intro listed a av w hr
  obtain ⟨hL1, hL2⟩ := Bool.and_eq_true_iff.1 hL
  have l1 : ∀ i ∈ L, i ∈ L1 := fun i hi => memB_iff.1 (List.all_eq_true.1 hL1 i hi)
  have l2 : ∀ i ∈ L1, i ∈ L := fun i hi => memB_iff.1 (List.all_eq_true.1 hL2 i hi)
  refine h listed a av w ⟨hr.frm.sub fun x hx => keepS_mem (by rw [hS]; exact hx), hr.asize, hr.adef, ?_, hr.lsize, fun i hi => l1 i (hr.sub i hi), fun i hi => hr.inL i (l2 i hi), fun x hx => hr.agree x fun i o hi => hx i o (l1 i hi), ?_, ?_⟩
  · have := hr.holds.pick k hl
    rw [hk] at this
    exact this.sub (pickG_sub hp)
  · intro i hi hu
    obtain ⟨o, d', v, Φi, B, h1, h2, h3, h4, h5, h6, h7, h8, h9⟩ := (hr.owed i (l2 i hi) hu).ex
    exact ⟨o, d', v, Φi, B, h1, h2, h3, h4, h5, fun e he hb => l1 _ (h6 e he hb), fun φ hφ => pickG_sub hq _ (h7 φ hφ), fun b hb => pickG_sub he _ (h8 b hb), h9⟩
  · intro x hx hu
    have h1 := hr.deps x (pickG_sub hd _ hx) hu
    exact pickG_sub (l := H1) (m := H) (k := j) hj _ h1
end memo
end Go.Proofs.Ytkakbckmajdggaa
