/- Lists with marks behind their ends: what is handed in to be kept. No program in sight. -/
import Derived.Test.YtkakbckmajdggaaMap
namespace Go.Proofs.Ytkakbckmajdggaa
open Go.RowKit

theorem zeros_len {z : List Value} {sz : Nat} (hz : z.length = sz) : ∀ m, (zeros z m).length = m * sz
  | 0 => by simp [zeros]
  | m + 1 => by simp only [zeros, List.length_append, zeros_len hz m, hz, Nat.succ_mul]; omega
theorem Holds.rowCap {α : Type} {C : Ctx} {Φ H : List Fact} {w : World} {g e sz m : Nat} {cs : List Value} (R : Rep α) (h : Holds C Φ (.blk g cs e :: H) w) (hcs : cs.length = m * sz) (hle : m ≤ 9223372036854775807) : Holds C Φ (.own e sz R (.slice (some ⟨g, 0, none⟩) 0 m) [] :: H) w := by
  obtain ⟨F, N, hi⟩ := h
  have hop := hi.owns 0 _ rfl
  have := hi.set 0 (by simp) (Mod.refl _ _) (.own e sz R (.slice (some ⟨g, 0, none⟩) 0 m) []) ⟨fun i hi' => by cases hi'; exact hop.1, [], ⟨by simp, .inr ⟨g, m, cs.toArray, rfl, Nat.zero_le _, hop.2, Nat.zero_le _, hle, by simpa using hcs, by simp⟩⟩, rfl⟩
  exact ⟨F, N, this⟩
section rules
variable {P : Program} {C : Ctx} {n : Nat} {Q : Exit → Act → World → Prop} {Φ Φ' : List Fact} {H H' : List Fact} {S S' : List (Nat × Value)} {ops : Array Oper} {rest : List Oper} {o : Oper} {d : Nat}
/-- No elements yet, room for so many. -/
theorem wl_makeCap {α : Type} {t e sz by_ m : Nat} {x y : Operand} {z : Value} {kx ky : IntKind} {ey : Int} (R : Rep α) (hg : wantS ops S o = some true) (hd : o.dst = some d) (hn : Nat.blt d n = true) (hS : outS d S = S') (ho : o.op = .makeSlice t x y)
    (hx : evS S x = some (.int kx 0)) (hy : evS S y = some (.int ky ey)) (hey : ey = (m : Int)) (he : tElem P t = some e) (hr : tRow P e = some (z, sz, by_)) (hzs : Nat.beq z.cells.size sz = true) (hsz : Nat.blt 0 sz = true)
    (hby : by_ * m ≤ 281474976710656) (h63 : m ≤ 9223372036854775807)
    (next : ∀ g, WL P C n Q Φ (.own e sz R (.slice (some ⟨g, 0, none⟩) 0 m) [] :: H) ((d, .slice (some ⟨g, 0, none⟩) 0 m) :: S') ops rest) : WL P C n Q Φ H S ops (o :: rest) := by
  subst hey
  refine wl_run hg hd hn hS fun a w hf hw => ?_
  obtain ⟨i, hinfo, hz, hsize, hbytes⟩ := tRow_spec hr
  have hzs' := Nat.eq_of_beq_eq_true hzs
  have hsz' := Nat.le_of_ble_eq_true hsz
  subst hbytes
  have hb : (i.bytes : Int) * (m : Int) ≤ 281474976710656 := by
    have h : ((i.bytes * m : Nat) : Int) ≤ 281474976710656 := by omega
    rwa [Int.natCast_mul] at h
  have hrun := run_make (P := P) (w := w) t e i z (tElem_run he) hinfo hz kx ky 0 (m : Int) (by omega) (by omega) hb (by omega)
  simp only [Int.toNat_natCast, hsize] at hrun
  refine ⟨_, _, by simp [execOp, ho, hf.eval hx, hf.eval hy, hrun]; try exact ⟨rfl, rfl⟩, Φ, _, ((hw.alloc (madeCells z.cells (m * sz)) e).rowCap R (m := m) (sz := sz) ?_ h63), next _⟩
  rw [made_zeros _ sz m hzs' hsz']
  exact zeros_len (by simpa using hzs') m
theorem wl_sliSpot {α : Type} {sz c : Nat} {R : Rep α} {p : Option Addr} {l : List α} (k : Nat) (hφ : Φ[k]? = some (.sli sz R p c l)) (h0 : 0 < l.length) (next : (∀ a, p = some a → a.spot = none) → l.length ≤ c → WL P C n Q Φ H S ops rest) : WL P C n Q Φ H S ops rest := by
  intro a w hf hw
  obtain ⟨F, N, hi⟩ := hw
  have h1 := hi.facts _ (mem_at hφ)
  obtain ⟨p', n', c', xs, e1, e2, h2, h3, h4, h5⟩ := h1
  cases e1
  refine next ?_ h2 a w hf ⟨F, N, hi⟩
  obtain ⟨b, o, e3, _⟩ := h5 h0
  intro ad had
  rw [e3] at had
  cases had; rfl
end rules
theorem sli_none {α : Type} {sz : Nat} {R : Rep α} {F : Foot} {w : World} : (Fact.sli sz R none 0 ([] : List α)).p F w := ⟨none, 0, 0, [], rfl, rfl, Nat.le_refl _, by omega, rfl, fun h => absurd h (by omega)⟩
theorem sli_to {α : Type} {sz c : Nat} {R : Rep α} {p : Option Addr} {l : List α} {F : Foot} {w : World} (k : Nat) (h : (Fact.sli sz R p c l).p F w) : (Fact.sli sz R p c (l.take k)).p F w := by
  obtain ⟨p', n', c', xs, e1, e2, h1, h2, h3, h4⟩ := h
  cases e1
  refine ⟨p, _, c, xs.take (k * sz), rfl, rfl, by simp only [List.length_take]; omega, h2, h3.take k, fun h0 => ?_⟩
  obtain ⟨b, o, e3, h5, h6⟩ := h4 (by simp only [List.length_take] at h0; omega)
  refine ⟨b, o, e3, h5, fun j u hu => h6 j u ?_⟩
  rw [List.getElem?_take] at hu
  split at hu
  · exact hu
  · cases hu
/-- A list without what lies behind it. -/
theorem sli_pre {α : Type} {sz c : Nat} {R : Rep α} {p : Option Addr} {l m : List α} {F : Foot} {w : World} (h : (Fact.sli sz R p c (l ++ m)).p F w) : (Fact.sli sz R p c l).p F w := by
  have := sli_to l.length h
  rwa [List.take_left'] at this
  rfl
theorem sli_rel {α : Type} {sz c : Nat} {R R' : Rep α} {p : Option Addr} {l : List α} {F : Foot} {w : World} (h : (Fact.sli sz R p c l).p F w) (hR : ∀ cs x, R.p F w cs x → R'.p F w cs x) : (Fact.sli sz R' p c l).p F w := by
  obtain ⟨p', n', c', xs, e1, e2, h1, h2, h3, h4⟩ := h
  exact ⟨p', n', c', xs, e1, e2, h1, h2, h3.mono fun cs x _ => hR cs x, h4⟩

/-! Marks. -/
def markV (k i : Nat) : V := ⟨0, 1000003 * (k + 7) + i, ⟨#[]⟩⟩
def marksV (k n : Nat) : List V := (List.range n).map (markV k)
theorem marksV_succ (k n : Nat) : marksV k (n + 1) = marksV k n ++ [markV k n] := by simp [marksV, List.range_succ]
theorem marksV_len (k n : Nat) : (marksV k n).length = n := by simp [marksV]
theorem marksV_at {k n i : Nat} (h : i < n) : (marksV k n)[i]? = some (markV k i) := by simp [marksV, h]
theorem markV_ok {k i : Nat} (hk : k ≤ 1000) (hi : i ≤ 1000000) : (markV k i).ok := by
  refine ⟨by simp [markV, inB], ?_⟩
  simp only [markV, inI]; omega
def markF (k i : Nat) : FactD := ⟨1000003 * (k + 7) + i, 0, []⟩
def marksF (k n : Nat) : List FactD := (List.range n).map (markF k)
theorem marksF_succ (k n : Nat) : marksF k (n + 1) = marksF k n ++ [markF k n] := by simp [marksF, List.range_succ]
theorem marksF_len (k n : Nat) : (marksF k n).length = n := by simp [marksF]
theorem marksF_at {k n i : Nat} (h : i < n) : (marksF k n)[i]? = some (markF k i) := by simp [marksF, h]
/-- api.Fact, its list lent. -/
def flRep : Rep (FactD × List V) := ⟨fun F w cs x => x.1.ok ∧ ∃ r : Option Addr × Nat, cs = fCells x.1 r ∧ (Fact.sli 3 vRep r.1 r.2 (x.1.args ++ x.2)).p F w, fun hF ha ⟨h0, r, h1, h2⟩ => ⟨h0, r, h1, Fact.good _ hF ha h2⟩,
  fun ⟨_, r, h1, _⟩ u hu => by rw [h1] at hu; simp [fCells] at hu; rcases hu with rfl | rfl | rfl <;> rfl⟩
theorem flRep_opens : Opens flRep (fun x r => fCells x.1 r) (fun x _ => x.1.ok) (fun x r => [.sli 3 vRep r.1 r.2 (x.1.args ++ x.2)]) := fun _ _ _ _ ⟨h0, r, h1, h2⟩ => ⟨r, h1, h0, by simpa using h2⟩
theorem wrap_mark {k i : Int} (h0 : 0 ≤ k) (h1 : k ≤ 1000) (h2 : 0 ≤ i) (h3 : i ≤ 1000000) : IntKind.wrap .i64 (IntKind.wrap .i64 (1000003 * IntKind.wrap .i64 (k + 7)) + i) = 1000003 * (k + 7) + i := by
  have e : IntKind.wrap .i64 (k + 7) = k + 7 := by rw [IntKind.wrap_i64]; omega
  rw [e]
  have e2 : IntKind.wrap .i64 (1000003 * (k + 7)) = 1000003 * (k + 7) := by rw [IntKind.wrap_i64]; omega
  rw [e2, IntKind.wrap_i64]; omega
theorem wrap_mark2 {k i : Nat} (hk : k ≤ 1000) (hi : i ≤ 1000000) : IntKind.wrap .i64 (IntKind.wrap .i64 (1000003 * ((k + 7 : Nat) : Int)) + (i : Int)) = 1000003 * ((k : Int) + 7) + i := by
  have e2 : IntKind.wrap .i64 (1000003 * ((k + 7 : Nat) : Int)) = 1000003 * ((k + 7 : Nat) : Int) := by rw [IntKind.wrap_i64]; omega
  rw [e2, IntKind.wrap_i64]; omega
theorem nat_sub {a b : Nat} (h : b ≤ a ∧ (a : Int) ≤ 9223372036854775807) : Value.int .i64 (IntKind.wrap .i64 ((a : Int) - (b : Int))) = .int .i64 ((a - b : Nat) : Int) := by
  rw [IntKind.wrap_i64]; congr 1; omega
/-! What was handed in has been kept. -/
section kept
variable {α : Type} {l m ms : List α} {i : Nat} {x y : α}
theorem kept_ne (h1 : (l ++ ms)[i]? = some x) (h2 : m[i]? = some y) (hne : ¬ x = y) : ¬ l = m := fun e => by
  subst e
  rw [List.getElem?_append_left (List.getElem?_eq_some_iff.1 h2).1, h2] at h1
  exact hne (Option.some.inj h1).symm
theorem kept_step (h : l.take i = m.take i) (hl : l.length = m.length) (h1 : (l ++ ms)[i]? = some x) (h2 : m[i]? = some y) (he : x = y) : l.take (i + 1) = m.take (i + 1) := by
  subst he
  rw [List.getElem?_append_left (by rw [hl]; exact (List.getElem?_eq_some_iff.1 h2).1)] at h1
  rw [List.take_add_one, List.take_add_one, h, h1, h2]
theorem kept_past (h : l.take i = m.take i) (hl : l.length = m.length) (hi : m.length ≤ i) : l.take (i + 1) = m.take (i + 1) := by
  rw [List.take_of_length_le (by omega), List.take_of_length_le (by omega)] at h ⊢
  exact h
theorem kept_all (h : l.take i = m.take i) (hl : l.length = m.length) (hi : m.length ≤ i) : l = m := by
  rwa [List.take_of_length_le (by omega), List.take_of_length_le (by omega)] at h
end kept
theorem kept_mark {l : List V} {i k n : Nat} {x : V} (h : (l ++ marksV k n)[i]? = some x) (hi : l.length ≤ i) : x = markV k (i - l.length) := by
  rw [List.getElem?_append_right hi] at h
  have hlt := (List.getElem?_eq_some_iff.1 h).1
  rw [marksV_len] at hlt
  rw [marksV_at hlt] at h
  exact (Option.some.inj h).symm
theorem fact_eq {f g : FactD} (h1 : f.id = g.id) (h2 : f.ty = g.ty) : f.args = g.args ↔ f = g := by
  cases f; cases g
  simp only at h1 h2
  subst h1; subst h2
  simp
theorem markF_ok {k i : Nat} (hk : k ≤ 1000) (hi : i ≤ 1000000) : (markF k i).ok := by
  refine ⟨?_, by simp [markF, inI]⟩
  simp only [markF, inI]; omega
/-- Facts, lent. -/
def lentF (l : List FactD) : List (FactD × List V) := l.map fun x => (x, marksV 1 12)
def marksG (n : Nat) : List (FactD × List V) := (List.range n).map fun i => (markF 1 i, [])
theorem lentF_len (l : List FactD) : (lentF l).length = l.length := by simp [lentF]
theorem marksG_len (n : Nat) : (marksG n).length = n := by simp [marksG]
theorem marksG_succ (n : Nat) : marksG (n + 1) = marksG n ++ [(markF 1 n, [])] := by simp [marksG, List.range_succ]
theorem lentF_step {l : List FactD} {i : Nat} {x : FactD} (h : l[i]? = some x) : lentF (l.take (i + 1)) = lentF (l.take i) ++ [(x, marksV 1 12)] := by simp [lentF, List.take_add_one, h]
theorem lent_at {l : List FactD} {n i : Nat} {x : FactD × List V} (h : (lentF l ++ marksG n)[i]? = some x) (hi : i < l.length) : ∃ y, x = (y, marksV 1 12) ∧ l[i]? = some y := by
  rw [List.getElem?_append_left (by rw [lentF_len]; exact hi)] at h
  simp only [lentF, List.getElem?_map, List.getElem?_eq_getElem hi, Option.map_some, Option.some.injEq] at h
  exact ⟨_, h.symm, List.getElem?_eq_getElem hi⟩
theorem lent_mark {l : List FactD} {n i : Nat} {x : FactD × List V} (h : (lentF l ++ marksG n)[i]? = some x) (hi : l.length ≤ i) : x = (markF 1 (i - l.length), []) := by
  rw [List.getElem?_append_right (by rw [lentF_len]; exact hi), lentF_len] at h
  have hlt := (List.getElem?_eq_some_iff.1 h).1
  rw [marksG_len] at hlt
  simp [marksG, hlt] at h
  exact h.symm
theorem kept_fact {α : Type} {l m : List α} {i : Nat} {x y : α} (h : l.take i = m.take i) (_ : l.length = m.length) (h1 : l[i]? = some x) (h2 : m[i]? = some y) (he : x = y) : l.take (i + 1) = m.take (i + 1) := by
  rw [List.take_add_one, List.take_add_one, h, h1, h2, he]
theorem Chunks.back {α β : Type} {sz : Nat} {R : List Value → α → Prop} {R' : List Value → β → Prop} {g : β → α} (hR : ∀ cs x, R cs (g x) → R' cs x) : ∀ {l : List β} {xs : List Value}, Chunks sz R xs (l.map g) → Chunks sz R' xs l
  | [], _, h => h
  | x :: l, _, ⟨cs, rest, e, h1, h2, h3⟩ => ⟨cs, rest, e, h1, hR cs x h2, Chunks.back hR h3⟩
/-- Facts that are lent are facts. -/
theorem sli_lentF {p : Option Addr} {c : Nat} {l : List FactD} {F : Foot} {w : World} (h : (Fact.sli 3 flRep p c (lentF l)).p F w) : (Fact.sli 3 fRep p c l).p F w := by
  obtain ⟨p', n', c', xs, e1, e2, h1, h2, h3, h4⟩ := h
  refine ⟨p', n', c', xs, ?_, by rw [e2, lentF_len], h1, h2, Chunks.back (g := fun x => (x, marksV 1 12)) (fun cs x hr => ?_) h3, h4⟩
  · rw [← e1, lentF_len]
  · obtain ⟨h5, r, h6, h7⟩ := hr
    exact ⟨h5, r, h6, sli_pre h7⟩
end Go.Proofs.Ytkakbckmajdggaa
