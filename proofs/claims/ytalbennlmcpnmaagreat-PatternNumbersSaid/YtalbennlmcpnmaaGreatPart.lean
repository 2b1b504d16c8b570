import Derived.Test.YtalbennlmcpnmaaGreatSess
import Derived.Deep.DeepAppendRoom
namespace Go.Proofs.YtalbennlmcpnmaaGreat
open Go Go.RowKit
theorem putL_left {a b v : List Value} {i : Nat} (h : i + v.length ≤ a.length) : putL (a ++ b) i v = putL a i v ++ b := by
  unfold putL
  rw [List.take_append_of_le_length (by omega), List.drop_append_of_le_length (by omega)]
  simp [List.append_assoc]
theorem putL_right {a b v : List Value} {i j : Nat} (h : i = a.length + j) : putL (a ++ b) i v = a ++ putL b j v := by
  subst h
  unfold putL
  rw [List.take_length_add_append, Nat.add_assoc, List.drop_length_add_append]
  simp [List.append_assoc]
theorem putL_length {a v : List Value} {i : Nat} (h : i + v.length ≤ a.length) : (putL a i v).length = a.length := by
  unfold putL; simp; omega
theorem Chunks.part {α : Type} {sz : Nat} {R : List Value → α → Prop} {v : List Value} {i : Nat} {y u : α} (hR : ∀ cs, R cs y → cs.length = sz → R (putL cs i v) u) (hv : i + v.length ≤ sz) :
    ∀ {l : List α} {xs : List Value} {k : Nat}, Chunks sz R xs l → l[k]? = some y → Chunks sz R (putL xs (k * sz + i) v) (l.set k u)
  | [], _, _, _, hx => by simp at hx
  | z :: l, xs, 0, h, hx => by
    obtain ⟨cs, rest, rfl, h1, h3, h2⟩ := h
    simp at hx; subst hx
    refine ⟨putL cs i v, rest, ?_, by rw [putL_length (by omega), h1], hR cs h3 h1, h2⟩
    rw [Nat.zero_mul, Nat.zero_add]; exact putL_left (by omega)
  | z :: l, xs, k + 1, h, hx => by
    obtain ⟨cs, rest, rfl, h1, h3, h2⟩ := h
    refine ⟨cs, putL rest (k * sz + i) v, putL_right (by rw [h1, Nat.succ_mul]; omega), h1, h3, Chunks.part hR hv h2 (by simpa using hx)⟩
theorem OwnL.part {α : Type} {B : Nat} {w : World} {e : TypeId} {sz : Nat} {R : List Value → α → Prop} {l : List α} {g n c : Nat} (h : OwnL B e sz R l (.slice (some ⟨g, 0, none⟩) n c) w) (hn : n = l.length) (k i : Nat) {y u : α} {v : List Value} (hk : l[k]? = some y)
    (hR : ∀ cs, R cs y → cs.length = sz → R (putL cs i v) u) (hv : i + v.length ≤ sz) :
    OwnL B e sz R (l.set k u) (.slice (some ⟨g, 0, none⟩) n c) (setCells w g (k * sz + i) v) ∧ Mod (fun i => i = g) w (setCells w g (k * sz + i) v) := by
  obtain ⟨xs, ho, hx⟩ := h
  have key : ∀ (cs : List Value) (xs : List Value) (w : World) (o : Nat), w.ownsRow B e sz (.slice (some ⟨g, 0, none⟩) n c) l.length xs →
      (setCells w g o cs).ownsRow B e sz (.slice (some ⟨g, 0, none⟩) n c) l.length (setAll xs o cs) ∧ Mod (fun i => i = g) w (setCells w g o cs) := by
    intro cs
    induction cs with
    | nil => intro xs w o h; exact ⟨h, Mod.refl _ _⟩
    | cons d ds ih =>
      intro xs w o h
      subst hn
      have h1 := h.stored o d
      obtain ⟨i1, i2⟩ := ih _ _ (o + 1) h1.1
      exact ⟨i1, Mod.trans (S := fun i => i = g) (Mod.setCell (S := fun i => i = g) (Mod.refl _ w) (p := ⟨g, o, none⟩) (fun _ => rfl) d) i2⟩
  obtain ⟨k1, k2⟩ := key v xs w (k * sz + i) ho
  have hlen := hx.length
  have hlt := (List.getElem?_eq_some_iff.1 hk).1
  have hle : k * sz + sz ≤ l.length * sz := by rw [← Nat.succ_mul]; exact Nat.mul_le_mul_right _ hlt
  rw [setAll_putL xs _ _ (by omega)] at k1
  exact ⟨⟨_, by rw [List.length_set]; exact k1, hx.part hR hv hk⟩, k2⟩
section
variable {P : Program} {C : Ctx} {n : Nat} {Q : Exit → Act → World → Prop} {Φ Φ' : List Fact} {H H' : List Fact} {S S' : List (Nat × Value)} {ops : Array Oper} {rest : List Oper} {o : Oper} {d : Nat}
theorem wl_storePart {α : Type} {t e sz st m g : Nat} {x z : Operand} {R : Rep α} {cp : Nat} {l : List α} {cs : List Value} {v : Value} {y u : α} (k j i : Nat)
    (hg : wantS ops S o = some true) (hd : o.dst = none) (ho : o.op = .store t x z)
    (hφ : H[k]? = some (.own e sz R (.slice (some ⟨g, 0, none⟩) m cp) l)) (hx : evS S x = some (.pointer (some ⟨g, j * sz + i, none⟩))) (hj : l[j]? = some y) (hy : evS S z = some v) (hv : v.cells.toList = cs) (hs : tSize P t = some st) (hl : Nat.beq cs.length st = true) (hle : Nat.ble (i + st) sz = true)
    (hr : ∀ F w, (∀ ψ ∈ Φ, ψ.p F w) → ∀ ds, R.p F w ds y → R.p F w (putL ds i cs) u) {l' : List α} (hset : l.set j u = l') (hH : H.set k (.own e sz R (.slice (some ⟨g, 0, none⟩) m cp) l') = H') (next : WL P C n Q Φ H' S ops rest) : WL P C n Q Φ H S ops (o :: rest) := by
  have hl' := Nat.eq_of_beq_eq_true hl
  have hle' := Nat.le_of_ble_eq_true hle
  subst hset
  subst hH
  refine wl_do hg hd (fun a w hf hw => ?_) next
  obtain ⟨F, N, hi⟩ := hw
  have hlt := (List.getElem?_eq_some_iff.1 hφ).1
  have hjl := (List.getElem?_eq_some_iff.1 hj).1
  obtain ⟨hN, hown⟩ := hi.owns k _ hφ
  have hlen : m = l.length := hown.len
  have hR := hr F w hi.facts
  obtain ⟨h1, h2⟩ := hown.part hlen j i hj (fun cs' h _ => hR cs' h) (by omega)
  have hM : Mod (N k) w (setCells w g (j * sz + i) cs) := h2.mono fun i _ e => by rw [e]; exact hN g rfl
  refine ⟨setCells w g (j * sz + i) cs, ?_, ⟨F, N, hi.set k hlt hM _ ⟨hN, h1.rel fun cs' x' h => R.good (fun _ h => h) (fun q hq => hM.block q (hi.flt q hq) fun hn => (hi.nlt k q hlt hn).2.2 hq) h⟩⟩⟩
  have hsz : v.cells.size = st := by rw [← hl', ← hv]; simp
  obtain ⟨xs, ho', hch⟩ := hown
  obtain ⟨ds, hd1, hd2, _⟩ := hch.at hj
  have hone : ∀ u ∈ cs, u.oneCell' = true := fun c hc => R.one (hR ds hd2) c (by unfold putL; simp [hc])
  rcases ho'.2 with ⟨h0, _⟩ | ⟨g', cap, cur, hv', _, hh, hnc, _, hcs, _⟩
  · cases h0
  · cases hv'
    have hh' : w.heap[g]? = some (.cells cur.toList.toArray e) := by simpa using hh
    have hle : j * sz + sz ≤ l.length * sz := by rw [← Nat.succ_mul]; exact Nat.mul_le_mul_right _ hjl
    have hle2 : l.length * sz ≤ cp * sz := Nat.mul_le_mul_right _ hnc
    have := run_storeCells_blk (P := P) cs cur.toList (j * sz + i) 0 w hh' (by simp [hcs, hl']; omega) hone
    simp only [execOp, ho, hf.eval hx, hf.eval hy, Instr.storeAt, Instr.sureAddr, storeVar, Sem.run_bind, Sem.run_pure, Result.andThen_ok, tSize_run hs, hsz, hv]
    simp [this]
theorem wl_appendO {α : Type} {t e e2 sz by_ m2 : Nat} {s x : Operand} {R : Rep α} {v z : Value} {l l2 : List α} {p : Option Addr} {cp : Nat} (k j : Nat) (hg : wantS ops S o = some true) (hd : o.dst = some d) (hn : Nat.blt d n = true) (hS : outS d S = S')
    (ho : o.op = .call { callee := .builtin .append, args := #[s, x], argTypes := #[t, t] }) (hφ : H[k]? = some (.own e sz R v l)) (hs : evS S s = some v) (hψ : H[j]? = some (.own e2 sz R (.slice p m2 cp) l2)) (hx : evS S x = some (.slice p l2.length cp))
    (he : tElem P t = some e) (hr : tRow P e = some (z, sz, by_)) (hzs : Nat.beq z.cells.size sz = true) (hsz : Nat.blt 0 sz = true) (h63 : l.length + l2.length ≤ 9223372036854775807) (hby : (l.length + l2.length) * by_ ≤ 140737488355328)
    {H2 : Option Addr → Nat → List Fact} (hH : ∀ p' c', H.set k (.own e sz R (.slice p' (l ++ l2).length c') (l ++ l2)) = H2 p' c') (next : ∀ p' c', WL P C n Q Φ (H2 p' c') ((d, .slice p' (l ++ l2).length c') :: S') ops rest) : WL P C n Q Φ H S ops (o :: rest) :=
  append_core k hg hd hn hS ho hφ hs hx (fun F N w hi => by
    obtain ⟨_, xs, ho, hch⟩ := hi.owns j _ hψ
    rcases ho.2 with ⟨h0, h00⟩ | ⟨g, cap, cur, hv, _⟩
    · exact ⟨xs, hch, fun h => absurd h (by omega)⟩
    · cases hv
      refine ⟨xs, hch, fun _ => ⟨g, 0, rfl, fun q u hq => ?_⟩⟩
      have := ho.cells (g := g) rfl q u hq
      rwa [addr_add] at this) he hr hzs hsz h63 hby hH next
end
theorem set_get {α : Type} {l : List α} {k : Nat} {x : α} (h : l[k]? = some x) : l.set k x = l := by
  obtain ⟨h1, rfl⟩ := List.getElem?_eq_some_iff.1 h
  exact List.set_getElem_self h1
end Go.Proofs.YtalbennlmcpnmaaGreat
