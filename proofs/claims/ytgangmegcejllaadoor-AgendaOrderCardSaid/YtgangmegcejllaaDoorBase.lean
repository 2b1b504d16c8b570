import Derived.WalkKit
import Derived.WalkSpells
import Derived.WalkLawsBesides
import Derived.Deep.QuietTactic
import Derived.BigQuiet
import Derived.Lib.Hide
import Derived.Deep.RegionHeld3
import Derived.StillTailTactics
import Derived.Deep.DeepCutAuto
namespace Go.Proofs.YtgangmegcejllaaDoor
open Go.RowKit
abbrev Foot := Nat → Prop
attribute [go_sem] World.cell?_alloc_some
def Agree (F : Foot) (w w' : World) : Prop := ∀ k, F k → w'.heap[k]? = w.heap[k]?
theorem Agree.refl (F : Foot) (w : World) : Agree F w w := fun _ _ => rfl
theorem Agree.trans {F : Foot} {a b c : World} (h : Agree F a b) (k : Agree F b c) : Agree F a c := fun i hi => (k i hi).trans (h i hi)
theorem Agree.mono {F G : Foot} {a b : World} (h : Agree F a b) (hg : ∀ k, G k → F k) : Agree G a b := fun i hi => h i (hg i hi)
theorem Agree.cell {F : Foot} {w w' : World} (h : Agree F w w') {b o : Nat} (hb : F b) : w'.cell? ⟨b, o, none⟩ = w.cell? ⟨b, o, none⟩ :=
  World.cell?_of_block (w := w) (h b hb)
theorem Agree.of_below {F : Foot} {B : Nat} {w w' : World} (h : Below B w w') (hF : ∀ k, F k → k < B) : Agree F w w' := fun k hk => h.block k (hF k hk)
def Chunks {α : Type} (sz : Nat) (R : List Value → α → Prop) : List Value → List α → Prop
  | xs, [] => xs = []
  | xs, x :: l => ∃ cs rest, xs = cs ++ rest ∧ cs.length = sz ∧ R cs x ∧ Chunks sz R rest l
section
variable {α : Type} {sz : Nat} {R R' : List Value → α → Prop}
theorem Chunks.length : ∀ {l : List α} {xs : List Value}, Chunks sz R xs l → xs.length = l.length * sz
  | [], xs, h => by cases (h : xs = []); simp
  | x :: l, xs, h => by
    obtain ⟨cs, rest, rfl, h1, _, h2⟩ := h
    rw [List.length_append, h1, Chunks.length h2, List.length_cons, Nat.succ_mul, Nat.add_comm]
theorem Chunks.append : ∀ {l m : List α} {xs ys : List Value}, Chunks sz R xs l → Chunks sz R ys m → Chunks sz R (xs ++ ys) (l ++ m)
  | [], m, xs, ys, h, k => by cases (h : xs = []); exact k
  | x :: l, m, xs, ys, h, k => by
    obtain ⟨cs, rest, rfl, h1, h3, h2⟩ := h
    exact ⟨cs, rest ++ ys, by rw [List.append_assoc], h1, h3, Chunks.append h2 k⟩
theorem Chunks.one {x : α} {cs : List Value} (h : R cs x) (hl : cs.length = sz) : Chunks sz R cs [x] := ⟨cs, [], by simp, hl, h, rfl⟩
theorem Chunks.mono : ∀ {l : List α} {xs : List Value}, Chunks sz R xs l → (∀ cs x, x ∈ l → R cs x → R' cs x) → Chunks sz R' xs l
  | [], _, h, _ => h
  | x :: l, xs, h, hr => by
    obtain ⟨cs, rest, rfl, h1, h3, h2⟩ := h
    exact ⟨cs, rest, rfl, h1, hr _ _ (by simp) h3, Chunks.mono h2 fun cs x hx => hr cs x (by simp [hx])⟩
theorem Chunks.at : ∀ {l : List α} {xs : List Value} {k : Nat} {x : α}, Chunks sz R xs l → l[k]? = some x → ∃ cs, cs.length = sz ∧ R cs x ∧ ∀ j u, cs[j]? = some u → xs[k * sz + j]? = some u
  | [], _, _, _, _, hx => by simp at hx
  | y :: l, xs, 0, x, h, hx => by
    obtain ⟨cs, rest, rfl, h1, h3, _⟩ := h
    simp at hx; subst hx
    refine ⟨cs, h1, h3, fun j u hu => ?_⟩
    have := (List.getElem?_eq_some_iff.1 hu).1
    rw [Nat.zero_mul, Nat.zero_add, List.getElem?_append_left this]; exact hu
  | y :: l, xs, k + 1, x, h, hx => by
    obtain ⟨cs, rest, rfl, h1, h3, h2⟩ := h
    obtain ⟨ds, e1, e2, e3⟩ := Chunks.at (k := k) h2 (by simpa using hx)
    refine ⟨ds, e1, e2, fun j u hu => ?_⟩
    rw [List.getElem?_append_right (by rw [h1, Nat.succ_mul]; omega)]
    have := e3 j u hu
    rw [← this]; congr 1; rw [h1, Nat.succ_mul]; omega
theorem Chunks.take : ∀ {l : List α} {xs : List Value} (k : Nat), Chunks sz R xs l → Chunks sz R (xs.take (k * sz)) (l.take k)
  | [], xs, k, h => by cases (h : xs = []); simp [Chunks]
  | x :: l, xs, 0, h => by simp [Chunks]
  | x :: l, xs, k + 1, h => by
    obtain ⟨cs, rest, rfl, h1, h3, h2⟩ := h
    rw [List.take_succ_cons]
    refine ⟨cs, rest.take (k * sz), ?_, h1, h3, Chunks.take k h2⟩
    rw [List.take_append, List.take_of_length_le (by rw [h1, Nat.succ_mul]; omega)]
    congr 2; rw [h1, Nat.succ_mul]; omega
theorem Chunks.drop : ∀ {l : List α} {xs : List Value} (k : Nat), Chunks sz R xs l → Chunks sz R (xs.drop (k * sz)) (l.drop k)
  | [], xs, k, h => by cases (h : xs = []); simp [Chunks]
  | x :: l, xs, 0, h => by simpa using h
  | x :: l, xs, k + 1, h => by
    obtain ⟨cs, rest, rfl, h1, h3, h2⟩ := h
    rw [List.drop_succ_cons, List.drop_append, List.drop_of_length_le (by rw [h1, Nat.succ_mul]; omega), List.nil_append]
    have : (k + 1) * sz - cs.length = k * sz := by rw [h1, Nat.succ_mul]; omega
    rw [this]
    exact Chunks.drop k h2
theorem Chunks.all {p : Value → Prop} (hp : ∀ cs x, R cs x → ∀ u ∈ cs, p u) : ∀ {l : List α} {xs : List Value}, Chunks sz R xs l → ∀ u ∈ xs, p u
  | [], xs, h, u, hu => by cases (h : xs = []); cases hu
  | x :: l, xs, h, u, hu => by
    obtain ⟨cs, rest, rfl, _, h3, h2⟩ := h
    rcases List.mem_append.1 hu with hu | hu
    · exact hp _ _ h3 u hu
    · exact Chunks.all hp h2 u hu
theorem Chunks.flat (enc : α → List Value) (he : ∀ x, (enc x).length = sz) : ∀ l : List α, Chunks sz (fun cs x => cs = enc x) (l.flatMap enc) l
  | [] => rfl
  | x :: l => ⟨enc x, l.flatMap enc, by simp, he x, rfl, Chunks.flat enc he l⟩
theorem Chunks.flat_iff (enc : α → List Value) : ∀ {l : List α} {xs : List Value}, Chunks sz (fun cs x => cs = enc x) xs l → xs = l.flatMap enc
  | [], xs, h => h
  | x :: l, xs, h => by
    obtain ⟨cs, rest, rfl, _, rfl, h2⟩ := h
    rw [Chunks.flat_iff enc h2]; simp
end
def CellsAt (w : World) (b off : Nat) (xs : List Value) : Prop := ∀ j u, xs[j]? = some u → w.cell? ⟨b, off + j, none⟩ = some u
def Sli {α : Type} (F : Foot) (w : World) (sz : Nat) (R : List Value → α → Prop) (v : Value) (l : List α) : Prop :=
  ∃ p n c xs, v = .slice p n c ∧ n = l.length ∧ n ≤ c ∧ c ≤ 9223372036854775807 ∧ Chunks sz R xs l ∧ (0 < n → ∃ b off, p = some ⟨b, off, none⟩ ∧ F b ∧ CellsAt w b off xs)
section
variable {α : Type} {F G : Foot} {w w' : World} {sz : Nat} {R R' : List Value → α → Prop} {v : Value} {l : List α}
theorem Sli.keep (h : Sli F w sz R v l) (ha : Agree F w w') (hR : ∀ cs x, x ∈ l → R cs x → R' cs x) : Sli F w' sz R' v l := by
  obtain ⟨p, n, c, xs, hv, hn, hc, hm, hx, hrow⟩ := h
  refine ⟨p, n, c, xs, hv, hn, hc, hm, hx.mono hR, fun hn => ?_⟩
  obtain ⟨b, off, hp, hF, hcell⟩ := hrow hn
  exact ⟨b, off, hp, hF, fun j u hj => (ha.cell hF).trans (hcell j u hj)⟩
theorem Sli.foot (h : Sli F w sz R v l) (hg : ∀ k, F k → G k) : Sli G w sz R v l := by
  obtain ⟨p, n, c, xs, hv, hn, hc, hm, hx, hrow⟩ := h
  refine ⟨p, n, c, xs, hv, hn, hc, hm, hx, fun hn => ?_⟩
  obtain ⟨b, off, hp, hF, hcell⟩ := hrow hn
  exact ⟨b, off, hp, hg _ hF, hcell⟩
theorem Sli.nil : Sli F w sz R (.slice none 0 0) [] := ⟨none, 0, 0, [], rfl, rfl, Nat.le_refl _, by omega, rfl, fun h => absurd h (by omega)⟩
theorem Sli.of_own {base : Nat} {e : TypeId} {n : Nat} {xs : List Value} (h : w.ownsRow base e sz v n xs) (hn : n = l.length) (hx : Chunks sz R xs l) (hF : ∀ k, base ≤ k → k < w.heap.size → F k) : Sli F w sz R v l := by
  have hlt := h.lt
  rcases h.2 with ⟨rfl, h0⟩ | ⟨g, cap, cur, rfl, hb, hg, hnc, hcm, hcs, htake⟩
  · exact ⟨none, 0, 0, xs, rfl, by omega, Nat.le_refl _, by omega, hx, fun h => absurd h (by omega)⟩
  · refine ⟨_, n, cap, xs, rfl, hn, hnc, hcm, hx, fun _ => ⟨g, 0, rfl, hF g hb (hlt g rfl).2, fun j u hj => ?_⟩⟩
    have := h.cells (g := g) rfl j u hj
    rwa [show (⟨g, 0, none⟩ : Addr).add j = ⟨g, 0 + j, none⟩ from by unfold Addr.add; split <;> simp_all] at this
end
theorem addr_add (b off j : Nat) : (⟨b, off, none⟩ : Addr).add j = ⟨b, off + j, none⟩ := by unfold Addr.add; split <;> simp_all
theorem run_indexAt_sl {P : Program} {t e : TypeId} {sz : Nat} {p : Option Addr} {n c k b off : Nat} (ht : P.underlying t = some (.slice e)) (hs : ∀ w, (sizeOf e).run P w = .ok sz w) (hp : p = some ⟨b, off, none⟩) (hk : k < n) :
    ∀ w, (Instr.indexAt t (.slice p n c) (.int .i64 (k : Int))).run P w = .ok (.pointer (some ⟨b, off + k * sz, none⟩)) w := by
  intro w
  subst hp
  have h0 : (0 : Int) ≤ k ∧ (k : Int) < n := by omega
  simp [Instr.indexAt, asIntOf, run_underlying ht, h0, hs, Addr.add, hk]
structure V where
  k : Int
  n : Int
  s : ByteArray
def V.cells (v : V) : List Value := [.int .u8 v.k, .int .i64 v.n, .string v.s]
theorem V.one (v : V) : ∀ u ∈ v.cells, u.oneCell' = true := by simp [V.cells, Value.oneCell']
def V.zero : V := ⟨0, 0, ⟨#[]⟩⟩
def VR (cs : List Value) (x : V) : Prop := cs = x.cells
theorem VR.one (cs : List Value) (x : V) (h : VR cs x) : ∀ u ∈ cs, u.oneCell' = true := by cases (h : cs = x.cells); exact x.one
def BR (cs : List Value) (x : Bool) : Prop := cs = [.bool x]
theorem BR.one (cs : List Value) (x : Bool) (h : BR cs x) : ∀ u ∈ cs, u.oneCell' = true := by cases (h : cs = [.bool x]); simp [Value.oneCell']
theorem bytes_toList_inj {a b : ByteArray} : a.toList = b.toList ↔ a = b := by
  rw [ByteArray.toList_eq, ByteArray.toList_eq]
  constructor
  · intro h
    obtain ⟨⟨x⟩⟩ := a
    obtain ⟨⟨y⟩⟩ := b
    simp at h
    subst h
    rfl
  · rintro rfl; rfl
instance : DecidableEq V := fun a b => by
  rcases a with ⟨k, n, s⟩
  rcases b with ⟨k', n', s'⟩
  exact if h : k = k' ∧ n = n' ∧ s.toList = s'.toList then .isTrue (by obtain ⟨h1, h2, h3⟩ := h; rw [bytes_toList_inj] at h3; subst h1 h2 h3; rfl) else .isFalse (fun e => h (by injection e with h1 h2 h3; exact ⟨h1, h2, by rw [h3]⟩))
theorem V.ext_iff' {a b : V} : a = b ↔ a.k = b.k ∧ a.n = b.n ∧ a.s.toList = b.s.toList := by
  rcases a with ⟨k, n, s⟩
  rcases b with ⟨k', n', s'⟩
  simp only [V.mk.injEq, bytes_toList_inj]
theorem CellsAt.alloc {w : World} {b off : Nat} {xs : List Value} (h : CellsAt w b off xs) (o : Obj) : CellsAt (w.alloc o) b off xs :=
  fun j u hu => cell_later ((Below.refl _ _).alloc (Nat.le_refl _) o) (h j u hu)
theorem CellsAt.below {w w' : World} {b off : Nat} {xs : List Value} (h : CellsAt w b off xs) (hb : Below w.heap.size w w') : CellsAt w' b off xs :=
  fun j u hu => cell_later hb (h j u hu)
def OwnL {α : Type} (B : Nat) (e : TypeId) (sz : Nat) (R : List Value → α → Prop) (l : List α) (v : Value) (w : World) : Prop :=
  ∃ xs, w.ownsRow B e sz v l.length xs ∧ Chunks sz R xs l
def Owned {α : Type} (w : World) (e : TypeId) (sz : Nat) (R : List Value → α → Prop) (l : List α) (v : Value) (w' : World) : Prop := OwnL w.heap.size e sz R l v w' ∧ Below w.heap.size w w'
theorem Owned.mk {α : Type} {w : World} {e : TypeId} {sz n : Nat} {R : List Value → α → Prop} {l : List α} {xs : List Value} {v' : Value} {w' : World} (h : w'.ownsRow w.heap.size e sz v' n xs) (hn : n = l.length) (hx : Chunks sz R xs l) (hb : Below w.heap.size w w') :
    Owned w e sz R l v' w' := ⟨⟨xs, hn ▸ h, hx⟩, hb⟩
theorem Owned.nil {α : Type} {w : World} {e : TypeId} {sz n : Nat} {R : List Value → α → Prop} {l : List α} {xs : List Value} (hn : n = l.length) (hx : Chunks sz R xs l) (h0 : ¬ 0 < n) : Owned w e sz R l (.slice none 0 0) w := by
  obtain rfl : l = [] := List.eq_nil_of_length_eq_zero (by omega)
  exact ⟨⟨[], World.ownsRow_nil _ _ _ _, rfl⟩, Below.refl _ _⟩
section
variable {α : Type} {B B' : Nat} {w w' : World} {e : TypeId} {sz : Nat} {R : List Value → α → Prop} {l : List α} {v : Value}
theorem OwnL.nil : OwnL B e sz R [] (.slice none 0 0) w := ⟨[], World.ownsRow_nil _ _ _ _, rfl⟩
theorem OwnL.shape (h : OwnL B e sz R l v w) : ∃ p n c, v = .slice p n c := by
  obtain ⟨xs, ho, _⟩ := h
  rcases ho.2 with ⟨h0, _⟩ | ⟨g, cap, cur, hv, _⟩
  · exact ⟨_, _, _, h0⟩
  · exact ⟨_, _, _, hv⟩
theorem OwnL.len {p : Option Addr} {n c : Nat} (h : OwnL B e sz R l (.slice p n c) w) : n = l.length := by
  obtain ⟨xs, ho, _⟩ := h
  rcases ho.2 with ⟨h0, h1⟩ | ⟨g, cap, cur, hv, _⟩
  · cases h0; omega
  · cases hv; rfl
theorem OwnL.mono (h : OwnL B e sz R l v w) (hB : B' ≤ B) : OwnL B' e sz R l v w := by
  obtain ⟨xs, ho, hc⟩ := h
  refine ⟨xs, ⟨ho.1, ?_⟩, hc⟩
  rcases ho.2 with h0 | ⟨g, cap, cur, hv, hg, rest⟩
  · exact .inl h0
  · exact .inr ⟨g, cap, cur, hv, Nat.le_trans hB hg, rest⟩
theorem OwnL.keep (h : OwnL B e sz R l v w) (ha : ∀ k, v.ownBlock = some k → w'.heap[k]? = w.heap[k]?) : OwnL B e sz R l v w' := by
  obtain ⟨xs, ho, hc⟩ := h
  refine ⟨xs, ⟨ho.1, ?_⟩, hc⟩
  rcases ho.2 with h0 | ⟨g, cap, cur, hv, hg, hh, rest⟩
  · exact .inl h0
  · exact .inr ⟨g, cap, cur, hv, hg, by rw [ha g (by rw [hv]; rfl)]; exact hh, rest⟩
theorem OwnL.lt (h : OwnL B e sz R l v w) : ∀ k, v.ownBlock = some k → B ≤ k ∧ k < w.heap.size := by
  obtain ⟨xs, ho, _⟩ := h
  exact ho.lt
theorem OwnL.later (h : OwnL B e sz R l v w) (hb : Below w.heap.size w w') : OwnL B e sz R l v w' := h.keep fun k hk => hb.block k (h.lt k hk).2
theorem OwnL.sli {F : Foot} (h : OwnL B e sz R l v w) (hF : ∀ k, B ≤ k → k < w.heap.size → F k) : Sli F w sz R v l := by
  obtain ⟨xs, ho, hc⟩ := h
  exact Sli.of_own ho rfl hc hF
end
theorem Agree.below {F : Foot} {w w' : World} (h : Below w.heap.size w w') (hF : ∀ k, F k → k < w.heap.size) : Agree F w w' := fun k hk => h.block k (hF k hk)
theorem Below.of_call {w a b : World} (h : Below w.heap.size w a) (k : Below a.heap.size a b) : Below w.heap.size w b := h.trans (k.mono h.size)
theorem Below.drewN {B : Nat} {a w : World} (h : Below B a w) (n : Nat) : Below B a (w.drewN n) := ⟨h.os, h.tape, h.output, h.size, h.block⟩
structure Goes (w : World) (N : Nat) (bs : List (Nat × Array Value × TypeId)) (W : World) : Prop where
  below : Below w.heap.size w W
  size : w.heap.size + N ≤ W.heap.size
  block : ∀ x ∈ bs, W.heap[x.1]? = some (.cells x.2.1 x.2.2)
theorem Goes.lt {w W : World} {N : Nat} {bs : List (Nat × Array Value × TypeId)} (h : Goes w N bs W) {x : Nat × Array Value × TypeId} (hx : x ∈ bs) : x.1 < W.heap.size := (Array.getElem?_eq_some_iff.1 (h.block x hx)).1
theorem Goes.later {w W W' : World} {N : Nat} {bs : List (Nat × Array Value × TypeId)} (h : Goes w N bs W) (hb : Below W.heap.size W W') : Goes w N bs W' :=
  ⟨Below.of_call h.below hb, Nat.le_trans h.size hb.size, fun x hx => by rw [hb.block _ (h.lt hx)]; exact h.block x hx⟩
theorem Goes.drew {w W : World} {N : Nat} {bs : List (Nat × Array Value × TypeId)} (h : Goes w N bs W) : Goes w N bs W.drew := h.later (Below.refl _ _).drew
theorem Goes.drewN {w W : World} {N : Nat} {bs : List (Nat × Array Value × TypeId)} (h : Goes w N bs W) (n : Nat) : Goes w N bs (W.drewN n) := h.later ⟨rfl, rfl, rfl, Nat.le_refl _, fun _ _ => rfl⟩
theorem Goes.at {w W : World} {N : Nat} {bs : List (Nat × Array Value × TypeId)} (h : Goes w N bs W) {k : Nat} {cs : Array Value} {t : TypeId} (hx : (k, cs, t) ∈ bs) : W.heap[k]? = some (.cells cs t) := h.block _ hx
theorem Goes.refl (w : World) : Goes w 0 [] w := ⟨Below.refl _ _, Nat.le_refl _, by simp⟩
theorem Goes.push {w W : World} {N : Nat} {bs : List (Nat × Array Value × TypeId)} (h : Goes w N bs W) (cs : Array Value) (t : TypeId) : Goes w (N + 1) ((W.heap.size, cs, t) :: bs) (W.alloc (.cells cs t)) := by
  refine ⟨h.below.alloc (by have := h.size; omega) _, by have := h.size; simp; omega, fun x hx => ?_⟩
  rcases List.mem_cons.1 hx with rfl | hx
  · exact heap_alloc_new W _
  · rw [Below.heap_alloc W _ _ (h.lt hx)]; exact h.block x hx
theorem Goes.alloc {w W : World} {N : Nat} {bs : List (Nat × Array Value × TypeId)} (h : Goes w N bs W) (hs : W.heap.size = w.heap.size + N) (cs : Array Value) (t : TypeId) : Goes w (N + 1) ((w.heap.size + N, cs, t) :: bs) (W.alloc (.cells cs t)) := by
  rw [← hs]; exact h.push cs t
theorem Goes.frozenAt {w W : World} {N : Nat} {bs : List (Nat × Array Value × TypeId)} (h : Goes w N bs W) (i : Nat) {k : Nat} {cs : Array Value} {t : TypeId} (hx : bs[i]? = some (k, cs, t)) (j : Nat) : W.frozen? ⟨k, j, none⟩ = false :=
  frozen_of_row W k j cs t (h.at (List.mem_of_getElem? hx))
theorem Goes.sub {w W : World} {N : Nat} {bs bs' : List (Nat × Array Value × TypeId)} (h : Goes w N bs W) (hs : ∀ x ∈ bs', x ∈ bs) : Goes w N bs' W := ⟨h.below, h.size, fun x hx => h.block x (hs x hx)⟩
theorem Goes.setCell {w W : World} {N : Nat} {bs : List (Nat × Array Value × TypeId)} (h : Goes w N bs W) {k j : Nat} (u : Value) (hk : w.heap.size ≤ k) (hne : ∀ x ∈ bs, x.1 ≠ k) : Goes w N bs (W.setCell ⟨k, j, none⟩ u) := by
  refine ⟨h.below.setCell hk u, by simpa using h.size, fun x hx => ?_⟩
  rw [heap_setCell_other W _ _ _ (hne x hx)]; exact h.block x hx
structure Mod (S : Foot) (w w' : World) : Prop where
  os : w'.os = w.os
  tape : w'.tape = w.tape
  output : w'.output = w.output
  size : w.heap.size ≤ w'.heap.size
  block : ∀ k, k < w.heap.size → ¬ S k → w'.heap[k]? = w.heap[k]?
section
variable {S T : Foot} {a b c w : World}
theorem Mod.refl (S : Foot) (w : World) : Mod S w w := ⟨rfl, rfl, rfl, Nat.le_refl _, fun _ _ _ => rfl⟩
theorem Mod.trans (h : Mod S a b) (k : Mod S b c) : Mod S a c := ⟨k.os.trans h.os, k.tape.trans h.tape, k.output.trans h.output, Nat.le_trans h.size k.size, fun i hi hs => (k.block i (Nat.lt_of_lt_of_le hi h.size) hs).trans (h.block i hi hs)⟩
theorem Mod.mono (h : Mod S a b) (hs : ∀ k, k < a.heap.size → S k → T k) : Mod T a b := ⟨h.os, h.tape, h.output, h.size, fun k hk ht => h.block k hk fun h => ht (hs k hk h)⟩
theorem Mod.trans' (h : Mod S a b) (k : Mod T b c) (hT : ∀ i, i < a.heap.size → T i → S i) : Mod S a c := ⟨k.os.trans h.os, k.tape.trans h.tape, k.output.trans h.output, Nat.le_trans h.size k.size, fun i hi hs => (k.block i (Nat.lt_of_lt_of_le hi h.size) fun ht => hs (hT i hi ht)).trans (h.block i hi hs)⟩
theorem Mod.of_below (h : Below w.heap.size w a) : Mod S w a := ⟨h.os, h.tape, h.output, h.size, fun k hk _ => h.block k hk⟩
theorem Mod.to_below {B : Nat} (h : Mod S w a) (hB : B ≤ w.heap.size) (hS : ∀ k, S k → B ≤ k) : Below B w a := ⟨h.os, h.tape, h.output, h.size, fun k hk => h.block k (by omega) fun hs => by have := hS k hs; omega⟩
theorem Mod.drew (h : Mod S a w) : Mod S a w.drew := ⟨h.os, h.tape, h.output, h.size, h.block⟩
theorem Mod.drewN (h : Mod S a w) (n : Nat) : Mod S a (w.drewN n) := ⟨h.os, h.tape, h.output, h.size, h.block⟩
theorem Mod.alloc (h : Mod S a w) (o : Obj) : Mod S a (w.alloc o) := h.trans' (T := fun _ => False) (Mod.of_below ((Below.refl _ _).alloc (Nat.le_refl _) o)) (fun _ _ h => h.elim)
theorem Mod.setCell (h : Mod S a w) {p : Addr} (hp : p.block < a.heap.size → S p.block) (u : Value) : Mod S a (w.setCell p u) :=
  h.trans' (T := fun k => k = p.block) ⟨rfl, rfl, rfl, by simp [World.setCell], fun k _ hk => Below.heap_setCell _ _ _ _ hk⟩ (fun i hi e => by subst e; exact hp hi)
end
theorem Goes.mod {w W W' : World} {N : Nat} {bs : List (Nat × Array Value × TypeId)} {S : Foot} (h : Goes w N bs W) (hm : Mod S W W') (hS : ∀ k, S k → w.heap.size ≤ k) (hb : ∀ x ∈ bs, ¬ S x.1) : Goes w N bs W' :=
  ⟨h.below.trans (hm.to_below h.below.size hS), Nat.le_trans h.size hm.size, fun x hx => by rw [hm.block _ (h.lt hx) (hb x hx)]; exact h.block x hx⟩
theorem OwnL.mod {α : Type} {B : Nat} {w w' : World} {e : TypeId} {sz : Nat} {R : List Value → α → Prop} {l : List α} {v : Value} {S : Foot} (h : OwnL B e sz R l v w) (hm : Mod S w w') (hS : ∀ k, v.ownBlock = some k → ¬ S k) : OwnL B e sz R l v w' :=
  h.keep fun k hk => hm.block k (h.lt k hk).2 (hS k hk)
theorem Chunks.set : ∀ {α : Type} {sz : Nat} {R : List Value → α → Prop} {l : List α} {xs : List Value} (k : Nat) {x : α} {cs : List Value}, Chunks sz R xs l → R cs x → cs.length = sz → k < l.length → Chunks sz R (xs.take (k * sz) ++ cs ++ xs.drop ((k + 1) * sz)) (l.set k x)
  | _, _, _, [], _, _, _, _, _, _, _, hk => absurd hk (by simp)
  | α, sz, R, y :: l, xs, 0, x, cs, h, hr, hc, _ => by
    obtain ⟨ds, rest, rfl, h1, h3, h2⟩ := h
    refine ⟨cs, rest, ?_, hc, hr, h2⟩
    rw [Nat.zero_mul, List.take_zero, List.nil_append, Nat.zero_add, Nat.one_mul, ← h1, List.drop_left]
  | α, sz, R, y :: l, xs, k + 1, x, cs, h, hr, hc, hk => by
    obtain ⟨ds, rest, rfl, h1, h3, h2⟩ := h
    refine ⟨ds, rest.take (k * sz) ++ cs ++ rest.drop ((k + 1) * sz), ?_, h1, h3, Chunks.set k h2 hr hc (by simpa using hk)⟩
    have e1 : (k + 1) * sz = ds.length + k * sz := by rw [h1, Nat.succ_mul]; omega
    have e2 : (k + 1 + 1) * sz = ds.length + (k + 1) * sz := by rw [h1, Nat.succ_mul (k + 1)]; omega
    rw [e2, e1, List.take_length_add_append, List.drop_length_add_append, ← e1]
    simp [List.append_assoc]
def setAll (xs : List Value) (o : Nat) : List Value → List Value
  | [] => xs
  | c :: cs => setAll (xs.set o c) (o + 1) cs
theorem setAll_eq : ∀ (cs xs : List Value) (o : Nat), o + cs.length ≤ xs.length → setAll xs o cs = xs.take o ++ cs ++ xs.drop (o + cs.length)
  | [], xs, o, _ => by simp [setAll]
  | c :: cs, xs, o, h => by
    simp only [List.length_cons] at h ⊢
    rw [setAll, setAll_eq cs _ _ (by simp; omega)]
    have : (xs.set o c).take (o + 1) = xs.take o ++ [c] := by
      rw [List.take_succ_eq_append_getElem (by simp; omega), List.take_set_of_le (Nat.le_refl _)]; simp
    rw [this, List.drop_set_of_lt (by omega)]
    simp [Nat.add_assoc, Nat.add_comm 1]
def setCells (w : World) (b o : Nat) : List Value → World
  | [] => w
  | c :: cs => setCells (w.setCell ⟨b, o, none⟩ c) b (o + 1) cs
theorem OwnL.put {α : Type} {B : Nat} {w : World} {e : TypeId} {sz : Nat} {R : List Value → α → Prop} {l : List α} {g n c : Nat} (h : OwnL B e sz R l (.slice (some ⟨g, 0, none⟩) n c) w) (hn : n = l.length) (k : Nat) {x : α} {cs : List Value} (hr : R cs x) (hc : cs.length = sz) (hk : k < l.length) :
    OwnL B e sz R (l.set k x) (.slice (some ⟨g, 0, none⟩) n c) (setCells w g (k * sz) cs) ∧ Mod (fun i => i = g) w (setCells w g (k * sz) cs) := by
  obtain ⟨xs, ho, hx⟩ := h
  have key : ∀ (cs : List Value) (xs : List Value) (w : World) (o : Nat), w.ownsRow B e sz (.slice (some ⟨g, 0, none⟩) n c) l.length xs →
      (setCells w g o cs).ownsRow B e sz (.slice (some ⟨g, 0, none⟩) n c) l.length (setAll xs o cs) ∧ Mod (fun i => i = g) w (setCells w g o cs) := by
    intro cs
    induction cs with
    | nil => intro xs w o h; exact ⟨h, Mod.refl _ _⟩
    | cons d ds ih =>
      intro xs w o h
      subst hn
      have h1 := h.stored o d
      obtain ⟨i1, i2⟩ := ih _ _ (o + 1) h1.1
      exact ⟨i1, Mod.trans (S := fun i => i = g) (Mod.setCell (S := fun i => i = g) (Mod.refl _ w) (p := ⟨g, o, none⟩) (fun _ => rfl) d) i2⟩
  obtain ⟨k1, k2⟩ := key cs xs w (k * sz) ho
  have hlen := hx.length
  rw [setAll_eq cs xs _ (by rw [hc, hlen, ← Nat.succ_mul]; exact Nat.mul_le_mul_right _ hk)] at k1
  refine ⟨⟨_, by rw [List.length_set]; exact k1, ?_⟩, k2⟩
  have := hx.set k hr hc hk
  rwa [show (k + 1) * sz = k * sz + cs.length from by rw [hc, Nat.succ_mul]] at this
theorem OwnL.head {α : Type} {B : Nat} {w : World} {e : TypeId} {sz : Nat} {R : List Value → α → Prop} {l : List α} {p : Option Addr} {n c : Nat} (h : OwnL B e sz R l (.slice p n c) w) (h0 : 0 < l.length) :
    ∃ g, p = some ⟨g, 0, none⟩ ∧ n = l.length ∧ B ≤ g ∧ g < w.heap.size ∧ ∀ j, w.frozen? ⟨g, j, none⟩ = false := by
  obtain ⟨xs, ho, hx⟩ := h
  have hf := ho.2
  rcases ho.2 with ⟨h1, h2⟩ | ⟨g, cap, cur, hv, hg, hh, rest⟩
  · omega
  · cases hv
    exact ⟨g, rfl, rfl, hg, (Array.getElem?_eq_some_iff.1 hh).1, fun j => ho.frozenAt j⟩
theorem OwnL.of_block {α : Type} {B : Nat} {w : World} {e : TypeId} {sz g n : Nat} {R : List Value → α → Prop} {l : List α} {cur : Array Value} (hg : w.heap[g]? = some (.cells cur e (0, 0))) (hB : B ≤ g) (hx : Chunks sz R cur.toList l) (hn : n = l.length) (hm : n ≤ 9223372036854775807) : OwnL B e sz R l (.slice (some ⟨g, 0, none⟩) n n) w := by
  subst hn
  have hl := hx.length
  refine ⟨cur.toList, ⟨hl, .inr ⟨g, _, cur, rfl, hB, hg, Nat.le_refl _, hm, by simpa using hl, ?_⟩⟩, hx⟩
  rw [List.take_of_length_le (by omega)]
theorem Sli.of_block {α : Type} {F : Foot} {w : World} {e : TypeId} {sz g n : Nat} {R : List Value → α → Prop} {l : List α} {cur : Array Value} (hg : w.heap[g]? = some (.cells cur e (0, 0))) (hF : F g) (hx : Chunks sz R cur.toList l) (hn : n = l.length) (hm : n ≤ 9223372036854775807) : Sli F w sz R (.slice (some ⟨g, 0, none⟩) n n) l := by
  refine ⟨_, _, _, cur.toList, rfl, hn, Nat.le_refl _, hm, hx, fun _ => ⟨g, 0, rfl, hF, fun j u hu => ?_⟩⟩
  rw [Nat.zero_add, cell_of_row w g j cur e (0, 0) hg]
  simpa using hu
theorem Goes.store {w W : World} {N : Nat} {bs bs' : List (Nat × Array Value × TypeId)} (h : Goes w N bs W) {k : Nat} {cs : Array Value} {t : TypeId} (hx : (k, cs, t) ∈ bs) (hk : w.heap.size ≤ k) (j : Nat) (u : Value)
    (hb : ∀ x ∈ bs', x = (k, cs.setIfInBounds j u, t) ∨ (x ∈ bs ∧ x.1 ≠ k)) : Goes w N bs' (W.setCell ⟨k, j, none⟩ u) := by
  refine ⟨h.below.setCell hk u, by simpa using h.size, fun x hx' => ?_⟩
  rcases hb x hx' with rfl | ⟨h1, h2⟩
  · exact heap_setCell_same W k j cs t u (h.at hx)
  · rw [heap_setCell_other W _ _ _ h2]; exact h.block x h1
structure GoesB (w : World) (bs : List (Nat × Array Value × TypeId)) (W0 W : World) : Prop where
  goes : Goes w 0 bs W
  since : Below W0.heap.size W0 W
theorem GoesB.later {w W0 W W' : World} {bs : List (Nat × Array Value × TypeId)} (h : GoesB w bs W0 W) (hb : Below W.heap.size W W') : GoesB w bs W0 W' := ⟨h.goes.later hb, Below.of_call h.since hb⟩
theorem GoesB.drew {w W0 W : World} {bs : List (Nat × Array Value × TypeId)} (h : GoesB w bs W0 W) : GoesB w bs W0 W.drew := h.later (Below.refl _ _).drew
theorem GoesB.alloc {w W0 W : World} {bs : List (Nat × Array Value × TypeId)} (h : GoesB w bs W0 W) (o : Obj) : GoesB w bs W0 (W.alloc o) := h.later ((Below.refl _ _).alloc (Nat.le_refl _) _)
theorem OwnL.off {α : Type} {B : Nat} {w : World} {e : TypeId} {sz : Nat} {R : List Value → α → Prop} {l : List α} {v : Value} (h : OwnL B e sz R l v w) {b : Nat} {cs : Array Value} {t : TypeId} {fr : Nat × Nat} (hblk : w.heap[b]? = some (.cells cs t fr)) (hne : t ≠ e) : v.ownBlock ≠ some b := by
  intro hk
  obtain ⟨xs, ho, _⟩ := h
  rcases ho.2 with ⟨rfl, _⟩ | ⟨g, cap, cur, rfl, _, hh, _⟩
  · cases hk
  · cases hk
    rw [hh] at hblk
    simp only [Option.some.injEq, Obj.cells.injEq] at hblk
    exact hne hblk.2.1.symm
end Go.Proofs.YtgangmegcejllaaDoor
