import Derived.Test.YtohkfpobgjkpdaaDoorSess
import Derived.Deep.DeepAppendRoom
namespace Go.Proofs.YtohkfpobgjkpdaaDoor
open Go Go.RowKit
theorem putL_left {a b v : List Value} {i : Nat} (h : i + v.length ≤ a.length) : putL (a ++ b) i v = putL a i v ++ b := by
  unfold putL
  rw [List.take_append_of_le_length (by omega), List.drop_append_of_le_length (by omega)]
  simp [List.append_assoc]
theorem putL_right {a b v : List Value} {i j : Nat} (h : i = a.length + j) : putL (a ++ b) i v = a ++ putL b j v := by
  subst h
  unfold putL
  rw [List.take_length_add_append, Nat.add_assoc, List.drop_length_add_append]
  simp [List.append_assoc]
theorem putL_length {a v : List Value} {i : Nat} (h : i + v.length ≤ a.length) : (putL a i v).length = a.length := by
  unfold putL; simp; omega
theorem Chunks.part {α : Type} {sz : Nat} {R : List Value → α → Prop} {v : List Value} {i : Nat} {y u : α} (hR : ∀ cs, R cs y → cs.length = sz → R (putL cs i v) u) (hv : i + v.length ≤ sz) :
    ∀ {l : List α} {xs : List Value} {k : Nat}, Chunks sz R xs l → l[k]? = some y → Chunks sz R (putL xs (k * sz + i) v) (l.set k u)
  | [], _, _, _, hx => by simp at hx
  | z :: l, xs, 0, h, hx => by
    obtain ⟨cs, rest, rfl, h1, h3, h2⟩ := h
    simp at hx; subst hx
    refine ⟨putL cs i v, rest, ?_, by rw [putL_length (by omega), h1], hR cs h3 h1, h2⟩
    rw [Nat.zero_mul, Nat.zero_add]; exact putL_left (by omega)
  | z :: l, xs, k + 1, h, hx => by
    obtain ⟨cs, rest, rfl, h1, h3, h2⟩ := h
    refine ⟨cs, putL rest (k * sz + i) v, putL_right (by rw [h1, Nat.succ_mul]; omega), h1, h3, Chunks.part hR hv h2 (by simpa using hx)⟩
theorem OwnL.part {α : Type} {B : Nat} {w : World} {e : TypeId} {sz : Nat} {R : List Value → α → Prop} {l : List α} {g n c : Nat} (h : OwnL B e sz R l (.slice (some ⟨g, 0, none⟩) n c) w) (hn : n = l.length) (k i : Nat) {y u : α} {v : List Value} (hk : l[k]? = some y)
    (hR : ∀ cs, R cs y → cs.length = sz → R (putL cs i v) u) (hv : i + v.length ≤ sz) :
    OwnL B e sz R (l.set k u) (.slice (some ⟨g, 0, none⟩) n c) (setCells w g (k * sz + i) v) ∧ Mod (fun i => i = g) w (setCells w g (k * sz + i) v) := by
  obtain ⟨xs, ho, hx⟩ := h
  have key : ∀ (cs : List Value) (xs : List Value) (w : World) (o : Nat), w.ownsRow B e sz (.slice (some ⟨g, 0, none⟩) n c) l.length xs →
      (setCells w g o cs).ownsRow B e sz (.slice (some ⟨g, 0, none⟩) n c) l.length (setAll xs o cs) ∧ Mod (fun i => i = g) w (setCells w g o cs) := by
    intro cs
    induction cs with
    | nil => intro xs w o h; exact ⟨h, Mod.refl _ _⟩
    | cons d ds ih =>
      intro xs w o h
      subst hn
      have h1 := h.stored o d
      obtain ⟨i1, i2⟩ := ih _ _ (o + 1) h1.1
      exact ⟨i1, Mod.trans (S := fun i => i = g) (Mod.setCell (S := fun i => i = g) (Mod.refl _ w) (p := ⟨g, o, none⟩) (fun _ => rfl) d) i2⟩
  obtain ⟨k1, k2⟩ := key v xs w (k * sz + i) ho
  have hlen := hx.length
  have hlt := (List.getElem?_eq_some_iff.1 hk).1
  have hle : k * sz + sz ≤ l.length * sz := by rw [← Nat.succ_mul]; exact Nat.mul_le_mul_right _ hlt
  rw [setAll_putL xs _ _ (by omega)] at k1
  exact ⟨⟨_, by rw [List.length_set]; exact k1, hx.part hR hv hk⟩, k2⟩
theorem set_get {α : Type} {l : List α} {k : Nat} {x : α} (h : l[k]? = some x) : l.set k x = l := by
  obtain ⟨h1, rfl⟩ := List.getElem?_eq_some_iff.1 h
  exact List.set_getElem_self h1
end Go.Proofs.YtohkfpobgjkpdaaDoor
