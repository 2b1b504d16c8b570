import Derived.Test.YtkliokdpcdhjcaaDoorStar
namespace Go.Proofs.YtkliokdpcdhjcaaDoor
open Go Go.RowKit
structure Tre (α Λ : Type) where
  C : α → Λ → List Value
  G : α → Λ → List Fact
  one : ∀ x r, ∀ u ∈ C x r, u.oneCell' = true
def Tre.pair {α Λ : Type} (T : Tre α Λ) : Rep (α × Λ) := ⟨fun _ _ cs z => cs = T.C z.1 z.2, fun _ _ h => h, fun h u hu => T.one _ _ u (h ▸ hu)⟩
def Star : List Fact → Foot → Foot → World → Prop
  | [], _, _, _ => True
  | φ :: l, N, F, w => ∃ A B : Foot, (∀ q, A q → N q) ∧ (∀ q, B q → N q ∧ ¬ A q) ∧ φ.op A F w ∧ Star l B F w
theorem Star.good : ∀ {l : List Fact} {N N' F G : Foot} {w w' : World}, (∀ k, N k → N' k) → Agree N w w' → (∀ k, F k → G k) → Agree F w w' → Star l N F w → Star l N' G w'
  | [], _, _, _, _, _, _, _, _, _, _, _ => trivial
  | φ :: l, N, N', F, G, w, w', hN, ha, hF, hb, ⟨A, B, h1, h2, h3, h4⟩ =>
    ⟨A, B, fun q hq => hN q (h1 q hq), fun q hq => ⟨hN q (h2 q hq).1, (h2 q hq).2⟩, φ.opgood (fun _ h => h) (fun q hq => ha q (h1 q hq)) hF hb h3, Star.good (fun _ h => h) (fun q hq => ha q (h2 q hq).1) hF hb h4⟩
def Bag {α Λ : Type} (T : Tre α Λ) (zs : List (α × Λ)) (o : Option Nat) (N F : Foot) (w : World) : Prop :=
  ∃ Ns : Nat → Foot, (∀ i q, Ns i q → N q) ∧ (∀ i j q, i ≠ j → Ns i q → ¬ Ns j q) ∧ ∀ i z, zs[i]? = some z → o ≠ some i → Star (T.G z.1 z.2) (Ns i) F w
section
variable {α Λ : Type} {T : Tre α Λ} {zs : List (α × Λ)} {o : Option Nat}
theorem Bag.good {N N' F G : Foot} {w w' : World} (hN : ∀ k, N k → N' k) (ha : Agree N w w') (hF : ∀ k, F k → G k) (hb : Agree F w w') (h : Bag T zs o N F w) : Bag T zs o N' G w' := by
  obtain ⟨Ns, h1, h2, h3⟩ := h
  exact ⟨Ns, fun i q hq => hN q (h1 i q hq), h2, fun i z hz ho => (h3 i z hz ho).good (fun _ h => h) (fun q hq => ha q (h1 i q hq)) hF hb⟩
def bagF (T : Tre α Λ) (zs : List (α × Λ)) (o : Option Nat) : Fact := .duo (fun N F w => Bag T zs o N F w) Bag.good
def TreeP (T : Tre α Λ) (e sz : Nat) (v : Value) (xs : List α) (N F : Foot) (w : World) : Prop :=
  ∃ (zs : List (α × Λ)) (A B : Foot), zs.map (·.1) = xs ∧ (∀ q, A q → N q) ∧ (∀ q, B q → N q ∧ ¬ A q) ∧ (Fact.own e sz T.pair v zs).op A F w ∧ (bagF T zs none).op B F w
theorem TreeP.good {e sz : Nat} {v : Value} {xs : List α} {N N' F G : Foot} {w w' : World} (hN : ∀ k, N k → N' k) (ha : Agree N w w') (hF : ∀ k, F k → G k) (hb : Agree F w w') (h : TreeP T e sz v xs N F w) : TreeP T e sz v xs N' G w' := by
  obtain ⟨zs, A, B, h0, h1, h2, h3, h4⟩ := h
  exact ⟨zs, A, B, h0, fun q hq => hN q (h1 q hq), fun q hq => ⟨hN q (h2 q hq).1, (h2 q hq).2⟩, Fact.opgood _ (fun _ h => h) (fun q hq => ha q (h1 q hq)) hF hb h3, Fact.opgood _ (fun _ h => h) (fun q hq => ha q (h2 q hq).1) hF hb h4⟩
def Tre.free (T : Tre α Λ) : Prop := ∀ x r, ∀ φ ∈ T.G x r, LFree φ
theorem Star.free : ∀ {l : List Fact}, (∀ φ ∈ l, LFree φ) → ∀ N F G w, Star l N F w → Star l N G w
  | [], _, _, _, _, _, _ => trivial
  | φ :: l, hl, N, F, G, w, ⟨A, B, h1, h2, h3, h4⟩ => ⟨A, B, h1, h2, hl φ (by simp) _ _ _ _ h3, Star.free (fun ψ hψ => hl ψ (by simp [hψ])) _ _ _ _ h4⟩
end
section
variable {C : Ctx} {Φ : List Fact} {w : World}
variable {H : List Fact} {α Λ : Type} {T : Tre α Λ} {zs : List (α × Λ)} {x : α} {r : Λ}
theorem Bag.sub {ys : List (α × Λ)} {N F : Foot} (f : Nat → Nat) (hf : ∀ i j, f i = f j → i = j) (hy : ∀ i z, ys[i]? = some z → zs[f i]? = some z) (h : Bag T zs none N F w) : Bag T ys none N F w := by
  obtain ⟨Ns, a1, a2, a3⟩ := h
  exact ⟨fun i => Ns (f i), fun i q hq => a1 _ q hq, fun i j q hne hq hq' => a2 _ _ q (fun e => hne (hf _ _ e)) hq hq', fun i z hz _ => a3 _ z (hy i z hz) (by simp)⟩
end
section
variable {α β Λ Λ' : Type} {T : Tre α Λ} {T' : Tre β Λ'} {R : Rep β} {f : α → β} {e sz m c : Nat} {p : Option Addr} {xs : List α} {A F G : Foot} {w : World}
theorem sli_take {R : Rep β} {l : List β} (h : (Fact.sli sz R p c l).p F w) (k : Nat) : (Fact.sli sz R p c (l.take k)).p F w := view_to h k
theorem take_len {l : List β} {k : Nat} (h : k ≤ l.length) : (l.take k).length = k := by rw [List.length_take]; omega
end
end Go.Proofs.YtkliokdpcdhjcaaDoor
