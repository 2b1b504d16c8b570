import Derived.Test.YtegkmbkbaenkcaaStar
import Derived.Test.YtegkmbkbaenkcaaAuto
namespace Go.Proofs.Ytegkmbkbaenkcaa
open Go Go.RowKit
structure Tre (α Λ : Type) where
  C : α → Λ → List Value
  G : α → Λ → List Fact
  one : ∀ x r, ∀ u ∈ C x r, u.oneCell' = true
def Tre.pair {α Λ : Type} (T : Tre α Λ) : Rep (α × Λ) := ⟨fun _ _ cs z => cs = T.C z.1 z.2, fun _ _ h => h, fun h u hu => T.one _ _ u (h ▸ hu)⟩
def Star : List Fact → Foot → Foot → World → Prop
  | [], _, _, _ => True
  | φ :: l, N, F, w => ∃ A B : Foot, (∀ q, A q → N q) ∧ (∀ q, B q → N q ∧ ¬ A q) ∧ φ.op A F w ∧ Star l B F w
theorem Star.good : ∀ {l : List Fact} {N N' F G : Foot} {w w' : World}, (∀ k, N k → N' k) → Agree N w w' → (∀ k, F k → G k) → Agree F w w' → Star l N F w → Star l N' G w'
  | [], _, _, _, _, _, _, _, _, _, _, _ => trivial
  | φ :: l, N, N', F, G, w, w', hN, ha, hF, hb, ⟨A, B, h1, h2, h3, h4⟩ =>
    ⟨A, B, fun q hq => hN q (h1 q hq), fun q hq => ⟨hN q (h2 q hq).1, (h2 q hq).2⟩, φ.opgood (fun _ h => h) (fun q hq => ha q (h1 q hq)) hF hb h3, Star.good (fun _ h => h) (fun q hq => ha q (h2 q hq).1) hF hb h4⟩
def Bag {α Λ : Type} (T : Tre α Λ) (zs : List (α × Λ)) (o : Option Nat) (N F : Foot) (w : World) : Prop :=
  ∃ Ns : Nat → Foot, (∀ i q, Ns i q → N q) ∧ (∀ i j q, i ≠ j → Ns i q → ¬ Ns j q) ∧ ∀ i z, zs[i]? = some z → o ≠ some i → Star (T.G z.1 z.2) (Ns i) F w
section
variable {α Λ : Type} {T : Tre α Λ} {zs : List (α × Λ)} {o : Option Nat}
theorem Bag.good {N N' F G : Foot} {w w' : World} (hN : ∀ k, N k → N' k) (ha : Agree N w w') (hF : ∀ k, F k → G k) (hb : Agree F w w') (h : Bag T zs o N F w) : Bag T zs o N' G w' := by
  obtain ⟨Ns, h1, h2, h3⟩ := h
  exact ⟨Ns, fun i q hq => hN q (h1 i q hq), h2, fun i z hz ho => (h3 i z hz ho).good (fun _ h => h) (fun q hq => ha q (h1 i q hq)) hF hb⟩
def bagF (T : Tre α Λ) (zs : List (α × Λ)) (o : Option Nat) : Fact := .duo (fun N F w => Bag T zs o N F w) Bag.good
def TreeP (T : Tre α Λ) (e sz : Nat) (v : Value) (xs : List α) (N F : Foot) (w : World) : Prop :=
  ∃ (zs : List (α × Λ)) (A B : Foot), zs.map (·.1) = xs ∧ (∀ q, A q → N q) ∧ (∀ q, B q → N q ∧ ¬ A q) ∧ (Fact.own e sz T.pair v zs).op A F w ∧ (bagF T zs none).op B F w
theorem TreeP.good {e sz : Nat} {v : Value} {xs : List α} {N N' F G : Foot} {w w' : World} (hN : ∀ k, N k → N' k) (ha : Agree N w w') (hF : ∀ k, F k → G k) (hb : Agree F w w') (h : TreeP T e sz v xs N F w) : TreeP T e sz v xs N' G w' := by
  obtain ⟨zs, A, B, h0, h1, h2, h3, h4⟩ := h
  exact ⟨zs, A, B, h0, fun q hq => hN q (h1 q hq), fun q hq => ⟨hN q (h2 q hq).1, (h2 q hq).2⟩, Fact.opgood _ (fun _ h => h) (fun q hq => ha q (h1 q hq)) hF hb h3, Fact.opgood _ (fun _ h => h) (fun q hq => ha q (h2 q hq).1) hF hb h4⟩
end
section
variable {C : Ctx} {Φ : List Fact} {w : World}
variable {H : List Fact} {α Λ : Type} {T : Tre α Λ} {zs : List (α × Λ)} {x : α} {r : Λ}
theorem Bag.sub {ys : List (α × Λ)} {N F : Foot} (f : Nat → Nat) (hf : ∀ i j, f i = f j → i = j) (hy : ∀ i z, ys[i]? = some z → zs[f i]? = some z) (h : Bag T zs none N F w) : Bag T ys none N F w := by
  obtain ⟨Ns, a1, a2, a3⟩ := h
  exact ⟨fun i => Ns (f i), fun i q hq => a1 _ q hq, fun i j q hne hq hq' => a2 _ _ q (fun e => hne (hf _ _ e)) hq hq', fun i z hz _ => a3 _ z (hy i z hz) (by simp)⟩
end
section
variable {α Λ : Type} {T : Tre α Λ} {R : Rep α} {e sz m c : Nat} {p : Option Addr} {xs : List α} {A F G : Foot} {w : World}
theorem Bag.del {zs : List (α × Λ)} {k : Nat} {N F : Foot} (h : Bag T zs none N F w) : Bag T (zs.take k ++ zs.drop (k + 1)) none N F w := by
  refine h.sub (fun i => if i < k then i else i + 1) (fun i j e => by split at e <;> split at e <;> omega) (fun i z hz => ?_)
  rw [← List.eraseIdx_eq_take_drop_succ, List.getElem?_eraseIdx] at hz
  split at hz <;> rename_i h1 <;> simp [h1, hz]
end
section rules
variable {P : Program} {C : Ctx} {n : Nat} {Q : Exit → Act → World → Prop} {Φ Φ' : List Fact} {H H' : List Fact} {S S' : List (Nat × Value)} {ops : Array Oper} {rest : List Oper} {o : Oper} {d : Nat} {c : Code} {e : Exit}
theorem wl_sh (H' : List Fact) (hs : ∀ w, Holds C Φ H w → Holds C Φ H' w) (next : WL P C n Q Φ H' S ops rest) : WL P C n Q Φ H S ops rest := fun a w hf hw => next a w hf (hs w hw)
theorem we_sh (H' : List Fact) (hs : ∀ w, Holds C Φ H w → Holds C Φ H' w) (next : WE C n Q Φ H' S e) : WE C n Q Φ H S e := fun a w hf hw => next a w hf (hs w hw)
variable {α Λ : Type} {T : Tre α Λ} {et sz : Nat} {v : Value} {xs : List α}
end rules
end Go.Proofs.Ytegkmbkbaenkcaa
