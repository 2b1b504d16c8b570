import Derived.Test.YtegkmbkbaenkcaaSort
namespace Go.Proofs.Ytegkmbkbaenkcaa
open Go Go.RowKit Go.Shelf
section
variable {α : Type}
def cfO (cm : α → α → Option Int) (x y : α) : Int := (cm x y).getD 0
structure SortOk (cm : α → α → Option Int) (l : List α) : Prop where
  some : ∀ x ∈ l, ∀ y ∈ l, ∃ z, cm x y = some z
  irrefl : ∀ x ∈ l, ¬ cfO cm x x < 0
  trans : ∀ x ∈ l, ∀ y ∈ l, ∀ z ∈ l, cfO cm x y < 0 → cfO cm y z < 0 → cfO cm x z < 0
  ntrans : ∀ x ∈ l, ∀ y ∈ l, ∀ z ∈ l, ¬ cfO cm x y < 0 → ¬ cfO cm y z < 0 → ¬ cfO cm x z < 0
  parts : ∀ x ∈ l, ∀ y ∈ l, ¬ cfO cm x y < 0 → ¬ cfO cm y x < 0 → x = y
  len : l.length < 4611686018427387904
noncomputable def sortM (cm : α → α → Option Int) (l : List α) : Option (List α) :=
  @ite _ (SortOk cm l) (Classical.propDecidable _) (some (sortL (cfO cm) l)) none
theorem sortM_ok {cm : α → α → Option Int} {l l' : List α} (h : sortM cm l = some l') : SortOk cm l ∧ sortL (cfO cm) l = l' := by
  unfold sortM at h
  by_cases hk : SortOk cm l
  · rw [if_pos hk] at h
    exact ⟨hk, Option.some.inj h⟩
  · rw [if_neg hk] at h
    cases h
theorem sortM_is {cm : α → α → Option Int} {l l' : List α} (h : SortOk cm l) (hp : l'.Perm l) (hs : l'.Pairwise fun a b => ¬ cfO cm b a < 0) : sortM cm l = some l' := by
  unfold sortM
  rw [if_pos h, sortL_is hp hs h.parts]
theorem spec_sortM {P : Program} {f g : FuncId} {cb : Array Value} {e sz c : Nat} {arg : List Value → Value} {R : Rep α} {l l' : List α} {p : Option Addr} {Φ : List Fact} {cm : α → α → Option Int}
    (hS : SortsG P f sz arg) (hnil : ∀ (p : Option Addr) (cap : Nat) (fv : Value) (w : World), Calls P f #[.slice p 0 cap, fv] w fun e w' => e = .returned (.tuple #[]) ∧ w' = w) (eg : ∀ args w, (callFunc g args).run P w = .ok (.enter g args) w)
    (hcmp : ∀ (cs cs' : List Value) (x y : α) (z : Int) (F : Foot) (W : World), (∀ k, F k → k < W.heap.size) → (∀ φ ∈ Φ, φ.p F W) → R.p F W cs x → R.p F W cs' y → cm x y = some z → Calls P g (#[arg cs, arg cs'] ++ cb) W fun e w' => e = .returned (.int .i64 z) ∧ Mod (fun _ => False) W w')
    (hm : sortM cm l = some l') :
    Spec P f [.slice p l.length c, .func (.func g) #[] cb] Φ [.own e sz R (.slice p l.length c) l] fun v Φr Hr => v = .tuple #[] ∧ Φr = [] ∧ Hr = [.own e sz R (.slice p l.length c) l'] := by
  obtain ⟨hk, rfl⟩ := sortM_ok hm
  refine spec_sortG (cfO cm) hS hnil eg (fun cs cs' x y F W h1 h2 h3 h4 h5 h6 => ?_) hk.irrefl hk.trans hk.ntrans hk.parts hk.len
  obtain ⟨z, hz⟩ := hk.some x h5 y h6
  have : cfO cm x y = z := by unfold cfO; rw [hz]; rfl
  rw [this]
  exact hcmp cs cs' x y z F W h1 h2 h3 h4 hz
theorem cmp_spec {P : Program} {g : FuncId} {args : List Value} {Φ : List Fact} {v : Value} {F : Foot} {W : World} (h : Spec P g args Φ [] (fun u Φr Hr => u = v ∧ Φr = [] ∧ Hr = [])) (hF : ∀ k, F k → k < W.heap.size) (hΦ : ∀ φ ∈ Φ, φ.p F W) :
    Calls P g args.toArray W fun e w' => e = .returned v ∧ Mod (fun _ => False) W w' :=
  spec_calls h fun φ hφ => φ.good hF (Agree.refl _ _) (hΦ φ hφ)
theorem spec_sortR {Λ : Type} {P : Program} {f g : FuncId} {cb : Array Value} {e sz c : Nat} {arg : List Value → Value} {R : Rep α} {C : α → Λ → List Value} {Fx : α → Λ → List Fact} {l l' : List α} {p : Option Addr} {Φ : List Fact} {cm : α → α → Option Int}
    (hop : Opens R C (fun _ _ => True) Fx) (hS : SortsG P f sz arg) (hnil : ∀ (p : Option Addr) (cap : Nat) (fv : Value) (w : World), Calls P f #[.slice p 0 cap, fv] w fun e w' => e = .returned (.tuple #[]) ∧ w' = w) (eg : ∀ args w, (callFunc g args).run P w = .ok (.enter g args) w)
    (hc : ∀ x y r r' z, cm x y = some z → Spec P g ([arg (C x r), arg (C y r')] ++ cb.toList) (Fx x r ++ (Fx y r' ++ Φ)) [] fun v Φr Hr => v = .int .i64 z ∧ Φr = [] ∧ Hr = [])
    (hm : sortM cm l = some l') :
    Spec P f [.slice p l.length c, .func (.func g) #[] cb] Φ [.own e sz R (.slice p l.length c) l] fun v Φr Hr => v = .tuple #[] ∧ Φr = [] ∧ Hr = [.own e sz R (.slice p l.length c) l'] := by
  refine spec_sortM hS hnil eg (fun cs cs' x y z F W hF hΦ h1 h2 hz => ?_) hm
  obtain ⟨r, rfl, _, q1⟩ := hop _ _ _ _ h1
  obtain ⟨r', rfl, _, q2⟩ := hop _ _ _ _ h2
  have h3 := cmp_spec (W := W) (hc x y r r' z hz) hF (fun φ hφ => by
    rcases List.mem_append.1 hφ with hφ | hφ
    · exact q1 φ hφ
    · rcases List.mem_append.1 hφ with hφ | hφ
      · exact q2 φ hφ
      · exact hΦ φ hφ)
  have e : #[arg (C x r), arg (C y r')] ++ cb = ([arg (C x r), arg (C y r')] ++ cb.toList).toArray := by apply Array.ext'; simp
  rw [← e] at h3
  exact h3
end
end Go.Proofs.Ytegkmbkbaenkcaa
