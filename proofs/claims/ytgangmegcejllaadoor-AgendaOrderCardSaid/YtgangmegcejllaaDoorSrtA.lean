import Derived.Test.YtgangmegcejllaaDoorSort
import Derived.Shelf.SlSortCmp.Whole1
import Derived.Shelf.SlSortCmp.WholeK
import Derived.Shelf.SlSortCmp.NoneTotal
import Derived.Ground.SlsfProg
import Derived.Test.YtgangmegcejllaaDoorProg
namespace Go.Proofs.YtgangmegcejllaaDoor
open Go Go.RowKit Go.Shelf
section
variable {α : Type}
def cfO (cm : α → α → Option Int) (x y : α) : Int := (cm x y).getD 0
structure SortOk (cm : α → α → Option Int) (l : List α) : Prop where
  some : ∀ x ∈ l, ∀ y ∈ l, ∃ z, cm x y = some z
  irrefl : ∀ x ∈ l, ¬ cfO cm x x < 0
  trans : ∀ x ∈ l, ∀ y ∈ l, ∀ z ∈ l, cfO cm x y < 0 → cfO cm y z < 0 → cfO cm x z < 0
  ntrans : ∀ x ∈ l, ∀ y ∈ l, ∀ z ∈ l, ¬ cfO cm x y < 0 → ¬ cfO cm y z < 0 → ¬ cfO cm x z < 0
  parts : ∀ x ∈ l, ∀ y ∈ l, ¬ cfO cm x y < 0 → ¬ cfO cm y x < 0 → x = y
  len : l.length < 4611686018427387904
noncomputable def sortM (cm : α → α → Option Int) (l : List α) : Option (List α) :=
  @ite _ (SortOk cm l) (Classical.propDecidable _) (some (sortL (cfO cm) l)) none
theorem sortM_ok {cm : α → α → Option Int} {l l' : List α} (h : sortM cm l = some l') : SortOk cm l ∧ sortL (cfO cm) l = l' := by
  unfold sortM at h
  by_cases hk : SortOk cm l
  · rw [if_pos hk] at h
    exact ⟨hk, Option.some.inj h⟩
  · rw [if_neg hk] at h
    cases h
theorem sortM_is {cm : α → α → Option Int} {l l' : List α} (h : SortOk cm l) (hp : l'.Perm l) (hs : l'.Pairwise fun a b => ¬ cfO cm b a < 0) : sortM cm l = some l' := by
  unfold sortM
  rw [if_pos h, sortL_is hp hs h.parts]
theorem spec_sortM {P : Program} {f g : FuncId} {cb : Array Value} {e sz c : Nat} {arg : List Value → Value} {R : Rep α} {l l' : List α} {p : Option Addr} {Φ : List Fact} {cm : α → α → Option Int}
    (hS : SortsG P f sz arg) (hnil : ∀ (p : Option Addr) (cap : Nat) (fv : Value) (w : World), Calls P f #[.slice p 0 cap, fv] w fun e w' => e = .returned (.tuple #[]) ∧ w' = w) (eg : ∀ args w, (callFunc g args).run P w = .ok (.enter g args) w)
    (hcmp : ∀ (cs cs' : List Value) (x y : α) (z : Int) (F : Foot) (W : World), (∀ k, F k → k < W.heap.size) → (∀ φ ∈ Φ, φ.p F W) → R.p F W cs x → R.p F W cs' y → cm x y = some z → Calls P g (#[arg cs, arg cs'] ++ cb) W fun e w' => e = .returned (.int .i64 z) ∧ Mod (fun _ => False) W w')
    (hm : sortM cm l = some l') :
    Spec P f [.slice p l.length c, .func (.func g) #[] cb] Φ [.own e sz R (.slice p l.length c) l] fun v Φr Hr => v = .tuple #[] ∧ Φr = [] ∧ Hr = [.own e sz R (.slice p l.length c) l'] := by
  obtain ⟨hk, rfl⟩ := sortM_ok hm
  refine spec_sortG (cfO cm) hS hnil eg (fun cs cs' x y F W h1 h2 h3 h4 h5 h6 => ?_) hk.irrefl hk.trans hk.ntrans hk.parts hk.len
  obtain ⟨z, hz⟩ := hk.some x h5 y h6
  have : cfO cm x y = z := by unfold cfO; rw [hz]; rfl
  rw [this]
  exact hcmp cs cs' x y z F W h1 h2 h3 h4 hz
theorem cmp_spec {P : Program} {g : FuncId} {args : List Value} {Φ : List Fact} {v : Value} {F : Foot} {W : World} (h : Spec P g args Φ [] (fun u Φr Hr => u = v ∧ Φr = [] ∧ Hr = [])) (hF : ∀ k, F k → k < W.heap.size) (hΦ : ∀ φ ∈ Φ, φ.p F W) :
    Calls P g args.toArray W fun e w' => e = .returned v ∧ Mod (fun _ => False) W w' :=
  spec_calls h fun φ hφ => φ.good hF (Agree.refl _ _) (hΦ φ hφ)
theorem spec_sortF {P : Program} {f g : FuncId} {cb : Array Value} {e sz c : Nat} {arg : List Value → Value} {C : α → Unit → List Value} {one : ∀ x r, ∀ u ∈ C x r, u.oneCell' = true} {l l' : List α} {p : Option Addr} {cm : α → α → Option Int}
    (hS : SortsG P f sz arg) (hnil : ∀ (p : Option Addr) (cap : Nat) (fv : Value) (w : World), Calls P f #[.slice p 0 cap, fv] w fun e w' => e = .returned (.tuple #[]) ∧ w' = w) (eg : ∀ args w, (callFunc g args).run P w = .ok (.enter g args) w)
    (hc : ∀ x y z, cm x y = some z → Spec P g ([arg (C x ()), arg (C y ())] ++ cb.toList) [] [] fun v Φr Hr => v = .int .i64 z ∧ Φr = [] ∧ Hr = [])
    (hm : sortM cm l = some l') :
    Spec P f [.slice p l.length c, .func (.func g) #[] cb] [] [.own e sz (mkRep C (fun _ _ => []) one) (.slice p l.length c) l] fun v Φr Hr => v = .tuple #[] ∧ Φr = [] ∧ Hr = [.own e sz (mkRep C (fun _ _ => []) one) (.slice p l.length c) l'] := by
  refine spec_sortM hS hnil eg (fun cs cs' x y z F W hF _ h1 h2 hz => ?_) hm
  obtain ⟨_, rfl, _⟩ := h1
  obtain ⟨_, rfl, _⟩ := h2
  have h3 := cmp_spec (W := W) (hc x y z hz) hF ask_nil
  have e : #[arg (C x ()), arg (C y ())] ++ cb = ([arg (C x ()), arg (C y ())] ++ cb.toList).toArray := by apply Array.ext'; simp
  rw [← e] at h3
  exact h3
end
end Go.Proofs.YtgangmegcejllaaDoor
namespace Go.Proofs
open Go.Shelf
def Tryd.sort37_ren : Go.Shelf.Ren := ⟨fun | 6 => 37 | 15 => 35 | 14 => 50 | 28 => 48 | 29 => 49 | 20 => 57 | 21 => 58 | 22 => 59 | 23 => 60 | 24 => 61 | 25 => 62 | 26 => 63 | 27 => 64 | 46 => 70 | 47 => 53 | 48 => 54 | 49 => 71 | 50 => 72 | 57 => 77 | n => n, fun | 22 => 22 | 24 => 3 | 25 => 65 | 3 => 3 | 39 => 72 | 0 => 0 | 53 => 84 | 55 => 86 | 4 => 4 | 46 => 77 | 45 => 76 | 50 => 81 | 5 => 5 | 9 => 9 | 66 => 89 | 70 => 93 | 76 => 105 | 77 => 106 | n => n, fun | n => n⟩
theorem Tryd.sort37 : Go.Proofs.SlLaysF.n6 Tryd.prog Tryd.sort37_ren := {
  mixed := by kernel_rfl
  f6 := ⟨Tryd.f37.name, by decide, Tryd.func37.trans (congrArg some (by kernel_rfl))⟩
  f14 := ⟨Tryd.f50.name, by decide, Tryd.func50.trans (congrArg some (by kernel_rfl))⟩
  f15 := Tryd.func35.trans (congrArg some (by kernel_rfl))
  f20 := ⟨Tryd.f57.name, by decide, Tryd.func57.trans (congrArg some (by kernel_rfl))⟩
  f21 := ⟨Tryd.f58.name, by decide, Tryd.func58.trans (congrArg some (by kernel_rfl))⟩
  f22 := ⟨Tryd.f59.name, by decide, Tryd.func59.trans (congrArg some (by kernel_rfl))⟩
  f23 := ⟨Tryd.f60.name, by decide, Tryd.func60.trans (congrArg some (by kernel_rfl))⟩
  f24 := ⟨Tryd.f61.name, by decide, Tryd.func61.trans (congrArg some (by kernel_rfl))⟩
  f25 := ⟨Tryd.f62.name, by decide, Tryd.func62.trans (congrArg some (by kernel_rfl))⟩
  f26 := ⟨Tryd.f63.name, by decide, Tryd.func63.trans (congrArg some (by kernel_rfl))⟩
  f27 := ⟨Tryd.f64.name, by decide, Tryd.func64.trans (congrArg some (by kernel_rfl))⟩
  f28 := Tryd.func48.trans (congrArg some (by kernel_rfl))
  f29 := Tryd.func49.trans (congrArg some (by kernel_rfl))
  f46 := ⟨Tryd.f70.name, by decide, Tryd.func70.trans (congrArg some (by kernel_rfl))⟩
  f47 := Tryd.func53.trans (congrArg some (by kernel_rfl))
  f48 := Tryd.func54.trans (congrArg some (by kernel_rfl))
  f49 := ⟨Tryd.f71.name, by decide, Tryd.func71.trans (congrArg some (by kernel_rfl))⟩
  f50 := ⟨Tryd.f72.name, by decide, Tryd.func72.trans (congrArg some (by kernel_rfl))⟩
  f57 := ⟨Tryd.f77.name, by decide, Tryd.func77.trans (congrArg some (by kernel_rfl))⟩
  t0 := Tryd.underlying0
  a0 := Tryd.isAgg0
  z0 := Tryd.sizeOf0
  v0 := Tryd.zeroValue0
  t3 := Tryd.underlying3
  a3 := Tryd.isAgg3
  z3 := Tryd.sizeOf3
  v3 := Tryd.zeroValue3
  t4 := Tryd.underlying4
  a4 := Tryd.isAgg4
  z4 := Tryd.sizeOf4
  v4 := Tryd.zeroValue4
  t5 := Tryd.underlying5
  a5 := Tryd.isAgg5
  z5 := Tryd.sizeOf5
  v5 := Tryd.zeroValue5
  t9 := Tryd.underlying9
  a9 := Tryd.isAgg9
  z9 := Tryd.sizeOf9
  v9 := Tryd.zeroValue9
  t22 := Tryd.underlying22
  a22 := Tryd.isAgg22
  z22 := Tryd.sizeOf22
  v22 := Tryd.zeroValue22
  a24 := Tryd.isAgg3
  z24 := Tryd.sizeOf3
  t25 := Tryd.underlying65
  a25 := Tryd.isAgg65
  z25 := Tryd.sizeOf65
  v25 := Tryd.zeroValue65
  t39 := Tryd.underlying72
  a39 := Tryd.isAgg72
  z39 := Tryd.sizeOf72
  v39 := Tryd.zeroValue72
  t45 := Tryd.underlying76
  a45 := Tryd.isAgg76
  z45 := Tryd.sizeOf76
  v45 := Tryd.zeroValue76
  t46 := Tryd.underlying77
  a46 := Tryd.isAgg77
  z46 := Tryd.sizeOf77
  v46 := Tryd.zeroValue77
  t50 := Tryd.underlying81
  a50 := Tryd.isAgg81
  z50 := Tryd.sizeOf81
  v50 := Tryd.zeroValue81
  t53 := Tryd.underlying84
  a53 := Tryd.isAgg84
  z53 := Tryd.sizeOf84
  v53 := Tryd.zeroValue84
  t55 := Tryd.underlying86
  a55 := Tryd.isAgg86
  z55 := Tryd.sizeOf86
  v55 := Tryd.zeroValue86
  t66 := Tryd.underlying89
  a66 := Tryd.isAgg89
  z66 := Tryd.sizeOf89
  v66 := Tryd.zeroValue89
  t70 := Tryd.underlying93
  a70 := Tryd.isAgg93
  z70 := Tryd.sizeOf93
  v70 := Tryd.zeroValue93
  t76 := Tryd.underlying105
  a76 := Tryd.isAgg105
  z76 := Tryd.sizeOf105
  v76 := Tryd.zeroValue105
  t77 := Tryd.underlying106
  a77 := Tryd.isAgg106
  z77 := Tryd.sizeOf106
  v77 := Tryd.zeroValue106 }
end Go.Proofs
namespace Go.Proofs.YtgangmegcejllaaDoor
open Go Go.RowKit Go.Shelf
open Go.Sort (flatK putRowK HoldsK)
variable {P : Program} {ρ : Ren}
def oneOf (cs : List Value) : Value := cs.headD undef
section
variable {α : Type} [Inhabited α] {enc : α → List Value}
theorem flat_one (hk : ∀ x, (enc x).length = 1) (d : Array α) (j : Nat) (hj : j < d.size) : (flatK enc 1 d)[j]! = oneOf (enc d[j]!) := by
  rw [Go.Sort.get_flatK enc 1 d j (by omega), Nat.div_one, Nat.mod_one]
  have h := hk d[j]!
  match enc d[j]!, h with
  | [v], _ => rfl
theorem putRow_one (hk : ∀ x, (enc x).length = 1) (w : World) (blk off : Nat) (d : Array α) : Go.Sort.putRow (fun x => oneOf (enc x)) w blk off d = putRowK enc 1 w blk off d := by
  unfold putRowK Go.Sort.putRow
  congr 1
  funext c
  unfold Go.Sort.putCells
  congr 1
  funext k x
  rw [Go.Sort.size_flatK, Nat.mul_one]
  split
  · rename_i h
    rw [flat_one hk d _ (by omega)]; rfl
  · rfl
theorem sortWorld_one (hk : ∀ x, (enc x).length = 1) (w : World) (blk off m : Nat) (d : Array α) (os : Array Obj) : sortWorld (fun x => oneOf (enc x)) w blk off m d os = sortWorldK enc 1 w blk off m d os := by
  unfold sortWorld sortWorldK
  rw [putRow_one hk]
end
theorem sorts_1 (L : SlLaysF.n6 P ρ) : SortsG P (ρ.f 6) 1 oneOf := by
  intro n _ enc cf g cb blk cap d w hk h1 hO eg hcmp hH hblk hsz
  have h := Any.slices_SortFunc L (fun x => oneOf (enc x)) (fun x => by
    have h := hk x
    have h2 := h1 x
    show (oneOf (enc x)).oneCell' = true
    match enc x, h, h2 with
    | [v], _, h2 => exact h2 v (by simp)) cf hO g cb blk 0 cap d w eg (fun m os dk hs x y => by
      rw [sortWorld_one hk]; exact hcmp m os dk hs x y) (fun j hj => by
      have h := hH j (by rw [Go.Sort.size_flatK]; omega)
      rw [flat_one hk d j hj] at h
      exact h) hblk hsz
  refine h.mono fun e w' ⟨he, d', n, os, h3, h4, h5⟩ => ⟨he, d', n, os, h3, h4, by rw [h5, sortWorld_one hk]⟩
end Go.Proofs.YtgangmegcejllaaDoor
namespace Go.Proofs.YtgangmegcejllaaDoor
open Go Go.RowKit Go.Shelf
theorem srt_37 : SortsG Tryd.prog 37 1 oneOf := sorts_1 Tryd.sort37
theorem srtnil_37 (p : Option Addr) (cap : Nat) (fv : Value) (w : World) : Calls Tryd.prog 37 #[.slice p 0 cap, fv] w fun e w' => e = .returned (.tuple #[]) ∧ w' = w := AnyF.slices_SortFunc_none (P := Tryd.prog) (ρ := Tryd.sort37_ren) { Tryd.sort37 with } p cap fv w
end Go.Proofs.YtgangmegcejllaaDoor
