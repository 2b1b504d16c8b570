import Derived.Test.YtgangmegcejllaaGreatDoorSort
import Derived.Shelf.SlSortCmp.Whole1
import Derived.Shelf.SlSortCmp.WholeK
import Derived.Shelf.SlSortCmp.NoneTotal
import Derived.Ground.SlsfProg
import Derived.Test.YtgangmegcejllaaGreatDoorProg
namespace Go.Proofs.YtgangmegcejllaaGreatDoor
open Go Go.RowKit Go.Shelf
section
variable {α:Type}
def cfO (cm : α → α → Option Int) (x y : α):Int:=(cm x y).getD 0
structure SortOk (cm : α → α → Option Int) (l:List α):Prop where
 some : ∀ x ∈ l,∀ y ∈ l,∃ z,cm x y = some z
 irrefl : ∀ x ∈ l,¬ cfO cm x x < 0
 trans : ∀ x ∈ l,∀ y ∈ l,∀ z ∈ l,cfO cm x y < 0 → cfO cm y z < 0 → cfO cm x z < 0
 ntrans : ∀ x ∈ l,∀ y ∈ l,∀ z ∈ l,¬ cfO cm x y < 0 → ¬ cfO cm y z < 0 → ¬ cfO cm x z < 0
 parts : ∀ x ∈ l,∀ y ∈ l,¬ cfO cm x y < 0 → ¬ cfO cm y x < 0 → x = y
 len:l.length < 4611686018427387904
noncomputable def sortM (cm : α → α → Option Int) (l:List α):Option (List α) :=
 @ite _ (SortOk cm l) (Classical.propDecidable _) (some (sortL (cfO cm) l)) none
theorem sortM_ok {cm : α → α → Option Int} {l l' : List α} (h:sortM cm l = some l'):SortOk cm l ∧ sortL (cfO cm) l = l':=by
 unfold sortM at h
 by_cases hk:SortOk cm l
 ·rw [if_pos hk] at h
  exact ⟨hk,Option.some.inj h⟩
 ·rw [if_neg hk] at h
  cases h
theorem sortM_is {cm : α → α → Option Int} {l l' : List α} (h:SortOk cm l) (hp:l'.Perm l) (hs:l'.Pairwise fun a b=>¬ cfO cm b a < 0):sortM cm l = some l':=by
 unfold sortM
 rw [if_pos h,sortL_is hp hs h.parts]
theorem spec_sortM {P:Program} {f g:FuncId} {cb:Array Value} {e sz c:Nat} {arg:List Value → Value} {R:Rep α} {l l' : List α} {p:Option Addr} {Φ:List Fact} {cm : α → α → Option Int}
  (hS:SortsG P f sz arg) (hnil : ∀ (p:Option Addr) (cap:Nat) (fv:Value) (w:World),Calls P f #[.slice p 0 cap,fv] w fun e w'=>e = .returned (.tuple #[]) ∧ w' = w) (eg : ∀ args w,(callFunc g args).run P w = .ok (.enter g args) w)
  (hcmp : ∀ (cs cs' : List Value) (x y : α) (z:Int) (F:Q2O) (W:World),(∀ k,F k → k < W.heap.size) → (∀ φ ∈ Φ,φ.p F W) → R.p F W cs x → R.p F W cs' y → cm x y = some z → Calls P g (#[arg cs,arg cs'] ++ cb) W fun e w'=>e = .returned (.int .i64 z) ∧ Mod (fun _=>False) W w')
  (hm:sortM cm l = some l') :
  Q1R P f [.slice p l.length c,.func (.func g) #[] cb] Φ [.own e sz R (.slice p l.length c) l] fun v Φr Hr=>v = .tuple #[] ∧ Φr = [] ∧ Hr = [.own e sz R (.slice p l.length c) l']:=by
 obtain ⟨hk,rfl⟩:=sortM_ok hm
 refine spec_sortG (cfO cm) hS hnil eg (fun cs cs' x y F W h1 h2 h3 h4 h5 h6=>?_) hk.irrefl hk.trans hk.ntrans hk.parts hk.len
 obtain ⟨z,hz⟩:=hk.some x h5 y h6
 have:cfO cm x y = z:=by unfold cfO; rw [hz]; rfl
 rw [this]
 exact hcmp cs cs' x y z F W h1 h2 h3 h4 hz
theorem cmp_spec {P : Program} {g : FuncId} {args : List Value} {Φ : List Fact} {v : Value} {F : Q2O} {W : World} (h : Q1R P g args Φ [] (fun u Φr Hr => u = v ∧ Φr = [] ∧ Hr = [])) (hF : ∀ k, F k → k < W.heap.size) (hΦ : ∀ φ ∈ Φ, φ.p F W) :
  Calls P g args.toArray W fun e w'=>e = .returned v ∧ Mod (fun _=>False) W w' :=
 spec_calls h fun φ hφ=>φ.good hF (Q2P.refl _ _) (hΦ φ hφ)
theorem spec_sortF {P:Program} {f g:FuncId} {cb:Array Value} {e sz c:Nat} {arg:List Value → Value} {C : α → Unit → List Value} {one : ∀ x r,∀ u ∈ C x r,u.oneCell' = true} {l l' : List α} {p:Option Addr} {cm : α → α → Option Int}
  (hS:SortsG P f sz arg) (hnil : ∀ (p:Option Addr) (cap:Nat) (fv:Value) (w:World),Calls P f #[.slice p 0 cap,fv] w fun e w'=>e = .returned (.tuple #[]) ∧ w' = w) (eg : ∀ args w,(callFunc g args).run P w = .ok (.enter g args) w)
  (hc : ∀ x y z,cm x y = some z → Q1R P g ([arg (C x ()),arg (C y ())] ++ cb.toList) [] [] fun v Φr Hr=>v = .int .i64 z ∧ Φr = [] ∧ Hr = [])
  (hm:sortM cm l = some l') :
  Q1R P f [.slice p l.length c,.func (.func g) #[] cb] [] [.own e sz (Q8G C (fun _ _=>[]) one) (.slice p l.length c) l] fun v Φr Hr=>v = .tuple #[] ∧ Φr = [] ∧ Hr = [.own e sz (Q8G C (fun _ _=>[]) one) (.slice p l.length c) l']:=by
 refine spec_sortM hS hnil eg (fun cs cs' x y z F W hF _ h1 h2 hz=>?_) hm
 obtain ⟨_,rfl,_⟩:=h1
 obtain ⟨_,rfl,_⟩:=h2
 have h3:=cmp_spec (W:=W) (hc x y z hz) hF Qv
 have e : #[arg (C x ()),arg (C y ())] ++ cb = ([arg (C x ()),arg (C y ())] ++ cb.toList).toArray:=by apply Array.ext'; simp
 rw [← e] at h3
 exact h3
end
end Go.Proofs.YtgangmegcejllaaGreatDoor
namespace Go.Proofs
open Go.Shelf
def Tryz.sort145_ren:Go.Shelf.Ren:=⟨fun | 6=>145 | 15=>97 | 14=>171 | 28=>156 | 29=>157 | 20=>180 | 21=>181 | 22=>182 | 23=>183 | 24=>184 | 25=>185 | 26=>186 | 27=>187 | 46=>196 | 47=>174 | 48=>175 | 49=>197 | 50=>198 | 57=>203 | n=>n,fun | 22=>22 | 24=>3 | 25=>71 | 3=>3 | 39=>157 | 0=>0 | 53=>161 | 55=>163 | 4=>4 | 46=>283 | 45=>282 | 50=>287 | 5=>5 | 9=>9 | 66=>305 | 70=>309 | 76=>322 | 77=>323 | n=>n,fun | n=>n⟩
theorem Tryz.sort145:Go.Proofs.SlLaysF.n6 Tryz.prog Tryz.sort145_ren:={
 mixed:=by kernel_rfl
 f6:=⟨Tryz.f145.name,by decide,Tryz.func145.trans (congrArg some (by kernel_rfl))⟩
 f14:=⟨Tryz.f171.name,by decide,Tryz.func171.trans (congrArg some (by kernel_rfl))⟩
 f15:=Tryz.func97.trans (congrArg some (by kernel_rfl))
 f20:=⟨Tryz.f180.name,by decide,Tryz.func180.trans (congrArg some (by kernel_rfl))⟩
 f21:=⟨Tryz.f181.name,by decide,Tryz.func181.trans (congrArg some (by kernel_rfl))⟩
 f22:=⟨Tryz.f182.name,by decide,Tryz.func182.trans (congrArg some (by kernel_rfl))⟩
 f23:=⟨Tryz.f183.name,by decide,Tryz.func183.trans (congrArg some (by kernel_rfl))⟩
 f24:=⟨Tryz.f184.name,by decide,Tryz.func184.trans (congrArg some (by kernel_rfl))⟩
 f25:=⟨Tryz.f185.name,by decide,Tryz.func185.trans (congrArg some (by kernel_rfl))⟩
 f26:=⟨Tryz.f186.name,by decide,Tryz.func186.trans (congrArg some (by kernel_rfl))⟩
 f27:=⟨Tryz.f187.name,by decide,Tryz.func187.trans (congrArg some (by kernel_rfl))⟩
 f28:=Tryz.func156.trans (congrArg some (by kernel_rfl))
 f29:=Tryz.func157.trans (congrArg some (by kernel_rfl))
 f46:=⟨Tryz.f196.name,by decide,Tryz.func196.trans (congrArg some (by kernel_rfl))⟩
 f47:=Tryz.func174.trans (congrArg some (by kernel_rfl))
 f48:=Tryz.func175.trans (congrArg some (by kernel_rfl))
 f49:=⟨Tryz.f197.name,by decide,Tryz.func197.trans (congrArg some (by kernel_rfl))⟩
 f50:=⟨Tryz.f198.name,by decide,Tryz.func198.trans (congrArg some (by kernel_rfl))⟩
 f57:=⟨Tryz.f203.name,by decide,Tryz.func203.trans (congrArg some (by kernel_rfl))⟩
 t0:=Tryz.underlying0
 a0:=Tryz.isAgg0
 z0:=Tryz.sizeOf0
 v0:=Tryz.zeroValue0
 t3:=Tryz.underlying3
 a3:=Tryz.isAgg3
 z3:=Tryz.sizeOf3
 v3:=Tryz.zeroValue3
 t4:=Tryz.underlying4
 a4:=Tryz.isAgg4
 z4:=Tryz.sizeOf4
 v4:=Tryz.zeroValue4
 t5:=Tryz.underlying5
 a5:=Tryz.isAgg5
 z5:=Tryz.sizeOf5
 v5:=Tryz.zeroValue5
 t9:=Tryz.underlying9
 a9:=Tryz.isAgg9
 z9:=Tryz.sizeOf9
 v9:=Tryz.zeroValue9
 t22:=Tryz.underlying22
 a22:=Tryz.isAgg22
 z22:=Tryz.sizeOf22
 v22:=Tryz.zeroValue22
 a24:=Tryz.isAgg3
 z24:=Tryz.sizeOf3
 t25:=Tryz.underlying71
 a25:=Tryz.isAgg71
 z25:=Tryz.sizeOf71
 v25:=Tryz.zeroValue71
 t39:=Tryz.underlying157
 a39:=Tryz.isAgg157
 z39:=Tryz.sizeOf157
 v39:=Tryz.zeroValue157
 t45:=Tryz.underlying282
 a45:=Tryz.isAgg282
 z45:=Tryz.sizeOf282
 v45:=Tryz.zeroValue282
 t46:=Tryz.underlying283
 a46:=Tryz.isAgg283
 z46:=Tryz.sizeOf283
 v46:=Tryz.zeroValue283
 t50:=Tryz.underlying287
 a50:=Tryz.isAgg287
 z50:=Tryz.sizeOf287
 v50:=Tryz.zeroValue287
 t53:=Tryz.underlying161
 a53:=Tryz.isAgg161
 z53:=Tryz.sizeOf161
 v53:=Tryz.zeroValue161
 t55:=Tryz.underlying163
 a55:=Tryz.isAgg163
 z55:=Tryz.sizeOf163
 v55:=Tryz.zeroValue163
 t66:=Tryz.underlying305
 a66:=Tryz.isAgg305
 z66:=Tryz.sizeOf305
 v66:=Tryz.zeroValue305
 t70:=Tryz.underlying309
 a70:=Tryz.isAgg309
 z70:=Tryz.sizeOf309
 v70:=Tryz.zeroValue309
 t76:=Tryz.underlying322
 a76:=Tryz.isAgg322
 z76:=Tryz.sizeOf322
 v76:=Tryz.zeroValue322
 t77:=Tryz.underlying323
 a77:=Tryz.isAgg323
 z77:=Tryz.sizeOf323
 v77:=Tryz.zeroValue323 }
end Go.Proofs
namespace Go.Proofs.YtgangmegcejllaaGreatDoor
open Go Go.RowKit Go.Shelf
open Go.Sort (flatK putRowK HoldsK)
variable {P:Program} {ρ:Ren}
def oneOf (cs:List Value):Value:=cs.headD undef
section
variable {α:Type} [Inhabited α] {enc : α → List Value}
theorem flat_one (hk : ∀ x,(enc x).length = 1) (d:Array α) (j:Nat) (hj:j < d.size):(flatK enc 1 d)[j]! = oneOf (enc d[j]!):=by
 rw [Go.Sort.get_flatK enc 1 d j (by omega),Nat.div_one,Nat.mod_one]
 have h:=hk d[j]!
 match enc d[j]!,h with
 | [v],_=>rfl
theorem putRow_one (hk : ∀ x,(enc x).length = 1) (w:World) (blk off:Nat) (d:Array α):Go.Sort.putRow (fun x=>oneOf (enc x)) w blk off d = putRowK enc 1 w blk off d:=by
 unfold putRowK Go.Sort.putRow
 congr 1
 funext c
 unfold Go.Sort.putCells
 congr 1
 funext k x
 rw [Go.Sort.size_flatK,Nat.mul_one]
 split
 ·rename_i h
  rw [flat_one hk d _ (by omega)]; rfl
 · rfl
theorem Qag (hk : ∀ x,(enc x).length = 1) (w:World) (blk off m:Nat) (d:Array α) (os:Array Obj):sortWorld (fun x=>oneOf (enc x)) w blk off m d os = sortWorldK enc 1 w blk off m d os:=by
 unfold sortWorld sortWorldK
 rw [putRow_one hk]
end
theorem sorts_1 (L:SlLaysF.n6 P ρ):SortsG P (ρ.f 6) 1 oneOf:=by
 intro n _ enc cf g cb blk cap d w hk h1 hO eg hcmp hH hblk hsz
 have h:=Any.slices_SortFunc L (fun x=>oneOf (enc x)) (fun x=>by
  have h:=hk x
  have h2:=h1 x
  show (oneOf (enc x)).oneCell' = true
  match enc x,h,h2 with
  | [v],_,h2=>exact h2 v (by simp)) cf hO g cb blk 0 cap d w eg (fun m os dk hs x y=>by
    rw [Qag hk]; exact hcmp m os dk hs x y) (fun j hj=>by
    have h:=hH j (by rw [Go.Sort.size_flatK]; omega)
    rw [flat_one hk d j hj] at h
    exact h) hblk hsz
 refine h.mono fun e w' ⟨he,d',n,os,h3,h4,h5⟩=>⟨he,d',n,os,h3,h4,by rw [h5,Qag hk]⟩
end Go.Proofs.YtgangmegcejllaaGreatDoor
namespace Go.Proofs.YtgangmegcejllaaGreatDoor
open Go Go.RowKit Go.Shelf
theorem srt_145:SortsG Tryz.prog 145 1 oneOf:=sorts_1 Tryz.sort145
theorem srtnil_145 (p:Option Addr) (cap:Nat) (fv:Value) (w:World):Calls Tryz.prog 145 #[.slice p 0 cap,fv] w fun e w'=>e = .returned (.tuple #[]) ∧ w' = w:=AnyF.slices_SortFunc_none (P:=Tryz.prog) (ρ:=Tryz.sort145_ren) { Tryz.sort145 with } p cap fv w
end Go.Proofs.YtgangmegcejllaaGreatDoor
