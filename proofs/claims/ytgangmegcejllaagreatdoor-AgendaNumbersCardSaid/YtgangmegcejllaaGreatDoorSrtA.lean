import Derived.Test.YtgangmegcejllaaGreatDoorSort
import Derived.Shelf.SlSortCmp.Whole1
import Derived.Shelf.SlSortCmp.WholeK
import Derived.Test.YtgangmegcejllaaGreatDoorSrt
import Derived.Test.YtgangmegcejllaaGreatDoorSortM
import Derived.Shelf.SlSortCmp.NoneTotal
namespace Go.Proofs.YtgangmegcejllaaGreatDoor
open Go Go.RowKit Go.Shelf
open Go.Sort (flatK putRowK HoldsK)
variable {P:Program} {ρ:Ren}
def oneOf (cs:List Value):Value:=cs.headD undef
section
variable {α:Type} [Inhabited α] {enc : α → List Value}
theorem flat_one (hk : ∀ x,(enc x).length = 1) (d:Array α) (j:Nat) (hj:j < d.size):(flatK enc 1 d)[j]! = oneOf (enc d[j]!):=by
 rw [Go.Sort.get_flatK enc 1 d j (by omega),Nat.div_one,Nat.mod_one]
 have h:=hk d[j]!
 match enc d[j]!,h with
 | [v],_=>rfl
theorem putRow_one (hk : ∀ x,(enc x).length = 1) (w:World) (blk off:Nat) (d:Array α):Go.Sort.putRow (fun x=>oneOf (enc x)) w blk off d = putRowK enc 1 w blk off d:=by
 unfold putRowK Go.Sort.putRow
 congr 1
 funext c
 unfold Go.Sort.putCells
 congr 1
 funext k x
 rw [Go.Sort.size_flatK,Nat.mul_one]
 split
 ·rename_i h
  rw [flat_one hk d _ (by omega)]; rfl
 · rfl
theorem QaM (hk : ∀ x,(enc x).length = 1) (w:World) (blk off m:Nat) (d:Array α) (os:Array Obj):sortWorld (fun x=>oneOf (enc x)) w blk off m d os = sortWorldK enc 1 w blk off m d os:=by
 unfold sortWorld sortWorldK
 rw [putRow_one hk]
end
theorem sorts_1 (L:SlLaysF.n6 P ρ):SortsG P (ρ.f 6) 1 oneOf:=by
 intro n _ enc cf g cb blk cap d w hk h1 hO eg hcmp hH hblk hsz
 have h:=Any.slices_SortFunc L (fun x=>oneOf (enc x)) (fun x=>by
  have h:=hk x
  have h2:=h1 x
  show (oneOf (enc x)).oneCell' = true
  match enc x,h,h2 with
  | [v],_,h2=>exact h2 v (by simp)) cf hO g cb blk 0 cap d w eg (fun m os dk hs x y=>by
    rw [QaM hk]; exact hcmp m os dk hs x y) (fun j hj=>by
    have h:=hH j (by rw [Go.Sort.size_flatK]; omega)
    rw [flat_one hk d j hj] at h
    exact h) hblk hsz
 refine h.mono fun e w' ⟨he,d',n,os,h3,h4,h5⟩=>⟨he,d',n,os,h3,h4,by rw [h5,QaM hk]⟩
end Go.Proofs.YtgangmegcejllaaGreatDoor
namespace Go.Proofs.YtgangmegcejllaaGreatDoor
open Go Go.RowKit Go.Shelf
theorem srt_145:SortsG Tryz.prog 145 1 oneOf:=sorts_1 Tryz.sort145
theorem srtnil_145 (p:Option Addr) (cap:Nat) (fv:Value) (w:World):Calls Tryz.prog 145 #[.slice p 0 cap,fv] w fun e w'=>e = .returned (.tuple #[]) ∧ w' = w:=AnyF.slices_SortFunc_none (P:=Tryz.prog) (ρ:=Tryz.sort145_ren) { Tryz.sort145 with } p cap fv w
end Go.Proofs.YtgangmegcejllaaGreatDoor
