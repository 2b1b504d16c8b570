import Derived.Test.YtegkmbkbaenkcaaSort
import Derived.Shelf.SlSortCmp.Whole1
import Derived.Shelf.SlSortCmp.WholeK
namespace Go.Proofs.Ytegkmbkbaenkcaa
open Go Go.RowKit Go.Shelf
open Go.Sort (flatK putRowK HoldsK)
variable {P : Program} {ρ : Ren}
def aggOf (cs : List Value) : Value := .agg cs.toArray
theorem sorts_K (L : SlLaysF0.n6 P ρ) (k : Nat) (aE : ∀ w, (isAgg (ρ.t 24)).run P w = .ok true w) (zE : ∀ w, (Go.sizeOf (ρ.t 24)).run P w = .ok k w) : SortsG P (ρ.f 6) k aggOf :=
  fun _ _ enc cf g cb blk cap d w hk h1 hO eg hcmp hH hblk hsz => AnyQ.slices_SortFunc L k aE zE enc hk h1 cf hO g cb blk 0 cap d w eg (fun m os dk hs x y => hcmp m os dk hs x y) hH hblk hsz
end Go.Proofs.Ytegkmbkbaenkcaa
