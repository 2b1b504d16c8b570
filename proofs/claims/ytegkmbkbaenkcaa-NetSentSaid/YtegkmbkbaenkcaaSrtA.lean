import Derived.Test.YtegkmbkbaenkcaaSrt
import Derived.Test.YtegkmbkbaenkcaaSortK
import Derived.Test.YtegkmbkbaenkcaaSortM
import Derived.Shelf.SlSortCmp.NoneTotal
namespace Go.Proofs.Ytegkmbkbaenkcaa
open Go Go.RowKit Go.Shelf
theorem srt_37 : SortsG Try.prog 37 2 aggOf := sorts_K Try.sort37 2 (tAgg_run (by kernel_rfl)) (tSize_run (by kernel_rfl))
theorem srtnil_37 (p : Option Addr) (cap : Nat) (fv : Value) (w : World) : Calls Try.prog 37 #[.slice p 0 cap, fv] w fun e w' => e = .returned (.tuple #[]) ∧ w' = w := AnyF.slices_SortFunc_none (P := Try.prog) (ρ := Try.sort37_ren) { Try.sort37 with } p cap fv w
end Go.Proofs.Ytegkmbkbaenkcaa
