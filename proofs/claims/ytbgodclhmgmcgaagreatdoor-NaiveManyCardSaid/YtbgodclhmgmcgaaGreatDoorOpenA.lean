import Derived.Test.YtbgodclhmgmcgaaGreatDoorLawG
import Derived.Test.YtbgodclhmgmcgaaGreatDoorAuto
import Derived.SizedLaws
namespace Go.Proofs.YtbgodclhmgmcgaaGreatDoor
open Go Go.RowKit Go.Deep
theorem wf_inK {k:IntKind} {n:Int} (h:(Lit.int k n).wf = true):inK k n:=by
 simp only [Lit.wf,Bool.and_eq_true,decide_eq_true_eq] at h
 exact h
section
variable {H:Type} {enc:TypeId × Value → H} {P:Program} {w:World} {base:Nat} {spare:Nat → Bool} {held:Bool} {fuel:Nat} {cs:List Value} {y:DataW H × List MemPlace}
def Snug (P:Program) (t:TypeId) (d:DataW H):Prop:=∀ n ∈ d.weights P t,n ≤ reachBytes
theorem fits_arg {ts:List TypeId} {ds:List (DataW H)} (h:(DataW.weightsEach P ts ds).all (· ≤ reachBytes) = true) (j:Nat) {t:TypeId} {d:DataW H} (ht:ts[j]? = some t) (hd:ds[j]? = some d):Snug P t d:=fun n hn=>by
 have:=List.all_eq_true.1 h n (DataW.weights_mem_each ht hd n hn)
 simpa using this
theorem okWide_one {r:Reach} {b t:Nat} {v:Value} {k:IntKind} (ht:P.underlying t = some (.int k)) (h:Value.okWide P w r b t v):v.cells.toList = [v]:=by
 unfold Value.okWide at h
 rw [ht] at h
 unfold Cell.okWide at h
 rw [ht] at h
 unfold Cell.ok at h
 rw [ht] at h
 cases v <;> first | rfl | (simp at h)
end
end Go.Proofs.YtbgodclhmgmcgaaGreatDoor
