import Derived.Test.YtegkmbkbaenkcaaGreatCeF
import Derived.Test.YtegkmbkbaenkcaaGreatProg
namespace Go.Proofs.YtegkmbkbaenkcaaGreat
open Go.RowKit
theorem aw_true : saysTrue (callC Tryz.prog 100000 100 4 [] [] 0 (2 ^ 300)) = true := by kernel_rfl
theorem aw_4 : Spec Tryz.prog 4 [] [] [] (fun v Φr Hr => v = .bool true ∧ Φr = [] ∧ Hr = []) := spec_true (E := []) (args := []) rfl aw_true
end Go.Proofs.YtegkmbkbaenkcaaGreat
