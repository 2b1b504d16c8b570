import Derived.Test.YtkliokdpcdhjcaaDoorCeF
import Derived.Test.YtkliokdpcdhjcaaDoorProg
namespace Go.Proofs.YtkliokdpcdhjcaaDoor
open Go.RowKit
theorem aw_true : saysTrue (callC Tryd.prog 100000 100 5 [] [] 0 (2 ^ 300)) = true := by kernel_rfl
theorem aw_5 : Spec Tryd.prog 5 [] [] [] (fun v Φr Hr => v = .bool true ∧ Φr = [] ∧ Hr = []) := spec_true (E := []) (args := []) rfl aw_true
end Go.Proofs.YtkliokdpcdhjcaaDoor
