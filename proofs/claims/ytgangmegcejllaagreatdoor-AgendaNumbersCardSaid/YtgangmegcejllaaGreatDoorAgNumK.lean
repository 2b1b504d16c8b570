import Derived.KernelRfl
import Derived.Test.YtgangmegcejllaaGreatDoorXM
namespace Go.Proofs.YtgangmegcejllaaGreatDoor
open Go Go.RowKit
theorem agnum_arg:Q4J 9223372036854776808 = some ():=by kernel_rfl
end Go.Proofs.YtgangmegcejllaaGreatDoor
