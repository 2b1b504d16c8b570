import Derived.Test.YthmkahbkhoijbaaGreatDoorMemLivesQ
namespace Go.Proofs.YthmkahbkhoijbaaGreatDoor
open Go Go.RowKit
theorem fitT_of {l : List V} (h : ∀ y ∈ l, ok_V y) : fitT l := fun v hv => Nat.le_trans (h v hv).2.2 (by decide)
theorem memlives_arg {p q : Prop} (a : Int) (_ : p) (l : List FactD) (hl : l.length ≤ 140737488351232 ∧ ∀ y ∈ l, ok_FactD y) (b : Bool) (_ : q) (m : List Ropewalklaw11_DoD) (hm : m.length ≤ 140737488351232 ∧ ∀ y ∈ m, ok_Ropewalklaw11_DoD y) : m_ropewalklaw11_MemoryLives 9223372036854775808 a l b m = some true :=
  memlives_is (Nat.le_refl _) mawake_is a l b m (fun f hf => fitT_of (hl.2 f hf).2.2.2) (fun x hx => fitT_of (hm.2 x hx).2.2.2.2)
end Go.Proofs.YthmkahbkhoijbaaGreatDoor
