import Derived.Test.YtkakbckmajdggaaGreatSess
import Derived.Deep.DeepAppendRoom
namespace Go.Proofs.YtkakbckmajdggaaGreat
open Go Go.RowKit
theorem set_get {α : Type} {l : List α} {k : Nat} {x : α} (h : l[k]? = some x) : l.set k x = l := by
  obtain ⟨h1, rfl⟩ := List.getElem?_eq_some_iff.1 h
  exact List.set_getElem_self h1
end Go.Proofs.YtkakbckmajdggaaGreat
