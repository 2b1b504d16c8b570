import Derived.Test.YtegkmbkbaenkcaaSess
import Derived.Deep.DeepAppendRoom
namespace Go.Proofs.Ytegkmbkbaenkcaa
open Go Go.RowKit
section
variable {P : Program} {C : Ctx} {n : Nat} {Q : Exit → Act → World → Prop} {Φ Φ' : List Fact} {H H' : List Fact} {S S' : List (Nat × Value)} {ops : Array Oper} {rest : List Oper} {o : Oper} {d : Nat}
theorem wl_doV (hg : wantS ops S o = some true) (hd : o.dst = none) (run : ∀ a w, Frm n S a → Holds C Φ H w → ∃ v w', (execOp a.eval o).run P w = .ok (.value v) w' ∧ Holds C Φ' H' w') (next : WL P C n Q Φ' H' S ops rest) : WL P C n Q Φ H S ops (o :: rest) := by
  intro a w hf hw
  obtain ⟨v, w', hr, h1⟩ := run a w hf hw
  refine wpList_step fun K hK => ?_
  rw [wantS_spec hf hg, if_pos rfl]
  unfold Oper.wp
  rw [hr]
  unfold Oper.upon
  rw [hd]
  exact hK _ _ (next _ _ hf h1)
end
theorem set_get {α : Type} {l : List α} {k : Nat} {x : α} (h : l[k]? = some x) : l.set k x = l := by
  obtain ⟨h1, rfl⟩ := List.getElem?_eq_some_iff.1 h
  exact List.set_getElem_self h1
end Go.Proofs.Ytegkmbkbaenkcaa
