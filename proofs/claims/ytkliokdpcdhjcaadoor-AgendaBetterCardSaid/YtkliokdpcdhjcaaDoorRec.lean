import Derived.Test.YtkliokdpcdhjcaaDoorOpenA
import Derived.Test.YtkliokdpcdhjcaaDoorTree
namespace Go.Proofs.YtkliokdpcdhjcaaDoor
open Go Go.RowKit Go.Deep
section
variable {α Λ : Type} (C : α → Option Addr × Nat → List Value) (kids : α → List α) (sz : Nat) (one : ∀ x r, ∀ u ∈ C x r, u.oneCell' = true)
def recN : Nat → Rep α
  | 0 => ⟨fun _ _ _ _ => False, fun _ _ h => h, fun h => h.elim⟩
  | n + 1 => mkRep C (fun x r => [.sli sz (recN n) r.1 r.2 (kids x)]) one
def recR : Rep α := ⟨fun F w cs x => ∃ n, (recN C kids sz one n).p F w cs x, fun hF ha ⟨n, h⟩ => ⟨n, (recN C kids sz one n).good hF ha h⟩, fun ⟨n, h⟩ => (recN C kids sz one n).one h⟩
end
section
variable {α : Type} {C : α → Option Addr × Nat → List Value} {kids : α → List α} {sz : Nat} {one : ∀ x r, ∀ u ∈ C x r, u.oneCell' = true}
theorem rec_opens : Opens (recR C kids sz one) C (fun _ _ => True) (fun x r => [.sli sz (recR C kids sz one) r.1 r.2 (kids x)]) := fun F w cs x ⟨n, h⟩ => by
  cases n with
  | zero => exact h.elim
  | succ n =>
    obtain ⟨r, h1, h2⟩ := h
    exact ⟨r, h1, trivial, ask_cons (sli_rel (R := recN C kids sz one n) (h2 _ (List.mem_cons_self)) (fun cs x hr => ⟨n, hr⟩)) ask_nil⟩
end
end Go.Proofs.YtkliokdpcdhjcaaDoor
