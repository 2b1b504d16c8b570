import Derived.Test.YtalbennlmcpnmaaGreatRec
import Derived.Test.YtalbennlmcpnmaaGreatShort
namespace Go.Proofs.YtalbennlmcpnmaaGreat
open Go Go.RowKit Go.Deep
theorem Chunks.mapTo {α β : Type} {sz : Nat} {R : List Value → α → Prop} {R' : List Value → β → Prop} (f : α → β) (hR : ∀ cs x, R cs x → R' cs (f x)) : ∀ {l : List α} {xs : List Value}, Chunks sz R xs l → Chunks sz R' xs (l.map f)
  | [], _, h => h
  | _ :: _, _, ⟨cs, rest, e1, e2, e3, e4⟩ => ⟨cs, rest, e1, e2, hR cs _ e3, Chunks.mapTo f hR e4⟩
theorem sli_mapTo {α β : Type} {sz c : Nat} {R : Rep α} {R' : Rep β} {p : Option Addr} {l : List α} {F : Foot} {w : World} (f : α → β) (h : (Fact.sli sz R p c l).p F w) (hR : ∀ cs x, R.p F w cs x → R'.p F w cs (f x)) : (Fact.sli sz R' p c (l.map f)).p F w := by
  obtain ⟨p', n', c', xs, e1, e2, h1, h2, h3, h4⟩ := h
  exact ⟨p', n', c', xs, by rw [List.length_map]; exact e1, by rw [List.length_map]; exact e2, h1, h2, h3.mapTo f hR, h4⟩
section
variable {α β : Type} {C : α → Option Addr × Nat → List Value} {kids : α → List α} {C' : β → Option Addr × Nat → List Value} {kids' : β → List β} {sz : Nat} {one : ∀ x r, ∀ u ∈ C x r, u.oneCell' = true} {one' : ∀ x r, ∀ u ∈ C' x r, u.oneCell' = true} {f : α → β} {main : α → List α}
theorem recN_short (hC : ∀ x r, C x r = C' (f x) r) (hk : ∀ x, kids' (f x) = (main x).map f) (hm : ∀ x, ∃ t, kids x = main x ++ t) : ∀ {n : Nat} {F : Foot} {w : World} {cs : List Value} {x : α}, (recN C kids sz one n).p F w cs x → (recN C' kids' sz one' n).p F w cs (f x)
  | 0, _, _, _, _, h => h.elim
  | n + 1, F, w, cs, x, ⟨r, h1, h2⟩ => ⟨r, h1.trans (hC x r), fun φ hφ => by
      simp only [List.mem_cons, List.not_mem_nil, or_false] at hφ
      subst hφ
      obtain ⟨t, ht⟩ := hm x
      have h3 : (Fact.sli sz (recN C kids sz one n) r.1 r.2 (kids x)).p F w := h2 _ List.mem_cons_self
      rw [ht] at h3
      rw [hk]
      exact sli_mapTo f (sli_left h3) (fun cs x hr => recN_short hC hk hm hr)⟩
theorem rec_lendS (hC : ∀ x r, C x r = C' (f x) r) (hk : ∀ x, kids' (f x) = (main x).map f) (hm : ∀ x, ∃ t, kids x = main x ++ t) {F : Foot} {w : World} {cs : List Value} {x : α} : (recR C kids sz one).p F w cs x → (recR C' kids' sz one').p F w cs (f x) := fun ⟨n, h⟩ => ⟨n, recN_short hC hk hm h⟩
end
theorem Holds.rowKind {α β : Type} {C : Ctx} {Φ H : List Fact} {w : World} {e sz : Nat} {v : Value} {R : Rep α} (R' : Rep β) (h : Holds C Φ H w) (j : Nat) (hj : H[j]? = some (.own e sz R v [])) : Holds C Φ (H.set j (.own e sz R' v [])) w :=
  h.as_ j hj (fun N F ⟨h3, ys, ho, hc⟩ => ⟨h3, ys, ho, hc⟩)
end Go.Proofs.YtalbennlmcpnmaaGreat
