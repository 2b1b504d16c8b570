import Derived.Test.YtegkmbkbaenkcaaMapG
import Derived.Test.YtegkmbkbaenkcaaSortM
namespace Go.Proofs.Ytegkmbkbaenkcaa
open Go Go.RowKit Go.Shelf
theorem sortOk_perm {α : Type} {cm : α → α → Option Int} {l l' : List α} (h : l.Perm l') (hk : SortOk cm l) : SortOk cm l' where
  some := fun x hx y hy => hk.some x (h.mem_iff.2 hx) y (h.mem_iff.2 hy)
  irrefl := fun x hx => hk.irrefl x (h.mem_iff.2 hx)
  trans := fun x hx y hy z hz => hk.trans x (h.mem_iff.2 hx) y (h.mem_iff.2 hy) z (h.mem_iff.2 hz)
  ntrans := fun x hx y hy z hz => hk.ntrans x (h.mem_iff.2 hx) y (h.mem_iff.2 hy) z (h.mem_iff.2 hz)
  parts := fun x hx y hy => hk.parts x (h.mem_iff.2 hx) y (h.mem_iff.2 hy)
  len := by rw [← h.length_eq]; exact hk.len
theorem ins_sorted {α : Type} {R : α → α → Prop} {L : List α} (ht : ∀ x ∈ L, ∀ y ∈ L, ∀ z ∈ L, R x y → R y z → R x z) (hT : ∀ x ∈ L, ∀ y ∈ L, R x y ∨ R y x) (x : α) (hx : x ∈ L) : ∀ (l : List α), (∀ y ∈ l, y ∈ L) → l.Pairwise R → ∃ l' : List α, l'.Perm (x :: l) ∧ l'.Pairwise R
  | [], _, _ => ⟨[x], List.Perm.refl _, by simp⟩
  | y :: l, hm, hp => by
    have hy := hm y (by simp)
    rw [List.pairwise_cons] at hp
    rcases hT x hx y hy with h | h
    · refine ⟨x :: y :: l, List.Perm.refl _, ?_⟩
      rw [List.pairwise_cons, List.pairwise_cons]
      refine ⟨fun z hz => ?_, hp⟩
      rcases List.mem_cons.1 hz with rfl | hz
      · exact h
      · exact ht x hx y hy z (hm z (by simp [hz])) h (hp.1 z hz)
    · obtain ⟨l', h1, h2⟩ := ins_sorted ht hT x hx l (fun z hz => hm z (by simp [hz])) hp.2
      refine ⟨y :: l', (h1.cons y).trans (List.Perm.swap _ _ _), ?_⟩
      rw [List.pairwise_cons]
      refine ⟨fun z hz => ?_, h2⟩
      rcases List.mem_cons.1 (h1.mem_iff.1 hz) with rfl | hz
      · exact h
      · exact hp.1 z hz
theorem sorts_exist {α : Type} {R : α → α → Prop} {L : List α} (ht : ∀ x ∈ L, ∀ y ∈ L, ∀ z ∈ L, R x y → R y z → R x z) (hT : ∀ x ∈ L, ∀ y ∈ L, R x y ∨ R y x) : ∀ (l : List α), (∀ y ∈ l, y ∈ L) → ∃ l' : List α, l'.Perm l ∧ l'.Pairwise R
  | [], _ => ⟨[], List.Perm.refl _, by simp⟩
  | x :: l, hm => by
    obtain ⟨l1, h1, h2⟩ := sorts_exist ht hT l (fun y hy => hm y (by simp [hy]))
    obtain ⟨l2, h3, h4⟩ := ins_sorted ht hT x (hm x (by simp)) l1 (fun y hy => hm y (by simp [h1.mem_iff.1 hy])) h2
    exact ⟨l2, h3.trans (h1.cons x), h4⟩
theorem sortL_spec {α : Type} {cm : α → α → Option Int} {l : List α} (hk : SortOk cm l) : (sortL (cfO cm) l).Perm l ∧ (sortL (cfO cm) l).Pairwise fun a b => ¬ cfO cm b a < 0 := by
  obtain ⟨l', h1, h2⟩ := sorts_exist (R := fun a b => ¬ cfO cm b a < 0) (L := l) (fun x hx y hy z hz h1 h2 => hk.ntrans z hz y hy x hx h2 h1) (fun x hx y hy => by
    by_cases h : cfO cm y x < 0
    · exact .inr (fun h2 => hk.irrefl x hx (hk.trans x hx y hy x hx h2 h))
    · exact .inl h) l (fun _ h => h)
  rw [sortL_is h1 h2 hk.parts]
  exact ⟨h1, h2⟩
theorem sortM_perm {α : Type} {cm : α → α → Option Int} {l l' v : List α} (h : l.Perm l') (hm : sortM cm l' = some v) : sortM cm l = some v := by
  obtain ⟨hk, rfl⟩ := sortM_ok hm
  have hk' := sortOk_perm h.symm hk
  have h1 : sortM cm l = some (sortL (cfO cm) l) := by unfold sortM; rw [if_pos hk']
  rw [h1]
  congr 1
  have hs := sortL_spec hk
  exact sortL_is (hs.1.trans h.symm) hs.2 hk'.parts
theorem keys_round {κ : Type} [DecidableEq κ] {l td ks : List κ} {k : κ} (h : (l ++ td).Perm ks) (hk : k ∈ td) : ((l ++ [k]) ++ rmK td k).Perm ks := by
  have h1 : td.Perm (k :: rmK td k) := List.perm_cons_erase hk
  rw [List.append_assoc]
  exact ((h1.symm).append_left l).trans h
theorem keys_len {κ : Type} [DecidableEq κ] {l td ks : List κ} {k : κ} {M : Nat} (h : (l ++ td).Perm ks) (hk : k ∈ td) (hM : ks.length ≤ M) : l.length + [k].length ≤ M := by
  have h1 := h.length_eq
  have h2 : 0 < td.length := List.length_pos_of_mem hk
  simp at h1 ⊢
  omega
end Go.Proofs.Ytegkmbkbaenkcaa
