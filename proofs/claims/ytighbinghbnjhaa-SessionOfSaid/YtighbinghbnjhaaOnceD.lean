/- A table of sessions and what was done: the plain law behind SessionOnce. No program in sight. -/
import Derived.Test.YtighbinghbnjhaaPart
namespace Go.Proofs.Ytighbinghbnjhaa
open Go Go.RowKit
/-- What a table and the record of what was done have to do with each other. -/
structure Ledger (nx : Nat) (L : List SessD) (f : Int × Int → Option Int) : Prop where
  ids : ∀ s ∈ L, s.id < nx
  nod : (L.map (·.id)).Nodup
  low : ∀ i q v, f (i, q) = some v → i < nx
  seq : ∀ s ∈ L, ∀ q v, f (s.id, q) = some v → q ≤ s.seq
  last : ∀ s ∈ L, s.seq = 0 ∨ f (s.id, s.seq) = some s.r.num
  bare : ∀ s ∈ L, s.r.facts = [] ∧ s.r.said = []
theorem led_new : Ledger 1 [] (fun _ => none) := ⟨by simp, by simp, by simp, by simp, by simp, by simp⟩
theorem led_small {nx : Nat} {L : List SessD} {f : Int × Int → Option Int} (h : Ledger nx L f) : ∀ y ∈ L, y.r.small := fun y hy => by
  obtain ⟨h1, h2⟩ := h.bare y hy
  simp [ReplyD.small, h1, h2]
theorem led_open {nx : Nat} {L : List SessD} {f : Int × Int → Option Int} (h : Ledger nx L f) : Ledger (nx + 1) (L ++ [sesNew (nx : Int)]) f := by
  refine ⟨fun s hs => ?_, ?_, fun i q v hv => ?_, fun s hs q v hv => ?_, fun s hs => ?_, fun s hs => ?_⟩
  · rcases List.mem_append.1 hs with hs | hs
    · have := h.ids s hs; omega
    · simp at hs; subst hs; simp [sesNew]; omega
  · rw [List.map_append]
    refine List.nodup_append.2 ⟨h.nod, by simp, fun a ha b hb => ?_⟩
    simp at hb; subst hb
    obtain ⟨s, hs, rfl⟩ := List.mem_map.1 ha
    have := h.ids s hs
    simp [sesNew]; omega
  · have := h.low i q v hv; omega
  · rcases List.mem_append.1 hs with hs | hs
    · exact h.seq s hs q v hv
    · simp at hs; subst hs
      have := h.low _ q v hv
      simp [sesNew] at this
  · rcases List.mem_append.1 hs with hs | hs
    · exact h.last s hs
    · simp at hs; subst hs; exact .inl rfl
  · rcases List.mem_append.1 hs with hs | hs
    · exact h.bare s hs
    · simp at hs; subst hs; exact ⟨rfl, rfl⟩
theorem led_sub {nx : Nat} {L M : List SessD} {f : Int × Int → Option Int} (h : Ledger nx L f) (hs : M.Sublist L) : Ledger nx M f :=
  ⟨fun s hm => h.ids s (hs.subset hm), h.nod.sublist (hs.map _), h.low, fun s hm => h.seq s (hs.subset hm), fun s hm => h.last s (hs.subset hm), fun s hm => h.bare s (hs.subset hm)⟩
theorem led_expire {nx : Nat} {L : List SessD} {f : Int × Int → Option Int} (h : Ledger nx L f) (id : Int) : Ledger nx (expireOf L id).1 f := by
  unfold expireOf
  split
  · exact h
  · refine led_sub h ?_
    have h1 : (L.take (placeOf L id).toNat ++ L.drop ((placeOf L id).toNat + 1)).Sublist (L.take (placeOf L id).toNat ++ L.drop (placeOf L id).toNat) :=
      List.Sublist.append (List.Sublist.refl _) (List.drop_sublist_drop_left _ (by omega))
    rwa [List.take_append_drop] at h1
theorem ask_some {L : List SessD} {id seq : Int} (h : 0 ≤ placeOf L id) : ∃ s, L[(placeOf L id).toNat]? = some s ∧ s.id = id ∧ askOf L id seq = (if seq < 1 ∨ seq < s.seq then (rplNil, false, 304) else if seq = s.seq then (s.r, true, 0) else (rplNil, false, 0)) ∧
    ∀ x, doneOf L id seq x = (if seq < 1 ∨ seq ≤ s.seq then (L, 304) else (L.set (placeOf L id).toNat ⟨s.id, seq, x⟩, 0)) := by
  obtain ⟨s, h1, h2⟩ := placeOf_get h
  exact ⟨s, h1, h2, by unfold askOf; rw [if_neg (by omega), h1], fun x => by unfold doneOf; rw [if_neg (by omega), h1]⟩
theorem ask_is {nx : Nat} {L : List SessD} {f : Int × Int → Option Int} (h : Ledger nx L f) {id seq : Int} (hd : (askOf L id seq).2.1 = true) : (askOf L id seq).2.2 = 0 ∧ f (id, seq) = some (askOf L id seq).1.num := by
  rcases Int.lt_or_le (placeOf L id) 0 with h0 | h0
  · unfold askOf at hd; rw [if_pos h0] at hd; cases hd
  · obtain ⟨s, h1, rfl, h3, _⟩ := ask_some (seq := seq) h0
    have hs := List.mem_of_getElem? h1
    rw [h3] at hd ⊢
    split at hd
    · cases hd
    · rename_i hn
      rw [if_neg hn]
      split at hd
      · rename_i he
        rw [if_pos he]
        subst he
        rcases h.last s hs with h4 | h4
        · omega
        · exact ⟨rfl, h4⟩
      · cases hd
theorem ask_new {nx : Nat} {L : List SessD} {f : Int × Int → Option Int} (h : Ledger nx L f) {id seq : Int} (hd : (askOf L id seq).2.1 = false) (he : (askOf L id seq).2.2 = 0) :
    f (id, seq) = none ∧ ∀ x, (doneOf L id seq x).2 = 0 ∧ ((x.facts = [] ∧ x.said = []) → Ledger nx (doneOf L id seq x).1 (fun q => if q = (id, seq) then some x.num else f q)) := by
  rcases Int.lt_or_le (placeOf L id) 0 with h0 | h0
  · unfold askOf at he; rw [if_pos h0] at he; cases he
  · obtain ⟨s, h1, rfl, h3, h5⟩ := ask_some (seq := seq) h0
    have hs := List.mem_of_getElem? h1
    rw [h3] at hd he
    split at he
    · cases he
    · rename_i hn
      rw [if_neg hn] at hd
      split at hd
      · cases hd
      · rename_i hne
        have hgt : ¬ (seq < 1 ∨ seq ≤ s.seq) := by omega
        refine ⟨?_, fun x => ?_⟩
        · cases hf : f (s.id, seq) with
          | none => rfl
          | some v => have := h.seq s hs seq v hf; omega
        · rw [h5, if_neg hgt]
          refine ⟨rfl, fun hb => ?_⟩
          have hlt := (List.getElem?_eq_some_iff.1 h1).1
          have hmem : ∀ y ∈ L.set (placeOf L s.id).toNat ⟨s.id, seq, x⟩, y = ⟨s.id, seq, x⟩ ∨ (y ∈ L ∧ y.id ≠ s.id) := fun y hy => by
            rw [List.mem_iff_getElem?] at hy
            obtain ⟨j, hj⟩ := hy
            rw [List.getElem?_set] at hj
            split at hj
            · exact .inl (Option.some.inj (by simpa using hj)).symm
            · rename_i hjne
              refine .inr ⟨List.mem_of_getElem? hj, fun e => hjne ?_⟩
              have q1 : (L.map (·.id))[j]? = some s.id := by simp [hj, e]
              have q2 : (L.map (·.id))[(placeOf L s.id).toNat]? = some s.id := by simp [h1]
              exact (List.getElem?_inj (by simpa using hlt) h.nod).1 (q2.trans q1.symm)
          have hmap : (L.set (placeOf L s.id).toNat (⟨s.id, seq, x⟩ : SessD)).map (·.id) = L.map (·.id) := by
            rw [List.map_set]
            exact set_get (by simp [h1])
          refine ⟨fun y hy => ?_, by rw [hmap]; exact h.nod, fun i q v hv => ?_, fun y hy q v hv => ?_, fun y hy => ?_, fun y hy => ?_⟩
          · rcases hmem y hy with rfl | ⟨hy, _⟩
            · exact h.ids s hs
            · exact h.ids y hy
          · split at hv
            · rename_i e; cases e; exact h.ids s hs
            · exact h.low i q v hv
          · rcases hmem y hy with rfl | ⟨hy, hne2⟩
            · split at hv
              · rename_i e; cases e; exact Int.le_refl _
              · have := h.seq s hs q v hv; simp; omega
            · rw [if_neg (fun e => hne2 (by simpa using congrArg Prod.fst e))] at hv
              exact h.seq y hy q v hv
          · rcases hmem y hy with rfl | ⟨hy, hne2⟩
            · right; simp
            · rcases h.last y hy with h6 | h6
              · exact .inl h6
              · right; rw [if_neg (fun e => hne2 (by simpa using congrArg Prod.fst e))]; exact h6
          · rcases hmem y hy with rfl | ⟨hy, _⟩
            · exact hb
            · exact h.bare y hy
theorem ask_else {L : List SessD} {id seq : Int} : (askOf L id seq).2.2 = 0 ∨ (askOf L id seq).2.2 = 303 ∨ (askOf L id seq).2.2 = 304 := by
  rcases Int.lt_or_le (placeOf L id) 0 with h0 | h0
  · unfold askOf; rw [if_pos h0]; exact .inr (.inl rfl)
  · obtain ⟨s, _, _, h3, _⟩ := ask_some (seq := seq) h0
    rw [h3]
    split
    · exact .inr (.inr rfl)
    · split <;> exact .inl rfl
end Go.Proofs.Ytighbinghbnjhaa
