import Derived.Test.YtighbinghbnjhaaGreatXM
import Derived.Test.YtighbinghbnjhaaGreatOnceD
import Derived.Test.YtighbinghbnjhaaGreatSesQ
import Derived.Test.YtighbinghbnjhaaGreatPlain
namespace Go.Proofs.YtighbinghbnjhaaGreat
open Go.RowKit
theorem sameValues_is {N : Nat} {l m : List V} (hN : 9223372036854775808 ≤ N) (hl : l.length ≤ 9223372036854775807) : Says (m_ropewalkkit_SameValues N l m) (l = m) := by
  unfold m_ropewalkkit_SameValues
  refine Says.same hN hl (fun hlm i x y hi hx hy => ⟨decide (x = y), by simp, ?_⟩) (fun i hi => ?_)
  · unfold m_ropewalkkit_SameValues_L1
    rw [if_pos (by simpa using hi), hx, bindO_pure, hy, bindO_pure]
    by_cases h : x = y
    · rw [if_neg (by simp [h]), gd_pos (by omega), if_pos (by simp [h])]
    · rw [if_pos (by simp [h]), if_neg (by simp [h])]
  · unfold m_ropewalkkit_SameValues_L1
    rw [if_neg (by simp; omega)]
theorem fact_ext {f g : FactD} : f = g ↔ f.id = g.id ∧ f.ty = g.ty ∧ f.args = g.args := by
  cases f; cases g; simp
theorem sameFact_is {N : Nat} {f g : FactD} (hN : 9223372036854775808 ≤ N) (hl : f.args.length ≤ 9223372036854775807) : Says (m_ropewalkkit_SameFact N f.id f.ty f.args g.id g.ty g.args) (f = g) := by
  unfold m_ropewalkkit_SameFact
  refine Says.iff (Says.and (Says.and (Says.id (sameValues_is hN hl)) (by simp)) (by simp)) fact_ext.symm
theorem sameFacts_is {N : Nat} {l m : List FactD} (hN : 9223372036854775808 ≤ N) (hl : l.length ≤ 9223372036854775807) (ha : ∀ f ∈ l, f.args.length ≤ 9223372036854775807) : Says (m_ropewalkkit_SameFacts N l m) (l = m) := by
  unfold m_ropewalkkit_SameFacts
  refine Says.same hN hl (fun hlm i x y hi hx hy => ?_) (fun i hi => ?_)
  · obtain ⟨b, h1, h2⟩ := sameFact_is (N := N) (f := x) (g := y) hN (ha x (List.mem_of_getElem? hx))
    refine ⟨b, h2, ?_⟩
    unfold m_ropewalkkit_SameFacts_L1
    rw [if_pos (by simpa using hi), hx, bindO_pure, hy, bindO_pure, h1, bindO_pure]
    cases b
    · rfl
    · rw [if_neg (by simp), gd_pos (by omega), if_pos rfl]
  · unfold m_ropewalkkit_SameFacts_L1
    rw [if_neg (by simp; omega)]
theorem reply_ext {f g : ReplyD} : f = g ↔ f.err = g.err ∧ f.num = g.num ∧ f.facts = g.facts ∧ f.said = g.said := by
  cases f; cases g; simp
theorem fit_long {x : ReplyD} (h : x.fit) : x.facts.length ≤ 9223372036854775807 ∧ x.said.length ≤ 9223372036854775807 ∧ ∀ f ∈ x.facts, f.args.length ≤ 9223372036854775807 :=
  ⟨Nat.le_trans h.1 (by decide), Nat.le_trans h.2.1 (by decide), fun f hf => Nat.le_trans (h.2.2 f hf) (by decide)⟩
theorem sameReply_is {N : Nat} {f g : ReplyD} (hN : 9223372036854775808 ≤ N) (hf : f.fit) : Says (m_ropewalkkit_SameReply N f.err f.num f.facts f.said g.err g.num g.facts g.said) (f = g) := by
  obtain ⟨h1, h2, h3⟩ := fit_long hf
  unfold m_ropewalkkit_SameReply m_ropewalkkit_SameReply_C1
  refine Says.id (Says.iff (Says.and (Says.and (Says.bind (p := f.facts = g.facts) (q := f.facts = g.facts ∧ f.said = g.said) (sameFacts_is hN h1 h3) (fun b hb => Says.and (Says.id (sameValues_is hN h2)) hb)) (by simp)) (by simp)) reply_ext.symm)
theorem sess_ext {f g : SessD} : f = g ↔ f.id = g.id ∧ f.seq = g.seq ∧ f.r = g.r := by
  cases f; cases g; simp
theorem sameSession_is {N : Nat} {f g : SessD} (hN : 9223372036854775808 ≤ N) (hf : f.r.fit) : Says (m_ropewalkkit_SameSession N f.id f.seq f.r.err f.r.num f.r.facts f.r.said g.id g.seq g.r.err g.r.num g.r.facts g.r.said) (f = g) := by
  unfold m_ropewalkkit_SameSession
  exact Says.iff (Says.and (Says.and (Says.id (sameReply_is hN hf)) (by simp)) (by simp)) sess_ext.symm
theorem sameSessions_is {N : Nat} {l m : List SessD} (hN : 9223372036854775808 ≤ N) (hl : l.length ≤ 9223372036854775807) (ha : ∀ f ∈ l, f.r.fit) : Says (m_ropewalkkit_SameSessions N l m) (l = m) := by
  unfold m_ropewalkkit_SameSessions
  refine Says.same hN hl (fun hlm i x y hi hx hy => ?_) (fun i hi => ?_)
  · obtain ⟨b, h1, h2⟩ := sameSession_is (N := N) (f := x) (g := y) hN (ha x (List.mem_of_getElem? hx))
    refine ⟨b, h2, ?_⟩
    unfold m_ropewalkkit_SameSessions_L1
    rw [if_pos (by simpa using hi), hx, bindO_pure, hy, bindO_pure, h1, bindO_pure]
    cases b
    · rfl
    · rw [if_neg (by simp), gd_pos (by omega), if_pos rfl]
  · unfold m_ropewalkkit_SameSessions_L1
    rw [if_neg (by simp; omega)]
end Go.Proofs.YtighbinghbnjhaaGreat
