import Derived.Test.YtighbinghbnjhaaGreatXM
import Derived.Test.YtighbinghbnjhaaGreatOnceD
namespace Go.Proofs.YtighbinghbnjhaaGreat
open Go.RowKit
theorem known_is (N : Nat) (l : List SessD) (a : Int) : m_session_Table_known N l a = some () := rfl
theorem find_is {N : Nat} {l : List SessD} {id : Int} (hN : 9223372036854775808 ≤ N) (hl : l.length ≤ 9223372036854775807) : m_slices_IndexFunc_Session N l id = some (placeOf l id) := by
  obtain ⟨o, h1, h2⟩ := iter_inv (f := m_slices_IndexFunc_Session_L1 N l id) (fun i => i ≤ l.length ∧ ∀ y ∈ l.take i, y.id ≠ id) (fun i => l.length - i)
    (fun o => o = .inr (placeOf l id) ∨ (o = .inl () ∧ placeOf l id = -1)) (fun i hi => by
      unfold m_slices_IndexFunc_Session_L1
      by_cases hlt : i < l.length
      · have hx := List.getElem?_eq_getElem hlt
        rw [if_pos (by simpa using hlt), hx]
        simp only [bindO_pure, m_session_row_find_1]
        by_cases he : l[i].id = id
        · right
          exact ⟨_, by rw [if_pos (by simpa using he)], .inl (by rw [placeOf_at hi.2 hx he])⟩
        · left
          exact ⟨i + 1, by rw [if_neg (by simpa using he), gd_pos (by omega)], ⟨by omega, noId_step hi.2 hx he⟩, by omega⟩
      · right
        exact ⟨_, by rw [if_neg (by simpa using hlt)], .inr ⟨rfl, placeOf_none (noId_all hi.2 (by omega))⟩⟩) N 0 ⟨by omega, by simp⟩ (by omega)
  unfold m_slices_IndexFunc_Session
  rw [h1]
  rcases h2 with rfl | ⟨rfl, h3⟩
  · rfl
  · rw [h3]; rfl
theorem at_is {N : Nat} {l : List SessD} {nx id : Int} (hN : 9223372036854775808 ≤ N) (hl : l.length ≤ 9223372036854775807) (hn : 0 < nx) :
    m_session_Table_at N l nx id = some (if placeOf l id < 0 then (0, 303) else (placeOf l id, 0)) := by
  unfold m_session_Table_at m_session_row_find
  simp only [known_is, bindO_pure, find_is hN hl]
  rw [if_neg (by simp; omega)]
  by_cases h : placeOf l id < 0
  · rw [if_pos (by simpa using h), if_pos h]
  · rw [if_neg (by simpa using h), if_neg h]
def ReplyD.fit (x : ReplyD) : Prop := x.facts.length ≤ 68719476736 ∧ x.said.length ≤ 68719476736 ∧ ∀ f ∈ x.facts, f.args.length ≤ 68719476736
theorem own_is {N : Nat} {a b : Int} {l : List FactD} {m : List V} (hN : 9223372036854775808 ≤ N) (h : (⟨a, b, l, m⟩ : ReplyD).fit) : m_session_own N a b l m = some l := by
  obtain ⟨h1, h2, h3⟩ := h
  simp only at h1 h2 h3
  obtain ⟨o, h4, h5⟩ := iter_inv (f := m_session_own_L1 N l) (fun s => s.1 ≤ l.length ∧ s.2 = l) (fun s => l.length - s.1) (fun o => o = (l, l.length)) (fun s hs => by
      obtain ⟨i, M⟩ := s
      obtain ⟨hi, rfl⟩ := hs
      unfold m_session_own_L1
      simp only
      by_cases hlt : i < M.length
      · left
        have hx := List.getElem?_eq_getElem hlt
        refine ⟨(i + 1, M), ?_, ⟨by simp only at hi ⊢; omega, rfl⟩, by simp only; omega⟩
        rw [if_pos (by simpa using hlt), hx]
        simp only [bindO_pure]
        rw [gd_pos (Nat.le_trans (h3 _ (List.getElem_mem hlt)) (by decide)), gd_pos (by omega), show M.set i (⟨M[i].id, M[i].ty, M[i].args⟩ : FactD) = M from set_get hx]
      · right
        exact ⟨(M, i), by rw [if_neg (by simpa using hlt)], by simp only at hi; congr 1; omega⟩) N (0, l) ⟨by simp, rfl⟩ (by simp only; omega)
  subst h5
  unfold m_session_own
  rw [gd_pos (Nat.le_trans h2 (by decide)), gd_pos (Nat.le_trans h1 (by decide)), h4, bindO_pure]
  simp only
  rw [gd_pos (Nat.le_refl _)]
theorem all_is {N : Nat} {l : List SessD} (hN : 9223372036854775808 ≤ N) (hl : l.length ≤ 68719476736) (hf : ∀ y ∈ l, y.r.fit) : m_session_all N l = some l := by
  obtain ⟨o, h4, h5⟩ := iter_inv (f := m_session_all_L1 N l) (fun s => s.1 ≤ l.length ∧ s.2 = l) (fun s => l.length - s.1) (fun o => o = (l, l.length)) (fun s hs => by
      obtain ⟨i, M⟩ := s
      obtain ⟨hi, rfl⟩ := hs
      unfold m_session_all_L1
      simp only
      by_cases hlt : i < M.length
      · left
        have hx := List.getElem?_eq_getElem hlt
        refine ⟨(i + 1, M), ?_, ⟨by simp only at hi ⊢; omega, rfl⟩, by simp only; omega⟩
        rw [if_pos (by simpa using hlt), hx]
        simp only [bindO_pure]
        rw [own_is hN (hf _ (List.getElem_mem hlt)), bindO_pure, gd_pos (by omega), show M.set i (⟨M[i].id, M[i].seq, ⟨M[i].r.err, M[i].r.num, M[i].r.facts, M[i].r.said⟩⟩ : SessD) = M from set_get hx]
      · right
        exact ⟨(M, i), by rw [if_neg (by simpa using hlt)], by simp only at hi; congr 1; omega⟩) N (0, l) ⟨by simp, rfl⟩ (by simp only; omega)
  subst h5
  unfold m_session_all
  rw [gd_pos (Nat.le_trans hl (by decide)), h4, bindO_pure]
  simp only
  rw [gd_pos (Nat.le_refl _)]
theorem All_is {N : Nat} {l : List SessD} {nx : Int} (hN : 9223372036854775808 ≤ N) (hl : l.length ≤ 68719476736) (hf : ∀ y ∈ l, y.r.fit) (hn : 0 < nx) : m_session_Table_All N l nx = some l := by
  unfold m_session_Table_All
  rw [known_is, bindO_pure, if_neg (by simp; omega), all_is hN hl hf]; rfl
theorem Expire_is {N : Nat} {l : List SessD} {nx id : Int} (hN : 9223372036854775808 ≤ N) (hl : l.length ≤ 68719476736) (hn : 0 < nx) :
    ∃ e : Nat, (e : Int) = (expireOf l id).2 ∧ m_session_Table_Expire N l nx id = some (e, (expireOf l id).1) := by
  unfold m_session_Table_Expire expireOf
  rw [at_is hN (by omega) hn]
  rcases Int.lt_or_le (placeOf l id) 0 with h0 | h0
  · rw [if_pos h0, if_pos h0]; exact ⟨303, rfl, rfl⟩
  · have hlt := placeOf_lt h0
    rw [if_neg (by omega), if_neg (by omega)]
    refine ⟨0, rfl, ?_⟩
    simp only [bindO_pure]
    rw [if_pos (by simp), gd_pos (by omega), gd_pos h0, gd_pos hlt]; rfl
theorem Pick_is {N : Nat} {x n : Int} (hn : n ≤ 9223372036854775807) : ∃ y, m_ropewalkkit_Pick N x n = some y ∧ 0 ≤ y ∧ (1 ≤ n → y < n) ∧ (n < 1 → y = 0) := by
  unfold m_ropewalkkit_Pick
  by_cases h : n < 1
  · exact ⟨0, by rw [if_pos (by simpa using h)], by omega, by omega, fun _ => rfl⟩
  · have h1 := Int.tmod_lt_of_pos x (show 0 < n by omega)
    have h2 : -n < Int.tmod x n := by
      have := Int.tmod_lt_of_pos (-x) (show 0 < n by omega)
      rw [Int.neg_tmod] at this; omega
    rw [if_neg (by simpa using h), gd_pos (by omega)]
    by_cases h3 : Int.tmod x n < 0
    · exact ⟨_, by rw [if_pos (by simpa using h3), gd_pos (by omega)]; rfl, by omega, by omega, by omega⟩
    · exact ⟨_, by rw [if_neg (by simpa using h3)]; rfl, by omega, by omega, by omega⟩
end Go.Proofs.YtighbinghbnjhaaGreat
