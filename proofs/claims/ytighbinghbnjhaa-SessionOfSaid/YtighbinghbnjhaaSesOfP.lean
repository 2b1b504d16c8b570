/- The plain law behind SessionOf. -/
import Derived.Test.YtighbinghbnjhaaSesP
import Derived.Test.YtighbinghbnjhaaPlain
namespace Go.Proofs.Ytighbinghbnjhaa
open Go.RowKit
theorem sameValues_is {N : Nat} {l m : List V} (hN : 9223372036854775808 ≤ N) (hl : l.length ≤ 9223372036854775807) : Says (m_ropewalkkit_SameValues N l m) (l = m) := by
  unfold m_ropewalkkit_SameValues
  refine Says.same hN hl (fun hlm i x y hi hx hy => ⟨decide (x = y), by simp, ?_⟩) (fun i hi => ?_)
  · unfold m_ropewalkkit_SameValues_L1
    rw [if_pos (by simpa using hi), hx, bindO_pure, hy, bindO_pure]
    by_cases h : x = y
    · rw [if_neg (by simp [h]), gd_pos (by omega), if_pos (by simp [h])]
    · rw [if_pos (by simp [h]), if_neg (by simp [h])]
  · unfold m_ropewalkkit_SameValues_L1
    rw [if_neg (by simp; omega)]
theorem fact_ext {f g : FactD} : f = g ↔ f.id = g.id ∧ f.ty = g.ty ∧ f.args = g.args := by
  cases f; cases g; simp
theorem sameFact_is {N : Nat} {f g : FactD} (hN : 9223372036854775808 ≤ N) (hl : f.args.length ≤ 9223372036854775807) : Says (m_ropewalkkit_SameFact N f.id f.ty f.args g.id g.ty g.args) (f = g) := by
  unfold m_ropewalkkit_SameFact
  refine Says.iff (Says.and (Says.and (Says.id (sameValues_is hN hl)) (by simp)) (by simp)) fact_ext.symm
theorem sameFacts_is {N : Nat} {l m : List FactD} (hN : 9223372036854775808 ≤ N) (hl : l.length ≤ 9223372036854775807) (ha : ∀ f ∈ l, f.args.length ≤ 9223372036854775807) : Says (m_ropewalkkit_SameFacts N l m) (l = m) := by
  unfold m_ropewalkkit_SameFacts
  refine Says.same hN hl (fun hlm i x y hi hx hy => ?_) (fun i hi => ?_)
  · obtain ⟨b, h1, h2⟩ := sameFact_is (N := N) (f := x) (g := y) hN (ha x (List.mem_of_getElem? hx))
    refine ⟨b, h2, ?_⟩
    unfold m_ropewalkkit_SameFacts_L1
    rw [if_pos (by simpa using hi), hx, bindO_pure, hy, bindO_pure, h1, bindO_pure]
    cases b
    · rfl
    · rw [if_neg (by simp), gd_pos (by omega), if_pos rfl]
  · unfold m_ropewalkkit_SameFacts_L1
    rw [if_neg (by simp; omega)]
theorem reply_ext {f g : ReplyD} : f = g ↔ f.err = g.err ∧ f.num = g.num ∧ f.facts = g.facts ∧ f.said = g.said := by
  cases f; cases g; simp
theorem fit_long {x : ReplyD} (h : x.fit) : x.facts.length ≤ 9223372036854775807 ∧ x.said.length ≤ 9223372036854775807 ∧ ∀ f ∈ x.facts, f.args.length ≤ 9223372036854775807 :=
  ⟨Nat.le_trans h.1 (by decide), Nat.le_trans h.2.1 (by decide), fun f hf => Nat.le_trans (h.2.2 f hf) (by decide)⟩
theorem sameReply_is {N : Nat} {f g : ReplyD} (hN : 9223372036854775808 ≤ N) (hf : f.fit) : Says (m_ropewalkkit_SameReply N f.err f.num f.facts f.said g.err g.num g.facts g.said) (f = g) := by
  obtain ⟨h1, h2, h3⟩ := fit_long hf
  unfold m_ropewalkkit_SameReply m_ropewalkkit_SameReply_C1
  refine Says.id (Says.iff (Says.and (Says.and (Says.bind (p := f.facts = g.facts) (q := f.facts = g.facts ∧ f.said = g.said) (sameFacts_is hN h1 h3) (fun b hb => Says.and (Says.id (sameValues_is hN h2)) hb)) (by simp)) (by simp)) reply_ext.symm)
theorem sess_ext {f g : SessD} : f = g ↔ f.id = g.id ∧ f.seq = g.seq ∧ f.r = g.r := by
  cases f; cases g; simp
theorem sameSession_is {N : Nat} {f g : SessD} (hN : 9223372036854775808 ≤ N) (hf : f.r.fit) : Says (m_ropewalkkit_SameSession N f.id f.seq f.r.err f.r.num f.r.facts f.r.said g.id g.seq g.r.err g.r.num g.r.facts g.r.said) (f = g) := by
  unfold m_ropewalkkit_SameSession
  exact Says.iff (Says.and (Says.and (Says.id (sameReply_is hN hf)) (by simp)) (by simp)) sess_ext.symm
theorem sameSessions_is {N : Nat} {l m : List SessD} (hN : 9223372036854775808 ≤ N) (hl : l.length ≤ 9223372036854775807) (ha : ∀ f ∈ l, f.r.fit) : Says (m_ropewalkkit_SameSessions_v2 N l m) (l = m) := by
  unfold m_ropewalkkit_SameSessions_v2
  refine Says.same hN hl (fun hlm i x y hi hx hy => ?_) (fun i hi => ?_)
  · obtain ⟨b, h1, h2⟩ := sameSession_is (N := N) (f := x) (g := y) hN (ha x (List.mem_of_getElem? hx))
    refine ⟨b, h2, ?_⟩
    unfold m_ropewalkkit_SameSessions_v2_L1
    rw [if_pos (by simpa using hi), hx, bindO_pure, hy, bindO_pure, h1, bindO_pure, bindO_pure]
    cases b
    · rfl
    · rw [if_neg (by simp), gd_pos (by omega), if_pos rfl]
  · unfold m_ropewalkkit_SameSessions_v2_L1
    rw [if_neg (by simp; omega)]
/-- A reply as it is handed in. -/
def ReplyD.came (x : ReplyD) : Prop := x.facts.length ≤ 140737488351232 ∧ x.said.length ≤ 140737488351232 ∧ ∀ f ∈ x.facts, f.args.length ≤ 140737488351232
theorem great_is {N : Nat} {x : ReplyD} (hN : 9223372036854775808 ≤ N) (hx : x.came) : ∃ b, m_ropewalklaw27_great N x.err x.num x.facts x.said = some b ∧ (b = false → x.fit) := by
  obtain ⟨h1, h2, h3⟩ := hx
  obtain ⟨o, h4, h5⟩ := iter_inv (f := m_ropewalklaw27_great_L1 N x.facts) (fun s => s.1 ≤ x.facts.length ∧ x.facts.length + x.said.length ≤ s.2 ∧ s.2 ≤ 1000000000000000 ∧ ∀ f ∈ x.facts.take s.1, f.args.length ≤ s.2) (fun s => x.facts.length - s.1)
    (fun o => o ≤ 200 → x.fit) (fun s hs => by
      obtain ⟨i, n⟩ := s
      obtain ⟨hi, hn, hb, ha⟩ := hs
      simp only at hi hn hb ha
      unfold m_ropewalklaw27_great_L1
      by_cases h : i < x.facts.length ∧ n ≤ 200
      · left
        have e : (if (decide (i < x.facts.length)) = true then some (decide (n ≤ 200)) else some false) = some true := by
          rw [if_pos (by simpa using h.1)]; simp [h.2]
        have hy := List.getElem?_eq_getElem h.1
        have hm := h3 _ (List.getElem_mem h.1)
        refine ⟨(i + 1, n + x.facts[i].args.length), ?_, ⟨by simp only; omega, by simp only; omega, by simp only; omega, fun f hf => ?_⟩, by simp only; omega⟩
        · simp only [e, bindO_pure, if_true, hy]
          rw [gd_pos (by omega), gd_pos (by omega)]
        · simp only at hf ⊢
          rw [List.take_add_one, hy] at hf
          rcases List.mem_append.1 hf with hf | hf
          · have := ha f hf; omega
          · simp at hf; subst hf; omega
      · right
        have e : (if (decide (i < x.facts.length)) = true then some (decide (n ≤ 200)) else some false) = some false := by
          by_cases h0 : i < x.facts.length
          · rw [if_pos (by simpa using h0)]; simp; omega
          · rw [if_neg (by simpa using h0)]
        refine ⟨n, by simp only [e, bindO_pure, Bool.false_eq_true, if_false], fun hle => ?_⟩
        have hil : i = x.facts.length := by omega
        rw [hil, List.take_length] at ha
        exact ⟨by omega, by omega, fun f hf => by have := ha f hf; omega⟩) N (0, x.facts.length + x.said.length) ⟨by simp, by simp, by simp only; omega, by simp⟩ (by simp only; omega)
  unfold m_ropewalklaw27_great
  rw [gd_pos (by omega), h4]
  exact ⟨_, rfl, fun hb => h5 (by simpa using hb)⟩
/-- A table as it may be. -/
structure TabOk (L : List SessD) (nx : Int) : Prop where
  pos : 0 < nx
  top : nx ≤ 1099511627777
  len : L.length ≤ 32
  fit : ∀ s ∈ L, s.r.fit
  low : ∀ s ∈ L, 0 < s.id ∧ s.id < nx ∧ 0 ≤ s.seq
  asc : L.Pairwise (fun a b => a.id < b.id)
theorem tab_sub {L M : List SessD} {nx : Int} (h : TabOk L nx) (hs : M.Sublist L) : TabOk M nx :=
  ⟨h.pos, h.top, Nat.le_trans hs.length_le h.len, fun s hm => h.fit s (hs.subset hm), fun s hm => h.low s (hs.subset hm), h.asc.sublist hs⟩
theorem do_is {N : Nat} {L : List SessD} {nx op id seq : Int} {x : ReplyD} (hN : 9223372036854775808 ≤ N) (h : TabOk L nx) (hx : x.fit) :
    ∃ e L' nx', m_ropewalklaw27_do N L nx op id seq x.err x.num x.facts x.said = some (e, L', nx') ∧ TabOk L' nx' := by
  obtain ⟨h1, h2, h3, h4, h5, h6⟩ := h
  have hh : TabOk L nx := ⟨h1, h2, h3, h4, h5, h6⟩
  obtain ⟨y, hy, _⟩ := Pick_is (N := N) (x := op) (n := 4) (by omega)
  unfold m_ropewalklaw27_do
  rw [hy, bindO_pure]
  by_cases c0 : y = 0
  · rw [if_pos (by simpa using c0), open_is (by omega) h1 h2]
    by_cases hf : 32 ≤ L.length ∨ nx > 1099511627776
    · rw [if_pos hf]; exact ⟨_, _, _, rfl, hh⟩
    · rw [if_neg hf]
      refine ⟨_, _, _, rfl, by omega, by omega, by simp; omega, fun s hs => ?_, fun s hs => ?_, ?_⟩
      · rcases List.mem_append.1 hs with hs | hs
        · exact h4 s hs
        · simp at hs; subst hs; simp [sesNew, ReplyD.fit]
      · rcases List.mem_append.1 hs with hs | hs
        · have := h5 s hs; omega
        · simp at hs; subst hs; simp [sesNew]; omega
      · refine List.pairwise_append.2 ⟨h6, by simp, fun a ha b hb => ?_⟩
        simp at hb; subst hb
        exact (h5 a ha).2.1
  · rw [if_neg (by simpa using c0)]
    by_cases c1 : y = 1
    · obtain ⟨e, _, he⟩ := Expire_is (N := N) (l := L) (nx := nx) (id := id) hN (by omega) h1
      rw [if_pos (by simpa using c1), he]
      refine ⟨_, _, _, rfl, tab_sub hh ?_⟩
      unfold expireOf
      split
      · exact List.Sublist.refl _
      · have q : (L.take (placeOf L id).toNat ++ L.drop ((placeOf L id).toNat + 1)).Sublist (L.take (placeOf L id).toNat ++ L.drop (placeOf L id).toNat) :=
          List.Sublist.append (List.Sublist.refl _) (List.drop_sublist_drop_left _ (by omega))
        rwa [List.take_append_drop] at q
    · obtain ⟨e, _, he⟩ := Done_is (N := N) (l := L) (nx := nx) (id := id) (seq := seq) (a := x.err) (b := x.num) (fs := x.facts) (sd := x.said) hN (by omega) hx h1
      rw [if_neg (by simpa using c1), he]
      refine ⟨_, _, _, rfl, ?_⟩
      rcases Int.lt_or_le (placeOf L id) 0 with h0 | h0
      · unfold doneOf; rw [if_pos h0]; exact hh
      · obtain ⟨s, q1, q2, _, q3⟩ := ask_some (seq := seq) h0
        rw [q3]
        split
        · exact hh
        · rename_i hn
          have hs := List.mem_of_getElem? q1
          have hlt := (List.getElem?_eq_some_iff.1 q1).1
          refine ⟨h1, h2, by simpa using h3, fun t ht => ?_, fun t ht => ?_, ?_⟩
          · rcases List.mem_or_eq_of_mem_set ht with ht | rfl
            · exact h4 t ht
            · exact hx
          · rcases List.mem_or_eq_of_mem_set ht with ht | rfl
            · exact h5 t ht
            · have := h5 s hs; simp only; omega
          · have e1 : (L.set (placeOf L id).toNat (⟨s.id, seq, x⟩ : SessD)).map (·.id) = L.map (·.id) := by
              rw [List.map_set]; exact set_get (by simp [q1])
            have e2 : (L.map (·.id)).Pairwise (· < ·) := List.pairwise_map.2 h6
            rw [← e1] at e2
            exact List.pairwise_map.1 e2
theorem of_is {N : Nat} {L : List SessD} {nx : Int} (hN : 9223372036854775808 ≤ N) (h : TabOk L nx) : m_session_Of N nx L = some (.inr L) := by
  have h1 := h.pos
  have h2 := h.top
  have h3 := h.len
  obtain ⟨o, h4, h5⟩ := iter_inv (f := m_session_Of_L1 N L nx) (fun s => s.1 ≤ L.length ∧ (∀ y ∈ L.drop s.1, s.2 < y.id)) (fun s => L.length - s.1) (fun o => o = .inl ()) (fun s hs => by
      obtain ⟨i, last⟩ := s
      obtain ⟨hi, hb⟩ := hs
      simp only at hi hb
      unfold m_session_Of_L1
      by_cases hlt : i < L.length
      · left
        have hy := List.getElem?_eq_getElem hlt
        have hd : L.drop i = L[i] :: L.drop (i + 1) := List.drop_eq_getElem_cons hlt
        have q1 : last < L[i].id := hb _ (by rw [hd]; exact List.mem_cons_self)
        have q2 := h.low _ (List.getElem_mem hlt)
        refine ⟨(i + 1, L[i].id), ?_, ⟨by simp only; omega, fun y hy => ?_⟩, by simp only; omega⟩
        · simp only [hy, bindO_pure]
          rw [if_pos (by simpa using hlt), if_neg (by simp; omega), if_neg (by simp; omega)]
          simp only [bindO_pure]
          rw [if_neg (by simp; omega), gd_pos (by omega)]
        · have hp : (L.drop i).Pairwise (fun a b => a.id < b.id) := h.asc.sublist (List.drop_sublist _ _)
          rw [hd] at hp
          exact (List.pairwise_cons.1 hp).1 y hy
      · right
        exact ⟨_, by simp only; rw [if_neg (by simpa using hlt)], rfl⟩) N (0, 0) ⟨by simp, fun y hy => by simp at hy; exact (h.low y hy).1⟩ (by simp only; omega)
  subst h5
  unfold m_session_Of
  rw [if_neg (by simp; omega), if_neg (by simp; omega), bindO_pure, if_neg (by simp; omega), h4]
  simp only [bindS_inl]
  rw [all_is hN (by omega) h.fit]; rfl
theorem next_is {N : Nat} {L : List SessD} {nx : Int} (h : 0 < nx) : m_session_Table_Next N L nx = some nx := by
  unfold m_session_Table_Next
  rw [known_is, bindO_pure, if_neg (by simp; omega)]
theorem came_of {x : ReplyD} (h : ok_ReplyD x) : x.came :=
  ⟨Nat.le_trans h.2.2.1.1 (by decide), Nat.le_trans h.2.2.2.1 (by decide), fun f hf => Nat.le_trans (h.2.2.1.2 f hf).2.2.1 (by decide)⟩
theorem sesof_law (l m : List Ropewalklaw27_DoD) (hl : ∀ x ∈ l, x.reply.came) (hm : ∀ x ∈ m, x.reply.came) : m_ropewalklaw27_SessionOf 9223372036854775808 l m = some true := by
  have hN : 9223372036854775808 ≤ 9223372036854775808 := Nat.le_refl _
  have aw : m_ropewalklaw27_awake 9223372036854775808 = some true := by kernel_rfl
  have more : ∀ (k : List Ropewalklaw27_DoD) (i : Nat), (i < k.length ∧ i < 120) → (if (decide (i < k.length)) = true then some (decide (i < 120)) else some false) = some true := fun k i h => by
    rw [if_pos (by simpa using h.1)]; simp [h.2]
  have nomore : ∀ (k : List Ropewalklaw27_DoD) (i : Nat), ¬ (i < k.length ∧ i < 120) → (if (decide (i < k.length)) = true then some (decide (i < 120)) else some false) = some false := fun k i h => by
    by_cases h0 : i < k.length
    · rw [if_pos (by simpa using h0)]; simp; omega
    · rw [if_neg (by simpa using h0)]
  obtain ⟨o, h1, h2⟩ := iter_inv (f := m_ropewalklaw27_SessionOf_L1 9223372036854775808 l) (fun s => s.1 ≤ 120 ∧ TabOk s.2.1 s.2.2) (fun s => 120 - s.1) (fun o => (∃ L nx, o = .inl (L, nx) ∧ TabOk L nx) ∨ o = .inr true) (fun s hs => by
      obtain ⟨i, L, nx⟩ := s
      obtain ⟨hi, ht⟩ := hs
      simp only at hi ht
      unfold m_ropewalklaw27_SessionOf_L1
      by_cases h : i < l.length ∧ i < 120
      · have hy := List.getElem?_eq_getElem h.1
        obtain ⟨b, hb1, hb2⟩ := great_is hN (hl _ (List.getElem_mem h.1))
        cases b with
        | true => right; exact ⟨_, by simp only [more l i h, bindO_pure, if_true, hy, hb1], .inr rfl⟩
        | false =>
          left
          obtain ⟨e, L', nx', hd, ht'⟩ := do_is (N := 9223372036854775808) (op := l[i].op) (id := l[i].id) (seq := l[i].seq) hN ht (hb2 rfl)
          exact ⟨(i + 1, L', nx'), by simp only [more l i h, bindO_pure, if_true, hy, hb1, hd, Bool.false_eq_true, if_false]; rw [gd_pos (by omega)], ⟨by simp only; omega, ht'⟩, by simp only; omega⟩
      · right
        exact ⟨_, by simp only [nomore l i h, bindO_pure, Bool.false_eq_true, if_false], .inl ⟨L, nx, rfl, ht⟩⟩) 9223372036854775808 (0, [], 1) ⟨by simp, ⟨by simp, by simp, by simp, by simp, by simp, by simp⟩⟩ (by simp only; omega)
  unfold m_ropewalklaw27_SessionOf
  rw [aw, bindO_pure, if_neg (by simp), show m_session_New 9223372036854775808 = some () from rfl, bindO_pure, h1]
  rcases h2 with ⟨L, nx, rfl, ht⟩ | rfl
  · simp only [bindS_inl, next_is ht.pos, bindO_pure, All_is hN (Nat.le_trans ht.len (by decide)) ht.fit ht.pos, of_is hN ht]
    rw [if_neg (by simp)]
    obtain ⟨o, h3, h4⟩ := iter_inv (f := m_ropewalklaw27_SessionOf_L3 9223372036854775808 m) (fun s => s.1 ≤ 120 ∧ TabOk s.2.1 s.2.2.1 ∧ s.2.2.2.1 = s.2.1 ∧ s.2.2.2.2 = s.2.2.1) (fun s => 120 - s.1)
      (fun o => (∃ L nx, o = .inl (L, nx, L, nx) ∧ TabOk L nx) ∨ o = .inr true) (fun s hs => by
        obtain ⟨i, L, nx, L2, nx2⟩ := s
        obtain ⟨hi, ht, e1, e2⟩ := hs
        simp only at hi ht e1 e2
        subst e1; subst e2
        unfold m_ropewalklaw27_SessionOf_L3
        by_cases h : i < m.length ∧ i < 120
        · have hy := List.getElem?_eq_getElem h.1
          obtain ⟨b, hb1, hb2⟩ := great_is hN (hm _ (List.getElem_mem h.1))
          cases b with
          | true => right; exact ⟨_, by simp only [more m i h, bindO_pure, if_true, hy, hb1], .inr rfl⟩
          | false =>
            left
            obtain ⟨e, L', nx', hd, ht'⟩ := do_is (N := 9223372036854775808) (op := m[i].op) (id := m[i].id) (seq := m[i].seq) hN ht (hb2 rfl)
            exact ⟨(i + 1, L', nx', L', nx'), by simp only [more m i h, bindO_pure, if_true, hy, hb1, hd, bne_self_eq_false, Bool.false_eq_true, if_false]; rw [gd_pos (by omega)], ⟨by simp only; omega, ht', rfl, rfl⟩, by simp only; omega⟩
        · right
          exact ⟨_, by simp only [nomore m i h, bindO_pure, Bool.false_eq_true, if_false], .inl ⟨_, _, rfl, ht⟩⟩) 9223372036854775808 (0, L, nx, L, nx) ⟨by simp, ht, rfl, rfl⟩ (by simp only; omega)
    rw [h3]
    rcases h4 with ⟨L, nx, rfl, ht⟩ | rfl
    · simp only [bindS_inl, next_is ht.pos, bindO_pure, All_is hN (Nat.le_trans ht.len (by decide)) ht.fit ht.pos]
      rw [if_pos (by simp), (sameSessions_is hN (Nat.le_trans ht.len (by decide)) ht.fit).eq_true rfl]; rfl
    · rfl
  · rfl
theorem sesof_arg (l : List Ropewalklaw27_DoD) (hl : l.length ≤ 140737488351232 ∧ ∀ y ∈ l, ok_Ropewalklaw27_DoD y) (m : List Ropewalklaw27_DoD) (hm : m.length ≤ 140737488351232 ∧ ∀ y ∈ m, ok_Ropewalklaw27_DoD y) : m_ropewalklaw27_SessionOf 9223372036854775808 l m = some true :=
  sesof_law l m (fun x hx => came_of (hl.2 x hx).2.2.2) (fun x hx => came_of (hm.2 x hx).2.2.2)
end Go.Proofs.Ytighbinghbnjhaa
