import Derived.Test.YtgangmegcejllaaDoorAgSet
namespace Go.Proofs.YtgangmegcejllaaDoor
open Go Go.RowKit
theorem rank_one {s : List Int} {l m : List Api_TokenD} (hp : m.Perm l) (hs : m.Pairwise fun x y => ltT s y x = false) : m = rank s l :=
  List.Perm.eq_of_pairwise (le := fun x y => ltT s y x = false) (fun a b _ _ h1 h2 => ltT_parts h2 h1) hs (rank_sorted s l) (hp.trans (rank_perm s l).symm)
section
variable {N : Nat} (hN : 9223372036854775808 ≤ N)
include hN
theorem great_all {l : List Api_TokenD} (hi : ∀ x ∈ l, x.ids.length ≤ 17592186043904) (hl : l.length ≤ 140737488351232) : ∃ g, m_ropewalklaw14_great N l = some g ∧ (g = false → l.length ≤ 400 ∧ ∀ x ∈ l, x.ids.length ≤ 400) := by
  unfold m_ropewalklaw14_great
  obtain ⟨o, h1, h2⟩ := iter_inv (f := m_ropewalklaw14_great_L1 N l) (fun q => q.1 ≤ l.length ∧ l.length ≤ q.2 ∧ ∀ x ∈ l.take q.1, x.ids.length ≤ q.2) (fun q => l.length - q.1) (fun o => o ≤ 400 → l.length ≤ 400 ∧ ∀ x ∈ l, x.ids.length ≤ 400) (fun q hq => by
    obtain ⟨i, n⟩ := q
    obtain ⟨q1, q2, q3⟩ := hq
    simp only at q1 q2 q3 ⊢
    unfold m_ropewalklaw14_great_L1
    simp only
    by_cases h : i < l.length
    · rw [if_pos (decide_eq_true h), bindO_pure]
      by_cases h4 : n ≤ 400
      · left
        have hx := List.getElem?_eq_getElem h
        have hxi := hi l[i] (List.getElem_mem h)
        refine ⟨(i + 1, n + l[i].ids.length), by rw [if_pos (decide_eq_true h4), hx, bindO_pure, gd_pos (by omega), gd_pos (by omega)], ⟨by simp only; omega, by simp only; omega, ?_⟩, by simp only; omega⟩
        intro x hx2
        simp only at hx2 ⊢
        rw [List.take_add_one, hx] at hx2
        rcases List.mem_append.1 hx2 with hx2 | hx2
        · exact Nat.le_trans (q3 x hx2) (Nat.le_add_right _ _)
        · simp only [Option.toList_some, List.mem_singleton] at hx2
          subst hx2; exact Nat.le_add_left _ _
      · right
        exact ⟨n, by rw [if_neg (by rw [decide_eq_true_eq]; exact h4)], fun h5 => absurd h5 h4⟩
    · right
      refine ⟨n, by rw [if_neg (by rw [decide_eq_true_eq]; exact h), bindO_pure, if_neg (by simp)], fun h5 => ⟨by omega, fun x hx => ?_⟩⟩
      rw [List.take_of_length_le (by omega)] at q3
      exact Nat.le_trans (q3 x hx) h5) N (0, l.length) ⟨Nat.zero_le _, Nat.le_refl _, by simp⟩ (by simp only; omega)
  rw [h1, bindO_pure]
  exact ⟨_, rfl, fun hg => h2 (by rw [decide_eq_false_iff_not] at hg; omega)⟩
theorem ord_loops {s : List Int} {l : List Api_TokenD} (hs : s.length ≤ 64) (hl : l.length ≤ 40) (ho : ∀ x ∈ l, x.ids.length ≤ 400) : iter (m_ropewalklaw14_AgendaOrder_L1 N l (s.map mkRl)) N 0 = some (.inl ()) := by
  have bet : ∀ x ∈ l, ∀ y ∈ l, m_agenda_Better N ([] : List Api_TypeD) (s.map mkRl) x.rule x.ids y.rule y.ids = some (ltT s x y) := fun x hx y hy =>
    pbetter_is (by omega) (by omega) (Nat.le_trans (ho x hx) (by omega)) (Nat.le_trans (ho y hy) (by omega))
  have w := ltT_swo s
  refine iter_end l.length _ (fun i hi => ?_) (by unfold m_ropewalklaw14_AgendaOrder_L1; rw [if_neg (by simp)]) (by omega)
  unfold m_ropewalklaw14_AgendaOrder_L1
  have hx := List.getElem?_eq_getElem hi
  have mx := List.getElem_mem hi
  generalize l[i] = x at hx mx
  have h2 : iter (m_ropewalklaw14_AgendaOrder_L2 N l i (s.map mkRl)) N 0 = some (.inl ()) := by
    refine iter_end l.length _ (fun k hk => ?_) (by unfold m_ropewalklaw14_AgendaOrder_L2; rw [if_neg (by simp)]) (by omega)
    unfold m_ropewalklaw14_AgendaOrder_L2
    have hy := List.getElem?_eq_getElem hk
    have my := List.getElem_mem hk
    generalize l[k] = y at hy my
    have h3 : iter (m_ropewalklaw14_AgendaOrder_L3 N l (ltT s x y) k (s.map mkRl) i) N 0 = some (.inl ()) := by
      cases hxy : ltT s x y
      · have h0 : m_ropewalklaw14_AgendaOrder_L3 N l false k (s.map mkRl) i 0 = some (.inr (.inl ())) := by
          unfold m_ropewalklaw14_AgendaOrder_L3
          split <;> rw [bindO_pure, if_neg (by simp)]
        obtain ⟨M, rfl⟩ : ∃ M, N = M + 1 := ⟨N - 1, by omega⟩
        exact iter_stop h0
      · refine iter_end l.length _ (fun n hn => ?_) (by unfold m_ropewalklaw14_AgendaOrder_L3; rw [if_neg (by simp), bindO_pure, if_neg (by simp)]) (by omega)
        have hz := List.getElem?_eq_getElem hn
        have mz := List.getElem_mem hn
        generalize l[n] = z at hz mz
        have h7 : m_ropewalklaw14_AgendaOrder_C7 N l k n (s.map mkRl) i = some false := by
          unfold m_ropewalklaw14_AgendaOrder_C7
          rw [hy, bindO_pure, hz, bindO_pure, bet y my z mz, bindO_pure]
          cases hyz : ltT s y z
          · rw [if_neg (by simp)]
          · rw [if_pos rfl, hx, bindO_pure, bindO_pure, bet x mx z mz, bindO_pure, w.trans _ _ _ hxy hyz]; rfl
        unfold m_ropewalklaw14_AgendaOrder_L3
        rw [if_pos (decide_eq_true hn), bindO_pure, if_pos rfl, h7, bindO_pure, if_neg (by simp), gd_pos (by omega)]
    have h5 : ∀ b : Bool, (b = true ↔ x = y) → m_ropewalklaw14_AgendaOrder_C5 N (ltT s x y) (ltT s y x) b = some false := by
      intro b hb
      unfold m_ropewalklaw14_AgendaOrder_C5
      by_cases e : x = y
      · subst e
        rw [w.irrefl, if_neg (by simp), if_neg (by simp), hb.2 rfl]; rfl
      · have hb2 : b = false := by
          cases b
          · rfl
          · exact absurd (hb.1 rfl) e
        subst hb2
        cases hxy : ltT s x y <;> cases hyx : ltT s y x
        · exact absurd (ltT_parts hxy hyx) e
        · simp
        · simp
        · have := w.trans _ _ _ hxy hyx
          rw [w.irrefl] at this; cases this
    rw [if_pos (decide_eq_true hk)]
    unfold m_ropewalklaw14_AgendaOrder_C4
    obtain ⟨b, h6, h7⟩ := sameTok_is (x := x) (y := y) hN (Nat.le_trans (ho x mx) (by omega))
    rw [hx, bindO_pure, hy, bindO_pure, h6, bindO_pure, bindO_pure, bindO_pure, bet x mx y my, bindO_pure, bindO_pure, bindO_pure, bet y my x mx, bindO_pure, h5 b h7, bindO_pure, if_neg (by simp), h3, bindS_inl, gd_pos (by omega)]
  rw [if_pos (decide_eq_true hi), h2, bindS_inl, gd_pos (by omega)]
theorem ord_go {s : List Int} {l R : List Api_TokenD} (hs : s.length ≤ 64) (hl : l.length ≤ 40) (hR : R.length = l.length) (ho : ∀ x ∈ R, TokOk x) (hn : R.Nodup) (hsr : R.Pairwise fun x y => ltT s y x = false) : ∀ (k i : Nat) (e : List (ByteArray × Bool)), R.length - i ≤ k → i ≤ R.length → ∀ fuel, k < fuel →
    ∃ e', iter (m_ropewalklaw14_AgendaOrder_L4 N l (s.map mkRl)) fuel (i, R.take i, s, R.drop i, R.take i, e) = some (.inl (s, [], R, e', R)) := by
  have done : ∀ (e : List (ByteArray × Bool)), m_ropewalklaw14_AgendaOrder_L4 N l (s.map mkRl) (R.length, R, s, [], R, e) = some (.inr (.inl (s, [], R, e, R))) := by
    intro e
    unfold m_ropewalklaw14_AgendaOrder_L4
    simp only
    rw [if_pos (decide_eq_true (by omega)), next_nil, bindO_pure]
    simp only
    rw [if_pos (by simp)]
  intro k
  induction k with
  | zero =>
    intro i e hk hi fuel hf
    obtain ⟨fuel, rfl⟩ : ∃ f, fuel = f + 1 := ⟨fuel - 1, by omega⟩
    have e1 : i = R.length := by omega
    subst e1
    rw [List.take_length, List.drop_length]
    exact ⟨e, iter_stop (done e)⟩
  | succ k ih =>
    intro i e hk hi fuel hf
    obtain ⟨fuel, rfl⟩ : ∃ f, fuel = f + 1 := ⟨fuel - 1, by omega⟩
    by_cases h : i < R.length
    · have hx := List.getElem?_eq_getElem h
      have mx := List.getElem_mem h
      have hd := List.drop_eq_getElem_cons h
      have ht : R.take (i + 1) = R.take i ++ [R[i]] := by rw [List.take_add_one, hx]; rfl
      have hnd : R[i] ∉ R.drop (i + 1) := by
        have h1 := hn
        rw [← List.take_append_drop i R, List.nodup_append] at h1
        have h2 := h1.2.1
        rw [hd, List.nodup_cons] at h2
        exact h2.1
      have hst : ∃ e2, m_ropewalklaw14_AgendaOrder_L4 N l (s.map mkRl) (i, R.take i, s, R.drop i, R.take i, e) = some (.inl (i + 1, R.take (i + 1), s, R.drop (i + 1), R.take (i + 1), e2)) := by
        have hox := ho R[i] mx
        have f1 := fire_is (s := s) (l := R.drop i) (l2 := R.take i) (e := e) (t := R[i]) hN (by rw [List.length_drop]; omega) (by rw [List.length_take]; omega) (fun x hx => ho x (List.mem_of_mem_drop hx)) (fun x hx => ho x (List.mem_of_mem_take hx)) hox
        rw [if_pos (by rw [hd]; exact List.mem_cons_self), ← ht] at f1
        have er : (R.drop i).erase R[i] = R.drop (i + 1) := by rw [hd, List.erase_cons_head]
        have rk : rank s (R.take (i + 1)) = R.take (i + 1) := (rank_one (List.Perm.refl _) (hsr.sublist (List.take_sublist _ _))).symm
        rw [er, rk] at f1
        have f2 := fire_is (s := s) (l := R.drop (i + 1)) (l2 := R.take (i + 1)) (e := mputP ltB (nameF R[i]) true e) (t := R[i]) hN (by rw [List.length_drop]; omega) (by rw [List.length_take]; omega) (fun x hx => ho x (List.mem_of_mem_drop hx)) (fun x hx => ho x (List.mem_of_mem_take hx)) hox
        rw [if_neg hnd] at f2
        refine ⟨mputP ltB (nameF R[i]) true e, ?_⟩
        have hC : m_ropewalklaw14_AgendaOrder_C10 N s (R.drop i) (R.take i) e R[i].rule R[i].ids (R.take i) (s.map mkRl) = some (s, R.drop (i + 1), R.take (i + 1), mputP ltB (nameF R[i]) true e, false) := by
          unfold m_ropewalklaw14_AgendaOrder_C10
          rw [f1, bindO_pure]
          simp only
          rw [if_neg (by simp), f2, bindO_pure]
          simp only
          rw [if_neg (by simp)]
          by_cases h0 : 0 < i
          · have hlen : (R.take i).length = i := by rw [List.length_take]; omega
            have hp : (R.take i)[i - 1]? = some R[i - 1] := by rw [List.getElem?_take_of_lt (by omega), List.getElem?_eq_getElem (by omega)]
            have mp : R[i - 1] ∈ R := List.getElem_mem _
            have hlt : ltT s R[i - 1] R[i] = true := by
              cases hq : ltT s R[i - 1] R[i]
              · have h1 : ltT s R[i] R[i - 1] = false := List.pairwise_iff_getElem.1 hsr (i - 1) i (by omega) h (by omega)
                have h2 := ltT_parts hq h1
                have h3 := (List.getElem_inj hn).1 h2
                omega
              · rfl
            have hb : m_agenda_Better N ([] : List Api_TypeD) (s.map mkRl) R[i - 1].rule R[i - 1].ids R[i].rule R[i].ids = some true := by
              rw [pbetter_is (by omega) (by omega) (Nat.le_trans (ho _ mp).len (by omega)) (Nat.le_trans hox.len (by omega))]
              exact congrArg some hlt
            rw [hlen, if_pos (decide_eq_true h0), gd_pos (by omega), gd_pos (by omega), show (((i : Nat) : Int) - 1).toNat = i - 1 by omega, hp, bindO_pure, hb, bindO_pure]
            rfl
          · rw [if_neg (by rw [decide_eq_true_eq, List.length_take]; omega)]
        unfold m_ropewalklaw14_AgendaOrder_L4
        simp only
        rw [if_pos (decide_eq_true (by omega))]
        have hnx : m_agenda_Agenda_Next N s (R.drop i) (R.take i) e = some (R[i].rule, R[i].ids, true) := by rw [hd]; exact next_cons hox
        rw [hnx, bindO_pure]
        simp only
        rw [if_neg (by simp), hC, bindO_pure]
        simp only
        have hxx : (⟨R[i].rule, R[i].ids⟩ : Api_TokenD) = R[i] := rfl
        rw [if_neg (by simp), gd_pos (by rw [List.length_take]; simp; omega), gd_pos (by omega), hxx, ← ht]
      obtain ⟨e2, hst⟩ := hst
      rw [iter_step hst]
      exact ih (i + 1) e2 (by omega) (by omega) fuel (by omega)
    · have e1 : i = R.length := by omega
      subst e1
      rw [List.take_length, List.drop_length]
      exact ⟨e, iter_stop (done e)⟩
theorem agord_is {s : List Int} {l : List Api_TokenD} (hin : ∀ x ∈ l, ok_Api_TokenD x) (hl : l.length ≤ 140737488351232) : m_ropewalklaw14_AgendaOrder N s l = some true := by
  obtain ⟨g, hg, hgf⟩ := great_all hN (l := l) (fun x hx => (hin x hx).2.1) hl
  unfold m_ropewalklaw14_AgendaOrder
  have hC : ∃ b, m_ropewalklaw14_AgendaOrder_C1 N s l = some b ∧ (b = false → s.length ≤ 64 ∧ l.length ≤ 40 ∧ ∀ x ∈ l, x.ids.length ≤ 400) := by
    unfold m_ropewalklaw14_AgendaOrder_C1
    by_cases h : 64 < s.length
    · exact ⟨true, by rw [if_pos (decide_eq_true h)], by simp⟩
    · rw [if_neg (by rw [decide_eq_true_eq]; exact h), hg, bindO_pure]
      cases g
      · rw [if_neg (by simp)]
        exact ⟨_, rfl, fun h4 => ⟨by omega, by rw [decide_eq_false_iff_not] at h4; omega, (hgf rfl).2⟩⟩
      · exact ⟨true, by rw [if_pos rfl], by simp⟩
  obtain ⟨b, hb, hbf⟩ := hC
  rw [hb, bindO_pure]
  cases b
  · obtain ⟨h64, h40, hids⟩ := hbf rfl
    have hok : ∀ x ∈ l, TokOk x := fun x hx => ⟨(hin x hx).1, (hin x hx).2.2, hids x hx⟩
    have hnew : m_agenda_New N ([] : List Api_TypeD) (s.map mkRl) = some (.inr s) := by
      unfold m_agenda_New
      rw [if_neg (by simp; omega), by_is (by omega) (by omega), bindO_pure]
    rw [if_neg (by simp), of_is (by omega) (by omega), bindO_pure, ord_loops hN h64 h40 hids, bindS_inl, hnew, bindO_pure]
    simp only
    rcases set_is (s := s) (l1 := []) (l2 := []) (e3 := []) hN (by omega : l.length ≤ 400) hok tm_nil with ⟨hT, m', h1, _⟩ | ⟨_, h1⟩
    · have ff : l.filter (fun x => !spentB (fun _ => False) x) = l := List.filter_eq_self.2 fun x _ => by
        cases hq : spentB (fun _ => False) x
        · rfl
        · exact (spentB_iff.1 hq).elim
      have fn : l.filter (spentB fun _ => False) = [] := List.filter_eq_nil_iff.2 fun x _ hq => (spentB_iff.1 hq).elim
      have hr0 : rank s [] = [] := List.eq_nil_of_length_eq_zero (rank_perm s []).length_eq
      rw [ff, fn, hr0] at h1
      have hp := rank_perm s l
      have hnd : (rank s l).Nodup := hp.symm.nodup ((List.pairwise_map.1 hT.2).imp fun h e => h (by rw [e]))
      have hor : ∀ x ∈ rank s l, TokOk x := fun x hx => hok x (hp.mem_iff.1 hx)
      obtain ⟨e', h2⟩ := ord_go (s := s) (l := l) (R := rank s l) hN h64 h40 hp.length_eq hor hnd (rank_sorted s l) (rank s l).length 0 m' (by omega) (by omega) N (by rw [hp.length_eq]; omega)
      rw [List.take_zero, List.drop_zero] at h2
      rw [h1, bindO_pure]
      simp only
      rw [if_neg (by simp), h2, bindS_inl]
      simp only
      rw [if_pos (by simp [hp.length_eq]), fired_is hN (by rw [hp.length_eq]; omega) hor, bindO_pure, (sameToks_is hN (by rw [hp.length_eq]; omega) (fun x hx => Nat.le_trans (hor x hx).len (by omega))).eq_true rfl, bindO_pure]
    · rw [h1, bindO_pure]
      simp only
      rw [if_pos (by simp)]
  · rw [if_pos rfl]
end
theorem agord_arg {p : Prop} (s : List Int) (_ : p) (l : List Api_TokenD) (hl : l.length ≤ 140737488351232 ∧ ∀ x ∈ l, ok_Api_TokenD x) : m_ropewalklaw14_AgendaOrder 9223372036854776808 s l = some true :=
  agord_is (by decide) hl.2 hl.1
end Go.Proofs.YtgangmegcejllaaDoor
