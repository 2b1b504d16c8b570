/- The plain law behind MemoryKeeps. -/
import Derived.Test.YtdnolbmbmncefaaDoorMemP
namespace Go.Proofs.YtdnolbmbmncefaaDoor
open Go Go.RowKit
theorem cvals_is {N : Nat} {l : List V} (h : l.length ≤ 20) : m_ropewalkkit_CopyValues N l = some () := by
  unfold m_ropewalkkit_CopyValues; rw [gd_pos (by simp; omega)]
theorem cfacts_is {N : Nat} {L : List FactD} (hN : 9223372036854775808 ≤ N) (h3 : L.length ≤ 256) (ha : ∀ f ∈ L, f.args.length ≤ 20) : m_ropewalkkit_CopyFacts N L = some L := by
  obtain ⟨o, h4, h5⟩ := iter_inv (f := m_ropewalkkit_CopyFacts_L1 N L) (fun s => s.1 ≤ L.length ∧ s.2 = L.take s.1) (fun s => L.length - s.1) (fun o => o = L) (fun s hs => by
      obtain ⟨i, M⟩ := s
      obtain ⟨hi, hM⟩ := hs
      simp only at hi hM
      subst hM
      unfold m_ropewalkkit_CopyFacts_L1
      by_cases hlt : i < L.length
      · left
        have hx := List.getElem?_eq_getElem hlt
        refine ⟨(i + 1, L.take (i + 1)), ?_, ⟨by simp only; omega, rfl⟩, by simp only; omega⟩
        simp only
        rw [if_pos (by simpa using hlt), hx, bindO_pure]
        unfold m_ropewalkkit_CopyFact
        rw [cvals_is (ha _ (List.getElem_mem hlt)), bindO_pure, bindO_pure, gd_pos (by simp; omega), gd_pos (by omega), List.take_add_one, hx]
        rfl
      · right
        refine ⟨L.take i, by simp only; rw [if_neg (by simpa using hlt)], List.take_of_length_le (by omega)⟩) N (0, []) ⟨by simp, by simp⟩ (by simp only; omega)
  subst h5
  unfold m_ropewalkkit_CopyFacts
  rw [h4]; rfl
theorem uniq_id {L : List FactD} (h : L.Pairwise (fun a b => a.id < b.id)) {i j : Nat} {x y : FactD} (hx : L[i]? = some x) (hy : L[j]? = some y) (e : x.id = y.id) : i = j := by
  obtain ⟨hi, rfl⟩ := List.getElem?_eq_some_iff.1 hx
  obtain ⟨hj, rfl⟩ := List.getElem?_eq_some_iff.1 hy
  rcases Nat.lt_trichotomy i j with h1 | h1 | h1
  · have := List.pairwise_iff_getElem.1 h i j hi hj h1; omega
  · exact h1
  · have := List.pairwise_iff_getElem.1 h j i hj hi h1; omega
theorem uniq_says {L : List FactD} (h : L.Pairwise (fun a b => ¬ (a.ty = b.ty ∧ a.args = b.args))) {i j : Nat} {x y : FactD} (hx : L[i]? = some x) (hy : L[j]? = some y) (e : x.ty = y.ty) (e2 : x.args = y.args) : i = j := by
  obtain ⟨hi, rfl⟩ := List.getElem?_eq_some_iff.1 hx
  obtain ⟨hj, rfl⟩ := List.getElem?_eq_some_iff.1 hy
  rcases Nat.lt_trichotomy i j with h1 | h1 | h1
  · exact absurd ⟨e, e2⟩ (List.pairwise_iff_getElem.1 h i j hi hj h1)
  · exact h1
  · exact absurd ⟨e.symm, e2.symm⟩ (List.pairwise_iff_getElem.1 h j i hj hi h1)
theorem get_is {N : Nat} {L : List FactD} {nx : Int} (hN : 9223372036854775808 ≤ N) (h : MemOk N L nx) {k : Nat} {f : FactD} (hf : L[k]? = some f) : m_memory_Memory_Get N L nx f.id = some (f.id, f.ty, f.args, true) := by
  have h1 := h.pos
  have h3 := h.len
  unfold m_memory_Memory_Get
  rw [mknown_is, bindO_pure, if_neg (by simp; omega)]
  rcases rowat_is (N := N) (nx := nx) (id := f.id) hN (by omega) h.asc with ⟨i, x, h4, h5, h6⟩ | ⟨j, h4, h5⟩
  · have e := uniq_id h.asc h5 hf h6
    subst e
    rw [h5] at hf; cases hf
    rw [h4, bindO_pure]
    simp only
    rw [if_neg (show ¬ ((!true) = true) from fun h => by cases h), gd_pos (by omega), Int.toNat_natCast, h5, bindO_pure, mown_is (h.args _ (List.mem_of_getElem? h5)), bindO_pure]
  · exact absurd rfl (h5 f (List.mem_of_getElem? hf))
theorem mfind_is {N : Nat} {L : List FactD} {nx : Int} (hN : 9223372036854775808 ≤ N) (h : MemOk N L nx) {k : Nat} {f : FactD} (hf : L[k]? = some f) : m_memory_Memory_Find N L nx f.ty f.args = some (f.id, true) := by
  have h1 := h.pos
  have h3 := h.len
  unfold m_memory_Memory_Find
  rw [mknown_is, bindO_pure, if_neg (by simp; omega)]
  obtain ⟨j, h4, h5⟩ := says_is (N := N) (l := L) (nx := nx) (ty := f.ty) (args := f.args) hN (by omega) (fun g hg => by have := h.args g hg; omega)
  rw [h4, bindO_pure]
  rcases h5 with ⟨_, h5⟩ | ⟨i, x, rfl, h5, h6, h7⟩
  · exact absurd ⟨rfl, rfl⟩ (h5 f (List.mem_of_getElem? hf))
  · have e := uniq_says h.dif h5 hf h6 h7
    subst e
    rw [h5] at hf; cases hf
    rw [if_neg (by simp), gd_pos (by omega), Int.toNat_natCast, h5, bindO_pure]
theorem seek_is {N : Nat} {L : List FactD} {kind : Int} {x : Ropewalklaw11_DoD} (hN : 9223372036854775808 ≤ N) (hl : L.length ≤ 256) (ha : ∀ f ∈ L, f.args.length ≤ 20) :
    ∃ k, iter (m_ropewalklaw11_MemoryKeeps_L2 N L kind x) N (0, -1) = some k ∧ SaysAt L kind x.args k := by
  refine iter_inv (fun s => s.1 ≤ L.length ∧ ((s.2 = -1 ∧ ∀ f ∈ L.take s.1, ¬ (f.ty = kind ∧ f.args = x.args)) ∨ ∃ (i : Nat) (y : FactD), s.2 = (i : Int) ∧ L[i]? = some y ∧ y.ty = kind ∧ y.args = x.args)) (fun s => L.length - s.1) _ (fun s hs => ?_) N (0, -1) ⟨by simp, .inl ⟨rfl, by simp⟩⟩ (by simp only; omega)
  obtain ⟨i, k⟩ := s
  obtain ⟨hi, hk⟩ := hs
  simp only at hi hk
  unfold m_ropewalklaw11_MemoryKeeps_L2
  simp only
  by_cases hlt : i < L.length
  · left
    have hx := List.getElem?_eq_getElem hlt
    obtain ⟨b, hb, hb2⟩ : Says (if (L[i].ty == kind) = true then (bindO (m_ropewalkkit_SameValues N L[i].args x.args) fun v => some v) else some false) (L[i].ty = kind ∧ L[i].args = x.args) :=
      Says.and (Says.id (sameValues_is hN (by have := ha _ (List.getElem_mem hlt); omega))) (by simp)
    have hc : m_ropewalklaw11_MemoryKeeps_C7 N L i kind x k = some (if b = true then ((i : Nat) : Int) else k) := by
      unfold m_ropewalklaw11_MemoryKeeps_C7
      rw [hx]
      simp only [bindO_pure]
      rw [hb, bindO_pure]
      cases b <;> rfl
    refine ⟨(i + 1, if b = true then ((i : Nat) : Int) else k), by rw [if_pos (by simpa using hlt), hc, bindO_pure, gd_pos (by omega)], ⟨by simp only; omega, ?_⟩, by simp only; omega⟩
    cases b with
    | true => exact .inr ⟨i, _, rfl, hx, hb2.1 rfl⟩
    | false =>
      rcases hk with ⟨e, hk⟩ | hk
      · refine .inl ⟨by simpa using e, fun f hf => ?_⟩
        simp only at hf
        rw [List.take_add_one, hx] at hf
        rcases List.mem_append.1 hf with hf | hf
        · exact hk f hf
        · simp at hf; subst hf
          intro q; exact absurd (hb2.2 q) (by simp)
      · exact .inr (by simpa using hk)
  · right
    refine ⟨k, by rw [if_neg (by simpa using hlt)], ?_⟩
    rcases hk with ⟨e, hk⟩ | hk
    · exact .inl ⟨e, fun f hf => hk f (by rw [List.take_of_length_le (by omega)]; exact hf)⟩
    · exact .inr hk
theorem there_is {N : Nat} {L : List FactD} {nx last : Int} (hN : 9223372036854775808 ≤ N) (h : MemOk N L nx) :
    iter (m_ropewalklaw11_MemoryKeeps_L3 N L L nx last) N 0 = some (.inl (last, L, L, nx)) := by
  have h3 := h.len
  obtain ⟨o, h4, h5⟩ := iter_inv (f := m_ropewalklaw11_MemoryKeeps_L3 N L L nx last) (fun i => i ≤ L.length) (fun i => L.length - i) (fun o => o = .inl (last, L, L, nx)) (fun i hi => by
    unfold m_ropewalklaw11_MemoryKeeps_L3
    by_cases hlt : i < L.length
    · left
      have hx := List.getElem?_eq_getElem hlt
      refine ⟨i + 1, ?_, by omega, by omega⟩
      rw [if_pos (by simpa using hlt), hx]
      simp only [bindO_pure]
      rw [get_is hN h hx, bindO_pure]
      simp only
      rw [mfind_is hN h hx, bindO_pure]
      simp only
      have hc : m_ropewalklaw11_MemoryKeeps_C14 N true L i L[i].id L[i].ty L[i].args true L[i].id = some false := by
        unfold m_ropewalklaw11_MemoryKeeps_C14
        rw [if_neg (show ¬ ((!true) = true) from fun h => by cases h), hx]
        simp only [bindO_pure]
        rw [(sameFact_is (f := L[i]) (g := L[i]) hN (by have := h.args _ (List.getElem_mem hlt); omega)).eq_true rfl, bindO_pure, if_neg (show ¬ ((!true) = true) from fun h => by cases h), if_neg (show ¬ ((!true) = true) from fun h => by cases h)]
        simp
      rw [hc, bindO_pure, if_neg (show ¬ (false = true) from fun h => by cases h), gd_pos (by omega)]
    · right
      exact ⟨_, by rw [if_neg (by simpa using hlt)], rfl⟩) N 0 (by omega) (by omega)
  rw [h4, h5]
/-- What stands before each step. -/
structure KeepI (N i : Nat) (last : Int) (T L : List FactD) (nx : Int) : Prop where
  ok : MemOk N L nx
  same : T = L
  last : last < nx
  nx : nx ≤ i + 1
  len : L.length ≤ i
theorem keep_step {N i : Nat} {l : List Ropewalklaw11_DoD} {last nx : Int} {T L : List FactD} (hN : 9223372036854775808 ≤ N) (h : KeepI N i last T L nx) (hi : i < 120) (hl : i < l.length) :
    m_ropewalklaw11_MemoryKeeps_C3 N l i T L nx last = some (.inr (.inr (.inr true))) ∨ ∃ last' L' nx', m_ropewalklaw11_MemoryKeeps_C3 N l i T L nx last = some (.inl (last', L', L', nx')) ∧ KeepI N (i + 1) last' L' L' nx' := by
  obtain ⟨hok, rfl, hla, hnx, hlen⟩ := h
  have hy := List.getElem?_eq_getElem hl
  unfold m_ropewalklaw11_MemoryKeeps_C3
  rw [hy, bindO_pure]
  by_cases hb : 20 < l[i].args.length
  · left; rw [if_pos (by simpa using hb)]
  · right
    rw [if_neg (by simpa using hb)]
    obtain ⟨y, hy1, _⟩ := Pick_is (N := N) (x := l[i].op) (n := 3) (by omega)
    rw [hy1, bindO_pure]
    have hcd : (if (y == 2) = true then some (decide (0 < T.length)) else some false) = some (decide (y = 2 ∧ 0 < T.length)) := by
      by_cases c : y = 2
      · rw [if_pos (by simpa using c)]; simp [c]
      · rw [if_neg (by simpa using c)]; simp [c]
    rw [hcd, bindO_pure]
    by_cases hc : y = 2 ∧ 0 < T.length
    · rw [if_pos (by simpa using hc)]
      obtain ⟨k, hk, hk1, hk2, _⟩ := Pick_is (N := N) (x := l[i].id) (n := ((T.length : Nat) : Int)) (by omega)
      have hk3 := hk2 (by omega)
      have hkl : k.toNat < T.length := by omega
      have hx := List.getElem?_eq_getElem hkl
      rw [hk, bindO_pure, gd_pos hk1, hx, bindO_pure]
      rcases Drop_is (id := T[k.toNat].id) hN hok with ⟨j, x, h1, h2, h3⟩ | ⟨h1, _⟩
      · have e := uniq_id hok.asc h1 hx h2
        subst e
        rw [h3, bindO_pure]
        simp only
        refine ⟨last, T.take k.toNat ++ T.drop (k.toNat + 1), nx, ?_, memOk_sub hok drop_sub, rfl, hla, by omega, ?_⟩
        · have e1 : (k + 1).toNat = k.toNat + 1 := by omega
          rw [if_neg (by simp), gd_pos hk1, gd_pos (by omega), cfacts_is hN (by simp; omega) (fun f hf => hok.args f (List.mem_of_mem_take hf)), bindO_pure, gd_pos (by omega), gd_pos (by omega), gd_pos (by omega), e1, gd_pos (by simp; omega)]
        · have := (drop_sub (L := T) (i := k.toNat)).length_le; omega
      · exact absurd rfl (h1 _ (List.getElem_mem hkl))
    · rw [if_neg (by simpa using hc)]
      obtain ⟨kind, hk, _⟩ := Pick_is (N := N) (x := l[i].type) (n := 3) (by omega)
      obtain ⟨at_, ha1, ha2⟩ := seek_is (N := N) (L := T) (kind := kind) (x := l[i]) hN hok.len hok.args
      rw [hk, bindO_pure]
      rcases Add_is (ty := kind) hN hok (show l[i].args.length ≤ 20 by omega) with ⟨h0, h3⟩ | ⟨j, x, h0, h1, h2, h3⟩ | ⟨h0, h3⟩ | ⟨h3, h0, h4⟩
      · rw [h3, bindO_pure]
        simp only
        rw [ha1, bindO_pure]
        have e : at_ = -1 := by
          rcases ha2 with ⟨e, _⟩ | ⟨j, x, _, h1, h2, h4⟩
          · exact e
          · have := hok.may x (List.mem_of_getElem? h1)
            rw [h2, h4, h0] at this; cases this
        subst e
        refine ⟨last, T, nx, ?_, hok, rfl, hla, by omega, by omega⟩
        have hc9 : m_ropewalklaw11_MemoryKeeps_C9 N 2 (-1) 0 last l[i] T kind = some (.inl (last, T)) := by
          unfold m_ropewalklaw11_MemoryKeeps_C9; rfl
        rw [hc9, bindS_inl]
        simp only
        exact there_is hN hok
      · rw [h3, bindO_pure]
        simp only
        rw [ha1, bindO_pure]
        rcases ha2 with ⟨_, q⟩ | ⟨j2, x2, e, g1, g2, g3⟩
        · exact absurd ⟨h1, h2⟩ (q x (List.mem_of_getElem? h0))
        · have e2 := uniq_says hok.dif g1 h0 (by rw [g2, h1]) (by rw [g3, h2])
          subst e2
          subst e
          rw [g1] at h0; cases h0
          refine ⟨last, T, nx, ?_, hok, rfl, hla, by omega, by omega⟩
          have hc9 : m_ropewalklaw11_MemoryKeeps_C9 N 7 ((j2 : Nat) : Int) x.id last l[i] T kind = some (.inl (last, T)) := by
            unfold m_ropewalklaw11_MemoryKeeps_C9
            rw [if_neg (by simp), if_pos (by simp), if_neg (by simp), gd_pos (by omega), Int.toNat_natCast, g1, bindO_pure, bindO_pure, if_neg (by simp)]
          rw [hc9, bindS_inl]
          simp only
          exact there_is hN hok
      · exfalso; omega
      · rw [h3, bindO_pure]
        simp only
        rw [ha1, bindO_pure]
        have e : at_ = -1 := by
          rcases ha2 with ⟨e, _⟩ | ⟨j, x, _, h1, h2, h4⟩
          · exact e
          · exact absurd ⟨h2, h4⟩ (h0 x (List.mem_of_getElem? h1))
        subst e
        refine ⟨nx, T ++ [⟨nx, kind, l[i].args⟩], nx + 1, ?_, h4, rfl, by omega, by omega, by simp; omega⟩
        have hc9 : m_ropewalklaw11_MemoryKeeps_C9 N 0 (-1) nx last l[i] T kind = some (.inl (nx, T ++ [⟨nx, kind, l[i].args⟩])) := by
          unfold m_ropewalklaw11_MemoryKeeps_C9
          rw [if_pos (by simp), if_neg (by simp), bindO_pure, if_neg (by simp; omega), cvals_is (by omega), bindO_pure, gd_pos (by simp; omega)]
        rw [hc9, bindS_inl]
        simp only
        exact there_is hN h4
theorem memkeep_law (l : List Ropewalklaw11_DoD) : m_ropewalklaw11_MemoryKeeps 9223372036854775808 l = some true := by
  have hN : 9223372036854775808 ≤ 9223372036854775808 := Nat.le_refl _
  have aw : m_ropewalklaw11_awake 9223372036854775808 = some true := by kernel_rfl
  obtain ⟨o, h1, h2⟩ := iter_inv (f := m_ropewalklaw11_MemoryKeeps_L1 9223372036854775808 l) (fun s => s.1 ≤ 120 ∧ KeepI 9223372036854775808 s.1 s.2.1 s.2.2.1 s.2.2.2.1 s.2.2.2.2) (fun s => 120 - s.1) (fun o => (∃ L nx, o = .inl (L, nx, L) ∧ MemOk 9223372036854775808 L nx) ∨ o = .inr true) (fun s hs => by
      obtain ⟨i, last, T, L, nx⟩ := s
      obtain ⟨hi, ht⟩ := hs
      simp only at hi ht
      unfold m_ropewalklaw11_MemoryKeeps_L1
      simp only
      by_cases h : i < l.length ∧ i < 120
      · have hm : (if (decide (i < l.length)) = true then some (decide (i < 120)) else some false) = some true := by rw [if_pos (by simpa using h.1)]; simp [h.2]
        rw [hm, bindO_pure, if_pos rfl]
        rcases keep_step hN ht h.2 h.1 with hc | ⟨last', L', nx', hc, hk⟩
        · right; exact ⟨_, by rw [hc]; rfl, .inr rfl⟩
        · left
          exact ⟨(i + 1, last', L', L', nx'), by rw [hc, bindS_inl]; simp only; rw [gd_pos (by omega)], ⟨by simp only; omega, hk⟩, by simp only; omega⟩
      · right
        have hm : (if (decide (i < l.length)) = true then some (decide (i < 120)) else some false) = some false := by
          by_cases h0 : i < l.length
          · rw [if_pos (by simpa using h0)]; simp; omega
          · rw [if_neg (by simpa using h0)]
        have e := ht.same
        subst e
        exact ⟨_, by rw [hm, bindO_pure, if_neg (show ¬ (false = true) from fun h => by cases h)], .inl ⟨T, nx, rfl, ht.ok⟩⟩) 9223372036854775808 (0, 0, [], [], 1) ⟨by simp, memOk_new _, rfl, by simp, by simp, by simp⟩ (by simp only; omega)
  unfold m_ropewalklaw11_MemoryKeeps
  rw [aw, bindO_pure, if_neg (show ¬ ((!true) = true) from fun h => by cases h), show m_memory_New 9223372036854775808 = some () from rfl, bindO_pure, h1]
  rcases h2 with ⟨L, nx, rfl, ht⟩ | rfl
  · simp only [bindS_inl, mAll_is hN ht, bindO_pure, mLen_is ht.pos]
    rw [(sameFacts_is hN (Nat.le_trans ht.len (by decide)) (fun f hf => Nat.le_trans (ht.args f hf) (by decide))).eq_true rfl, bindO_pure, if_pos rfl]
    simp
  · rfl
theorem memkeep_arg (l : List Ropewalklaw11_DoD) (hl : l.length ≤ 140737488351232 ∧ ∀ y ∈ l, ok_Ropewalklaw11_DoD y) : m_ropewalklaw11_MemoryKeeps 9223372036854775808 l = some true :=
  memkeep_law l
end Go.Proofs.YtdnolbmbmncefaaDoor
