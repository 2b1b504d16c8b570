/- The plain law behind MemoryOf. -/
import Derived.Test.YtdnolbmbmncefaaDoorMemP
namespace Go.Proofs.YtdnolbmbmncefaaDoor
open Go Go.RowKit
theorem mdo_is {N : Nat} {L : List FactD} {nx op id ty : Int} {args : List V} (hN : 9223372036854775808 ≤ N) (h : MemOk N L nx) (ha : args.length ≤ 20) :
    ∃ a e L' nx', m_ropewalklaw11_do N L nx op id ty args = some (a, e, L', nx') ∧ MemOk N L' nx' := by
  obtain ⟨y, hy, _⟩ := Pick_is (N := N) (x := op) (n := 3) (by omega)
  unfold m_ropewalklaw11_do
  rw [hy, bindO_pure]
  by_cases c0 : y = 2
  · rw [if_pos (by simpa using c0)]
    rcases Drop_is (id := id) hN h with ⟨i, x, h1, h2, h3⟩ | ⟨_, h3⟩
    · rw [h3]; exact ⟨_, _, _, _, rfl, memOk_sub h drop_sub⟩
    · rw [h3]; exact ⟨_, _, _, _, rfl, h⟩
  · rw [if_neg (by simpa using c0)]
    rcases Add_is (ty := ty) hN h ha with ⟨_, h3⟩ | ⟨i, x, _, _, _, h3⟩ | ⟨_, h3⟩ | ⟨h3, _, h4⟩
    · rw [h3]; exact ⟨_, _, _, _, rfl, h⟩
    · rw [h3]; exact ⟨_, _, _, _, rfl, h⟩
    · rw [h3]; exact ⟨_, _, _, _, rfl, h⟩
    · rw [h3]; exact ⟨_, _, _, _, rfl, h4⟩
theorem mof_is {N : Nat} {L : List FactD} {nx : Int} (hN : 9223372036854775808 ≤ N) (h : MemOk N L nx) : m_memory_Of N nx L = some (.inr L) := by
  have h1 := h.pos
  have h2 := h.top
  have h3 := h.len
  obtain ⟨o, h4, h5⟩ := iter_inv (f := m_memory_Of_L1 N L nx) (fun s => s.1 ≤ L.length ∧ s.2.2 = L.take s.1 ∧ (∀ y ∈ L.drop s.1, s.2.1 < y.id)) (fun s => L.length - s.1) (fun o => o = .inl L) (fun s hs => by
      obtain ⟨i, last, M⟩ := s
      obtain ⟨hi, hM, hb⟩ := hs
      simp only at hi hM hb
      subst hM
      unfold m_memory_Of_L1
      by_cases hlt : i < L.length
      · left
        have hy := List.getElem?_eq_getElem hlt
        have hd : L.drop i = L[i] :: L.drop (i + 1) := List.drop_eq_getElem_cons hlt
        have hm := List.getElem_mem hlt
        have q1 : last < L[i].id := hb _ (by rw [hd]; exact List.mem_cons_self)
        have q2 := h.low _ hm
        obtain ⟨k, hk, hk2⟩ := says_is (N := N) (l := L.take i) (nx := nx) (ty := L[i].ty) (args := L[i].args) hN (by simp; omega) (fun f hf => by have := h.args f (List.mem_of_mem_take hf); omega)
        have hk3 : k = -1 := by
          rcases hk2 with ⟨e, _⟩ | ⟨j, x, e, hx, e1, e2⟩
          · exact e
          · have hj : j < i := by have := (List.getElem?_eq_some_iff.1 hx).1; simp at this; omega
            rw [List.getElem?_take_of_lt hj] at hx
            obtain ⟨hj2, rfl⟩ := List.getElem?_eq_some_iff.1 hx
            exact absurd ⟨e1, e2⟩ (List.pairwise_iff_getElem.1 h.dif j i hj2 hlt hj)
        subst hk3
        refine ⟨(i + 1, L[i].id, L.take (i + 1)), ?_, ⟨by simp only; omega, rfl, fun y hy => ?_⟩, by simp only; omega⟩
        · simp only [hy, bindO_pure]
          rw [if_pos (by simpa using hlt)]
          have hc : m_memory_Of_C3 N L[i] last nx (L.take i) = some false := by
            unfold m_memory_Of_C3
            rw [if_neg (by simp; omega), if_neg (by simp; omega), h.may _ hm, bindO_pure, if_neg (show ¬ ((!true) = true) from fun h => by cases h), hk, bindO_pure]
            rfl
          rw [hc, bindO_pure, if_neg (show ¬ (false = true) from fun h => by cases h), mown_is (h.args _ hm), bindO_pure, gd_pos (by simp; omega), gd_pos (by omega), List.take_add_one, hy]
          rfl
        · have hp : (L.drop i).Pairwise (fun a b => a.id < b.id) := h.asc.sublist (List.drop_sublist _ _)
          rw [hd] at hp
          exact (List.pairwise_cons.1 hp).1 y hy
      · right
        exact ⟨.inl (L.take i), by simp only; rw [if_neg (by simpa using hlt)], by rw [List.take_of_length_le (by omega)]⟩) N (0, 0, []) ⟨by simp, by simp, fun y hy => by simp at hy; exact (h.low y hy).1⟩ (by simp only; omega)
  subst h5
  unfold m_memory_Of
  rw [if_neg (by simp; omega), if_neg (by simp; omega), bindO_pure, if_neg (by simp; omega), h4]
  rfl
theorem memof_law (l m : List Ropewalklaw11_DoD) : m_ropewalklaw11_MemoryOf 9223372036854775808 l m = some true := by
  have hN : 9223372036854775808 ≤ 9223372036854775808 := Nat.le_refl _
  have aw : m_ropewalklaw11_awake 9223372036854775808 = some true := by kernel_rfl
  have more : ∀ (k : List Ropewalklaw11_DoD) (i : Nat), (i < k.length ∧ i < 120) → (if (decide (i < k.length)) = true then some (decide (i < 120)) else some false) = some true := fun k i h => by
    rw [if_pos (by simpa using h.1)]; simp [h.2]
  have nomore : ∀ (k : List Ropewalklaw11_DoD) (i : Nat), ¬ (i < k.length ∧ i < 120) → (if (decide (i < k.length)) = true then some (decide (i < 120)) else some false) = some false := fun k i h => by
    by_cases h0 : i < k.length
    · rw [if_pos (by simpa using h0)]; simp; omega
    · rw [if_neg (by simpa using h0)]
  obtain ⟨o, h1, h2⟩ := iter_inv (f := m_ropewalklaw11_MemoryOf_L1 9223372036854775808 l) (fun s => s.1 ≤ 120 ∧ MemOk 9223372036854775808 s.2.1 s.2.2) (fun s => 120 - s.1) (fun o => (∃ L nx, o = .inl (L, nx) ∧ MemOk 9223372036854775808 L nx) ∨ o = .inr true) (fun s hs => by
      obtain ⟨i, L, nx⟩ := s
      obtain ⟨hi, ht⟩ := hs
      simp only at hi ht
      unfold m_ropewalklaw11_MemoryOf_L1
      by_cases h : i < l.length ∧ i < 120
      · have hy := List.getElem?_eq_getElem h.1
        by_cases hb : 20 < l[i].args.length
        · right; exact ⟨_, by simp only [more l i h, bindO_pure, if_true, hy]; rw [if_pos (by simpa using hb)], .inr rfl⟩
        · left
          obtain ⟨a, e, L', nx', hd, ht'⟩ := mdo_is (N := 9223372036854775808) (op := l[i].op) (id := l[i].id) (ty := l[i].type) hN ht (show l[i].args.length ≤ 20 by omega)
          exact ⟨(i + 1, L', nx'), by simp only [more l i h, bindO_pure, if_true, hy]; rw [if_neg (by simpa using hb), hd, bindO_pure]; simp only; rw [gd_pos (by omega)], ⟨by simp only; omega, ht'⟩, by simp only; omega⟩
      · right
        exact ⟨_, by simp only [nomore l i h, bindO_pure, Bool.false_eq_true, if_false], .inl ⟨L, nx, rfl, ht⟩⟩) 9223372036854775808 (0, [], 1) ⟨by simp, memOk_new _⟩ (by simp only; omega)
  unfold m_ropewalklaw11_MemoryOf
  rw [aw, bindO_pure, if_neg (show ¬ ((!true) = true) from fun h => by cases h), show m_memory_New 9223372036854775808 = some () from rfl, bindO_pure, h1]
  rcases h2 with ⟨L, nx, rfl, ht⟩ | rfl
  · simp only [bindS_inl, mNext_is ht.pos, bindO_pure, mAll_is hN ht, mof_is hN ht]
    rw [if_neg (by simp)]
    obtain ⟨o, h3, h4⟩ := iter_inv (f := m_ropewalklaw11_MemoryOf_L3 9223372036854775808 m) (fun s => s.1 ≤ 120 ∧ MemOk 9223372036854775808 s.2.1 s.2.2.1 ∧ s.2.2.2.1 = s.2.1 ∧ s.2.2.2.2 = s.2.2.1) (fun s => 120 - s.1)
      (fun o => (∃ L nx, o = .inl (L, nx, L, nx) ∧ MemOk 9223372036854775808 L nx) ∨ o = .inr true) (fun s hs => by
        obtain ⟨i, L, nx, L2, nx2⟩ := s
        obtain ⟨hi, ht, e1, e2⟩ := hs
        simp only at hi ht e1 e2
        subst e1; subst e2
        unfold m_ropewalklaw11_MemoryOf_L3
        by_cases h : i < m.length ∧ i < 120
        · have hy := List.getElem?_eq_getElem h.1
          by_cases hb : 20 < m[i].args.length
          · right; exact ⟨_, by simp only [more m i h, bindO_pure, if_true, hy]; rw [if_pos (by simpa using hb)], .inr rfl⟩
          · left
            obtain ⟨a, e, L', nx', hd, ht'⟩ := mdo_is (N := 9223372036854775808) (op := m[i].op) (id := m[i].id) (ty := m[i].type) hN ht (show m[i].args.length ≤ 20 by omega)
            refine ⟨(i + 1, L', nx', L', nx'), ?_, ⟨by simp only; omega, ht', rfl, rfl⟩, by simp only; omega⟩
            simp only [more m i h, bindO_pure, if_true, hy]
            rw [if_neg (by simpa using hb)]
            simp only [hd, bindO_pure, bne_self_eq_false, Bool.false_eq_true, if_false]
            rw [gd_pos (by omega)]
        · right
          exact ⟨_, by simp only [nomore m i h, bindO_pure, Bool.false_eq_true, if_false], .inl ⟨_, _, rfl, ht⟩⟩) 9223372036854775808 (0, L, nx, L, nx) ⟨by simp, ht, rfl, rfl⟩ (by simp only; omega)
    rw [h3]
    rcases h4 with ⟨L, nx, rfl, ht⟩ | rfl
    · simp only [bindS_inl, mNext_is ht.pos, bindO_pure, mAll_is hN ht]
      rw [if_pos (by simp), (sameFacts_is hN (Nat.le_trans ht.len (by decide)) (fun f hf => Nat.le_trans (ht.args f hf) (by decide))).eq_true rfl]; rfl
    · rfl
  · rfl
theorem memof_arg (l : List Ropewalklaw11_DoD) (hl : l.length ≤ 140737488351232 ∧ ∀ y ∈ l, ok_Ropewalklaw11_DoD y) (m : List Ropewalklaw11_DoD) (hm : m.length ≤ 140737488351232 ∧ ∀ y ∈ m, ok_Ropewalklaw11_DoD y) : m_ropewalklaw11_MemoryOf 9223372036854775808 l m = some true :=
  memof_law l m
end Go.Proofs.YtdnolbmbmncefaaDoor
