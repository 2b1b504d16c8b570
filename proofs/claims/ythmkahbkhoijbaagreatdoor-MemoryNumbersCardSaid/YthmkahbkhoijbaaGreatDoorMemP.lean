import Derived.Test.YthmkahbkhoijbaaGreatDoorKitP
namespace Go.Proofs.YthmkahbkhoijbaaGreatDoor
open Go Go.RowKit
theorem mknown_is (N : Nat) (l : List FactD) (a : Int) : m_memory_Memory_known N l a = some () := rfl
theorem first_byte {s : ByteArray} (h : s ≠ ⟨#[]⟩) : ∃ b, s[0]? = some b := by
  have h1 : 0 < s.size := by
    rcases Nat.eq_zero_or_pos s.size with h0 | h0
    · exact absurd (ByteArray.ext (Array.eq_empty_of_size_eq_zero h0)) h
    · exact h0
  exact ⟨s[0], by simp [h1]⟩
theorem named_tot (N : Nat) (s : ByteArray) : ∃ b, m_value_named N s = some b := by
  have h : ∃ b, m_value_named_C1 N s = some b := by
    unfold m_value_named_C1
    by_cases h0 : s = ⟨#[]⟩
    · subst h0; exact ⟨false, by rw [if_neg (by simp)]⟩
    · obtain ⟨b, hb⟩ := first_byte h0
      rw [hb]
      simp only [bindO_pure]
      split
      · split
        · rename_i hs
          split
          · rw [gd_pos (by have := of_decide_eq_true hs; omega)]; exact ⟨_, rfl⟩
          · exact ⟨_, rfl⟩
        · exact ⟨_, rfl⟩
      · exact ⟨_, rfl⟩
  obtain ⟨b, hb⟩ := h
  exact ⟨b, by unfold m_value_named; rw [hb]; rfl⟩
theorem right_tot (N : Nat) (a n : Int) (s : ByteArray) : ∃ b, m_value_Right N a n s = some b := by
  obtain ⟨b, hb⟩ := named_tot N s
  unfold m_value_Right
  rw [hb]
  simp only [bindO_pure]
  split
  · exact ⟨_, rfl⟩
  · split
    · split
      · exact ⟨_, rfl⟩
      · exact ⟨_, rfl⟩
    · exact ⟨_, rfl⟩
theorem idxV_tot {N : Nat} {l : List V} (hN : 9223372036854775808 ≤ N) (hl : l.length ≤ 9223372036854775807) : ∃ b, m_slices_IndexFunc_Value N l = some b := by
  obtain ⟨o, h1, _⟩ := iter_inv (f := m_slices_IndexFunc_Value_L1 N l) (fun i => i ≤ l.length) (fun i => l.length - i) (fun _ => True) (fun i hi => by
    unfold m_slices_IndexFunc_Value_L1
    by_cases hlt : i < l.length
    · have hx := List.getElem?_eq_getElem hlt
      obtain ⟨b, hb⟩ := right_tot N l[i].k l[i].n l[i].s
      rw [if_pos (by simpa using hlt), hx]
      simp only [bindO_pure, m_memory_may_1, hb]
      cases b
      · right; exact ⟨_, by rw [if_pos (by rfl)], trivial⟩
      · left; exact ⟨i + 1, by rw [if_neg (by simp), gd_pos (by omega)], by omega, by omega⟩
    · right; exact ⟨_, by rw [if_neg (by simpa using hlt)], trivial⟩) N 0 (by omega) (by omega)
  unfold m_slices_IndexFunc_Value
  rw [h1]
  rcases o with _ | k
  · exact ⟨_, rfl⟩
  · exact ⟨k, rfl⟩
theorem may_tot {N : Nat} {k : Int} {l : List V} (hN : 9223372036854775808 ≤ N) (hl : l.length ≤ 9223372036854775807) : ∃ b, m_memory_may N k l = some b := by
  obtain ⟨c, hc⟩ := idxV_tot hN hl
  unfold m_memory_may m_memory_may_C1 m_slices_ContainsFunc_Value
  rw [hc]
  simp only [bindO_pure]
  split
  · split
    · split
      · exact ⟨_, rfl⟩
      · exact ⟨_, rfl⟩
    · exact ⟨_, rfl⟩
  · exact ⟨_, rfl⟩
theorem msame_is {N : Nat} {l m : List V} (hN : 9223372036854775808 ≤ N) (hl : l.length ≤ 9223372036854775807) : Says (m_memory_same N l m) (l = m) := by
  unfold m_memory_same
  refine Says.same hN hl (fun hlm i x y hi hx hy => ⟨decide (x = y), by simp, ?_⟩) (fun i hi => ?_)
  · unfold m_memory_same_L1
    rw [if_pos (by simpa using hi), hx, bindO_pure, hy, bindO_pure]
    by_cases h : x = y
    · rw [if_neg (by simp [h]), gd_pos (by omega), if_pos (by simp [h])]
    · rw [if_pos (by simp [h]), if_neg (by simp [h])]
  · unfold m_memory_same_L1
    rw [if_neg (by simp; omega)]
theorem says1_is {N : Nat} {f : FactD} {ty : Int} {args : List V} (hN : 9223372036854775808 ≤ N) (hl : f.args.length ≤ 9223372036854775807) : Says (m_memory_row_says_1 N f.id f.ty f.args ty args) (f.ty = ty ∧ f.args = args) := by
  unfold m_memory_row_says_1
  exact Says.and (Says.id (msame_is hN hl)) (by simp)
def SaysAt (l : List FactD) (ty : Int) (args : List V) (k : Int) : Prop :=
  (k = -1 ∧ ∀ f ∈ l, ¬ (f.ty = ty ∧ f.args = args)) ∨ ∃ (i : Nat) (x : FactD), k = (i : Int) ∧ l[i]? = some x ∧ x.ty = ty ∧ x.args = args
theorem says_is {N : Nat} {l : List FactD} {nx ty : Int} {args : List V} (hN : 9223372036854775808 ≤ N) (hl : l.length ≤ 9223372036854775807) (ha : ∀ f ∈ l, f.args.length ≤ 9223372036854775807) :
    ∃ k, m_memory_row_says N l nx ty args = some k ∧ SaysAt l ty args k := by
  obtain ⟨o, h1, h2⟩ := iter_inv (f := m_slices_IndexFunc_Fact_L1 N l ty args) (fun i => i ≤ l.length ∧ ∀ y ∈ l.take i, ¬ (y.ty = ty ∧ y.args = args)) (fun i => l.length - i)
    (fun o => (∃ k, o = .inr k ∧ SaysAt l ty args k) ∨ (o = .inl () ∧ ∀ f ∈ l, ¬ (f.ty = ty ∧ f.args = args))) (fun i hi => by
      unfold m_slices_IndexFunc_Fact_L1
      by_cases hlt : i < l.length
      · have hx := List.getElem?_eq_getElem hlt
        obtain ⟨b, hb, hb2⟩ := says1_is (N := N) (f := l[i]) (ty := ty) (args := args) hN (ha _ (List.getElem_mem hlt))
        rw [if_pos (by simpa using hlt), hx]
        simp only [bindO_pure, hb]
        cases b with
        | true =>
          have := hb2.1 rfl
          right
          exact ⟨_, by rw [if_pos rfl], .inl ⟨_, rfl, .inr ⟨i, _, rfl, hx, this⟩⟩⟩
        | false =>
          left
          refine ⟨i + 1, by rw [if_neg (by simp), gd_pos (by omega)], ⟨by omega, fun y hy => ?_⟩, by omega⟩
          rw [List.take_add_one, hx] at hy
          rcases List.mem_append.1 hy with hy | hy
          · exact hi.2 y hy
          · simp at hy; subst hy
            intro e; exact absurd (hb2.2 e) (by simp)
      · right
        refine ⟨_, by rw [if_neg (by simpa using hlt)], .inr ⟨rfl, fun f hf => hi.2 f ?_⟩⟩
        rw [List.take_of_length_le (by omega)]; exact hf) N 0 ⟨by omega, by simp⟩ (by omega)
  unfold m_memory_row_says m_slices_IndexFunc_Fact
  rw [h1]
  rcases h2 with ⟨k, rfl, h⟩ | ⟨rfl, h⟩
  · exact ⟨k, rfl, h⟩
  · exact ⟨-1, rfl, .inl ⟨rfl, h⟩⟩
theorem mid_is {a b : Int} (h0 : 0 ≤ a + b) (h1 : a + b ≤ 9223372036854775807) : IntKind.wrap .i64 (Int.fdiv (IntKind.wrap .u64 (a + b)) (2 ^ (1))) = (a + b) / 2 := by
  rw [IntWalk.u64_in _ ⟨h0, by omega⟩]
  have e : Int.fdiv (a + b) (2 ^ 1) = (a + b) / 2 := by
    rw [show (2 : Int) ^ 1 = 2 from rfl, Int.fdiv_eq_ediv_of_nonneg _ (by omega)]
  rw [e, IntWalk.i64_in _ (by omega)]
theorem rowat1_is {N : Nat} {f : FactD} {id : Int} : m_memory_row_at_1 N f.id f.ty f.args id = some (if f.id < id then -1 else if f.id > id then 1 else 0) := by
  unfold m_memory_row_at_1 m_cmp_Compare_int m_cmp_isNaN_int
  simp only [bindO_pure, bne_self_eq_false, Bool.false_eq_true, if_false, decide_eq_true_eq]
  split
  · rfl
  · split <;> rfl
theorem rowat_is {N : Nat} {l : List FactD} {nx id : Int} (hN : 9223372036854775808 ≤ N) (hl : l.length ≤ 1000000) (hs : l.Pairwise (fun a b => a.id < b.id)) :
    (∃ (i : Nat) (x : FactD), m_memory_row_at N l nx id = some ((i : Int), true) ∧ l[i]? = some x ∧ x.id = id) ∨ (∃ k, m_memory_row_at N l nx id = some (k, false) ∧ ∀ f ∈ l, f.id ≠ id) := by
  have asc : ∀ (i j : Nat) (x y : FactD), i < j → l[i]? = some x → l[j]? = some y → x.id < y.id := fun i j x y hij hx hy => by
    obtain ⟨hi, rfl⟩ := List.getElem?_eq_some_iff.1 hx
    obtain ⟨hj, rfl⟩ := List.getElem?_eq_some_iff.1 hy
    exact List.pairwise_iff_getElem.1 hs i j hi hj hij
  obtain ⟨o, h1, h2⟩ := iter_inv (f := m_slices_BinarySearchFunc_int_L1 N l id) (fun s => 0 ≤ s.2 ∧ s.2 ≤ s.1 ∧ s.1 ≤ l.length ∧ (∀ (i : Nat) x, (i : Int) < s.2 → l[i]? = some x → x.id < id) ∧ (∀ (i : Nat) x, s.1 ≤ (i : Int) → l[i]? = some x → id ≤ x.id)) (fun s => (s.1 - s.2).toNat)
    (fun o => 0 ≤ o ∧ o ≤ l.length ∧ (∀ (i : Nat) x, (i : Int) < o → l[i]? = some x → x.id < id) ∧ (∀ (i : Nat) x, o ≤ (i : Int) → l[i]? = some x → id ≤ x.id)) (fun s hs => by
      obtain ⟨hi, lo⟩ := s
      obtain ⟨q1, q2, q3, q4, q5⟩ := hs
      simp only at q1 q2 q3 q4 q5
      unfold m_slices_BinarySearchFunc_int_L1
      simp only
      by_cases hlt : lo < hi
      · have hm := mid_is (a := lo) (b := hi) (by omega) (by omega)
        rw [if_pos (by simpa using hlt), gd_pos (by omega), hm, gd_pos (by omega)]
        have hk : ((lo + hi) / 2).toNat < l.length := by omega
        have hx := List.getElem?_eq_getElem hk
        rw [hx, bindO_pure, rowat1_is, bindO_pure]
        by_cases hc : l[((lo + hi) / 2).toNat].id < id
        · left
          rw [if_pos hc]
          refine ⟨(hi, (lo + hi) / 2 + 1), by rw [if_pos (by simp), gd_pos (by omega)], ⟨by simp only; omega, by simp only; omega, q3, fun i x hi' hx' => ?_, q5⟩, by simp only; omega⟩
          simp only at hi'
          rcases Int.lt_or_le (i : Int) ((lo + hi) / 2) with h | h
          · exact Int.lt_trans (asc i _ x _ (by omega) hx' hx) hc
          · have : i = ((lo + hi) / 2).toNat := by omega
            subst this
            rw [hx] at hx'; cases hx'; exact hc
        · left
          rw [if_neg hc]
          refine ⟨((lo + hi) / 2, lo), ?_, ⟨q1, by simp only; omega, by simp only; omega, q4, fun i x hi' hx' => ?_⟩, by simp only; omega⟩
          · split <;> rfl
          · simp only at hi'
            rcases Int.lt_or_le ((lo + hi) / 2) (i : Int) with h | h
            · have := asc _ i _ x (by omega) hx hx'; omega
            · have : i = ((lo + hi) / 2).toNat := by omega
              subst this
              rw [hx] at hx'; cases hx'; omega
      · right
        have : lo = hi := by omega
        subst this
        exact ⟨lo, by rw [if_neg (by simp)], q1, q3, q4, q5⟩) N (((l.length : Nat) : Int), 0) ⟨by simp, by simp, by simp, fun i x hi => by simp only at hi; omega, fun i x hi hx => by
        have := (List.getElem?_eq_some_iff.1 hx).1; simp only at hi; omega⟩ (by simp only; omega)
  obtain ⟨p1, p2, p3, p4⟩ := h2
  unfold m_memory_row_at m_slices_BinarySearchFunc_int
  rw [h1, bindO_pure]
  by_cases hlt : o < (l.length : Int)
  · have hk : o.toNat < l.length := by omega
    have hx := List.getElem?_eq_getElem hk
    rw [if_pos (by simpa using hlt), gd_pos p1, hx, bindO_pure, rowat1_is, bindO_pure, bindO_pure]
    have h3 := p4 o.toNat _ (by omega) hx
    by_cases he : l[o.toNat].id = id
    · left
      refine ⟨o.toNat, _, ?_, hx, he⟩
      rw [if_neg (by omega), if_neg (by omega)]
      have : ((o.toNat : Nat) : Int) = o := by omega
      rw [this]; rfl
    · right
      refine ⟨o, ?_, fun f hf e => ?_⟩
      · rw [if_neg (by omega), if_pos (by omega)]; rfl
      · obtain ⟨j, hj⟩ := List.getElem?_of_mem hf
        rcases Nat.lt_trichotomy j o.toNat with h | h | h
        · have := p3 j f (by omega) hj; omega
        · subst h; rw [hx] at hj; cases hj; exact he e
        · have := asc _ j _ f h hx hj; omega
  · right
    rw [if_neg (by simpa using hlt), bindO_pure]
    refine ⟨o, rfl, fun f hf e => ?_⟩
    obtain ⟨j, hj⟩ := List.getElem?_of_mem hf
    have hj2 := (List.getElem?_eq_some_iff.1 hj).1
    have := p3 j f (by omega) hj; omega
structure MemOk (N : Nat) (L : List FactD) (nx : Int) : Prop where
  pos : 0 < nx
  top : nx ≤ 1099511627777
  len : L.length ≤ 256
  low : ∀ f ∈ L, 0 < f.id ∧ f.id < nx
  asc : L.Pairwise (fun a b => a.id < b.id)
  may : ∀ f ∈ L, m_memory_may N f.ty f.args = some true
  args : ∀ f ∈ L, f.args.length ≤ 20
  dif : L.Pairwise (fun a b => ¬ (a.ty = b.ty ∧ a.args = b.args))
theorem memOk_new (N : Nat) : MemOk N [] 1 := ⟨by simp, by simp, by simp, by simp, by simp, by simp, by simp, by simp⟩
theorem memOk_sub {N : Nat} {L M : List FactD} {nx : Int} (h : MemOk N L nx) (hs : M.Sublist L) : MemOk N M nx :=
  ⟨h.pos, h.top, Nat.le_trans hs.length_le h.len, fun s hm => h.low s (hs.subset hm), h.asc.sublist hs, fun s hm => h.may s (hs.subset hm), fun s hm => h.args s (hs.subset hm), h.dif.sublist hs⟩
theorem memOk_add {N : Nat} {L : List FactD} {nx ty : Int} {args : List V} (h : MemOk N L nx) (hm : m_memory_may N ty args = some true) (hd : ∀ f ∈ L, ¬ (f.ty = ty ∧ f.args = args)) (hl : L.length < 256) (hx : nx ≤ 1099511627776) (ha : args.length ≤ 20) : MemOk N (L ++ [⟨nx, ty, args⟩]) (nx + 1) := by
  obtain ⟨h1, h2, h3, h4, h5, h6, h7, h8⟩ := h
  refine ⟨by omega, by omega, by simp; omega, fun f hf => ?_, ?_, fun f hf => ?_, fun f hf => ?_, ?_⟩
  · rcases List.mem_append.1 hf with hf | hf
    · have := h4 f hf; omega
    · simp at hf; subst hf; simp only; omega
  · refine List.pairwise_append.2 ⟨h5, by simp, fun a ha b hb => ?_⟩
    simp at hb; subst hb; exact (h4 a ha).2
  · rcases List.mem_append.1 hf with hf | hf
    · exact h6 f hf
    · simp at hf; subst hf; exact hm
  · rcases List.mem_append.1 hf with hf | hf
    · exact h7 f hf
    · simp at hf; subst hf; exact ha
  · refine List.pairwise_append.2 ⟨h8, by simp, fun a ha b hb => ?_⟩
    simp at hb; subst hb; exact hd a ha
theorem mown_is {N : Nat} {a b : Int} {l : List V} (h : l.length ≤ 20) : m_memory_own N a b l = some () := by
  unfold m_memory_own; rw [gd_pos (by omega)]
theorem Add_is {N : Nat} {L : List FactD} {nx ty : Int} {args : List V} (hN : 9223372036854775808 ≤ N) (h : MemOk N L nx) (ha : args.length ≤ 20) :
    (m_memory_may N ty args = some false ∧ m_memory_Memory_Add N L nx ty args = some (0, 2, L, nx)) ∨
    (∃ (i : Nat) (x : FactD), L[i]? = some x ∧ x.ty = ty ∧ x.args = args ∧ m_memory_Memory_Add N L nx ty args = some (x.id, 7, L, nx)) ∨
    ((256 ≤ L.length ∨ nx > 1099511627776) ∧ m_memory_Memory_Add N L nx ty args = some (0, 5, L, nx)) ∨
    (m_memory_Memory_Add N L nx ty args = some (nx, 0, L ++ [⟨nx, ty, args⟩], nx + 1) ∧ (∀ f ∈ L, ¬ (f.ty = ty ∧ f.args = args)) ∧ MemOk N (L ++ [⟨nx, ty, args⟩]) (nx + 1)) := by
  have h1 := h.pos
  have h2 := h.top
  have h3 := h.len
  obtain ⟨b, hb⟩ := may_tot (N := N) (k := ty) (l := args) hN (by omega)
  obtain ⟨k, hk, hk2⟩ := says_is (N := N) (l := L) (nx := nx) (ty := ty) (args := args) hN (by omega) (fun f hf => by have := h.args f hf; omega)
  unfold m_memory_Memory_Add
  rw [mknown_is, bindO_pure, if_neg (by simp; omega), hb]
  simp only [bindO_pure]
  cases b with
  | false => left; exact ⟨rfl, by rw [if_pos (show (!false) = true from rfl)]⟩
  | true =>
    right
    rw [if_neg (by simp), hk]
    simp only [bindO_pure]
    rcases hk2 with ⟨rfl, hd⟩ | ⟨i, x, rfl, hx, h4, h5⟩
    · right
      rw [if_neg (by simp)]
      by_cases hf : 256 ≤ L.length
      · left; exact ⟨.inl hf, by rw [if_pos (by simpa using hf), bindO_pure, if_pos rfl]⟩
      · rw [if_neg (by simpa using hf), bindO_pure]
        by_cases hx : nx > 1099511627776
        · left; exact ⟨.inr hx, by rw [if_pos (by simpa using hx)]⟩
        · right
          refine ⟨?_, hd, memOk_add h hb hd (by omega) (by omega) ha⟩
          rw [if_neg (by simpa using hx), mown_is ha, bindO_pure, gd_pos (by simp; omega), gd_pos (by omega), gd_pos (by omega)]
          simp
    · left
      refine ⟨i, x, hx, h4, h5, ?_⟩
      rw [if_pos (by simp), gd_pos (by omega), show ((i : Int).toNat) = i from rfl, hx]; rfl
theorem Drop_is {N : Nat} {L : List FactD} {nx id : Int} (hN : 9223372036854775808 ≤ N) (h : MemOk N L nx) :
    (∃ (i : Nat) (x : FactD), L[i]? = some x ∧ x.id = id ∧ m_memory_Memory_Drop N L nx id = some (0, L.take i ++ L.drop (i + 1))) ∨ ((∀ f ∈ L, f.id ≠ id) ∧ m_memory_Memory_Drop N L nx id = some (6, L)) := by
  have h1 := h.pos
  have h3 := h.len
  unfold m_memory_Memory_Drop
  rw [mknown_is, bindO_pure, if_neg (by simp; omega)]
  rcases rowat_is (N := N) (nx := nx) (id := id) hN (by omega) h.asc with ⟨i, x, h4, h5, h6⟩ | ⟨k, h4, h5⟩
  · left
    refine ⟨i, x, h5, h6, ?_⟩
    have hi := (List.getElem?_eq_some_iff.1 h5).1
    rw [h4, bindO_pure]
    simp only
    rw [if_neg (show ¬ ((!true) = true) from fun h => by cases h), gd_pos (by omega), gd_pos (by omega), gd_pos (by rw [Int.toNat_natCast]; exact hi), Int.toNat_natCast]
  · right
    refine ⟨h5, ?_⟩
    rw [h4, bindO_pure]
    simp only
    rw [if_pos (show (!false) = true from rfl)]
theorem drop_sub {α : Type} {L : List α} {i : Nat} : (L.take i ++ L.drop (i + 1)).Sublist L := by
  have q : (L.take i ++ L.drop (i + 1)).Sublist (L.take i ++ L.drop i) := List.Sublist.append (List.Sublist.refl _) (List.drop_sublist_drop_left _ (by omega))
  rwa [List.take_append_drop] at q
theorem mAll_is {N : Nat} {L : List FactD} {nx : Int} (hN : 9223372036854775808 ≤ N) (h : MemOk N L nx) : m_memory_Memory_All N L nx = some L := by
  have h1 := h.pos
  have h3 := h.len
  obtain ⟨o, h4, h5⟩ := iter_inv (f := m_memory_row_all_L1 N L) (fun s => s.1 ≤ L.length ∧ s.2 = L.take s.1) (fun s => L.length - s.1) (fun o => o = L) (fun s hs => by
      obtain ⟨i, M⟩ := s
      obtain ⟨hi, hM⟩ := hs
      simp only at hi hM
      subst hM
      unfold m_memory_row_all_L1
      by_cases hlt : i < L.length
      · left
        have hx := List.getElem?_eq_getElem hlt
        refine ⟨(i + 1, L.take (i + 1)), ?_, ⟨by simp only; omega, rfl⟩, by simp only; omega⟩
        simp only
        rw [if_pos (by simpa using hlt), hx, bindO_pure, mown_is (h.args _ (List.getElem_mem hlt)), bindO_pure, gd_pos (by simp; omega), gd_pos (by omega), List.take_add_one, hx]
        rfl
      · right
        refine ⟨L.take i, by simp only; rw [if_neg (by simpa using hlt)], List.take_of_length_le (by omega)⟩) N (0, []) ⟨by simp, by simp⟩ (by simp only; omega)
  subst h5
  unfold m_memory_Memory_All m_memory_row_all
  rw [mknown_is, bindO_pure, if_neg (by simp; omega), h4]; rfl
theorem mNext_is {N : Nat} {L : List FactD} {nx : Int} (h : 0 < nx) : m_memory_Memory_Next N L nx = some nx := by
  unfold m_memory_Memory_Next
  rw [mknown_is, bindO_pure, if_neg (by simp; omega)]
theorem mLen_is {N : Nat} {L : List FactD} {nx : Int} (h : 0 < nx) : m_memory_Memory_Len N L nx = some L.length := by
  unfold m_memory_Memory_Len
  rw [mknown_is, bindO_pure, if_neg (by simp; omega)]
end Go.Proofs.YthmkahbkhoijbaaGreatDoor
