import Derived.Test.YthmkahbkhoijbaaGreatDoorMemP
import Derived.Test.YthmkahbkhoijbaaGreatDoorKeepV
import Derived.Test.YthmkahbkhoijbaaGreatDoorRightP
namespace Go.Proofs.YthmkahbkhoijbaaGreatDoor
open Go Go.RowKit
theorem iter_two {σ τ ρ ρ' : Type} {f : σ → Option (σ ⊕ ρ)} {g : τ → Option (τ ⊕ ρ')} (R : σ → τ → Prop) (μ : σ → Nat) (Q : ρ → ρ' → Prop)
    (step : ∀ s t, R s t → (∃ s' t', f s = some (.inl s') ∧ g t = some (.inl t') ∧ R s' t' ∧ μ s' < μ s) ∨ (∃ r r', f s = some (.inr r) ∧ g t = some (.inr r') ∧ Q r r')) :
    ∀ (n : Nat) (s : σ) (t : τ), R s t → μ s < n → ∃ r r', iter f n s = some r ∧ iter g n t = some r' ∧ Q r r'
  | 0, _, _, _, h => by omega
  | n + 1, s, t, hR, h => by
    rcases step s t hR with ⟨s', t', h1, h2, h3, h4⟩ | ⟨r, r', h1, h2, h3⟩
    · obtain ⟨r, r', h5, h6, h7⟩ := iter_two R μ Q step n s' t' h3 (by omega)
      exact ⟨r, r', by rw [iter_step h1]; exact h5, by rw [iter_step h2]; exact h6, h7⟩
    · exact ⟨r, r', iter_stop h1, iter_stop h2, h3⟩
theorem cvals_is {N : Nat} {l : List V} (h : l.length ≤ 20) : m_ropewalkkit_CopyValues N l = some () := by
  unfold m_ropewalkkit_CopyValues; rw [gd_pos (by simp; omega)]
theorem okF_of {L : List FactD} (h3 : L.length ≤ 300) (ha : ∀ f ∈ L, f.args.length ≤ 20) : okF L := ⟨by omega, fun f hf => by have := ha f hf; omega⟩
def fitA (l : List V) : Prop := l.length ≤ 20 ∧ ∀ v ∈ l, v.s.size ≤ 9223372036854775807
section
variable {N : Nat} (hN : 9223372036854775808 ≤ N)
include hN
omit hN in
theorem idxV_says {l : List V} (hl : l.length ≤ 9223372036854775807) (hN : 9223372036854775808 ≤ N) : ∃ k, m_slices_IndexFunc_Value N l = some k ∧ (0 ≤ k ↔ ¬ ∀ v ∈ l, m_value_Right N v.k v.n v.s = some true) := by
  obtain ⟨o, h1, h2⟩ := iter_inv (f := m_slices_IndexFunc_Value_L1 N l) (fun i => i ≤ l.length ∧ ∀ v ∈ l.take i, m_value_Right N v.k v.n v.s = some true) (fun i => l.length - i)
    (fun o => (∃ k, o = .inr k ∧ 0 ≤ k ∧ ¬ ∀ v ∈ l, m_value_Right N v.k v.n v.s = some true) ∨ (o = .inl () ∧ ∀ v ∈ l, m_value_Right N v.k v.n v.s = some true)) (fun i hi => by
    obtain ⟨hi, ha⟩ := hi
    unfold m_slices_IndexFunc_Value_L1
    by_cases hlt : i < l.length
    · have hx := List.getElem?_eq_getElem hlt
      obtain ⟨b, hb⟩ := right_tot N l[i].k l[i].n l[i].s
      rw [if_pos (by simpa using hlt), hx]
      simp only [bindO_pure, m_memory_may_1, hb]
      cases b
      · right
        refine ⟨_, by rw [if_pos (by rfl)], .inl ⟨_, rfl, by omega, fun h => ?_⟩⟩
        have := h _ (List.getElem_mem hlt)
        rw [hb] at this; cases this
      · left
        refine ⟨i + 1, by rw [if_neg (by simp), gd_pos (by omega)], ⟨by omega, fun v hv => ?_⟩, by omega⟩
        rw [List.take_add_one, hx] at hv
        rcases List.mem_append.1 hv with hv | hv
        · exact ha v hv
        · simp at hv; subst hv; exact hb
    · right
      refine ⟨_, by rw [if_neg (by simpa using hlt)], .inr ⟨rfl, fun v hv => ha v ?_⟩⟩
      rw [List.take_of_length_le (by omega)]; exact hv) N 0 ⟨by omega, by simp⟩ (by omega)
  unfold m_slices_IndexFunc_Value
  rw [h1]
  rcases h2 with ⟨k, rfl, h3, h4⟩ | ⟨rfl, h3⟩
  · exact ⟨k, rfl, fun _ => h4, fun _ => h3⟩
  · exact ⟨-1, rfl, fun h => by omega, fun h => absurd h3 h⟩
def mayP (N : Nat) (ty : Int) (l : List V) : Prop := (0 ≤ ty ∧ ty < 32) ∧ l.length ≤ 6 ∧ ∀ v ∈ l, m_value_Right N v.k v.n v.s = some true
theorem may_says {ty : Int} {l : List V} (hl : l.length ≤ 20) : Says (m_memory_may N ty l) (mayP N ty l) := by
  obtain ⟨k, hk, hk2⟩ := idxV_says (N := N) (l := l) (by omega) hN
  unfold m_memory_may m_memory_may_C1 m_slices_ContainsFunc_Value mayP
  rw [hk]
  simp only [bindO_pure]
  by_cases h0 : 0 ≤ ty
  · rw [if_pos (by simpa using h0)]
    by_cases h1 : ty < 32
    · rw [if_pos (by simpa using h1)]
      by_cases h2 : l.length ≤ 6
      · rw [if_pos (by simpa using h2), bindO_pure]
        refine ⟨_, rfl, ?_⟩
        by_cases h3 : 0 ≤ k
        · have := hk2.1 h3
          simp only [h0, h1, h2, true_and, this, iff_false]
          simp [h3]
        · have h4 : ∀ v ∈ l, m_value_Right N v.k v.n v.s = some true := by
            apply Classical.byContradiction; intro h; exact h3 (hk2.2 h)
          simp only [h0, h1, h2, true_and]
          constructor
          · intro _; exact h4
          · intro _; simp; omega
      · rw [if_neg (by simpa using h2)]
        exact ⟨false, rfl, by simp [h2]⟩
    · rw [if_neg (by simpa using h1)]
      exact ⟨false, rfl, by simp [h1]⟩
  · rw [if_neg (by simpa using h0)]
    exact ⟨false, rfl, by simp [h0]⟩
theorem rmay_says {ty : Int} {l : List V} (h : fitA l) : Says (m_ropewalkref11_May N ty l) (mayP N ty l) := by
  obtain ⟨hl, hs⟩ := h
  unfold m_ropewalkref11_May mayP
  by_cases hb : ty < 0 ∨ 32 ≤ ty ∨ 6 < l.length
  · have e : (if (decide (ty < 0)) = true then some true else (if (decide (ty ≥ 32)) = true then some true else some (decide (6 < l.length)))) = some true := by
      by_cases h1 : ty < 0
      · rw [if_pos (by simpa using h1)]
      · rw [if_neg (by simpa using h1)]
        by_cases h2 : ty ≥ 32
        · rw [if_pos (by simpa using h2)]
        · rw [if_neg (by simpa using h2), decide_eq_true (by omega)]
    rw [e]
    exact ⟨false, rfl, by constructor; · intro h; cases h
                          · intro h; omega⟩
  · have e : (if (decide (ty < 0)) = true then some true else (if (decide (ty ≥ 32)) = true then some true else some (decide (6 < l.length)))) = some false := by
      rw [if_neg (by simp; omega), if_neg (by simp; omega), decide_eq_false (by omega)]
    rw [e]
    simp only [bindO_pure, Bool.false_eq_true, if_false]
    obtain ⟨o, h1, h2⟩ := iter_inv (f := m_ropewalkref11_May_L1 N l) (fun i => i ≤ l.length ∧ ∀ v ∈ l.take i, m_value_Right N v.k v.n v.s = some true) (fun i => l.length - i)
      (fun o => (o = .inr false ∧ ¬ ∀ v ∈ l, m_value_Right N v.k v.n v.s = some true) ∨ (o = .inl () ∧ ∀ v ∈ l, m_value_Right N v.k v.n v.s = some true)) (fun i hi => by
      obtain ⟨hi, ha⟩ := hi
      unfold m_ropewalkref11_May_L1
      by_cases hlt : i < l.length
      · have hx := List.getElem?_eq_getElem hlt
        obtain ⟨b, hb⟩ := right_tot N l[i].k l[i].n l[i].s
        have hr : m_ropewalkref01_Right N l[i].k l[i].n l[i].s = some b := by rw [← right_same _ _ hN (hs _ (List.getElem_mem hlt)), hb]
        rw [if_pos (by simpa using hlt), hx]
        simp only [bindO_pure, hr]
        cases b
        · right
          refine ⟨_, by rw [if_pos (by rfl)], .inl ⟨rfl, fun h => ?_⟩⟩
          have := h _ (List.getElem_mem hlt)
          rw [hb] at this; cases this
        · left
          refine ⟨i + 1, by rw [if_neg (by simp), gd_pos (by omega)], ⟨by omega, fun v hv => ?_⟩, by omega⟩
          rw [List.take_add_one, hx] at hv
          rcases List.mem_append.1 hv with hv | hv
          · exact ha v hv
          · simp at hv; subst hv; exact hb
      · right
        refine ⟨_, by rw [if_neg (by simpa using hlt)], .inr ⟨rfl, fun v hv => ha v ?_⟩⟩
        rw [List.take_of_length_le (by omega)]; exact hv) N 0 ⟨by omega, by simp⟩ (by omega)
    rw [h1]
    rcases h2 with ⟨rfl, h3⟩ | ⟨rfl, h3⟩
    · exact ⟨false, rfl, by constructor; · intro h; cases h
                            · intro h; exact absurd h.2.2 h3⟩
    · exact ⟨true, rfl, fun _ => ⟨⟨by omega, by omega⟩, by omega, h3⟩, fun _ => rfl⟩
theorem may_both {ty : Int} {l : List V} (h : fitA l) : m_ropewalkref11_May N ty l = m_memory_may N ty l := says_eq (rmay_says hN h) (may_says hN h.1)
theorem place_both {l : List FactD} {nx ty : Int} {args : List V} (ha : ∀ f ∈ l, f.args.length ≤ 9223372036854775807) : m_ropewalkref11_place N l ty args = m_memory_row_says N l nx ty args := by
  have e : m_ropewalkref11_place_L1 N l ty args = m_slices_IndexFunc_Fact_L1 N l ty args := by
    funext i
    unfold m_ropewalkref11_place_L1 m_slices_IndexFunc_Fact_L1 m_memory_row_says_1
    by_cases h : i < l.length
    · have := says_eq (sameValues_is (N := N) (l := l[i].args) (m := args) hN (ha _ (List.getElem_mem h))) (msame_is hN (ha _ (List.getElem_mem h)))
      simp only [List.getElem?_eq_getElem h, bindO_pure, this]
    · rw [if_neg (by simpa using h), if_neg (by simpa using h)]
  unfold m_ropewalkref11_place m_memory_row_says m_slices_IndexFunc_Fact
  rw [e]
  rcases iter (m_slices_IndexFunc_Fact_L1 N l ty args) N 0 with _ | (_ | _) <;> rfl
omit hN in
theorem saysV {l : List FactD} {nx ty : Int} {m : List V} {k : Nat} (h : k ≤ m.length) : m_memory_row_says_V N l nx ty m k = m_memory_row_says N l nx ty (m.take k) := by
  have e : m_slices_IndexFunc_Fact_V_L1 N l ty m k = m_slices_IndexFunc_Fact_L1 N l ty (m.take k) := by
    funext i
    unfold m_slices_IndexFunc_Fact_V_L1 m_slices_IndexFunc_Fact_L1 m_memory_row_says_1_V m_memory_row_says_1
    simp only [gd_pos h]
  unfold m_memory_row_says_V m_memory_row_says m_slices_IndexFunc_Fact_V m_slices_IndexFunc_Fact
  rw [e]
omit hN in
theorem addV {l : List FactD} {nx ty : Int} {m : List V} {k : Nat} (h : k ≤ m.length) : m_memory_Memory_Add_V N l nx ty m k = m_memory_Memory_Add N l nx ty (m.take k) := by
  unfold m_memory_Memory_Add_V m_memory_Memory_Add
  simp only [gd_pos h, saysV h]
variable {L : List FactD} {nx : Int} (ht : MemOk N L nx)
include ht
theorem refAdd_is {ty : Int} {args : List V} (h : fitA args) : m_ropewalkref11_Memory_Add N L nx ty args = m_memory_Memory_Add N L nx ty args := by
  have h1 := ht.pos
  have h3 := ht.len
  unfold m_ropewalkref11_Memory_Add m_memory_Memory_Add
  rw [mknown_is, bindO_pure, may_both hN h, place_both (nx := nx) hN (fun f hf => by have := ht.args f hf; omega), copyFacts_is (by omega) (okF_of (by omega) ht.args), cvals_is h.1, mown_is h.1]
  have h1' : nx > 0 := h1
  simp only [bindO_pure, decide_eq_true h1', Bool.not_true, Bool.false_eq_true, if_false]
theorem ratId {id : Int} : (∃ (i : Nat) (x : FactD), m_ropewalkref11_Memory_at N L nx id = some ((i : Nat) : Int) ∧ L[i]? = some x ∧ x.id = id) ∨ (m_ropewalkref11_Memory_at N L nx id = some (-1) ∧ ∀ f ∈ L, f.id ≠ id) := by
  have h3 := ht.len
  obtain ⟨o, h1, h2⟩ := iter_inv (f := m_ropewalkref11_Memory_at_L1 N L id) (fun i => i ≤ L.length ∧ ∀ y ∈ L.take i, y.id ≠ id) (fun i => L.length - i)
    (fun o => (∃ (i : Nat) (x : FactD), o = .inr ((i : Nat) : Int) ∧ L[i]? = some x ∧ x.id = id) ∨ (o = .inl () ∧ ∀ f ∈ L, f.id ≠ id)) (fun i hi => by
      obtain ⟨hi, ha⟩ := hi
      unfold m_ropewalkref11_Memory_at_L1
      by_cases hlt : i < L.length
      · have hx := List.getElem?_eq_getElem hlt
        rw [if_pos (by simpa using hlt), hx]
        simp only [bindO_pure]
        by_cases he : L[i].id = id
        · right; exact ⟨_, by rw [if_pos (by simpa using he)], .inl ⟨i, _, rfl, hx, he⟩⟩
        · left
          refine ⟨i + 1, by rw [if_neg (by simpa using he), gd_pos (by omega)], ⟨by omega, fun y hy => ?_⟩, by omega⟩
          rw [List.take_add_one, hx] at hy
          rcases List.mem_append.1 hy with hy | hy
          · exact ha y hy
          · simp at hy; subst hy; exact he
      · right
        refine ⟨_, by rw [if_neg (by simpa using hlt)], .inr ⟨rfl, fun f hf => ha f ?_⟩⟩
        rw [List.take_of_length_le (by omega)]; exact hf) N 0 ⟨by omega, by simp⟩ (by omega)
  unfold m_ropewalkref11_Memory_at
  rw [h1]
  rcases h2 with ⟨i, x, rfl, h4, h5⟩ | ⟨rfl, h4⟩
  · exact .inl ⟨i, x, rfl, h4, h5⟩
  · exact .inr ⟨rfl, h4⟩
omit hN in
theorem uniq_at {i j : Nat} {x y : FactD} (hx : L[i]? = some x) (hy : L[j]? = some y) (e : x.id = y.id) : i = j := by
  obtain ⟨hi, rfl⟩ := List.getElem?_eq_some_iff.1 hx
  obtain ⟨hj, rfl⟩ := List.getElem?_eq_some_iff.1 hy
  rcases Nat.lt_trichotomy i j with h1 | h1 | h1
  · have := List.pairwise_iff_getElem.1 ht.asc i j hi hj h1; omega
  · exact h1
  · have := List.pairwise_iff_getElem.1 ht.asc j i hj hi h1; omega
theorem refDrop_is {id : Int} : m_ropewalkref11_Memory_Drop N L nx id = m_memory_Memory_Drop N L nx id := by
  have h3 := ht.len
  unfold m_ropewalkref11_Memory_Drop
  rcases ratId hN ht (id := id) with ⟨i, x, h1, h2, h4⟩ | ⟨h1, h2⟩
  · have hi := (List.getElem?_eq_some_iff.1 h2).1
    rw [h1, bindO_pure, if_neg (by simp), gd_pos (by omega), gd_pos (by omega), copyFacts_is (by omega) (okF_of (by rw [List.length_take]; omega) (fun f hf => ht.args f (List.mem_of_mem_take hf))), bindO_pure, gd_pos (by omega), gd_pos (by omega), gd_pos (by omega), gd_pos (by rw [List.length_take, List.length_drop]; omega)]
    rcases Drop_is (id := id) hN ht with ⟨j, y, q1, q2, q3⟩ | ⟨q1, _⟩
    · obtain rfl := uniq_at ht h2 q1 (by rw [h4, q2])
      rw [q3]
      have e1 : ((i : Nat) : Int).toNat = i := rfl
      have e2 : (((i : Nat) : Int) + 1).toNat = i + 1 := by omega
      rw [e1, e2]
    · exact absurd h4 (q1 x (List.mem_of_getElem? h2))
  · rw [h1, bindO_pure, if_pos (by simp)]
    rcases Drop_is (id := id) hN ht with ⟨j, y, q1, q2, _⟩ | ⟨_, q2⟩
    · exact absurd q2 (h2 y (List.mem_of_getElem? q1))
    · rw [q2]
theorem get_is {id : Int} : ∃ f b, m_memory_Memory_Get N L nx id = some (f.id, f.ty, f.args, b) ∧ m_ropewalkref11_Memory_Get N L nx id = some (f.id, f.ty, f.args, b) ∧ (f : FactD).args.length ≤ 20 := by
  have h3 := ht.len
  have hp := ht.pos
  unfold m_memory_Memory_Get m_ropewalkref11_Memory_Get
  rw [mknown_is, bindO_pure, if_neg (by simp; omega)]
  rcases rowat_is (N := N) (nx := nx) (id := id) hN (by omega) ht.asc with ⟨i, x, h4, h5, h6⟩ | ⟨k, h4, h5⟩
  · have hx := ht.args x (List.mem_of_getElem? h5)
    rcases ratId hN ht (id := id) with ⟨j, y, q1, q2, q4⟩ | ⟨_, q2⟩
    · obtain rfl := uniq_at ht h5 q2 (by rw [h6, q4])
      refine ⟨x, true, ?_, ?_, hx⟩
      · rw [h4, bindO_pure]
        simp only
        rw [if_neg (show ¬ ((!true) = true) from fun h => by cases h), gd_pos (by omega), Int.toNat_natCast, h5, bindO_pure, mown_is hx]; rfl
      · rw [q1, bindO_pure, if_neg (by simp), gd_pos (by omega), Int.toNat_natCast, h5]; rfl
    · exact absurd h6 (q2 x (List.mem_of_getElem? h5))
  · rcases ratId hN ht (id := id) with ⟨j, y, q1, q2, q4⟩ | ⟨q1, _⟩
    · exact absurd q4 (h5 y (List.mem_of_getElem? q2))
    · refine ⟨⟨0, 0, []⟩, false, ?_, ?_, by simp⟩
      · rw [h4, bindO_pure]
        simp only
        rw [if_pos (show (!false) = true from rfl)]
      · rw [q1, bindO_pure, if_pos (by simp)]
theorem find_is {ty : Int} {m : List V} {k : Nat} (h : k ≤ m.length) : ∃ a b, m_memory_Memory_Find_V N L nx ty m k = some (a, b) ∧ m_ropewalkref11_Memory_Find N L nx ty (m.take k) = some (a, b) := by
  have h3 := ht.len
  have hp := ht.pos
  obtain ⟨j, hj, hj2⟩ := says_is (N := N) (l := L) (nx := nx) (ty := ty) (args := m.take k) hN (by omega) (fun f hf => by have := ht.args f hf; omega)
  unfold m_memory_Memory_Find_V m_ropewalkref11_Memory_Find
  rw [mknown_is, bindO_pure, if_neg (by simp; omega), saysV h, place_both (nx := nx) hN (fun f hf => by have := ht.args f hf; omega), hj, bindO_pure]
  rcases hj2 with ⟨rfl, _⟩ | ⟨i, x, rfl, hx, _, _⟩
  · exact ⟨0, false, by rw [if_pos (by simp)], by rw [if_pos (by simp)]⟩
  · refine ⟨x.id, true, ?_, ?_⟩ <;> rw [if_neg (by simp), gd_pos (by omega), Int.toNat_natCast, hx] <;> rfl
theorem malike_is : m_ropewalklaw11_alike N L nx L nx = some true := by
  have h3 := ht.len
  unfold m_ropewalklaw11_alike
  rw [mNext_is ht.pos, bindO_pure, if_pos (by simp), mLen_is ht.pos, bindO_pure, if_pos (by simp), mAll_is hN ht, bindO_pure, (sameFacts_is hN (by omega) (fun f hf => by have := ht.args f hf; omega)).eq_true rfl]; rfl
theorem mstep_is (op id ty : Int) {args : List V} (h : fitA args) : ∃ L' nx', m_ropewalklaw11_step N L nx L nx op id ty args = some (true, L', nx', L', nx') ∧ MemOk N L' nx' := by
  have hl : args.length ≤ 20 := h.1
  obtain ⟨y, hy, _⟩ := Pick_is (N := N) (x := op) (n := 6) (by omega)
  obtain ⟨o, hov, _⟩ := overValues_is (N := N) (l := args ++ tailV) (k := args.length) (by omega) (by simp [tailV_len]; omega) (by simp [tailV_len])
  have hk : args.length ≤ (args ++ tailV).length := by simp
  have e1 : (args ++ tailV).take args.length = args := by rw [List.take_left']; rfl
  have hC : ∃ L' nx', m_ropewalklaw11_step_C1 N op L nx ty (args ++ tailV) args L nx id = some (true, L', nx', L', nx') ∧ MemOk N L' nx' := by
    unfold m_ropewalklaw11_step_C1
    rw [hy, bindO_pure]
    have hj : (if (y == 0) = true then some (y == 0) else (if (y == 1) = true then some (y == 1) else some (y == 2))) = some (decide (y = 0 ∨ y = 1 ∨ y = 2)) := by
      by_cases c0 : y = 0
      · rw [if_pos (by simpa using c0)]; simp [c0]
      · rw [if_neg (by simpa using c0)]
        by_cases c1 : y = 1
        · rw [if_pos (by simpa using c1)]; simp [c1]
        · rw [if_neg (by simpa using c1)]; by_cases c2 : y = 2 <;> simp [c0, c1, c2]
    rw [hj, bindO_pure]
    by_cases c0 : y = 0 ∨ y = 1 ∨ y = 2
    · rw [if_pos (by simpa using c0), addV hk, e1, refAdd_is hN ht h]
      rcases Add_is (ty := ty) hN ht hl with ⟨_, q⟩ | ⟨i, x, _, _, _, q⟩ | ⟨_, q⟩ | ⟨q, _, q2⟩
      · rw [q, bindO_pure]; simp only; rw [bindO_pure]; simp only; rw [if_pos (by simp)]; exact ⟨_, _, by simp, ht⟩
      · rw [q, bindO_pure]; simp only; rw [bindO_pure]; simp only; rw [if_pos (by simp)]; exact ⟨_, _, by simp, ht⟩
      · rw [q, bindO_pure]; simp only; rw [bindO_pure]; simp only; rw [if_pos (by simp)]; exact ⟨_, _, by simp, ht⟩
      · rw [q, bindO_pure]; simp only; rw [bindO_pure]; simp only; rw [if_pos (by simp)]; exact ⟨_, _, by simp, q2⟩
    · rw [if_neg (by simpa using c0)]
      by_cases c3 : y = 3
      · rw [if_pos (by simpa using c3), refDrop_is hN ht]
        rcases Drop_is (id := id) hN ht with ⟨i, x, _, _, q⟩ | ⟨_, q⟩
        · rw [q, bindO_pure]; simp only; rw [bindO_pure]; exact ⟨L.take i ++ L.drop (i + 1), nx, by simp, memOk_sub ht drop_sub⟩
        · rw [q, bindO_pure]; simp only; rw [bindO_pure]; exact ⟨_, _, by simp, ht⟩
      · rw [if_neg (by simpa using c3)]
        by_cases c4 : y = 4
        · obtain ⟨a, b, q1, q2⟩ := find_is (ty := ty) hN ht hk
          rw [e1] at q2
          rw [if_pos (by simpa using c4), q1, bindO_pure]; simp only; rw [q2, bindO_pure]; simp only; rw [if_pos (by simp)]; exact ⟨_, _, by simp, ht⟩
        · obtain ⟨f, b, q1, q2, q3⟩ := get_is (id := id) hN ht
          rw [if_neg (by simpa using c4), q1, bindO_pure]; simp only; rw [q2, bindO_pure]; simp only; rw [bindO_pure]; simp only
          rw [if_pos (by simp), (sameFact_is (f := f) (g := f) hN (by omega)).eq_true rfl, bindO_pure, if_pos rfl, gd_pos ⟨by simp, fun y hy => by
            simp at hy
            rcases hy with rfl | rfl <;> exact ⟨by simp, fun u hu => by simp at hu; subst hu; unfold sz_FactD; show f.args.length ≤ _; omega⟩⟩]
          exact ⟨_, _, rfl, ht⟩
  obtain ⟨L', nx', hc, ht'⟩ := hC
  unfold m_ropewalklaw11_step
  rw [lentValues_is (by omega) (by omega), bindO_pure, hc, bindO_pure]
  simp only
  rw [if_pos trivial, keptValues_is (by omega) (by omega), bindO_pure, bindO_pure, hov, bindO_pure]
  exact ⟨_, _, rfl, ht'⟩
end
end Go.Proofs.YthmkahbkhoijbaaGreatDoor
