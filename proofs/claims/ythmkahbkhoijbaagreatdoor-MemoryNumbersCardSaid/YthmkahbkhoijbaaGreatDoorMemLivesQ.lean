import Derived.Test.YthmkahbkhoijbaaGreatDoorMemLivesP
namespace Go.Proofs.YthmkahbkhoijbaaGreatDoor
open Go Go.RowKit
section
variable {N : Nat} (hN : 9223372036854775808 ≤ N)
include hN
theorem mof2_is {l : List FactD} (hl : l.length ≤ 300) (ha : ∀ f ∈ l, fitA f.args) (a : Int) : ∃ r, m_memory_Of_V N a (lF l) l.length = some r ∧ m_ropewalkref11_Of N a l = some r ∧ (∀ v, r = .inr v → v = l ∧ MemOk N l a) := by
  unfold m_memory_Of_V m_ropewalkref11_Of
  by_cases h : a < 1 ∨ a > 1099511627777 ∨ 256 < l.length
  · have e : (if (decide (a < 1)) = true then some true else (if (decide (a > 1099511627777)) = true then some true else some (decide (256 < l.length)))) = some true := by
      by_cases h1 : a < 1
      · rw [if_pos (by simpa using h1)]
      · rw [if_neg (by simpa using h1)]
        by_cases h2 : a > 1099511627777
        · rw [if_pos (by simpa using h2)]
        · rw [if_neg (by simpa using h2), decide_eq_true (by omega)]
    rw [e]
    exact ⟨.inl (), rfl, rfl, fun v hv => by cases hv⟩
  · have e : (if (decide (a < 1)) = true then some true else (if (decide (a > 1099511627777)) = true then some true else some (decide (256 < l.length)))) = some false := by
      rw [if_neg (by simp; omega), if_neg (by simp; omega), decide_eq_false (by omega)]
    rw [e]
    simp only [bindO_pure, Bool.false_eq_true, if_false]
    obtain ⟨r, r', h1, h2, h3⟩ := iter_two (f := m_memory_Of_V_L1 N l.length (lF l) a) (g := m_ropewalkref11_Of_L1 N l a)
      (fun s t => t.1 = s.1 ∧ t.2 = s.2.1 ∧ s.2.2 = l.take s.1 ∧ s.1 ≤ l.length ∧ 0 ≤ s.2.1 ∧ (∀ f ∈ l.take s.1, 0 < f.id ∧ f.id ≤ s.2.1 ∧ f.id < a) ∧ (l.take s.1).Pairwise (fun a b => a.id < b.id) ∧ (∀ f ∈ l.take s.1, m_memory_may N f.ty f.args = some true) ∧ (l.take s.1).Pairwise (fun a b => ¬ (a.ty = b.ty ∧ a.args = b.args)))
      (fun s => l.length - s.1) (fun r r' => (r = .inl l ∧ r' = .inl () ∧ MemOk N l a) ∨ (r = .inr (.inl ()) ∧ r' = .inr (.inl ()))) (fun s t hst => by
        obtain ⟨i, last, M⟩ := s
        obtain ⟨i', last'⟩ := t
        obtain ⟨q1, q2, q3, hi, h0, hlow, hasc, hmay, hdif⟩ := hst
        simp only at q1 q2 q3 hi h0 hlow hasc hmay hdif
        subst q1; subst q2; subst q3
        unfold m_memory_Of_V_L1 m_ropewalkref11_Of_L1
        simp only
        by_cases hlt : i' < l.length
        · have hx := List.getElem?_eq_getElem hlt
          have hfa := ha _ (List.getElem_mem hlt)
          have e1 : (l[i'].args ++ tailV).take l[i'].args.length = l[i'].args := by rw [List.take_left']; rfl
          obtain ⟨bm, hbm, hbm2⟩ := may_says (N := N) (ty := l[i'].ty) hN hfa.1
          obtain ⟨k, hk, hk2⟩ := says_is (N := N) (l := l.take i') (nx := a) (ty := l[i'].ty) (args := l[i'].args) hN (by rw [List.length_take]; omega) (fun f hf => by have := (ha f (List.mem_of_mem_take hf)).1; omega)
          have hP : m_memory_Of_V_C3 N (sF l[i']) last' a (l.take i') = some (decide (l[i'].id ≤ last') || (decide (l[i'].id ≥ a) || (!bm || decide (k ≥ 0)))) := by
            have hs : m_memory_row_says_V N (l.take i') a (sF l[i']).ty ((sF l[i']).args ++ (sF l[i']).argsT) (sF l[i']).args.length = some k := by
              rw [saysV (by simp), show ((sF l[i']).args ++ (sF l[i']).argsT).take (sF l[i']).args.length = l[i'].args from e1]; exact hk
            unfold m_memory_Of_V_C3
            rw [gd_pos (show (sF l[i']).args.length ≤ ((sF l[i']).args ++ (sF l[i']).argsT).length by simp), show ((sF l[i']).args ++ (sF l[i']).argsT).take (sF l[i']).args.length = l[i'].args from e1, show m_memory_may N (sF l[i']).ty l[i'].args = some bm from hbm, bindO_pure, hs, bindO_pure]
            simp only [ite_or]
            rfl
          have hR : m_ropewalkref11_Of_C3 N l i' last' a = some (decide (l[i'].id ≤ last') || (decide (l[i'].id ≥ a) || (!bm || decide (k ≥ 0)))) := by
            unfold m_ropewalkref11_Of_C3
            simp only [hx, bindO_pure]
            rw [may_both hN hfa, hbm, bindO_pure, gd_pos (by omega), place_both (nx := a) hN (fun f hf => by have := (ha f (List.mem_of_mem_take hf)).1; omega), hk, bindO_pure]
            simp only [ite_or]
          rw [if_pos (by simpa using hlt), if_pos (by simpa using hlt), lF_at hlt, bindO_pure, gd_pos hlt, hP, hR, bindO_pure, bindO_pure]
          by_cases hb : (decide (l[i'].id ≤ last') || (decide (l[i'].id ≥ a) || (!bm || decide (k ≥ 0)))) = true
          · right
            rw [if_pos hb, if_pos hb]
            exact ⟨_, _, rfl, rfl, .inr ⟨rfl, rfl⟩⟩
          · left
            rw [if_neg hb, if_neg hb]
            simp only [Bool.or_eq_true, decide_eq_true_eq, Bool.not_eq_true', not_or, Bool.not_eq_false] at hb
            obtain ⟨b1, b2, b3, b4⟩ := hb
            subst b3
            have hno : ∀ f ∈ l.take i', ¬ (f.ty = l[i'].ty ∧ f.args = l[i'].args) := by
              rcases hk2 with ⟨_, h⟩ | ⟨j, x, e, _⟩
              · exact h
              · omega
            have ht1 : l.take (i' + 1) = l.take i' ++ [l[i']] := by rw [List.take_add_one, hx]; rfl
            refine ⟨(i' + 1, l[i'].id, l.take (i' + 1)), (i' + 1, l[i'].id), ?_, ?_, ⟨rfl, rfl, rfl, by simp only; omega, by simp only; omega, ?_, ?_, ?_, ?_⟩, by simp only; omega⟩
            · rw [gd_pos (show (sF l[i']).args.length ≤ ((sF l[i']).args ++ (sF l[i']).argsT).length by simp), show ((sF l[i']).args ++ (sF l[i']).argsT).take (sF l[i']).args.length = l[i'].args from e1, mown_is hfa.1, bindO_pure, gd_pos (by simp; omega), gd_pos (by omega), ht1]
              rfl
            · rw [hx, bindO_pure, gd_pos (by omega)]
            · simp only
              intro f hf
              rw [ht1] at hf
              rcases List.mem_append.1 hf with hf | hf
              · have := hlow f hf; omega
              · simp at hf; subst hf; omega
            · simp only
              rw [ht1]
              refine List.pairwise_append.2 ⟨hasc, by simp, fun x hx2 y hy => ?_⟩
              simp at hy; subst hy
              have := hlow x hx2; omega
            · simp only
              intro f hf
              rw [ht1] at hf
              rcases List.mem_append.1 hf with hf | hf
              · exact hmay f hf
              · simp at hf; subst hf; exact hbm
            · simp only
              rw [ht1]
              refine List.pairwise_append.2 ⟨hdif, by simp, fun x hx2 y hy => ?_⟩
              simp at hy; subst hy
              exact hno x hx2
        · right
          have hil : i' = l.length := by omega
          subst hil
          rw [List.take_length] at hlow hasc hmay hdif
          refine ⟨_, _, by rw [if_neg (by simp)], by rw [if_neg (by simp)], .inl ⟨by rw [List.take_length], rfl, ⟨by omega, by omega, by omega, fun f hf => by have := hlow f hf; omega, hasc, hmay, fun f hf => (ha f hf).1, hdif⟩⟩⟩) N (0, 0, []) (0, 0) ⟨rfl, rfl, by simp, by simp, by simp, by simp, by simp, by simp, by simp⟩ (by simp only; omega)
    rw [h1, h2, copyFacts_is (by omega) (okF_of hl (fun f hf => (ha f hf).1))]
    rcases h3 with ⟨rfl, rfl, h4⟩ | ⟨rfl, rfl⟩
    · exact ⟨.inr l, rfl, rfl, fun v hv => by cases hv; exact ⟨rfl, h4⟩⟩
    · exact ⟨.inl (), rfl, rfl, fun v hv => by cases hv⟩
variable (aw : m_ropewalklaw11_awake N = some true)
include aw
theorem mlivesC_is {l : List FactD} (hl : l.length ≤ 300) (ha : ∀ f ∈ l, fitA f.args) (b : Bool) (a : Int) : m_ropewalklaw11_MemoryLives_C2 N b l a = some (.inr true) ∨ ∃ L nx, m_ropewalklaw11_MemoryLives_C2 N b l a = some (.inl (L, nx, L, nx)) ∧ MemOk N L nx := by
  have hF := okF_of hl (fun f hf => (ha f hf).1)
  unfold m_ropewalklaw11_MemoryLives_C2
  cases b
  · right
    exact ⟨[], 1, by rw [if_neg (by simp)], memOk_new N⟩
  · obtain ⟨r, h1, h2, h3⟩ := mof2_is hN hl ha a
    have hk := keptFacts_is (N := N) (by omega) hF
    obtain ⟨o, hov, _⟩ := overFacts_is (N := N) (by omega) hF
    rw [if_pos rfl, lentFacts_is (by omega) hF, bindO_pure, h1, bindO_pure]
    cases r with
    | inl u =>
      left
      simp only
      rw [h2, bindO_pure]
      simp only
      rw [hk, bindO_pure, if_neg (by simp), bindO_pure, if_neg (by simp), aw, bindO_pure]
    | inr v =>
      right
      obtain ⟨rfl, hT⟩ := h3 v rfl
      simp only
      rw [h2, bindO_pure]
      simp only
      rw [hk, bindO_pure, if_neg (by simp), bindO_pure, if_neg (by simp), hov, bindO_pure]
      exact ⟨_, _, rfl, hT⟩
def fitT (l : List V) : Prop := ∀ v ∈ l, v.s.size ≤ 9223372036854775807
theorem memlives_is (a : Int) (l : List FactD) (b : Bool) (m : List Ropewalklaw11_DoD) (hl : ∀ f ∈ l, fitT f.args) (hm : ∀ x ∈ m, fitT x.args) : m_ropewalklaw11_MemoryLives N a l b m = some true := by
  unfold m_ropewalklaw11_MemoryLives
  by_cases h300 : 300 < l.length
  · rw [if_pos (by simpa using h300), aw]; rfl
  rw [if_neg (by simpa using h300)]
  obtain ⟨o, h1, h2⟩ := iter_inv (f := m_ropewalklaw11_MemoryLives_L1 N l) (fun i => i ≤ l.length ∧ ∀ y ∈ l.take i, y.args.length ≤ 20) (fun i => l.length - i) (fun o => o = .inr true ∨ (o = .inl () ∧ ∀ y ∈ l, y.args.length ≤ 20)) (fun i hi => by
    obtain ⟨hi, ha⟩ := hi
    unfold m_ropewalklaw11_MemoryLives_L1
    by_cases h : i < l.length
    · rw [if_pos (by simpa using h), List.getElem?_eq_getElem h, bindO_pure]
      by_cases h20 : 20 < l[i].args.length
      · right
        exact ⟨_, by rw [if_pos (by simpa using h20), aw, bindO_pure], .inl rfl⟩
      · left
        refine ⟨i + 1, by rw [if_neg (by simpa using h20), gd_pos (by omega)], ⟨by omega, fun y hy => ?_⟩, by omega⟩
        rw [List.take_add_one, List.getElem?_eq_getElem h] at hy
        rcases List.mem_append.1 hy with hy | hy
        · exact ha y hy
        · simp at hy; subst hy; omega
    · right
      refine ⟨_, by rw [if_neg (by simpa using h)], .inr ⟨rfl, fun y hy => ?_⟩⟩
      rw [List.take_of_length_le (by omega)] at ha
      exact ha y hy) N 0 ⟨by omega, by simp⟩ (by omega)
  rw [h1]
  rcases h2 with rfl | ⟨rfl, h20⟩
  · rfl
  · simp only [bindS_inl]
    rw [show m_memory_New N = some () from rfl, show m_ropewalkref11_New N = some () from rfl, bindO_pure, bindO_pure]
    rcases mlivesC_is hN aw (l := l) (by omega) (fun f hf => ⟨h20 f hf, hl f hf⟩) b a with h3 | ⟨L, nx, h3, hT⟩
    · rw [h3]; rfl
    · rw [h3]
      simp only [bindS_inl]
      obtain ⟨o, h4, h5⟩ := iter_inv (f := m_ropewalklaw11_MemoryLives_L2 N m) (fun s => s.1 ≤ 120 ∧ MemOk N s.2.1 s.2.2.1 ∧ s.2.2.2.1 = s.2.1 ∧ s.2.2.2.2 = s.2.2.1) (fun s => 120 - s.1)
        (fun o => (∃ L nx, o = .inl (L, nx, L, nx) ∧ MemOk N L nx) ∨ o = .inr true) (fun s hs => by
          obtain ⟨i, L, nx, L2, nx2⟩ := s
          obtain ⟨hi, ht, e1, e2⟩ := hs
          simp only at hi ht e1 e2
          subst e1; subst e2
          unfold m_ropewalklaw11_MemoryLives_L2
          simp only
          by_cases h : i < m.length ∧ i < 120
          · have e : (if (decide (i < m.length)) = true then some (decide (i < 120)) else some false) = some true := by
              rw [if_pos (by simpa using h.1)]; simp [h.2]
            have hy := List.getElem?_eq_getElem h.1
            rw [e, bindO_pure, if_pos rfl, hy, bindO_pure]
            by_cases hb : 20 < m[i].args.length
            · right; exact ⟨_, by rw [if_pos (by simpa using hb), aw, bindO_pure], .inr rfl⟩
            · left
              obtain ⟨L', nx', hd, ht'⟩ := mstep_is hN ht m[i].op m[i].id m[i].type (args := m[i].args) ⟨by omega, hm _ (List.getElem_mem h.1)⟩
              refine ⟨(i + 1, L', nx', L', nx'), ?_, ⟨by simp only; omega, ht', rfl, rfl⟩, by simp only; omega⟩
              rw [if_neg (by simpa using hb), bindO_pure, hd, bindO_pure]
              simp only
              rw [if_neg (by simp), malike_is hN ht', bindO_pure, bindO_pure]
              simp only
              rw [if_neg (by simp), gd_pos (by omega)]
          · right
            have e : (if (decide (i < m.length)) = true then some (decide (i < 120)) else some false) = some false := by
              by_cases h0 : i < m.length
              · rw [if_pos (by simpa using h0)]; simp; omega
              · rw [if_neg (by simpa using h0)]
            exact ⟨_, by rw [e, bindO_pure, if_neg (by simp)], .inl ⟨_, _, rfl, ht⟩⟩) N (0, L, nx, L, nx) ⟨by simp, hT, rfl, rfl⟩ (by simp only; omega)
      rw [h4]
      rcases h5 with ⟨L, nx, rfl, ht⟩ | rfl
      · simp only [bindS_inl]
        have hlen := ht.len
        rw [mAll_is hN ht, bindO_pure, bindO_pure, gd_pos ⟨by simp, fun y hy => by
          simp at hy
          subst hy
          exact ⟨by omega, fun u hu => by have := ht.args u hu; unfold sz_FactD; omega⟩⟩, malike_is hN ht, bindO_pure, if_pos rfl, aw, bindO_pure]
      · rfl
end
theorem mawake_is : m_ropewalklaw11_awake 9223372036854775808 = some true := by kernel_rfl
end Go.Proofs.YthmkahbkhoijbaaGreatDoor
