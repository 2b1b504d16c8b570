import Derived.Test.YtkliokdpcdhjcaaDoorAgP
namespace Go.Proofs.YtkliokdpcdhjcaaDoor
open Go Go.RowKit
def Desc (l : List Int) : Prop := l.Pairwise fun a b => b ≤ a
def desc (l : List Int) : List Int := l.mergeSort fun a b => decide (b ≤ a)
theorem desc_perm (l : List Int) : (desc l).Perm l := List.mergeSort_perm l _
theorem desc_sorted (l : List Int) : Desc (desc l) := by
  have h := List.pairwise_mergeSort (le := fun a b : Int => decide (b ≤ a)) (fun a b c h1 h2 => by simp at *; omega) (fun a b => by simp; omega) l
  exact h.imp fun h => by simpa using h
theorem desc_len (l : List Int) : (desc l).length = l.length := (desc_perm l).length_eq
theorem desc_one {l m : List Int} (hp : m.Perm l) (hs : Desc m) : m = desc l :=
  List.Perm.eq_of_pairwise (le := fun a b : Int => b ≤ a) (fun a b _ _ h1 h2 => by omega) hs (desc_sorted l) (hp.trans (desc_perm l).symm)
section
variable {N : Nat}
theorem cfO_is : cfO (fun x y => m_agenda_falling_1 N x y) = fun x y => cmpI y x := by
  funext x y
  unfold cfO m_agenda_falling_1
  simp only [cmp_is]
  rw [bindO_pure]; rfl
theorem cmpI_neg {a b : Int} : cmpI a b < 0 ↔ a < b := by
  unfold cmpI
  split
  · simp; assumption
  · split <;> simp <;> omega
theorem falling_is {l : List Int} (hl : l.length ≤ 1000000000) : m_agenda_falling N l = some (desc l) := by
  unfold m_agenda_falling
  have hk : SortOk (fun x y => m_agenda_falling_1 N x y) l := {
      some := fun x _ y _ => ⟨cmpI y x, by unfold m_agenda_falling_1; rw [cmp_is, bindO_pure]⟩
      irrefl := fun x _ => by rw [cfO_is]; simp only [cmpI_neg]; omega
      trans := fun x _ y _ z _ => by rw [cfO_is]; simp only [cmpI_neg]; omega
      ntrans := fun x _ y _ z _ => by rw [cfO_is]; simp only [cmpI_neg]; omega
      parts := fun x _ y _ => by rw [cfO_is]; simp only [cmpI_neg]; omega
      len := by omega }
  rw [gd_pos (by omega), sortM_is (l' := desc l) hk (desc_perm l) (by rw [cfO_is]; exact (desc_sorted l).imp fun h => by rw [cmpI_neg]; omega), bindO_pure]
theorem shift_is {l A : List Int} {i : Nat} {x : Int} (hx : l[i]? = some x) (hA : Desc A) (hlen : A.length ≤ 1000000000) (hN : 2000000000 ≤ N) :
    ∃ m k, iter (m_ropewalkref14_falling_L2 N l i) N (A ++ [0], ((A.length : Nat) : Int)) = some (m, ((k : Nat) : Int)) ∧ k < m.length ∧ Desc (m.set k x) ∧ (m.set k x).Perm (x :: A) := by
  obtain ⟨o, h1, h2⟩ := iter_inv (f := m_ropewalkref14_falling_L2 N l i) (fun s => ∃ P Q h, A = P ++ Q ∧ s.1 = P ++ h :: Q ∧ s.2 = ((P.length : Nat) : Int) ∧ ∀ q ∈ Q, q < x) (fun s => s.2.toNat)
    (fun o => ∃ P Q h, A = P ++ Q ∧ o.1 = P ++ h :: Q ∧ o.2 = ((P.length : Nat) : Int) ∧ (∀ q ∈ Q, q < x) ∧ ∀ p ∈ P, x ≤ p) (fun s hs => by
      obtain ⟨m, z⟩ := s
      obtain ⟨P, Q, h, e1, e2, e3, e4⟩ := hs
      simp only at e2 e3
      subst e2; subst e3
      unfold m_ropewalkref14_falling_L2 m_ropewalkref14_falling_C3
      simp only
      have hPl : P.length ≤ A.length := by rw [e1]; simp
      rcases List.eq_nil_or_concat P with rfl | ⟨P', p, rfl'⟩
      · right
        exact ⟨_, by first | (rw [if_neg (by simp), bindO_pure, if_neg (by simp)]; done) | (rw [if_neg (by simp), bindO_pure]; done) | (rw [if_neg (by simp)]; rfl), [], Q, h, e1, rfl, rfl, e4, by simp⟩
      · rw [List.concat_eq_append] at rfl'
        subst rfl'
        have hk : (((P' ++ [p]).length : Nat) : Int) - 1 = ((P'.length : Nat) : Int) := by simp
        have hg : (P' ++ [p] ++ h :: Q)[P'.length]? = some p := by simp
        have hg2 : (P' ++ [p] ++ h :: Q)[(P' ++ [p]).length]? = some h := by simp
        have hP' : P'.length ≤ 1000000000 := by simp at hPl; omega
        rw [if_pos (by simp), hk, gd_pos (by omega), gd_pos (by omega), Int.toNat_natCast, hg, bindO_pure, hx, bindO_pure, bindO_pure]
        by_cases hlt : p < x
        · left
          refine ⟨((P' ++ [p] ++ h :: Q).set (P' ++ [p]).length p, ((P'.length : Nat) : Int)), ?_, ⟨P', p :: Q, p, by rw [e1]; simp, by simp, rfl, ?_⟩, by simp⟩
          · rw [if_pos (by simpa using hlt), gd_pos (by omega), gd_pos (by omega), bindO_pure, gd_pos (by omega), Int.toNat_natCast, hg2, bindO_pure, gd_pos (by omega)]
          · intro q hq
            rcases List.mem_cons.1 hq with rfl | hq
            · exact hlt
            · exact e4 q hq
        · right
          refine ⟨_, by rw [if_neg (by simpa using hlt)], P' ++ [p], Q, h, e1, rfl, rfl, e4, ?_⟩
          intro q hq
          have hs : Desc (P' ++ [p]) := by
            have : Desc (P' ++ [p] ++ Q) := by rw [← e1]; exact hA
            exact (List.pairwise_append.1 this).1
          rcases List.mem_append.1 hq with hq | hq
          · have := (List.pairwise_append.1 hs).2.2 q hq p (by simp)
            omega
          · simp at hq; subst hq; omega) N (A ++ [0], ((A.length : Nat) : Int)) ⟨A, [], 0, by simp, by simp, rfl, by simp⟩ (by simp; omega)
  obtain ⟨m, z⟩ := o
  obtain ⟨P, Q, h, e1, e2, e3, e4, e5⟩ := h2
  simp only at e2 e3
  subst e2; subst e3
  have hset : (P ++ h :: Q).set P.length x = P ++ x :: Q := by simp
  refine ⟨_, P.length, h1, by simp, ?_, ?_⟩
  · rw [hset]
    have hs : Desc (P ++ Q) := by rw [← e1]; exact hA
    obtain ⟨q1, q2, q3⟩ := List.pairwise_append.1 hs
    refine List.pairwise_append.2 ⟨q1, List.pairwise_cons.2 ⟨fun q hq => by have := e4 q hq; omega, q2⟩, fun p hp q hq => ?_⟩
    rcases List.mem_cons.1 hq with rfl | hq
    · exact e5 p hp
    · exact q3 p hp q hq
  · rw [hset, e1]
    exact List.perm_middle
theorem rfalling_is {l : List Int} (hN : 9223372036854775808 ≤ N) (hl : l.length ≤ 1000000) : m_ropewalkref14_falling N l = some (desc l) := by
  unfold m_ropewalkref14_falling
  obtain ⟨o, h1, h2⟩ := iter_inv (f := m_ropewalkref14_falling_L1 N l) (fun s => s.1 ≤ l.length ∧ Desc s.2 ∧ s.2.Perm (l.take s.1)) (fun s => l.length - s.1) (fun o => o = desc l) (fun s hs => by
    obtain ⟨i, A⟩ := s
    obtain ⟨q1, q2, q3⟩ := hs
    simp only at q1 q2 q3
    have hA : A.length = i := by rw [q3.length_eq, List.length_take]; omega
    unfold m_ropewalkref14_falling_L1
    simp only
    by_cases hi : i < l.length
    · left
      obtain ⟨m, k, s1, s2, s3, s4⟩ := shift_is (N := N) (List.getElem?_eq_getElem hi) q2 (by omega) (by omega)
      refine ⟨(i + 1, m.set k l[i]), ?_, ⟨by simp only; omega, s3, ?_⟩, by simp only; omega⟩
      · rw [if_pos (by simpa using hi), gd_pos (by simp; omega), s1, bindO_pure]
        simp only
        rw [List.getElem?_eq_getElem hi, bindO_pure, gd_pos (by omega), Int.toNat_natCast, List.getElem?_eq_getElem s2, bindO_pure, gd_pos (by omega)]
      · simp only
        rw [List.take_succ_eq_append_getElem hi]
        exact s4.trans ((List.Perm.cons _ q3).trans (List.perm_append_singleton _ _).symm)
    · right
      refine ⟨A, by rw [if_neg (by simpa using hi)], ?_⟩
      rw [List.take_of_length_le (by omega)] at q3
      exact desc_one q3 q2) N (0, []) ⟨by simp, List.Pairwise.nil, by simp⟩ (by simp only; omega)
  rw [h1, h2, bindO_pure]
end
end Go.Proofs.YtkliokdpcdhjcaaDoor
