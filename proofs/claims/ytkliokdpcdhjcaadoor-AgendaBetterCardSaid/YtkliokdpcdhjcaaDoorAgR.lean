import Derived.Test.YtkliokdpcdhjcaaDoorAgQ
namespace Go.Proofs.YtkliokdpcdhjcaaDoor
open Go Go.RowKit
def mkRl (s : Int) : Api_RuleD := ⟨(⟨#[]⟩ : ByteArray), s, 0, [], []⟩
def sal (l : List Int) (r : Int) : Int := if r < 0 then 0 else l.getD r.toNat 0
section
variable {N : Nat} (hN : 9223372036854775808 ≤ N)
include hN
theorem of_is {l : List Int} (hl : l.length ≤ 1000) : m_ropewalklaw14_of N l = some (l.map mkRl) := by
  unfold m_ropewalklaw14_of
  rw [iter_push l.length (fun i => mkRl (l.getD i 0)) [] (fun i hi => by
    unfold m_ropewalklaw14_of_L1
    simp only
    have hg : l.getD i 0 = l[i] := by simp [hi]
    rw [if_pos (by simpa using hi), List.getElem?_eq_getElem hi, bindO_pure, gd_pos (by simp; omega), gd_pos (by omega), hg]
    rfl) (by unfold m_ropewalklaw14_of_L1; simp only; rw [if_neg (by simp)]) (by omega), bindO_pure, List.nil_append, map_range l mkRl 0]
theorem by_is {l : List Int} {t : List Api_TypeD} (hl : l.length ≤ 1000) : m_agenda_by N t (l.map mkRl) = some l := by
  unfold m_agenda_by
  rw [iter_push l.length (fun i => id (l.getD i 0)) [] (fun i hi => by
    unfold m_agenda_by_L1
    simp only
    have hg : l.getD i 0 = l[i] := by simp [hi]
    rw [if_pos (by simpa using hi), List.getElem?_map, List.getElem?_eq_getElem hi, Option.map_some, bindO_pure, gd_pos (by simp; omega), gd_pos (by omega), hg]
    rfl) (by unfold m_agenda_by_L1; simp only; rw [if_neg (by simp)]) (by omega), bindO_pure, List.nil_append, map_range l id 0]
  simp
omit hN in
theorem ofsal_is {l x : List Int} {r : Int} : m_agenda_order_of N l r x = some (sal l r) := by
  unfold m_agenda_order_of sal
  by_cases h : r < 0
  · rw [if_pos (by simpa using h), bindO_pure, if_pos rfl, if_pos h]
  · rw [if_neg (by simpa using h), bindO_pure, if_neg h]
    by_cases h2 : r ≥ ((l.length : Nat) : Int)
    · rw [if_pos (by simpa using h2), List.getD_eq_getElem?_getD, List.getElem?_eq_none (by omega)]; rfl
    · have h3 : r.toNat < l.length := by omega
      rw [if_neg (by simpa using h2), gd_pos (by omega), List.getElem?_eq_getElem h3, bindO_pure, List.getD_eq_getElem?_getD, List.getElem?_eq_getElem h3]; rfl
omit hN in
theorem rsal_is {l x : List Int} {t : List Api_TypeD} {r : Int} : m_ropewalkref14_salience N t (l.map mkRl) r x = some (sal l r) := by
  unfold m_ropewalkref14_salience sal
  rw [List.length_map]
  by_cases h : r < 0
  · rw [if_pos (by simpa using h), bindO_pure, if_pos rfl, if_pos h]
  · rw [if_neg (by simpa using h), bindO_pure, if_neg h]
    by_cases h2 : r ≥ ((l.length : Nat) : Int)
    · rw [if_pos (by simpa using h2), List.getD_eq_getElem?_getD, List.getElem?_eq_none (by omega)]; rfl
    · have h3 : r.toNat < l.length := by omega
      rw [if_neg (by simpa using h2), gd_pos (by omega), List.getElem?_map, List.getElem?_eq_getElem h3, Option.map_some, bindO_pure, List.getD_eq_getElem?_getD, List.getElem?_eq_getElem h3]; rfl
def ordI (s : List Int) (r1 : Int) (i1 : List Int) (r2 : Int) (i2 : List Int) : Int := orI [cmpI (sal s r2) (sal s r1), lexI (desc i2) (desc i1), cmpI r1 r2, lexI i1 i2]
theorem order_is {s i1 i2 : List Int} {r1 r2 : Int} (h1 : i1.length ≤ 1000) (h2 : i2.length ≤ 1000) : m_agenda_order_compare N s r1 i1 r2 i2 = some (ordI s r1 i1 r2 i2) := by
  unfold m_agenda_order_compare ordI
  rw [ofsal_is, bindO_pure, ofsal_is, bindO_pure, cmp_is, bindO_pure, falling_is (by omega), bindO_pure, falling_is (by omega), bindO_pure, compare_is hN (by rw [desc_len]; omega), bindO_pure, cmp_is, bindO_pure, compare_is hN (by omega), bindO_pure, or_is hN, bindO_pure]
theorem pbetter_is {s i1 i2 : List Int} {t : List Api_TypeD} {r1 r2 : Int} (hs : s.length ≤ 1000) (h1 : i1.length ≤ 1000) (h2 : i2.length ≤ 1000) : m_agenda_Better N t (s.map mkRl) r1 i1 r2 i2 = some (decide (ordI s r1 i1 r2 i2 < 0)) := by
  unfold m_agenda_Better
  rw [by_is hN hs, bindO_pure, order_is hN h1 h2, bindO_pure]
theorem pself_is {s i : List Int} {t : List Api_TypeD} {r : Int} (hs : s.length ≤ 1000) (h1 : i.length ≤ 1000) : m_agenda_Better_v2 N t (s.map mkRl) r i r = some false := by
  unfold m_agenda_Better_v2 m_agenda_order_compare_v2
  rw [by_is hN hs, bindO_pure, ofsal_is, bindO_pure, bindO_pure, cmp_is, bindO_pure, falling_is (by omega), bindO_pure, bindO_pure, compare_is hN (by rw [desc_len]; omega), bindO_pure, cmp_is, bindO_pure, compare_self hN (by omega), bindO_pure, or_is hN, bindO_pure, bindO_pure]
  simp [orI, cmpI, lexI_self]
omit hN in
theorem go1 {p q : List Int} {K : Option Bool} (hp : p.length ≤ 1000) : ∀ (k i fuel : Nat), p.length - i ≤ k → k < fuel → i ≤ p.length → i ≤ q.length →
    (bindS (iter (m_ropewalkref14_Better_L1 N p q) fuel i) fun _ => if (p.length != q.length) = true then some (decide (q.length < p.length)) else K) = if lexI (q.drop i) (p.drop i) = 0 then K else some (decide (lexI (q.drop i) (p.drop i) < 0)) := by
  intro k
  induction k with
  | zero =>
    intro i fuel h1 h2 h3 h4
    obtain ⟨fuel, rfl⟩ : ∃ f, fuel = f + 1 := ⟨fuel - 1, by omega⟩
    have hi : i = p.length := by omega
    subst hi
    rw [iter_stop (o := .inl ()) (by unfold m_ropewalkref14_Better_L1; rw [if_neg (by simp), bindO_pure, if_neg (by simp)]), bindS_inl, List.drop_length]
    by_cases h : p.length < q.length
    · rw [if_pos (by simp; omega), List.drop_eq_getElem_cons h]
      simp [lexI]; omega
    · have : q.length = p.length := by omega
      rw [if_neg (by simp [this]), List.drop_eq_nil_of_le (by omega)]
      simp [lexI]
  | succ k ih =>
    intro i fuel h1 h2 h3 h4
    by_cases hi : i < p.length
    · obtain ⟨fuel, rfl⟩ : ∃ f, fuel = f + 1 := ⟨fuel - 1, by omega⟩
      rw [List.drop_eq_getElem_cons hi]
      by_cases hm : i < q.length
      · rw [List.drop_eq_getElem_cons hm]
        have hs : m_ropewalkref14_Better_L1 N p q i = if p[i] = q[i] then some (.inl (i + 1)) else some (.inr (.inr (decide (p[i] > q[i])))) := by
          unfold m_ropewalkref14_Better_L1
          rw [if_pos (by simpa using hi), bindO_pure, if_pos (by simpa using hm), List.getElem?_eq_getElem hi, bindO_pure, List.getElem?_eq_getElem hm, bindO_pure, bindO_pure, bindO_pure, gd_pos (by omega)]
          by_cases h : p[i] = q[i]
          · rw [if_neg (by simp [h]), if_pos h]
          · rw [if_pos (by simpa using h), if_neg h]
        unfold lexI
        by_cases hc : p[i] = q[i]
        · rw [if_pos hc] at hs
          rw [show (if q[i] < p[i] then (-1 : Int) else if q[i] > p[i] then 1 else lexI (q.drop (i + 1)) (p.drop (i + 1))) = lexI (q.drop (i + 1)) (p.drop (i + 1)) from by rw [if_neg (by omega), if_neg (by omega)], iter_step hs, ih (i + 1) fuel (by omega) (by omega) (by omega) (by omega)]
        · rw [if_neg hc] at hs
          rw [iter_stop hs, bindS_inr]
          by_cases h5 : q[i] < p[i]
          · simp [h5]
          · have h6 : q[i] > p[i] := by omega
            simp [h5, h6]
      · rw [iter_stop (o := .inl ()) (by unfold m_ropewalkref14_Better_L1; rw [if_pos (by simpa using hi), bindO_pure, if_neg (by simpa using hm)]), bindS_inl, show q.drop i = [] from List.drop_eq_nil_of_le (by omega), if_pos (by simp; omega)]
        simp [lexI]; omega
    · exact ih i fuel (by omega) (by omega) h3 h4
omit hN in
theorem go2 {p q : List Int} (hp : p.length ≤ 1000) (hq : p.length = q.length) : ∀ (k i fuel : Nat), p.length - i ≤ k → k < fuel → i ≤ p.length →
    (bindS (iter (m_ropewalkref14_Better_L2 N p q) fuel i) fun _ => some false) = some (decide (lexI (p.drop i) (q.drop i) < 0)) := by
  intro k
  induction k with
  | zero =>
    intro i fuel h1 h2 h3
    obtain ⟨fuel, rfl⟩ : ∃ f, fuel = f + 1 := ⟨fuel - 1, by omega⟩
    have hi : i = p.length := by omega
    subst hi
    rw [iter_stop (o := .inl ()) (by unfold m_ropewalkref14_Better_L2; rw [if_neg (by simp)]), bindS_inl, List.drop_length, List.drop_eq_nil_of_le (by omega)]
    simp [lexI]
  | succ k ih =>
    intro i fuel h1 h2 h3
    by_cases hi : i < p.length
    · obtain ⟨fuel, rfl⟩ : ∃ f, fuel = f + 1 := ⟨fuel - 1, by omega⟩
      have hm : i < q.length := by omega
      rw [List.drop_eq_getElem_cons hi, List.drop_eq_getElem_cons hm]
      have hs : m_ropewalkref14_Better_L2 N p q i = if p[i] = q[i] then some (.inl (i + 1)) else some (.inr (.inr (decide (p[i] < q[i])))) := by
        unfold m_ropewalkref14_Better_L2
        rw [if_pos (by simpa using hi), List.getElem?_eq_getElem hi, bindO_pure, List.getElem?_eq_getElem hm, bindO_pure, bindO_pure, bindO_pure, gd_pos (by omega)]
        by_cases h : p[i] = q[i]
        · rw [if_neg (by simp [h]), if_pos h]
        · rw [if_pos (by simpa using h), if_neg h]
      unfold lexI
      by_cases hc : p[i] = q[i]
      · rw [if_pos hc] at hs
        rw [iter_step hs, ih (i + 1) fuel (by omega) (by omega) (by omega), if_neg (by omega), if_neg (by omega)]
      · rw [if_neg hc] at hs
        rw [iter_stop hs, bindS_inr]
        by_cases h5 : p[i] < q[i]
        · simp [h5]
        · have h6 : p[i] > q[i] := by omega
          simp [h5, h6]
    · exact ih i fuel (by omega) (by omega) h3
theorem rbetter_is {s i1 i2 : List Int} {t : List Api_TypeD} {r1 r2 : Int} (h1 : i1.length ≤ 1000) (h2 : i2.length ≤ 1000) : m_ropewalkref14_Better N t (s.map mkRl) r1 i1 r2 i2 = some (decide (ordI s r1 i1 r2 i2 < 0)) := by
  unfold m_ropewalkref14_Better ordI
  rw [rsal_is, bindO_pure, rsal_is, bindO_pure]
  by_cases hs : sal s r1 = sal s r2
  · rw [if_neg (by simp [hs]), rfalling_is hN (by omega), bindO_pure, rfalling_is hN (by omega), bindO_pure, go1 (by rw [desc_len]; omega) (desc i1).length 0 N (by omega) (by rw [desc_len]; omega) (by omega) (by omega), List.drop_zero, List.drop_zero]
    have h0 : cmpI (sal s r2) (sal s r1) = 0 := by unfold cmpI; rw [if_neg (by omega), if_neg (by omega)]
    rw [h0]
    by_cases hl : lexI (desc i2) (desc i1) = 0
    · have hlen : i1.length = i2.length := by rw [← desc_len i1, ← desc_len i2, lexI_zero hl]
      rw [if_pos hl, hl]
      by_cases hr : r1 = r2
      · rw [if_neg (by simp [hr]), go2 h1 hlen i1.length 0 N (by omega) (by omega) (by omega), List.drop_zero, List.drop_zero]
        have h5 : cmpI r1 r2 = 0 := by unfold cmpI; rw [if_neg (by omega), if_neg (by omega)]
        simp only [orI, h5, if_true]
        by_cases h6 : lexI i1 i2 = 0
        · simp [h6]
        · simp [h6]
      · have h5 : cmpI r1 r2 ≠ 0 := by unfold cmpI; split <;> (try split) <;> omega
        rw [if_pos (by simpa using hr)]
        simp only [orI, if_true, if_neg h5, cmpI_neg]
    · rw [if_neg hl]
      simp only [orI, if_true, if_neg hl]
  · have h5 : cmpI (sal s r2) (sal s r1) ≠ 0 := by unfold cmpI; split <;> (try split) <;> omega
    rw [if_pos (by simpa using hs)]
    simp only [orI, if_neg h5, cmpI_neg]
end
end Go.Proofs.YtkliokdpcdhjcaaDoor
