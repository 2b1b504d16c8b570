/- What the models of layer 1 say: names, order, texts. -/
import Derived.Test.YtkddfgjefdlaeaaDoorValP
import Derived.Lib.Strings
import Derived.Lib.SlTrimSet
namespace Go.Proofs.YtkddfgjefdlaeaaDoor
open Go Go.RowKit
theorem bget (s : ByteArray) (i : Nat) : s[i]? = s.data.toList[i]? := by
  by_cases h : i < s.size
  · rw [getElem?_pos s i h]
    have h2 : i < s.data.toList.length := by simpa using h
    rw [List.getElem?_eq_getElem h2]; rfl
  · rw [getElem?_neg s i h]
    rw [List.getElem?_eq_none (by simpa using h)]
theorem btl (s : ByteArray) : s.toList = s.data.toList := ByteArray.toList_eq s
theorem bext {s t : ByteArray} : s = t ↔ s.data.toList = t.data.toList := by
  constructor
  · intro h; rw [h]
  · intro h
    obtain ⟨a⟩ := s
    obtain ⟨b⟩ := t
    simp only at h
    rw [show a = b from Array.toList_inj.1 h]
def lowB (b : UInt8) : Prop := 97 ≤ b.toNat ∧ b.toNat ≤ 122
def morB (b : UInt8) : Prop := lowB b ∨ (48 ≤ b.toNat ∧ b.toNat ≤ 57) ∨ b.toNat = 95
def nameOk (l : List UInt8) : Prop := 0 < l.length ∧ l.length ≤ 24 ∧ (∀ b, l[0]? = some b → lowB b) ∧ ∀ b ∈ l, morB b
theorem mem_low (c : UInt8) : c ∈ [97, 98, 99, 100, 101, 102, 103, 104, 105, 106, 107, 108, 109, 110, 111, 112, 113, 114, 115, 116, 117, 118, 119, 120, 121, (122 : UInt8)] ↔ lowB c := by
  unfold lowB
  simp [← UInt8.toNat_inj]
  omega
theorem mem_mor (c : UInt8) : c ∈ [97, 98, 99, 100, 101, 102, 103, 104, 105, 106, 107, 108, 109, 110, 111, 112, 113, 114, 115, 116, 117, 118, 119, 120, 121, 122, 48, 49, 50, 51, 52, 53, 54, 55, 56, 57, (95 : UInt8)] ↔ morB c := by
  unfold morB lowB
  simp [← UInt8.toNat_inj]
  omega
theorem index_mem : ∀ (l : List UInt8) (c : UInt8), 0 ≤ Lib.indexByte l c ↔ c ∈ l
  | [], c => by simp [Lib.indexByte]
  | b :: l, c => by
    unfold Lib.indexByte
    have ih := index_mem l c
    have hg := Lib.indexByte_ge l c
    by_cases h : b = c
    · subst h; simp
    · rw [if_neg (by simpa using h)]
      have h2 : c ≠ b := fun e => h e.symm
      simp only [List.mem_cons, h2, false_or, ← ih, beq_iff_eq]
      split <;> omega
theorem dw_nil (p : UInt8 → Bool) : ∀ l : List UInt8, l.dropWhile p = [] ↔ ∀ b ∈ l, p b = true
  | [] => by simp
  | a :: l => by
    rw [List.dropWhile_cons]
    by_cases h : p a = true
    · rw [if_pos h, dw_nil p l]; simp [h]
    · rw [if_neg h]; simp [h]
theorem bsize (s : ByteArray) : s.size = s.data.toList.length := Array.length_toList.symm
theorem lsize (l : List UInt8) : (⟨l.toArray⟩ : ByteArray).size = l.length := List.size_toArray
theorem trim_nil (l cs : List UInt8) : Lib.trimS l cs = [] ↔ ∀ b ∈ l, b ∈ cs := by
  unfold Lib.trimS Lib.trimLeftS Lib.trimRightS
  rw [dw_nil]
  constructor
  · intro h
    cases hd : l.reverse.dropWhile (cs.contains ·) with
    | nil =>
      rw [dw_nil] at hd
      intro b hb
      have := hd b (List.mem_reverse.2 hb)
      simpa using this
    | cons x t =>
      have h1 := List.head?_dropWhile_not (cs.contains ·) l.reverse
      rw [hd] at h1 h
      have h2 := h x (by simp)
      simp only [List.head?_cons] at h1
      rw [h2] at h1
      simp at h1
  · intro h b hb
    have h1 : b ∈ l := by
      have := List.mem_reverse.1 hb
      exact List.mem_reverse.1 ((List.dropWhile_sublist _).subset this)
    simpa using h b h1
theorem u8_back (x : UInt8) : (((x.toNat : Nat) : Int)).toNat.toUInt8 = x := by
  rw [Int.toNat_natCast]; exact UInt8.ofNat_toNat
theorem vnamed_is (N : Nat) (s : ByteArray) : Says (m_value_named N s) (nameOk s.data.toList) := by
  have hs : s.size = s.data.toList.length := bsize s
  unfold m_value_named
  refine Says.id ?_
  unfold m_value_named_C1
  simp only [btl, hs, bget]
  generalize s.data.toList = l
  cases l with
  | nil => exact ⟨false, by rw [if_neg (by simp)], by simp [nameOk]⟩
  | cons c l =>
    rw [if_pos (by simp)]
    by_cases hl : (c :: l).length ≤ 24
    · rw [if_pos (by simpa using hl)]
      simp only [List.getElem?_cons_zero, bindO_pure, u8_back]
      by_cases hi : 0 ≤ Lib.indexByte [97, 98, 99, 100, 101, 102, 103, 104, 105, 106, 107, 108, 109, 110, 111, 112, 113, 114, 115, 116, 117, 118, 119, 120, 121, 122] c
      · rw [if_pos (by simpa using hi), gd_pos (by omega)]
        refine ⟨_, rfl, ?_⟩
        simp only [beq_iff_eq, trim_nil, mem_mor]
        rw [index_mem, mem_low] at hi
        unfold nameOk
        constructor
        · intro h; exact ⟨by simp, hl, fun b hb => by cases hb; exact hi, h⟩
        · intro h; exact h.2.2.2
      · rw [if_neg (by simpa using hi)]
        refine ⟨false, rfl, ?_⟩
        rw [index_mem, mem_low] at hi
        constructor
        · intro h; cases h
        · intro h; exact absurd (h.2.2.1 c rfl) hi
    · rw [if_neg (by simpa using hl)]
      exact ⟨false, rfl, by constructor; · intro h; cases h
                            · intro h; exact absurd h.2.1 hl⟩
theorem rnamed_is {N : Nat} {s : ByteArray} (hN : 9223372036854775808 ≤ N) (hsz : s.size ≤ 9223372036854775807) : Says (m_ropewalkref01_Named N s) (nameOk s.data.toList) := by
  have hs : s.size = s.data.toList.length := bsize s
  obtain ⟨o, h1, h2⟩ := iter_inv (f := m_ropewalkref01_Named_L1 N s) (fun i => i ≤ s.size ∧ (∀ b ∈ s.data.toList.take i, morB b) ∧ (0 < i → ∀ b, s.data.toList[0]? = some b → lowB b)) (fun i => s.size - i)
    (fun o => (o = .inl () ∧ (∀ b ∈ s.data.toList, morB b) ∧ (0 < s.size → ∀ b, s.data.toList[0]? = some b → lowB b)) ∨ (o = .inr false ∧ ¬ nameOk s.data.toList)) (fun i hi => by
      obtain ⟨hi, ha, hb⟩ := hi
      unfold m_ropewalkref01_Named_L1
      by_cases hlt : i < s.size
      · have hlt2 : i < s.data.toList.length := by omega
        have hx := List.getElem?_eq_getElem hlt2
        rw [if_pos (by simpa using hlt), bget, hx, bindO_pure]
        generalize hc : s.data.toList[i] = c at hx
        have hmem := List.mem_of_getElem? hx
        rw [show (if (decide (97 ≤ c.toNat)) = true then some (decide (c.toNat ≤ 122)) else some false) = some (decide (97 ≤ c.toNat ∧ c.toNat ≤ 122)) by
          by_cases q : 97 ≤ c.toNat
          · rw [if_pos (by simpa using q)]; simp [q]
          · rw [if_neg (by simpa using q)]; simp [q], bindO_pure]
        have hC : m_ropewalkref01_Named_C3 N (decide (97 ≤ c.toNat ∧ c.toNat ≤ 122)) i c = some (decide (¬ (97 ≤ c.toNat ∧ c.toNat ≤ 122) ∧ (i = 0 ∨ ¬ ((48 ≤ c.toNat ∧ c.toNat ≤ 57) ∨ c.toNat = 95)))) := by
          unfold m_ropewalkref01_Named_C3
          by_cases q : 97 ≤ c.toNat ∧ c.toNat ≤ 122
          · rw [if_neg (by simp [q])]; simp [q]
          · rw [if_pos (show (!decide (97 ≤ c.toNat ∧ c.toNat ≤ 122)) = true by rw [decide_eq_false q]; rfl)]
            by_cases q0 : i = 0
            · rw [if_pos (by simpa using q0)]; simp [q, q0]
            · rw [if_neg (by simpa using q0)]
              by_cases q1 : 48 ≤ c.toNat
              · rw [if_pos (by simpa using q1)]
                by_cases q2 : c.toNat ≤ 57
                · rw [if_pos (by simpa using q2)]; simp [q0, q1, q2]
                · rw [if_neg (by simpa using q2)]
                  congr 1
                  rw [Bool.eq_iff_iff]
                  simp only [Bool.not_eq_true', beq_eq_false_iff_ne, ne_eq, decide_eq_true_eq]
                  omega
              · rw [if_neg (by simpa using q1)]
                congr 1
                rw [Bool.eq_iff_iff]
                simp only [Bool.not_eq_true', beq_eq_false_iff_ne, ne_eq, decide_eq_true_eq]
                omega
        rw [hC, bindO_pure]
        by_cases hbad : ¬ (97 ≤ c.toNat ∧ c.toNat ≤ 122) ∧ (i = 0 ∨ ¬ ((48 ≤ c.toNat ∧ c.toNat ≤ 57) ∨ c.toNat = 95))
        · right
          refine ⟨_, by rw [if_pos (by rw [decide_eq_true_eq]; exact hbad)], .inr ⟨rfl, fun hn => ?_⟩⟩
          obtain ⟨_, _, n1, n2⟩ := hn
          rcases hbad.2 with h0 | h0
          · subst h0; exact hbad.1 (n1 c hx)
          · rcases n2 c hmem with q | q | q
            · exact hbad.1 q
            · exact h0 (.inl q)
            · exact h0 (.inr q)
        · left
          refine ⟨i + 1, by rw [if_neg (by rw [decide_eq_true_eq]; exact hbad), gd_pos (by omega)], ⟨by omega, fun b hb' => ?_, fun _ b hb' => ?_⟩, by omega⟩
          · rw [List.take_add_one, hx] at hb'
            rcases List.mem_append.1 hb' with hb' | hb'
            · exact ha b hb'
            · simp at hb'; subst hb'
              unfold morB lowB; omega
          · by_cases h0 : i = 0
            · subst h0
              rw [hx] at hb'; cases hb'
              unfold lowB; omega
            · exact hb (by omega) b hb'
      · right
        have e : i = s.size := by omega
        subst e
        rw [hs, List.take_length] at ha
        exact ⟨_, by rw [if_neg (by simp)], .inl ⟨rfl, ha, hb⟩⟩) N 0 ⟨by omega, by simp, by omega⟩ (by omega)
  unfold m_ropewalkref01_Named
  rw [h1]
  rcases h2 with ⟨rfl, h2, h3⟩ | ⟨rfl, h2⟩
  · rw [bindS_inl]
    by_cases q : 1 ≤ s.size
    · rw [if_pos (by simpa using q)]
      refine ⟨_, rfl, ?_⟩
      simp only [decide_eq_true_eq]
      unfold nameOk
      constructor
      · intro h; exact ⟨by omega, by omega, h3 (by omega), h2⟩
      · intro h; omega
    · rw [if_neg (by simpa using q)]
      refine ⟨false, rfl, ?_⟩
      constructor
      · intro h; cases h
      · intro h; have := h.1; omega
  · exact ⟨false, rfl, by constructor; · intro h; cases h
                          · intro h; exact absurd h h2⟩
theorem says_eq {m m' : Option Bool} {p : Prop} (h : Says m p) (h' : Says m' p) : m = m' := by
  obtain ⟨b, h1, h2⟩ := h
  obtain ⟨b', h3, h4⟩ := h'
  rw [h1, h3]
  congr 1
  rw [Bool.eq_iff_iff, h2, h4]
theorem right_same {N : Nat} {s : ByteArray} (a b : Int) (hN : 9223372036854775808 ≤ N) (hsz : s.size ≤ 9223372036854775807) : m_value_Right N a b s = m_ropewalkref01_Right N a b s := by
  unfold m_value_Right m_ropewalkref01_Right
  rw [says_eq (vnamed_is N s) (rnamed_is hN hsz)]
/-- Is a value right? -/
def rightP (v : V) : Prop := (v.k = 1 ∧ v.s.data.toList = []) ∨ (v.k = 2 ∧ v.n = 0 ∧ nameOk v.s.data.toList)
theorem right_is (N : Nat) (v : V) : Says (m_value_Right N v.k v.n v.s) (rightP v) := by
  unfold m_value_Right rightP
  by_cases h : v.k = 1
  · rw [if_pos (by simpa using h)]
    refine ⟨_, rfl, ?_⟩
    simp only [btl, beq_iff_eq]
    constructor
    · intro q; exact .inl ⟨h, q⟩
    · rintro (q | q)
      · exact q.2
      · omega
  · rw [if_neg (by simpa using h)]
    by_cases h2 : v.k = 2
    · rw [if_pos (by simpa using h2)]
      by_cases h3 : v.n = 0
      · rw [if_pos (by simpa using h3)]
        refine Says.iff (Says.id (vnamed_is N v.s)) ?_
        constructor
        · intro q; exact .inr ⟨h2, h3, q⟩
        · rintro (q | q)
          · omega
          · exact q.2.2
      · rw [if_neg (by simpa using h3)]
        refine ⟨false, rfl, ?_⟩
        constructor
        · intro q; cases q
        · rintro (q | q) <;> omega
    · rw [if_neg (by simpa using h2)]
      refine ⟨false, rfl, ?_⟩
      constructor
      · intro q; cases q
      · rintro (q | q) <;> omega
/-! Order. -/
theorem cb_is : ∀ (x y : List UInt8), Lib.compareBytes x y = if Op.bytesLess x y = true then -1 else if x = y then 0 else 1
  | [], [] => rfl
  | [], _ :: _ => rfl
  | _ :: _, [] => by simp [Lib.compareBytes, Op.bytesLess]
  | a :: x, b :: y => by
    unfold Lib.compareBytes Op.bytesLess
    rw [cb_is x y]
    by_cases h1 : a < b
    · simp [h1]
    · by_cases h2 : b < a
      · have h3 : ¬ a = b := fun e => by subst e; exact h1 h2
        simp [h1, h2, h3]
      · have h3 : a = b := UInt8.le_antisymm (UInt8.not_lt.1 h2) (UInt8.not_lt.1 h1)
        subst h3
        simp [h1]
def cmp3 (a b : Int) : Int := if a < b then -1 else if a > b then 1 else 0
theorem cmpK_is (N : Nat) (a b : Int) : m_cmp_Compare_ValueKind N a b = some (cmp3 a b) := by
  unfold m_cmp_Compare_ValueKind m_cmp_isNaN_ValueKind cmp3
  simp only [bindO_pure, bne_self_eq_false, Bool.false_eq_true, if_false, decide_eq_true_eq]
  split
  · rfl
  · split <;> rfl
theorem cmpN_is (N : Nat) (a b : Int) : m_cmp_Compare_int64 N a b = some (cmp3 a b) := by
  unfold m_cmp_Compare_int64 m_cmp_isNaN_int64 cmp3
  simp only [bindO_pure, bne_self_eq_false, Bool.false_eq_true, if_false, decide_eq_true_eq]
  split
  · rfl
  · split <;> rfl
theorem or3_is {N : Nat} (hN : 9223372036854775808 ≤ N) (a b c : Int) : m_cmp_Or_int N [a, b, c] = some (if a ≠ 0 then a else if b ≠ 0 then b else c) := by
  obtain ⟨o, h1, h2⟩ := iter_inv (f := m_cmp_Or_int_L1 N [a, b, c]) (fun i => i ≤ 3 ∧ (0 < i → a = 0) ∧ (1 < i → b = 0) ∧ (2 < i → c = 0)) (fun i => 3 - i)
    (fun o => (o = .inl () ∧ a = 0 ∧ b = 0 ∧ c = 0) ∨ (o = .inr (if a ≠ 0 then a else if b ≠ 0 then b else c))) (fun i hi => by
      obtain ⟨hi, q0, q1, q2⟩ := hi
      unfold m_cmp_Or_int_L1
      rcases (by omega : i = 0 ∨ i = 1 ∨ i = 2 ∨ i = 3) with rfl | rfl | rfl | rfl
      · rw [if_pos (by simp), show [a, b, c][0]? = some a from rfl, bindO_pure]
        by_cases h : a = 0
        · left; exact ⟨1, by rw [if_neg (by simpa using h), gd_pos (by omega)], by simp [h], by omega⟩
        · right; exact ⟨_, by rw [if_pos (by simpa using h)], .inr (by rw [if_pos h])⟩
      · have q0 := q0 (by omega)
        rw [if_pos (by simp), show [a, b, c][1]? = some b from rfl, bindO_pure]
        by_cases h : b = 0
        · left; exact ⟨2, by rw [if_neg (by simpa using h), gd_pos (by omega)], by simp [h, q0], by omega⟩
        · right; exact ⟨_, by rw [if_pos (by simpa using h)], .inr (by rw [if_neg (by simpa using q0), if_pos h])⟩
      · have q0 := q0 (by omega)
        have q1 := q1 (by omega)
        rw [if_pos (by simp), show [a, b, c][2]? = some c from rfl, bindO_pure]
        by_cases h : c = 0
        · left; exact ⟨3, by rw [if_neg (by simpa using h), gd_pos (by omega)], by simp [h, q0, q1], by omega⟩
        · right; exact ⟨_, by rw [if_pos (by simpa using h)], .inr (by rw [if_neg (by simpa using q0), if_neg (by simpa using q1)])⟩
      · right; exact ⟨_, by rw [if_neg (by simp)], .inl ⟨rfl, q0 (by omega), q1 (by omega), q2 (by omega)⟩⟩) N 0 ⟨by omega, by omega, by omega, by omega⟩ (by omega)
  unfold m_cmp_Or_int
  rw [h1]
  rcases h2 with ⟨rfl, q0, q1, q2⟩ | rfl
  · subst q0; subst q1; subst q2; rfl
  · rfl
def lessV (a b : V) : Prop := a.k < b.k ∨ (a.k = b.k ∧ (a.n < b.n ∨ (a.n = b.n ∧ Op.bytesLess a.s.data.toList b.s.data.toList = true)))
instance (a b : V) : Decidable (lessV a b) := inferInstanceAs (Decidable (_ ∨ _))
def ordV (a b : V) : Int := if lessV a b then -1 else if a = b then 0 else 1
theorem V_ext {a b : V} : a = b ↔ a.k = b.k ∧ a.n = b.n ∧ a.s = b.s := by
  cases a; cases b; simp
theorem cmp_core (a b : V) : (if cmp3 a.k b.k ≠ 0 then cmp3 a.k b.k else if cmp3 a.n b.n ≠ 0 then cmp3 a.n b.n else Lib.compareBytes a.s.data.toList b.s.data.toList) = ordV a b := by
  unfold ordV lessV
  rw [cb_is]
  have e : (a = b) ↔ (a.k = b.k ∧ a.n = b.n ∧ a.s.data.toList = b.s.data.toList) := by rw [V_ext, bext]
  unfold cmp3
  rcases Int.lt_trichotomy a.k b.k with h1 | h1 | h1
  · simp [h1]
  · rcases Int.lt_trichotomy a.n b.n with h2 | h2 | h2
    · simp [h1, h2]
    · by_cases h3 : Op.bytesLess a.s.data.toList b.s.data.toList = true
      · simp [h1, h2, h3]
      · by_cases h4 : a.s.data.toList = b.s.data.toList
        · have : a = b := e.2 ⟨h1, h2, h4⟩
          subst this
          simp [h3]
        · have : ¬ a = b := fun q => h4 (e.1 q).2.2
          simp [h1, h2, h3, h4, this]
    · have n1 : ¬ a.n < b.n := by omega
      have n2 : ¬ a.n = b.n := by omega
      have : ¬ a = b := fun q => n2 (e.1 q).2.1
      simp [h1, h2, n1, n2, this]
  · have n1 : ¬ a.k < b.k := by omega
    have n2 : ¬ a.k = b.k := by omega
    have : ¬ a = b := fun q => n2 (e.1 q).1
    simp [h1, n1, n2, this]
theorem vcompare_is {N : Nat} (hN : 9223372036854775808 ≤ N) (a b : V) (ra : Bool) (rb : Bool) (ha : m_value_Right N a.k a.n a.s = some ra) (hb : m_value_Right N b.k b.n b.s = some rb) :
    m_value_Compare N a.k a.n a.s b.k b.n b.s = some (if ra = true ∧ rb = true then ordV a b else 0) := by
  unfold m_value_Compare
  rw [ha, bindO_pure, hb, bindO_pure]
  cases ra
  · rfl
  · cases rb
    · rfl
    · rw [if_neg nott, bindO_pure, if_neg nott, cmpK_is, bindO_pure, cmpN_is, bindO_pure, or3_is hN, bindO_pure, cmp_core, if_pos ⟨rfl, rfl⟩]
theorem rcompare_is {N : Nat} (a b : V) (ra : Bool) (rb : Bool) (ha : m_ropewalkref01_Right N a.k a.n a.s = some ra) (hb : m_ropewalkref01_Right N b.k b.n b.s = some rb) :
    m_ropewalkref01_Compare N a.k a.n a.s b.k b.n b.s = some (if ra = true ∧ rb = true then ordV a b else 0) := by
  unfold m_ropewalkref01_Compare
  rw [ha, bindO_pure, hb, bindO_pure]
  cases ra
  · rfl
  · cases rb
    · rfl
    · rw [show (if true = true ∧ true = true then ordV a b else 0) = ordV a b from if_pos ⟨rfl, rfl⟩, if_neg nott, bindO_pure, if_neg nott]
      have hC : m_ropewalkref01_Compare_C2 N a.k b.k a.n b.n a.s b.s = some (decide (lessV a b)) := by
        unfold m_ropewalkref01_Compare_C2
        simp only [btl]
        by_cases h1 : a.k < b.k
        · rw [if_pos (by simpa using h1)]; simp [lessV, h1]
        · rw [if_neg (by simpa using h1)]
          by_cases h2 : a.k = b.k
          · rw [if_pos (by simpa using h2)]
            by_cases h3 : a.n < b.n
            · rw [if_pos (by simpa using h3)]; simp [lessV, h2, h3]
            · rw [if_neg (by simpa using h3)]
              by_cases h4 : a.n = b.n
              · rw [if_pos (by simpa using h4)]
                congr 1
                rw [Bool.eq_iff_iff]
                simp [lessV, h2, h4]
              · rw [if_neg (by simpa using h4)]; simp [lessV, h2, h3, h4]
          · rw [if_neg (by simpa using h2)]; simp [lessV, h1, h2]
      rw [hC, bindO_pure]
      unfold ordV
      by_cases h : lessV a b
      · rw [if_pos (by simpa using h), if_pos h]
      · rw [if_neg (by simpa using h), if_neg h]
        by_cases q : a = b
        · rw [if_pos (by rw [decide_eq_true_eq]; exact q), if_pos q]
        · rw [if_neg (by rw [decide_eq_true_eq]; exact q), if_neg q]
/-! Texts. -/
theorem digit_is (u : Nat) : strOfNums [IntKind.wrap .u8 (48 - Int.tmod (-(u : Int)) 10)] = ⟨#[UInt8.ofNat (48 + u % 10)]⟩ := by
  have e : 48 - Int.tmod (-(u : Int)) 10 = ((48 + u % 10 : Nat) : Int) := by
    rw [Int.neg_tmod, Int.tmod_eq_emod_of_nonneg (by omega)]; omega
  have e2 : IntKind.wrap .u8 ((48 + u % 10 : Nat) : Int) = ((48 + u % 10 : Nat) : Int) := IntWalk.u8_in _ (by omega)
  rw [e, e2]
  unfold strOfNums
  rw [List.map_cons, Int.toNat_natCast]; rfl
theorem decF_len : ∀ (f u : Nat), (decF f u).length ≤ f
  | 0, _ => by simp [decF]
  | f + 1, u => by
    unfold decF
    split
    · simp
    · simp; exact decF_len f _
theorem digits_is : ∀ (f N u : Nat), f < N → f ≤ 100 → u ≤ 9223372036854775808 → u < 10 ^ (f + 1) → m_ropewalkref01_digits N (-(u : Int)) = some ⟨(decF (f + 1) u).toArray⟩
  | f, 0, u, h, _, _, _ => by omega
  | f, N + 1, u, h, h100, h63, hu => by
    unfold m_ropewalkref01_digits
    have ht : Int.tmod (-(u : Int)) 10 = -((u % 10 : Nat) : Int) := by rw [Int.neg_tmod, Int.tmod_eq_emod_of_nonneg (by omega)]; omega
    rw [gd_pos (by rw [ht]; omega), digit_is]
    unfold decF
    by_cases h10 : u < 10
    · rw [if_pos (by simp; omega), if_pos h10, Nat.mod_eq_of_lt h10]
    · rw [if_neg (by simp; omega), if_neg h10]
      have e : IntKind.wrap .i64 (Int.tdiv (-(u : Int)) 10) = -((u / 10 : Nat) : Int) := by
        rw [Int.neg_tdiv, Int.tdiv_eq_ediv_of_nonneg (by omega), IntWalk.i64_in _ (by omega)]; omega
      rw [e]
      cases f with
      | zero => exact absurd (show u < 10 by simpa using hu) h10
      | succ f =>
        rw [digits_is f N (u / 10) (by omega) (by omega) (by omega) (by rw [Nat.pow_succ] at hu; omega), bindO_pure]
        have hl := decF_len (f + 1) (u / 10)
        rw [gd_pos (by have h1 := lsize (decF (f + 1) (u / 10)); have h2 : (⟨#[UInt8.ofNat (48 + u % 10)]⟩ : ByteArray).size = 1 := rfl; rw [h1, h2]; have hl := decF_len (f + 1) (u / 10); exact Nat.le_trans (Nat.add_le_add_right hl 1) (by omega))]
        congr 1
theorem text_num {n : Int} (h : in64 n) : (if n < 0 then 45 :: decF 20 n.natAbs else decF 20 n.toNat) = (itoaF n).data.toList := by
  unfold itoaF; simp
theorem text_same {N : Nat} {v : V} {b : Bool} (hN : 9223372036854775808 ≤ N) (hn : in64 v.n) (hsz : v.s.size ≤ 140737488351232) (hr : m_value_Right N v.k v.n v.s = some b) (hr2 : m_ropewalkref01_Right N v.k v.n v.s = some b) :
    ∃ t, m_value_Text N v.k v.n v.s = some t ∧ m_ropewalkref01_Text N v.k v.n v.s = some t ∧ t.data.toList = if b = true then (if v.k = 2 then 39 :: v.s.data.toList else (itoaF v.n).data.toList) else [] := by
  have hp : (10 : Nat) ^ 20 = 100000000000000000000 := by decide
  unfold m_value_Text m_ropewalkref01_Text
  rw [hr, hr2, bindO_pure, bindO_pure]
  cases b with
  | false => exact ⟨_, rfl, rfl, rfl⟩
  | true =>
    rw [if_neg nott, if_neg nott]
    by_cases h2 : v.k = 2
    · rw [if_pos (by simpa using h2), if_pos (by simpa using h2), gd_pos (by have : (⟨#[39]⟩ : ByteArray).size = 1 := rfl
                                                                             omega)]
      refine ⟨_, rfl, rfl, ?_⟩
      rw [if_pos rfl, if_pos h2]
      simp
    · rw [if_neg (by simpa using h2), if_neg (by simpa using h2), gd_pos (show -9223372036854775808 ≤ v.n ∧ v.n ≤ 9223372036854775807 from hn)]
      refine ⟨_, rfl, ?_, by rw [if_pos rfl, if_neg h2]⟩
      unfold in64 at hn
      by_cases h0 : v.n < 0
      · have e : v.n = -((v.n.natAbs : Nat) : Int) := by omega
        rw [if_pos (by simpa using h0)]
        have hd := digits_is 19 N v.n.natAbs (by omega) (by omega) (by omega) (by rw [hp]; omega)
        rw [← e] at hd
        have hl := decF_len (19 + 1) v.n.natAbs
        rw [hd, bindO_pure, gd_pos (by have h1 := lsize (decF (19 + 1) v.n.natAbs); have h2 : (⟨#[45]⟩ : ByteArray).size = 1 := rfl; rw [h1, h2]; exact Nat.le_trans (Nat.add_le_add_left hl 1) (by decide))]
        congr 1
        rw [bext]
        unfold itoaF
        simp [h0]
      · have e : 0 - v.n = -((v.n.toNat : Nat) : Int) := by omega
        rw [if_neg (by simpa using h0), gd_pos (by omega), e]
        have hd := digits_is 19 N v.n.toNat (by omega) (by omega) (by omega) (by rw [hp]; omega)
        rw [hd, bindO_pure]
        congr 1
        rw [bext]
        unfold itoaF
        simp [h0]
end Go.Proofs.YtkddfgjefdlaeaaDoor
