/- The plain law behind ValueTexts. -/
import Derived.Test.YtkddfgjefdlaeaaDoorValTellsP
namespace Go.Proofs.YtkddfgjefdlaeaaDoor
open Go Go.RowKit
theorem bl_total : ∀ (x y : List UInt8), Op.bytesLess x y = false → x ≠ y → Op.bytesLess y x = true
  | [], [], _, h => absurd rfl h
  | [], _ :: _, h, _ => by simp [Op.bytesLess] at h
  | _ :: _, [], _, _ => rfl
  | a :: x, b :: y, h, hne => by
    unfold Op.bytesLess at h ⊢
    simp only [Bool.or_eq_false_iff, decide_eq_false_iff_not, Bool.and_eq_false_iff, beq_eq_false_iff_ne] at h
    obtain ⟨h1, h2⟩ := h
    by_cases e : a = b
    · subst e
      have h3 : Op.bytesLess x y = false := by rcases h2 with h2 | h2; · exact absurd rfl h2
                                               · exact h2
      have := bl_total x y h3 (fun e => hne (by rw [e]))
      simp [this]
    · have : b < a := by
        rcases UInt8.lt_or_eq_of_le (UInt8.not_lt.1 h1) with q | q
        · exact q
        · exact absurd q.symm e
      simp [this]
theorem bl_irrefl : ∀ (x : List UInt8), Op.bytesLess x x = false
  | [] => rfl
  | a :: x => by
    unfold Op.bytesLess
    rw [bl_irrefl x]
    simp
theorem bl_trans : ∀ (x y z : List UInt8), Op.bytesLess x y = true → Op.bytesLess y z = true → Op.bytesLess x z = true
  | _, [], _, h, _ => by cases ‹List UInt8› <;> simp [Op.bytesLess] at h
  | _, _ :: _, [], _, h => by simp [Op.bytesLess] at h
  | [], _ :: _, _ :: _, _, _ => rfl
  | a :: x, b :: y, c :: z, h1, h2 => by
    unfold Op.bytesLess at h1 h2 ⊢
    simp only [Bool.or_eq_true, decide_eq_true_eq, Bool.and_eq_true, beq_iff_eq] at h1 h2 ⊢
    rcases h1 with h1 | ⟨rfl, h1⟩
    · rcases h2 with h2 | ⟨rfl, h2⟩
      · exact .inl (UInt8.lt_trans h1 h2)
      · exact .inl h1
    · rcases h2 with h2 | ⟨rfl, h2⟩
      · exact .inl h2
      · exact .inr ⟨rfl, bl_trans x y z h1 h2⟩
theorem less_irrefl (a : V) : ¬ lessV a a := by
  unfold lessV
  rw [bl_irrefl]
  simp
theorem less_trans {a b c : V} (h1 : lessV a b) (h2 : lessV b c) : lessV a c := by
  unfold lessV at *
  rcases h1 with h1 | ⟨e1, h1⟩
  · rcases h2 with h2 | ⟨e2, h2⟩
    · exact .inl (by omega)
    · exact .inl (by omega)
  · rcases h2 with h2 | ⟨e2, h2⟩
    · exact .inl (by omega)
    · refine .inr ⟨by omega, ?_⟩
      rcases h1 with h1 | ⟨f1, h1⟩
      · rcases h2 with h2 | ⟨f2, h2⟩
        · exact .inl (by omega)
        · exact .inl (by omega)
      · rcases h2 with h2 | ⟨f2, h2⟩
        · exact .inl (by omega)
        · exact .inr ⟨by omega, bl_trans _ _ _ h1 h2⟩
theorem less_total {a b : V} (h : ¬ lessV a b) (hne : a ≠ b) : lessV b a := by
  have e : ¬ (a.k = b.k ∧ a.n = b.n ∧ a.s.data.toList = b.s.data.toList) := fun q => hne (V_ext.2 ⟨q.1, q.2.1, bext.2 q.2.2⟩)
  unfold lessV at *
  by_cases h1 : b.k < a.k
  · exact .inl h1
  · have h2 : a.k = b.k := by omega
    refine .inr ⟨h2.symm, ?_⟩
    by_cases h3 : b.n < a.n
    · exact .inl h3
    · have h4 : a.n = b.n := by omega
      refine .inr ⟨h4.symm, bl_total _ _ ?_ (fun q => e ⟨h2, h4, q⟩)⟩
      cases hb : Op.bytesLess a.s.data.toList b.s.data.toList with
      | false => rfl
      | true => exact absurd (.inr ⟨h2, .inr ⟨h4, hb⟩⟩) h
theorem ord_zero (a b : V) : ordV a b = 0 ↔ a = b := by
  unfold ordV
  by_cases h : lessV a b
  · rw [if_pos h]
    constructor
    · intro q; omega
    · intro q; subst q; exact absurd h (less_irrefl _)
  · rw [if_neg h]
    by_cases q : a = b
    · rw [if_pos q]; simp [q]
    · rw [if_neg q]; simp [q]
theorem ord_neg (a b : V) : ordV a b = 0 - ordV b a := by
  unfold ordV
  by_cases h : lessV a b
  · have h2 : ¬ lessV b a := fun q => less_irrefl _ (less_trans h q)
    have h3 : ¬ b = a := fun q => by subst q; exact less_irrefl _ h
    rw [if_pos h, if_neg h2, if_neg h3]; rfl
  · by_cases q : a = b
    · subst q; rw [if_neg h, if_pos rfl]; rfl
    · have h2 := less_total h q
      rw [if_neg h, if_neg q, if_pos h2]; rfl
theorem ord_le {a b : V} : ordV a b ≤ 0 ↔ (lessV a b ∨ a = b) := by
  unfold ordV
  by_cases h : lessV a b
  · rw [if_pos h]; simp [h]
  · rw [if_neg h]
    by_cases q : a = b
    · rw [if_pos q]; simp [q]
    · rw [if_neg q]; simp [h, q]
theorem ord_trans {a b c : V} (h1 : ordV a b ≤ 0) (h2 : ordV b c ≤ 0) : ordV a c ≤ 0 := by
  rw [ord_le] at *
  rcases h1 with h1 | rfl
  · rcases h2 with h2 | rfl
    · exact .inl (less_trans h1 h2)
    · exact .inl h1
  · exact h2
/-! Digits tell their number. -/
def valD (l : List UInt8) : Nat := l.foldl (fun a b => a * 10 + (b.toNat - 48)) 0
theorem dig_val (u : Nat) (h : u < 10) : (UInt8.ofNat (48 + u)).toNat = 48 + u := by
  rw [UInt8.toNat_ofNat']; omega
theorem dec_val : ∀ (f u : Nat), u < 10 ^ (f + 1) → valD (decF (f + 1) u) = u
  | f, u, hu => by
    unfold decF
    by_cases h : u < 10
    · rw [if_pos h]
      simp only [valD, List.foldl_cons, List.foldl_nil, dig_val u h]; omega
    · rw [if_neg h]
      cases f with
      | zero => simp at hu; omega
      | succ f =>
        have ih := dec_val f (u / 10) (by rw [Nat.pow_succ] at hu; omega)
        unfold valD at ih ⊢
        rw [List.foldl_append, ih]
        simp only [List.foldl_cons, List.foldl_nil, dig_val _ (Nat.mod_lt u (by omega : 0 < 10))]
        omega
theorem dec_all : ∀ (f u : Nat), ∀ b ∈ decF f u, 48 ≤ b.toNat ∧ b.toNat ≤ 57
  | 0, _, b, h => by simp [decF] at h
  | f + 1, u, b, h => by
    unfold decF at h
    split at h
    · rename_i hu
      rw [List.mem_singleton] at h; subst h
      have := dig_val u hu; rw [this]; omega
    · rcases List.mem_append.1 h with h | h
      · exact dec_all f _ b h
      · rw [List.mem_singleton] at h; subst h
        have := dig_val (u % 10) (Nat.mod_lt u (by omega)); rw [this]; omega
theorem dec_ne (f u : Nat) : decF (f + 1) u ≠ [] := by
  unfold decF
  split <;> simp
theorem itoa_inj {n m : Int} (hn : in64 n) (hm : in64 m) (h : (itoaF n).data.toList = (itoaF m).data.toList) : n = m := by
  have hp : (10 : Nat) ^ 20 = 100000000000000000000 := by decide
  rw [← text_num hn, ← text_num hm] at h
  unfold in64 at hn hm
  by_cases h1 : n < 0 <;> by_cases h2 : m < 0
  · rw [if_pos h1, if_pos h2] at h
    have h3 := congrArg valD (List.cons.inj h).2
    rw [dec_val 19 _ (by rw [hp]; omega), dec_val 19 _ (by rw [hp]; omega)] at h3
    omega
  · rw [if_pos h1, if_neg h2] at h
    have := dec_all 20 m.toNat 45 (by rw [← h]; simp)
    exact absurd this.1 (by decide)
  · rw [if_neg h1, if_pos h2] at h
    have := dec_all 20 n.toNat 45 (by rw [h]; simp)
    exact absurd this.1 (by decide)
  · rw [if_neg h1, if_neg h2] at h
    have h3 := congrArg valD h
    rw [dec_val 19 _ (by rw [hp]; omega), dec_val 19 _ (by rw [hp]; omega)] at h3
    omega
theorem itoa_byte {n : Int} (hn : in64 n) : ∀ b ∈ (itoaF n).data.toList, b ≠ 39 := by
  rw [← text_num hn]
  intro b hb
  split at hb
  · rcases List.mem_cons.1 hb with rfl | hb
    · decide
    · have := dec_all _ _ b hb
      intro e; subst e; exact absurd this.1 (by decide)
  · have := dec_all _ _ b hb
    intro e; subst e; exact absurd this.1 (by decide)
theorem itoa_ne {n : Int} (hn : in64 n) : (itoaF n).data.toList ≠ [] := by
  rw [← text_num hn]
  split
  · simp
  · exact dec_ne 19 _
def textL (v : V) : List UInt8 := if v.k = 2 then 39 :: v.s.data.toList else (itoaF v.n).data.toList
theorem text_inj {a b : V} (ha : in64 a.n) (hb : in64 b.n) (ra : rightP a) (rb : rightP b) : textL a = textL b ↔ a = b := by
  constructor
  · intro h
    unfold textL at h
    rcases ra with ⟨k1, s1⟩ | ⟨k1, n1, _⟩ <;> rcases rb with ⟨k2, s2⟩ | ⟨k2, n2, _⟩
    · rw [if_neg (by omega), if_neg (by omega)] at h
      exact V_ext.2 ⟨by omega, itoa_inj ha hb h, bext.2 (by rw [s1, s2])⟩
    · rw [if_neg (by omega), if_pos k2] at h
      exact absurd rfl (itoa_byte ha 39 (by rw [h]; simp))
    · rw [if_pos k1, if_neg (by omega)] at h
      exact absurd rfl (itoa_byte hb 39 (by rw [← h]; simp))
    · rw [if_pos k1, if_pos k2] at h
      exact V_ext.2 ⟨by omega, by omega, bext.2 (List.cons.inj h).2⟩
  · intro h; rw [h]
theorem valtexts_law (a b c : V) (ha : in64 a.n) (hsa : a.s.size ≤ 140737488351232) (hb : in64 b.n) (hsb : b.s.size ≤ 140737488351232) : m_ropewalklaw01_ValueTexts 9223372036854775808 a.k a.n a.s b.k b.n b.s c.k c.n c.s = some true := by
  have hN : 9223372036854775808 ≤ 9223372036854775808 := Nat.le_refl _
  unfold m_ropewalklaw01_ValueTexts
  rw [val_awake, bindO_pure, if_neg nott]
  obtain ⟨ra, hra, pa⟩ := right_is 9223372036854775808 a
  obtain ⟨rb, hrb, pb⟩ := right_is 9223372036854775808 b
  obtain ⟨rc, hrc, pc⟩ := right_is 9223372036854775808 c
  have hC1 : ∃ j, m_ropewalklaw01_ValueTexts_C1 9223372036854775808 a.k a.n a.s b.k b.n b.s c.k c.n c.s = some j ∧ (j = false → ra = true ∧ rb = true ∧ rc = true) := by
    unfold m_ropewalklaw01_ValueTexts_C1
    obtain ⟨q, hq⟩ := light_tot (N := 9223372036854775808) (l := [⟨a.k, a.n, a.s⟩, ⟨b.k, b.n, b.s⟩, ⟨c.k, c.n, c.s⟩]) hN (by simp)
    rw [hq, bindO_pure, hra, hrb, hrc]
    simp only [bindO_pure]
    cases q <;> cases ra <;> cases rb <;> cases rc <;> exact ⟨_, rfl, by decide⟩
  obtain ⟨j, hj, hj2⟩ := hC1
  rw [hj, bindO_pure]
  cases j with
  | true => rw [if_pos rfl]
  | false =>
    obtain ⟨e1, e2, e3⟩ := hj2 rfl
    subst e1; subst e2; subst e3
    have pa := pa.1 rfl
    have pb := pb.1 rfl
    have hra2 := (right_same a.k a.n hN (s := a.s) (by omega)).symm.trans hra
    have hrb2 := (right_same b.k b.n hN (s := b.s) (by omega)).symm.trans hrb
    obtain ⟨t, ht1, _, ht3⟩ := text_same hN ha hsa hra hra2
    obtain ⟨u, hu1, _, hu3⟩ := text_same hN hb hsb hrb hrb2
    rw [if_pos rfl] at ht3 hu3
    rw [if_neg notf, vcompare_is hN a b _ _ hra hrb, bindO_pure, vcompare_is hN b c _ _ hrb hrc, bindO_pure, vcompare_is hN a c _ _ hra hrc, bindO_pure]
    simp only [and_self, if_true]
    have hC2 : m_ropewalklaw01_ValueTexts_C2 9223372036854775808 b.k b.n b.s a.k a.n a.s (ordV a b) (ordV b c) (ordV a c) = some false := by
      unfold m_ropewalklaw01_ValueTexts_C2
      rw [vcompare_is hN b a _ _ hrb hra, bindO_pure]
      simp only [and_self, if_true]
      have hr : -1 ≤ ordV b a ∧ ordV b a ≤ 1 := by unfold ordV; split; · omega
                                                   · split <;> omega
      rw [gd_pos (by omega), if_neg (by simp [← ord_neg a b])]
      by_cases h1 : ordV a b ≤ 0
      · rw [if_pos (by simpa using h1)]
        by_cases h2 : ordV b c ≤ 0
        · rw [if_pos (by simpa using h2)]
          have := ord_trans h1 h2
          congr 1
          simp; omega
        · rw [if_neg (by simpa using h2)]
      · rw [if_neg (by simpa using h1)]
    rw [hC2, bindO_pure, if_neg notf, ht1, bindO_pure, hu1, bindO_pure]
    have hti : (t.toList == u.toList) = decide (a = b) := by
      rw [Bool.eq_iff_iff]
      simp only [btl, beq_iff_eq, decide_eq_true_eq]
      rw [ht3, hu3]
      exact text_inj ha hb pa pb
    rw [if_pos (beq_iff_eq.2 hti)]
    have hor : (ordV a b == 0) = decide (a = b) := by
      rw [Bool.eq_iff_iff]
      simp only [beq_iff_eq, decide_eq_true_eq]
      exact ord_zero a b
    rw [if_pos (beq_iff_eq.2 hor)]
    have hne : t.data.toList ≠ [] := by
      rw [ht3]
      split
      · simp
      · exact itoa_ne ha
    rw [bindO_pure]
    congr 1
    simp only [btl]
    cases h : t.data.toList with
    | nil => exact absurd h hne
    | cons x l => rfl
theorem valtexts_arg (a : V) (ha : ok_V a) (b : V) (hb : ok_V b) (c : V) (hc : ok_V c) : m_ropewalklaw01_ValueTexts 9223372036854775808 a.k a.n a.s b.k b.n b.s c.k c.n c.s = some true :=
  valtexts_law a b c ha.2.1 ha.2.2 hb.2.1 hb.2.2
end Go.Proofs.YtkddfgjefdlaeaaDoor
