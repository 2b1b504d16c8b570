import Derived.Test.YtkakbckmajdggaaGreatXM
import Derived.Test.YtkakbckmajdggaaGreatPlain
namespace Go.Proofs.YtkakbckmajdggaaGreat
open Go Go.RowKit
theorem concat_two {N : Nat} (hN : 3 ≤ N) (a b : List Int) (h : a.length + b.length ≤ 281474976710656) : m_slices_Concat_byte N [a, b] = some (a ++ b) := by
  obtain ⟨n, rfl⟩ : ∃ n, N = n + 3 := ⟨N - 3, by omega⟩
  have l1 : iter (m_slices_Concat_byte_L1 (n + 3) [a, b]) (n + 3) (0, 0) = some (a.length + b.length) := by
    rw [iter_step (s' := (1, a.length)) (by
      unfold m_slices_Concat_byte_L1
      have h1 : a.length ≤ 9223372036854775807 := by omega
      simp [bindO, gd, h1])]
    rw [iter_step (s' := (2, a.length + b.length)) (by
      unfold m_slices_Concat_byte_L1
      have h1 : a.length + b.length ≤ 9223372036854775807 := by omega
      simp [bindO, gd, h1])]
    rw [iter_stop (o := a.length + b.length) (by unfold m_slices_Concat_byte_L1; simp)]
  have l2 : iter (m_slices_Concat_byte_L2 (n + 3) [a, b] (a.length + b.length)) (n + 3) (0, []) = some (a ++ b) := by
    rw [iter_step (s' := (1, a)) (by unfold m_slices_Concat_byte_L2; simp [bindO, gd])]
    rw [iter_step (s' := (2, a ++ b)) (by unfold m_slices_Concat_byte_L2; simp [bindO, gd])]
    rw [iter_stop (o := a ++ b) (by unfold m_slices_Concat_byte_L2; simp)]
  have l3 : m_slices_Grow_byte (n + 3) ((a.length + b.length : Nat) : Int) = some [] := by
    unfold m_slices_Grow_byte
    have h0 : decide (((a.length + b.length : Nat) : Int) < 0) = false := by simp; omega
    rw [h0]
    simp only [Bool.false_eq_true, if_false]
    rw [gd_pos (by omega)]
    by_cases hz : decide (((a.length + b.length : Nat) : Int) - 0 > 0) = true
    · rw [if_pos hz]
      have hz' : 0 < a.length + b.length := by simp at hz; omega
      rw [gd_pos (by omega), gd_pos (by omega), gd_pos (by omega), gd_pos (by simp)]
    · rw [if_neg hz]
  unfold m_slices_Concat_byte
  rw [l1]
  simp only [bindO_pure]
  rw [l3]
  simp only [bindO_pure]
  rw [l2]
  rfl
theorem btl (s : ByteArray) : s.toList = s.data.toList := ByteArray.toList_eq s
def okByte (b : UInt8) : Bool := (decide (97 ≤ b.toNat) && decide (b.toNat ≤ 122)) || (decide (48 ≤ b.toNat) && decide (b.toNat ≤ 57)) || b.toNat == 46 || b.toNat == 45
def okInt (a : Int) : Bool := (decide (97 ≤ a) && decide (a ≤ 122)) || (decide (48 ≤ a) && decide (a ≤ 57)) || a == 46 || a == 45
theorem strange_eq (N : Nat) (a : Int) : m_disk_fit_1 N a = some (!okInt a) := by
  have h : m_disk_fit_1_C1 N a = some (!okInt a) := by
    unfold m_disk_fit_1_C1
    repeat' split
    all_goals
      rw [Option.some.injEq, Bool.eq_iff_iff]
      simp only [okInt, bne_iff_ne, ne_eq, decide_eq_true_eq, Bool.not_eq_true', Bool.or_eq_false_iff, Bool.and_eq_false_iff, decide_eq_false_iff_not, beq_eq_false_iff_ne, Bool.false_eq_true, false_iff] at *
      omega
  unfold m_disk_fit_1
  rw [h]; rfl
def fitB (t : ByteArray) : Bool := decide (0 < t.size) && decide (t.size ≤ 30) && t.data.toList.all okByte
theorem decode_small {t : ByteArray} {i : Nat} {b : UInt8} (hb : t.data.toList[i]? = some b) (h : b.toNat < 128) : Utf8.decode t i = (b.toNat, 1) := by
  have hg : t.get! (i + 0) = b := by
    have h1 : t.data[i]? = some b := by simpa using hb
    obtain ⟨hi, he⟩ := Array.getElem?_eq_some_iff.1 h1
    show t.data[i + 0]! = b
    rw [Nat.add_zero, getElem!_pos t.data i hi]; exact he
  unfold Utf8.decode
  simp only [hg]
  rw [if_pos (by simpa using h)]
theorem decode_great {t : ByteArray} {i : Nat} {b : UInt8} (hb : t.data.toList[i]? = some b) (h : 128 ≤ b.toNat) : 128 ≤ (Utf8.decode t i).1 := by
  have hg : t.get! (i + 0) = b := by
    have h1 : t.data[i]? = some b := by simpa using hb
    obtain ⟨hi, he⟩ := Array.getElem?_eq_some_iff.1 h1
    show t.data[i + 0]! = b
    rw [Nat.add_zero, getElem!_pos t.data i hi]; exact he
  unfold Utf8.decode
  simp only [hg, Utf8.runeError]
  repeat' split
  all_goals (simp at *; try omega)
theorem okByte_int (b : UInt8) : okInt ((b.toNat : Nat) : Int) = okByte b := by
  unfold okInt okByte
  rw [Bool.eq_iff_iff]
  simp only [Bool.or_eq_true, Bool.and_eq_true, decide_eq_true_eq, beq_iff_eq]
  omega
theorem okInt_great {a : Int} (h : 128 ≤ a) : okInt a = false := by
  rw [Bool.eq_false_iff]
  simp only [okInt, ne_eq, Bool.or_eq_true, Bool.and_eq_true, decide_eq_true_eq, beq_iff_eq]
  omega
theorem okByte_small {b : UInt8} (h : okByte b = true) : b.toNat < 128 := by
  simp only [okByte, Bool.or_eq_true, Bool.and_eq_true, decide_eq_true_eq, beq_iff_eq] at h
  omega
theorem idx_step {N : Nat} {t : ByteArray} {i : Nat} {b : UInt8} (hb : t.data.toList[i]? = some b) :
    m_strings_indexFunc_L1 N t true i = some (if okByte b = true then .inl (i + 1) else .inr (.inr (i : Int))) := by
  have hi : i < t.size := by have := (List.getElem?_eq_some_iff.1 hb).1; simpa using this
  unfold m_strings_indexFunc_L1
  rw [if_pos (by simpa using hi), strange_eq]
  simp only [bindO_pure]
  by_cases hs : b.toNat < 128
  · rw [decode_small hb hs]
    simp only [okByte_int]
    cases okByte b <;> rfl
  · have h1 := decode_great hb (by omega)
    rw [okInt_great (by omega)]
    have : okByte b = false := by
      cases h2 : okByte b with
      | false => rfl
      | true => exact absurd (okByte_small h2) hs
    rw [this]; rfl
theorem idx_go (N : Nat) (t : ByteArray) : ∀ (n i : Nat), t.size - i < n → i ≤ t.size →
    ((t.data.toList.drop i).all okByte = true → iter (m_strings_indexFunc_L1 N t true) n i = some (.inl ())) ∧
    ((t.data.toList.drop i).all okByte = false → ∃ k : Nat, iter (m_strings_indexFunc_L1 N t true) n i = some (.inr (k : Int)))
  | 0, _, h, _ => by omega
  | n + 1, i, h, hi => by
    have hlen : t.data.toList.length = t.size := by rw [Array.length_toList]; rfl
    rcases Nat.lt_or_ge i t.size with hlt | hge
    · have hb : t.data.toList[i]? = some t.data.toList[i] := List.getElem?_eq_getElem (by rw [hlen]; exact hlt)
      have hd : t.data.toList.drop i = t.data.toList[i] :: t.data.toList.drop (i + 1) := List.drop_eq_getElem_cons (by rw [hlen]; exact hlt)
      have hst := idx_step (N := N) hb
      obtain ⟨q1, q2⟩ := idx_go N t n (i + 1) (by omega) (by omega)
      rw [hd, List.all_cons]
      cases hok : okByte t.data.toList[i] with
      | true =>
        rw [hok] at hst
        rw [iter_step (by rw [hst]; rfl)]
        exact ⟨fun h => q1 (by simpa using h), fun h => q2 (by simpa using h)⟩
      | false =>
        rw [hok] at hst
        refine ⟨fun h => by simp at h, fun _ => ⟨i, iter_stop (by rw [hst]; rfl)⟩⟩
    · have hd : t.data.toList.drop i = [] := List.drop_eq_nil_of_le (by rw [hlen]; exact hge)
      rw [hd]
      refine ⟨fun _ => iter_stop ?_, fun h => by simp at h⟩
      unfold m_strings_indexFunc_L1
      rw [if_neg (by simpa using hge)]
theorem contains_eq {N : Nat} {t : ByteArray} (hN : t.size < N) : m_strings_ContainsFunc N t = some (!t.data.toList.all okByte) := by
  obtain ⟨q1, q2⟩ := idx_go N t N 0 (by omega) (Nat.zero_le _)
  rw [List.drop_zero] at q1 q2
  unfold m_strings_ContainsFunc m_strings_IndexFunc m_strings_indexFunc
  cases h : t.data.toList.all okByte with
  | true => rw [q1 h]; rfl
  | false =>
    obtain ⟨k, hk⟩ := q2 h
    rw [hk]
    simp [bindS, bindO]
theorem fit_C2_eq {N : Nat} {t : ByteArray} (hN : 40 ≤ N) : m_disk_fit_C2 N t = some (!fitB t) := by
  unfold m_disk_fit_C2 fitB
  by_cases h0 : t.size = 0
  · have : t = ByteArray.empty := by
      cases t with
      | mk d => 
        have : d = #[] := Array.eq_empty_of_size_eq_zero h0
        subst this; rfl
    subst this
    rw [if_pos (by rw [btl, btl]; rfl)]
    rfl
  · have h1 : ¬ (t.toList == (⟨#[]⟩ : ByteArray).toList) = true := by
      rw [btl, btl, beq_iff_eq]
      intro e
      have h2 := congrArg List.length e
      rw [Array.length_toList] at h2
      exact h0 h2
    rw [if_neg h1]
    by_cases h2 : 30 < t.size
    · rw [if_pos (by simpa using h2)]
      simp; omega
    · rw [if_neg (by simpa using h2), contains_eq (by omega)]
      have h3 : decide (0 < t.size) = true := by simp; omega
      have h4 : decide (t.size ≤ 30) = true := by simp; omega
      rw [h3, h4]; simp [bindO]
theorem fit_one {N : Nat} (hN : 40 ≤ N) (t : ByteArray) : m_disk_fit N [t] = some (fitB t) := by
  obtain ⟨n, rfl⟩ : ∃ n, N = n + 2 := ⟨N - 2, by omega⟩
  unfold m_disk_fit
  cases h : fitB t with
  | true =>
    rw [iter_step (s' := 1) (by unfold m_disk_fit_L1; simp [bindO, fit_C2_eq hN, h, gd]), iter_stop (o := .inl ()) (by unfold m_disk_fit_L1; simp)]
    rfl
  | false =>
    rw [iter_stop (o := .inr false) (by unfold m_disk_fit_L1; simp [bindO, fit_C2_eq hN, h])]
    rfl
def sizeR (x : Disk_rowsD) : Nat := x.firm.length + x.loose.length
def usedE (es : List (ByteArray × Disk_rowsD)) : Nat := (es.map fun x => sizeR x.2).sum
def keysE (es : List (ByteArray × Disk_rowsD)) : List ByteArray := List.map (fun x : ByteArray × Disk_rowsD => x.1) es
theorem used_go (N : Nat) (es : List (ByteArray × Disk_rowsD)) (f : ByteArray → Nat) : ∀ (ord : List ByteArray) (s : Nat), (∀ k ∈ ord, ∃ x, mlook k es = some x ∧ sizeR x = f k) → s + (ord.map f).sum ≤ 9223372036854775807 →
    ranL (m_disk_Disk_Used_L1 N es) ord s = some (s + (ord.map f).sum)
  | [], s, _, _ => by simp [ranL, bindS, m_disk_Disk_Used_L1, optE]
  | k :: ord, s, hk, hs => by
    obtain ⟨x, h1, h2⟩ := hk k (by simp)
    simp only [List.map_cons, List.sum_cons] at hs ⊢
    have h3 : x.firm.length + x.loose.length = f k := h2
    have hst : m_disk_Disk_Used_L1 N es (some k) s = some (.inl (s + f k)) := by
      unfold m_disk_Disk_Used_L1 m_disk_rows_size
      simp only [optE, h1, bindO_pure, h3]
      rw [gd_pos (by omega)]
      simp only [bindO_pure]
      rw [gd_pos (by omega)]
    show bindS (m_disk_Disk_Used_L1 N es (some k) s) _ = _
    rw [hst, bindS_inl, used_go N es f ord (s + f k) (fun k hk' => hk k (by simp [hk'])) (by omega)]
    congr 1; omega
theorem used_eq {N : Nat} {a : Int} {es : List (ByteArray × Disk_rowsD)} (hn : (keysE es).Nodup) (hs : usedE es ≤ 9223372036854775807) : m_disk_Disk_Used N a es = some (usedE es) := by
  have key : ∀ ord : List ByteArray, ord.Perm (keysE es) → ranL (m_disk_Disk_Used_L1 N es) ord 0 = some (usedE es) := by
    intro ord ho
    have hf : ∀ k ∈ ord, ∃ x, mlook k es = some x ∧ sizeR x = (match mlook k es with | some x => sizeR x | none => 0) := fun k hk => by
      obtain ⟨x, hx⟩ := mlook_isSome (ho.mem_iff.1 hk)
      exact ⟨x, hx, by rw [hx]⟩
    have hsum : (ord.map fun k => (match mlook k es with | some x => sizeR x | none => 0)).sum = usedE es := by
      rw [List.Perm.sum_nat (ho.map _)]
      unfold usedE keysE
      rw [List.map_map]
      congr 1
      refine List.map_congr_left fun x hx => ?_
      have : mlook x.1 es = some x.2 := (mlook_iff hn).2 hx
      simp [this]
    have := used_go N es _ ord 0 hf (by rw [hsum]; omega)
    rw [this, hsum]; simp
  have key2 : ranP (m_disk_Disk_Used_L1 N es) (List.map (fun x : ByteArray × Disk_rowsD => x.1) es) 0 = some (usedE es) := ranP_of key
  unfold m_disk_Disk_Used m_disk_Disk_is
  rw [bindO_pure, key2]
  rfl
theorem or_three {N : Nat} (hN : 4 ≤ N) (x y z : Int) : m_cmp_Or_Errno N [x, y, z] = some (if x ≠ 0 then x else if y ≠ 0 then y else z) := by
  obtain ⟨n, rfl⟩ : ∃ n, N = n + 4 := ⟨N - 4, by omega⟩
  unfold m_cmp_Or_Errno
  by_cases hx : x = 0
  · rw [iter_step (s' := 1) (by unfold m_cmp_Or_Errno_L1; simp [bindO, hx, gd])]
    by_cases hy : y = 0
    · rw [iter_step (s' := 2) (by unfold m_cmp_Or_Errno_L1; simp [bindO, hy, gd])]
      by_cases hz : z = 0
      · rw [iter_step (s' := 3) (by unfold m_cmp_Or_Errno_L1; simp [bindO, hz, gd]), iter_stop (o := .inl ()) (by unfold m_cmp_Or_Errno_L1; simp)]
        simp [bindS, hx, hy, hz]
      · rw [iter_stop (o := .inr z) (by unfold m_cmp_Or_Errno_L1; simp [bindO, hz])]
        simp [bindS, hx, hy]
    · rw [iter_stop (o := .inr y) (by unfold m_cmp_Or_Errno_L1; simp [bindO, hy])]
      simp [bindS, hx, hy]
  · rw [iter_stop (o := .inr x) (by unfold m_cmp_Or_Errno_L1; simp [bindO, hx])]
    simp [bindS, hx]
def rowE (es : List (ByteArray × Disk_rowsD)) (t : ByteArray) : Disk_rowsD := (mlook t es).getD ⟨[], []⟩
def appC (a : Int) (es : List (ByteArray × Disk_rowsD)) (t : ByteArray) (l : List Int) : Int :=
  if fitB t = false then 2 else if 4194304 < (rowE es t).firm.length + ((rowE es t).loose ++ l).length then 3 else if ((usedE es + l.length : Nat) : Int) > a then 5 else 0
def appE (a : Int) (es : List (ByteArray × Disk_rowsD)) (t : ByteArray) (l : List Int) : List (ByteArray × Disk_rowsD) :=
  if appC a es t l = 0 then mputP ltB t ⟨(rowE es t).firm, (rowE es t).loose ++ l⟩ es else es
theorem when_eq (N : Nat) (b : Bool) (x : Int) : m_disk_when N b x = some (if b = true then x else 0) := by unfold m_disk_when; cases b <;> rfl
theorem append_eq {N : Nat} (hN : 40 ≤ N) {a : Int} {es : List (ByteArray × Disk_rowsD)} {t : ByteArray} {l : List Int} (hn : (keysE es).Nodup) (hs : usedE es + l.length ≤ 9223372036854775807) (hl : (rowE es t).firm.length + (rowE es t).loose.length + l.length ≤ 281474976710656) :
    m_disk_Disk_Append N a es t l = some (appC a es t l, appE a es t l) := by
  have h0 : (optE (mlook t es) (some ([], [])) (fun x20 => some (x20.firm, x20.loose)) : Option (List Int × List Int)) = some ((rowE es t).firm, (rowE es t).loose) := by
    unfold rowE
    cases mlook t es <;> rfl
  unfold m_disk_Disk_Append m_disk_Disk_is
  rw [bindO_pure, h0]
  simp only [bindO_pure]
  rw [concat_two (by omega) _ _ (by omega)]
  simp only [bindO_pure]
  rw [fit_one hN]
  simp only [bindO_pure]
  rw [when_eq]
  simp only [bindO_pure, m_disk_rows_size]
  rw [gd_pos (by simp; omega)]
  simp only [bindO_pure]
  rw [when_eq]
  simp only [bindO_pure]
  rw [used_eq hn (by omega)]
  simp only [bindO_pure]
  rw [gd_pos (by omega), when_eq]
  simp only [bindO_pure]
  rw [or_three (by omega)]
  simp only [bindO_pure]
  have hc : (if (if (!fitB t) = true then (2 : Int) else 0) ≠ 0 then (if (!fitB t) = true then (2 : Int) else 0) else if (if decide (4194304 < (rowE es t).firm.length + ((rowE es t).loose ++ l).length) = true then (3 : Int) else 0) ≠ 0 then (if decide (4194304 < (rowE es t).firm.length + ((rowE es t).loose ++ l).length) = true then (3 : Int) else 0) else (if decide (((usedE es + l.length : Nat) : Int) > a) = true then (5 : Int) else 0)) = appC a es t l := by
    unfold appC
    cases h1 : fitB t
    · simp
    · generalize (rowE es t).firm.length + ((rowE es t).loose ++ l).length = q
      by_cases h2 : 4194304 < q
      · simp [h2]
      · simp [h2]
  rw [hc]
  unfold appE
  by_cases h3 : appC a es t l = 0
  · rw [if_pos (by simpa using h3), if_pos h3]; rfl
  · rw [if_neg (by simpa using h3), if_neg h3]; rfl
theorem turn_row {es : List (ByteArray × Disk_rowsD)} {t : ByteArray} : (optE (mlook t es) (some ([], [], false)) (fun x23 => some (x23.firm, x23.loose, true)) : Option (List Int × List Int × Bool)) = some ((rowE es t).firm, (rowE es t).loose, (mlook t es).isSome) := by
  unfold rowE
  cases mlook t es <;> rfl
def sizeE (es : List (ByteArray × Disk_rowsD)) (t : ByteArray) : Nat := (rowE es t).firm.length + (rowE es t).loose.length
theorem sync_eq {N : Nat} (hN : 3 ≤ N) {a : Int} {es : List (ByteArray × Disk_rowsD)} {t : ByteArray} (hl : sizeE es t ≤ 281474976710656) :
    m_disk_Disk_Sync N a es t = some (if (mlook t es).isSome = true then (0, mputP ltB t ⟨(rowE es t).firm ++ (rowE es t).loose, []⟩ es) else (6, es)) := by
  unfold m_disk_Disk_Sync m_disk_Disk_turn m_disk_Disk_is
  rw [bindO_pure, turn_row]
  simp only [bindO_pure]
  cases h : (mlook t es).isSome
  · rfl
  · simp only [Bool.not_true, Bool.false_eq_true, if_false, m_disk_Disk_Sync_1, m_disk_rows_whole]
    rw [concat_two hN _ _ hl]
    rfl
theorem read_eq {N : Nat} (hN : 3 ≤ N) {a : Int} {es : List (ByteArray × Disk_rowsD)} {t : ByteArray} (hl : sizeE es t ≤ 281474976710656) :
    m_disk_Disk_Read N a es t = some (if (mlook t es).isSome = true then ((rowE es t).firm ++ (rowE es t).loose, 0, mputP ltB t (rowE es t) es) else ([], 6, es)) := by
  unfold m_disk_Disk_Read m_disk_Disk_turn_v2 m_disk_Disk_is
  rw [bindO_pure, turn_row]
  simp only [bindO_pure]
  cases h : (mlook t es).isSome
  · rfl
  · simp only [Bool.not_true, Bool.false_eq_true, if_false, m_disk_Disk_Read_1, m_disk_rows_whole]
    rw [concat_two hN _ _ hl]
    rfl
theorem list_eq {N : Nat} {a : Int} {es : List (ByteArray × Disk_rowsD)} (hf : fitKeys es = true) : m_disk_Disk_List N a es = some (sortKeys es) := by
  unfold m_disk_Disk_List m_disk_Disk_is
  rw [bindO_pure]
  cases es with
  | nil => simp [sortKeys]
  | cons x es =>
    rw [if_neg (by simp), gd_pos hf]
def isin (k : ByteArray) (ord : List ByteArray) : Bool := ord.any fun q => decide (k = q)
theorem isin_iff {k : ByteArray} {ord : List ByteArray} : isin k ord = true ↔ k ∈ ord := by simp [isin]
def crashR (n : Int) (x : Disk_rowsD) : Disk_rowsD := ⟨x.firm ++ x.loose.take (minI (maxI n 0) ((x.loose.length : Nat) : Int)).toNat, []⟩
def crashE (n : Int) (es : List (ByteArray × Disk_rowsD)) : List (ByteArray × Disk_rowsD) := es.map fun x => (x.1, crashR n x.2)
theorem mput_map {f : Disk_rowsD → Disk_rowsD} {k : ByteArray} {g : ByteArray → Bool} : ∀ {es : List (ByteArray × Disk_rowsD)} {x : Disk_rowsD}, (keysE es).Nodup → mlook k es = some x → g k = false →
    mput k (f x) (es.map fun y => (y.1, if g y.1 = true then f y.2 else y.2)) = es.map fun y => (y.1, if (g y.1 || decide (y.1 = k)) = true then f y.2 else y.2)
  | [], x, _, h, _ => by cases h
  | y :: es, x, hn, h, hg => by
    simp only [keysE, List.map_cons, List.nodup_cons] at hn
    unfold mlook at h
    simp only [List.map_cons]
    unfold mput
    split at h
    · rename_i e
      cases h
      rw [if_pos e]
      subst e
      simp only [hg, Bool.false_or, decide_true, if_true]
      rw [List.cons.injEq]
      refine ⟨rfl, List.map_congr_left fun z hz => ?_⟩
      have : decide (z.1 = y.1) = false := by
        rw [decide_eq_false_iff_not]
        intro e
        exact hn.1 (e ▸ List.mem_map.2 ⟨z, hz, rfl⟩)
      rw [this, Bool.or_false]
    · rename_i hne
      rw [if_neg hne, mput_map hn.2 h hg]
      have : decide (y.1 = k) = false := by rw [decide_eq_false_iff_not]; exact hne
      rw [this, Bool.or_false]
theorem mlook_map {f : ByteArray → Disk_rowsD → Disk_rowsD} {k : ByteArray} : ∀ {es : List (ByteArray × Disk_rowsD)}, mlook k (es.map fun y => (y.1, f y.1 y.2)) = (mlook k es).map (f k)
  | [] => rfl
  | y :: es => by
    simp only [List.map_cons]
    unfold mlook
    split
    · rename_i e
      subst e; rfl
    · exact mlook_map
theorem crash_go {N : Nat} (hN : 3 ≤ N) (n : Int) (es : List (ByteArray × Disk_rowsD)) (hn : (keysE es).Nodup) (hl : ∀ x ∈ es, sizeR x.2 ≤ 281474976710656) : ∀ (ord : List ByteArray) (g : ByteArray → Bool), ord.Nodup → (∀ k ∈ ord, k ∈ keysE es ∧ g k = false) →
    ranL (m_disk_Disk_Crash_L1 N n) ord (es.map fun y => (y.1, if g y.1 = true then crashR n y.2 else y.2)) = some (es.map fun y => (y.1, if (g y.1 || isin y.1 ord) = true then crashR n y.2 else y.2))
  | [], g, _, _ => by simp [ranL, bindS, m_disk_Disk_Crash_L1, optE, isin]
  | k :: ord, g, ho, hk => by
    obtain ⟨hk1, hk2⟩ := hk k (by simp)
    obtain ⟨x, hx⟩ := mlook_isSome hk1
    have hlx : sizeR x ≤ 281474976710656 := hl _ (mlook_mem hx)
    have hlook : mlook k (es.map fun y => (y.1, if g y.1 = true then crashR n y.2 else y.2)) = some x := by
      rw [mlook_map (f := fun q y => if g q = true then crashR n y else y), hx]
      simp [hk2]
    have hst : m_disk_Disk_Crash_L1 N n (some k) (es.map fun y => (y.1, if g y.1 = true then crashR n y.2 else y.2)) = some (.inl (es.map fun y => (y.1, if (g y.1 || decide (y.1 = k)) = true then crashR n y.2 else y.2))) := by
      unfold m_disk_Disk_Crash_L1
      simp only [optE, hlook, bindO_pure]
      have h1 : 0 ≤ minI (maxI n 0) ((x.loose.length : Nat) : Int) := by unfold minI maxI; split <;> split <;> omega
      have h2 : (minI (maxI n 0) ((x.loose.length : Nat) : Int)).toNat ≤ x.loose.length := by unfold minI maxI; split <;> split <;> omega
      rw [gd_pos h1, gd_pos h2, concat_two hN _ _ (by unfold sizeR at hlx; simp; omega)]
      simp only [bindO_pure]
      rw [← mput_map (f := crashR n) hn hx hk2]
      rfl
    show bindS (m_disk_Disk_Crash_L1 N n (some k) _) _ = _
    rw [hst, bindS_inl]
    have ho' := List.nodup_cons.1 ho
    rw [crash_go hN n es hn hl ord (fun q => g q || decide (q = k)) ho'.2 (fun q hq => ⟨(hk q (by simp [hq])).1, by
      have h3 := (hk q (by simp [hq])).2
      have : decide (q = k) = false := by rw [decide_eq_false_iff_not]; intro e; subst e; exact ho'.1 hq
      simp [h3, this]⟩)]
    congr 1
    refine List.map_congr_left fun y _ => ?_
    simp only [isin, List.any_cons, Bool.or_assoc]
    rfl
theorem crash_eq {N : Nat} (hN : 3 ≤ N) {a n : Int} {es : List (ByteArray × Disk_rowsD)} (hn : (keysE es).Nodup) (hl : ∀ x ∈ es, sizeR x.2 ≤ 281474976710656) : m_disk_Disk_Crash N a es n = some (crashE n es) := by
  have key : ranP (m_disk_Disk_Crash_L1 N n) (List.map (fun x : ByteArray × Disk_rowsD => x.1) es) es = some (crashE n es) := by
    refine ranP_of fun ord ho => ?_
    have h1 := crash_go hN n es hn hl ord (fun _ => false) (ho.nodup_iff.2 hn) (fun k hk => ⟨ho.mem_iff.1 hk, rfl⟩)
    have h2 : (es.map fun y : ByteArray × Disk_rowsD => (y.1, if (fun _ : ByteArray => false) y.1 = true then crashR n y.2 else y.2)) = es := by simp
    rw [h2] at h1
    rw [h1]
    congr 1
    unfold crashE
    refine List.map_congr_left fun y hy => ?_
    have : isin y.1 ord = true := isin_iff.2 (ho.mem_iff.2 (List.mem_map.2 ⟨y, hy, rfl⟩))
    rw [this]; simp
  unfold m_disk_Disk_Crash m_disk_Disk_is
  rw [bindO_pure]; exact key
def tA : ByteArray := ⟨#[97]⟩
def tB : ByteArray := ⟨#[98]⟩
def exE1 : List (ByteArray × Disk_rowsD) := [(tA, ⟨[], [119, 111, 114, 100]⟩)]
def exE2 : List (ByteArray × Disk_rowsD) := [(tA, ⟨[119, 111, 114, 100], []⟩)]
def exE3 : List (ByteArray × Disk_rowsD) := [(tA, ⟨[119, 111, 114, 100], [105, 110, 103]⟩)]
def exE4 : List (ByteArray × Disk_rowsD) := [(tA, ⟨[119, 111, 114, 100, 105], []⟩)]
theorem ex1 {N : Nat} (hN : 40 ≤ N) : m_disk_Disk_Append N (maxI 10 0) ([] : List (ByteArray × Disk_rowsD)) tA [119, 111, 114, 100] = some (0, exE1) := by
  rw [append_eq hN (by simp [keysE]) (by decide) (by simp [rowE, mlook])]
  have h1 : appC (maxI 10 0) [] tA [119, 111, 114, 100] = 0 := by rfl
  unfold appE
  rw [h1]; rfl
theorem ex2 {N : Nat} (hN : 40 ≤ N) : m_disk_Disk_Sync N (maxI 10 0) exE1 tA = some (0, exE2) := by
  rw [sync_eq (by omega) (by simp [sizeE, rowE, mlook, exE1])]
  simp [exE1, exE2, mlook, rowE, mputP, mput]
theorem ex3 {N : Nat} (hN : 40 ≤ N) : m_disk_Disk_Append N (maxI 10 0) exE2 tA [105, 110, 103] = some (0, exE3) := by
  rw [append_eq hN (by simp [keysE, exE2]) (by simp [usedE, exE2, sizeR]) (by simp [rowE, mlook, exE2])]
  have h1 : appC (maxI 10 0) exE2 tA [105, 110, 103] = 0 := by rfl
  unfold appE
  rw [h1]
  simp [exE2, exE3, mlook, rowE, mputP, mput]
theorem ex4 {N : Nat} (hN : 40 ≤ N) : m_disk_Disk_Crash N (maxI 10 0) exE3 1 = some exE4 := by
  rw [crash_eq (by omega) (by simp [keysE, exE3]) (by simp [exE3, sizeR])]
  rfl
theorem ex5 {N : Nat} (hN : 40 ≤ N) : m_disk_Disk_Read N (maxI 10 0) exE4 tA = some ([119, 111, 114, 100, 105], 0, exE4) := by
  rw [read_eq (by omega) (by simp [sizeE, rowE, mlook, exE4])]
  simp [exE4, mlook, rowE, mputP, mput]
theorem ex6 {N : Nat} (hN : 40 ≤ N) : m_disk_Disk_Append N (maxI 10 0) exE4 tB [115, 105, 120, 115, 105, 120] = some (5, exE4) := by
  rw [append_eq hN (by simp [keysE, exE4]) (by simp [usedE, exE4, sizeR]) (by simp [rowE, mlook, exE4, tA, tB])]
  have h1 : appC (maxI 10 0) exE4 tB [115, 105, 120, 115, 105, 120] = 5 := by rfl
  unfold appE
  rw [h1]; rfl
theorem ex7 {N : Nat} : m_disk_Disk_List N (maxI 10 0) exE4 = some [tA] := by
  rw [list_eq (by rfl)]
  simp [sortKeys, exE4, strBA, tA]
theorem awake_ok {N : Nat} (hN : 40 ≤ N) : m_ropewalklaw17_awake N = some true := by
  obtain ⟨n, rfl⟩ : ∃ n, N = n + 40 := ⟨N - 40, by omega⟩
  unfold m_ropewalklaw17_awake m_disk_New
  rw [bindO_pure, show (⟨#[97]⟩ : ByteArray) = tA from rfl, ex1 hN]
  simp only [bindO_pure]
  rw [ex2 hN]
  simp only [bindO_pure]
  rw [ex3 hN]
  simp only [bindO_pure]
  rw [ex4 hN]
  simp only [bindO_pure]
  rw [ex5 hN]
  simp only [bindO_pure]
  rw [gd_pos (by simp)]
  rw [iter_step (s' := 1) (by unfold m_ropewalklaw17_awake_L1; simp [bindO, gd]), iter_step (s' := 2) (by unfold m_ropewalklaw17_awake_L1; simp [bindO, gd]), iter_step (s' := 3) (by unfold m_ropewalklaw17_awake_L1; simp [bindO, gd]), iter_step (s' := 4) (by unfold m_ropewalklaw17_awake_L1; simp [bindO, gd]), iter_stop (o := .inl ()) (by unfold m_ropewalklaw17_awake_L1; simp)]
  rw [bindS_inl, ex7]
  simp only [bindO_pure]
  unfold m_ropewalklaw17_awake_C2
  rw [if_pos (by rw [btl, btl]; rfl), used_eq (by simp [keysE, exE4]) (by simp [usedE, exE4, sizeR])]
  simp only [bindO_pure]
  rw [if_pos (by rfl), show (⟨#[98]⟩ : ByteArray) = tB from rfl, ex6 hN]
  simp only [bindO_pure]
  rw [if_pos (by rfl), if_pos (by rfl)]
  simp [bindO, btl, tA]
end Go.Proofs.YtkakbckmajdggaaGreat
