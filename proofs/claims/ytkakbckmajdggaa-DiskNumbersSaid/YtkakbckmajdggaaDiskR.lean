import Derived.Test.YtkakbckmajdggaaDiskQ
import Derived.Sort.Walk0
namespace Go.Proofs.Ytkakbckmajdggaa
open Go Go.RowKit
abbrev EnD := Ropewalkref17_entryD
def okB (l : List Int) : Prop := ∀ x ∈ l, 0 ≤ x ∧ x < 256
theorem okB.app {a b : List Int} (h : okB a) (h2 : okB b) : okB (a ++ b) := fun x hx => by
  rcases List.mem_append.1 hx with hx | hx
  · exact h x hx
  · exact h2 x hx
theorem okB.take {a : List Int} (h : okB a) (k : Nat) : okB (a.take k) := fun x hx => h x (List.mem_of_mem_take hx)
theorem okB.nil : okB [] := fun x hx => (by cases hx)
theorem ba_eq {s t : ByteArray} (h : s.data.toList = t.data.toList) : s = t := by
  cases s; cases t; exact congrArg ByteArray.mk (Array.toList_inj.1 h)
theorem bget (s : ByteArray) (i : Nat) : s[i]? = s.data.toList[i]? := by
  by_cases h : i < s.size
  · rw [getElem?_pos s i h]
    have h2 : i < s.data.toList.length := by simpa using h
    rw [List.getElem?_eq_getElem h2]; rfl
  · rw [getElem?_neg s i h]
    rw [List.getElem?_eq_none (by simpa using h)]
theorem nums_str {l : List Int} (h : okB l) : numsOfStr (strOfNums l) = l := by
  unfold numsOfStr
  rw [strOfNums_data, List.map_map]
  conv => rhs; rw [← List.map_id l]
  refine List.map_congr_left fun x hx => ?_
  have := h x hx
  simp only [Function.comp, id]
  rw [UInt8.toNat_ofNat']; omega
theorem str_app (a b : List Int) : strOfNums a ++ strOfNums b = strOfNums (a ++ b) := by
  apply ba_eq
  rw [ByteArray.data_append, Array.toList_append, strOfNums_data, strOfNums_data, strOfNums_data, List.map_append]
theorem str_take (l : List Int) (k : Nat) : (strOfNums l).extract 0 k = strOfNums (l.take k) := by
  apply ba_eq
  rw [ByteArray.data_extract, Array.toList_extract, strOfNums_data, strOfNums_data, List.map_take]
  simp [List.extract]
theorem ltB_total {a b : ByteArray} (h : ltB a b = false) (hne : a ≠ b) : ltB b a = true := by
  simp only [ltB, decide_eq_true_eq, decide_eq_false_iff_not] at *
  rcases Classical.em (b.data.toList < a.data.toList) with h2 | h2
  · exact h2
  · exact absurd (ba_eq (List.le_antisymm (List.not_lt.1 h2) (List.not_lt.1 h))) hne
theorem ltB_irrefl (a : ByteArray) : ltB a a = false := by
  cases h : ltB a a with
  | false => rfl
  | true => exact absurd rfl (ltB_ne h)
def others (t : ByteArray) (es : List (ByteArray × Disk_rowsD)) : List (ByteArray × Disk_rowsD) := es.filter fun x => !decide (x.1 = t)
theorem others_self {t : ByteArray} {es : List (ByteArray × Disk_rowsD)} (h : ∀ x ∈ es, x.1 ≠ t) : others t es = es := by
  unfold others
  rw [List.filter_eq_self]
  intro x hx
  simp [h x hx]
theorem mlook_no {t : ByteArray} : ∀ {es : List (ByteArray × Disk_rowsD)}, mlook t es = none → ∀ x ∈ es, x.1 ≠ t
  | [], _, x, hx => by cases hx
  | y :: es, h, x, hx => by
    unfold mlook at h
    split at h
    · cases h
    · rename_i hne
      rcases List.mem_cons.1 hx with rfl | hx
      · exact hne
      · exact mlook_no h x hx
theorem of_some {t : ByteArray} {r : Disk_rowsD} : ∀ {es : List (ByteArray × Disk_rowsD)}, (keysE es).Nodup → mlook t es = some r → es.filter (fun x => decide (x.1 = t)) = [(t, r)]
  | [], _, h => by cases h
  | y :: es, hn, h => by
    simp only [keysE, List.map_cons, List.nodup_cons] at hn
    unfold mlook at h
    rw [List.filter_cons]
    split at h
    · rename_i e
      cases h
      subst e
      simp only [decide_true, if_true]
      have : es.filter (fun x => decide (x.1 = y.1)) = [] := by
        rw [List.filter_eq_nil_iff]
        intro z hz
        simp only [decide_eq_true_eq]
        exact fun e => hn.1 (e ▸ List.mem_map.2 ⟨z, hz, rfl⟩)
      rw [this]
    · rename_i hne
      rw [if_neg (by simpa using hne)]
      exact of_some hn.2 h
theorem mput_perm {t : ByteArray} {r r' : Disk_rowsD} : ∀ {es : List (ByteArray × Disk_rowsD)}, (keysE es).Nodup → mlook t es = some r → (mput t r' es).Perm ((t, r') :: others t es)
  | [], _, h => by cases h
  | y :: es, hn, h => by
    simp only [keysE, List.map_cons, List.nodup_cons] at hn
    unfold mlook at h
    unfold mput others
    rw [List.filter_cons]
    split at h
    · rename_i e
      cases h
      subst e
      simp only [decide_true, Bool.not_true, Bool.false_eq_true, if_false, if_true]
      have := others_self (t := y.1) (es := es) fun z hz e => hn.1 (e ▸ List.mem_map.2 ⟨z, hz, rfl⟩)
      unfold others at this
      rw [this]
    · rename_i hne
      rw [if_neg hne, if_pos (by simpa using hne)]
      exact ((mput_perm hn.2 h).cons y).trans (List.Perm.swap ..)
theorem put_perm {t : ByteArray} {r' : Disk_rowsD} {es : List (ByteArray × Disk_rowsD)} (hn : (keysE es).Nodup) : (mputP ltB t r' es).Perm ((t, r') :: others t es) := by
  unfold mputP
  cases h : mlook t es with
  | some r => exact mput_perm hn h
  | none =>
    rw [others_self (mlook_no h)]
    exact mins_perm _ _ _ _
theorem mput_keys {t : ByteArray} {r r' : Disk_rowsD} : ∀ {es : List (ByteArray × Disk_rowsD)}, mlook t es = some r → keysE (mput t r' es) = keysE es
  | [], h => by cases h
  | y :: es, h => by
    unfold mlook at h
    unfold mput
    split at h
    · rename_i e
      rw [if_pos e]
      simp [keysE, e]
    · rename_i hne
      rw [if_neg hne]
      simp only [keysE, List.map_cons]
      exact congrArg _ (mput_keys h)
theorem mput_same {t : ByteArray} {r : Disk_rowsD} : ∀ {es : List (ByteArray × Disk_rowsD)}, mlook t es = some r → mput t r es = es
  | [], h => by cases h
  | y :: es, h => by
    unfold mlook at h
    unfold mput
    split at h
    · rename_i e
      cases h
      rw [if_pos e, ← e]
    · rename_i hne
      rw [if_neg hne, mput_same h]
theorem put_same {t : ByteArray} {es : List (ByteArray × Disk_rowsD)} (h : (mlook t es).isSome = true) : mputP ltB t (rowE es t) es = es := by
  unfold mputP rowE
  cases hl : mlook t es with
  | none => rw [hl] at h; cases h
  | some r => exact mput_same hl
theorem sorted_keys {es : List (ByteArray × Disk_rowsD)} : SortedE es ↔ (keysE es).Pairwise (fun x y => ltB x y = true) := by unfold SortedE keysE; rw [List.pairwise_map]
theorem mins_sorted {t : ByteArray} {r : Disk_rowsD} : ∀ {es : List (ByteArray × Disk_rowsD)}, SortedE es → mlook t es = none → SortedE (mins ltB t r es)
  | [], _, _ => List.pairwise_cons.2 ⟨fun y hy => (by cases hy), List.Pairwise.nil⟩
  | y :: es, hs, h => by
    obtain ⟨h1, h2⟩ := List.pairwise_cons.1 hs
    have hne := mlook_no h y (by simp)
    unfold mlook at h
    rw [if_neg hne] at h
    unfold mins
    split
    · rename_i hlt
      refine List.pairwise_cons.2 ⟨fun z hz => ?_, hs⟩
      rcases List.mem_cons.1 hz with rfl | hz
      · exact hlt
      · exact ltB_trans hlt (h1 z hz)
    · rename_i hlt
      refine List.pairwise_cons.2 ⟨fun z hz => ?_, mins_sorted h2 h⟩
      rcases List.mem_cons.1 ((mins_perm _ _ _ _).mem_iff.1 hz) with rfl | hz
      · exact ltB_total (by simpa using hlt) (Ne.symm hne)
      · exact h1 z hz
theorem put_sorted {t : ByteArray} {r : Disk_rowsD} {es : List (ByteArray × Disk_rowsD)} (hs : SortedE es) : SortedE (mputP ltB t r es) := by
  unfold mputP
  cases h : mlook t es with
  | some r0 =>
    rw [sorted_keys] at *
    rw [mput_keys h]; exact hs
  | none => exact mins_sorted hs h
theorem del_is {t : ByteArray} : ∀ {es : List (ByteArray × Disk_rowsD)}, (keysE es).Nodup → mdel t es = others t es
  | [], _ => rfl
  | y :: es, hn => by
    simp only [keysE, List.map_cons, List.nodup_cons] at hn
    unfold mdel others
    rw [List.filter_cons]
    split
    · rename_i e
      subst e
      simp only [decide_true, Bool.not_true, Bool.false_eq_true, if_false]
      have := others_self (t := y.1) (es := es) fun z hz e => hn.1 (e ▸ List.mem_map.2 ⟨z, hz, rfl⟩)
      unfold others at this
      rw [this]
    · rename_i hne
      rw [if_pos (by simpa using hne)]
      exact congrArg _ (del_is hn.2)
theorem others_sorted {t : ByteArray} {es : List (ByteArray × Disk_rowsD)} (hs : SortedE es) : SortedE (others t es) := hs.filter _
def convE (x : ByteArray × Disk_rowsD) : EnD := ⟨x.1, strOfNums x.2.firm, strOfNums x.2.loose⟩
def okRow (r : Disk_rowsD) : Prop := sizeR r ≤ 4194304 ∧ okB r.firm ∧ okB r.loose
structure RelD (m : Nat) (es : List (ByteArray × Disk_rowsD)) (l : List EnD) : Prop where
  so : SortedE es
  pe : l.Perm (es.map convE)
  ok : ∀ x ∈ es, fitB x.1 = true ∧ okRow x.2
  le : es.length ≤ m
theorem RelD.len {m : Nat} {es : List (ByteArray × Disk_rowsD)} {l : List EnD} (h : RelD m es l) : l.length = es.length := by rw [h.pe.length_eq, List.length_map]
theorem RelD.mono {m m' : Nat} {es : List (ByteArray × Disk_rowsD)} {l : List EnD} (h : RelD m es l) (hm : m ≤ m') : RelD m' es l := ⟨h.so, h.pe, h.ok, Nat.le_trans h.le hm⟩
theorem RelD.row {m : Nat} {es : List (ByteArray × Disk_rowsD)} {l : List EnD} (h : RelD m es l) (t : ByteArray) : okRow (rowE es t) := by
  unfold rowE
  cases hl : mlook t es with
  | none => exact ⟨Nat.zero_le _, okB.nil, okB.nil⟩
  | some r => exact (h.ok _ (mlook_mem hl)).2
theorem RelD.put {m : Nat} {es : List (ByteArray × Disk_rowsD)} {l rest : List EnD} (h : RelD m es l) {t : ByteArray} {r : Disk_rowsD} (hf : fitB t = true) (hr : okRow r) (hp : rest.Perm ((others t es).map convE)) :
    RelD (m + 1) (mputP ltB t r es) (rest ++ [convE (t, r)]) := by
  have hq := put_perm (t := t) (r' := r) h.so.nodup
  refine ⟨put_sorted h.so, ?_, fun x hx => ?_, ?_⟩
  · refine (List.perm_append_comm.trans (hp.cons _)).trans ?_
    exact (hq.map convE).symm
  · rcases List.mem_cons.1 (hq.mem_iff.1 hx) with rfl | hx
    · exact ⟨hf, hr⟩
    · exact h.ok x (List.mem_filter.1 hx).1
  · rw [hq.length_eq]
    have : (others t es).length ≤ es.length := List.length_filter_le ..
    have := h.le
    simp only [List.length_cons]; omega
theorem RelD.del {m : Nat} {es : List (ByteArray × Disk_rowsD)} {l rest : List EnD} (h : RelD m es l) {t : ByteArray} (hp : rest.Perm ((others t es).map convE)) : RelD m (others t es) rest :=
  ⟨others_sorted h.so, hp, fun x hx => h.ok x (List.mem_filter.1 hx).1, Nat.le_trans (List.length_filter_le ..) h.le⟩
theorem usedE_le : ∀ (es : List (ByteArray × Disk_rowsD)), (∀ x ∈ es, sizeR x.2 ≤ 4194304) → usedE es ≤ es.length * 4194304
  | [], _ => Nat.zero_le _
  | y :: es, h => by
    have h1 := h y (by simp)
    have h2 := usedE_le es fun x hx => h x (by simp [hx])
    simp only [usedE, List.map_cons, List.sum_cons, List.length_cons] at *
    omega
theorem RelD.used {m : Nat} {es : List (ByteArray × Disk_rowsD)} {l : List EnD} (h : RelD m es l) : usedE es ≤ m * 4194304 :=
  Nat.le_trans (usedE_le es fun x hx => (h.ok x hx).2.1) (Nat.mul_le_mul_right _ h.le)
def isE (t : ByteArray) (x : EnD) : Bool := decide (x.name = t)
def lastE (t : ByteArray) (l : List EnD) : EnD := ((l.filter (isE t)).getLast?).getD ⟨t, ⟨#[]⟩, ⟨#[]⟩⟩
theorem sp_yes {P : List EnD} {x : EnD} {t : ByteArray} (e : x.name = t) : (P ++ [x]).filter (fun x => !isE t x) = P.filter (fun x => !isE t x) ∧ (P ++ [x]).any (isE t) = true ∧ lastE t (P ++ [x]) = x := by
  refine ⟨by simp [isE, e], by simp [isE, e], ?_⟩
  unfold lastE
  rw [List.filter_append]
  have : [x].filter (isE t) = [x] := by simp [isE, e]
  rw [this, List.getLast?_concat]; rfl
theorem sp_no {P : List EnD} {x : EnD} {t : ByteArray} (e : ¬ x.name = t) : (P ++ [x]).filter (fun x => !isE t x) = P.filter (fun x => !isE t x) ++ [x] ∧ (P ++ [x]).any (isE t) = P.any (isE t) ∧ lastE t (P ++ [x]) = lastE t P := by
  refine ⟨by simp [isE, e], by simp [isE, e], ?_⟩
  unfold lastE
  rw [List.filter_append]
  have : [x].filter (isE t) = [] := by simp [isE, e]
  rw [this, List.append_nil]
theorem split_go {N : Nat} {l : List EnD} {t : ByteArray} (hl : l.length ≤ 1000000) : ∀ n i, l.length - i < n → i ≤ l.length →
    iter (m_ropewalkref17_Disk_split_L1 N l t) n (i, (l.take i).filter (fun x => !isE t x), (l.take i).any (isE t), (lastE t (l.take i)).name, (lastE t (l.take i)).firm, (lastE t (l.take i)).loose) = some ((lastE t l).name, (lastE t l).firm, (lastE t l).loose, l.any (isE t), l.filter (fun x => !isE t x))
  | 0, _, h, _ => by omega
  | n + 1, i, h, hi => by
    by_cases hlt : i < l.length
    · have hx : l[i]? = some l[i] := List.getElem?_eq_getElem hlt
      have htk : l.take (i + 1) = l.take i ++ [l[i]] := List.take_succ_eq_append_getElem hlt
      have hfl : ((l.take i).filter (fun x => !isE t x)).length ≤ i := Nat.le_trans (List.length_filter_le ..) (by rw [List.length_take]; omega)
      have hst : m_ropewalkref17_Disk_split_L1 N l t (i, (l.take i).filter (fun x => !isE t x), (l.take i).any (isE t), (lastE t (l.take i)).name, (lastE t (l.take i)).firm, (lastE t (l.take i)).loose) =
          some (.inl (i + 1, (l.take (i + 1)).filter (fun x => !isE t x), (l.take (i + 1)).any (isE t), (lastE t (l.take (i + 1))).name, (lastE t (l.take (i + 1))).firm, (lastE t (l.take (i + 1))).loose)) := by
        unfold m_ropewalkref17_Disk_split_L1
        dsimp only
        rw [if_pos (by simpa using hlt), hx, htk]
        generalize l[i] = x
        have hfl' : ((l.take i).filter (fun x => !isE t x)).length + 1 ≤ 2932031007402 := by omega
        clear hx htk hfl
        revert hfl'
        generalize l.take i = P
        intro hfl'
        simp only [bindO_pure, beq_bytes]
        by_cases e : x.name = t
        · have hd : decide (x.name = t) = true := by simpa using e
          obtain ⟨q1, q2, q3⟩ := sp_yes (P := P) e
          rw [hd, q1, q2, q3]
          simp only [Bool.not_true, Bool.false_eq_true, if_false, bindO_pure]
          rw [gd_pos (by omega)]
        · have hd : decide (x.name = t) = false := by simpa using e
          obtain ⟨q1, q2, q3⟩ := sp_no (P := P) e
          rw [hd, q1, q2, q3]
          simp only [Bool.not_false, if_true]
          rw [gd_pos (show (P.filter (fun x => !isE t x)).length + [x].length ≤ 2932031007402 from hfl')]
          simp only [bindO_pure]
          rw [gd_pos (by omega)]
      rw [iter_step hst]
      exact split_go hl n (i + 1) (by omega) (by omega)
    · have : i = l.length := by omega
      subst this
      rw [List.take_length]
      exact iter_stop (by unfold m_ropewalkref17_Disk_split_L1; dsimp only; rw [if_neg (by simp)])
theorem split_eq {N : Nat} {a : Int} {l : List EnD} {t : ByteArray} (hl : l.length ≤ 1000000) (hN : 1000001 ≤ N) :
    m_ropewalkref17_Disk_split N a l t = some ((lastE t l).name, (lastE t l).firm, (lastE t l).loose, l.filter (fun x => !isE t x), l.any (isE t)) := by
  have h := split_go (N := N) (t := t) hl N 0 (by omega) (Nat.zero_le _)
  unfold m_ropewalkref17_Disk_split
  have h0 : (lastE t (l.take 0)) = ⟨t, ⟨#[]⟩, ⟨#[]⟩⟩ := rfl
  rw [h0, List.take_zero] at h
  simp only [List.filter_nil, List.any_nil] at h
  rw [h]
  rfl
theorem split_rel {m : Nat} {es : List (ByteArray × Disk_rowsD)} {l : List EnD} (h : RelD m es l) (t : ByteArray) :
    l.any (isE t) = (mlook t es).isSome ∧ lastE t l = convE (t, rowE es t) ∧ (l.filter (fun x => !isE t x)).Perm ((others t es).map convE) := by
  have h1 : (l.filter (fun x => !isE t x)).Perm ((others t es).map convE) := by
    have := h.pe.filter (fun x => !isE t x)
    rw [List.filter_map] at this
    exact this
  have h2 : (l.filter (isE t)).Perm ((es.filter (fun x => decide (x.1 = t))).map convE) := by
    have := h.pe.filter (isE t)
    rw [List.filter_map] at this
    exact this
  cases hl : mlook t es with
  | none =>
    have he : es.filter (fun x => decide (x.1 = t)) = [] := by
      rw [List.filter_eq_nil_iff]
      intro z hz
      simpa using mlook_no hl z hz
    rw [he] at h2
    have h3 := h2.eq_nil
    refine ⟨?_, ?_, h1⟩
    · rw [List.any_eq_false.2 (fun x hx => by
        have := List.filter_eq_nil_iff.1 h3 x hx
        exact this)]
      rfl
    · unfold lastE rowE
      rw [h3, hl]; rfl
  | some r =>
    rw [of_some h.so.nodup hl] at h2
    have h3 := List.perm_singleton.1 h2
    refine ⟨?_, ?_, h1⟩
    · have hm : convE (t, r) ∈ l.filter (isE t) := by rw [h3]; simp
      rw [List.any_eq_true.2 ⟨_, (List.mem_filter.1 hm).1, (List.mem_filter.1 hm).2⟩]
      rfl
    · unfold lastE rowE
      rw [h3, hl]; rfl
end Go.Proofs.Ytkakbckmajdggaa
