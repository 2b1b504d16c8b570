import Derived.Test.YtkakbckmajdggaaDiskS
namespace Go.Proofs.Ytkakbckmajdggaa
open Go Go.RowKit
theorem others_others {s t : ByteArray} {es : List (ByteArray × Disk_rowsD)} : others s (others t es) = others t (others s es) := by
  unfold others
  rw [List.filter_filter, List.filter_filter]
  exact List.filter_congr fun x _ => Bool.and_comm ..
theorem others_twice {t : ByteArray} {es : List (ByteArray × Disk_rowsD)} : others t (others t es) = others t es := others_self fun x hx => by
  have := (List.mem_filter.1 hx).2
  simpa using this
theorem others_cons_self {t : ByteArray} {r : Disk_rowsD} {es : List (ByteArray × Disk_rowsD)} : others t ((t, r) :: es) = others t es := by
  unfold others
  rw [List.filter_cons, if_neg (by simp)]
theorem others_cons_ne {s t : ByteArray} {r : Disk_rowsD} {es : List (ByteArray × Disk_rowsD)} (h : t ≠ s) : others s ((t, r) :: es) = (t, r) :: others s es := by
  unfold others
  rw [List.filter_cons, if_pos (by simpa using h)]
section
variable {N m : Nat} (hN : 140737488351300 ≤ N) {es : List (ByteArray × Disk_rowsD)} {l : List EnD} (h : RelD m es l) (hm : m ≤ 500) {a : Int} {t : ByteArray}
include h hm in
theorem l_len : l.length ≤ 500 := by
  have h1 := h.len
  have h2 := h.le
  omega
include h hm in
theorem used_small : usedE es ≤ 2097152000 := by
  have := h.used
  omega
include hN h hm in
theorem append_rel (ht : t.size ≤ 140737488351232) {b : List Int} (hb : b.length ≤ 140737488351232) (hb2 : okB b) :
    ∃ (c : Nat) (es' : List (ByteArray × Disk_rowsD)) (l' : List EnD), m_disk_Disk_Append N a es t b = some ((c : Int), es') ∧ m_ropewalkref17_Disk_Append N a l t b = some (c, l') ∧ RelD (m + 1) es' l' := by
  obtain ⟨s1, s2, s3⟩ := split_rel h t
  obtain ⟨r1, r2, r3⟩ := h.row t
  unfold sizeR at r1
  have hl := l_len h hm
  have hu := used_small h hm
  have hrl : (l.filter (fun x => !isE t x)).length ≤ 500 := Nat.le_trans (List.length_filter_le ..) hl
  have e1 : m_disk_Disk_Append N a es t b = some (appC a es t b, appE a es t b) := append_eq (by omega) h.so.nodup (by omega) (by omega)
  unfold m_ropewalkref17_Disk_Append
  rw [split_eq (by omega) (by omega), s2]
  simp only [bindO_pure, convE]
  rw [gd_pos (by rw [strOfNums_size, strOfNums_size]; omega), reffit_eq hN ht]
  simp only [bindO_pure, str_app]
  cases hf : fitB t with
  | false =>
    have hc : appC a es t b = 2 := by unfold appC; rw [if_pos hf]
    exact ⟨2, es, l, by rw [e1, hc]; unfold appE; rw [hc]; rfl, rfl, h.mono (by omega)⟩
  | true =>
    simp only [Bool.not_true, Bool.false_eq_true, if_false, strOfNums_size]
    rw [whole_eq (by rw [strOfNums_size, strOfNums_size, List.length_append]; omega)]
    simp only [bindO_pure]
    have hlen : (rowE es t).firm.length + ((rowE es t).loose ++ b).length = ((rowE es t).firm ++ ((rowE es t).loose ++ b)).length := by simp only [List.length_append]
    by_cases h4 : 4194304 < ((rowE es t).firm ++ ((rowE es t).loose ++ b)).length
    · have hc : appC a es t b = 3 := by unfold appC; rw [if_neg (by rw [hf]; simp), if_pos (by rw [hlen]; exact h4)]
      rw [if_pos (by simpa using h4)]
      exact ⟨3, es, l, by rw [e1, hc]; unfold appE; rw [hc]; rfl, rfl, h.mono (by omega)⟩
    · rw [if_neg (by simpa using h4), refused_eq h (by omega) (by omega)]
      simp only [bindO_pure]
      rw [gd_pos (by omega)]
      by_cases h5 : ((usedE es + b.length : Nat) : Int) > a
      · have hc : appC a es t b = 5 := by unfold appC; rw [if_neg (by rw [hf]; simp), if_neg (by rw [hlen]; exact h4), if_pos h5]
        rw [if_pos (by simpa using h5)]
        exact ⟨5, es, l, by rw [e1, hc]; unfold appE; rw [hc]; rfl, rfl, h.mono (by omega)⟩
      · have hc : appC a es t b = 0 := by unfold appC; rw [if_neg (by rw [hf]; simp), if_neg (by rw [hlen]; exact h4), if_neg h5]
        rw [if_neg (by simpa using h5), gd_pos (by simp only [List.length_singleton]; omega)]
        refine ⟨0, _, _, by rw [e1, hc]; unfold appE; rw [hc, if_pos rfl]; rfl, rfl, ?_⟩
        exact h.put (r := ⟨(rowE es t).firm, (rowE es t).loose ++ b⟩) hf ⟨by unfold sizeR; simp only; rw [hlen]; omega, r2, r3.app hb2⟩ s3
include h in
theorem fit_of (hp : (mlook t es).isSome = true) : fitB t = true := by
  cases hl : mlook t es with
  | none => rw [hl] at hp; cases hp
  | some r => exact (h.ok _ (mlook_mem hl)).1
include hN h hm in
theorem sync_rel : ∃ (c : Nat) (es' : List (ByteArray × Disk_rowsD)) (l' : List EnD), m_disk_Disk_Sync N a es t = some (c, es') ∧ m_ropewalkref17_Disk_Sync N a l t = some (c, l') ∧ RelD (m + 1) es' l' := by
  obtain ⟨s1, s2, s3⟩ := split_rel h t
  obtain ⟨r1, r2, r3⟩ := h.row t
  unfold sizeR at r1
  have hl := l_len h hm
  have hrl : (l.filter (fun x => !isE t x)).length ≤ 500 := Nat.le_trans (List.length_filter_le ..) hl
  rw [sync_eq (by omega) (by unfold sizeE; omega)]
  unfold m_ropewalkref17_Disk_Sync
  rw [split_eq (by omega) (by omega), s1, s2]
  simp only [bindO_pure, convE]
  cases hp : (mlook t es).isSome with
  | false => exact ⟨6, es, l, rfl, rfl, h.mono (by omega)⟩
  | true =>
    simp only [Bool.not_true, Bool.false_eq_true, if_false, if_true, str_app]
    rw [whole_eq (by rw [strOfNums_size, strOfNums_size]; omega)]
    simp only [bindO_pure]
    rw [gd_pos (by simp only [List.length_singleton]; omega)]
    exact ⟨0, _, _, rfl, rfl, h.put (r := ⟨(rowE es t).firm ++ (rowE es t).loose, []⟩) (fit_of h hp) ⟨by unfold sizeR; simp only [List.length_append, List.length_nil]; omega, r2.app r3, okB.nil⟩ s3⟩
include hN h hm in
theorem cut_rel {n : Int} : ∃ (c : Nat) (es' : List (ByteArray × Disk_rowsD)) (l' : List EnD), m_disk_Disk_Cut_v3 N a es t n = some (c, es') ∧ m_ropewalkref17_Disk_Cut N a l t n = some (c, l') ∧ RelD (m + 1) es' l' := by
  obtain ⟨s1, s2, s3⟩ := split_rel h t
  obtain ⟨r1, r2, r3⟩ := h.row t
  unfold sizeR at r1
  have hl := l_len h hm
  have hrl : (l.filter (fun x => !isE t x)).length ≤ 500 := Nat.le_trans (List.length_filter_le ..) hl
  rw [cut_eq (by omega) (by unfold sizeE; omega)]
  unfold m_ropewalkref17_Disk_Cut
  rw [split_eq (by omega) (by omega), s1, s2]
  simp only [bindO_pure, convE, str_app]
  rw [whole_eq (by rw [strOfNums_size, strOfNums_size]; omega)]
  simp only [bindO_pure]
  cases hp : (mlook t es).isSome with
  | false => exact ⟨6, es, l, rfl, rfl, h.mono (by omega)⟩
  | true =>
    simp only [Bool.not_true, Bool.false_eq_true, if_false, strOfNums_size, str_take, Bool.true_eq_false]
    have hsz : sizeE es t = ((rowE es t).firm ++ (rowE es t).loose).length := by unfold sizeE; rw [List.length_append]
    rw [hsz]
    by_cases hn : n < 0
    · have hA : n < 0 ∨ n > ((((rowE es t).firm ++ (rowE es t).loose).length : Nat) : Int) := .inl hn
      have hB : decide (n < 0) = true := by simpa using hn
      rw [if_pos hA, if_pos hB]
      exact ⟨2, es, l, rfl, rfl, h.mono (by omega)⟩
    · have hB : ¬ decide (n < 0) = true := by simpa using hn
      rw [if_neg hB]
      simp only [bindO_pure]
      by_cases hn2 : n > ((((rowE es t).firm ++ (rowE es t).loose).length : Nat) : Int)
      · have hA : n < 0 ∨ n > ((((rowE es t).firm ++ (rowE es t).loose).length : Nat) : Int) := .inr hn2
        have hC : decide (n > ((((rowE es t).firm ++ (rowE es t).loose).length : Nat) : Int)) = true := decide_eq_true hn2
        rw [if_pos hA, if_pos hC]
        exact ⟨2, es, l, rfl, rfl, h.mono (by omega)⟩
      · have hA : ¬ (n < 0 ∨ n > ((((rowE es t).firm ++ (rowE es t).loose).length : Nat) : Int)) := by omega
        have hC : ¬ decide (n > ((((rowE es t).firm ++ (rowE es t).loose).length : Nat) : Int)) = true := by simpa using hn2
        rw [if_neg hA, if_neg hC]
        rw [gd_pos (by omega), gd_pos (by omega), gd_pos (by simp only [List.length_singleton]; omega)]
        exact ⟨0, _, _, rfl, rfl, h.put (r := ⟨((rowE es t).firm ++ (rowE es t).loose).take n.toNat, []⟩) (fit_of h hp) ⟨by unfold sizeR; simp only [List.length_take, List.length_append, List.length_nil]; omega, (r2.app r3).take _, okB.nil⟩ s3⟩
theorem ren_rel {s : ByteArray} {rest : List EnD} (h : RelD m es l) (hs : fitB s = true) (ht : fitB t = true) (hne : ¬ s = t) {r : Disk_rowsD} (hr : okRow r) (hp : rest.Perm ((others t (others s es)).map convE)) :
    RelD (m + 1) (mdel s (mputP ltB s r (mputP ltB t r es))) (rest ++ [convE (t, r)]) := by
  have h1 : SortedE (mputP ltB t r es) := put_sorted h.so
  have p2 := put_perm (t := t) (r' := r) h.so.nodup
  have p1 := put_perm (t := s) (r' := r) h1.nodup
  rw [del_is (put_sorted h1).nodup]
  have p3 : (others s (mputP ltB s r (mputP ltB t r es))).Perm ((t, r) :: others t (others s es)) := by
    refine (p1.filter _).trans ?_
    show (others s ((s, r) :: others s (mputP ltB t r es))).Perm _
    rw [others_cons_self, others_twice]
    refine (p2.filter _).trans ?_
    show (others s ((t, r) :: others t es)).Perm _
    rw [others_cons_ne (Ne.symm hne), others_others]
  refine ⟨others_sorted (put_sorted h1), ?_, fun x hx => ?_, ?_⟩
  · exact (List.perm_append_comm.trans (hp.cons _)).trans (p3.map convE).symm
  · rcases List.mem_cons.1 (p3.mem_iff.1 hx) with rfl | hx
    · exact ⟨ht, hr⟩
    · exact h.ok x (List.mem_filter.1 (List.mem_filter.1 hx).1).1
  · rw [p3.length_eq]
    have a1 : (others t (others s es)).length ≤ (others s es).length := List.length_filter_le ..
    have a2 : (others s es).length ≤ es.length := List.length_filter_le ..
    have := h.le
    simp only [List.length_cons]; omega
include hN h hm in
theorem rename_rel {s : ByteArray} (hs : s.size ≤ 140737488351232) (ht : t.size ≤ 140737488351232) : ∃ (c : Nat) (es' : List (ByteArray × Disk_rowsD)) (l' : List EnD), m_disk_Disk_Rename_v3 N a es s t = some (c, es') ∧ m_ropewalkref17_Disk_Rename N a l s t = some (c, l') ∧ RelD (m + 1) es' l' := by
  obtain ⟨s1, s2, s3⟩ := split_rel h s
  have hr := h.row s
  have hl := l_len h hm
  have hrl : (l.filter (fun x => !isE s x)).length ≤ 500 := Nat.le_trans (List.length_filter_le ..) hl
  have hd := h.del (t := s) s3
  obtain ⟨_, _, t3⟩ := split_rel hd t
  have hrl2 : ((l.filter (fun x => !isE s x)).filter (fun x => !isE t x)).length ≤ 500 := Nat.le_trans (List.length_filter_le ..) hrl
  rw [rename_eq (by omega)]
  unfold m_ropewalkref17_Disk_Rename
  rw [reffit_eq hN hs, reffit_eq hN ht]
  simp only [bindO_pure]
  cases hfs : fitB s with
  | false =>
    simp only [Bool.false_and, Bool.false_eq_true, if_false, bindO_pure, if_true]
    exact ⟨2, es, l, rfl, rfl, h.mono (by omega)⟩
  | true =>
    cases hft : fitB t with
    | false =>
      simp only [Bool.and_false, Bool.not_false, if_true, bindO_pure]
      exact ⟨2, es, l, rfl, rfl, h.mono (by omega)⟩
    | true =>
      simp only [Bool.and_self, Bool.not_true, bindO_pure, Bool.false_eq_true, if_false, if_true, Bool.true_eq_false]
      rw [split_eq (by omega) (by omega), s1, s2]
      simp only [bindO_pure, convE]
      cases hp : (mlook s es).isSome with
      | false => exact ⟨6, es, l, rfl, rfl, h.mono (by omega)⟩
      | true =>
        simp only [Bool.not_true, Bool.false_eq_true, if_false, Bool.true_eq_false]
        rw [split_eq (by omega) (by omega)]
        simp only [bindO_pure]
        rw [gd_pos (by simp only [List.length_singleton]; omega)]
        by_cases e : s = t
        · subst e
          rw [if_pos rfl]
          refine ⟨0, _, _, rfl, rfl, ?_⟩
          have hq : renE es s s = mputP ltB s (rowE es s) es := by
            unfold renE
            rw [put_same hp, put_same hp]
          rw [hq]
          rw [others_twice] at t3
          exact h.put hfs hr t3
        · rw [if_neg e]
          refine ⟨0, _, _, rfl, rfl, ?_⟩
          exact ren_rel h hfs hft e hr t3
include hN h hm in
theorem remove_rel : ∃ (c : Nat) (es' : List (ByteArray × Disk_rowsD)) (l' : List EnD), m_disk_Disk_Remove_v3 N a es t = some (c, es') ∧ m_ropewalkref17_Disk_Remove N a l t = some (c, l') ∧ RelD (m + 1) es' l' := by
  obtain ⟨s1, s2, s3⟩ := split_rel h t
  have hl := l_len h hm
  rw [remove_eq]
  unfold m_ropewalkref17_Disk_Remove
  rw [split_eq (by omega) (by omega), s1]
  simp only [bindO_pure]
  cases hp : (mlook t es).isSome with
  | false => exact ⟨6, es, l, rfl, rfl, h.mono (by omega)⟩
  | true =>
    simp only [Bool.not_true, Bool.false_eq_true, if_false, Bool.true_eq_false]
    rw [put_same hp, del_is h.so.nodup]
    exact ⟨0, _, _, rfl, rfl, (h.del s3).mono (by omega)⟩
def crashN (n : Int) (x : EnD) : EnD := ⟨x.name, x.firm ++ x.loose.extract 0 (minI (maxI n 0) ((x.loose.size : Nat) : Int)).toNat, ⟨#[]⟩⟩
theorem refcrash_go {N : Nat} {l : List EnD} {n : Int} (hsz : ∀ x ∈ l, x.firm.size + x.loose.size ≤ 4194304) (hl : l.length ≤ 1000000) : ∀ k i, l.length - i < k → i ≤ l.length → iter (m_ropewalkref17_Disk_Crash_L1 N l n) k (i, (l.take i).map (crashN n)) = some (l.map (crashN n))
  | 0, _, h, _ => by omega
  | k + 1, i, h, hi => by
    by_cases hlt : i < l.length
    · have hx : l[i]? = some l[i] := List.getElem?_eq_getElem hlt
      have htk : l.take (i + 1) = l.take i ++ [l[i]] := List.take_succ_eq_append_getElem hlt
      have hs := hsz l[i] (List.getElem_mem hlt)
      have hst : m_ropewalkref17_Disk_Crash_L1 N l n (i, (l.take i).map (crashN n)) = some (.inl (i + 1, (l.take (i + 1)).map (crashN n))) := by
        unfold m_ropewalkref17_Disk_Crash_L1
        dsimp only
        rw [if_pos (by simpa using hlt), hx, htk]
        simp only [bindO_pure]
        have h1 : (if (decide (n < 0)) = true then some 0 else some n : Option Int) = some (maxI n 0) := by
          unfold maxI
          by_cases hn : n < 0
          · rw [if_pos (by simpa using hn)]; split <;> first | rfl | (congr 1; omega)
          · rw [if_neg (by simpa using hn)]; split <;> first | rfl | (congr 1; omega)
        rw [h1]
        simp only [bindO_pure]
        have h2 : (if (decide (maxI n 0 > ((l[i].loose.size : Nat) : Int))) = true then some ((l[i].loose.size : Nat) : Int) else some (maxI n 0) : Option Int) = some (minI (maxI n 0) ((l[i].loose.size : Nat) : Int)) := by
          unfold minI
          by_cases hn : maxI n 0 > ((l[i].loose.size : Nat) : Int)
          · rw [if_pos (by simpa using hn)]; split <;> first | rfl | (congr 1; omega)
          · rw [if_neg (by simpa using hn)]; split <;> first | rfl | (congr 1; omega)
        rw [h2]
        simp only [bindO_pure]
        have h3 : 0 ≤ minI (maxI n 0) ((l[i].loose.size : Nat) : Int) := by unfold minI maxI; split <;> split <;> omega
        have h4 : (minI (maxI n 0) ((l[i].loose.size : Nat) : Int)).toNat ≤ l[i].loose.size := by unfold minI maxI; split <;> split <;> omega
        rw [gd_pos h3, gd_pos h4, gd_pos (by rw [ByteArray.size_extract]; omega), gd_pos (by rw [List.length_map, List.length_take]; simp only [List.length_singleton]; omega), gd_pos (by omega), List.map_append]
        rfl
      rw [iter_step hst]
      exact refcrash_go hsz hl k (i + 1) (by omega) (by omega)
    · have : i = l.length := by omega
      subst this
      rw [List.take_length]
      exact iter_stop (by unfold m_ropewalkref17_Disk_Crash_L1; dsimp only; rw [if_neg (by simp)])
theorem crash_conv (n : Int) (x : ByteArray × Disk_rowsD) : crashN n (convE x) = convE (x.1, crashR n x.2) := by
  unfold crashN convE crashR
  simp only [strOfNums_size, str_take, str_app]
  rfl
theorem crash_okRow {n : Int} {r : Disk_rowsD} (h : okRow r) : okRow (crashR n r) := by
  obtain ⟨h1, h2, h3⟩ := h
  refine ⟨?_, h2.app (h3.take _), okB.nil⟩
  unfold sizeR crashR at *
  simp only [List.length_append, List.length_take, List.length_nil]; omega
include hN h hm in
theorem crash_rel {n : Int} : ∃ (es' : List (ByteArray × Disk_rowsD)) (l' : List EnD), m_disk_Disk_Crash N a es n = some es' ∧ m_ropewalkref17_Disk_Crash N a l n = some l' ∧ RelD (m + 1) es' l' := by
  have hl := l_len h hm
  have hsz : ∀ x ∈ l, x.firm.size + x.loose.size ≤ 4194304 := fun x hx => by
    obtain ⟨y, hy, rfl⟩ := List.mem_map.1 (h.pe.mem_iff.1 hx)
    have := (h.ok y hy).2.1
    unfold sizeR at this
    unfold convE
    simp only [strOfNums_size]; exact this
  have e2 : m_ropewalkref17_Disk_Crash N a l n = some (l.map (crashN n)) := by
    unfold m_ropewalkref17_Disk_Crash
    rw [show ((0, []) : Nat × List EnD) = (0, (l.take 0).map (crashN n)) from rfl, refcrash_go hsz (by omega) N 0 (by omega) (Nat.zero_le _)]
    rfl
  have e1 : m_disk_Disk_Crash N a es n = some (crashE n es) := crash_eq (by omega) h.so.nodup fun x hx => by have := (h.ok x hx).2.1; omega
  refine ⟨_, _, e1, e2, ?_, ?_, fun x hx => ?_, ?_⟩
  · unfold crashE
    exact List.pairwise_map.2 (h.so.imp fun h => h)
  · refine (h.pe.map (crashN n)).trans ?_
    unfold crashE
    rw [List.map_map, List.map_map]
    exact List.Perm.of_eq (List.map_congr_left fun x _ => crash_conv n x)
  · unfold crashE at hx
    obtain ⟨y, hy, rfl⟩ := List.mem_map.1 hx
    exact ⟨(h.ok y hy).1, crash_okRow (h.ok y hy).2⟩
  · have := h.le
    unfold crashE
    rw [List.length_map]; omega
include hN h hm in
theorem errors_rel {op : Int} {name to_ : ByteArray} {b : List Int} {n : Int} (h1 : name.size ≤ 140737488351232) (h2 : to_.size ≤ 140737488351232) (h3 : b.length ≤ 140737488351232) (h4 : okB b) :
    ∃ (c : Nat) (es' : List (ByteArray × Disk_rowsD)) (l' : List EnD), m_ropewalklaw17_both_errors N a es a l op name to_ b n = some ((c : Int), c, es', l') ∧ RelD (m + 1) es' l' := by
  obtain ⟨k, hk, hpk⟩ := pick_eq (N := N) op 7 (by omega) (by omega)
  unfold m_ropewalklaw17_both_errors
  rw [show (7 : Int) = ((7 : Nat) : Int) from rfl, hpk]
  simp only [bindO_pure]
  by_cases c1 : ((k : Nat) : Int) < 2
  · rw [if_pos (by simpa using c1)]
    obtain ⟨c, es', l', e1, e2, hr⟩ := append_rel hN h hm (a := a) h1 h3 h4
    rw [e1, e2]
    exact ⟨c, es', l', rfl, hr⟩
  · rw [if_neg (by simpa using c1)]
    by_cases c2 : ((k : Nat) : Int) = 2
    · rw [if_pos (by simpa using c2)]
      obtain ⟨c, es', l', e1, e2, hr⟩ := sync_rel hN h hm (a := a) (t := name)
      rw [e1, e2]
      exact ⟨c, es', l', rfl, hr⟩
    · rw [if_neg (by simpa using c2)]
      by_cases c3 : ((k : Nat) : Int) = 3
      · rw [if_pos (by simpa using c3)]
        obtain ⟨c, es', l', e1, e2, hr⟩ := cut_rel hN h hm (a := a) (t := name) (n := n)
        rw [e1, e2]
        exact ⟨c, es', l', rfl, hr⟩
      · rw [if_neg (by simpa using c3)]
        by_cases c4 : ((k : Nat) : Int) = 4
        · rw [if_pos (by simpa using c4)]
          obtain ⟨c, es', l', e1, e2, hr⟩ := rename_rel hN h hm (a := a) h1 h2
          rw [e1, e2]
          exact ⟨c, es', l', rfl, hr⟩
        · rw [if_neg (by simpa using c4)]
          by_cases c5 : ((k : Nat) : Int) = 5
          · rw [if_pos (by simpa using c5)]
            obtain ⟨c, es', l', e1, e2, hr⟩ := remove_rel hN h hm (a := a) (t := name)
            rw [e1, e2]
            exact ⟨c, es', l', rfl, hr⟩
          · rw [if_neg (by simpa using c5)]
            obtain ⟨es', l', e1, e2, hr⟩ := crash_rel hN h hm (a := a) (n := n)
            rw [e1, e2]
            exact ⟨0, es', l', rfl, hr⟩
include hN h hm in
theorem file_eq : m_ropewalklaw17_both_file N a es a l t = some (true, es) := by
  obtain ⟨s1, s2, s3⟩ := split_rel h t
  obtain ⟨r1, r2, r3⟩ := h.row t
  unfold sizeR at r1
  have hl := l_len h hm
  unfold m_ropewalklaw17_both_file
  rw [read_eq (by omega) (by unfold sizeE; omega)]
  unfold m_ropewalkref17_Disk_Read
  rw [split_eq (by omega) (by omega), s1, s2]
  simp only [bindO_pure, convE, str_app]
  cases hp : (mlook t es).isSome with
  | false =>
    simp only [Bool.false_eq_true, if_false, bindO_pure]
    rw [if_pos (by rfl), same_self _ (by simp; omega) (by simp)]
    rfl
  | true =>
    simp only [if_true, strOfNums_size]
    rw [whole_eq (by rw [strOfNums_size, strOfNums_size]; omega)]
    simp only [bindO_pure]
    rw [gd_pos (by rw [List.length_append]; omega)]
    simp only [bindO_pure]
    rw [if_pos (by rfl), nums_str (r2.app r3), same_self _ (by rw [List.length_append]; omega) (by rw [List.length_append]; omega), put_same hp]
    rfl
include hN h hm in
theorem agree_go : ∀ n i, (keysE es).length - i < n → i ≤ (keysE es).length → iter (m_ropewalklaw17_both_agree_L1 N (keysE es) a a l) n (i, es, true) = some (true, es)
  | 0, _, h, _ => by omega
  | n + 1, i, hn, hi => by
    have hk : (keysE es).length ≤ 500 := by
      have := h.le
      simp [keysE]; omega
    by_cases hlt : i < (keysE es).length
    · have hx : (keysE es)[i]? = some (keysE es)[i] := List.getElem?_eq_getElem hlt
      have hst : m_ropewalklaw17_both_agree_L1 N (keysE es) a a l (i, es, true) = some (.inl (i + 1, es, true)) := by
        unfold m_ropewalklaw17_both_agree_L1
        dsimp only
        rw [if_pos (by simpa using hlt)]
        simp only [bindO_pure, if_true]
        rw [hx]
        simp only [bindO_pure]
        rw [file_eq hN h hm]
        simp only [bindO_pure]
        rw [gd_pos (by omega)]
      rw [iter_step hst]
      exact agree_go n (i + 1) (by omega) (by omega)
    · exact iter_stop (by unfold m_ropewalklaw17_both_agree_L1; dsimp only; rw [if_neg (by simpa using hlt)]; rfl)
include hN h hm in
theorem agree_eq : m_ropewalklaw17_both_agree N a es a l = some (true, es) := by
  have hk : (keysE es).length ≤ 500 := by
    have := h.le
    simp [keysE]; omega
  have hu := used_small h hm
  unfold m_ropewalklaw17_both_agree
  rw [reflist_eq h (by omega) (by omega)]
  simp only [bindO_pure]
  have hc : m_ropewalklaw17_both_agree_C1 N a es (keysE es) a l = some true := by
    unfold m_ropewalklaw17_both_agree_C1
    rw [list_eq (h.fits (by omega)), sortKeys_eq h.so]
    simp only [bindO_pure]
    rw [sameT_self _ (by omega) (by omega)]
    simp only [bindO_pure, if_true]
    rw [used_eq h.so.nodup (by omega), refused_eq h (by omega) (by omega)]
    simp [bindO]
  rw [hc]
  simp only [bindO_pure]
  rw [agree_go hN h hm N 0 (by omega) (Nat.zero_le _)]
  rfl
end
theorem okB_of {b : List Int} (h : ∀ y ∈ b, inK .u8 y) : okB b := fun x hx => by
  obtain ⟨p, q⟩ := h x hx
  exact ⟨p, Int.lt_of_le_of_lt q (by decide)⟩
theorem goes_step {N : Nat} (hN : 140737488351300 ≤ N) {a : Int} {life : List Ropewalklaw17_DoD} (hok : ∀ x ∈ life, ok_Ropewalklaw17_DoD x) (hlen : life.length ≤ 60) {to_ : Nat} (hto : to_ ≤ life.length) {m i : Nat} {es : List (ByteArray × Disk_rowsD)} {l : List EnD} (hr : RelD m es l) (hm : m ≤ 400) (hlt : i < to_) :
    ∃ es' l', m_ropewalklaw17_both_goes_L1 N ((to_ : Nat) : Int) life a a (((i : Nat) : Int), es, l) = some (.inl (((i + 1 : Nat) : Int), es', l')) ∧ RelD (m + 1) es' l' := by
  have hx : life[i]? = some life[i] := List.getElem?_eq_getElem (by omega)
  obtain ⟨_, o1, o2, ⟨o3, o4⟩, _⟩ := hok life[i] (List.getElem_mem _)
  obtain ⟨c, es', l', e1, hr'⟩ := errors_rel hN hr (by omega) (a := a) (op := life[i].op) (n := life[i].n) o1 o2 o3 (okB_of o4)
  refine ⟨es', l', ?_, hr'⟩
  unfold m_ropewalklaw17_both_goes_L1
  dsimp only
  rw [if_pos (by simpa using hlt), gd_pos (by omega), show ((i : Nat) : Int).toNat = i from by omega, hx]
  simp only [bindO_pure]
  rw [e1]
  simp only [bindO_pure]
  have hc : m_ropewalklaw17_both_goes_C2 N ((c : Nat) : Int) c es' a a l' ((i : Nat) : Int) life = some (es', false) := by
    unfold m_ropewalklaw17_both_goes_C2
    rw [if_neg (by simp), agree_eq hN hr' (by omega)]
    simp only [bindO_pure, Bool.not_true, Bool.false_eq_true, if_false]
    rw [gd_pos (by omega), show ((i : Nat) : Int).toNat = i from by omega, hx]
    simp only [bindO_pure]
    rw [file_eq hN hr' (by omega)]
    rfl
  rw [hc, bindO_pure]
  dsimp only
  rw [if_neg (by simp)]
  have hb : -9223372036854775808 ≤ ((i : Nat) : Int) + 1 ∧ ((i : Nat) : Int) + 1 ≤ 9223372036854775807 := by omega
  rw [gd_pos hb, show ((i : Nat) : Int) + 1 = ((i + 1 : Nat) : Int) from by omega]
theorem goes_go {N : Nat} (hN : 140737488351300 ≤ N) {a : Int} {life : List Ropewalklaw17_DoD} (hok : ∀ x ∈ life, ok_Ropewalklaw17_DoD x) (hlen : life.length ≤ 60) {to_ : Nat} (hto : to_ ≤ life.length) (n : Nat) : ∀ (m i : Nat) (es : List (ByteArray × Disk_rowsD)) (l : List EnD), to_ - i < n → RelD m es l → m + (to_ - i) ≤ 400 → i ≤ to_ →
    ∃ es' l', iter (m_ropewalklaw17_both_goes_L1 N ((to_ : Nat) : Int) life a a) n (((i : Nat) : Int), es, l) = some (.inl (es', l')) ∧ RelD (m + (to_ - i)) es' l' := by
  induction n with
  | zero => intro m i es l h; omega
  | succ n ih =>
    intro m i es l h hr hm hi
    by_cases hlt : i < to_
    · obtain ⟨es', l', hst, hr'⟩ := goes_step hN hok hlen hto hr (by omega) hlt (a := a)
      rw [iter_step hst]
      obtain ⟨es2, l2, e2, hr2⟩ := ih (m + 1) (i + 1) es' l' (by omega) hr' (by omega) (by omega)
      exact ⟨es2, l2, e2, hr2.mono (by omega)⟩
    · refine ⟨es, l, iter_stop ?_, hr.mono (by omega)⟩
      unfold m_ropewalklaw17_both_goes_L1
      dsimp only
      rw [if_neg (by simp; omega)]
theorem goes_eq {N : Nat} (hN : 140737488351300 ≤ N) {a : Int} {life : List Ropewalklaw17_DoD} (hok : ∀ x ∈ life, ok_Ropewalklaw17_DoD x) (hlen : life.length ≤ 60) {to_ i m : Nat} (hto : to_ ≤ life.length) (hi : i ≤ to_) {es : List (ByteArray × Disk_rowsD)} {l : List EnD} (hr : RelD m es l) (hm : m + (to_ - i) ≤ 400) :
    ∃ es' l', m_ropewalklaw17_both_goes N a es a l life ((i : Nat) : Int) ((to_ : Nat) : Int) = some (true, es', l') ∧ RelD (m + (to_ - i)) es' l' := by
  obtain ⟨es', l', e, hr'⟩ := goes_go hN hok hlen hto N m i es l (by omega) hr hm hi (a := a)
  unfold m_ropewalklaw17_both_goes
  rw [e]
  exact ⟨es', l', rfl, hr'⟩
theorem rel_nil : RelD 0 [] [] := ⟨List.Pairwise.nil, List.Perm.refl _, fun x hx => (by cases hx), Nat.le_refl _⟩
theorem refnew_eq {N : Nat} (a : Int) : m_ropewalkref17_New N a = some (maxI a 0) := by
  unfold m_ropewalkref17_New maxI
  by_cases h : a < 0
  · rw [if_pos (by simpa using h)]; simp only [bindO_pure]; split <;> first | rfl | (congr 1; omega)
  · rw [if_neg (by simpa using h)]; simp only [bindO_pure]; split <;> first | rfl | (congr 1; omega)
theorem begin_eq {N : Nat} (a : Int) : m_ropewalklaw17_begin N a = some (maxI a 0) := by
  unfold m_ropewalklaw17_begin m_disk_New
  rw [refnew_eq]; rfl
end Go.Proofs.Ytkakbckmajdggaa
