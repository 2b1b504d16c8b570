import Derived.Test.YtkakbckmajdggaaDiskR
namespace Go.Proofs.Ytkakbckmajdggaa
open Go Go.RowKit
def signs : ByteArray := ⟨#[97, 98, 99, 100, 101, 102, 103, 104, 105, 106, 107, 108, 109, 110, 111, 112, 113, 114, 115, 116, 117, 118, 119, 120, 121, 122, 48, 49, 50, 51, 52, 53, 54, 55, 56, 57, 46, 45]⟩
def hits (b : UInt8) (k : Nat) : Nat := (signs.data.toList.drop k).countP (fun s => b.toNat == s.toNat)
theorem signs_len : signs.data.toList.length = 38 := by rfl
theorem hits_all : ∀ n : Nat, n < 256 → (signs.data.toList.countP fun s => n == s.toNat) = if okByte (UInt8.ofNat n) = true then 1 else 0 := by decide +kernel
theorem hits_zero (b : UInt8) : hits b 0 = if okByte b = true then 1 else 0 := by
  have := hits_all b.toNat (UInt8.toNat_lt b)
  rw [UInt8.ofNat_toNat] at this
  exact this
theorem fit2_go {N : Nat} {a : ByteArray} {i : Nat} {b : UInt8} (hb : a.data.toList[i]? = some b) : ∀ n k g, 38 - k < n → k ≤ 38 → g + (38 - k) ≤ 9223372036854775807 → iter (m_ropewalkref17_fit_L2 N a i) n (k, g) = some (g + hits b k)
  | 0, _, _, h, _, _ => by omega
  | n + 1, k, g, h, hk, hg => by
    by_cases hlt : k < 38
    · have hx : signs.data.toList[k]? = some signs.data.toList[k] := List.getElem?_eq_getElem (by rw [signs_len]; exact hlt)
      have hd : signs.data.toList.drop k = signs.data.toList[k] :: signs.data.toList.drop (k + 1) := List.drop_eq_getElem_cons (by rw [signs_len]; exact hlt)
      have hh : hits b k = (if (b.toNat == (signs.data.toList[k]).toNat) = true then 1 else 0) + hits b (k + 1) := by
        unfold hits
        rw [hd, List.countP_cons]; omega
      have hst : m_ropewalkref17_fit_L2 N a i (k, g) = some (.inl (k + 1, g + if (b.toNat == (signs.data.toList[k]).toNat) = true then 1 else 0)) := by
        unfold m_ropewalkref17_fit_L2
        dsimp only
        rw [if_pos (by show decide (k < 38) = true; simpa using hlt), bget, hb]
        simp only [bindO_pure]
        rw [show (⟨#[97, 98, 99, 100, 101, 102, 103, 104, 105, 106, 107, 108, 109, 110, 111, 112, 113, 114, 115, 116, 117, 118, 119, 120, 121, 122, 48, 49, 50, 51, 52, 53, 54, 55, 56, 57, 46, 45]⟩ : ByteArray) = signs from rfl, bget, hx]
        simp only [bindO_pure]
        by_cases e : (b.toNat == (signs.data.toList[k]).toNat) = true
        · rw [if_pos e, if_pos e, gd_pos (by omega)]
          simp only [bindO_pure]
          rw [gd_pos (by omega)]
        · rw [if_neg e, if_neg e]
          simp only [bindO_pure]
          rw [gd_pos (by omega)]; rfl
      rw [iter_step hst, fit2_go hb n (k + 1) _ (by omega) (by omega) (by split <;> omega), hh]
      congr 1; omega
    · have : k = 38 := by omega
      subst this
      have : hits b 38 = 0 := by unfold hits; rw [List.drop_eq_nil_of_le (by rw [signs_len]; omega)]; rfl
      rw [this]
      exact iter_stop (by unfold m_ropewalkref17_fit_L2; dsimp only; rw [if_neg (by show ¬ decide (38 < 38) = true; simp)]; rfl)
theorem fit1_go {N : Nat} (hN : 100 ≤ N) {a : ByteArray} (ha : a.size ≤ 140737488351232) : ∀ n i g, a.size - i < n → i ≤ a.size → g ≤ i → iter (m_ropewalkref17_fit_L1 N a) n (i, g) = some (g + (a.data.toList.drop i).countP okByte)
  | 0, _, _, h, _, _ => by omega
  | n + 1, i, g, h, hi, hg => by
    have hlen : a.data.toList.length = a.size := by rw [Array.length_toList]; rfl
    by_cases hlt : i < a.size
    · have hx : a.data.toList[i]? = some a.data.toList[i] := List.getElem?_eq_getElem (by rw [hlen]; exact hlt)
      have hd : a.data.toList.drop i = a.data.toList[i] :: a.data.toList.drop (i + 1) := List.drop_eq_getElem_cons (by rw [hlen]; exact hlt)
      have hst : m_ropewalkref17_fit_L1 N a (i, g) = some (.inl (i + 1, g + if okByte a.data.toList[i] = true then 1 else 0)) := by
        unfold m_ropewalkref17_fit_L1
        dsimp only
        rw [if_pos (by simpa using hlt), fit2_go hx N 0 g (by omega) (by omega) (by omega), hits_zero]
        simp only [bindO_pure]
        rw [gd_pos (by omega)]
      rw [iter_step hst, fit1_go hN ha n (i + 1) _ (by omega) (by omega) (by split <;> omega), hd, List.countP_cons]
      congr 1; omega
    · have : i = a.size := by omega
      subst this
      rw [List.drop_eq_nil_of_le (by rw [hlen]; exact Nat.le_refl _)]
      exact iter_stop (by unfold m_ropewalkref17_fit_L1; dsimp only; rw [if_neg (by simp)]; rfl)
theorem reffit_eq {N : Nat} (hN : 140737488351300 ≤ N) {a : ByteArray} (ha : a.size ≤ 140737488351232) : m_ropewalkref17_fit N a = some (fitB a) := by
  have hlen : a.data.toList.length = a.size := by rw [Array.length_toList]; rfl
  unfold m_ropewalkref17_fit
  rw [fit1_go (by omega) ha N 0 0 (by omega) (Nat.zero_le _) (Nat.le_refl _)]
  simp only [bindO_pure, Nat.zero_add, List.drop_zero]
  have hle : a.data.toList.countP okByte ≤ a.size := by rw [← hlen]; exact List.countP_le_length
  unfold fitB
  by_cases e : a.data.toList.countP okByte = a.size
  · have hall : a.data.toList.all okByte = true := by
      rw [List.all_eq_true]
      exact List.countP_eq_length.1 (by rw [e, hlen])
    rw [if_pos (by simpa using e), hall, e]
    by_cases h0 : 0 < a.size
    · rw [if_pos (by simpa using h0)]; simp [h0]
    · rw [if_neg (by simpa using h0)]; simp; omega
  · have hall : a.data.toList.all okByte = false := by
      rw [Bool.eq_false_iff]
      intro h
      rw [List.all_eq_true] at h
      exact e (by rw [List.countP_eq_length.2 h, hlen])
    rw [if_neg (by simpa using e), hall, Bool.and_false]
theorem whole_eq {N : Nat} {n f l : ByteArray} (h : f.size + l.size ≤ 9223372036854775807) : m_ropewalkref17_entry_whole N n f l = some () := by
  unfold m_ropewalkref17_entry_whole
  rw [gd_pos h]
def sizeN (x : EnD) : Nat := (x.firm ++ x.loose).size
theorem refused_go {N : Nat} {l : List EnD} (hl : (l.map sizeN).sum ≤ 9000000000000000000) (hl2 : l.length ≤ 1000000) : ∀ n i g, l.length - i < n → i ≤ l.length → g + ((l.drop i).map sizeN).sum = (l.map sizeN).sum → iter (m_ropewalkref17_Disk_Used_L1 N l) n (i, g) = some (l.map sizeN).sum
  | 0, _, _, h, _, _ => by omega
  | n + 1, i, g, h, hi, hg => by
    by_cases hlt : i < l.length
    · have hx : l[i]? = some l[i] := List.getElem?_eq_getElem hlt
      have hd : l.drop i = l[i] :: l.drop (i + 1) := List.drop_eq_getElem_cons hlt
      rw [hd, List.map_cons, List.sum_cons] at hg
      have hsz : sizeN l[i] = l[i].firm.size + l[i].loose.size := by unfold sizeN; rw [ByteArray.size_append]
      have hst : m_ropewalkref17_Disk_Used_L1 N l (i, g) = some (.inl (i + 1, g + sizeN l[i])) := by
        unfold m_ropewalkref17_Disk_Used_L1
        dsimp only
        rw [if_pos (by simpa using hlt), hx]
        simp only [bindO_pure]
        rw [whole_eq (by omega)]
        simp only [bindO_pure]
        rw [gd_pos (show g + (l[i].firm ++ l[i].loose).size ≤ 9223372036854775807 from (by have : g + sizeN l[i] ≤ 9223372036854775807 := (by omega); exact this)), gd_pos (by omega)]
        rfl
      rw [iter_step hst]
      exact refused_go hl hl2 n (i + 1) _ (by omega) (by omega) (by omega)
    · have : i = l.length := by omega
      subst this
      rw [List.drop_length] at hg
      have hg' : g = (l.map sizeN).sum := by simpa using hg
      rw [← hg']
      exact iter_stop (by unfold m_ropewalkref17_Disk_Used_L1; dsimp only; rw [if_neg (by simp)])
theorem sizeN_conv (x : ByteArray × Disk_rowsD) : sizeN (convE x) = sizeR x.2 := by
  unfold sizeN convE sizeR
  rw [ByteArray.size_append, strOfNums_size, strOfNums_size]
theorem RelD.sum {m : Nat} {es : List (ByteArray × Disk_rowsD)} {l : List EnD} (h : RelD m es l) : (l.map sizeN).sum = usedE es := by
  rw [List.Perm.sum_nat (h.pe.map sizeN), List.map_map]
  unfold usedE
  congr 1
  exact List.map_congr_left fun x _ => sizeN_conv x
theorem refused_eq {N : Nat} {m : Nat} {es : List (ByteArray × Disk_rowsD)} {l : List EnD} {a : Int} (h : RelD m es l) (hm : m ≤ 1000) (hN : 2000 ≤ N) : m_ropewalkref17_Disk_Used N a l = some (usedE es) := by
  have hu := h.used
  have hl := h.len
  have hle := h.le
  unfold m_ropewalkref17_Disk_Used
  rw [refused_go (by rw [h.sum]; omega) (by omega) N 0 0 (by omega) (Nat.zero_le _) (by simp), h.sum]
  rfl
theorem less_eq (s t : ByteArray) : Op.bytesLess s.toList t.toList = ltB s t := by
  rw [bytesLess_eq, btl, btl]; rfl
def later (told : List ByteArray) (x : ByteArray) : Bool := match told.getLast? with
  | none => true
  | some y => ltB y x
def pickL (told : List ByteArray) (cur x : ByteArray) : ByteArray := if (later told x && (decide (cur = ⟨#[]⟩) || ltB x cur)) = true then x else cur
theorem not_le {s t : ByteArray} : (!(ltB s t || decide (s = t))) = ltB t s := by
  by_cases e : s = t
  · subst e; simp [ltB_irrefl]
  · cases h : ltB s t with
    | true => simp [ltB_asymm h]
    | false => simp [e, ltB_total h e]
theorem C3_eq {N : Nat} {l : List EnD} {i : Nat} {told : List ByteArray} {cur : ByteArray} {x : EnD} (hx : l[i]? = some x) (ht : told.length ≤ 1000000) : m_ropewalkref17_Disk_List_C3 N l i told cur = some (pickL told cur x.name) := by
  unfold m_ropewalkref17_Disk_List_C3
  rw [hx]
  simp only [bindO_pure]
  have h1 : (if (told.length == 0) = true then some true else gd (-9223372036854775808 ≤ ((told.length : Nat) : Int) - 1 ∧ ((told.length : Nat) : Int) - 1 ≤ 9223372036854775807) <| gd (0 ≤ ((told.length : Nat) : Int) - 1) <| bindO (told[(((told.length : Nat) : Int) - 1).toNat]?) fun x35 => some (!(Op.bytesLess x.name.toList x35.toList || x.name.toList == x35.toList))) = some (later told x.name) := by
    unfold later
    rw [List.getLast?_eq_getElem?]
    by_cases h0 : told.length = 0
    · rw [if_pos (by simpa using h0)]
      have : told = [] := List.length_eq_zero_iff.1 h0
      subst this; rfl
    · rw [if_neg (by simpa using h0), gd_pos (by omega), gd_pos (by omega), show (((told.length : Nat) : Int) - 1).toNat = told.length - 1 from by omega]
      rw [List.getElem?_eq_getElem (by omega)]
      simp only [bindO_pure, less_eq, beq_bytes, not_le]
  rw [h1]
  simp only [bindO_pure, less_eq, beq_bytes]
  unfold pickL
  cases later told x.name
  · simp [bindO]
  · by_cases e : cur = ⟨#[]⟩
    · simp [bindO, e]
    · simp only [e, decide_false, Bool.false_eq_true, if_false, if_true, bindO_pure, Bool.false_or, Bool.true_and]
      split <;> rfl
theorem L2_go {N : Nat} {l : List EnD} {told : List ByteArray} (ht : told.length ≤ 1000000) (hl : l.length ≤ 1000000) : ∀ n i cur, l.length - i < n → i ≤ l.length → iter (m_ropewalkref17_Disk_List_L2 N l told) n (i, cur) = some (((l.drop i).map fun x => x.name).foldl (pickL told) cur)
  | 0, _, _, h, _ => by omega
  | n + 1, i, cur, h, hi => by
    by_cases hlt : i < l.length
    · have hx : l[i]? = some l[i] := List.getElem?_eq_getElem hlt
      have hd : l.drop i = l[i] :: l.drop (i + 1) := List.drop_eq_getElem_cons hlt
      have hst : m_ropewalkref17_Disk_List_L2 N l told (i, cur) = some (.inl (i + 1, pickL told cur l[i].name)) := by
        unfold m_ropewalkref17_Disk_List_L2
        dsimp only
        rw [if_pos (by simpa using hlt), C3_eq hx ht]
        simp only [bindO_pure]
        rw [gd_pos (by omega)]
      rw [iter_step hst, L2_go ht hl n (i + 1) _ (by omega) (by omega), hd, List.map_cons, List.foldl_cons]
    · have : i = l.length := by omega
      subst this
      rw [List.drop_length]
      exact iter_stop (by unfold m_ropewalkref17_Disk_List_L2; dsimp only; rw [if_neg (by simp)]; rfl)
theorem scan (told : List ByteArray) : ∀ (ns seen : List ByteArray) (cur : ByteArray), (∀ x ∈ ns, x ≠ ⟨#[]⟩) →
    (cur = ⟨#[]⟩ ∧ (∀ x ∈ seen, later told x = false) ∨ (cur ∈ seen ∧ later told cur = true ∧ ∀ x ∈ seen, later told x = true → ltB x cur = false) ∧ cur ≠ ⟨#[]⟩) →
    (ns.foldl (pickL told) cur = ⟨#[]⟩ ∧ (∀ x ∈ seen ++ ns, later told x = false) ∨ (ns.foldl (pickL told) cur ∈ seen ++ ns ∧ later told (ns.foldl (pickL told) cur) = true ∧ ∀ x ∈ seen ++ ns, later told x = true → ltB x (ns.foldl (pickL told) cur) = false) ∧ ns.foldl (pickL told) cur ≠ ⟨#[]⟩)
  | [], seen, cur, _, h => by simpa using h
  | y :: ns, seen, cur, hn, h => by
    have hy := hn y (by simp)
    rw [List.foldl_cons, show seen ++ y :: ns = (seen ++ [y]) ++ ns by simp]
    refine scan told ns (seen ++ [y]) _ (fun x hx => hn x (by simp [hx])) ?_
    unfold pickL
    cases hl : later told y with
    | false =>
      simp only [Bool.false_and, Bool.false_eq_true, if_false]
      rcases h with ⟨h1, h2⟩ | ⟨⟨h1, h2, h3⟩, h4⟩
      · refine .inl ⟨h1, fun x hx => ?_⟩
        rcases List.mem_append.1 hx with hx | hx
        · exact h2 x hx
        · rw [List.mem_singleton.1 hx]; exact hl
      · refine .inr ⟨⟨List.mem_append.2 (.inl h1), h2, fun x hx hlx => ?_⟩, h4⟩
        rcases List.mem_append.1 hx with hx | hx
        · exact h3 x hx hlx
        · rw [List.mem_singleton.1 hx, hl] at hlx; cases hlx
    | true =>
      simp only [Bool.true_and]
      rcases h with ⟨h1, h2⟩ | ⟨⟨h1, h2, h3⟩, h4⟩
      · subst h1
        simp only [decide_true, Bool.true_or, if_true]
        refine .inr ⟨⟨by simp, hl, fun x hx hlx => ?_⟩, hy⟩
        rcases List.mem_append.1 hx with hx | hx
        · rw [h2 x hx] at hlx; cases hlx
        · rw [List.mem_singleton.1 hx]; exact ltB_irrefl y
      · have hd : decide (cur = (⟨#[]⟩ : ByteArray)) = false := by simpa using h4
        rw [hd, Bool.false_or]
        by_cases hc : ltB y cur = true
        · rw [if_pos hc]
          refine .inr ⟨⟨by simp, hl, fun x hx hlx => ?_⟩, hy⟩
          rcases List.mem_append.1 hx with hx | hx
          · cases hxy : ltB x y with
            | false => rfl
            | true =>
              have := h3 x hx hlx
              rw [ltB_trans hxy hc] at this; cases this
          · rw [List.mem_singleton.1 hx]; exact ltB_irrefl y
        · rw [if_neg hc]
          refine .inr ⟨⟨List.mem_append.2 (.inl h1), h2, fun x hx hlx => ?_⟩, h4⟩
          rcases List.mem_append.1 hx with hx | hx
          · exact h3 x hx hlx
          · rw [List.mem_singleton.1 hx]; simpa using hc
theorem list_next {es : List (ByteArray × Disk_rowsD)} {ns told suf : List ByteArray} {k : ByteArray} (hs : SortedE es) (hk : keysE es = told ++ k :: suf) (hm : ∀ x, x ∈ ns ↔ x ∈ keysE es) (hne : ∀ x ∈ ns, x ≠ ⟨#[]⟩) : ns.foldl (pickL told) ⟨#[]⟩ = k := by
  have hp := sorted_keys.1 hs
  rw [hk] at hp hm
  obtain ⟨p1, p2, p3⟩ := List.pairwise_append.1 hp
  obtain ⟨p4, p5⟩ := List.pairwise_cons.1 p2
  have hlk : later told k = true := by
    unfold later
    cases h : told.getLast? with
    | none => rfl
    | some y => exact p3 y (List.mem_of_getLast? h) k (by simp)
  have hlt : ∀ x ∈ told, later told x = false := fun x hx => by
    unfold later
    cases h : told.getLast? with
    | none => rw [List.getLast?_eq_none_iff.1 h] at hx; cases hx
    | some y =>
      obtain ⟨l', rfl⟩ := List.getLast?_eq_some_iff.1 h
      rcases List.mem_append.1 hx with hx | hx
      · exact ltB_asymm ((List.pairwise_append.1 p1).2.2 x hx y (by simp))
      · rw [List.mem_singleton.1 hx]; exact ltB_irrefl y
  have hkm : k ∈ ns := (hm k).2 (by simp)
  rcases scan told ns [] ⟨#[]⟩ hne (.inl ⟨rfl, fun x hx => (by cases hx)⟩) with ⟨_, h2⟩ | ⟨⟨h1, h2, h3⟩, _⟩
  · rw [h2 k (by simpa using hkm)] at hlk; cases hlk
  · rw [List.nil_append] at h1 h3
    have h4 := h3 k hkm hlk
    rcases List.mem_append.1 ((hm _).1 h1) with h5 | h5
    · rw [hlt _ h5] at h2; cases h2
    · rcases List.mem_cons.1 h5 with h5 | h5
      · exact h5
      · rw [p4 _ h5] at h4; cases h4
theorem fit_ne {t : ByteArray} (h : fitB t = true) : t ≠ ⟨#[]⟩ := by
  intro e
  subst e
  revert h
  decide
theorem reflist_go {N : Nat} {m : Nat} {es : List (ByteArray × Disk_rowsD)} {l : List EnD} (h : RelD m es l) (hm : m ≤ 1000) (hN : 2000 ≤ N) : ∀ (suf told : List ByteArray) n, keysE es = told ++ suf → suf.length < n → iter (m_ropewalkref17_Disk_List_L1 N l) n told = some (keysE es)
  | _, _, 0, _, hn => by omega
  | [], told, n + 1, hk, hn => by
    have hlen : told.length = l.length := by rw [h.len]; have := congrArg List.length hk; simp [keysE] at this; omega
    rw [hk, List.append_nil]
    exact iter_stop (by unfold m_ropewalkref17_Disk_List_L1; rw [if_neg (by rw [hlen]; simp)])
  | k :: suf, told, n + 1, hk, hn => by
    have hlen : told.length < l.length ∧ l.length ≤ 1000 := by
      have h1 := h.len
      have h2 := h.le
      have := congrArg List.length hk
      simp [keysE] at this; omega
    have hnm : ∀ x, x ∈ (l.map fun x => x.name) ↔ x ∈ keysE es := fun x => by
      rw [(h.pe.map fun x => x.name).mem_iff, List.map_map]; rfl
    have hst : m_ropewalkref17_Disk_List_L1 N l told = some (.inl (told ++ [k])) := by
      unfold m_ropewalkref17_Disk_List_L1
      rw [if_pos (by simpa using hlen.1), L2_go (by omega) (by omega) N 0 _ (by omega) (Nat.zero_le _), List.drop_zero, list_next h.so hk hnm (fun x hx => by
        obtain ⟨y, hy, rfl⟩ := List.mem_map.1 ((hnm x).1 hx)
        exact fit_ne (h.ok y hy).1)]
      simp only [bindO_pure]
      rw [gd_pos (by simp only [List.length_singleton]; omega)]
    rw [iter_step hst]
    exact reflist_go h hm hN suf (told ++ [k]) n (by rw [hk]; simp) (by simp at hn; omega)
theorem reflist_eq {N : Nat} {m : Nat} {es : List (ByteArray × Disk_rowsD)} {l : List EnD} {a : Int} (h : RelD m es l) (hm : m ≤ 1000) (hN : 2000 ≤ N) : m_ropewalkref17_Disk_List N a l = some (keysE es) := by
  unfold m_ropewalkref17_Disk_List
  have := h.le
  rw [reflist_go h hm hN (keysE es) [] N (by simp) (by simp [keysE]; omega)]
  rfl
theorem sortKeys_eq {es : List (ByteArray × Disk_rowsD)} (hs : SortedE es) : sortKeys es = keysE es := by
  unfold sortKeys
  rw [List.mergeSort_of_pairwise (le := leL) ?_]
  · rw [List.map_map]
    exact List.map_congr_left fun x _ => rfl
  · rw [List.pairwise_map]
    refine hs.imp fun {x y} h => ?_
    simp only [ltB, decide_eq_true_eq] at h
    simp only [leL, decide_eq_true_eq]
    exact List.le_of_lt h
theorem fitB_size {t : ByteArray} (h : fitB t = true) : t.size ≤ 30 := by
  simp only [fitB, Bool.and_eq_true, decide_eq_true_eq] at h
  exact h.1.2
theorem RelD.fits {m : Nat} {es : List (ByteArray × Disk_rowsD)} {l : List EnD} (h : RelD m es l) (hm : m ≤ 1000) : fitKeys es = true := by
  have := h.le
  unfold fitKeys
  rw [Bool.and_eq_true, List.all_eq_true]
  refine ⟨fun x hx => ?_, by simp; omega⟩
  have := fitB_size (h.ok x hx).1
  exact decide_eq_true (Nat.le_trans this (by decide))
end Go.Proofs.Ytkakbckmajdggaa
