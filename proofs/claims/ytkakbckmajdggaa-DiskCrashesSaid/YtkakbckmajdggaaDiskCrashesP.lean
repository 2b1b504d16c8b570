/- DiskCrashes, plain. -/
import Derived.Test.YtkakbckmajdggaaDiskS
namespace Go.Proofs.Ytkakbckmajdggaa
open Go Go.RowKit
def nm (i : Nat) : ByteArray := strOfNums [102, IntKind.wrap .u8 ((97 + i : Nat) : Int)]
theorem nm_fit : ∀ i : Nat, i < 20 → fitB (nm i) = true := by decide +kernel
theorem nm_lt : ∀ i : Nat, i < 20 → ∀ j : Nat, j < i → ltB (nm j) (nm i) = true := by decide +kernel
theorem nm_inj {i j : Nat} (hi : i < 20) (hj : j < 20) (h : nm i = nm j) : i = j := by
  rcases Nat.lt_trichotomy i j with h1 | h1 | h1
  · exact absurd h (ltB_ne (nm_lt j hj i h1))
  · exact h1
  · exact absurd h.symm (ltB_ne (nm_lt i hi j h1))
def ES (n : Nat) (f : Nat → Disk_rowsD) : List (ByteArray × Disk_rowsD) := (List.range n).map fun k => (nm k, f k)
def NS (n : Nat) : List ByteArray := (List.range n).map nm
theorem ES_keys (n : Nat) (f : Nat → Disk_rowsD) : keysE (ES n f) = NS n := by unfold keysE ES NS; rw [List.map_map]; rfl
theorem ES_congr {n : Nat} {f g : Nat → Disk_rowsD} (h : ∀ k, k < n → f k = g k) : ES n f = ES n g := List.map_congr_left fun k hk => by rw [h k (List.mem_range.1 hk)]
theorem ES_succ (n : Nat) (f : Nat → Disk_rowsD) : ES (n + 1) f = ES n f ++ [(nm n, f n)] := by unfold ES; rw [List.range_succ, List.map_append]; rfl
theorem NS_succ (n : Nat) : NS (n + 1) = NS n ++ [nm n] := by unfold NS; rw [List.range_succ, List.map_append]; rfl
theorem NS_len (n : Nat) : (NS n).length = n := by unfold NS; simp
theorem NS_at {n i : Nat} (h : i < n) : (NS n)[i]? = some (nm i) := by unfold NS; rw [List.getElem?_map, List.getElem?_range h]; rfl
theorem ES_sorted {n : Nat} (hn : n ≤ 20) (f : Nat → Disk_rowsD) : SortedE (ES n f) := by
  unfold SortedE ES
  rw [List.pairwise_map]
  refine List.Pairwise.imp_of_mem (fun {a b} _ hb hab => ?_) List.pairwise_lt_range
  exact nm_lt b (by have := List.mem_range.1 hb; omega) a hab
theorem ES_look {n i : Nat} (hn : n ≤ 20) (hi : i < n) (f : Nat → Disk_rowsD) : mlook (nm i) (ES n f) = some (f i) :=
  (mlook_iff (ES_sorted hn f).nodup).2 (List.mem_map.2 ⟨i, List.mem_range.2 hi, rfl⟩)
theorem ES_none {n : Nat} (hn : n < 20) (f : Nat → Disk_rowsD) : mlook (nm n) (ES n f) = none := by
  cases h : mlook (nm n) (ES n f) with
  | none => rfl
  | some r =>
    obtain ⟨k, hk, e⟩ := List.mem_map.1 (mlook_mem h)
    have hk := List.mem_range.1 hk
    have := nm_inj (by omega) hn (congrArg Prod.fst e)
    omega
theorem mins_end {t : ByteArray} {r : Disk_rowsD} : ∀ {es : List (ByteArray × Disk_rowsD)}, (∀ y ∈ es, ltB t y.1 = false) → mins ltB t r es = es ++ [(t, r)]
  | [], _ => rfl
  | y :: es, h => by
    unfold mins
    rw [if_neg (by rw [h y (by simp)]; simp), mins_end fun z hz => h z (by simp [hz])]
    rfl
theorem put_new {n : Nat} (hn : n < 20) (f : Nat → Disk_rowsD) (r : Disk_rowsD) : mputP ltB (nm n) r (ES n f) = ES (n + 1) fun k => if k = n then r else f k := by
  unfold mputP
  rw [ES_none hn]
  simp only
  rw [mins_end fun y hy => by
    obtain ⟨k, hk, rfl⟩ := List.mem_map.1 hy
    exact ltB_asymm (nm_lt n hn k (List.mem_range.1 hk))]
  rw [ES_succ, if_pos rfl]
  congr 1
  exact ES_congr fun k hk => by rw [if_neg (by omega)]
theorem put_old {n i : Nat} (hn : n ≤ 20) (hi : i < n) (f : Nat → Disk_rowsD) (r : Disk_rowsD) : mputP ltB (nm i) r (ES n f) = ES n fun k => if k = i then r else f k := by
  unfold mputP
  rw [ES_look hn hi]
  simp only
  have h := mput_map (f := fun _ => r) (g := fun _ => false) (ES_sorted hn f).nodup (ES_look hn hi f) rfl
  have h0 : (ES n f).map (fun y => (y.1, if (fun _ : ByteArray => false) y.1 = true then (fun _ => r) y.2 else y.2)) = ES n f := by simp
  rw [h0] at h
  rw [h]
  unfold ES
  rw [List.map_map]
  refine List.map_congr_left fun k hk => ?_
  have hk := List.mem_range.1 hk
  simp only [Function.comp, Bool.false_or]
  by_cases e : k = i
  · subst e; simp
  · rw [if_neg e, if_neg (by simpa using fun e2 => e (nm_inj (by omega) (by omega) e2))]
theorem usedES {B : Nat} : ∀ {n : Nat} {f : Nat → Disk_rowsD}, (∀ k, k < n → sizeR (f k) ≤ B) → usedE (ES n f) ≤ n * B
  | 0, _, _ => by simp [usedE, ES]
  | n + 1, f, h => by
    have h1 := usedES (n := n) (f := f) fun k hk => h k (by omega)
    have h2 := h n (by omega)
    have h3 : usedE (ES (n + 1) f) = usedE (ES n f) + sizeR (f n) := by
      unfold usedE
      rw [ES_succ, List.map_append, List.sum_append]; simp
    rw [h3, Nat.succ_mul]; omega
theorem ES_fits {n : Nat} (hn : n ≤ 20) (f : Nat → Disk_rowsD) : fitKeys (ES n f) = true := by
  unfold fitKeys
  rw [Bool.and_eq_true, List.all_eq_true]
  refine ⟨fun x hx => ?_, by unfold ES; simp; omega⟩
  obtain ⟨k, hk, rfl⟩ := List.mem_map.1 hx
  have := fitB_size (nm_fit k (by have := List.mem_range.1 hk; omega))
  exact decide_eq_true (Nat.le_trans this (by decide))
theorem app_any {N : Nat} (hN : 40 ≤ N) {n i : Nat} (hn : n ≤ 20) (hi : i < 20) {f : Nat → Disk_rowsD} (hf : ∀ k, k < n → sizeR (f k) ≤ 4000) {b : List Int} (hb : b.length ≤ 2000) (hr : sizeR (rowE (ES n f) (nm i)) ≤ 4000) :
    m_disk_Disk_Append N 1073741824 (ES n f) (nm i) b = some (0, mputP ltB (nm i) ⟨(rowE (ES n f) (nm i)).firm, (rowE (ES n f) (nm i)).loose ++ b⟩ (ES n f)) := by
  have hu := usedES hf
  have hu2 : n * 4000 ≤ 20 * 4000 := Nat.mul_le_mul_right _ hn
  unfold sizeR at hr
  rw [append_eq hN (ES_sorted hn f).nodup (by omega) (by omega)]
  have hc : appC 1073741824 (ES n f) (nm i) b = 0 := by
    unfold appC
    rw [if_neg (by rw [nm_fit i hi]; simp), if_neg (by rw [List.length_append]; omega), if_neg (by omega)]
  unfold appE
  rw [hc, if_pos rfl]
section
variable (l0 l1 : List (List Int)) (a2 : Int)
def rw_ (k : Nat) : List Int := (l0[k]?).getD []
theorem rw_at {k : Nat} (h : k < l0.length) : l0[k]? = some (rw_ l0 k) := by unfold rw_; rw [List.getElem?_eq_getElem h]; rfl
def F1 (k : Nat) : Disk_rowsD := ⟨rw_ l0 k, []⟩
def G2 (i k : Nat) : Disk_rowsD := ⟨rw_ l0 k, if k < i then rw_ l1 k else []⟩
def W3 (k : Nat) : Disk_rowsD := crashR a2 ⟨rw_ l0 k, if k < l1.length then rw_ l1 k else []⟩
theorem room30 : maxI 1073741824 0 = 1073741824 := by rfl
theorem l1_go {N : Nat} (hN : 9000 ≤ N) (h0 : l0.length ≤ 20) : ∀ n i, l0.length - i < n → i ≤ l0.length → (∀ k, k < i → (rw_ l0 k).length ≤ 2000) →
    iter (m_ropewalklaw17_DiskCrashes_L1 N l0) n (i, NS i, ES i (F1 l0)) = some (.inr true) ∨ iter (m_ropewalklaw17_DiskCrashes_L1 N l0) n (i, NS i, ES i (F1 l0)) = some (.inl (ES l0.length (F1 l0), NS l0.length)) ∧ ∀ k, k < l0.length → (rw_ l0 k).length ≤ 2000
  | 0, _, h, _, _ => by omega
  | n + 1, i, h, hi, hk => by
    by_cases hlt : i < l0.length
    · by_cases hlong : 2000 < (rw_ l0 i).length
      · refine .inl (iter_stop ?_)
        unfold m_ropewalklaw17_DiskCrashes_L1
        dsimp only
        rw [if_pos (by simpa using hlt), rw_at l0 hlt, bindO_pure, if_pos (by simpa using hlong)]
      · have hst : m_ropewalklaw17_DiskCrashes_L1 N l0 (i, NS i, ES i (F1 l0)) = some (.inl (i + 1, NS (i + 1), ES (i + 1) (F1 l0))) := by
          unfold m_ropewalklaw17_DiskCrashes_L1
          dsimp only
          rw [if_pos (by simpa using hlt), rw_at l0 hlt, bindO_pure, if_neg (by simpa using hlong), gd_pos (by omega), gd_pos (by rw [NS_len]; simp only [List.length_singleton]; omega)]
          rw [bindO_pure, room30]
          have hrow : rowE (ES i (F1 l0)) (nm i) = ⟨[], []⟩ := by unfold rowE; rw [ES_none (by omega)]; rfl
          have happ := app_any (N := N) (by omega) (n := i) (i := i) (f := F1 l0) (b := rw_ l0 i) (by omega) (by omega) (fun k hk' => by have := hk k hk'; unfold F1 sizeR; simp only [List.length_nil]; omega) (by omega) (by rw [hrow]; exact Nat.zero_le _)
          rw [hrow, put_new (by omega)] at happ
          show bindO (bindO (m_disk_Disk_Append N 1073741824 (ES i (F1 l0)) (nm i) (rw_ l0 i)) _) _ = _
          rw [happ, bindO_pure]
          dsimp only
          rw [if_neg (by simp)]
          have hlk := ES_look (n := i + 1) (i := i) (by omega) (by omega) (fun k => if k = i then (⟨[], [] ++ rw_ l0 i⟩ : Disk_rowsD) else F1 l0 k)
          have hr2 : rowE (ES (i + 1) fun k => if k = i then (⟨[], [] ++ rw_ l0 i⟩ : Disk_rowsD) else F1 l0 k) (nm i) = ⟨[], rw_ l0 i⟩ := by unfold rowE; rw [hlk, if_pos rfl]; rfl
          show bindO (bindO (m_disk_Disk_Sync N 1073741824 (ES (i + 1) fun k => if k = i then (⟨[], [] ++ rw_ l0 i⟩ : Disk_rowsD) else F1 l0 k) (nm i)) _) _ = _
          rw [sync_eq (by omega) (by unfold sizeE; rw [hr2]; simp only [List.length_nil]; omega), hlk]
          simp only [Option.isSome_some, if_true, bindO_pure]
          rw [hr2, put_old (by omega) (by omega), NS_succ]
          have hcg : (ES (i + 1) fun k => if k = i then (⟨(⟨[], rw_ l0 i⟩ : Disk_rowsD).firm ++ (⟨[], rw_ l0 i⟩ : Disk_rowsD).loose, []⟩ : Disk_rowsD) else if k = i then (⟨[], [] ++ rw_ l0 i⟩ : Disk_rowsD) else F1 l0 k) = ES (i + 1) (F1 l0) := ES_congr fun k _ => by
            by_cases e : k = i
            · subst e; simp [F1]
            · rw [if_neg e, if_neg e]
          rw [hcg, if_neg (by simp), gd_pos (by omega)]
          rfl
        rw [iter_step hst]
        refine l1_go hN h0 n (i + 1) (by omega) (by omega) fun k hk' => ?_
        by_cases e : k = i
        · subst e; omega
        · exact hk k (by omega)
    · have : i = l0.length := by omega
      subst this
      refine .inr ⟨iter_stop ?_, hk⟩
      unfold m_ropewalklaw17_DiskCrashes_L1
      dsimp only
      rw [if_neg (by simp)]
theorem l2_go {N : Nat} (hN : 9000 ≤ N) (h0 : l0.length ≤ 20) (hs0 : ∀ k, k < l0.length → (rw_ l0 k).length ≤ 2000) : ∀ n i, l0.length - i < n → i ≤ l0.length → i ≤ l1.length → (∀ k, k < i → (rw_ l1 k).length ≤ 2000) →
    iter (m_ropewalklaw17_DiskCrashes_L2 N l1 l0 (NS l0.length)) n (i, ES l0.length (G2 l0 l1 i)) = some (.inr true) ∨
      iter (m_ropewalklaw17_DiskCrashes_L2 N l1 l0 (NS l0.length)) n (i, ES l0.length (G2 l0 l1 i)) = some (.inl (ES l0.length (G2 l0 l1 l1.length))) ∧ ∀ k, k < l0.length → k < l1.length → (rw_ l1 k).length ≤ 2000
  | 0, _, h, _, _, _ => by omega
  | n + 1, i, h, hi, hi1, hk => by
    by_cases hlt : i < l0.length ∧ i < l1.length
    · have hd1 : decide (i < l1.length) = true := decide_eq_true hlt.2
      have hd0 : decide (i < l0.length) = true := decide_eq_true hlt.1
      by_cases hlong : 2000 < (rw_ l1 i).length
      · refine .inl (iter_stop ?_)
        unfold m_ropewalklaw17_DiskCrashes_L2
        dsimp only
        rw [if_pos hd1, bindO_pure, if_pos hd0, rw_at l1 hlt.2, bindO_pure, if_pos (by simpa using hlong)]
      · have hst : m_ropewalklaw17_DiskCrashes_L2 N l1 l0 (NS l0.length) (i, ES l0.length (G2 l0 l1 i)) = some (.inl (i + 1, ES l0.length (G2 l0 l1 (i + 1)))) := by
          unfold m_ropewalklaw17_DiskCrashes_L2
          dsimp only
          rw [if_pos hd1, bindO_pure, if_pos hd0, rw_at l1 hlt.2, bindO_pure, if_neg (by simpa using hlong), NS_at hlt.1, bindO_pure, bindO_pure, room30]
          have hlk := ES_look (n := l0.length) (i := i) h0 hlt.1 (G2 l0 l1 i)
          have hrow : rowE (ES l0.length (G2 l0 l1 i)) (nm i) = ⟨rw_ l0 i, []⟩ := by unfold rowE; rw [hlk]; simp [G2]
          have happ := app_any (N := N) (by omega) (n := l0.length) (i := i) (f := G2 l0 l1 i) (b := rw_ l1 i) h0 (by omega) (fun k hk' => by
            have h5 := hs0 k hk'
            unfold G2 sizeR
            simp only
            split
            · rename_i h6
              have := hk k h6; omega
            · simp only [List.length_nil]; omega) (by omega) (by rw [hrow]; unfold sizeR; have := hs0 i hlt.1; simp only [List.length_nil]; omega)
          rw [hrow, put_old h0 hlt.1] at happ
          rw [happ, bindO_pure]
          dsimp only
          rw [if_neg (by simp), gd_pos (by omega)]
          have hcg : (ES l0.length fun k => if k = i then (⟨rw_ l0 i, [] ++ rw_ l1 i⟩ : Disk_rowsD) else G2 l0 l1 i k) = ES l0.length (G2 l0 l1 (i + 1)) := ES_congr fun k _ => by
            unfold G2
            by_cases e : k = i
            · subst e; simp
            · rw [if_neg e]
              by_cases e2 : k < i
              · rw [if_pos e2, if_pos (by omega)]
              · rw [if_neg e2, if_neg (by omega)]
          rw [hcg]
        rw [iter_step hst]
        refine l2_go hN h0 hs0 n (i + 1) (by omega) (by omega) (by omega) fun k hk' => ?_
        by_cases e : k = i
        · subst e; omega
        · exact hk k (by omega)
    · refine .inr ⟨iter_stop ?_, fun k h1 h2 => hk k (by omega)⟩
      have hcg : ES l0.length (G2 l0 l1 i) = ES l0.length (G2 l0 l1 l1.length) := ES_congr fun k hk' => by
        unfold G2
        by_cases e2 : k < i
        · rw [if_pos e2, if_pos (by omega)]
        · rw [if_neg e2, if_neg (by omega)]
      unfold m_ropewalklaw17_DiskCrashes_L2
      dsimp only
      by_cases hd : i < l1.length
      · have hd1 : decide (i < l1.length) = true := decide_eq_true hd
        have hd0 : decide (i < l0.length) = false := decide_eq_false (by omega)
        rw [if_pos hd1, bindO_pure, hd0, if_neg (by simp), hcg]
      · have hd1 : decide (i < l1.length) = false := decide_eq_false hd
        rw [hd1, if_neg (by simp), bindO_pure, if_neg (by simp), hcg]
def sumW (i : Nat) : Nat := ((List.range i).map fun k => (W3 l0 l1 a2 k).firm.length).sum
theorem sumW_succ (i : Nat) : sumW l0 l1 a2 (i + 1) = sumW l0 l1 a2 i + (W3 l0 l1 a2 i).firm.length := by
  unfold sumW
  rw [List.range_succ, List.map_append, List.sum_append]; simp
theorem W3_firm (k : Nat) (hk : k < l1.length) : (W3 l0 l1 a2 k).firm = rw_ l0 k ++ (rw_ l1 k).take (minI (maxI a2 0) (((rw_ l1 k).length : Nat) : Int)).toNat := by
  unfold W3 crashR
  simp only [if_pos hk]
theorem W3_firm_no (k : Nat) (hk : ¬ k < l1.length) : (W3 l0 l1 a2 k).firm = rw_ l0 k := by
  unfold W3 crashR
  simp only [if_neg hk, List.take_nil, List.append_nil]
theorem W3_loose (k : Nat) : W3 l0 l1 a2 k = ⟨(W3 l0 l1 a2 k).firm, []⟩ := rfl
theorem l3_go {N : Nat} (hN : 9000 ≤ N) (h0 : l0.length ≤ 20) (hs0 : ∀ k, k < l0.length → (rw_ l0 k).length ≤ 2000) (hw : ∀ k, k < l0.length → (W3 l0 l1 a2 k).firm.length ≤ 4000) : ∀ n i, l0.length - i < n → i ≤ l0.length → sumW l0 l1 a2 i ≤ i * 4000 →
    iter (m_ropewalklaw17_DiskCrashes_L3 N l0 l1 a2 (NS l0.length)) n (i, sumW l0 l1 a2 i, ES l0.length (W3 l0 l1 a2)) = some (.inl (ES l0.length (W3 l0 l1 a2), sumW l0 l1 a2 l0.length))
  | 0, _, h, _, _ => by omega
  | n + 1, i, h, hi, hs => by
    by_cases hlt : i < l0.length
    · have hst : m_ropewalklaw17_DiskCrashes_L3 N l0 l1 a2 (NS l0.length) (i, sumW l0 l1 a2 i, ES l0.length (W3 l0 l1 a2)) = some (.inl (i + 1, sumW l0 l1 a2 (i + 1), ES l0.length (W3 l0 l1 a2))) := by
        have hwi := hw i hlt
        have h0i := hs0 i hlt
        unfold m_ropewalklaw17_DiskCrashes_L3 m_ropewalkkit_CopyBytes
        dsimp only
        rw [if_pos (by simpa using hlt), rw_at l0 hlt, bindO_pure, gd_pos (by simp only [List.length_nil]; omega), bindO_pure]
        have hc7 : m_ropewalklaw17_DiskCrashes_C7 N i l1 a2 (rw_ l0 i) = some (W3 l0 l1 a2 i).firm := by
          unfold m_ropewalklaw17_DiskCrashes_C7
          by_cases hd : i < l1.length
          · rw [W3_firm l0 l1 a2 i hd] at hwi ⊢
            rw [List.length_append] at hwi
            have h1 : 0 ≤ minI (maxI a2 0) (((rw_ l1 i).length : Nat) : Int) := by unfold minI maxI; split <;> split <;> omega
            have h2 : (minI (maxI a2 0) (((rw_ l1 i).length : Nat) : Int)).toNat ≤ (rw_ l1 i).length := by unfold minI maxI; split <;> split <;> omega
            rw [if_pos (by simpa using hd), rw_at l1 hd, bindO_pure, bindO_pure, gd_pos h1, gd_pos h2, gd_pos (by omega)]
          · rw [W3_firm_no l0 l1 a2 i hd, if_neg (by simpa using hd)]
        rw [hc7, bindO_pure, NS_at hlt, bindO_pure, room30]
        have hlk := ES_look (n := l0.length) (i := i) h0 hlt (W3 l0 l1 a2)
        have hrow : rowE (ES l0.length (W3 l0 l1 a2)) (nm i) = W3 l0 l1 a2 i := by unfold rowE; rw [hlk]; rfl
        rw [read_eq (by omega) (by unfold sizeE; rw [hrow, W3_loose]; simp only [List.length_nil]; omega)]
        have hsome : (mlook (nm i) (ES l0.length (W3 l0 l1 a2))).isSome = true := by rw [hlk]; rfl
        rw [if_pos hsome, bindO_pure, put_same hsome, hrow]
        dsimp only
        have hnil : (W3 l0 l1 a2 i).loose = [] := rfl
        rw [if_neg (by simp), hnil, List.append_nil, same_self _ (by omega) (by omega), bindO_pure, bindO_pure, if_neg (by simp), gd_pos (by omega), gd_pos (by omega), sumW_succ]
      rw [iter_step hst]
      refine l3_go hN h0 hs0 hw n (i + 1) (by omega) (by omega) ?_
      have := hw i hlt
      rw [sumW_succ]; omega
    · have : i = l0.length := by omega
      subst this
      refine iter_stop ?_
      unfold m_ropewalklaw17_DiskCrashes_L3
      dsimp only
      rw [if_neg (by simp)]
theorem ES_crash {n : Nat} {f : Nat → Disk_rowsD} (c : Int) : crashE c (ES n f) = ES n fun k => crashR c (f k) := by
  unfold crashE ES
  rw [List.map_map]; rfl
theorem ES_sum : ∀ n, usedE (ES n (W3 l0 l1 a2)) = sumW l0 l1 a2 n
  | 0 => rfl
  | n + 1 => by
    have h := ES_sum n
    unfold usedE at h ⊢
    rw [ES_succ, List.map_append, List.sum_append, h, sumW_succ, W3_loose]
    simp [sizeR]
theorem crashes_go {N : Nat} (hN : 9000 ≤ N) (h0 : l0.length ≤ 20) (h1 : l1.length ≤ 20) (a3 : Int) : m_ropewalklaw17_DiskCrashes N l0 l1 a2 a3 = some true := by
  have hd0 : decide (20 < l0.length) = false := decide_eq_false (by omega)
  have hd1 : decide (20 < l1.length) = false := decide_eq_false (by omega)
  unfold m_ropewalklaw17_DiskCrashes m_disk_New
  rw [awake_ok (by omega), bindO_pure, if_neg (by simp), hd0, if_neg (by simp), hd1, bindO_pure, if_neg (by simp), bindO_pure, room30]
  have hA := l1_go l0 hN h0 N 0 (by omega) (Nat.zero_le _) (fun k hk => absurd hk (Nat.not_lt_zero k))
  rw [show NS 0 = [] from rfl, show ES 0 (F1 l0) = [] from rfl] at hA
  rcases hA with hA | ⟨hA, hs0⟩
  · rw [hA]; rfl
  rw [hA, bindS_inl]
  dsimp only
  have hg0 : ES l0.length (F1 l0) = ES l0.length (G2 l0 l1 0) := ES_congr fun k _ => by unfold F1 G2; simp
  rw [hg0]
  have hB := l2_go l0 l1 hN h0 hs0 N 0 (by omega) (Nat.zero_le _) (Nat.zero_le _) (fun k hk => absurd hk (Nat.not_lt_zero k))
  rcases hB with hB | ⟨hB, hs1⟩
  · rw [hB]; rfl
  rw [hB, bindS_inl]
  have hszG : ∀ k, k < l0.length → sizeR (G2 l0 l1 l1.length k) ≤ 4000 := fun k hk => by
    have h5 := hs0 k hk
    unfold G2 sizeR
    simp only
    split
    · rename_i h6
      have := hs1 k hk h6; omega
    · simp only [List.length_nil]; omega
  have hallG : ∀ x ∈ ES l0.length (G2 l0 l1 l1.length), sizeR x.2 ≤ 281474976710656 := fun x hx => by
    obtain ⟨k, hk, rfl⟩ := List.mem_map.1 hx
    have := hszG k (List.mem_range.1 hk)
    exact Nat.le_trans this (by decide)
  rw [crash_eq (by omega) (ES_sorted h0 _).nodup hallG, bindO_pure, ES_crash]
  have hW : (fun k => crashR a2 (G2 l0 l1 l1.length k)) = W3 l0 l1 a2 := rfl
  rw [hW, list_eq (ES_fits h0 _), sortKeys_eq (ES_sorted h0 _), ES_keys, bindO_pure, sameT_self _ (by rw [NS_len]; omega) (by rw [NS_len]; omega), bindO_pure, if_neg (by simp)]
  have hw : ∀ k, k < l0.length → (W3 l0 l1 a2 k).firm.length ≤ 4000 := fun k hk => by
    have h5 := hs0 k hk
    by_cases hd : k < l1.length
    · have := hs1 k hk hd
      rw [W3_firm l0 l1 a2 k hd, List.length_append, List.length_take]; omega
    · rw [W3_firm_no l0 l1 a2 k hd]; omega
  have hC := l3_go l0 l1 a2 hN h0 hs0 hw N 0 (by omega) (Nat.zero_le _) (by unfold sumW; simp)
  rw [show sumW l0 l1 a2 0 = 0 from rfl] at hC
  rw [hC, bindS_inl]
  dsimp only
  have hszW : ∀ k, k < l0.length → sizeR (W3 l0 l1 a2 k) ≤ 4000 := fun k hk => by
    rw [W3_loose]
    unfold sizeR
    simp only [List.length_nil]
    exact hw k hk
  have hallW : ∀ x ∈ ES l0.length (W3 l0 l1 a2), sizeR x.2 ≤ 281474976710656 := fun x hx => by
    obtain ⟨k, hk, rfl⟩ := List.mem_map.1 hx
    have := hszW k (List.mem_range.1 hk)
    exact Nat.le_trans this (by decide)
  have hu := usedES hszW
  have hu2 : l0.length * 4000 ≤ 20 * 4000 := Nat.mul_le_mul_right _ h0
  rw [crash_eq (by omega) (ES_sorted h0 _).nodup hallW, bindO_pure, ES_crash]
  have hW2 : (fun k => crashR a3 (W3 l0 l1 a2 k)) = W3 l0 l1 a2 := funext fun k => by
    rw [W3_loose]
    unfold crashR
    simp only [List.take_nil, List.append_nil]
  rw [hW2, used_eq (ES_sorted h0 _).nodup (by omega), bindO_pure, ES_sum, if_pos (by simp), list_eq (ES_fits h0 _), sortKeys_eq (ES_sorted h0 _), ES_keys, bindO_pure, sameT_self _ (by rw [NS_len]; omega) (by rw [NS_len]; omega), bindO_pure]
end
theorem diskcrashes_arg (l0 : List (List Int)) (_ : l0.length ≤ 140737488351232 ∧ ∀ x ∈ l0, (x.length ≤ 140737488351232 ∧ ∀ y ∈ x, inK .u8 y)) (l1 : List (List Int)) (_ : l1.length ≤ 140737488351232 ∧ ∀ x ∈ l1, (x.length ≤ 140737488351232 ∧ ∀ y ∈ x, inK .u8 y)) (a2 : Int) (_ : inK .i64 a2) (a3 : Int) (_ : inK .i64 a3) : m_ropewalklaw17_DiskCrashes 9223372036854775808 l0 l1 a2 a3 = some true := by
  by_cases h0 : l0.length ≤ 20
  · by_cases h1 : l1.length ≤ 20
    · exact crashes_go l0 l1 a2 (by decide) h0 h1 a3
    · unfold m_ropewalklaw17_DiskCrashes
      have hd0 : decide (20 < l0.length) = false := decide_eq_false (by omega)
      have hd1 : decide (20 < l1.length) = true := decide_eq_true (by omega)
      rw [awake_ok (by decide), bindO_pure, if_neg (by simp), hd0, if_neg (by simp), hd1, bindO_pure, if_pos rfl]
  · unfold m_ropewalklaw17_DiskCrashes
    have hd0 : decide (20 < l0.length) = true := decide_eq_true (by omega)
    rw [awake_ok (by decide), bindO_pure, if_neg (by simp), hd0, if_pos rfl, bindO_pure, if_pos rfl]
end Go.Proofs.Ytkakbckmajdggaa
