/- DiskStays, plain. -/
import Derived.Test.YtkakbckmajdggaaDiskQ
namespace Go.Proofs.Ytkakbckmajdggaa
open Go Go.RowKit
def tN : ByteArray := ⟨#[110, 101, 119]⟩
theorem tA_ne_tN : ¬ tA = tN := by decide
theorem tN_ne_tA : ¬ tN = tA := by decide
theorem ltAN : ltB tA tN = true := by decide
theorem room_eq : maxI 1048576 0 = 1048576 := by rfl
section
variable {N : Nat} (hN : 6000 ≤ N) (l0 l1 : List Int) (a2 : Int) (h0 : l0.length ≤ 5000) (h1 : l1.length ≤ 5000)
def st1 (l0 : List Int) : List (ByteArray × Disk_rowsD) := [(tA, ⟨[], l0⟩)]
def st2 (l0 : List Int) : List (ByteArray × Disk_rowsD) := [(tA, ⟨l0, []⟩)]
def st3 (l0 : List Int) (r : Disk_rowsD) : List (ByteArray × Disk_rowsD) := [(tA, ⟨l0, []⟩), (tN, r)]
include hN h0 in
theorem s1 : m_disk_Disk_Append N 1048576 ([] : List (ByteArray × Disk_rowsD)) tA l0 = some (0, st1 l0) := by
  rw [append_eq (by omega) (by simp [keysE]) (by simp [usedE]; omega) (by simp [rowE, mlook]; omega)]
  have hc : appC 1048576 [] tA l0 = 0 := by
    unfold appC
    rw [if_neg (by decide), if_neg (by simp [rowE, mlook]; omega), if_neg (by simp [usedE]; omega)]
  unfold appE
  rw [hc]; rfl
include hN h0 in
theorem s2 : m_disk_Disk_Sync N 1048576 (st1 l0) tA = some (0, st2 l0) := by
  rw [sync_eq (by omega) (by simp [sizeE, rowE, mlook, st1]; omega)]
  simp [st1, st2, mlook, rowE, mputP, mput]
include hN h0 h1 in
theorem s3 : m_disk_Disk_Append N 1048576 (st2 l0) tN l1 = some (0, st3 l0 ⟨[], l1⟩) := by
  rw [append_eq (by omega) (by simp [keysE, st2]) (by simp [usedE, st2, sizeR]; omega) (by simp [rowE, mlook, st2, tA_ne_tN]; omega)]
  have hc : appC 1048576 (st2 l0) tN l1 = 0 := by
    unfold appC
    rw [if_neg (by decide), if_neg (by simp [rowE, mlook, st2, tA_ne_tN]; omega), if_neg (by simp [usedE, st2, sizeR]; omega)]
  unfold appE
  rw [hc]
  simp [st2, st3, mlook, rowE, mputP, mins, tA_ne_tN, ltB_asymm ltAN]
theorem st3_sorted (r : Disk_rowsD) : SortedE (st3 l0 r) := by
  refine List.pairwise_cons.2 ⟨fun y hy => ?_, List.pairwise_cons.2 ⟨fun y hy => (by cases hy), List.Pairwise.nil⟩⟩
  simp only [List.mem_singleton] at hy; subst hy; exact ltAN
include h0 in
theorem s4 (r : Disk_rowsD) (hr : sizeR r ≤ 5000) : m_disk_Disk_Copy_v3 N 1048576 (st3 l0 r) = some (st3 l0 r) :=
  copy_eq (st3_sorted l0 r) (fun x hx => by simp [st3] at hx; rcases hx with rfl | rfl <;> simp [sizeR] at * <;> omega)
include hN h0 in
theorem s5 (a : Int) (r : Disk_rowsD) (hr : sizeR r ≤ 5000) (n : Int) : m_disk_Disk_Crash N a (st3 l0 r) n = some (st3 l0 (crashR n r)) := by
  rw [crash_eq (by omega) (st3_sorted l0 r).nodup (fun x hx => by simp [st3] at hx; rcases hx with rfl | rfl <;> simp [sizeR] at * <;> omega)]
  simp [crashE, st3, crashR]
include hN h0 in
theorem s6 (a : Int) (r : Disk_rowsD) : m_disk_Disk_Read N a (st3 l0 r) tA = some (l0, 0, st3 l0 r) := by
  rw [read_eq (by omega) (by simp [sizeE, rowE, mlook, st3]; omega)]
  simp [st3, mlook, rowE, mputP, mput]
include hN h1 in
theorem s7 : m_disk_Disk_Sync N 1048576 (st3 l0 ⟨[], l1⟩) tN = some (0, st3 l0 ⟨l1, []⟩) := by
  rw [sync_eq (by omega) (by simp [sizeE, rowE, mlook, st3, tA_ne_tN]; omega)]
  simp [st3, mlook, rowE, mputP, mput, tA_ne_tN]
include hN in
theorem s8 (r : Disk_rowsD) : m_disk_Disk_Rename_v3 N 1048576 (st3 l0 r) tN tA = some (0, [(tA, r)]) := by
  rw [rename_eq (by omega)]
  rw [if_neg (by decide), if_neg (by simp [st3, mlook, tA_ne_tN]), if_neg tN_ne_tA]
  simp [renE, st3, mlook, rowE, mputP, mput, mdel, tA_ne_tN]
include hN in
theorem s9 (a n : Int) (r : Disk_rowsD) (hr : sizeR r ≤ 5000) : m_disk_Disk_Crash N a [(tA, r)] n = some [(tA, crashR n r)] := by
  rw [crash_eq (by omega) (by simp [keysE]) (fun x hx => by simp at hx; subst hx; simp at *; omega)]
  rfl
include hN in
theorem s10 (a : Int) (r : Disk_rowsD) (hr : sizeR r ≤ 5000) : m_disk_Disk_Read N a [(tA, r)] tA = some (r.firm ++ r.loose, 0, [(tA, r)]) := by
  rw [read_eq (by omega) (by simp [sizeE, rowE, mlook]; unfold sizeR at hr; omega)]
  simp [mlook, rowE, mputP, mput]
include hN h0 h1 in
theorem stays_go (a3 : Bool) : m_ropewalklaw17_DiskStays N l0 l1 a2 a3 = some true := by
  have hd0 : decide (5000 < l0.length) = false := by simp; omega
  have hd1 : decide (5000 < l1.length) = false := by simp; omega
  have hr1 : sizeR ⟨[], l1⟩ ≤ 5000 := by simp [sizeR]; exact h1
  unfold m_ropewalklaw17_DiskStays m_disk_New
  rw [awake_ok (by omega)]
  simp only [bindO_pure, Bool.not_true, Bool.false_eq_true, if_false, hd0, hd1, room_eq, show (⟨#[97]⟩ : ByteArray) = tA from rfl, show (⟨#[110, 101, 119]⟩ : ByteArray) = tN from rfl]
  rw [s1 hN l0 h0, bindO_pure, s2 hN l0 h0, bindO_pure, s3 hN l0 l1 h0 h1, bindO_pure, s4 l0 h0 _ hr1, bindO_pure, s5 hN l0 h0 _ _ hr1, bindO_pure, s6 hN l0 h0, bindO_pure]
  rw [if_neg (by simp), same_self l0 (by omega) (by omega)]
  simp only [bindO_pure, Bool.not_true, Bool.false_eq_true, if_false]
  obtain ⟨r, hr, hsz, hw⟩ : ∃ r : Disk_rowsD, (if a3 = true then bindO (m_disk_Disk_Sync N 1048576 (st3 l0 ⟨[], l1⟩) tN) fun x => some x.2 else some (st3 l0 ⟨[], l1⟩)) = some (st3 l0 r) ∧ sizeR r ≤ 5000 ∧
      (crashR a2 r).firm = (if (!a3) = true then l1.take ((minI (maxI a2 0) ((l1.length : Nat) : Int)).toNat) else l1) := by
    cases a3
    · exact ⟨⟨[], l1⟩, rfl, hr1, by simp [crashR]⟩
    · exact ⟨⟨l1, []⟩, by rw [if_pos rfl, s7 hN l0 l1 h1]; rfl, by simp [sizeR]; exact h1, by simp [crashR]⟩
  rw [hr]
  rw [bindO_pure, s8 hN l0 r, bindO_pure, if_neg (by simp), s9 hN _ _ r hsz, bindO_pure]
  obtain ⟨w, hwd⟩ : ∃ w, (crashR a2 r).firm = w := ⟨_, rfl⟩
  have hcr : crashR a2 r = ⟨w, []⟩ := by rw [← hwd]; rfl
  have hm1 : 0 ≤ minI (maxI a2 0) ((l1.length : Nat) : Int) := by unfold minI maxI; split <;> split <;> omega
  have hm2 : (minI (maxI a2 0) ((l1.length : Nat) : Int)).toNat ≤ l1.length := by unfold minI maxI; split <;> split <;> omega
  have hwl : w.length ≤ 5000 := by
    rw [← hwd, hw]
    split
    · rw [List.length_take]; omega
    · exact h1
  have hsw : sizeR ⟨w, []⟩ ≤ 5000 := by simp [sizeR]; exact hwl
  rw [hcr, s10 hN _ _ hsw]
  simp only [bindO_pure, List.append_nil]
  have hwant : (if (!a3) = true then gd (0 ≤ minI (maxI a2 0) ((l1.length : Nat) : Int)) <| gd ((minI (maxI a2 0) ((l1.length : Nat) : Int)).toNat ≤ l1.length) <| some (l1.take ((minI (maxI a2 0) ((l1.length : Nat) : Int)).toNat)) else some l1) = some w := by
    rw [← hwd, hw]
    split
    · rw [gd_pos hm1, gd_pos hm2]
    · rfl
  rw [hwant, bindO_pure]
  have hC5 : m_ropewalklaw17_DiskStays_C5 N 0 w w [(tA, (⟨w, []⟩ : Disk_rowsD))] = some false := by
    unfold m_ropewalklaw17_DiskStays_C5
    rw [if_neg (by simp), same_self w (by omega) (by omega), bindO_pure, if_neg (by simp), list_eq (by rfl), bindO_pure]
    have hk : sortKeys [(tA, (⟨w, []⟩ : Disk_rowsD))] = [(⟨#[97]⟩ : ByteArray)] := by simp [sortKeys, strBA, tA]
    rw [hk, sameT_self _ (by simp; omega) (by simp)]
    rfl
  rw [hC5, bindO_pure, if_neg (by simp), gd_pos (by omega)]
  obtain ⟨k, hk, hpk⟩ := pick_eq (N := N) a2 (w.length + 1) (by omega) (by omega)
  rw [hpk, bindO_pure]
  rw [cut_eq (by omega) (by simp [sizeE, rowE, mlook]; omega)]
  have hse : sizeE [(tA, (⟨w, []⟩ : Disk_rowsD))] tA = w.length := by simp [sizeE, rowE, mlook]
  rw [hse, if_neg (by simp [mlook]), if_neg (by omega), bindO_pure]
  have hst : mputP ltB tA ⟨((rowE [(tA, (⟨w, []⟩ : Disk_rowsD))] tA).firm ++ (rowE [(tA, (⟨w, []⟩ : Disk_rowsD))] tA).loose).take ((k : Nat) : Int).toNat, []⟩ [(tA, (⟨w, []⟩ : Disk_rowsD))] = [(tA, ⟨w.take k, []⟩)] := by
    simp [mlook, rowE, mputP, mput]
  rw [hst]
  have htl : sizeR ⟨w.take k, []⟩ ≤ 5000 := by simp [sizeR]; omega
  rw [s9 hN _ _ _ htl, bindO_pure]
  have hct : crashR 0 ⟨w.take k, []⟩ = ⟨w.take k, []⟩ := by simp [crashR]
  rw [hct, s10 hN _ _ htl]
  simp only [bindO_pure, List.append_nil]
  rw [if_neg (by simp), gd_pos (by omega), gd_pos (by omega), show ((k : Nat) : Int).toNat = k from by omega, same_self _ (by rw [List.length_take]; omega) (by rw [List.length_take]; omega)]
  simp only [bindO_pure, Bool.not_true, Bool.false_eq_true, if_false]
  rw [remove_eq, if_neg (by simp [mlook])]
  have hrm : mdel tA (mputP ltB tA (rowE [(tA, (⟨w.take k, []⟩ : Disk_rowsD))] tA) [(tA, (⟨w.take k, []⟩ : Disk_rowsD))]) = [] := by
    simp [mlook, rowE, mputP, mput, mdel]
  simp only [bindO_pure]
  rw [hrm, crash_eq (by omega) (by simp [keysE]) (by simp), bindO_pure, show crashE a2 [] = [] from rfl, list_eq (by rfl), bindO_pure, show sortKeys ([] : List (ByteArray × Disk_rowsD)) = [] from by simp [sortKeys], if_pos (by rfl), used_eq (by simp [keysE]) (by simp [usedE])]
  rfl
end
theorem diskstays_arg (l0 : List Int) (_ : l0.length ≤ 140737488351232 ∧ ∀ x ∈ l0, inK .u8 x) (l1 : List Int) (_ : l1.length ≤ 140737488351232 ∧ ∀ x ∈ l1, inK .u8 x) (a2 : Int) (_ : inK .i64 a2) (a3 : Bool) (_ : True) : m_ropewalklaw17_DiskStays 9223372036854775808 l0 l1 a2 a3 = some true := by
  by_cases h0 : l0.length ≤ 5000
  · by_cases h1 : l1.length ≤ 5000
    · exact stays_go (by decide) l0 l1 a2 h0 h1 a3
    · unfold m_ropewalklaw17_DiskStays
      rw [awake_ok (by decide)]
      have hd0 : decide (5000 < l0.length) = false := by simp; omega
      have hd1 : decide (5000 < l1.length) = true := by simp; omega
      simp only [bindO_pure, Bool.not_true, Bool.false_eq_true, if_false, hd0, hd1, if_true]
  · unfold m_ropewalklaw17_DiskStays
    rw [awake_ok (by decide)]
    have hd0 : decide (5000 < l0.length) = true := by simp; omega
    simp only [bindO_pure, Bool.not_true, Bool.false_eq_true, if_false, hd0, if_true]
end Go.Proofs.Ytkakbckmajdggaa
