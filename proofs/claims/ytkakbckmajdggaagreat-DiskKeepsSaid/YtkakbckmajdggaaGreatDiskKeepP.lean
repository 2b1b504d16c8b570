import Derived.Test.YtkakbckmajdggaaGreatDiskP
import Derived.Test.YtkakbckmajdggaaGreatPlain2
namespace Go.Proofs.YtkakbckmajdggaaGreat
open Go Go.RowKit
section
variable {N : Nat} (hN : 9223372036854775808 ≤ N)
include hN
def mB (z : Int) : Int := z_markByte 1 z
def tailB : List Int := (List.range 12).map fun i => mB ((i : Nat) : Int)
omit hN in
theorem tailB_len : tailB.length = 12 := by simp [tailB]
omit hN in
theorem tailB_at {i : Nat} (h : i < 12) : tailB[i]? = some (mB ((i : Nat) : Int)) := by simp [tailB, h]
theorem lentB_is {l : List Int} (hl : l.length ≤ 1000000) : m_ropewalkkit_LentBytes N l = some (l ++ tailB) := by
  unfold m_ropewalkkit_LentBytes
  rw [gd_pos (by omega), gd_pos (by omega), gd_pos (by simp; omega), iter_push 12 (fun i => mB ((i : Nat) : Int)) l (fun i hi => by
    unfold m_ropewalkkit_LentBytes_L1
    simp only
    rw [if_pos (by simpa using hi), show m_ropewalkkit_markByte N 1 ((i : Nat) : Int) = some () from rfl, bindO_pure, gd_pos (by simp; omega), gd_pos (by omega)]
    rfl) (by unfold m_ropewalkkit_LentBytes_L1; simp only; rw [if_neg (by simp)]) (by omega)]
  rw [bindO_pure, gd_pos (by simp)]; rfl
theorem keptB_is {l : List Int} (hl : l.length ≤ 1000000) : m_ropewalkkit_KeptBytes_W N (l ++ tailB) l.length l = some true := by
  unfold m_ropewalkkit_KeptBytes_W
  rw [if_neg (by simp), gd_pos (by omega), gd_pos (by simp [tailB_len]), iter_look (l.length + 12) (fun i hi => by
    unfold m_ropewalkkit_KeptBytes_W_L1 m_ropewalkkit_KeptBytes_W_C2
    rw [take_all tailB_len, if_pos (by simp [tailB_len]; omega)]
    by_cases h : i < l.length
    · rw [if_pos (by simpa using h), app_l h, bindO_pure, List.getElem?_eq_getElem h, bindO_pure, if_neg (by simp), if_neg (by simp; omega), bindO_pure, if_neg (by simp), gd_pos (by omega)]
    · rw [if_neg (by simpa using h), if_pos (by simp; omega), app_r (by omega), tailB_at (by omega), bindO_pure, gd_pos (by omega), show m_ropewalkkit_markByte N 1 (((i : Nat) : Int) - ((l.length : Nat) : Int)) = some () from rfl, bindO_pure, bindO_pure,
        if_neg (by rw [show (((i - l.length : Nat) : Int)) = ((i : Nat) : Int) - ((l.length : Nat) : Int) by omega]; simp [mB, z_markByte]), gd_pos (by omega)])
    (by unfold m_ropewalkkit_KeptBytes_W_L1; rw [take_all tailB_len, if_neg (by simp [tailB_len])]) (by omega)]
  rfl
theorem overB_is {l : List Int} {k : Nat} (hk : k + 12 ≤ l.length) (hl : l.length ≤ 1000000) : ∃ o, m_ropewalkkit_OverBytes_V N l k = some o := by
  unfold m_ropewalkkit_OverBytes_V
  rw [gd_pos (by omega), gd_pos hk]
  obtain ⟨o, h1, _⟩ := iter_inv (f := m_ropewalkkit_OverBytes_V_L1 N k) (fun s => s.1 ≤ k + 12 ∧ s.2.length = l.length) (fun s => k + 12 - s.1) (fun _ => True) (fun s hs => by
    obtain ⟨i, m⟩ := s
    obtain ⟨q1, q2⟩ := hs
    simp only at q1 q2
    unfold m_ropewalkkit_OverBytes_V_L1
    simp only
    by_cases hi : i < k + 12
    · left
      have hm : i < m.length := by omega
      exact ⟨_, by rw [if_pos (by simpa using hi), show m_ropewalkkit_markByte N 2 ((i : Nat) : Int) = some () from rfl, bindO_pure, List.getElem?_eq_getElem hm, bindO_pure, gd_pos hi, gd_pos (by omega)], ⟨by simp only; omega, by simpa using q2⟩, by simp only; omega⟩
    · right
      exact ⟨_, by rw [if_neg (by simpa using hi)], trivial⟩) N (0, l) ⟨by simp, rfl⟩ (by simp only; omega)
  exact ⟨o, h1⟩
theorem turnB_is {l : List Int} (hl : l.length ≤ 1000000) : ∃ o, m_ropewalkkit_TurnBytes_v2 N l = some o := by
  unfold m_ropewalkkit_TurnBytes_v2
  obtain ⟨o, h1, _⟩ := iter_inv (f := m_ropewalkkit_TurnBytes_v2_L1 N) (fun s => s.1 ≤ l.length ∧ s.2.length = l.length) (fun s => l.length - s.1) (fun _ => True) (fun s hs => by
    obtain ⟨i, m⟩ := s
    obtain ⟨q1, q2⟩ := hs
    simp only at q1 q2
    unfold m_ropewalkkit_TurnBytes_v2_L1
    simp only
    by_cases hi : i < m.length
    · left
      exact ⟨_, by rw [if_pos (by simpa using hi), List.getElem?_eq_getElem hi, bindO_pure, bindO_pure, gd_pos (by omega)], ⟨by simp only; omega, by simpa using q2⟩, by simp only; omega⟩
    · right
      exact ⟨_, by rw [if_neg (by simpa using hi)], trivial⟩) N (0, l) ⟨by simp, rfl⟩ (by simp only; omega)
  exact ⟨o, h1⟩
theorem sameB_self {l : List Int} (hl : l.length ≤ 1000000) : m_ropewalkkit_SameBytes N l l = some true := by
  unfold m_ropewalkkit_SameBytes
  rw [if_neg (by simp), iter_look l.length (fun i hi => by
    unfold m_ropewalkkit_SameBytes_L1
    rw [if_pos (by simpa using hi), List.getElem?_eq_getElem hi, bindO_pure, bindO_pure, if_neg (by simp), gd_pos (by omega)])
    (by unfold m_ropewalkkit_SameBytes_L1; rw [if_neg (by simp)]) (by omega)]
  rfl
omit hN in
theorem appV_is {a : Int} {es : List (ByteArray × Disk_rowsD)} {t : ByteArray} {l : List Int} {k : Nat} (hk : k ≤ l.length) : m_disk_Disk_Append_V N a es t l k = m_disk_Disk_Append N a es t (l.take k) := by
  unfold m_disk_Disk_Append_V m_disk_Disk_Append
  rw [List.length_take, Nat.min_eq_left hk]
  simp only [gd_pos hk]
def E1 (l : List Int) : List (ByteArray × Disk_rowsD) := [((⟨#[97]⟩ : ByteArray), ⟨[], l⟩)]
omit hN in
theorem fitA : fitB (⟨#[97]⟩ : ByteArray) = true := by decide +kernel
omit hN in
theorem put_nil (l : List Int) : mputP ltB (⟨#[97]⟩ : ByteArray) (⟨[], l⟩ : Disk_rowsD) [] = E1 l := rfl
omit hN in
theorem put_one (l m : List Int) : mputP ltB (⟨#[97]⟩ : ByteArray) (⟨[], l⟩ : Disk_rowsD) (E1 m) = E1 l := by simp [E1, mputP, mlook, mput]
omit hN in
theorem row_one (l : List Int) : rowE (E1 l) (⟨#[97]⟩ : ByteArray) = ⟨[], l⟩ := by simp [rowE, E1, mlook]
omit hN in
theorem some_one (l : List Int) : (mlook (⟨#[97]⟩ : ByteArray) (E1 l)).isSome = true := by simp [E1, mlook]
theorem app0 {l : List Int} (hl : l.length ≤ 20000) : m_disk_Disk_Append N (maxI 1048576 0) [] (⟨#[97]⟩ : ByteArray) l = some (0, E1 l) := by
  have hm : maxI 1048576 0 = 1048576 := by decide
  have hr : rowE [] (⟨#[97]⟩ : ByteArray) = ⟨[], []⟩ := rfl
  have hc : appC (maxI 1048576 0) [] (⟨#[97]⟩ : ByteArray) l = 0 := by
    unfold appC
    rw [fitA, hr, hm, if_neg (by simp), if_neg (by simp; omega), if_neg (by simp [usedE]; omega)]
  rw [append_eq (by omega) (by simp [keysE]) (by simp [usedE]; omega) (by rw [hr]; simp; omega), hc]
  unfold appE
  rw [if_pos hc, hr, List.nil_append, put_nil]
theorem app1 {l m : List Int} (hl : l.length ≤ 20000) (hm2 : m.length ≤ 20000) : m_disk_Disk_Append N (maxI 1048576 0) (E1 m) (⟨#[97]⟩ : ByteArray) l = some (0, E1 (m ++ l)) := by
  have hm : maxI 1048576 0 = 1048576 := by decide
  have hu : usedE (E1 m) = m.length := by simp [usedE, E1, sizeR]
  have hc : appC (maxI 1048576 0) (E1 m) (⟨#[97]⟩ : ByteArray) l = 0 := by
    unfold appC
    rw [fitA, row_one, hm, hu, if_neg (by simp), if_neg (by simp; omega), if_neg (by omega)]
  rw [append_eq (by omega) (by simp [keysE, E1]) (by rw [hu]; omega) (by rw [row_one]; simp; omega), hc]
  unfold appE
  rw [if_pos hc, row_one, put_one]
theorem read1 {l : List Int} (hl : l.length ≤ 100000) : m_disk_Disk_Read N (maxI 1048576 0) (E1 l) (⟨#[97]⟩ : ByteArray) = some (l, 0, E1 l) := by
  rw [read_eq (by omega) (by unfold sizeE; rw [row_one]; simp; omega), some_one, if_pos rfl, row_one, put_one]
  simp
theorem keeps_is {l0 l1 : List Int} : m_ropewalklaw17_DiskKeeps N l0 l1 = some true := by
  unfold m_ropewalklaw17_DiskKeeps
  by_cases h : 10000 < max l0.length l1.length
  · rw [if_pos (by simpa using h), awake_ok (by omega), bindO_pure]
  · have h0 : l0.length ≤ 10000 := by omega
    have h1 : l1.length ≤ 10000 := by omega
    have hf : fitKeys (E1 l0) = true := by simp only [fitKeys, E1, List.all_cons, List.all_nil, Bool.and_true, List.length_cons, List.length_nil]; rfl
    have hs : (sortKeys (E1 l0)).length = 1 := by simp [sortKeys, E1]
    rw [if_neg (by simpa using h), show m_disk_New N 1048576 = some () from rfl, bindO_pure, lentB_is hN (by omega), bindO_pure, appV_is (by simp), List.take_left' rfl, app0 hN (by omega), bindO_pure]
    dsimp only
    rw [if_neg (by simp), keptB_is hN (by omega), bindO_pure, bindO_pure, if_neg (by simp)]
    obtain ⟨o, ho⟩ := overB_is hN (l := l0 ++ tailB) (k := l0.length) (by simp [tailB_len]) (by simp [tailB_len]; omega)
    rw [ho, bindO_pure, read1 hN (by omega), bindO_pure]
    dsimp only
    rw [read1 hN (by omega), bindO_pure]
    dsimp only
    rw [list_eq hf, bindO_pure, bindO_pure]
    have hC2 : m_ropewalklaw17_DiskKeeps_C2 N 0 0 l0 l0 l0 (sortKeys (E1 l0)) (sortKeys (E1 l0)) = some ((List.range l0.length).map (fun i => z_markByte ((0 : Nat) : Int) ((i : Nat) : Int)), false) := by
      unfold m_ropewalklaw17_DiskKeeps_C2
      rw [if_neg (by simp), sameB_self hN (by omega), bindO_pure, if_neg (by simp), gd_pos ⟨by simp, by simpa using h0⟩, gd_pos ⟨by simp, by simp [hs]⟩]
    rw [hC2, bindO_pure]
    dsimp only
    obtain ⟨o2, ho2⟩ := turnB_is hN (l := (List.range l0.length).map (fun i => z_markByte ((0 : Nat) : Int) ((i : Nat) : Int))) (by simp; omega)
    rw [if_neg (by simp), ho2, bindO_pure, app1 hN (by omega) (by omega), bindO_pure]
    dsimp only
    rw [read1 hN (by simp; omega), bindO_pure]
    dsimp only
    unfold m_ropewalkkit_CopyBytes m_ropewalklaw17_DiskKeeps_C3
    rw [gd_pos (by simp; omega), bindO_pure, gd_pos (by omega), if_pos (by simp), if_pos (by simp), sameB_self hN (by simp; omega), bindO_pure, if_pos rfl, awake_ok (by omega), bindO_pure, bindO_pure]
end
theorem diskkeep_arg {p q : Prop} (l0 : List Int) (_ : p) (l1 : List Int) (_ : q) : m_ropewalklaw17_DiskKeeps 9223372036854775808 l0 l1 = some true := keeps_is (Nat.le_refl _)
end Go.Proofs.YtkakbckmajdggaaGreat
