import Derived.Test.YtkakbckmajdggaaGreatXM
import Derived.Test.YtkakbckmajdggaaGreatTypesP
import Derived.Test.YtkakbckmajdggaaGreatTypes
import Derived.Test.YtkakbckmajdggaaGreatLight
import Derived.Test.YtkakbckmajdggaaGreatMapK
import Derived.Test.YtkakbckmajdggaaGreatStr
import Derived.Test.YtkakbckmajdggaaGreatView
import Derived.Test.YtkakbckmajdggaaGreatMapE
import Derived.Test.YtkakbckmajdggaaGreatMapP
import Derived.Test.YtkakbckmajdggaaGreatText
import Derived.Test.YtkakbckmajdggaaGreatGrow
import Derived.Test.YtkakbckmajdggaaGreatKeys
import Derived.Test.YtkakbckmajdggaaGreatIter
import Derived.Test.YtkakbckmajdggaaGreatFlat
import Derived.Test.YtkakbckmajdggaaGreatApart
import Derived.Test.YtkakbckmajdggaaGreatRun
import Derived.Test.YtkakbckmajdggaaGreatShort
import Derived.Test.YtkakbckmajdggaaGreatBack
import Derived.Test.YtkakbckmajdggaaGreatShelf
import Derived.Test.YtkakbckmajdggaaGreatAuto
import Derived.Test.YtkakbckmajdggaaGreatAb
namespace Go.Proofs.YtkakbckmajdggaaGreat
open Go.RowKit
set_option maxRecDepth 100000
set_option maxHeartbeats 4000000
theorem tD_22 : Tryz.prog.underlying 22 = some (.slice 5) := by kernel_rfl
theorem tD_5 : Tryz.prog.underlying 5 = some (.int .u8) := by kernel_rfl
theorem tM_43 : Tryz.prog.underlying 43 = some (.map 9 49) := by kernel_rfl
theorem tD_9 : Tryz.prog.underlying 9 = some .string := by kernel_rfl
theorem w_disk_New_s (N : Nat) (a0 : Int)  (hm : m_disk_New N a0 = some ()) : Spec Tryz.prog 5 [.int .i64 a0] [] [] (fun v Φr Hr => ∃ (o0 : Nat) (o1 : Nat), v = .pointer (some ⟨o0,0, none⟩) ∧ Φr = [] ∧ Hr = [.blk o0 [.int .i64 (maxI a0 0), .map (some o1)] 45, mapP (keyStr (tStr_run tT_9)) true R_Disk_rowsD o1 ([] : List (ByteArray × Disk_rowsD))]) := by
 unfold m_disk_New at hm
 refine spec_of Tryz.func5 rfl Tryz.ntmps5 rfl (S := [_]) rfl (fun C => (wc_seq (wc_region (wP rfl (wl_nil (we_then (wc_keep [0] (S' := [_]) rfl (wc_seq (wc_region (wl_makeMapP (keyStr (tStr_run tT_9)) true R_Disk_rowsD rfl rfl rfl (freshS_eq rfl) rfl (fun g4 => (wl_build rfl rfl rfl (freshS_eq rfl) rfl tZ_45 tP_45 rfl (out := [_,_]) rfl (wl_alloc rfl rfl rfl (freshS_eq rfl) rfl tZ_45 rfl (fun g3 => (wS 0 0 rfl tS_45 (all' := [_,_]) rfl (H' := [_,_]) rfl (wl_nil ?_))))))))))))))))
 refine we_then (wc_keep [3,0] (S' := [_,_]) rfl (wc_seq (wc_region (wP rfl (wl_reck rfl rfl rfl (freshS_eq rfl) (rk_max rfl rfl rfl) (wF rfl tF_45_0 (wS 0 0 rfl tS_3 (all' := [_,_]) rfl (H' := [_,_]) rfl (wl_nil (we_then (wc_keep [3] (S' := [_]) rfl (wc_seq (wc_region (wP rfl ?_)))))))))))))
 refine wl_nil (we_then (wc_keep [2] (S' := [_]) rfl (wc_ret ?_)))
 have hE := (Option.some.inj hm).symm
 refine ret_one (Hr := [_,_]) [0,1] Tryz.results5 (res_tmp rfl) ⟨g3, g4, rfl, rfl, rfl⟩ (asK [] rfl) rfl rfl (.inl rfl)
theorem w_disk_Disk_is_s (N : Nat) (qg0 : Nat) (a0 : Int) (qb1 : Nat) (e1 : List (ByteArray × Disk_rowsD))  (hm : m_disk_Disk_is N a0 e1 = some ()) : Spec Tryz.prog 21 [.pointer (some ⟨qg0,0, none⟩)] [] [.blk qg0 [.int .i64 a0, .map (some qb1)] 45, mapP (keyStr (tStr_run tT_9)) true R_Disk_rowsD qb1 e1] (fun v Φr Hr => v = .int .i64 0 ∧ Φr = [] ∧ Hr = [.blk qg0 [.int .i64 a0, .map (some qb1)] 45, mapP (keyStr (tStr_run tT_9)) true R_Disk_rowsD qb1 e1]) := by
 unfold m_disk_Disk_is at hm
 refine spec_of Tryz.func21 rfl Tryz.ntmps21 rfl (S := [_]) rfl (fun C => (wc_seq (wc_region (wP rfl (wl_nil (we_then (wc_keep [0] (S' := [_]) rfl (wc_seq (wc_seq (wc_region (wP rfl (wl_bin rfl rfl rfl (freshS_eq rfl) rfl rfl rfl (eqlP tQ_24 _ _ _) (wP rfl (wP rfl ?_))))))))))))))
 refine wP rfl (wF rfl tF_45_1 (wD 0 1 rfl tS_43 tA_43 rfl (wl_bin rfl rfl rfl (freshS_eq rfl) rfl rfl rfl (eqlM tM_43 _ _ _) (wP rfl (wl_nil (we_then (wc_keep [11] (S' := [_]) rfl (wc_false rfl (wc_keep [] (S' := []) rfl (wc_skip (we_then (wc_seq (wc_region ?_)))))))))))))
 refine wP rfl (wl_nil (we_then (wc_ret ?_)))
 have hE := (Option.some.inj hm).symm
 refine ret_one (Hr := [_,_]) [0,1] Tryz.results21 (res_tmp rfl) ⟨rfl, rfl, rfl⟩ (asK [] rfl) rfl rfl (.inl rfl)
theorem w_slices_Grow_byte_s (N : Nat) (a0 : Int) (o2 : List Int) (hm : m_slices_Grow_byte N a0 = some o2) : Spec Tryz.prog 37 [.slice none 0 0, .int .i64 a0] [] [] (fun v Φr Hr => ∃ (o0 : Option Addr) (o1 : Nat), a0.toNat ≤ o1 ∧ v = .slice o0 0 o1 ∧ Φr = [] ∧ Hr = [.own 5 1 R_u8 (.slice o0 0 o1) o2]) := by
 unfold m_slices_Grow_byte at hm
 refine spec_of Tryz.func37 rfl Tryz.ntmps37 rfl (S := [_,_]) rfl (fun C => (wc_seq (wc_region (wP rfl (wl_nil (we_then (wc_keep [0,1] (S' := [_,_]) rfl (wc_seq (wc_seq (wc_region (wP rfl (wP rfl (wl_nil (we_then ?_))))))))))))))
 refine wc_keep [6,0,1] (S' := [_,_,_]) rfl ?_
 refine wc_cond rfl (fun hb6 => ?_) (fun hb6 => ?_)
 ·
  replace hm := iteT hm hb6
  refine wc_keep [0,1] (S' := [_,_]) rfl (wc_region ?_)
  cases hm
 ·
  replace hm := iteF hm hb6
  refine wc_keep [0,1] (S' := [_,_]) rfl (wc_skip (we_then (wc_seq (wc_seq (wc_region (wP rfl (wP rfl (wl_reck rfl rfl rfl (freshS_eq rfl) (rk_cap rfl rfl tE_22) (wP rfl (wN rfl tE_22 (wP rfl (wl_as (d := 13) (v' := .int .i64 0) (S' := [_,_,_,_,_,_,_]) rfl rfl rfl (wP rfl ?_)))))))))))))
  obtain ⟨hg14, hm⟩ := gd_some hm
  refine wl_as (d := 14) (v' := .int .i64 (a0 - 0)) (S' := [_,_,_,_,_,_,_,_]) rfl rfl (i64_in hg14) (wl_pure (S' := [_,_,_,_,_,_,_,_]) rfl rfl rfl rfl rfl (wl_nil (we_then (wc_keep [1,0] (S' := [_,_]) rfl (wc_seq (wc_region (wP rfl (wP rfl (wl_nil (we_then (wc_keep [16,1,0] (S' := [_,_,_]) rfl ?_)))))))))))
  refine wc_cond rfl (fun hb16 => ?_) (fun hb16 => ?_)
  ·
   replace hm := iteT hm hb16
   refine wc_keep [1,0] (S' := [_,_]) rfl (wc_region (wP rfl (wP rfl (wl_reck rfl rfl rfl (freshS_eq rfl) (rk_cap rfl rfl tE_22) (wl_sliceTo rfl rfl rfl (freshS_eq rfl) rfl rfl rfl rfl tE_22 tS_5 (Nat.le_refl 0) (fun _ h => by cases h) (wP rfl ?_))))))
   obtain ⟨hn22, hm⟩ := gd_some hm
   obtain ⟨hg22, hm⟩ := gd_some hm
   obtain ⟨hp22, hm⟩ := gd_some hm
   refine wl_appendZ (m := ((a0 - 0).toNat)) R_u8 rfl rfl rfl (freshS_eq rfl) rfl rfl rfl (toNat_eq hn22) hp22 tE_22 tR_5 rfl rfl tI_3 (Nat.le_trans (Nat.mul_le_mul_right _ hg22) (by decide)) (Nat.le_trans hg22 (by decide)) (fun g22 c22 hcc22 => (wP rfl (wN rfl tE_22 ?_)))
   obtain ⟨hg25, hm⟩ := gd_some hm
   refine wl_ownSpot 0 rfl (fun hsp25 hcm25 => (wl_sliceTo rfl rfl rfl (freshS_eq rfl) rfl rfl rfl rfl tE_22 tS_5 (Nat.le_trans hg25 (by rw [← hcm25.2]; exact hcm25.1)) hsp25 (wl_pure (S' := [_,_,_,_,_,_,_,_,_,_]) rfl rfl rfl rfl rfl (wl_nil (we_then (wc_keep [0] (S' := [_]) rfl (wc_seq (wc_region (wP rfl (wP rfl (wl_nil (we_then (wc_keep [4] (S' := [_]) rfl (wc_ret ?_))))))))))))))
   have hE := (Option.some.inj hm).symm
   replace hE := hE.symm
   subst hE
   refine ret_one (Hr := [_]) [0] Tryz.results37 (res_tmp rfl) ⟨some ⟨g22,0, none⟩, c22, (by first | omega | (simp only [decide_eq_false_iff_not, gt_iff_lt] at *; omega)), rfl, rfl, rfl⟩ (asK [] rfl) rfl rfl (.inl rfl)
  ·
   replace hm := iteF hm hb16
   refine wc_keep [0] (S' := [_]) rfl (wc_skip (we_then (wc_seq (wc_region (wP rfl (wP rfl (wl_nil (we_then (wc_keep [4] (S' := [_]) rfl (wc_ret ?_))))))))))
   have hE := (Option.some.inj hm).symm
   replace hE := hE.symm
   subst hE
   refine we_rowNil 5 1 R_u8 ?_
   refine ret_one (Hr := [_]) [0] Tryz.results37 (res_tmp rfl) ⟨none, 0, (by first | omega | (simp only [decide_eq_false_iff_not, gt_iff_lt] at *; omega)), rfl, rfl, rfl⟩ (asK [] rfl) rfl rfl (.inl rfl)
theorem w_slices_Concat_byte_s (N : Nat) (qp0 : Option Addr) (qc1 : Nat) (l0 : List (List Int)) (o2 : List Int) (hm : m_slices_Concat_byte N l0 = some o2) : Spec Tryz.prog 22 [.slice qp0 l0.length qc1] [.sli 1 R_l_u8 qp0 qc1 l0] [] (fun v Φr Hr => ∃ (o0 : Option Addr) (o1 : Nat) (o3 : Nat), v = .slice o0 o3 o1 ∧ Φr = [] ∧ Hr = [.own 5 1 R_u8 (.slice o0 o3 o1) o2]) := by
 unfold m_slices_Concat_byte at hm
 refine spec_of Tryz.func22 rfl Tryz.ntmps22 rfl (S := [_]) rfl (fun C => (wc_seq (wc_region (wP rfl (wl_nil (we_then (wc_keep [0] (S' := [_]) rfl (wc_seq (wc_region (wP rfl (wl_nil (we_then (wc_seq ?_)))))))))))))
 obtain ⟨bj_1, hm, hLj_1⟩ := bindO_some hm
 refine wc_cut (σ := Nat) (fun j_1_3 => bj_1 = j_1_3) (fun j_1_3 => [(0, .slice qp0 l0.length qc1), (3, .int .i64 ((j_1_3 : Nat) : Int))]) (fun j_1_3 => [.sli 1 R_l_u8 qp0 qc1 l0]) (fun j_1_3 => []) ?_ ?_
 ·
  refine wc_seq (wc_region (wP rfl (wN rfl tE_37 (wP rfl (wl_nil (we_then (wc_block (wc_loop (σ := Nat × Nat × Nat) (fun (nu1, u1_11, u1_3) => iter (m_slices_Concat_byte_L1 N l0) nu1 (u1_11, u1_3) = some bj_1) (fun (nu1, u1_11, u1_3) => nu1) (fun (nu1, u1_11, u1_3) => [(11, .int .i64 ((u1_11 : Nat) : Int)), (10, .int .i64 ((l0.length : Nat) : Int)), (9, .slice qp0 l0.length qc1), (3, .int .i64 ((u1_3 : Nat) : Int)), (0, .slice qp0 l0.length qc1)]) (fun (nu1, u1_11, u1_3) => [.sli 1 R_l_u8 qp0 qc1 l0]) (fun (nu1, u1_11, u1_3) => []) (N, 0,0) hm [11,10,9,3,0] rfl (asK [0] rfl) rfl (fun s_ hm => ?_)))))))))
  obtain ⟨nu1, u1_11, u1_3⟩ := s_
  try dsimp only at hm ⊢
  obtain ⟨mu1, bu1, hnu1, hq, hLu1⟩ := iter_some hm
  clear hm
  subst hnu1
  replace hm := hq
  clear hq
  unfold m_slices_Concat_byte_L1 at hm
  try dsimp only at hm
  refine wc_seq (wc_region (wP rfl (wl_as (d := 12) (v' := .bool (decide (u1_11 < l0.length))) (S' := [_,_,_,_,_]) rfl rfl (natlt (a := u1_11) (b := l0.length)) (wl_nil (we_then (wc_seq ?_))))))
  refine wc_cond rfl (fun hb12 => ?_) (fun hb12 => ?_)
  ·
   replace hm := iteT hm hb12
   refine wc_keep [11,10,9,3,0] (S' := [_,_,_,_,_]) rfl (wc_skip (we_then (wc_seq (wc_block (wc_seq (wc_region ?_))))))
   obtain ⟨x13, hx13, hm⟩ := bindO_some hm
   refine wl_indexA 0 u1_11 rfl rfl rfl (freshS_eq rfl) rfl rfl rfl rfl rfl hx13 tE_37 tS_22 (fun b13 q13 cs13 hlx13 => (wl_open R_l_u8_opens 1 rfl (fun r13 er13 _ => ?_)))
   subst er13
   refine wl_load 1 0 rfl rfl rfl (freshS_eq rfl) rfl rfl rfl (cs := [_]) rfl tS_22 tA_22 rfl rfl (wP rfl (wl_nil (we_then (wc_keep [5,11,10,9,3,0] (S' := [_,_,_,_,_,_]) rfl (wc_seq (wc_region (wP rfl (wP rfl (wN rfl tE_22 (wP rfl ?_))))))))))
   obtain ⟨hg18, hm⟩ := gd_some hm
   refine wl_as (d := 18) (v' := .int .i64 ((u1_3 + x13.length : Nat) : Int)) (S' := [_,_,_,_,_,_,_,_,_]) rfl rfl (nat_add (a := u1_3) (b := x13.length) hg18) (wl_pure (S' := [_,_,_,_,_,_,_,_,_]) rfl rfl rfl rfl rfl (wl_nil (we_then (wc_keep [3,11,10,9,0] (S' := [_,_,_,_,_]) rfl (wc_seq (wc_region (wP rfl (wP rfl (wl_as (d := 20) (v' := .bool (decide ((u1_3 + x13.length) < 0))) (S' := [_,_,_,_,_,_]) rfl rfl (natlt (a := u1_3 + x13.length) (b := 0)) (wl_nil (we_then (wc_keep [20,3,11,10,9,0] (S' := [_,_,_,_,_,_]) rfl ?_))))))))))))
   refine wc_cond rfl (fun hb20 => ?_) (fun hb20 => ?_)
   ·
    replace hm := iteT hm hb20
    refine wc_keep [3,11,10,9,0] (S' := [_,_,_,_,_]) rfl (wc_region ?_)
    cases hm
   ·
    replace hm := iteF hm hb20
    refine wc_keep [3,11,10,9,0] (S' := [_,_,_,_,_]) rfl (wc_skip (we_block_normal (we_then (wc_region (wP rfl ?_)))))
    obtain ⟨hg22, hm⟩ := gd_some hm
    refine wl_as (d := 22) (v' := .int .i64 ((u1_11 + 1 : Nat) : Int)) (S' := [_,_,_,_,_]) rfl rfl (nat_add (a := u1_11) (b := 1) hg22) (wl_pure (S' := [_,_,_,_,_]) rfl rfl rfl rfl rfl (wl_nil ?_))
    have hE := (Option.some.inj hm).symm
    replace hE := link_inl hLu1 hE
    refine we_roundK (_, u1_11 + 1, u1_3 + x13.length) (Nat.lt_succ_self _) hE [11,10,9,3,0] rfl (asK [3] rfl) rfl
  ·
   replace hm := iteF hm hb12
   refine wc_keep [3,0] (S' := [_,_]) rfl (wc_exit (we_then_exit (we_then_exit (we_block_hit ?_))))
   have hE := (Option.some.inj hm).symm
   replace hE := link_inr hLu1 hE
   refine we_join u1_3 hE [0,3] rfl (asK [0] rfl) rfl
 ·
  rintro j_1_3 hE
  try dsimp only
  have hm := hLj_1
  rw [hE] at hm
  refine wc_seq (wc_region (wP rfl ?_))
  obtain ⟨v24, hc24, hm⟩ := bindO_some hm
  refine wC [] [] rfl fn_37 rfl (w_slices_Grow_byte_s N ((j_1_3 : Nat) : Int) _ hc24) (asK [] rfl) rfl (H' := []) rfl ?_
  rintro _ _ _ ⟨p24_0, c24_1, hcp24, rfl, rfl, rfl⟩
  have hcq24 : j_1_3 ≤ c24_1 := by omega
  refine wP rfl (wl_nil (we_then (wc_keep [6,0] (S' := [_,_]) rfl (wc_seq ?_))))
  obtain ⟨bj_2, hm, hLj_2⟩ := bindO_some hm
  refine wc_cut (σ := (List Int) × Nat) (fun (j_2_6_l, j_2_6_n) => bj_2 = j_2_6_l) (fun (j_2_6_l, j_2_6_n) => [(6, .slice p24_0 j_2_6_n c24_1)]) (fun (j_2_6_l, j_2_6_n) => []) (fun (j_2_6_l, j_2_6_n) => [.own 5 1 R_u8 (.slice p24_0 j_2_6_n c24_1) j_2_6_l]) ?_ ?_
  ·
   refine wc_seq (wc_region (wP rfl (wN rfl tE_37 (wP rfl (wl_nil (we_then (wc_keep [27,26,25,6] (S' := [_,_,_,_]) rfl (wc_block (wc_loop (σ := Nat × Nat × (List Int) × Nat) (fun (nu2, u2_27, u2_6_l, u2_6_n) => iter (m_slices_Concat_byte_L2 N l0 j_1_3) nu2 (u2_27, u2_6_l) = some bj_2) (fun (nu2, u2_27, u2_6_l, u2_6_n) => nu2) (fun (nu2, u2_27, u2_6_l, u2_6_n) => [(27, .int .i64 ((u2_27 : Nat) : Int)), (26, .int .i64 ((l0.length : Nat) : Int)), (25, .slice qp0 l0.length qc1), (6, .slice p24_0 u2_6_n c24_1)]) (fun (nu2, u2_27, u2_6_l, u2_6_n) => [.sli 1 R_l_u8 qp0 qc1 l0]) (fun (nu2, u2_27, u2_6_l, u2_6_n) => [.own 5 1 R_u8 (.slice p24_0 u2_6_n c24_1) u2_6_l]) (N, 0, v24,0) hm [27,26,25,6] rfl (asK [0] rfl) rfl (fun s_ hm => ?_))))))))))
   obtain ⟨nu2, u2_27, u2_6_l, u2_6_n⟩ := s_
   try dsimp only at hm ⊢
   obtain ⟨mu2, bu2, hnu2, hq, hLu2⟩ := iter_some hm
   clear hm
   subst hnu2
   replace hm := hq
   clear hq
   unfold m_slices_Concat_byte_L2 at hm
   try dsimp only at hm
   refine wc_seq (wc_region (wP rfl (wl_as (d := 28) (v' := .bool (decide (u2_27 < l0.length))) (S' := [_,_,_,_]) rfl rfl (natlt (a := u2_27) (b := l0.length)) (wl_nil (we_then (wc_seq ?_))))))
   refine wc_cond rfl (fun hb28 => ?_) (fun hb28 => ?_)
   ·
    replace hm := iteT hm hb28
    refine wc_keep [27,26,25,6] (S' := [_,_,_,_]) rfl (wc_skip (we_then (wc_seq (wc_block (wc_seq (wc_region ?_))))))
    obtain ⟨x29, hx29, hm⟩ := bindO_some hm
    refine wl_indexA 0 u2_27 rfl rfl rfl (freshS_eq rfl) rfl rfl rfl rfl rfl hx29 tE_37 tS_22 (fun b29 q29 cs29 hlx29 => (wl_open R_l_u8_opens 1 rfl (fun r29 er29 _ => ?_)))
    subst er29
    refine wl_load 1 0 rfl rfl rfl (freshS_eq rfl) rfl rfl rfl (cs := [_]) rfl tS_22 tA_22 rfl rfl (wP rfl (wl_nil (we_then (wc_keep [8,27,26,25,6] (S' := [_,_,_,_,_]) rfl (wc_region (wP rfl (wP rfl ?_)))))))
    obtain ⟨hg33, hm⟩ := gd_some hm
    refine wl_appendFit 0 0 rfl rfl rfl (freshS_eq rfl) rfl rfl rfl rfl rfl tE_22 tR_5 (Nat.le_trans hg33 hcq24) (H' := [.own 5 1 R_u8 (.slice p24_0 ((u2_6_l ++ x29).length) c24_1) (u2_6_l ++ x29)]) rfl (wl_pure (S' := [_,_,_,_,_,_,_]) rfl rfl rfl rfl rfl (wl_nil (we_block_normal (we_then (wc_keep [6,27,26,25] (S' := [_,_,_,_]) rfl (wc_region (wP rfl ?_)))))))
    obtain ⟨hg34, hm⟩ := gd_some hm
    refine wl_as (d := 34) (v' := .int .i64 ((u2_27 + 1 : Nat) : Int)) (S' := [_,_,_,_]) rfl rfl (nat_add (a := u2_27) (b := 1) hg34) (wl_pure (S' := [_,_,_,_]) rfl rfl rfl rfl rfl (wl_nil ?_))
    have hE := (Option.some.inj hm).symm
    replace hE := link_inl hLu2 hE
    refine we_roundK (_, u2_27 + 1, u2_6_l ++ x29, (u2_6_l ++ x29).length) (Nat.lt_succ_self _) hE [27,26,25,6] rfl (asK [3] rfl) rfl
   ·
    replace hm := iteF hm hb28
    refine wc_keep [6] (S' := [_]) rfl (wc_exit (we_then_exit (we_then_exit (we_block_hit ?_))))
    have hE := (Option.some.inj hm).symm
    replace hE := link_inr hLu2 hE
    refine we_join (u2_6_l, u2_6_n) hE [6] rfl (asK [] rfl) rfl
  ·
   rintro ⟨j_2_6_l, j_2_6_n⟩ hE
   try dsimp only
   have hm := hLj_2
   rw [hE] at hm
   refine wc_seq (wc_region (wP rfl (wP rfl (wl_nil (we_then (wc_keep [2] (S' := [_]) rfl (wc_ret ?_)))))))
   have hE := (Option.some.inj hm).symm
   replace hE := hE.symm
   subst hE
   refine ret_one (Hr := [_]) [0] Tryz.results22 (res_tmp rfl) ⟨p24_0, c24_1, j_2_6_n, rfl, rfl, rfl⟩ (asK [] rfl) rfl rfl (.inl rfl)
theorem w_disk_fit_1_s (N : Nat) (a0 : Int) (o0 : Bool) (hm : m_disk_fit_1 N a0 = some o0) : Spec Tryz.prog 38 [.int .i32 a0] [] [] (fun v Φr Hr => v = .bool o0 ∧ Φr = [] ∧ Hr = []) := by
 unfold m_disk_fit_1 at hm
 refine spec_of Tryz.func38 rfl Tryz.ntmps38 rfl (S := [_]) rfl (fun C => (wc_seq (wc_region (wP rfl (wl_nil (we_then (wc_keep [0] (S' := [_]) rfl (wc_seq ?_))))))))
 obtain ⟨bj_1, hm, hLj_1⟩ := bindO_some hm
 unfold m_disk_fit_1_C1 at hm
 refine wc_cut (σ := Bool) (fun j_1_2 => bj_1 = j_1_2) (fun j_1_2 => [(2, .bool j_1_2)]) (fun j_1_2 => []) (fun j_1_2 => []) ?_ ?_
 ·
  refine wc_region (wP rfl (wP rfl (wP rfl ?_)))
  refine wl_split (d := 5) (S' := [_,_,_]) rfl rfl (fun hs5 => ?_) (fun hs5 => ?_)
  ·
   replace hm := iteT hm hs5
   refine wO rfl (wO rfl (wP rfl (wP rfl (wP rfl (wP rfl (wP rfl ?_))))))
   refine wl_split (d := 12) (S' := [_,_,_,_,_,_,_,_,_,_]) rfl rfl (fun hs12 => ?_) (fun hs12 => ?_)
   ·
    replace hm := iteT hm hs12
    refine wO rfl (wO rfl (wP rfl (wP rfl (wP rfl (wP rfl (wP rfl (wP rfl (wP rfl ?_))))))))
    refine wl_split (d := 21) (S' := [_,_,_,_,_,_,_,_,_,_,_,_,_,_,_,_,_,_,_]) rfl rfl (fun hs21 => ?_) (fun hs21 => ?_)
    ·
     replace hm := iteT hm hs21
     refine wP rfl (wP rfl (wP rfl (wP rfl (wl_nil ?_))))
     have hE := (Option.some.inj hm).symm
     refine we_join (a0 != 45) hE [2] rfl (asK [] rfl) rfl
    ·
     replace hm := iteF hm hs21
     refine wO rfl (wO rfl (wP rfl (wP rfl (wl_nil ?_))))
     have hE := (Option.some.inj hm).symm
     refine we_join false hE [2] rfl (asK [] rfl) rfl
   ·
    replace hm := iteF hm hs12
    refine wP rfl (wP rfl (wP rfl (wP rfl (wP rfl ?_))))
    refine wl_split (d := 17) (S' := [_,_,_,_,_,_,_,_,_,_,_,_,_,_,_]) rfl rfl (fun hs17 => ?_) (fun hs17 => ?_)
    ·
     replace hm := iteT hm hs17
     refine wP rfl (wP rfl (wP rfl (wP rfl ?_)))
     refine wl_split (d := 21) (S' := [_,_,_,_,_,_,_,_,_,_,_,_,_,_,_,_,_,_,_]) rfl rfl (fun hs21 => ?_) (fun hs21 => ?_)
     ·
      replace hm := iteT hm hs21
      refine wP rfl (wP rfl (wP rfl (wP rfl (wl_nil ?_))))
      have hE := (Option.some.inj hm).symm
      refine we_join (a0 != 45) hE [2] rfl (asK [] rfl) rfl
     ·
      replace hm := iteF hm hs21
      refine wO rfl (wO rfl (wP rfl (wP rfl (wl_nil ?_))))
      have hE := (Option.some.inj hm).symm
      refine we_join false hE [2] rfl (asK [] rfl) rfl
    ·
     replace hm := iteF hm hs17
     refine wO rfl (wO rfl (wP rfl (wP rfl (wO rfl (wO rfl (wP rfl (wP rfl (wl_nil ?_))))))))
     have hE := (Option.some.inj hm).symm
     refine we_join false hE [2] rfl (asK [] rfl) rfl
  ·
   replace hm := iteF hm hs5
   refine wP rfl (wP rfl (wP rfl (wP rfl ?_)))
   refine wl_split (d := 9) (S' := [_,_,_,_,_,_,_]) rfl rfl (fun hs9 => ?_) (fun hs9 => ?_)
   ·
    replace hm := iteT hm hs9
    refine wP rfl (wP rfl (wP rfl ?_))
    refine wl_split (d := 12) (S' := [_,_,_,_,_,_,_,_,_,_]) rfl rfl (fun hs12 => ?_) (fun hs12 => ?_)
    ·
     replace hm := iteT hm hs12
     refine wO rfl (wO rfl (wP rfl (wP rfl (wP rfl (wP rfl (wP rfl (wP rfl (wP rfl ?_))))))))
     refine wl_split (d := 21) (S' := [_,_,_,_,_,_,_,_,_,_,_,_,_,_,_,_,_,_,_]) rfl rfl (fun hs21 => ?_) (fun hs21 => ?_)
     ·
      replace hm := iteT hm hs21
      refine wP rfl (wP rfl (wP rfl (wP rfl (wl_nil ?_))))
      have hE := (Option.some.inj hm).symm
      refine we_join (a0 != 45) hE [2] rfl (asK [] rfl) rfl
     ·
      replace hm := iteF hm hs21
      refine wO rfl (wO rfl (wP rfl (wP rfl (wl_nil ?_))))
      have hE := (Option.some.inj hm).symm
      refine we_join false hE [2] rfl (asK [] rfl) rfl
    ·
     replace hm := iteF hm hs12
     refine wP rfl (wP rfl (wP rfl (wP rfl (wP rfl ?_))))
     refine wl_split (d := 17) (S' := [_,_,_,_,_,_,_,_,_,_,_,_,_,_,_]) rfl rfl (fun hs17 => ?_) (fun hs17 => ?_)
     ·
      replace hm := iteT hm hs17
      refine wP rfl (wP rfl (wP rfl (wP rfl ?_)))
      refine wl_split (d := 21) (S' := [_,_,_,_,_,_,_,_,_,_,_,_,_,_,_,_,_,_,_]) rfl rfl (fun hs21 => ?_) (fun hs21 => ?_)
      ·
       replace hm := iteT hm hs21
       refine wP rfl (wP rfl (wP rfl (wP rfl (wl_nil ?_))))
       have hE := (Option.some.inj hm).symm
       refine we_join (a0 != 45) hE [2] rfl (asK [] rfl) rfl
      ·
       replace hm := iteF hm hs21
       refine wO rfl (wO rfl (wP rfl (wP rfl (wl_nil ?_))))
       have hE := (Option.some.inj hm).symm
       refine we_join false hE [2] rfl (asK [] rfl) rfl
     ·
      replace hm := iteF hm hs17
      refine wO rfl (wO rfl (wP rfl (wP rfl (wO rfl (wO rfl (wP rfl (wP rfl (wl_nil ?_))))))))
      have hE := (Option.some.inj hm).symm
      refine we_join false hE [2] rfl (asK [] rfl) rfl
   ·
    replace hm := iteF hm hs9
    refine wO rfl (wO rfl (wO rfl (wO rfl (wO rfl (wO rfl (wP rfl (wP rfl (wO rfl (wO rfl (wP rfl (wP rfl (wO rfl (wO rfl ?_)))))))))))))
    refine wP rfl (wP rfl (wl_nil ?_))
    have hE := (Option.some.inj hm).symm
    refine we_join false hE [2] rfl (asK [] rfl) rfl
 ·
  rintro j_1_2 hE
  try dsimp only
  have hm := hLj_1
  rw [hE] at hm
  refine wc_ret ?_
  have hE := (Option.some.inj hm).symm
  replace hE := hE.symm
  subst hE
  refine ret_one (Hr := []) [] Tryz.results38 (res_tmp rfl) ⟨rfl, rfl, rfl⟩ (asK [] rfl) rfl rfl (.inl rfl)
theorem w_strings_indexFunc_s (N : Nat) (a0 : ByteArray) (a1 : Bool) (o0 : Int) (hm : m_strings_indexFunc N a0 a1 = some o0) : Spec Tryz.prog 119 [.string a0, .func (.func 38) #[] #[], .bool a1] [] [] (fun v Φr Hr => v = .int .i64 o0 ∧ Φr = [] ∧ Hr = []) := by
 unfold m_strings_indexFunc at hm
 refine spec_of Tryz.func119 rfl Tryz.ntmps119 rfl (S := [_,_,_]) rfl (fun C => (wc_seq (wc_region (wP rfl (wl_nil (we_then (wc_keep [0,1,2] (S' := [_,_,_]) rfl (wc_seq ?_))))))))
 obtain ⟨bj_1, hm, hLj_1⟩ := bindS_some hm
 refine wc_cut (σ := Unit) (fun _ => bj_1 = .inl ()) (fun _ => []) (fun _ => []) (fun _ => []) ?_ ?_
 ·
  refine wc_seq (wc_region (wP rfl (wl_rangeS rfl rfl rfl (freshS_eq rfl) rfl rfl tT_9 (fun g10 => (wl_nil (we_then (wc_keep [10,1,2] (S' := [_,_,_]) rfl (wc_block (wc_loop (σ := Nat × Nat) (fun (nu1, u1_10_i) => iter (m_strings_indexFunc_L1 N a0 a1) nu1 u1_10_i = some bj_1) (fun (nu1, u1_10_i) => nu1) (fun (nu1, u1_10_i) => [(10, .pointer (some ⟨g10,0, none⟩)), (1, .func (.func 38) #[] #[]), (2, .bool a1)]) (fun (nu1, u1_10_i) => []) (fun (nu1, u1_10_i) => [strIt g10 a0 u1_10_i]) (N, 0) hm [10,1,2] rfl (asK [] rfl) rfl (fun s_ hm => ?_))))))))))
  obtain ⟨nu1, u1_10_i⟩ := s_
  try dsimp only at hm ⊢
  obtain ⟨mu1, bu1, hnu1, hq, hLu1⟩ := iter_some hm
  clear hm
  subst hnu1
  replace hm := hq
  clear hq
  unfold m_strings_indexFunc_L1 at hm
  try dsimp only at hm
  refine wc_seq (wc_region ?_)
  rcases ite_some hm with ⟨hi11, hm⟩ | ⟨hi11, hm⟩
  ·
   refine wl_nextS1 0 rfl rfl rfl (freshS_eq rfl) rfl rfl rfl hi11 (H' := [strIt g10 a0 (u1_10_i + (Utf8.decode a0 u1_10_i).2)]) rfl (wP rfl (wl_nil (we_then (wc_seq (wc_true rfl (wc_keep [11,10,1,2] (S' := [_,_,_,_]) rfl (wc_skip (we_then (wc_block (wc_seq (wc_region (wP rfl (wP rfl ?_)))))))))))))
   refine wP rfl (wP rfl (wl_nil (we_then (wc_keep [8,7,10,1,2] (S' := [_,_,_,_,_]) rfl (wc_seq (wc_region (wP rfl (wP rfl ?_))))))))
   obtain ⟨v17, hc17, hm⟩ := bindO_some hm
   refine wl_callDyn [] [0] rfl rfl rfl (freshS_eq rfl) rfl rfl rfl fn_38 rfl rfl (w_disk_fit_1_s N (((Utf8.decode a0 u1_10_i).1 : Nat) : Int) _ hc17) (asK [] rfl) rfl (H' := [_]) rfl ?_
   rintro _ _ _ ⟨rfl, rfl, rfl⟩
   refine wP rfl (wl_bin rfl rfl rfl (freshS_eq rfl) rfl rfl rfl (eqlB _ _ v17 a1) (wl_nil (we_then (wc_keep [19,7,10,1,2] (S' := [_,_,_,_,_]) rfl ?_))))
   refine wc_cond rfl (fun hb19 => ?_) (fun hb19 => ?_)
   ·
    replace hm := iteT hm hb19
    refine wc_keep [7] (S' := [_]) rfl (wc_seq (wc_region (wP rfl (wP rfl (wl_nil (we_then (wc_keep [6] (S' := [_]) rfl (wc_ret (we_block_ret (we_then_ret (we_block_ret (we_then_ret ?_))))))))))))
    have hE := (Option.some.inj hm).symm
    replace hE := link_inr hLu1 hE
    replace hE := link_inr hLj_1 hE
    replace hE := hE.symm
    subst hE
    refine ret_one (Hr := []) [] Tryz.results119 (res_tmp rfl) ⟨rfl, rfl, rfl⟩ (asK [] rfl) rfl rfl (.inl rfl)
   ·
    replace hm := iteF hm hb19
    refine wc_keep [10,1,2] (S' := [_,_,_]) rfl (wc_skip (we_block_normal ?_))
    have hE := (Option.some.inj hm).symm
    replace hE := link_inl hLu1 hE
    refine we_roundK (_, u1_10_i + (Utf8.decode a0 u1_10_i).2) (Nat.lt_succ_self _) hE [10,1,2] rfl (asK [] rfl) rfl
  ·
   refine wl_nextS0 0 rfl rfl rfl (freshS_eq rfl) rfl rfl rfl hi11 (wP rfl (wl_nil (we_then (wc_seq (wc_false rfl (wc_keep [] (S' := []) rfl (wc_exit (we_then_exit (we_then_exit (we_block_hit ?_))))))))))
   have hE := (Option.some.inj hm).symm
   replace hE := link_inr hLu1 hE
   refine we_pick [] rfl (H' := []) rfl ?_
   refine we_join () hE [] rfl (asK [] rfl) rfl
 ·
  rintro _ hE
  try dsimp only
  have hm := link_inl hLj_1 hE
  try dsimp only at hm
  refine wc_seq (wc_region (wP rfl (wl_nil (we_then (wc_ret ?_)))))
  have hE := (Option.some.inj hm).symm
  replace hE := hE.symm
  subst hE
  refine ret_one (Hr := []) [] Tryz.results119 (res_tmp rfl) ⟨rfl, rfl, rfl⟩ (asK [] rfl) rfl rfl (.inl rfl)
theorem w_strings_IndexFunc_s (N : Nat) (a0 : ByteArray) (o0 : Int) (hm : m_strings_IndexFunc N a0 = some o0) : Spec Tryz.prog 72 [.string a0, .func (.func 38) #[] #[]] [] [] (fun v Φr Hr => v = .int .i64 o0 ∧ Φr = [] ∧ Hr = []) := by
 unfold m_strings_IndexFunc at hm
 refine spec_of Tryz.func72 rfl Tryz.ntmps72 rfl (S := [_,_]) rfl (fun C => (wc_seq (wc_region (wP rfl (wl_nil (we_then (wc_keep [0,1] (S' := [_,_]) rfl (wc_seq (wc_region (wP rfl (wP rfl ?_)))))))))))
 obtain ⟨v7, hc7, hm⟩ := bindO_some hm
 refine wC [] [] rfl fn_119 rfl (w_strings_indexFunc_s N a0 true _ hc7) (asK [] rfl) rfl (H' := []) rfl ?_
 rintro _ _ _ ⟨rfl, rfl, rfl⟩
 refine wP rfl (wl_nil (we_then (wc_keep [4] (S' := [_]) rfl (wc_ret ?_))))
 have hE := (Option.some.inj hm).symm
 replace hE := hE.symm
 subst hE
 refine ret_one (Hr := []) [] Tryz.results72 (res_tmp rfl) ⟨rfl, rfl, rfl⟩ (asK [] rfl) rfl rfl (.inl rfl)
theorem w_strings_ContainsFunc_s (N : Nat) (a0 : ByteArray) (o0 : Bool) (hm : m_strings_ContainsFunc N a0 = some o0) : Spec Tryz.prog 39 [.string a0, .func (.func 38) #[] #[]] [] [] (fun v Φr Hr => v = .bool o0 ∧ Φr = [] ∧ Hr = []) := by
 unfold m_strings_ContainsFunc at hm
 refine spec_of Tryz.func39 rfl Tryz.ntmps39 rfl (S := [_,_]) rfl (fun C => (wc_seq (wc_region (wP rfl (wl_nil (we_then (wc_keep [0,1] (S' := [_,_]) rfl (wc_seq (wc_region (wP rfl (wP rfl ?_)))))))))))
 obtain ⟨v7, hc7, hm⟩ := bindO_some hm
 refine wC [] [] rfl fn_72 rfl (w_strings_IndexFunc_s N a0 _ hc7) (asK [] rfl) rfl (H' := []) rfl ?_
 rintro _ _ _ ⟨rfl, rfl, rfl⟩
 refine wP rfl (wP rfl (wl_nil (we_then (wc_keep [4] (S' := [_]) rfl (wc_ret ?_)))))
 have hE := (Option.some.inj hm).symm
 replace hE := hE.symm
 subst hE
 refine ret_one (Hr := []) [] Tryz.results39 (res_tmp rfl) ⟨rfl, rfl, rfl⟩ (asK [] rfl) rfl rfl (.inl rfl)
theorem w_disk_fit_s (N : Nat) (qp0 : Option Addr) (qc1 : Nat) (l0 : List ByteArray) (o0 : Bool) (hm : m_disk_fit N l0 = some o0) : Spec Tryz.prog 25 [.slice qp0 l0.length qc1] [.sli 1 R_str qp0 qc1 l0] [] (fun v Φr Hr => v = .bool o0 ∧ Φr = [] ∧ Hr = []) := by
 unfold m_disk_fit at hm
 refine spec_of Tryz.func25 rfl Tryz.ntmps25 rfl (S := [_]) rfl (fun C => (wc_seq (wc_region (wP rfl (wl_nil (we_then (wc_keep [0] (S' := [_]) rfl (wc_seq (wc_region (wP rfl (wl_nil (we_then (wc_seq ?_)))))))))))))
 obtain ⟨bj_1, hm, hLj_1⟩ := bindS_some hm
 refine wc_cut (σ := Unit) (fun _ => bj_1 = .inl ()) (fun _ => []) (fun _ => []) (fun _ => []) ?_ ?_
 ·
  refine wc_seq (wc_region (wP rfl (wN rfl tE_33 (wP rfl (wl_nil (we_then (wc_keep [8,7,6,3] (S' := [_,_,_,_]) rfl (wc_block (wc_loop (σ := Nat × Nat) (fun (nu1, u1_8) => iter (m_disk_fit_L1 N l0) nu1 u1_8 = some bj_1) (fun (nu1, u1_8) => nu1) (fun (nu1, u1_8) => [(8, .int .i64 ((u1_8 : Nat) : Int)), (7, .int .i64 ((l0.length : Nat) : Int)), (6, .slice qp0 l0.length qc1), (3, .func (.func 38) #[] #[])]) (fun (nu1, u1_8) => [.sli 1 R_str qp0 qc1 l0]) (fun (nu1, u1_8) => []) (N, 0) hm [8,7,6,3] rfl (asK [0] rfl) rfl (fun s_ hm => ?_))))))))))
  obtain ⟨nu1, u1_8⟩ := s_
  try dsimp only at hm ⊢
  obtain ⟨mu1, bu1, hnu1, hq, hLu1⟩ := iter_some hm
  clear hm
  subst hnu1
  replace hm := hq
  clear hq
  unfold m_disk_fit_L1 at hm
  try dsimp only at hm
  refine wc_seq (wc_region (wP rfl (wl_as (d := 9) (v' := .bool (decide (u1_8 < l0.length))) (S' := [_,_,_,_]) rfl rfl (natlt (a := u1_8) (b := l0.length)) (wl_nil (we_then (wc_seq ?_))))))
  refine wc_cond rfl (fun hb9 => ?_) (fun hb9 => ?_)
  ·
   replace hm := iteT hm hb9
   refine wc_keep [8,7,6,3] (S' := [_,_,_,_]) rfl (wc_skip (we_then (wc_seq (wc_block (wc_seq (wc_region ?_))))))
   obtain ⟨x10, hx10, hm⟩ := bindO_some hm
   refine wl_indexA 0 u1_8 rfl rfl rfl (freshS_eq rfl) rfl rfl rfl rfl rfl hx10 tE_33 tS_9 (fun b10 q10 cs10 hlx10 => (wl_open R_str_opens 1 rfl (fun r10 er10 _ => ?_)))
   subst er10
   refine wl_load 0 0 rfl rfl rfl (freshS_eq rfl) rfl rfl rfl (cs := [_]) rfl tS_9 tA_9 rfl rfl (wP rfl (wl_nil (we_then (wc_keep [5,8,7,6,3] (S' := [_,_,_,_,_]) rfl (wc_seq ?_)))))
   obtain ⟨bj_2, hm, hLj_2⟩ := bindO_some hm
   unfold m_disk_fit_C2 at hm
   refine wc_cut (σ := Bool) (fun j_2_23 => bj_2 = j_2_23) (fun j_2_23 => [(8, .int .i64 ((u1_8 : Nat) : Int)), (7, .int .i64 ((l0.length : Nat) : Int)), (6, .slice qp0 l0.length qc1), (3, .func (.func 38) #[] #[]), (23, .bool j_2_23)]) (fun j_2_23 => [.sli 1 R_str qp0 qc1 l0]) (fun j_2_23 => []) ?_ ?_
   ·
    refine wc_region (wP rfl (wP rfl (wP rfl ?_)))
    refine wl_split (d := 14) (S' := [_,_,_,_,_,_,_]) rfl rfl (fun hs14 => ?_) (fun hs14 => ?_)
    ·
     replace hm := iteT hm hs14
     refine wO rfl (wO rfl (wO rfl (wP rfl (wP rfl (wO rfl (wO rfl (wO rfl (wP rfl (wl_nil ?_)))))))))
     have hE := (Option.some.inj hm).symm
     refine we_join true hE [8,7,6,3,23] rfl (asK [2] rfl) rfl
    ·
     replace hm := iteF hm hs14
     refine wP rfl (wl_reck rfl rfl rfl (freshS_eq rfl) (rk_strLen rfl rfl tT_9) (wP rfl (wl_as (d := 17) (v' := .bool (decide (30 < x10.size))) (S' := [_,_,_,_,_,_,_,_,_,_]) rfl rfl (natgt (a := x10.size) (b := 30)) (wP rfl (wP rfl ?_)))))
     refine wl_split (d := 19) (S' := [_,_,_,_,_,_,_,_,_,_,_,_]) rfl rfl (fun hs19 => ?_) (fun hs19 => ?_)
     ·
      replace hm := iteT hm hs19
      refine wO rfl (wO rfl (wO rfl (wP rfl (wl_nil ?_))))
      have hE := (Option.some.inj hm).symm
      refine we_join true hE [8,7,6,3,23] rfl (asK [2] rfl) rfl
     ·
      replace hm := iteF hm hs19
      refine wP rfl (wP rfl ?_)
      obtain ⟨v22, hc22, hm⟩ := bindO_some hm
      refine wC [] [] rfl fn_39 rfl (w_strings_ContainsFunc_s N x10 _ hc22) (asK [] rfl) rfl (H' := []) rfl ?_
      rintro _ _ _ ⟨rfl, rfl, rfl⟩
      refine wP rfl (wl_nil ?_)
      have hE := (Option.some.inj hm).symm
      refine we_join v22 hE [8,7,6,3,23] rfl (asK [2] rfl) rfl
   ·
    rintro j_2_23 hE
    try dsimp only
    have hm := hLj_2
    rw [hE] at hm
    refine wc_cond rfl (fun hb23 => ?_) (fun hb23 => ?_)
    ·
     replace hm := iteT hm hb23
     refine wc_keep [] (S' := []) rfl (wc_seq (wc_region (wP rfl (wl_nil (we_then (wc_ret (we_block_ret (we_then_ret (we_then_ret (we_block_ret (we_then_ret ?_)))))))))))
     have hE := (Option.some.inj hm).symm
     replace hE := link_inr hLu1 hE
     replace hE := link_inr hLj_1 hE
     replace hE := hE.symm
     subst hE
     refine ret_one (Hr := []) [] Tryz.results25 (res_tmp rfl) ⟨rfl, rfl, rfl⟩ (asK [] rfl) rfl rfl (.inl rfl)
    ·
     replace hm := iteF hm hb23
     refine wc_keep [8,7,6,3] (S' := [_,_,_,_]) rfl (wc_skip (we_block_normal (we_then (wc_region (wP rfl ?_)))))
     obtain ⟨hg24, hm⟩ := gd_some hm
     refine wl_as (d := 24) (v' := .int .i64 ((u1_8 + 1 : Nat) : Int)) (S' := [_,_,_,_]) rfl rfl (nat_add (a := u1_8) (b := 1) hg24) (wl_pure (S' := [_,_,_,_]) rfl rfl rfl rfl rfl (wl_nil ?_))
     have hE := (Option.some.inj hm).symm
     replace hE := link_inl hLu1 hE
     refine we_roundK (_, u1_8 + 1) (Nat.lt_succ_self _) hE [8,7,6,3] rfl (asK [0] rfl) rfl
  ·
   replace hm := iteF hm hb9
   refine wc_keep [] (S' := []) rfl (wc_exit (we_then_exit (we_then_exit (we_block_hit ?_))))
   have hE := (Option.some.inj hm).symm
   replace hE := link_inr hLu1 hE
   refine we_join () hE [] rfl (asK [] rfl) rfl
 ·
  rintro _ hE
  try dsimp only
  have hm := link_inl hLj_1 hE
  try dsimp only at hm
  refine wc_seq (wc_region (wP rfl (wl_nil (we_then (wc_ret ?_)))))
  have hE := (Option.some.inj hm).symm
  replace hE := hE.symm
  subst hE
  refine ret_one (Hr := []) [] Tryz.results25 (res_tmp rfl) ⟨rfl, rfl, rfl⟩ (asK [] rfl) rfl rfl (.inl rfl)
theorem w_disk_when_s (N : Nat) (a0 : Bool) (a1 : Int) (o0 : Int) (hm : m_disk_when N a0 a1 = some o0) : Spec Tryz.prog 24 [.bool a0, .int .i64 a1] [] [] (fun v Φr Hr => v = .int .i64 o0 ∧ Φr = [] ∧ Hr = []) := by
 unfold m_disk_when at hm
 refine spec_of Tryz.func24 rfl Tryz.ntmps24 rfl (S := [_,_]) rfl (fun C => (wc_seq (wc_region (wP rfl (wl_nil (we_then (wc_keep [0,1] (S' := [_,_]) rfl (wc_seq (wc_seq (wc_region (wP rfl (wl_nil (we_then (wc_keep [5,1] (S' := [_,_]) rfl ?_))))))))))))))
 refine wc_cond rfl (fun hb5 => ?_) (fun hb5 => ?_)
 ·
  replace hm := iteT hm hb5
  refine wc_keep [1] (S' := [_]) rfl (wc_seq (wc_region (wP rfl (wP rfl (wl_nil (we_then (wc_keep [4] (S' := [_]) rfl (wc_ret (we_then_ret ?_)))))))))
  have hE := (Option.some.inj hm).symm
  replace hE := hE.symm
  subst hE
  refine ret_one (Hr := []) [] Tryz.results24 (res_tmp rfl) ⟨rfl, rfl, rfl⟩ (asK [] rfl) rfl rfl (.inl rfl)
 ·
  replace hm := iteF hm hb5
  refine wc_keep [] (S' := []) rfl (wc_skip (we_then (wc_seq (wc_region (wP rfl (wl_nil (we_then (wc_ret ?_))))))))
  have hE := (Option.some.inj hm).symm
  replace hE := hE.symm
  subst hE
  refine ret_one (Hr := []) [] Tryz.results24 (res_tmp rfl) ⟨rfl, rfl, rfl⟩ (asK [] rfl) rfl rfl (.inl rfl)
theorem w_disk_rows_size_s (N : Nat) (qp0 : Option Addr) (qc1 : Nat) (l0 : List Int) (qp2 : Option Addr) (qc3 : Nat) (l1 : List Int)  (hm : m_disk_rows_size N l0 l1 = some ()) : Spec Tryz.prog 26 [.agg #[.slice qp0 l0.length qc1, .slice qp2 l1.length qc3]] [.sli 1 R_u8 qp0 qc1 l0, .sli 1 R_u8 qp2 qc3 l1] [] (fun v Φr Hr => v = .int .i64 ((l0.length + l1.length : Nat) : Int) ∧ Φr = [] ∧ Hr = []) := by
 unfold m_disk_rows_size at hm
 refine spec_of Tryz.func26 rfl Tryz.ntmps26 rfl (S := [_]) rfl (fun C => (wc_seq (wc_region (wB rfl (fun g1 => (wP rfl (wl_nil (we_then (wc_keep [1] (S' := [_]) rfl (wc_seq (wc_region (wF rfl tF_49_0 (wD 0 0 rfl tS_22 tA_22 rfl (wN rfl tE_22 (wF rfl tF_49_1 ?_)))))))))))))))
 refine wD 0 1 rfl tS_22 tA_22 rfl (wN rfl tE_22 (wP rfl ?_))
 obtain ⟨hg9, hm⟩ := gd_some hm
 refine wl_as (d := 9) (v' := .int .i64 ((l0.length + l1.length : Nat) : Int)) (S' := [_,_,_,_,_,_,_]) rfl rfl (nat_add (a := l0.length) (b := l1.length) hg9) (wP rfl (wl_nil (we_then (wc_keep [2] (S' := [_]) rfl (wc_ret ?_)))))
 have hE := (Option.some.inj hm).symm
 refine ret_one (Hr := []) [] Tryz.results26 (res_tmp rfl) ⟨rfl, rfl, rfl⟩ (asK [] rfl) rfl rfl (.inl rfl)
theorem w_disk_Disk_Used_s (N : Nat) (qg0 : Nat) (a0 : Int) (qb1 : Nat) (e1 : List (ByteArray × Disk_rowsD)) (o0 : Nat) (hm : m_disk_Disk_Used N a0 e1 = some o0) : Spec Tryz.prog 19 [.pointer (some ⟨qg0,0, none⟩)] [] [.blk qg0 [.int .i64 a0, .map (some qb1)] 45, mapP (keyStr (tStr_run tT_9)) true R_Disk_rowsD qb1 e1] (fun v Φr Hr => v = .int .i64 ((o0 : Nat) : Int) ∧ Φr = [] ∧ Hr = [.blk qg0 [.int .i64 a0, .map (some qb1)] 45, mapP (keyStr (tStr_run tT_9)) true R_Disk_rowsD qb1 e1]) := by
 unfold m_disk_Disk_Used at hm
 refine spec_of Tryz.func19 rfl Tryz.ntmps19 rfl (S := [_]) rfl (fun C => (wc_seq (wc_region (wP rfl (wl_nil (we_then (wc_seq (wc_seq (wc_region (wP rfl ?_))))))))))
 obtain ⟨_, hc6, hm⟩ := bindO_some hm
 try dsimp only at hm
 refine wC [0,1] [] rfl fn_21 rfl (w_disk_Disk_is_s N qg0 a0 qb1 e1 hc6) (asK [] rfl) rfl (H' := []) rfl ?_
 rintro _ _ _ ⟨rfl, rfl, rfl⟩
 refine wP rfl (wl_as (d := 7) (v' := .bool false) (S' := [_,_,_,_]) rfl rfl rfl (wl_nil (we_then (wc_keep [7,2,0] (S' := [_,_,_]) rfl (wc_false rfl (wc_keep [2,0] (S' := [_,_]) rfl (wc_skip (we_then (wc_seq ?_)))))))))
 obtain ⟨bj_1, hm, hLj_1⟩ := bindO_some hm
 refine wc_cut (σ := Nat) (fun j_1_2 => bj_1 = j_1_2) (fun j_1_2 => [(2, .int .i64 ((j_1_2 : Nat) : Int))]) (fun j_1_2 => []) (fun j_1_2 => [.blk qg0 [.int .i64 a0, .map (some qb1)] 45, mapP (keyStr (tStr_run tT_9)) true R_Disk_rowsD qb1 e1]) ?_ ?_
 ·
  refine wc_seq (wc_region (wP rfl (wP rfl (wF rfl tF_45_1 (wD 0 1 rfl tS_43 tA_43 rfl (wl_rangeP 1 rfl rfl rfl (freshS_eq rfl) rfl rfl rfl tM_43 (fun g12 => (wl_sh [.blk qg0 [.int .i64 a0, .map (some qb1)] 45, mapIt (keyStr (tStr_run tT_9)) true R_Disk_rowsD qb1 g12 e1 (List.map (fun x : ByteArray × Disk_rowsD => x.1) e1) none] (fun _ h => h) (wl_nil (we_then (wc_keep [12,2] (S' := [_,_]) rfl (wc_block (wc_pick [1,0] rfl (H' := [_,_]) rfl ?_)))))))))))))
  replace hm := ranP_some hm
  refine wc_loop (σ := Nat × (List ByteArray)) (fun (u1_2, u1_12_td) => ∀ ord : List ByteArray, ord.Perm u1_12_td → ranL (m_disk_Disk_Used_L1 N e1) ord u1_2 = some bj_1) (fun (u1_2, u1_12_td) => u1_12_td.length) (fun (u1_2, u1_12_td) => [(12, .pointer (some ⟨g12,0, none⟩)), (2, .int .i64 ((u1_2 : Nat) : Int))]) (fun (u1_2, u1_12_td) => []) (fun (u1_2, u1_12_td) => [mapIt (keyStr (tStr_run tT_9)) true R_Disk_rowsD qb1 g12 e1 u1_12_td none, .blk qg0 [.int .i64 a0, .map (some qb1)] 45]) (0, (List.map (fun x : ByteArray × Disk_rowsD => x.1) e1)) hm [12,2] rfl (asK [] rfl) rfl (fun s_ hm => ?_)
  obtain ⟨u1_2, u1_12_td⟩ := s_
  try dsimp only at hm ⊢
  refine wc_seq (wc_region ?_)
  refine wl_nextP 0 rfl rfl rfl (freshS_eq rfl) rfl rfl rfl (fun htd13 => ?_) (fun k13 kv13 hk13 => ?_)
  ·
   refine wl_sh [mapP (keyStr (tStr_run tT_9)) true R_Disk_rowsD qb1 e1, .blk qg0 [.int .i64 a0, .map (some qb1)] 45] (fun _ h => h) ?_
   obtain ⟨bu1, hq, hLu1⟩ := ran_nil hm htd13
   clear hm
   replace hm := hq
   clear hq
   unfold m_disk_Disk_Used_L1 at hm
   try dsimp only [optE] at hm
   refine wP rfl (wl_nil (we_then (wc_keep [14,12,2] (S' := [_,_,_]) rfl (wc_seq (wc_false rfl (wc_keep [2] (S' := [_]) rfl (wc_exit (we_then_exit (we_then_exit (we_block_hit ?_))))))))))
   have hE := (Option.some.inj hm).symm
   replace hE := link_inr hLu1 hE
   refine we_pick [1,0] rfl (H' := [_,_]) rfl ?_
   refine we_join u1_2 hE [2] rfl (asK [] rfl) rfl
  ·
   refine wl_sh [mapIt (keyStr (tStr_run tT_9)) true R_Disk_rowsD qb1 g12 e1 (rmK u1_12_td k13) (some k13), .blk qg0 [.int .i64 a0, .map (some qb1)] 45] (fun _ h => h) ?_
   obtain ⟨bu1, hq, hLu1⟩ := ran_cons hm hk13
   clear hm
   replace hm := hq
   clear hq
   unfold m_disk_Disk_Used_L1 at hm
   try dsimp only [optE] at hm
   refine wP rfl (wl_nil (we_then (wc_keep [14,12,2] (S' := [_,_,_]) rfl (wc_seq (wc_true rfl (wc_keep [12,2] (S' := [_,_]) rfl (wc_skip (we_then (wc_block (wc_seq (wc_region ?_)))))))))))
   obtain ⟨x15, hx15, hm⟩ := bindO_some hm
   refine wl_entryP (a := x15) R_Disk_rowsD_opens 0 rfl rfl rfl (freshS_eq rfl) rfl rfl rfl hx15 (u := fun r15 => .agg #[.slice r15.1.1 x15.firm.length r15.1.2, .slice r15.2.1 x15.loose.length r15.2.2]) (fun _ => rfl) (v := fun r15 => .tuple #[.string k13, .agg #[.slice r15.1.1 x15.firm.length r15.1.2, .slice r15.2.1 x15.loose.length r15.2.2]]) (fun _ => rfl) (H' := [mapIt (keyStr (tStr_run tT_9)) true R_Disk_rowsD qb1 g12 e1 (rmK u1_12_td k13) none, .blk qg0 [.int .i64 a0, .map (some qb1)] 45]) rfl (fun r15 _ => (wP rfl (wl_alloc rfl rfl rfl (freshS_eq rfl) rfl tZ_49 rfl (fun g4 => (wS 0 0 rfl tS_49 (all' := [_,_]) rfl (H' := [_,_,_]) rfl (wl_nil (we_then (wc_keep [4,12,2] (S' := [_,_,_]) rfl (wc_region (wP rfl (wl_loadH 0 0 rfl rfl rfl (freshS_eq rfl) rfl rfl rfl (cs := [_,_]) rfl tS_49 tA_49 rfl rfl ?_)))))))))))
   obtain ⟨_, hc19, hm⟩ := bindO_some hm
   try dsimp only at hm
   refine wC [] [0,1,2] rfl fn_26 rfl (w_disk_rows_size_s N r15.1.1 r15.1.2 x15.firm r15.2.1 r15.2.2 x15.loose hc19) (asK [0,1] rfl) rfl (H' := [_,_,_]) rfl ?_
   rintro _ _ _ ⟨rfl, rfl, rfl⟩
   refine wP rfl ?_
   obtain ⟨hg20, hm⟩ := gd_some hm
   refine wl_as (d := 20) (v' := .int .i64 ((u1_2 + (x15.firm.length + x15.loose.length) : Nat) : Int)) (S' := [_,_,_,_,_,_]) rfl rfl (nat_add (a := u1_2) (b := x15.firm.length + x15.loose.length) hg20) (wl_pure (S' := [_,_,_,_,_,_]) rfl rfl rfl rfl rfl (wl_nil (we_block_normal ?_)))
   have hE := (Option.some.inj hm).symm
   replace hE := ran_inl hLu1 hE
   refine we_pick [1,2] rfl (H' := [_,_]) rfl ?_
   refine we_roundK (u1_2 + (x15.firm.length + x15.loose.length), rmK u1_12_td k13) (erase_lt hk13) hE [12,2] rfl (asK [] rfl) rfl
 ·
  rintro j_1_2 hE
  try dsimp only
  have hm := hLj_1
  rw [hE] at hm
  refine wc_seq (wc_region (wP rfl (wl_pure (S' := [_]) rfl rfl rfl rfl rfl (wl_nil (we_then (wc_keep [2] (S' := [_]) rfl (wc_ret ?_)))))))
  have hE := (Option.some.inj hm).symm
  replace hE := hE.symm
  subst hE
  refine ret_one (Hr := [_,_]) [0,1] Tryz.results19 (res_tmp rfl) ⟨rfl, rfl, rfl⟩ (asK [] rfl) rfl rfl (.inl rfl)
theorem w_cmp_Or_Errno_s (N : Nat) (qp0 : Option Addr) (qc1 : Nat) (l0 : List Int) (o0 : Int) (hm : m_cmp_Or_Errno N l0 = some o0) : Spec Tryz.prog 23 [.slice qp0 l0.length qc1] [.sli 1 R_i64 qp0 qc1 l0] [] (fun v Φr Hr => v = .int .i64 o0 ∧ Φr = [] ∧ Hr = []) := by
 unfold m_cmp_Or_Errno at hm
 refine spec_of Tryz.func23 rfl Tryz.ntmps23 rfl (S := [_]) rfl (fun C => (wc_seq (wc_region (wP rfl (wl_nil (we_then (wc_keep [0] (S' := [_]) rfl (wc_seq (wc_region (wP rfl (wl_nil (we_then (wc_seq ?_)))))))))))))
 obtain ⟨bj_1, hm, hLj_1⟩ := bindS_some hm
 refine wc_cut (σ := Unit) (fun _ => bj_1 = .inl ()) (fun _ => [(3, .int .i64 0)]) (fun _ => []) (fun _ => []) ?_ ?_
 ·
  refine wc_seq (wc_region (wP rfl (wN rfl tE_40 (wP rfl (wl_nil (we_then (wc_keep [8,7,6,3] (S' := [_,_,_,_]) rfl (wc_block (wc_loop (σ := Nat × Nat) (fun (nu1, u1_8) => iter (m_cmp_Or_Errno_L1 N l0) nu1 u1_8 = some bj_1) (fun (nu1, u1_8) => nu1) (fun (nu1, u1_8) => [(8, .int .i64 ((u1_8 : Nat) : Int)), (7, .int .i64 ((l0.length : Nat) : Int)), (6, .slice qp0 l0.length qc1), (3, .int .i64 0)]) (fun (nu1, u1_8) => [.sli 1 R_i64 qp0 qc1 l0]) (fun (nu1, u1_8) => []) (N, 0) hm [8,7,6,3] rfl (asK [0] rfl) rfl (fun s_ hm => ?_))))))))))
  obtain ⟨nu1, u1_8⟩ := s_
  try dsimp only at hm ⊢
  obtain ⟨mu1, bu1, hnu1, hq, hLu1⟩ := iter_some hm
  clear hm
  subst hnu1
  replace hm := hq
  clear hq
  unfold m_cmp_Or_Errno_L1 at hm
  try dsimp only at hm
  refine wc_seq (wc_region (wP rfl (wl_as (d := 9) (v' := .bool (decide (u1_8 < l0.length))) (S' := [_,_,_,_]) rfl rfl (natlt (a := u1_8) (b := l0.length)) (wl_nil (we_then (wc_seq ?_))))))
  refine wc_cond rfl (fun hb9 => ?_) (fun hb9 => ?_)
  ·
   replace hm := iteT hm hb9
   refine wc_keep [8,7,6,3] (S' := [_,_,_,_]) rfl (wc_skip (we_then (wc_seq (wc_block (wc_seq (wc_region ?_))))))
   obtain ⟨x10, hx10, hm⟩ := bindO_some hm
   refine wl_indexA 0 u1_8 rfl rfl rfl (freshS_eq rfl) rfl rfl rfl rfl rfl hx10 tE_40 tS_27 (fun b10 q10 cs10 hlx10 => (wl_open R_i64_opens 1 rfl (fun r10 er10 _ => ?_)))
   subst er10
   refine wl_load 0 0 rfl rfl rfl (freshS_eq rfl) rfl rfl rfl (cs := [_]) rfl tS_27 tA_27 rfl rfl (wP rfl (wl_nil (we_then (wc_keep [5,8,7,6,3] (S' := [_,_,_,_,_]) rfl (wc_seq (wc_region (wP rfl (wP rfl (wP rfl (wl_nil (we_then (wc_keep [14,5,8,7,6,3] (S' := [_,_,_,_,_,_]) rfl ?_))))))))))))
   refine wc_cond rfl (fun hb14 => ?_) (fun hb14 => ?_)
   ·
    replace hm := iteT hm hb14
    refine wc_keep [5] (S' := [_]) rfl (wc_seq (wc_region (wP rfl (wP rfl (wl_nil (we_then (wc_keep [2] (S' := [_]) rfl (wc_ret (we_block_ret (we_then_ret (we_then_ret (we_block_ret (we_then_ret ?_)))))))))))))
    have hE := (Option.some.inj hm).symm
    replace hE := link_inr hLu1 hE
    replace hE := link_inr hLj_1 hE
    replace hE := hE.symm
    subst hE
    refine ret_one (Hr := []) [] Tryz.results23 (res_tmp rfl) ⟨rfl, rfl, rfl⟩ (asK [] rfl) rfl rfl (.inl rfl)
   ·
    replace hm := iteF hm hb14
    refine wc_keep [8,7,6,3] (S' := [_,_,_,_]) rfl (wc_skip (we_block_normal (we_then (wc_region (wP rfl ?_)))))
    obtain ⟨hg16, hm⟩ := gd_some hm
    refine wl_as (d := 16) (v' := .int .i64 ((u1_8 + 1 : Nat) : Int)) (S' := [_,_,_,_]) rfl rfl (nat_add (a := u1_8) (b := 1) hg16) (wl_pure (S' := [_,_,_,_]) rfl rfl rfl rfl rfl (wl_nil ?_))
    have hE := (Option.some.inj hm).symm
    replace hE := link_inl hLu1 hE
    refine we_roundK (_, u1_8 + 1) (Nat.lt_succ_self _) hE [8,7,6,3] rfl (asK [2] rfl) rfl
  ·
   replace hm := iteF hm hb9
   refine wc_keep [3] (S' := [_]) rfl (wc_exit (we_then_exit (we_then_exit (we_block_hit ?_))))
   have hE := (Option.some.inj hm).symm
   replace hE := link_inr hLu1 hE
   refine we_join () hE [3] rfl (asK [] rfl) rfl
 ·
  rintro _ hE
  try dsimp only
  have hm := link_inl hLj_1 hE
  try dsimp only at hm
  refine wc_seq (wc_region (wP rfl (wP rfl (wl_nil (we_then (wc_keep [2] (S' := [_]) rfl (wc_ret ?_)))))))
  have hE := (Option.some.inj hm).symm
  replace hE := hE.symm
  subst hE
  refine ret_one (Hr := []) [] Tryz.results23 (res_tmp rfl) ⟨rfl, rfl, rfl⟩ (asK [] rfl) rfl rfl (.inl rfl)
theorem w_disk_Disk_Append_s (N : Nat) (qg0 : Nat) (a0 : Int) (qb1 : Nat) (e1 : List (ByteArray × Disk_rowsD)) (a2 : ByteArray) (qp2 : Option Addr) (qc3 : Nat) (l3 : List Int) (o0 : Int) (o1 : List (ByteArray × Disk_rowsD)) (hm : m_disk_Disk_Append N a0 e1 a2 l3 = some (o0, o1)) : Spec Tryz.prog 7 [.pointer (some ⟨qg0,0, none⟩), .string a2, .slice qp2 l3.length qc3] [.sli 1 R_u8 qp2 qc3 l3] [.blk qg0 [.int .i64 a0, .map (some qb1)] 45, mapP (keyStr (tStr_run tT_9)) true R_Disk_rowsD qb1 e1] (fun v Φr Hr => v = .int .i64 o0 ∧ Φr = [] ∧ Hr = [.blk qg0 [.int .i64 a0, .map (some qb1)] 45, mapP (keyStr (tStr_run tT_9)) true R_Disk_rowsD qb1 o1]) := by
 unfold m_disk_Disk_Append at hm
 refine spec_of Tryz.func7 rfl Tryz.ntmps7 rfl (S := [_,_,_]) rfl (fun C => (wc_seq (wc_region (wP rfl (wl_nil (we_then (wc_keep [0,1,2] (S' := [_,_,_]) rfl (wc_seq (wc_seq (wc_region (wP rfl ?_)))))))))))
 obtain ⟨_, hc11, hm⟩ := bindO_some hm
 try dsimp only at hm
 refine wC [0,1] [] rfl fn_21 rfl (w_disk_Disk_is_s N qg0 a0 qb1 e1 hc11) (asK [] rfl) rfl (H' := []) rfl ?_
 rintro _ _ _ ⟨rfl, rfl, rfl⟩
 refine wP rfl (wl_nil (we_then (wc_keep [7,0,1,2] (S' := [_,_,_,_]) rfl (wc_seq (wc_region (wP rfl (wP rfl (wl_as (d := 13) (v' := .bool false) (S' := [_,_,_,_,_]) rfl rfl rfl (wl_nil (we_then (wc_keep [13,7,0,1,2] (S' := [_,_,_,_,_]) rfl (wc_false rfl (wc_keep [0,1,2] (S' := [_,_,_]) rfl ?_)))))))))))))
 refine wc_skip (we_then (wc_seq ?_))
 obtain ⟨bj_1, hm, hLj_1⟩ := bindO_some hm
 refine wc_cut (σ := (List Int) × (List Int) × Nat × (Option Addr) × Nat × (Option Addr) × Nat) (fun (j_1_8_f0_l, j_1_8_f1_l, j_1_8_g, j_1_8_f0_p, j_1_8_f0_c, j_1_8_f1_p, j_1_8_f1_c) => bj_1 = (j_1_8_f0_l, j_1_8_f1_l)) (fun (j_1_8_f0_l, j_1_8_f1_l, j_1_8_g, j_1_8_f0_p, j_1_8_f0_c, j_1_8_f1_p, j_1_8_f1_c) => [(0, .pointer (some ⟨qg0,0, none⟩)), (1, .string a2), (2, .slice qp2 l3.length qc3), (8, .pointer (some ⟨j_1_8_g, 0, none⟩))]) (fun (j_1_8_f0_l, j_1_8_f1_l, j_1_8_g, j_1_8_f0_p, j_1_8_f0_c, j_1_8_f1_p, j_1_8_f1_c) => [.sli 1 R_u8 qp2 qc3 l3, .sli 1 R_u8 j_1_8_f0_p j_1_8_f0_c j_1_8_f0_l, .sli 1 R_u8 j_1_8_f1_p j_1_8_f1_c j_1_8_f1_l]) (fun (j_1_8_f0_l, j_1_8_f1_l, j_1_8_g, j_1_8_f0_p, j_1_8_f0_c, j_1_8_f1_p, j_1_8_f1_c) => [.blk qg0 [.int .i64 a0, .map (some qb1)] 45, mapP (keyStr (tStr_run tT_9)) true R_Disk_rowsD qb1 e1, .blk j_1_8_g [.slice j_1_8_f0_p j_1_8_f0_l.length j_1_8_f0_c, .slice j_1_8_f1_p j_1_8_f1_l.length j_1_8_f1_c] 49]) ?_ ?_
 ·
  refine wc_region (wP rfl (wP rfl (wF rfl tF_45_1 (wD 0 1 rfl tS_43 tA_43 rfl (wP rfl ?_)))))
  rcases optE_some hm with ⟨hq20, hm⟩ | ⟨x20, hq20, hm⟩
  ·
   refine wl_lookNoP (i := a2) 1 rfl rfl rfl (freshS_eq rfl) rfl rfl rfl rfl tZ_49 tM_43 trivial hq20 (v := .agg #[.slice none 0 0, .slice none 0 0]) rfl (wl_alloc rfl rfl rfl (freshS_eq rfl) rfl tZ_49 rfl (fun g8 => (wS 0 0 rfl tS_49 (all' := [_,_]) rfl (H' := [_,_,_]) rfl (wl_nil ?_))))
   have hE := (Option.some.inj hm).symm
   refine we_fact (.sli 1 R_u8 none 0 ([] : List Int)) (fun _ _ _ => sli_none) (we_fact (.sli 1 R_u8 none 0 ([] : List Int)) (fun _ _ _ => sli_none) (we_pick [1,2,0] rfl (H' := [_,_,_]) rfl ?_))
   refine we_join ([],[], g8, none, 0, none, 0) hE [0,1,2,8] rfl (asK [2,1,0] rfl) rfl
  ·
   refine wl_lookYesP (i := a2) (a := x20) R_Disk_rowsD_opens 1 rfl rfl rfl (freshS_eq rfl) rfl rfl rfl rfl tM_43 trivial hq20 (u := fun r20 => .agg #[.slice r20.1.1 x20.firm.length r20.1.2, .slice r20.2.1 x20.loose.length r20.2.2]) (fun _ => rfl) (v := fun r20 => .agg #[.slice r20.1.1 x20.firm.length r20.1.2, .slice r20.2.1 x20.loose.length r20.2.2]) (fun _ => rfl) (fun r20 _ => (wl_alloc rfl rfl rfl (freshS_eq rfl) rfl tZ_49 rfl (fun g8 => (wS 0 0 rfl tS_49 (all' := [_,_]) rfl (H' := [_,_,_]) rfl (wl_nil ?_)))))
   have hE := (Option.some.inj hm).symm
   refine we_pick [1,2,0] rfl (H' := [_,_,_]) rfl ?_
   refine we_join (x20.firm, x20.loose, g8, r20.1.1, r20.1.2, r20.2.1, r20.2.2) hE [0,1,2,8] rfl (asK [2,0,1] rfl) rfl
 ·
  rintro ⟨j_1_8_f0_l, j_1_8_f1_l, j_1_8_g, j_1_8_f0_p, j_1_8_f0_c, j_1_8_f1_p, j_1_8_f1_c⟩ hE
  try dsimp only
  have hm := hLj_1
  rw [hE] at hm
  try dsimp only at hm
  refine wc_seq (wc_region (wF rfl tF_49_1 (wD 2 1 rfl tS_22 tA_22 rfl (wP rfl (wl_buildSlice rfl rfl rfl (freshS_eq rfl) rfl tE_37 tS_22 tZ_22 rfl (zs := [.slice none 0 0, .slice none 0 0]) (by kernel_rfl) rfl (out := [_,_]) rfl (fun g24 => (wl_row (sz := 1) (m := 2) R_l_u8 ([j_1_8_f1_l, l3]) 0 rfl (fun F w hφ => ⟨[.slice j_1_8_f1_p j_1_8_f1_l.length j_1_8_f1_c],[.slice qp2 l3.length qc3], rfl, rfl, ⟨(j_1_8_f1_p, j_1_8_f1_c), rfl, (ask_cons (hφ _ (mem_at (k := 2) rfl)) ask_nil)⟩, ⟨[.slice qp2 l3.length qc3],[], rfl, rfl, ⟨(qp2, qc3), rfl, (ask_cons (hφ _ (mem_at (k := 0) rfl)) ask_nil)⟩, rfl⟩⟩) rfl (by decide) (H' := [_,_,_,_]) rfl ?_)))))))
  obtain ⟨v25, hc25, hm⟩ := bindO_some hm
  refine wl_lend [] [0,1,2,3] [0] rfl rfl rfl (freshS_eq rfl) rfl rfl fn_22 rfl (w_slices_Concat_byte_s N (some ⟨g24,0, none⟩) 2 [j_1_8_f1_l, l3] _ hc25) (fun F w hφ hh => (ask_cons (own_sli (hh _ (mem_at (k := 0) rfl))) ask_nil)) (fun _ _ _ hR => by obtain ⟨_,_,_, rfl, rfl, rfl⟩ := hR; exact ⟨rfl, (free_cons (own_free mkRep_free) (fun _ h => free_nil h))⟩) rfl rfl (H' := [_,_,_,_]) rfl ?_
  rintro _ _ _ ⟨p25_0, c25_1, c25_2, rfl, rfl, rfl⟩
  refine wF rfl tF_49_1 (wS 4 1 rfl tS_22 (all' := [_,_]) rfl (H' := [_,_,_,_,_]) rfl (wl_nil (we_then (wc_keep [0,1,2,8] (S' := [_,_,_,_]) rfl (wc_seq ?_)))))
  obtain ⟨v29, hc29, hm⟩ := bindO_some hm
  obtain ⟨v31, hc31, hm⟩ := bindO_some hm
  obtain ⟨_, hc33, hm⟩ := bindO_some hm
  try dsimp only at hm
  obtain ⟨v35, hc35, hm⟩ := bindO_some hm
  obtain ⟨v37, hc37, hm⟩ := bindO_some hm
  obtain ⟨hg40, hm⟩ := gd_some hm
  obtain ⟨v46, hc46, hm⟩ := bindO_some hm
  obtain ⟨v48, hc48, hm⟩ := bindO_some hm
  refine wc_draw [0,3,5,7,9,11,12,13,14,15,16,17,18] rfl rfl (fun hok => (xP hok 0 rfl (wx_loadH hok 5 4 0 rfl rfl rfl (freshS_eq rfl) rfl rfl rfl rfl (cs := [_,_]) rfl tS_49 tA_49 rfl rfl (xP hok 9 rfl (xP hok 11 rfl (wx_len hok 12 rfl rfl rfl (freshS_eq rfl) rfl rfl rfl tE_22 (xP hok 14 rfl (xP hok 15 rfl (wx_fieldAddr hok 16 rfl rfl rfl (freshS_eq rfl) rfl rfl rfl tF_45_0 (wx_loadH hok 17 2 0 rfl rfl rfl (freshS_eq rfl) rfl rfl rfl rfl (cs := [_]) rfl tS_3 tA_3 rfl rfl (xS hok 1 rfl (wl_buildSlice rfl rfl rfl (freshS_eq rfl) rfl tE_33 tS_9 tZ_9 rfl (zs := [.string ((⟨#[]⟩ : ByteArray))]) (by kernel_rfl) rfl (out := [_]) rfl (fun g28 => (wl_nil (we_x [0,1,2] [3,5] rfl rfl ?_)))))))))))))))
  refine xS hok 2 rfl (wl_row (sz := 1) (m := 1) R_str [a2] 0 rfl (fun F w hφ => ⟨[.string a2],[], rfl, rfl, ⟨(), rfl, ask_nil⟩, rfl⟩) rfl (by decide) (H' := [_,_,_,_,_,_]) rfl (wl_lend [] [0,1,2,3,4,5] [0] rfl rfl rfl (freshS_eq rfl) rfl rfl fn_25 rfl (w_disk_fit_s N (some ⟨g28,0, none⟩) 1 [a2] _ hc29) (fun F w hφ hh => (ask_cons (own_sli (hh _ (mem_at (k := 0) rfl))) ask_nil)) (fun _ _ _ hR => by obtain ⟨rfl, rfl, rfl⟩ := hR; exact ⟨rfl, (fun _ h => free_nil h)⟩) rfl rfl (H' := [_,_,_,_,_,_]) rfl ?_))
  rintro _ _ _ ⟨rfl, rfl, rfl⟩
  refine wl_nil (we_x [0,1,2] [3,5] rfl rfl (xP hok 3 rfl (xS hok 4 rfl (wC [] [0,1,2,3,4,5] rfl fn_24 rfl (w_disk_when_s N (!v29) 2 _ hc31) (asK [] rfl) rfl (H' := [_,_,_,_,_,_]) rfl ?_))))
  rintro _ _ _ ⟨rfl, rfl, rfl⟩
  refine wl_nil (we_x [0,1,2] [3,5] rfl rfl (xS hok 6 rfl (wl_ownLen 1 rfl (fun hzc25_2 _ => ?_))))
  subst hzc25_2
  refine wl_lend [] [0,1,2,3,4,5] [1] rfl rfl rfl (freshS_eq rfl) rfl rfl fn_26 rfl (w_disk_rows_size_s N j_1_8_f0_p j_1_8_f0_c j_1_8_f0_l p25_0 c25_1 v25 hc33) (fun F w hφ hh => (ask_cons (hφ _ (mem_at (k := 1) rfl)) (ask_cons (own_sli (hh _ (mem_at (k := 0) rfl))) ask_nil))) (fun _ _ _ hR => by obtain ⟨rfl, rfl, rfl⟩ := hR; exact ⟨rfl, (fun _ h => free_nil h)⟩) rfl rfl (H' := [_,_,_,_,_,_]) rfl ?_
  rintro _ _ _ ⟨rfl, rfl, rfl⟩
  refine wl_nil (we_x [0,1,2] [3] rfl rfl (xP hok 7 rfl (wx_as (d := 34) (v' := .bool (decide (4194304 < (j_1_8_f0_l.length + v25.length)))) (S' := [_,_,_,_,_,_,_,_,_,_,_,_,_,_,_,_,_,_]) rfl rfl (natgt (a := j_1_8_f0_l.length + v25.length) (b := 4194304)) (xS hok 8 rfl (wC [] [0,1,2,3,4,5] rfl fn_24 rfl (w_disk_when_s N (decide (4194304 < (j_1_8_f0_l.length + v25.length))) 3 _ hc35) (asK [] rfl) rfl (H' := [_,_,_,_,_,_]) rfl ?_)))))
  rintro _ _ _ ⟨rfl, rfl, rfl⟩
  refine wl_nil (we_x [0,1,2] [3,5] rfl rfl (xS hok 10 rfl (wC [3,4] [0,1,2,5] rfl fn_19 rfl (w_disk_Disk_Used_s N qg0 a0 qb1 e1 _ hc37) (asK [] rfl) rfl (H' := [_,_,_,_]) rfl ?_)))
  rintro _ _ _ ⟨rfl, rfl, rfl⟩
  refine wl_nil (we_x [0,1,2] [0,5] rfl rfl (xP hok 13 rfl (wx_as (d := 40) (v' := .int .i64 ((v37 + l3.length : Nat) : Int)) (S' := [_,_,_,_,_,_,_,_,_,_,_,_,_,_,_,_,_,_,_,_,_]) rfl rfl (nat_add (a := v37) (b := l3.length) hg40) (xP hok 18 rfl (xS hok 19 rfl (wC [] [0,1,2,3,4,5] rfl fn_24 rfl (w_disk_when_s N (decide (((v37 + l3.length : Nat) : Int) > a0)) 5 _ hc46) (asK [] rfl) rfl (H' := [_,_,_,_,_,_]) rfl ?_))))))
  rintro _ _ _ ⟨rfl, rfl, rfl⟩
  refine wl_nil (we_x [0,1,2] [0,5] rfl rfl (xS hok 20 rfl (wl_buildSlice rfl rfl rfl (freshS_eq rfl) rfl tE_40 tS_27 tZ_27 rfl (zs := [.int .i64 0, .int .i64 0, .int .i64 0]) (by kernel_rfl) rfl (out := [_,_,_]) rfl (fun g47 => (wl_nil (we_x [0,1,2] [1,6] rfl rfl (xS hok 21 rfl (wl_row (sz := 1) (m := 3) R_i64 ([v31, v35, v46]) 0 rfl (fun F w hφ => ⟨[.int .i64 v31],[.int .i64 v35, .int .i64 v46], rfl, rfl, ⟨(), rfl, ask_nil⟩, ⟨[.int .i64 v35],[.int .i64 v46], rfl, rfl, ⟨(), rfl, ask_nil⟩, ⟨[.int .i64 v46],[], rfl, rfl, ⟨(), rfl, ask_nil⟩, rfl⟩⟩⟩) rfl (by decide) (H' := [_,_,_,_,_,_,_]) rfl (wl_lend [] [0,1,2,3,4,5,6] [0] rfl rfl rfl (freshS_eq rfl) rfl rfl fn_23 rfl (w_cmp_Or_Errno_s N (some ⟨g47,0, none⟩) 3 [v31, v35, v46] _ hc48) (fun F w hφ hh => (ask_cons (own_sli (hh _ (mem_at (k := 0) rfl))) ask_nil)) (fun _ _ _ hR => by obtain ⟨rfl, rfl, rfl⟩ := hR; exact ⟨rfl, (fun _ h => free_nil h)⟩) rfl rfl (H' := [_,_,_,_,_,_,_]) rfl ?_)))))))))
  rintro _ _ _ ⟨rfl, rfl, rfl⟩
  refine wl_nil (we_x [0,1,2] [1,6] rfl rfl (xS hok 22 rfl (wP rfl (wl_nil (we_x [0,1,2] [] rfl rfl (wx_done hok rfl (we_then (wc_keep [9,0,1,8] (S' := [_,_,_,_]) rfl (wc_seq ?_)))))))))
  obtain ⟨bj_2, hm, hLj_2⟩ := bindO_some hm
  refine wc_cut (σ := List (ByteArray × Disk_rowsD)) (fun j_2_r0_f1_m => bj_2 = j_2_r0_f1_m) (fun j_2_r0_f1_m => [(9, .int .i64 v48)]) (fun j_2_r0_f1_m => []) (fun j_2_r0_f1_m => [.blk qg0 [.int .i64 a0, .map (some qb1)] 45, mapP (keyStr (tStr_run tT_9)) true R_Disk_rowsD qb1 j_2_r0_f1_m]) ?_ ?_
  ·
   refine wc_seq (wc_region (wP rfl (wP rfl (wl_nil (we_then (wc_keep [50,9,0,1,8] (S' := [_,_,_,_,_]) rfl ?_))))))
   refine wc_cond rfl (fun hb50 => ?_) (fun hb50 => ?_)
   ·
    replace hm := iteT hm hb50
    refine wc_keep [9,0,1,8] (S' := [_,_,_,_]) rfl (wc_draw [0,1,2,3,4,5] rfl rfl (fun hok => (xP hok 0 rfl (xP hok 1 rfl (wx_fieldAddr hok 2 rfl rfl rfl (freshS_eq rfl) rfl rfl rfl tF_45_1 (wx_loadH hok 3 1 1 rfl rfl rfl (freshS_eq rfl) rfl rfl rfl rfl (cs := [_]) rfl tS_43 tA_43 rfl rfl (xP hok 4 rfl (wx_loadH hok 5 6 0 rfl rfl rfl (freshS_eq rfl) rfl rfl rfl rfl (cs := [_,_]) rfl tS_49 tA_49 rfl rfl (xS hok 6 rfl (wl_freeze 4 rfl (H' := [_,_,_,_,_,_]) rfl (wl_fact (.sli 1 R_u8 p25_0 c25_1 v25) (fun F w hφ => own_sli (hφ _ (mem_at (k := 0) rfl))) (wl_mapPutP (i := a2) (u := (⟨j_1_8_f0_l, v25⟩ : Disk_rowsD)) (cs := [.slice j_1_8_f0_p j_1_8_f0_l.length j_1_8_f0_c, .slice p25_0 v25.length c25_1]) ltB 2 rfl rfl (.inl rfl) rfl rfl rfl rfl tM_43 trivial rfl (fun F w hφ => ⟨((j_1_8_f0_p, j_1_8_f0_c), (p25_0, c25_1)), rfl, (ask_cons (hφ _ (mem_at (k := 3) rfl)) (ask_cons (hφ _ (mem_at (k := 0) rfl)) ask_nil))⟩) (H' := [.own 27 1 R_i64 (.slice (some ⟨g47,0, none⟩) ([v31, v35, v46].length) 3) ([v31, v35, v46]), .blk qg0 [.int .i64 a0, .map (some qb1)] 45, mapP (keyStr (tStr_run tT_9)) true R_Disk_rowsD qb1 (mputP ltB a2 (⟨j_1_8_f0_l, v25⟩ : Disk_rowsD) e1), .own 9 1 R_str (.slice (some ⟨g28,0, none⟩) [a2].length 1) [a2], .own 22 1 R_l_u8 (.slice (some ⟨g24,0, none⟩) ([j_1_8_f1_l, l3].length) 2) ([j_1_8_f1_l, l3]), .blk j_1_8_g [.slice j_1_8_f0_p j_1_8_f0_l.length j_1_8_f0_c, .slice p25_0 v25.length c25_1] 49]) rfl (wl_nil (we_x [2,3,4] [] rfl rfl ?_))))))))))))))
    refine wx_done hok rfl ?_
    have hE := (Option.some.inj hm).symm
    refine we_pick [1,2] rfl (H' := [_,_]) rfl ?_
    refine we_join (mputP ltB a2 (⟨j_1_8_f0_l, v25⟩ : Disk_rowsD) e1) hE [9] rfl (asK [] rfl) rfl
   ·
    replace hm := iteF hm hb50
    refine wc_keep [9] (S' := [_]) rfl (wc_skip ?_)
    have hE := (Option.some.inj hm).symm
    refine we_pick [1,2] rfl (H' := [_,_]) rfl ?_
    refine we_join e1 hE [9] rfl (asK [] rfl) rfl
  ·
   rintro j_2_r0_f1_m hE
   try dsimp only
   have hm := hLj_2
   rw [hE] at hm
   refine wc_seq (wc_region (wP rfl (wP rfl (wl_nil (we_then (wc_keep [6] (S' := [_]) rfl (wc_ret ?_)))))))
   have hE := (Option.some.inj hm).symm
   obtain ⟨hE0, hE1⟩ := Prod.mk.inj hE
   clear hE
   replace hE0 := hE0.symm
   subst hE0
   replace hE1 := hE1.symm
   subst hE1
   refine ret_one (Hr := [_,_]) [0,1] Tryz.results7 (res_tmp rfl) ⟨rfl, rfl, rfl⟩ (asK [] rfl) rfl rfl (.inl rfl)
theorem w_disk_rows_whole_s (N : Nat) (qp0 : Option Addr) (qc1 : Nat) (l0 : List Int) (qp2 : Option Addr) (qc3 : Nat) (l1 : List Int) (o2 : List Int) (hm : m_disk_rows_whole N l0 l1 = some o2) : Spec Tryz.prog 29 [.agg #[.slice qp0 l0.length qc1, .slice qp2 l1.length qc3]] [.sli 1 R_u8 qp0 qc1 l0, .sli 1 R_u8 qp2 qc3 l1] [] (fun v Φr Hr => ∃ (o0 : Option Addr) (o1 : Nat) (o3 : Nat), v = .slice o0 o3 o1 ∧ Φr = [] ∧ Hr = [.own 5 1 R_u8 (.slice o0 o3 o1) o2]) := by
 unfold m_disk_rows_whole at hm
 refine spec_of Tryz.func29 rfl Tryz.ntmps29 rfl (S := [_]) rfl (fun C => (wc_seq (wc_region (wB rfl (fun g1 => (wP rfl (wl_nil (we_then (wc_keep [1] (S' := [_]) rfl (wc_seq (wc_region (wF rfl tF_49_0 (wD 0 0 rfl tS_22 tA_22 rfl (wF rfl tF_49_1 (wD 0 1 rfl tS_22 tA_22 rfl ?_)))))))))))))))
 refine wl_buildSlice rfl rfl rfl (freshS_eq rfl) rfl tE_37 tS_22 tZ_22 rfl (zs := [.slice none 0 0, .slice none 0 0]) (by kernel_rfl) rfl (out := [_,_]) rfl (fun g7 => (wl_row (sz := 1) (m := 2) R_l_u8 ([l0, l1]) 0 rfl (fun F w hφ => ⟨[.slice qp0 l0.length qc1],[.slice qp2 l1.length qc3], rfl, rfl, ⟨(qp0, qc1), rfl, (ask_cons (hφ _ (mem_at (k := 0) rfl)) ask_nil)⟩, ⟨[.slice qp2 l1.length qc3],[], rfl, rfl, ⟨(qp2, qc3), rfl, (ask_cons (hφ _ (mem_at (k := 1) rfl)) ask_nil)⟩, rfl⟩⟩) rfl (by decide) (H' := [_,_]) rfl ?_))
 obtain ⟨v8, hc8, hm⟩ := bindO_some hm
 refine wl_lend [] [0,1] [0] rfl rfl rfl (freshS_eq rfl) rfl rfl fn_22 rfl (w_slices_Concat_byte_s N (some ⟨g7,0, none⟩) 2 [l0, l1] _ hc8) (fun F w hφ hh => (ask_cons (own_sli (hh _ (mem_at (k := 0) rfl))) ask_nil)) (fun _ _ _ hR => by obtain ⟨_,_,_, rfl, rfl, rfl⟩ := hR; exact ⟨rfl, (free_cons (own_free mkRep_free) (fun _ h => free_nil h))⟩) rfl rfl (H' := [_,_]) rfl ?_
 rintro _ _ _ ⟨p8_0, c8_1, c8_2, rfl, rfl, rfl⟩
 refine wP rfl (wl_nil (we_then (wc_keep [2] (S' := [_]) rfl (wc_ret ?_))))
 have hE := (Option.some.inj hm).symm
 replace hE := hE.symm
 subst hE
 refine ret_one (Hr := [_]) [0] Tryz.results29 (res_tmp rfl) ⟨p8_0, c8_1, c8_2, rfl, rfl, rfl⟩ (asK [] rfl) rfl rfl (.inl rfl)
theorem w_disk_Disk_Sync_1_s (N : Nat) (qp0 : Option Addr) (qc1 : Nat) (l0 : List Int) (qp2 : Option Addr) (qc3 : Nat) (l1 : List Int) (o2 : List Int) (hm : m_disk_Disk_Sync_1 N l0 l1 = some o2) : Spec Tryz.prog 35 [.agg #[.slice qp0 l0.length qc1, .slice qp2 l1.length qc3]] [.sli 1 R_u8 qp0 qc1 l0, .sli 1 R_u8 qp2 qc3 l1] [] (fun v Φr Hr => ∃ (o0 : Option Addr) (o1 : Nat) (o3 : Nat), v = .tuple #[.agg #[.slice o0 o3 o1, .slice none 0 0], .int .i64 0] ∧ Φr = [] ∧ Hr = [.own 5 1 R_u8 (.slice o0 o3 o1) o2]) := by
 unfold m_disk_Disk_Sync_1 at hm
 refine spec_of Tryz.func35 rfl Tryz.ntmps35 rfl (S := [_]) rfl (fun C => (wc_seq (wc_region (wB rfl (fun g1 => (wl_alloc rfl rfl rfl (freshS_eq rfl) rfl tZ_49 rfl (fun g2 => (wP rfl (wl_nil (we_then (wc_keep [2,1] (S' := [_,_]) rfl (wc_seq (wc_region (wl_loadH 1 0 rfl rfl rfl (freshS_eq rfl) rfl rfl rfl (cs := [_,_]) rfl tS_49 tA_49 rfl rfl ?_))))))))))))))
 obtain ⟨v5, hc5, hm⟩ := bindO_some hm
 refine wC [] [0,1] rfl fn_29 rfl (w_disk_rows_whole_s N qp0 qc1 l0 qp2 qc3 l1 _ hc5) (asK [0,1] rfl) rfl (H' := [_,_]) rfl ?_
 rintro _ _ _ ⟨p5_0, c5_1, c5_2, rfl, rfl, rfl⟩
 refine wl_build rfl rfl rfl (freshS_eq rfl) rfl tZ_49 tP_49 rfl (out := [_,_]) rfl (wS 1 0 rfl tS_49 (all' := [_,_]) rfl (H' := [_,_,_]) rfl (wP rfl (wl_nil (we_then (wc_keep [3,2] (S' := [_,_]) rfl (wc_ret ?_))))))
 have hE := (Option.some.inj hm).symm
 replace hE := hE.symm
 subst hE
 refine ret_two (Hr := [_]) [0] Tryz.results35 (res_cell 1 rfl rfl tS_49 tA_49 rfl rfl) (res_tmp rfl) ⟨p5_0, c5_1, c5_2, rfl, rfl, rfl⟩ (asK [] rfl) rfl rfl (.inl rfl)
theorem w_disk_Disk_turn_s (N : Nat) (qg0 : Nat) (a0 : Int) (qb1 : Nat) (e1 : List (ByteArray × Disk_rowsD)) (a2 : ByteArray) (o0 : Nat) (o1 : List (ByteArray × Disk_rowsD)) (hm : m_disk_Disk_turn N a0 e1 a2 = some (o0, o1)) : Spec Tryz.prog 27 [.pointer (some ⟨qg0,0, none⟩), .string a2, .func (.func 35) #[] #[]] [] [.blk qg0 [.int .i64 a0, .map (some qb1)] 45, mapP (keyStr (tStr_run tT_9)) true R_Disk_rowsD qb1 e1] (fun v Φr Hr => v = .int .i64 ((o0 : Nat) : Int) ∧ Φr = [] ∧ Hr = [.blk qg0 [.int .i64 a0, .map (some qb1)] 45, mapP (keyStr (tStr_run tT_9)) true R_Disk_rowsD qb1 o1]) := by
 unfold m_disk_Disk_turn at hm
 refine spec_of Tryz.func27 rfl Tryz.ntmps27 rfl (S := [_,_,_]) rfl (fun C => (wc_seq (wc_region (wP rfl (wl_nil (we_then (wc_keep [0,1,2] (S' := [_,_,_]) rfl (wc_seq (wc_seq (wc_region (wP rfl ?_)))))))))))
 obtain ⟨_, hc13, hm⟩ := bindO_some hm
 try dsimp only at hm
 refine wC [0,1] [] rfl fn_21 rfl (w_disk_Disk_is_s N qg0 a0 qb1 e1 hc13) (asK [] rfl) rfl (H' := []) rfl ?_
 rintro _ _ _ ⟨rfl, rfl, rfl⟩
 refine wP rfl (wl_nil (we_then (wc_keep [7,0,1,2] (S' := [_,_,_,_]) rfl (wc_seq (wc_region (wP rfl (wP rfl (wl_as (d := 15) (v' := .bool false) (S' := [_,_,_,_,_]) rfl rfl rfl (wl_nil (we_then (wc_keep [15,7,0,1,2] (S' := [_,_,_,_,_]) rfl (wc_false rfl (wc_keep [0,1,2] (S' := [_,_,_]) rfl ?_)))))))))))))
 refine wc_skip (we_then (wc_seq ?_))
 obtain ⟨bj_1, hm, hLj_1⟩ := bindO_some hm
 refine wc_cut (σ := (List Int) × (List Int) × Bool × Nat × (Option Addr) × Nat × (Option Addr) × Nat) (fun (j_1_8_f0_l, j_1_8_f1_l, j_1_9, j_1_8_g, j_1_8_f0_p, j_1_8_f0_c, j_1_8_f1_p, j_1_8_f1_c) => bj_1 = (j_1_8_f0_l, j_1_8_f1_l, j_1_9)) (fun (j_1_8_f0_l, j_1_8_f1_l, j_1_9, j_1_8_g, j_1_8_f0_p, j_1_8_f0_c, j_1_8_f1_p, j_1_8_f1_c) => [(0, .pointer (some ⟨qg0,0, none⟩)), (1, .string a2), (2, .func (.func 35) #[] #[]), (8, .pointer (some ⟨j_1_8_g, 0, none⟩)), (9, .bool j_1_9)]) (fun (j_1_8_f0_l, j_1_8_f1_l, j_1_9, j_1_8_g, j_1_8_f0_p, j_1_8_f0_c, j_1_8_f1_p, j_1_8_f1_c) => [.sli 1 R_u8 j_1_8_f0_p j_1_8_f0_c j_1_8_f0_l, .sli 1 R_u8 j_1_8_f1_p j_1_8_f1_c j_1_8_f1_l]) (fun (j_1_8_f0_l, j_1_8_f1_l, j_1_9, j_1_8_g, j_1_8_f0_p, j_1_8_f0_c, j_1_8_f1_p, j_1_8_f1_c) => [.blk qg0 [.int .i64 a0, .map (some qb1)] 45, mapP (keyStr (tStr_run tT_9)) true R_Disk_rowsD qb1 e1, .blk j_1_8_g [.slice j_1_8_f0_p j_1_8_f0_l.length j_1_8_f0_c, .slice j_1_8_f1_p j_1_8_f1_l.length j_1_8_f1_c] 49]) ?_ ?_
 ·
  refine wc_region (wP rfl (wP rfl (wF rfl tF_45_1 (wD 0 1 rfl tS_43 tA_43 rfl (wP rfl ?_)))))
  rcases optE_some hm with ⟨hq23, hm⟩ | ⟨x23, hq23, hm⟩
  ·
   refine wl_lookNoP (i := a2) 1 rfl rfl rfl (freshS_eq rfl) rfl rfl rfl rfl tZ_49 tM_43 trivial hq23 (v := .tuple #[.agg #[.slice none 0 0, .slice none 0 0], .bool false]) rfl (wP rfl (wP rfl (wP rfl (wl_alloc rfl rfl rfl (freshS_eq rfl) rfl tZ_49 rfl (fun g8 => (wS 0 0 rfl tS_49 (all' := [_,_]) rfl (H' := [_,_,_]) rfl (wP rfl (wl_nil ?_))))))))
   have hE := (Option.some.inj hm).symm
   refine we_fact (.sli 1 R_u8 none 0 ([] : List Int)) (fun _ _ _ => sli_none) (we_fact (.sli 1 R_u8 none 0 ([] : List Int)) (fun _ _ _ => sli_none) (we_pick [1,2,0] rfl (H' := [_,_,_]) rfl ?_))
   refine we_join ([],[], false, g8, none, 0, none, 0) hE [0,1,2,8,9] rfl (asK [1,0] rfl) rfl
  ·
   refine wl_lookYesP (i := a2) (a := x23) R_Disk_rowsD_opens 1 rfl rfl rfl (freshS_eq rfl) rfl rfl rfl rfl tM_43 trivial hq23 (u := fun r23 => .agg #[.slice r23.1.1 x23.firm.length r23.1.2, .slice r23.2.1 x23.loose.length r23.2.2]) (fun _ => rfl) (v := fun r23 => .tuple #[.agg #[.slice r23.1.1 x23.firm.length r23.1.2, .slice r23.2.1 x23.loose.length r23.2.2], .bool true]) (fun _ => rfl) (fun r23 _ => (wP rfl (wP rfl (wP rfl (wl_alloc rfl rfl rfl (freshS_eq rfl) rfl tZ_49 rfl (fun g8 => (wS 0 0 rfl tS_49 (all' := [_,_]) rfl (H' := [_,_,_]) rfl (wP rfl (wl_nil ?_)))))))))
   have hE := (Option.some.inj hm).symm
   refine we_pick [1,2,0] rfl (H' := [_,_,_]) rfl ?_
   refine we_join (x23.firm, x23.loose, true, g8, r23.1.1, r23.1.2, r23.2.1, r23.2.2) hE [0,1,2,8,9] rfl (asK [0,1] rfl) rfl
 ·
  rintro ⟨j_1_8_f0_l, j_1_8_f1_l, j_1_9, j_1_8_g, j_1_8_f0_p, j_1_8_f0_c, j_1_8_f1_p, j_1_8_f1_c⟩ hE
  try dsimp only
  have hm := hLj_1
  rw [hE] at hm
  try dsimp only at hm
  refine wc_seq (wc_seq (wc_region (wP rfl (wP rfl (wl_nil (we_then (wc_keep [27,0,1,2,8] (S' := [_,_,_,_,_]) rfl ?_)))))))
  refine wc_cond rfl (fun hb27 => ?_) (fun hb27 => ?_)
  ·
   replace hm := iteT hm hb27
   refine wc_keep [] (S' := []) rfl (wc_seq (wc_region (wP rfl (wl_nil (we_then (wc_ret (we_then_ret ?_)))))))
   have hE := (Option.some.inj hm).symm
   obtain ⟨hE0, hE1⟩ := Prod.mk.inj hE
   clear hE
   replace hE0 := hE0.symm
   subst hE0
   replace hE1 := hE1.symm
   subst hE1
   refine ret_one (Hr := [_,_]) [0,1] Tryz.results27 (res_tmp rfl) ⟨rfl, rfl, rfl⟩ (asK [] rfl) rfl rfl (.inl rfl)
  ·
   replace hm := iteF hm hb27
   refine wc_keep [0,1,2,8] (S' := [_,_,_,_]) rfl (wc_skip (we_then (wc_seq (wc_region (wP rfl (wl_loadH 2 0 rfl rfl rfl (freshS_eq rfl) rfl rfl rfl (cs := [_,_]) rfl tS_49 tA_49 rfl rfl ?_))))))
   obtain ⟨v31, hc31, hm⟩ := bindO_some hm
   refine wl_callDyn [] [0,1,2] rfl rfl rfl (freshS_eq rfl) rfl rfl rfl fn_35 rfl rfl (w_disk_Disk_Sync_1_s N j_1_8_f0_p j_1_8_f0_c j_1_8_f0_l j_1_8_f1_p j_1_8_f1_c j_1_8_f1_l _ hc31) (asK [0,1] rfl) rfl (H' := [_,_,_]) rfl ?_
   rintro _ _ _ ⟨p31_0, c31_1, c31_2, rfl, rfl, rfl⟩
   refine wP rfl (wP rfl (wP rfl (wl_alloc rfl rfl rfl (freshS_eq rfl) rfl tZ_49 rfl (fun g10 => (wS 0 0 rfl tS_49 (all' := [_,_]) rfl (H' := [_,_,_,_,_]) rfl (wP rfl (wl_nil (we_then (wc_keep [11,10,0,1] (S' := [_,_,_,_]) rfl (wc_seq (wc_seq (wc_region (wP rfl (wP rfl ?_))))))))))))))
   refine wl_as (d := 35) (v' := .bool true) (S' := [_,_,_,_,_]) rfl rfl rfl (wl_nil (we_then (wc_keep [35,11,10,0,1] (S' := [_,_,_,_,_]) rfl (wc_true rfl (wc_keep [11,10,0,1] (S' := [_,_,_,_]) rfl (wc_draw [0,1,2,3,4,5] rfl rfl (fun hok => (xP hok 0 rfl (xP hok 1 rfl (wx_fieldAddr hok 2 rfl rfl rfl (freshS_eq rfl) rfl rfl rfl tF_45_1 (wx_loadH hok 3 2 1 rfl rfl rfl (freshS_eq rfl) rfl rfl rfl rfl (cs := [_]) rfl tS_43 tA_43 rfl rfl (xP hok 4 rfl (wx_loadH hok 5 0 0 rfl rfl rfl (freshS_eq rfl) rfl rfl rfl rfl (cs := [_,_]) rfl tS_49 tA_49 rfl rfl (xS hok 6 rfl ?_))))))))))))))
   refine wl_ownLen 1 rfl (fun hzc31_2 _ => ?_)
   subst hzc31_2
   refine wl_freeze 1 rfl (H' := [_,_,_,_]) rfl (wl_fact (.sli 1 R_u8 p31_0 c31_1 v31) (fun F w hφ => own_sli (hφ _ (mem_at (k := 0) rfl))) (wl_mapPutP (i := a2) (u := (⟨v31,[]⟩ : Disk_rowsD)) (cs := [.slice p31_0 v31.length c31_1, .slice none 0 0]) ltB 2 rfl rfl (.inl rfl) rfl rfl rfl rfl tM_43 trivial rfl (fun F w hφ => ⟨((p31_0, c31_1), (none, 0)), rfl, (ask_cons (hφ _ (mem_at (k := 0) rfl)) (ask_cons sli_none ask_nil))⟩) (H' := [.blk g10 [.slice p31_0 v31.length c31_1, .slice none 0 0] 49, .blk qg0 [.int .i64 a0, .map (some qb1)] 45, mapP (keyStr (tStr_run tT_9)) true R_Disk_rowsD qb1 (mputP ltB a2 (⟨v31,[]⟩ : Disk_rowsD) e1), .blk j_1_8_g [.slice j_1_8_f0_p j_1_8_f0_l.length j_1_8_f0_c, .slice j_1_8_f1_p j_1_8_f1_l.length j_1_8_f1_c] 49]) rfl (wl_nil (we_x [2,3] [] rfl rfl (wx_done hok rfl (we_then (wc_keep [11] (S' := [_]) rfl (wc_seq (wc_region (wP rfl (wP rfl (wl_nil (we_then ?_)))))))))))))
   refine wc_keep [6] (S' := [_]) rfl (wc_ret ?_)
   have hE := (Option.some.inj hm).symm
   obtain ⟨hE0, hE1⟩ := Prod.mk.inj hE
   clear hE
   replace hE0 := hE0.symm
   subst hE0
   replace hE1 := hE1.symm
   subst hE1
   refine ret_one (Hr := [_,_]) [1,2] Tryz.results27 (res_tmp rfl) ⟨rfl, rfl, rfl⟩ (asK [] rfl) rfl rfl (.inl rfl)
theorem w_disk_Disk_Sync_s (N : Nat) (qg0 : Nat) (a0 : Int) (qb1 : Nat) (e1 : List (ByteArray × Disk_rowsD)) (a2 : ByteArray) (o0 : Nat) (o1 : List (ByteArray × Disk_rowsD)) (hm : m_disk_Disk_Sync N a0 e1 a2 = some (o0, o1)) : Spec Tryz.prog 17 [.pointer (some ⟨qg0,0, none⟩), .string a2] [] [.blk qg0 [.int .i64 a0, .map (some qb1)] 45, mapP (keyStr (tStr_run tT_9)) true R_Disk_rowsD qb1 e1] (fun v Φr Hr => v = .int .i64 ((o0 : Nat) : Int) ∧ Φr = [] ∧ Hr = [.blk qg0 [.int .i64 a0, .map (some qb1)] 45, mapP (keyStr (tStr_run tT_9)) true R_Disk_rowsD qb1 o1]) := by
 unfold m_disk_Disk_Sync at hm
 refine spec_of Tryz.func17 rfl Tryz.ntmps17 rfl (S := [_,_]) rfl (fun C => (wc_seq (wc_region (wP rfl (wl_nil (we_then (wc_keep [0,1] (S' := [_,_]) rfl (wc_seq (wc_region (wP rfl (wP rfl ?_)))))))))))
 obtain ⟨⟨v7_0, v7_1⟩, hc7, hm⟩ := bindO_some hm
 try dsimp only at hm
 refine wC [0,1] [] rfl fn_27 rfl (w_disk_Disk_turn_s N qg0 a0 qb1 e1 a2 _ _ hc7) (asK [] rfl) rfl (H' := []) rfl ?_
 rintro _ _ _ ⟨rfl, rfl, rfl⟩
 refine wP rfl (wl_nil (we_then (wc_keep [4] (S' := [_]) rfl (wc_ret ?_))))
 have hE := (Option.some.inj hm).symm
 obtain ⟨hE0, hE1⟩ := Prod.mk.inj hE
 clear hE
 replace hE0 := hE0.symm
 subst hE0
 replace hE1 := hE1.symm
 subst hE1
 refine ret_one (Hr := [_,_]) [0,1] Tryz.results17 (res_tmp rfl) ⟨rfl, rfl, rfl⟩ (asK [] rfl) rfl rfl (.inl rfl)
theorem w_disk_Disk_Crash_s (N : Nat) (qg0 : Nat) (a0 : Int) (qb1 : Nat) (e1 : List (ByteArray × Disk_rowsD)) (a2 : Int) (o0 : List (ByteArray × Disk_rowsD)) (hm : m_disk_Disk_Crash N a0 e1 a2 = some o0) : Spec Tryz.prog 18 [.pointer (some ⟨qg0,0, none⟩), .int .i64 a2] [] [.blk qg0 [.int .i64 a0, .map (some qb1)] 45, mapP (keyStr (tStr_run tT_9)) true R_Disk_rowsD qb1 e1] (fun v Φr Hr => v = .tuple #[] ∧ Φr = [] ∧ Hr = [.blk qg0 [.int .i64 a0, .map (some qb1)] 45, mapP (keyStr (tStr_run tT_9)) true R_Disk_rowsD qb1 o0]) := by
 unfold m_disk_Disk_Crash at hm
 refine spec_of Tryz.func18 rfl Tryz.ntmps18 rfl (S := [_,_]) rfl (fun C => (wc_seq (wc_seq (wc_region (wP rfl ?_)))))
 obtain ⟨_, hc8, hm⟩ := bindO_some hm
 try dsimp only at hm
 refine wC [0,1] [] rfl fn_21 rfl (w_disk_Disk_is_s N qg0 a0 qb1 e1 hc8) (asK [] rfl) rfl (H' := []) rfl ?_
 rintro _ _ _ ⟨rfl, rfl, rfl⟩
 refine wP rfl (wl_as (d := 9) (v' := .bool false) (S' := [_,_,_,_]) rfl rfl rfl (wl_nil (we_then (wc_keep [9,0,1] (S' := [_,_,_]) rfl (wc_false rfl (wc_keep [0,1] (S' := [_,_]) rfl (wc_skip (we_then (wc_seq (wc_region (wP rfl (wP rfl (wF rfl tF_45_1 ?_)))))))))))))
 refine wD 0 1 rfl tS_43 tA_43 rfl (wl_rangeP 1 rfl rfl rfl (freshS_eq rfl) rfl rfl rfl tM_43 (fun g14 => (wl_sh [.blk qg0 [.int .i64 a0, .map (some qb1)] 45, mapIt (keyStr (tStr_run tT_9)) true R_Disk_rowsD qb1 g14 e1 (List.map (fun x : ByteArray × Disk_rowsD => x.1) e1) none] (fun _ h => h) (wl_nil (we_then (wc_keep [14,0,1] (S' := [_,_,_]) rfl (wc_block (wc_pick [1,0] rfl (H' := [_,_]) rfl ?_))))))))
 replace hm := ranP_some hm
 refine wc_loop (σ := (List (ByteArray × Disk_rowsD)) × (List ByteArray)) (fun (u1_14_m, u1_14_td) => ∀ ord : List ByteArray, ord.Perm u1_14_td → ranL (m_disk_Disk_Crash_L1 N a2) ord u1_14_m = some o0) (fun (u1_14_m, u1_14_td) => u1_14_td.length) (fun (u1_14_m, u1_14_td) => [(14, .pointer (some ⟨g14,0, none⟩)), (0, .pointer (some ⟨qg0,0, none⟩)), (1, .int .i64 a2)]) (fun (u1_14_m, u1_14_td) => []) (fun (u1_14_m, u1_14_td) => [mapIt (keyStr (tStr_run tT_9)) true R_Disk_rowsD qb1 g14 u1_14_m u1_14_td none, .blk qg0 [.int .i64 a0, .map (some qb1)] 45]) (e1, (List.map (fun x : ByteArray × Disk_rowsD => x.1) e1)) hm [14,0,1] rfl (asK [] rfl) rfl (fun s_ hm => ?_)
 obtain ⟨u1_14_m, u1_14_td⟩ := s_
 try dsimp only at hm ⊢
 refine wc_seq (wc_region ?_)
 refine wl_nextP 0 rfl rfl rfl (freshS_eq rfl) rfl rfl rfl (fun htd15 => ?_) (fun k15 kv15 hk15 => ?_)
 ·
  refine wl_sh [mapP (keyStr (tStr_run tT_9)) true R_Disk_rowsD qb1 u1_14_m, .blk qg0 [.int .i64 a0, .map (some qb1)] 45] (fun _ h => h) ?_
  obtain ⟨bu1, hq, hLu1⟩ := ran_nil hm htd15
  clear hm
  replace hm := hq
  clear hq
  unfold m_disk_Disk_Crash_L1 at hm
  try dsimp only [optE] at hm
  refine wP rfl (wl_nil (we_then (wc_keep [16,14,0,1] (S' := [_,_,_,_]) rfl (wc_seq (wc_false rfl (wc_keep [] (S' := []) rfl (wc_exit (we_then_exit (we_then_exit (we_block_hit ?_))))))))))
  have hE := (Option.some.inj hm).symm
  replace hE := link_inr hLu1 hE
  replace hE := hE.symm
  subst hE
  refine ret_none (Hr := [_,_]) [1,0] Tryz.results18 ⟨rfl, rfl, rfl⟩ (asK [] rfl) rfl rfl (.inr rfl)
 ·
  refine wl_sh [mapIt (keyStr (tStr_run tT_9)) true R_Disk_rowsD qb1 g14 u1_14_m (rmK u1_14_td k15) (some k15), .blk qg0 [.int .i64 a0, .map (some qb1)] 45] (fun _ h => h) ?_
  obtain ⟨bu1, hq, hLu1⟩ := ran_cons hm hk15
  clear hm
  replace hm := hq
  clear hq
  unfold m_disk_Disk_Crash_L1 at hm
  try dsimp only [optE] at hm
  refine wP rfl (wl_nil (we_then (wc_keep [16,14,0,1] (S' := [_,_,_,_]) rfl (wc_seq (wc_true rfl (wc_keep [14,0,1] (S' := [_,_,_]) rfl (wc_skip (we_then (wc_block (wc_seq (wc_region ?_)))))))))))
  obtain ⟨x17, hx17, hm⟩ := bindO_some hm
  refine wl_entryP (a := x17) R_Disk_rowsD_opens 0 rfl rfl rfl (freshS_eq rfl) rfl rfl rfl hx17 (u := fun r17 => .agg #[.slice r17.1.1 x17.firm.length r17.1.2, .slice r17.2.1 x17.loose.length r17.2.2]) (fun _ => rfl) (v := fun r17 => .tuple #[.string k15, .agg #[.slice r17.1.1 x17.firm.length r17.1.2, .slice r17.2.1 x17.loose.length r17.2.2]]) (fun _ => rfl) (H' := [mapIt (keyStr (tStr_run tT_9)) true R_Disk_rowsD qb1 g14 u1_14_m (rmK u1_14_td k15) none, .blk qg0 [.int .i64 a0, .map (some qb1)] 45]) rfl (fun r17 _ => (wP rfl (wP rfl (wl_alloc rfl rfl rfl (freshS_eq rfl) rfl tZ_49 rfl (fun g5 => (wP rfl (wS 0 0 rfl tS_49 (all' := [_,_]) rfl (H' := [_,_,_]) rfl (wl_nil (we_then (wc_keep [4,5,14,0,1] (S' := [_,_,_,_,_]) rfl (wc_seq (wc_region (wF rfl tF_49_1 (wD 0 1 rfl tS_22 tA_22 rfl (wP rfl ?_)))))))))))))))
  refine wl_reck rfl rfl rfl (freshS_eq rfl) (rk_max rfl rfl rfl) (wF rfl tF_49_1 (wD 0 1 rfl tS_22 tA_22 rfl (wN rfl tE_22 (wl_reck rfl rfl rfl (freshS_eq rfl) (rk_min rfl rfl rfl) ?_))))
  obtain ⟨hn28_1, hm⟩ := gd_some hm
  obtain ⟨hg28, hm⟩ := gd_some hm
  refine wl_sliTo 1 rfl rfl rfl (freshS_eq rfl) rfl rfl rfl rfl (toNat_eq hn28_1) tE_22 tS_5 hg28 (fun p28 => (wP rfl (wl_nil (we_then (wc_keep [6,4,5,14,0,1] (S' := [_,_,_,_,_,_]) rfl ?_)))))
  obtain ⟨v38, hc38, hm⟩ := bindO_some hm
  obtain ⟨z1011, hz1011, hm⟩ := bindO_some hm
  refine wc_draw [0,1,2,3,4,5,6,7,10] rfl rfl (fun hok => (xP hok 0 rfl (xP hok 1 rfl (wx_fieldAddr hok 2 rfl rfl rfl (freshS_eq rfl) rfl rfl rfl tF_45_1 (wx_loadH hok 3 2 1 rfl rfl rfl (freshS_eq rfl) rfl rfl rfl rfl (cs := [_]) rfl tS_43 tA_43 rfl rfl (xP hok 4 rfl (wx_fieldAddr hok 5 rfl rfl rfl (freshS_eq rfl) rfl rfl rfl tF_49_0 (wx_loadH hok 6 0 0 rfl rfl rfl (freshS_eq rfl) rfl rfl rfl rfl (cs := [_]) rfl tS_22 tA_22 rfl rfl (xP hok 7 rfl (xS hok 8 rfl (wl_buildSlice rfl rfl rfl (freshS_eq rfl) rfl tE_37 tS_22 tZ_22 rfl (zs := [.slice none 0 0, .slice none 0 0]) (by kernel_rfl) rfl (out := [_,_]) rfl (fun g37 => (wl_nil (we_x [0,1,2] [3] rfl rfl (xS hok 9 rfl ?_)))))))))))))))
  refine wl_row (sz := 1) (m := 2) R_l_u8 ([x17.firm, x17.loose.take ((minI (maxI a2 0) ((x17.loose.length : Nat) : Int)).toNat)]) 0 rfl (fun F w hφ => ⟨[.slice r17.1.1 x17.firm.length r17.1.2],[.slice p28 ((x17.loose.take ((minI (maxI a2 0) ((x17.loose.length : Nat) : Int)).toNat)).length) r17.2.2], rfl, rfl, ⟨(r17.1.1, r17.1.2), rfl, (ask_cons (hφ _ (mem_at (k := 1) rfl)) ask_nil)⟩, ⟨[.slice p28 ((x17.loose.take ((minI (maxI a2 0) ((x17.loose.length : Nat) : Int)).toNat)).length) r17.2.2],[], rfl, rfl, ⟨(p28, r17.2.2), rfl, (ask_cons (hφ _ (mem_at (k := 0) rfl)) ask_nil)⟩, rfl⟩⟩) rfl (by decide) (H' := [_,_,_,_]) rfl (wl_lend [] [0,1,2,3] [0] rfl rfl rfl (freshS_eq rfl) rfl rfl fn_22 rfl (w_slices_Concat_byte_s N (some ⟨g37,0, none⟩) 2 [x17.firm, x17.loose.take ((minI (maxI a2 0) ((x17.loose.length : Nat) : Int)).toNat)] _ hc38) (fun F w hφ hh => (ask_cons (own_sli (hh _ (mem_at (k := 0) rfl))) ask_nil)) (fun _ _ _ hR => by obtain ⟨_,_,_, rfl, rfl, rfl⟩ := hR; exact ⟨rfl, (free_cons (own_free mkRep_free) (fun _ h => free_nil h))⟩) rfl rfl (H' := [_,_,_,_]) rfl ?_)
  rintro _ _ _ ⟨p38_0, c38_1, c38_2, rfl, rfl, rfl⟩
  refine wl_nil (we_x [0,1,2] [2,4] rfl rfl (wx_build hok 10 rfl rfl rfl (freshS_eq rfl) rfl rfl tZ_49 tP_49 rfl (out := [_,_]) rfl (xS hok 11 rfl (wl_ownLen 0 rfl (fun hzc38_2 _ => ?_)))))
  subst hzc38_2
  refine wl_freeze 0 rfl (H' := [_,_,_,_]) rfl (wl_fact (.sli 1 R_u8 p38_0 c38_1 v38) (fun F w hφ => own_sli (hφ _ (mem_at (k := 0) rfl))) (wl_mapPutIt (i := k15) (u := (⟨v38,[]⟩ : Disk_rowsD)) (cs := [.slice p38_0 v38.length c38_1, .slice none 0 0]) 2 rfl rfl (.inl rfl) rfl rfl rfl rfl tM_43 trivial hz1011 rfl (fun F w hφ => ⟨((p38_0, c38_1), (none, 0)), rfl, (ask_cons (hφ _ (mem_at (k := 0) rfl)) (ask_cons sli_none ask_nil))⟩) (H' := [.own 22 1 R_l_u8 (.slice (some ⟨g37,0, none⟩) ([x17.firm, x17.loose.take ((minI (maxI a2 0) ((x17.loose.length : Nat) : Int)).toNat)].length) 2) ([x17.firm, x17.loose.take ((minI (maxI a2 0) ((x17.loose.length : Nat) : Int)).toNat)]), .blk g5 [.slice r17.1.1 x17.firm.length r17.1.2, .slice r17.2.1 x17.loose.length r17.2.2] 49, mapIt (keyStr (tStr_run tT_9)) true R_Disk_rowsD qb1 g14 (mput k15 (⟨v38,[]⟩ : Disk_rowsD) u1_14_m) (rmK u1_14_td k15) none, .blk qg0 [.int .i64 a0, .map (some qb1)] 45]) rfl (wl_nil (we_x [2,3,4] [] rfl rfl (wx_done hok rfl (we_block_normal ?_))))))
  have hE := (Option.some.inj hm).symm
  replace hE := ran_inl hLu1 hE
  refine we_pick [2,3] rfl (H' := [_,_]) rfl ?_
  refine we_roundK ((mput k15 (⟨v38,[]⟩ : Disk_rowsD) u1_14_m), rmK u1_14_td k15) (erase_lt hk15) hE [14,0,1] rfl (asK [] rfl) rfl
theorem w_disk_Disk_Read_1_s (N : Nat) (qp0 : Option Addr) (qc1 : Nat) (l0 : List Int) (qp2 : Option Addr) (qc3 : Nat) (l1 : List Int) (qg4 : Nat) (qp5 : Option Addr) (qn6 : Nat) (qc7 : Nat) (l2 : List Int) (o2 : List Int) (hm : m_disk_Disk_Read_1 N l0 l1 l2 = some o2) : Spec Tryz.prog 28 [.agg #[.slice qp0 l0.length qc1, .slice qp2 l1.length qc3], .pointer (some ⟨qg4,0, none⟩)] [.sli 1 R_u8 qp0 qc1 l0, .sli 1 R_u8 qp2 qc3 l1] [.blk qg4 [.slice qp5 qn6 qc7] 22, .own 5 1 R_u8 (.slice qp5 qn6 qc7) l2] (fun v Φr Hr => ∃ (o0 : Option Addr) (o1 : Nat) (o3 : Nat), v = .tuple #[.agg #[.slice qp0 l0.length qc1, .slice qp2 l1.length qc3], .int .i64 0] ∧ Φr = [.sli 1 R_u8 qp0 qc1 l0, .sli 1 R_u8 qp2 qc3 l1] ∧ Hr = [.blk qg4 [.slice o0 o3 o1] 22, .own 5 1 R_u8 (.slice o0 o3 o1) o2, .own 5 1 R_u8 (.slice qp5 qn6 qc7) l2]) := by
 unfold m_disk_Disk_Read_1 at hm
 refine spec_of Tryz.func28 rfl Tryz.ntmps28 rfl (S := [_,_]) rfl (fun C => (wc_seq (wc_region (wB rfl (fun g2 => (wl_alloc rfl rfl rfl (freshS_eq rfl) rfl tZ_49 rfl (fun g3 => (wP rfl (wl_nil (we_then (wc_keep [3,2,1] (S' := [_,_,_]) rfl (wc_seq (wc_region (wl_loadH 1 0 rfl rfl rfl (freshS_eq rfl) rfl rfl rfl (cs := [_,_]) rfl tS_49 tA_49 rfl rfl ?_))))))))))))))
 obtain ⟨v6, hc6, hm⟩ := bindO_some hm
 refine wC [] [0,1,2,3] rfl fn_29 rfl (w_disk_rows_whole_s N qp0 qc1 l0 qp2 qc3 l1 _ hc6) (asK [0,1] rfl) rfl (H' := [_,_,_,_]) rfl ?_
 rintro _ _ _ ⟨p6_0, c6_1, c6_2, rfl, rfl, rfl⟩
 refine wS 3 0 rfl tS_22 (all' := [_]) rfl (H' := [_,_,_,_,_]) rfl (wl_nil (we_then (wc_keep [3,2] (S' := [_,_]) rfl (wc_seq (wc_region (wl_loadH 2 0 rfl rfl rfl (freshS_eq rfl) rfl rfl rfl (cs := [_,_]) rfl tS_49 tA_49 rfl rfl (wS 1 0 rfl tS_49 (all' := [_,_]) rfl (H' := [_,_,_,_,_]) rfl (wP rfl (wl_nil (we_then (wc_keep [4,3] (S' := [_,_]) rfl (wc_ret ?_))))))))))))
 have hE := (Option.some.inj hm).symm
 replace hE := hE.symm
 subst hE
 refine ret_two (Hr := [_,_,_]) [3,0,4] Tryz.results28 (res_cell 1 rfl rfl tS_49 tA_49 rfl rfl) (res_tmp rfl) ⟨p6_0, c6_1, c6_2, rfl, rfl, rfl⟩ (asK [0,1] rfl) rfl rfl (.inl rfl)
theorem w_disk_Disk_turn_v2_s (N : Nat) (qg0 : Nat) (a0 : Int) (qb1 : Nat) (e1 : List (ByteArray × Disk_rowsD)) (a2 : ByteArray) (qg2 : Nat) (qp3 : Option Addr) (qn4 : Nat) (qc5 : Nat) (l3 : List Int) (o0 : Nat) (o1 : List (ByteArray × Disk_rowsD)) (o4 : List Int) (hm : m_disk_Disk_turn_v2 N a0 e1 a2 l3 = some (o0, o1, o4)) : Spec Tryz.prog 27 [.pointer (some ⟨qg0,0, none⟩), .string a2, .func (.func 28) #[] #[.pointer (some ⟨qg2,0, none⟩)]] [] [.blk qg0 [.int .i64 a0, .map (some qb1)] 45, mapP (keyStr (tStr_run tT_9)) true R_Disk_rowsD qb1 e1, .blk qg2 [.slice qp3 qn4 qc5] 22, .own 5 1 R_u8 (.slice qp3 qn4 qc5) l3] (fun v Φr Hr => ∃ (o2 : Option Addr) (o3 : Nat) (o5 : Nat), v = .int .i64 ((o0 : Nat) : Int) ∧ Φr = [] ∧ Hr = [.blk qg0 [.int .i64 a0, .map (some qb1)] 45, mapP (keyStr (tStr_run tT_9)) true R_Disk_rowsD qb1 o1, .blk qg2 [.slice o2 o5 o3] 22, .own 5 1 R_u8 (.slice o2 o5 o3) o4]) := by
 unfold m_disk_Disk_turn_v2 at hm
 refine spec_of Tryz.func27 rfl Tryz.ntmps27 rfl (S := [_,_,_]) rfl (fun C => (wc_seq (wc_region (wP rfl (wl_nil (we_then (wc_keep [0,1,2] (S' := [_,_,_]) rfl (wc_seq (wc_seq (wc_region (wP rfl ?_)))))))))))
 obtain ⟨_, hc13, hm⟩ := bindO_some hm
 try dsimp only at hm
 refine wC [0,1] [2,3] rfl fn_21 rfl (w_disk_Disk_is_s N qg0 a0 qb1 e1 hc13) (asK [] rfl) rfl (H' := [_,_]) rfl ?_
 rintro _ _ _ ⟨rfl, rfl, rfl⟩
 refine wP rfl (wl_nil (we_then (wc_keep [7,0,1,2] (S' := [_,_,_,_]) rfl (wc_seq (wc_region (wP rfl (wP rfl (wl_as (d := 15) (v' := .bool false) (S' := [_,_,_,_,_]) rfl rfl rfl (wl_nil (we_then (wc_keep [15,7,0,1,2] (S' := [_,_,_,_,_]) rfl (wc_false rfl (wc_keep [0,1,2] (S' := [_,_,_]) rfl ?_)))))))))))))
 refine wc_skip (we_then (wc_seq ?_))
 obtain ⟨bj_1, hm, hLj_1⟩ := bindO_some hm
 refine wc_cut (σ := (List Int) × (List Int) × Bool × Nat × (Option Addr) × Nat × (Option Addr) × Nat) (fun (j_1_8_f0_l, j_1_8_f1_l, j_1_9, j_1_8_g, j_1_8_f0_p, j_1_8_f0_c, j_1_8_f1_p, j_1_8_f1_c) => bj_1 = (j_1_8_f0_l, j_1_8_f1_l, j_1_9)) (fun (j_1_8_f0_l, j_1_8_f1_l, j_1_9, j_1_8_g, j_1_8_f0_p, j_1_8_f0_c, j_1_8_f1_p, j_1_8_f1_c) => [(0, .pointer (some ⟨qg0,0, none⟩)), (1, .string a2), (2, .func (.func 28) #[] #[.pointer (some ⟨qg2,0, none⟩)]), (8, .pointer (some ⟨j_1_8_g, 0, none⟩)), (9, .bool j_1_9)]) (fun (j_1_8_f0_l, j_1_8_f1_l, j_1_9, j_1_8_g, j_1_8_f0_p, j_1_8_f0_c, j_1_8_f1_p, j_1_8_f1_c) => [.sli 1 R_u8 j_1_8_f0_p j_1_8_f0_c j_1_8_f0_l, .sli 1 R_u8 j_1_8_f1_p j_1_8_f1_c j_1_8_f1_l]) (fun (j_1_8_f0_l, j_1_8_f1_l, j_1_9, j_1_8_g, j_1_8_f0_p, j_1_8_f0_c, j_1_8_f1_p, j_1_8_f1_c) => [.blk qg0 [.int .i64 a0, .map (some qb1)] 45, mapP (keyStr (tStr_run tT_9)) true R_Disk_rowsD qb1 e1, .blk qg2 [.slice qp3 qn4 qc5] 22, .own 5 1 R_u8 (.slice qp3 qn4 qc5) l3, .blk j_1_8_g [.slice j_1_8_f0_p j_1_8_f0_l.length j_1_8_f0_c, .slice j_1_8_f1_p j_1_8_f1_l.length j_1_8_f1_c] 49]) ?_ ?_
 ·
  refine wc_region (wP rfl (wP rfl (wF rfl tF_45_1 (wD 0 1 rfl tS_43 tA_43 rfl (wP rfl ?_)))))
  rcases optE_some hm with ⟨hq23, hm⟩ | ⟨x23, hq23, hm⟩
  ·
   refine wl_lookNoP (i := a2) 1 rfl rfl rfl (freshS_eq rfl) rfl rfl rfl rfl tZ_49 tM_43 trivial hq23 (v := .tuple #[.agg #[.slice none 0 0, .slice none 0 0], .bool false]) rfl (wP rfl (wP rfl (wP rfl (wl_alloc rfl rfl rfl (freshS_eq rfl) rfl tZ_49 rfl (fun g8 => (wS 0 0 rfl tS_49 (all' := [_,_]) rfl (H' := [_,_,_,_,_]) rfl (wP rfl (wl_nil ?_))))))))
   have hE := (Option.some.inj hm).symm
   refine we_fact (.sli 1 R_u8 none 0 ([] : List Int)) (fun _ _ _ => sli_none) (we_fact (.sli 1 R_u8 none 0 ([] : List Int)) (fun _ _ _ => sli_none) (we_pick [1,2,3,4,0] rfl (H' := [_,_,_,_,_]) rfl ?_))
   refine we_join ([],[], false, g8, none, 0, none, 0) hE [0,1,2,8,9] rfl (asK [1,0] rfl) rfl
  ·
   refine wl_lookYesP (i := a2) (a := x23) R_Disk_rowsD_opens 1 rfl rfl rfl (freshS_eq rfl) rfl rfl rfl rfl tM_43 trivial hq23 (u := fun r23 => .agg #[.slice r23.1.1 x23.firm.length r23.1.2, .slice r23.2.1 x23.loose.length r23.2.2]) (fun _ => rfl) (v := fun r23 => .tuple #[.agg #[.slice r23.1.1 x23.firm.length r23.1.2, .slice r23.2.1 x23.loose.length r23.2.2], .bool true]) (fun _ => rfl) (fun r23 _ => (wP rfl (wP rfl (wP rfl (wl_alloc rfl rfl rfl (freshS_eq rfl) rfl tZ_49 rfl (fun g8 => (wS 0 0 rfl tS_49 (all' := [_,_]) rfl (H' := [_,_,_,_,_]) rfl (wP rfl (wl_nil ?_)))))))))
   have hE := (Option.some.inj hm).symm
   refine we_pick [1,2,3,4,0] rfl (H' := [_,_,_,_,_]) rfl ?_
   refine we_join (x23.firm, x23.loose, true, g8, r23.1.1, r23.1.2, r23.2.1, r23.2.2) hE [0,1,2,8,9] rfl (asK [0,1] rfl) rfl
 ·
  rintro ⟨j_1_8_f0_l, j_1_8_f1_l, j_1_9, j_1_8_g, j_1_8_f0_p, j_1_8_f0_c, j_1_8_f1_p, j_1_8_f1_c⟩ hE
  try dsimp only
  have hm := hLj_1
  rw [hE] at hm
  try dsimp only at hm
  refine wc_seq (wc_seq (wc_region (wP rfl (wP rfl (wl_nil (we_then (wc_keep [27,0,1,2,8] (S' := [_,_,_,_,_]) rfl ?_)))))))
  refine wc_cond rfl (fun hb27 => ?_) (fun hb27 => ?_)
  ·
   replace hm := iteT hm hb27
   refine wc_keep [] (S' := []) rfl (wc_seq (wc_region (wP rfl (wl_nil (we_then (wc_ret (we_then_ret ?_)))))))
   have hE := (Option.some.inj hm).symm
   obtain ⟨hE0, hF1⟩ := Prod.mk.inj hE
   obtain ⟨hE1, hE2⟩ := Prod.mk.inj hF1
   clear hE hF1
   replace hE0 := hE0.symm
   subst hE0
   replace hE1 := hE1.symm
   subst hE1
   replace hE2 := hE2.symm
   subst hE2
   refine ret_one (Hr := [_,_,_,_]) [0,1,2,3] Tryz.results27 (res_tmp rfl) ⟨qp3, qc5, qn4, rfl, rfl, rfl⟩ (asK [] rfl) rfl rfl (.inl rfl)
  ·
   replace hm := iteF hm hb27
   refine wc_keep [0,1,2,8] (S' := [_,_,_,_]) rfl (wc_skip (we_then (wc_seq (wc_region (wP rfl (wl_loadH 4 0 rfl rfl rfl (freshS_eq rfl) rfl rfl rfl (cs := [_,_]) rfl tS_49 tA_49 rfl rfl ?_))))))
   obtain ⟨v31, hc31, hm⟩ := bindO_some hm
   refine wl_callDyn [2,3] [0,1,4] rfl rfl rfl (freshS_eq rfl) rfl rfl rfl fn_28 rfl rfl (w_disk_Disk_Read_1_s N j_1_8_f0_p j_1_8_f0_c j_1_8_f0_l j_1_8_f1_p j_1_8_f1_c j_1_8_f1_l qg2 qp3 qn4 qc5 l3 _ hc31) (asK [0,1] rfl) rfl (H' := [_,_,_]) rfl ?_
   rintro _ _ _ ⟨p31_0, c31_1, c31_2, rfl, rfl, rfl⟩
   refine wP rfl (wP rfl (wP rfl (wl_alloc rfl rfl rfl (freshS_eq rfl) rfl tZ_49 rfl (fun g10 => (wS 0 0 rfl tS_49 (all' := [_,_]) rfl (H' := [_,_,_,_,_,_,_]) rfl (wP rfl (wl_nil (we_then (wc_keep [11,10,0,1] (S' := [_,_,_,_]) rfl (wc_seq (wc_seq (wc_region (wP rfl (wP rfl ?_))))))))))))))
   refine wl_as (d := 35) (v' := .bool true) (S' := [_,_,_,_,_]) rfl rfl rfl (wl_nil (we_then (wc_keep [35,11,10,0,1] (S' := [_,_,_,_,_]) rfl (wc_true rfl (wc_keep [11,10,0,1] (S' := [_,_,_,_]) rfl (wc_draw [0,1,2,3,4,5] rfl rfl (fun hok => (xP hok 0 rfl (xP hok 1 rfl (wx_fieldAddr hok 2 rfl rfl rfl (freshS_eq rfl) rfl rfl rfl tF_45_1 (wx_loadH hok 3 4 1 rfl rfl rfl (freshS_eq rfl) rfl rfl rfl rfl (cs := [_]) rfl tS_43 tA_43 rfl rfl (xP hok 4 rfl (wx_loadH hok 5 0 0 rfl rfl rfl (freshS_eq rfl) rfl rfl rfl rfl (cs := [_,_]) rfl tS_49 tA_49 rfl rfl (xS hok 6 rfl ?_))))))))))))))
   refine wl_mapPutP (i := a2) (u := (⟨j_1_8_f0_l, j_1_8_f1_l⟩ : Disk_rowsD)) (cs := [.slice j_1_8_f0_p j_1_8_f0_l.length j_1_8_f0_c, .slice j_1_8_f1_p j_1_8_f1_l.length j_1_8_f1_c]) ltB 5 rfl rfl (.inl rfl) rfl rfl rfl rfl tM_43 trivial rfl (fun F w hφ => ⟨((j_1_8_f0_p, j_1_8_f0_c), (j_1_8_f1_p, j_1_8_f1_c)), rfl, (ask_cons (hφ _ (mem_at (k := 0) rfl)) (ask_cons (hφ _ (mem_at (k := 1) rfl)) ask_nil))⟩) (H' := [.blk g10 [.slice j_1_8_f0_p j_1_8_f0_l.length j_1_8_f0_c, .slice j_1_8_f1_p j_1_8_f1_l.length j_1_8_f1_c] 49, .blk qg2 [.slice p31_0 c31_2 c31_1] 22, .own 5 1 R_u8 (.slice p31_0 c31_2 c31_1) v31, .own 5 1 R_u8 (.slice qp3 qn4 qc5) l3, .blk qg0 [.int .i64 a0, .map (some qb1)] 45, mapP (keyStr (tStr_run tT_9)) true R_Disk_rowsD qb1 (mputP ltB a2 (⟨j_1_8_f0_l, j_1_8_f1_l⟩ : Disk_rowsD) e1), .blk j_1_8_g [.slice j_1_8_f0_p j_1_8_f0_l.length j_1_8_f0_c, .slice j_1_8_f1_p j_1_8_f1_l.length j_1_8_f1_c] 49]) rfl (wl_nil (we_x [0,1,0,1] [] rfl rfl (wx_done hok rfl (we_then (wc_keep [11] (S' := [_]) rfl (wc_seq (wc_region (wP rfl (wP rfl (wl_nil (we_then (wc_keep [6] (S' := [_]) rfl (wc_ret ?_)))))))))))))
   have hE := (Option.some.inj hm).symm
   obtain ⟨hE0, hF1⟩ := Prod.mk.inj hE
   obtain ⟨hE1, hE2⟩ := Prod.mk.inj hF1
   clear hE hF1
   replace hE0 := hE0.symm
   subst hE0
   replace hE1 := hE1.symm
   subst hE1
   replace hE2 := hE2.symm
   subst hE2
   refine ret_one (Hr := [_,_,_,_]) [4,5,1,2] Tryz.results27 (res_tmp rfl) ⟨p31_0, c31_1, c31_2, rfl, rfl, rfl⟩ (asK [] rfl) rfl rfl (.inl rfl)
theorem w_disk_Disk_Read_s (N : Nat) (qg0 : Nat) (a0 : Int) (qb1 : Nat) (e1 : List (ByteArray × Disk_rowsD)) (a2 : ByteArray) (o2 : List Int) (o4 : Nat) (o5 : List (ByteArray × Disk_rowsD)) (hm : m_disk_Disk_Read N a0 e1 a2 = some (o2, o4, o5)) : Spec Tryz.prog 10 [.pointer (some ⟨qg0,0, none⟩), .string a2] [] [.blk qg0 [.int .i64 a0, .map (some qb1)] 45, mapP (keyStr (tStr_run tT_9)) true R_Disk_rowsD qb1 e1] (fun v Φr Hr => ∃ (o0 : Option Addr) (o1 : Nat) (o3 : Nat), v = .tuple #[.slice o0 o3 o1, .int .i64 ((o4 : Nat) : Int)] ∧ Φr = [] ∧ Hr = [.own 5 1 R_u8 (.slice o0 o3 o1) o2, .blk qg0 [.int .i64 a0, .map (some qb1)] 45, mapP (keyStr (tStr_run tT_9)) true R_Disk_rowsD qb1 o5]) := by
 unfold m_disk_Disk_Read at hm
 refine spec_of Tryz.func10 rfl Tryz.ntmps10 rfl (S := [_,_]) rfl (fun C => (wc_seq (wc_region (wl_alloc rfl rfl rfl (freshS_eq rfl) rfl tZ_22 rfl (fun g4 => (wP rfl (wl_nil (we_then (wc_keep [4,0,1] (S' := [_,_,_]) rfl (wc_seq (wc_region (wP rfl (wP rfl (wl_makeFunc rfl rfl rfl (freshS_eq rfl) rfl rfl (wl_rowNil 5 1 R_u8 ?_)))))))))))))))
 obtain ⟨⟨v9_0, v9_1, v9_2⟩, hc9, hm⟩ := bindO_some hm
 try dsimp only at hm
 refine wC [2,3,1,0] [] rfl fn_27 rfl (w_disk_Disk_turn_v2_s N qg0 a0 qb1 e1 a2 g4 none 0 0 [] _ _ _ hc9) (asK [] rfl) rfl (H' := []) rfl ?_
 rintro _ _ _ ⟨p9_0, c9_1, c9_2, rfl, rfl, rfl⟩
 refine wP rfl (wl_nil (we_then (wc_keep [5,4] (S' := [_,_]) rfl (wc_seq (wc_region (wD 2 0 rfl tS_22 tA_22 rfl (wP rfl (wS 2 0 rfl tS_22 (all' := [_]) rfl (H' := [_,_,_,_]) rfl (wl_pure (S' := [_,_,_]) rfl rfl rfl rfl rfl (wl_nil (we_then (wc_keep [5,4] (S' := [_,_]) rfl (wc_ret ?_)))))))))))))
 have hE := (Option.some.inj hm).symm
 obtain ⟨hE0, hF1⟩ := Prod.mk.inj hE
 obtain ⟨hE1, hE2⟩ := Prod.mk.inj hF1
 clear hE hF1
 replace hE0 := hE0.symm
 subst hE0
 replace hE1 := hE1.symm
 subst hE1
 replace hE2 := hE2.symm
 subst hE2
 refine ret_two (Hr := [_,_,_]) [3,0,1] Tryz.results10 (res_cell 2 rfl rfl tS_22 tA_22 rfl rfl) (res_tmp rfl) ⟨p9_0, c9_1, c9_2, rfl, rfl, rfl⟩ (asK [] rfl) rfl rfl (.inl rfl)
theorem w_disk_Disk_List_s (N : Nat) (qg0 : Nat) (a0 : Int) (qb1 : Nat) (e1 : List (ByteArray × Disk_rowsD)) (o2 : List ByteArray) (hm : m_disk_Disk_List N a0 e1 = some o2) : Spec Tryz.prog 11 [.pointer (some ⟨qg0,0, none⟩)] [] [.blk qg0 [.int .i64 a0, .map (some qb1)] 45, mapP (keyStr (tStr_run tT_9)) true R_Disk_rowsD qb1 e1] (fun v Φr Hr => ∃ (o0 : Option Addr) (o1 : Nat) (o3 : Nat), v = .slice o0 o3 o1 ∧ Φr = [] ∧ Hr = [.own 9 1 R_str (.slice o0 o3 o1) o2, .blk qg0 [.int .i64 a0, .map (some qb1)] 45, mapP (keyStr (tStr_run tT_9)) true R_Disk_rowsD qb1 e1]) := by
 unfold m_disk_Disk_List at hm
 refine spec_of Tryz.func11 rfl Tryz.ntmps11 rfl (S := [_]) rfl (fun C => (wc_seq (wc_region (wP rfl (wl_nil (we_then (wc_keep [0] (S' := [_]) rfl (wc_seq (wc_seq (wc_region (wP rfl ?_)))))))))))
 obtain ⟨_, hc4, hm⟩ := bindO_some hm
 try dsimp only at hm
 refine wC [0,1] [] rfl fn_21 rfl (w_disk_Disk_is_s N qg0 a0 qb1 e1 hc4) (asK [] rfl) rfl (H' := []) rfl ?_
 rintro _ _ _ ⟨rfl, rfl, rfl⟩
 refine wP rfl (wl_as (d := 5) (v' := .bool false) (S' := [_,_,_]) rfl rfl rfl (wP rfl (wP rfl (wP rfl (wF rfl tF_45_1 (wD 0 1 rfl tS_43 tA_43 rfl (wl_lenP 1 rfl rfl rfl (freshS_eq rfl) rfl rfl rfl tM_43 (wP rfl (wl_as (d := 12) (v' := .bool (e1.length == 0)) (S' := [_,_,_,_,_,_,_,_,_,_]) rfl rfl (nateq (a := e1.length) (b := 0)) (wP rfl (wl_nil (we_then (wc_keep [13,0] (S' := [_,_]) rfl ?_)))))))))))))
 refine wc_cond rfl (fun hb13 => ?_) (fun hb13 => ?_)
 ·
  replace hm := iteT hm hb13
  refine wc_keep [] (S' := []) rfl (wc_seq (wc_region (wP rfl (wl_nil (we_then (wc_ret (we_then_ret ?_)))))))
  have hE := (Option.some.inj hm).symm
  replace hE := hE.symm
  subst hE
  refine we_rowNil 9 1 R_str ?_
  refine ret_one (Hr := [_,_,_]) [0,1,2] Tryz.results11 (res_tmp rfl) ⟨none, 0,0, rfl, rfl, rfl⟩ (asK [] rfl) rfl rfl (.inl rfl)
 ·
  replace hm := iteF hm hb13
  refine wc_keep [0] (S' := [_]) rfl (wc_skip (we_then (wc_seq (wc_region (wP rfl (wP rfl (wF rfl tF_45_1 (wD 0 1 rfl tS_43 tA_43 rfl (wC [] [0,1] rfl fn_31 rfl (spec_keys (fun W => Tryz.maps_Keys_31 (some qb1) W)) (asK [] rfl) rfl (H' := [_,_]) rfl ?_)))))))))
  rintro _ _ _ ⟨g18, rfl, rfl, rfl⟩
  obtain ⟨hf19, hm⟩ := gd_some hm
  refine wC [0,2] [1] rfl fn_30 rfl (spec_sorted (t := 43) (R := R_Disk_rowsD) (Rs := R_str) (tStr_run tT_9) (fun _ => rfl) (fun _ _ _ => ⟨(), rfl, fun _ h => by cases h⟩) hf19 (fun nn D0 W h1 h2 h3 h4 h5 => Tryz.sorted_at_30_31 _ nn D0 anyKR W _ h1 h2 h3 h4 h5)) (asK [] rfl) rfl (H' := [_]) rfl ?_
  rintro _ _ _ ⟨p19, c19, rfl, rfl, rfl⟩
  refine wP rfl (wl_nil (we_then (wc_keep [2] (S' := [_]) rfl (wc_ret ?_))))
  have hE := (Option.some.inj hm).symm
  replace hE := hE.symm
  subst hE
  refine ret_one (Hr := [_,_,_]) [0,3,2] Tryz.results11 (res_tmp rfl) ⟨p19, c19, (sortKeys e1).length, rfl, rfl, rfl⟩ (asK [] rfl) rfl rfl (.inl rfl)
theorem w_ropewalklaw17_awake_s (N : Nat)  (o0 : Bool) (hm : m_ropewalklaw17_awake N = some o0) : Spec Tryz.prog 4 [] [] [] (fun v Φr Hr => v = .bool o0 ∧ Φr = [] ∧ Hr = []) := by
 unfold m_ropewalklaw17_awake at hm
 refine spec_of Tryz.func4 rfl Tryz.ntmps4 rfl (S := []) rfl (fun C => (wc_seq (wc_region (wP rfl (wl_nil (we_then (wc_keep [] (S' := []) rfl (wc_seq (wc_region ?_)))))))))
 obtain ⟨_, hc7, hm⟩ := bindO_some hm
 try dsimp only at hm
 refine wC [] [] rfl fn_5 rfl (w_disk_New_s N 10 hc7) (asK [] rfl) rfl (H' := []) rfl ?_
 rintro _ _ _ ⟨c7_0, c7_1, rfl, rfl, rfl⟩
 refine wP rfl (wl_nil (we_then (wc_keep [1] (S' := [_]) rfl (wc_seq (wc_region (wP rfl (wl_buildSlice rfl rfl rfl (freshS_eq rfl) rfl tE_22 tS_5 tZ_5 rfl (zs := [.int .u8 0, .int .u8 0, .int .u8 0, .int .u8 0]) (by kernel_rfl) rfl (out := [_,_,_,_]) rfl (fun g9 => (wl_row (sz := 1) (m := 4) R_u8 ([119,111,114,100]) 0 rfl (fun F w hφ => ⟨[.int .u8 119],[.int .u8 111, .int .u8 114, .int .u8 100], rfl, rfl, ⟨(), rfl, ask_nil⟩, ⟨[.int .u8 111],[.int .u8 114, .int .u8 100], rfl, rfl, ⟨(), rfl, ask_nil⟩, ⟨[.int .u8 114],[.int .u8 100], rfl, rfl, ⟨(), rfl, ask_nil⟩, ⟨[.int .u8 100],[], rfl, rfl, ⟨(), rfl, ask_nil⟩, rfl⟩⟩⟩⟩) rfl (by decide) (H' := [_,_,_]) rfl (wl_markRow 0 rfl rfl rfl (freshS_eq rfl) rfl rfl rfl rfl tD_22 tD_5 mkRep_free (H' := [.blk c7_0 [.int .i64 (maxI 10 0), .map (some c7_1)] 45, mapP (keyStr (tStr_run tT_9)) true R_Disk_rowsD c7_1 ([] : List (ByteArray × Disk_rowsD))]) rfl ?_))))))))))
 obtain ⟨⟨v11_0, v11_1⟩, hc11, hm⟩ := bindO_some hm
 try dsimp only at hm
 refine wC [0,1] [] rfl fn_7 rfl (w_disk_Disk_Append_s N c7_0 (maxI 10 0) c7_1 ([] : List (ByteArray × Disk_rowsD)) (⟨#[97]⟩ : ByteArray) (some ⟨g9,0, none⟩) 4 [119,111,114,100] _ _ hc11) (asK [0] rfl) rfl (H' := []) rfl ?_
 rintro _ _ _ ⟨rfl, rfl, rfl⟩
 refine wP rfl ?_
 obtain ⟨⟨v13_0, v13_1⟩, hc13, hm⟩ := bindO_some hm
 try dsimp only at hm
 refine wC [0,1] [] rfl fn_17 rfl (w_disk_Disk_Sync_s N c7_0 (maxI 10 0) c7_1 v11_1 (⟨#[97]⟩ : ByteArray) _ _ hc13) (asK [] rfl) rfl (H' := []) rfl ?_
 rintro _ _ _ ⟨rfl, rfl, rfl⟩
 refine wP rfl (wl_buildSlice rfl rfl rfl (freshS_eq rfl) rfl tE_22 tS_5 tZ_5 rfl (zs := [.int .u8 0, .int .u8 0, .int .u8 0]) (by kernel_rfl) rfl (out := [_,_,_]) rfl (fun g15 => (wl_row (sz := 1) (m := 3) R_u8 ([105,110,103]) 0 rfl (fun F w hφ => ⟨[.int .u8 105],[.int .u8 110, .int .u8 103], rfl, rfl, ⟨(), rfl, ask_nil⟩, ⟨[.int .u8 110],[.int .u8 103], rfl, rfl, ⟨(), rfl, ask_nil⟩, ⟨[.int .u8 103],[], rfl, rfl, ⟨(), rfl, ask_nil⟩, rfl⟩⟩⟩) rfl (by decide) (H' := [_,_,_]) rfl (wl_markRow 0 rfl rfl rfl (freshS_eq rfl) rfl rfl rfl rfl tD_22 tD_5 mkRep_free (H' := [.blk c7_0 [.int .i64 (maxI 10 0), .map (some c7_1)] 45, mapP (keyStr (tStr_run tT_9)) true R_Disk_rowsD c7_1 v13_1]) rfl ?_))))
 obtain ⟨⟨v17_0, v17_1⟩, hc17, hm⟩ := bindO_some hm
 try dsimp only at hm
 refine wC [0,1] [] rfl fn_7 rfl (w_disk_Disk_Append_s N c7_0 (maxI 10 0) c7_1 v13_1 (⟨#[97]⟩ : ByteArray) (some ⟨g15,0, none⟩) 3 [105,110,103] _ _ hc17) (asK [0] rfl) rfl (H' := []) rfl ?_
 rintro _ _ _ ⟨rfl, rfl, rfl⟩
 refine wl_buildSlice rfl rfl rfl (freshS_eq rfl) rfl tE_40 tS_27 tZ_27 rfl (zs := [.int .i64 0, .int .i64 0, .int .i64 0]) (by kernel_rfl) rfl (out := [_,_,_]) rfl (fun g18 => (wP rfl (wl_nil (we_then (wc_keep [2,1] (S' := [_,_]) rfl (wc_seq (wc_region (wP rfl ?_))))))))
 obtain ⟨v20, hc20, hm⟩ := bindO_some hm
 refine wC [1,2] [0] rfl fn_18 rfl (w_disk_Disk_Crash_s N c7_0 (maxI 10 0) c7_1 v17_1 1 _ hc20) (asK [] rfl) rfl (H' := [_]) rfl ?_
 rintro _ _ _ ⟨rfl, rfl, rfl⟩
 refine wl_nil (we_then (wc_keep [2,1] (S' := [_,_]) rfl (wc_seq (wc_region (wP rfl ?_)))))
 obtain ⟨⟨v23_0, v23_1, v23_2⟩, hc23, hm⟩ := bindO_some hm
 try dsimp only at hm
 refine wC [0,1] [2] rfl fn_10 rfl (w_disk_Disk_Read_s N c7_0 (maxI 10 0) c7_1 v20 (⟨#[97]⟩ : ByteArray) _ _ _ hc23) (asK [] rfl) rfl (H' := [_]) rfl ?_
 rintro _ _ _ ⟨p23_0, c23_1, c23_2, rfl, rfl, rfl⟩
 refine wP rfl (wP rfl (wP rfl (wP rfl (wP rfl (wl_nil (we_then (wc_keep [4,3,2,1] (S' := [_,_,_,_]) rfl (wc_seq (wc_region (wP rfl (wP rfl (wl_buildSlice rfl rfl rfl (freshS_eq rfl) rfl tE_40 tS_27 tZ_27 rfl (zs := [.int .i64 0]) (by kernel_rfl) rfl (out := [_]) rfl (fun g28 => (wl_row (sz := 1) (m := 3) R_i64 ([v11_0, (((v13_0 : Nat) : Int)), v17_0]) 4 rfl (fun F w hφ => ⟨[.int .i64 v11_0],[.int .i64 ((v13_0 : Nat) : Int), .int .i64 v17_0], rfl, rfl, ⟨(), rfl, ask_nil⟩, ⟨[.int .i64 ((v13_0 : Nat) : Int)],[.int .i64 v17_0], rfl, rfl, ⟨(), rfl, ask_nil⟩, ⟨[.int .i64 v17_0],[], rfl, rfl, ⟨(), rfl, ask_nil⟩, rfl⟩⟩⟩) rfl (by decide) (H' := [_,_,_,_,_]) rfl ?_))))))))))))))
 obtain ⟨hg29, hm⟩ := gd_some hm
 refine wl_appendH ([(((v23_1 : Nat) : Int))]) 4 0 rfl rfl rfl (freshS_eq rfl) rfl rfl rfl rfl rfl (fun F w hφ => ⟨[.int .i64 ((v23_1 : Nat) : Int)],[], rfl, rfl, ⟨(), rfl, ask_nil⟩, rfl⟩) tE_40 tR_27 rfl rfl (Nat.le_trans hg29 (by decide)) (Nat.le_trans (Nat.mul_le_mul_right _ hg29) (by decide)) (H2 := fun p29 c29 => [_,_,_,_, .own 27 1 R_i64 (.slice p29 ((([v11_0, (((v13_0 : Nat) : Int)), v17_0]) ++ ([(((v23_1 : Nat) : Int))])).length) c29) (([v11_0, (((v13_0 : Nat) : Int)), v17_0]) ++ ([(((v23_1 : Nat) : Int))]))]) (fun _ _ => rfl) (fun p29 c29 => (wl_drop 0 rfl (H' := [_,_,_,_]) rfl (wl_pure (S' := [_,_,_,_,_,_,_]) rfl rfl rfl rfl rfl (wl_nil (we_then (wc_keep [2,3,1] (S' := [_,_,_]) rfl (wc_seq ?_)))))))
 obtain ⟨bj_1, hm, hLj_1⟩ := bindS_some hm
 refine wc_cut (σ := Unit) (fun _ => bj_1 = .inl ()) (fun _ => [(3, .slice p23_0 c23_2 c23_1), (1, .pointer (some ⟨c7_0,0, none⟩))]) (fun _ => []) (fun _ => [.own 5 1 R_u8 (.slice p23_0 c23_2 c23_1) v23_0, .blk c7_0 [.int .i64 (maxI 10 0), .map (some c7_1)] 45, mapP (keyStr (tStr_run tT_9)) true R_Disk_rowsD c7_1 v23_2]) ?_ ?_
 ·
  refine wc_seq (wc_region (wP rfl (wl_nil (we_then (wc_block (wc_pick [3,0,1,2] rfl (H' := [_,_,_,_]) rfl (wc_loop (σ := Nat × Nat) (fun (nu1, u1_5) => iter (m_ropewalklaw17_awake_L1 N v11_0 v13_0 v17_0 v23_1) nu1 u1_5 = some bj_1) (fun (nu1, u1_5) => nu1) (fun (nu1, u1_5) => [(5, .int .i64 ((u1_5 : Nat) : Int)), (2, .slice p29 ((([v11_0, (((v13_0 : Nat) : Int)), v17_0]) ++ ([(((v23_1 : Nat) : Int))])).length) c29), (3, .slice p23_0 c23_2 c23_1), (1, .pointer (some ⟨c7_0,0, none⟩))]) (fun (nu1, u1_5) => []) (fun (nu1, u1_5) => [.own 27 1 R_i64 (.slice p29 ((([v11_0, (((v13_0 : Nat) : Int)), v17_0]) ++ ([(((v23_1 : Nat) : Int))])).length) c29) (([v11_0, (((v13_0 : Nat) : Int)), v17_0]) ++ ([(((v23_1 : Nat) : Int))])), .own 5 1 R_u8 (.slice p23_0 c23_2 c23_1) v23_0, .blk c7_0 [.int .i64 (maxI 10 0), .map (some c7_1)] 45, mapP (keyStr (tStr_run tT_9)) true R_Disk_rowsD c7_1 v23_2]) (N, 0) hm [5,2,3,1] rfl (asK [] rfl) rfl (fun s_ hm => ?_))))))))
  obtain ⟨nu1, u1_5⟩ := s_
  try dsimp only at hm ⊢
  obtain ⟨mu1, bu1, hnu1, hq, hLu1⟩ := iter_some hm
  clear hm
  subst hnu1
  replace hm := hq
  clear hq
  unfold m_ropewalklaw17_awake_L1 at hm
  try dsimp only at hm
  refine wc_seq (wc_seq (wc_region (wP rfl (wP rfl (wN rfl tE_40 (wP rfl (wl_as (d := 33) (v' := .bool (decide (u1_5 < ((([v11_0, (((v13_0 : Nat) : Int)), v17_0]) ++ ([(((v23_1 : Nat) : Int))])).length)))) (S' := [_,_,_,_,_,_,_]) rfl rfl (natlt (a := u1_5) (b := (([v11_0, (((v13_0 : Nat) : Int)), v17_0]) ++ ([(((v23_1 : Nat) : Int))])).length)) (wl_nil (we_then (wc_keep [33,5,2,3,1] (S' := [_,_,_,_,_]) rfl ?_))))))))))
  refine wc_cond rfl (fun hb33 => ?_) (fun hb33 => ?_)
  ·
   replace hm := iteT hm hb33
   refine wc_keep [5,2,3,1] (S' := [_,_,_,_]) rfl (wc_skip (we_then (wc_seq (wc_block (wc_seq (wc_region (wP rfl (wP rfl ?_))))))))
   obtain ⟨x38, hx38, hm⟩ := bindO_some hm
   refine wl_indexH 0 u1_5 rfl rfl rfl (freshS_eq rfl) rfl rfl rfl rfl rfl (get_lt hx38) tE_40 tS_27 (fun g38 eg38 => ?_)
   subst eg38
   refine wl_loadRow R_i64_opens 0 u1_5 0 rfl rfl rfl (freshS_eq rfl) rfl rfl rfl hx38 tS_27 tA_27 (v := fun _ => .int .i64 x38) (fun _ => rfl) (fun _ => rfl) (fun _ _ => (wP rfl (wl_nil (we_then (wc_keep [40,5,2,3,1] (S' := [_,_,_,_,_]) rfl ?_)))))
   refine wc_cond rfl (fun hb40 => ?_) (fun hb40 => ?_)
   ·
    replace hm := iteT hm hb40
    refine wc_keep [] (S' := []) rfl (wc_seq (wc_region (wP rfl (wl_nil (we_then (wc_ret (we_block_ret (we_then_ret (we_then_ret (we_block_ret (we_then_ret ?_)))))))))))
    have hE := (Option.some.inj hm).symm
    replace hE := link_inr hLu1 hE
    replace hE := link_inr hLj_1 hE
    replace hE := hE.symm
    subst hE
    refine ret_one (Hr := []) [] Tryz.results4 (res_tmp rfl) ⟨rfl, rfl, rfl⟩ (asK [] rfl) rfl rfl (.inl rfl)
   ·
    replace hm := iteF hm hb40
    refine wc_keep [5,2,3,1] (S' := [_,_,_,_]) rfl (wc_skip (we_block_normal (we_then (wc_region (wP rfl (wP rfl ?_))))))
    obtain ⟨hg35, hm⟩ := gd_some hm
    refine wl_as (d := 35) (v' := .int .i64 ((u1_5 + 1 : Nat) : Int)) (S' := [_,_,_,_,_]) rfl rfl (nat_add (a := u1_5) (b := 1) hg35) (wl_pure (S' := [_,_,_,_,_]) rfl rfl rfl rfl rfl (wl_nil ?_))
    have hE := (Option.some.inj hm).symm
    replace hE := link_inl hLu1 hE
    refine we_roundK (_, u1_5 + 1) (Nat.lt_succ_self _) hE [5,2,3,1] rfl (asK [] rfl) rfl
  ·
   replace hm := iteF hm hb33
   refine wc_keep [3,1] (S' := [_,_]) rfl (wc_exit (we_then_exit (we_then_exit (we_block_hit ?_))))
   have hE := (Option.some.inj hm).symm
   replace hE := link_inr hLu1 hE
   refine we_pick [1,2,3] rfl (H' := [_,_,_]) rfl ?_
   refine we_join () hE [3,1] rfl (asK [] rfl) rfl
 ·
  rintro _ hE
  try dsimp only
  have hm := link_inl hLj_1 hE
  try dsimp only at hm
  refine wc_seq (wc_region (wP rfl ?_))
  obtain ⟨v42, hc42, hm⟩ := bindO_some hm
  refine wC [1,2] [0] rfl fn_11 rfl (w_disk_Disk_List_s N c7_0 (maxI 10 0) c7_1 v23_2 _ hc42) (asK [] rfl) rfl (H' := [_]) rfl ?_
  rintro _ _ _ ⟨p42_0, c42_1, c42_2, rfl, rfl, rfl⟩
  refine wP rfl (wl_nil (we_then (wc_keep [6,3,1] (S' := [_,_,_]) rfl (wc_seq ?_))))
  obtain ⟨bj_2, hm, hLj_2⟩ := bindO_some hm
  unfold m_ropewalklaw17_awake_C2 at hm
  refine wc_cut (σ := Bool) (fun j_2_0 => bj_2 = j_2_0) (fun j_2_0 => [(0, .bool j_2_0)]) (fun j_2_0 => []) (fun j_2_0 => []) ?_ ?_
  ·
   refine wc_region (wP rfl (wl_ownLen 3 rfl (fun hzc23_2 _ => ?_)))
   subst hzc23_2
   refine wl_freeze 3 rfl (H' := [_,_,_]) rfl (wl_fact (.sli 1 R_u8 p23_0 c23_1 v23_0) (fun F w hφ => own_sli (hφ _ (mem_at (k := 0) rfl))) (wl_bytesStr 0 rfl rfl rfl (freshS_eq rfl) rfl rfl rfl tD_22 tD_5 tD_9 (fun _ _ _ _ h => by obtain ⟨_, h, _⟩ := h; exact h) (wP rfl (wP rfl ?_))))
   refine wl_split (d := 46) (S' := [_,_,_,_,_,_]) rfl rfl (fun hs46 => ?_) (fun hs46 => ?_)
   ·
    replace hm := iteT hm hs46
    refine wP rfl ?_
    obtain ⟨v48, hc48, hm⟩ := bindO_some hm
    refine wC [1,2] [0] rfl fn_19 rfl (w_disk_Disk_Used_s N c7_0 (maxI 10 0) c7_1 v23_2 _ hc48) (asK [] rfl) rfl (H' := [_]) rfl ?_
    rintro _ _ _ ⟨rfl, rfl, rfl⟩
    refine wP rfl (wl_as (d := 49) (v' := .bool (v48 == 5)) (S' := [_,_,_,_,_,_,_,_,_]) rfl rfl (nateq (a := v48) (b := 5)) (wP rfl (wP rfl ?_)))
    refine wl_split (d := 51) (S' := [_,_,_,_,_,_,_,_,_,_,_]) rfl rfl (fun hs51 => ?_) (fun hs51 => ?_)
    ·
     replace hm := iteT hm hs51
     refine wP rfl (wl_buildSlice rfl rfl rfl (freshS_eq rfl) rfl tE_22 tS_5 tZ_5 rfl (zs := [.int .u8 0, .int .u8 0, .int .u8 0, .int .u8 0, .int .u8 0, .int .u8 0]) (by kernel_rfl) rfl (out := [_,_,_,_,_,_]) rfl (fun g53 => (wl_row (sz := 1) (m := 6) R_u8 ([115,105,120,115,105,120]) 0 rfl (fun F w hφ => ⟨[.int .u8 115],[.int .u8 105, .int .u8 120, .int .u8 115, .int .u8 105, .int .u8 120], rfl, rfl, ⟨(), rfl, ask_nil⟩, ⟨[.int .u8 105],[.int .u8 120, .int .u8 115, .int .u8 105, .int .u8 120], rfl, rfl, ⟨(), rfl, ask_nil⟩, ⟨[.int .u8 120],[.int .u8 115, .int .u8 105, .int .u8 120], rfl, rfl, ⟨(), rfl, ask_nil⟩, ⟨[.int .u8 115],[.int .u8 105, .int .u8 120], rfl, rfl, ⟨(), rfl, ask_nil⟩, ⟨[.int .u8 105],[.int .u8 120], rfl, rfl, ⟨(), rfl, ask_nil⟩, ⟨[.int .u8 120],[], rfl, rfl, ⟨(), rfl, ask_nil⟩, rfl⟩⟩⟩⟩⟩⟩) rfl (by decide) (H' := [_,_,_,_]) rfl (wl_markRow 0 rfl rfl rfl (freshS_eq rfl) rfl rfl rfl rfl tD_22 tD_5 mkRep_free (H' := [.blk c7_0 [.int .i64 (maxI 10 0), .map (some c7_1)] 45, mapP (keyStr (tStr_run tT_9)) true R_Disk_rowsD c7_1 v23_2, .own 9 1 R_str (.slice p42_0 c42_2 c42_1) v42]) rfl ?_))))
     obtain ⟨⟨v55_0, v55_1⟩, hc55, hm⟩ := bindO_some hm
     try dsimp only at hm
     refine wC [0,1] [2] rfl fn_7 rfl (w_disk_Disk_Append_s N c7_0 (maxI 10 0) c7_1 v23_2 (⟨#[98]⟩ : ByteArray) (some ⟨g53,0, none⟩) 6 [115,105,120,115,105,120] _ _ hc55) (asK [0] rfl) rfl (H' := [_]) rfl ?_
     rintro _ _ _ ⟨rfl, rfl, rfl⟩
     refine wP rfl (wP rfl (wP rfl ?_))
     refine wl_split (d := 58) (S' := [_,_,_,_,_,_,_,_,_,_,_,_,_,_,_,_,_,_]) rfl rfl (fun hs58 => ?_) (fun hs58 => ?_)
     ·
      replace hm := iteT hm hs58
      refine wP rfl (wl_ownLen 2 rfl (fun hl60 _ => (wN rfl tE_33 (wl_as (d := 60) (v' := .int .i64 ((v42.length : Nat) : Int)) (S' := [_,_,_,_,_,_,_,_,_,_,_,_,_,_,_,_,_,_,_,_]) rfl rfl (len_is hl60) (wP rfl (wl_as (d := 61) (v' := .bool (v42.length == 1)) (S' := [_,_,_,_,_,_,_,_,_,_,_,_,_,_,_,_,_,_,_,_,_]) rfl rfl (nateq (a := v42.length) (b := 1)) (wP rfl (wP rfl ?_))))))))
      refine wl_split (d := 63) (S' := [_,_,_,_,_,_,_,_,_,_,_,_,_,_,_,_,_,_,_,_,_,_,_]) rfl rfl (fun hs63 => ?_) (fun hs63 => ?_)
      ·
       replace hm := iteT hm hs63
       refine wP rfl ?_
       obtain ⟨x65, hx65, hm⟩ := bindO_some hm
       refine wl_indexH 2 0 rfl rfl rfl (freshS_eq rfl) rfl rfl rfl rfl rfl (get_lt hx65) tE_33 tS_9 (fun g65 eg65 => ?_)
       subst eg65
       refine wl_loadRow R_str_opens 2 0 0 rfl rfl rfl (freshS_eq rfl) rfl rfl rfl hx65 tS_9 tA_9 (v := fun _ => .string x65) (fun _ => rfl) (fun _ => rfl) (fun _ _ => (wP rfl (wP rfl (wP rfl (wl_nil ?_)))))
       have hE := (Option.some.inj hm).symm
       refine we_pick [] rfl (H' := []) rfl ?_
       refine we_join (x65.toList == (⟨#[97]⟩ : ByteArray).toList) hE [0] rfl (asK [] rfl) rfl
      ·
       replace hm := iteF hm hs63
       refine wO rfl (wO rfl (wO rfl (wO rfl (wP rfl (wP rfl (wl_nil ?_))))))
       have hE := (Option.some.inj hm).symm
       refine we_pick [] rfl (H' := []) rfl ?_
       refine we_join false hE [0] rfl (asK [] rfl) rfl
     ·
      replace hm := iteF hm hs58
      refine wO rfl (wO rfl (wO rfl (wP rfl (wP rfl (wO rfl (wO rfl (wO rfl (wO rfl (wP rfl (wP rfl (wl_nil ?_)))))))))))
      have hE := (Option.some.inj hm).symm
      refine we_pick [] rfl (H' := []) rfl ?_
      refine we_join false hE [0] rfl (asK [] rfl) rfl
    ·
     replace hm := iteF hm hs51
     refine wO rfl (wO rfl (wO rfl (wO rfl (wO rfl (wP rfl (wP rfl (wO rfl (wO rfl (wO rfl (wP rfl (wP rfl (wO rfl (wO rfl ?_)))))))))))))
     refine wO rfl (wO rfl (wP rfl (wP rfl (wl_nil ?_))))
     have hE := (Option.some.inj hm).symm
     refine we_pick [] rfl (H' := []) rfl ?_
     refine we_join false hE [0] rfl (asK [] rfl) rfl
   ·
    replace hm := iteF hm hs46
    refine wO rfl (wO rfl (wO rfl (wP rfl (wP rfl (wO rfl (wO rfl (wO rfl (wO rfl (wO rfl (wP rfl (wP rfl (wO rfl (wO rfl ?_)))))))))))))
    refine wO rfl (wP rfl (wP rfl (wO rfl (wO rfl (wO rfl (wO rfl (wP rfl (wP rfl (wl_nil ?_)))))))))
    have hE := (Option.some.inj hm).symm
    refine we_pick [] rfl (H' := []) rfl ?_
    refine we_join false hE [0] rfl (asK [] rfl) rfl
  ·
   rintro j_2_0 hE
   try dsimp only
   have hm := hLj_2
   rw [hE] at hm
   refine wc_ret ?_
   have hE := (Option.some.inj hm).symm
   replace hE := hE.symm
   subst hE
   refine ret_one (Hr := []) [] Tryz.results4 (res_tmp rfl) ⟨rfl, rfl, rfl⟩ (asK [] rfl) rfl rfl (.inl rfl)
theorem w_ropewalkkit_mark_s (N : Nat) (a0 : Int) (a1 : Int)  (hm : m_ropewalkkit_mark N a0 a1 = some ()) : Spec Tryz.prog 36 [.int .i64 a0, .int .i64 a1] [] [] (fun v Φr Hr => v = .int .i64 (IntKind.wrap .i64 ((IntKind.wrap .i64 (1000003 * (IntKind.wrap .i64 (a0 + 7)))) + a1)) ∧ Φr = [] ∧ Hr = []) := by
 unfold m_ropewalkkit_mark at hm
 refine spec_of Tryz.func36 rfl Tryz.ntmps36 rfl (S := [_,_]) rfl (fun C => (wc_seq (wc_region (wP rfl (wl_nil (we_then (wc_keep [0,1] (S' := [_,_]) rfl (wc_seq (wc_region (wP rfl (wP rfl (wP rfl (wP rfl (wP rfl ?_))))))))))))))
 refine wP rfl (wl_nil (we_then (wc_keep [4] (S' := [_]) rfl (wc_ret ?_))))
 have hE := (Option.some.inj hm).symm
 refine ret_one (Hr := []) [] Tryz.results36 (res_tmp rfl) ⟨rfl, rfl, rfl⟩ (asK [] rfl) rfl rfl (.inl rfl)
theorem w_ropewalkkit_markByte_s (N : Nat) (a0 : Int) (a1 : Int)  (hm : m_ropewalkkit_markByte N a0 a1 = some ()) : Spec Tryz.prog 20 [.int .i64 a0, .int .i64 a1] [] [] (fun v Φr Hr => v = .int .u8 (IntKind.wrap .u8 (Int.fdiv (IntKind.wrap .u64 ((IntKind.wrap .u64 (IntKind.wrap .i64 ((IntKind.wrap .i64 (1000003 * (IntKind.wrap .i64 (a0 + 7)))) + a1))) * 11400714819323198485)) (2 ^ (56)))) ∧ Φr = [] ∧ Hr = []) := by
 unfold m_ropewalkkit_markByte at hm
 refine spec_of Tryz.func20 rfl Tryz.ntmps20 rfl (S := [_,_]) rfl (fun C => (wc_seq (wc_region (wP rfl (wl_nil (we_then (wc_keep [0,1] (S' := [_,_]) rfl (wc_seq (wc_region (wP rfl (wP rfl ?_)))))))))))
 obtain ⟨_, hc7, hm⟩ := bindO_some hm
 try dsimp only at hm
 refine wC [] [] rfl fn_36 rfl (w_ropewalkkit_mark_s N a0 a1 hc7) (asK [] rfl) rfl (H' := []) rfl ?_
 rintro _ _ _ ⟨rfl, rfl, rfl⟩
 refine wl_reck rfl rfl rfl (freshS_eq rfl) (rk_conv rfl rfl tI_3 tI_92) (wP rfl (wl_bin rfl rfl rfl (freshS_eq rfl) rfl rfl rfl (run_shr (by decide)) (wl_reck rfl rfl rfl (freshS_eq rfl) (rk_conv rfl rfl tI_92 tI_5) (wP rfl (wl_nil (we_then (wc_keep [4] (S' := [_]) rfl (wc_ret ?_))))))))
 have hE := (Option.some.inj hm).symm
 refine ret_one (Hr := []) [] Tryz.results20 (res_tmp rfl) ⟨rfl, rfl, rfl⟩ (asK [] rfl) rfl rfl (.inl rfl)
theorem w_ropewalkkit_LentBytes_s (N : Nat) (qp0 : Option Addr) (qc1 : Nat) (l0 : List Int) (o2 : List Int) (hm : m_ropewalkkit_LentBytes N l0 = some o2) : Spec Tryz.prog 6 [.slice qp0 l0.length qc1] [.sli 1 R_u8 qp0 qc1 l0] [] (fun v Φr Hr => ∃ (o0 : Option Addr) (o1 : Nat) (o3 : Nat), v = .slice o0 l0.length o1 ∧ Φr = [] ∧ Hr = [.own 5 1 R_u8 (.slice o0 o3 o1) o2]) := by
 unfold m_ropewalkkit_LentBytes at hm
 refine spec_of Tryz.func6 rfl Tryz.ntmps6 rfl (S := [_]) rfl (fun C => (wc_seq (wc_region (wP rfl (wl_nil (we_then (wc_keep [0] (S' := [_]) rfl (wc_seq (wc_region (wP rfl (wN rfl tE_22 (wP rfl ?_))))))))))))
 obtain ⟨hg7, hm⟩ := gd_some hm
 refine wl_as (d := 7) (v' := .int .i64 ((l0.length + 12 : Nat) : Int)) (S' := [_,_,_]) rfl rfl (nat_add (a := l0.length) (b := 12) hg7) ?_
 obtain ⟨hg8, hm⟩ := gd_some hm
 refine wl_makeCap (m := l0.length + 12) R_u8 rfl rfl rfl (freshS_eq rfl) rfl rfl rfl rfl tE_22 tR_5 rfl rfl (Nat.le_trans (Nat.mul_le_mul_left _ hg8) (by decide)) (Nat.le_trans hg8 (by decide)) (fun g8 => (wP rfl (wl_nil (we_then (wc_keep [3,0] (S' := [_,_]) rfl (wc_seq (wc_region (wP rfl (wP rfl ?_)))))))))
 obtain ⟨hg11, hm⟩ := gd_some hm
 refine wl_append 0 0 rfl rfl rfl (freshS_eq rfl) rfl rfl rfl rfl rfl tE_22 tR_5 rfl rfl (Nat.le_trans hg11 (by decide)) (Nat.le_trans (Nat.mul_le_mul_right _ hg11) (by decide)) (H2 := fun p11 c11 => [.own 5 1 R_u8 (.slice p11 (l0).length c11) l0]) (fun _ _ => rfl) (fun p11 c11 => (wl_pure (S' := [_,_,_,_]) rfl rfl rfl rfl rfl (wl_nil (we_then (wc_keep [3,0] (S' := [_,_]) rfl (wc_seq ?_))))))
 obtain ⟨bj_1, hm, hLj_1⟩ := bindO_some hm
 refine wc_cut (σ := (List Int) × (Option Addr) × Nat × Nat) (fun (j_1_3_l, j_1_3_p, j_1_3_c, j_1_3_n) => bj_1 = j_1_3_l) (fun (j_1_3_l, j_1_3_p, j_1_3_c, j_1_3_n) => [(3, .slice j_1_3_p j_1_3_n j_1_3_c), (0, .slice qp0 l0.length qc1)]) (fun (j_1_3_l, j_1_3_p, j_1_3_c, j_1_3_n) => [.sli 1 R_u8 qp0 qc1 l0]) (fun (j_1_3_l, j_1_3_p, j_1_3_c, j_1_3_n) => [.own 5 1 R_u8 (.slice j_1_3_p j_1_3_n j_1_3_c) j_1_3_l]) ?_ ?_
 ·
  refine wc_seq (wc_region (wP rfl (wl_nil (we_then (wc_block (wc_loop (σ := Nat × Nat × (List Int) × (Option Addr) × Nat × Nat) (fun (nu1, u1_4, u1_3_l, u1_3_p, u1_3_c, u1_3_n) => iter (m_ropewalkkit_LentBytes_L1 N) nu1 (u1_4, u1_3_l) = some bj_1) (fun (nu1, u1_4, u1_3_l, u1_3_p, u1_3_c, u1_3_n) => nu1) (fun (nu1, u1_4, u1_3_l, u1_3_p, u1_3_c, u1_3_n) => [(4, .int .i64 ((u1_4 : Nat) : Int)), (3, .slice u1_3_p u1_3_n u1_3_c), (0, .slice qp0 l0.length qc1)]) (fun (nu1, u1_4, u1_3_l, u1_3_p, u1_3_c, u1_3_n) => [.sli 1 R_u8 qp0 qc1 l0]) (fun (nu1, u1_4, u1_3_l, u1_3_p, u1_3_c, u1_3_n) => [.own 5 1 R_u8 (.slice u1_3_p u1_3_n u1_3_c) u1_3_l]) (N, 0, l0, p11, c11, (l0).length) hm [4,3,0] rfl (asK [0] rfl) rfl (fun s_ hm => ?_)))))))
  obtain ⟨nu1, u1_4, u1_3_l, u1_3_p, u1_3_c, u1_3_n⟩ := s_
  try dsimp only at hm ⊢
  obtain ⟨mu1, bu1, hnu1, hq, hLu1⟩ := iter_some hm
  clear hm
  subst hnu1
  replace hm := hq
  clear hq
  unfold m_ropewalkkit_LentBytes_L1 at hm
  try dsimp only at hm
  refine wc_seq (wc_seq (wc_region (wP rfl (wP rfl (wl_as (d := 13) (v' := .bool (decide (u1_4 < 12))) (S' := [_,_,_,_]) rfl rfl (natlt (a := u1_4) (b := 12)) (wl_nil (we_then (wc_keep [13,4,3,0] (S' := [_,_,_,_]) rfl ?_))))))))
  refine wc_cond rfl (fun hb13 => ?_) (fun hb13 => ?_)
  ·
   replace hm := iteT hm hb13
   refine wc_keep [4,3,0] (S' := [_,_,_]) rfl (wc_skip (we_then (wc_seq (wc_block (wc_region (wP rfl (wP rfl ?_)))))))
   obtain ⟨_, hc18, hm⟩ := bindO_some hm
   try dsimp only at hm
   refine wC [] [0] rfl fn_20 rfl (w_ropewalkkit_markByte_s N 1 ((u1_4 : Nat) : Int) hc18) (asK [] rfl) rfl (H' := [_]) rfl ?_
   rintro _ _ _ ⟨rfl, rfl, rfl⟩
   refine wl_buildSlice rfl rfl rfl (freshS_eq rfl) rfl tE_22 tS_5 tZ_5 rfl (zs := [.int .u8 0]) (by kernel_rfl) rfl (out := [_]) rfl (fun g19 => ?_)
   obtain ⟨hg20, hm⟩ := gd_some hm
   refine wl_appendH ([(IntKind.wrap .u8 (Int.fdiv (IntKind.wrap .u64 ((IntKind.wrap .u64 (IntKind.wrap .i64 ((IntKind.wrap .i64 (1000003 * (IntKind.wrap .i64 (1 + 7)))) + ((u1_4 : Nat) : Int)))) * 11400714819323198485)) (2 ^ (56))))]) 1 0 rfl rfl rfl (freshS_eq rfl) rfl rfl rfl rfl rfl (fun F w hφ => ⟨[.int .u8 (IntKind.wrap .u8 (Int.fdiv (IntKind.wrap .u64 ((IntKind.wrap .u64 (IntKind.wrap .i64 ((IntKind.wrap .i64 (1000003 * (IntKind.wrap .i64 (1 + 7)))) + ((u1_4 : Nat) : Int)))) * 11400714819323198485)) (2 ^ (56))))],[], rfl, rfl, ⟨(), rfl, ask_nil⟩, rfl⟩) tE_22 tR_5 rfl rfl (Nat.le_trans hg20 (by decide)) (Nat.le_trans (Nat.mul_le_mul_right _ hg20) (by decide)) (H2 := fun p20 c20 => [_, .own 5 1 R_u8 (.slice p20 ((u1_3_l ++ ([(IntKind.wrap .u8 (Int.fdiv (IntKind.wrap .u64 ((IntKind.wrap .u64 (IntKind.wrap .i64 ((IntKind.wrap .i64 (1000003 * (IntKind.wrap .i64 (1 + 7)))) + ((u1_4 : Nat) : Int)))) * 11400714819323198485)) (2 ^ (56))))])).length) c20) (u1_3_l ++ ([(IntKind.wrap .u8 (Int.fdiv (IntKind.wrap .u64 ((IntKind.wrap .u64 (IntKind.wrap .i64 ((IntKind.wrap .i64 (1000003 * (IntKind.wrap .i64 (1 + 7)))) + ((u1_4 : Nat) : Int)))) * 11400714819323198485)) (2 ^ (56))))]))]) (fun _ _ => rfl) (fun p20 c20 => (wl_drop 0 rfl (H' := [_]) rfl (wl_pure (S' := [_,_,_,_,_,_,_]) rfl rfl rfl rfl rfl (wl_nil (we_block_normal (we_then (wc_keep [3,4,0] (S' := [_,_,_]) rfl (wc_region (wP rfl (wP rfl ?_))))))))))
   obtain ⟨hg15, hm⟩ := gd_some hm
   refine wl_as (d := 15) (v' := .int .i64 ((u1_4 + 1 : Nat) : Int)) (S' := [_,_,_,_]) rfl rfl (nat_add (a := u1_4) (b := 1) hg15) (wl_pure (S' := [_,_,_,_]) rfl rfl rfl rfl rfl (wl_nil ?_))
   have hE := (Option.some.inj hm).symm
   replace hE := link_inl hLu1 hE
   refine we_roundK (_, u1_4 + 1, (u1_3_l ++ ([(IntKind.wrap .u8 (Int.fdiv (IntKind.wrap .u64 ((IntKind.wrap .u64 (IntKind.wrap .i64 ((IntKind.wrap .i64 (1000003 * (IntKind.wrap .i64 (1 + 7)))) + ((u1_4 : Nat) : Int)))) * 11400714819323198485)) (2 ^ (56))))])), p20, c20, ((u1_3_l ++ ([(IntKind.wrap .u8 (Int.fdiv (IntKind.wrap .u64 ((IntKind.wrap .u64 (IntKind.wrap .i64 ((IntKind.wrap .i64 (1000003 * (IntKind.wrap .i64 (1 + 7)))) + ((u1_4 : Nat) : Int)))) * 11400714819323198485)) (2 ^ (56))))])).length)) (Nat.lt_succ_self _) hE [4,3,0] rfl (asK [0] rfl) rfl
  ·
   replace hm := iteF hm hb13
   refine wc_keep [3,0] (S' := [_,_]) rfl (wc_exit (we_then_exit (we_then_exit (we_block_hit ?_))))
   have hE := (Option.some.inj hm).symm
   replace hE := link_inr hLu1 hE
   refine we_join (u1_3_l, u1_3_p, u1_3_c, u1_3_n) hE [3,0] rfl (asK [0] rfl) rfl
 ·
  rintro ⟨j_1_3_l, j_1_3_p, j_1_3_c, j_1_3_n⟩ hE
  try dsimp only
  have hm := hLj_1
  rw [hE] at hm
  refine wc_seq (wc_region (wP rfl (wP rfl (wN rfl tE_22 ?_))))
  obtain ⟨hg24, hm⟩ := gd_some hm
  refine wl_ownSpot 0 rfl (fun hsp24 hcm24 => (wl_sliceTo rfl rfl rfl (freshS_eq rfl) rfl rfl rfl rfl tE_22 tS_5 (Nat.le_trans hg24 (by rw [← hcm24.2]; exact hcm24.1)) hsp24 (wP rfl (wl_nil (we_then (wc_keep [2] (S' := [_]) rfl (wc_ret ?_)))))))
  have hE := (Option.some.inj hm).symm
  replace hE := hE.symm
  subst hE
  refine ret_one (Hr := [_]) [0] Tryz.results6 (res_tmp rfl) ⟨j_1_3_p, j_1_3_c, j_1_3_n, rfl, rfl, rfl⟩ (asK [] rfl) rfl rfl (.inl rfl)
theorem w_disk_Disk_Append_V_s (N : Nat) (qg0 : Nat) (a0 : Int) (qb1 : Nat) (e1 : List (ByteArray × Disk_rowsD)) (a2 : ByteArray) (qp2 : Option Addr) (qn3 : Nat) (qc4 : Nat) (l3 : List Int) (k4 : Nat) (o0 : Int) (o1 : List (ByteArray × Disk_rowsD)) (hm : m_disk_Disk_Append_V N a0 e1 a2 l3 k4 = some (o0, o1)) : Spec Tryz.prog 7 [.pointer (some ⟨qg0,0, none⟩), .string a2, .slice qp2 k4 qc4] [] [.blk qg0 [.int .i64 a0, .map (some qb1)] 45, mapP (keyStr (tStr_run tT_9)) true R_Disk_rowsD qb1 e1, .own 5 1 R_u8 (.slice qp2 qn3 qc4) l3] (fun v Φr Hr => v = .int .i64 o0 ∧ Φr = [] ∧ Hr = [.blk qg0 [.int .i64 a0, .map (some qb1)] 45, mapP (keyStr (tStr_run tT_9)) true R_Disk_rowsD qb1 o1, .own 5 1 R_u8 (.slice qp2 qn3 qc4) l3]) := by
 unfold m_disk_Disk_Append_V at hm
 refine spec_of Tryz.func7 rfl Tryz.ntmps7 rfl (S := [_,_,_]) rfl (fun C => (wc_seq (wc_region (wP rfl (wl_nil (we_then (wc_keep [0,1,2] (S' := [_,_,_]) rfl (wc_seq (wc_seq (wc_region (wP rfl ?_)))))))))))
 obtain ⟨_, hc11, hm⟩ := bindO_some hm
 try dsimp only at hm
 refine wC [0,1] [2] rfl fn_21 rfl (w_disk_Disk_is_s N qg0 a0 qb1 e1 hc11) (asK [] rfl) rfl (H' := [_]) rfl ?_
 rintro _ _ _ ⟨rfl, rfl, rfl⟩
 refine wP rfl (wl_nil (we_then (wc_keep [7,0,1,2] (S' := [_,_,_,_]) rfl (wc_seq (wc_region (wP rfl (wP rfl (wl_as (d := 13) (v' := .bool false) (S' := [_,_,_,_,_]) rfl rfl rfl (wl_nil (we_then (wc_keep [13,7,0,1,2] (S' := [_,_,_,_,_]) rfl (wc_false rfl (wc_keep [0,1,2] (S' := [_,_,_]) rfl ?_)))))))))))))
 refine wc_skip (we_then (wc_seq ?_))
 obtain ⟨bj_1, hm, hLj_1⟩ := bindO_some hm
 refine wc_cut (σ := (List Int) × (List Int) × Nat × (Option Addr) × Nat × (Option Addr) × Nat) (fun (j_1_8_f0_l, j_1_8_f1_l, j_1_8_g, j_1_8_f0_p, j_1_8_f0_c, j_1_8_f1_p, j_1_8_f1_c) => bj_1 = (j_1_8_f0_l, j_1_8_f1_l)) (fun (j_1_8_f0_l, j_1_8_f1_l, j_1_8_g, j_1_8_f0_p, j_1_8_f0_c, j_1_8_f1_p, j_1_8_f1_c) => [(0, .pointer (some ⟨qg0,0, none⟩)), (1, .string a2), (2, .slice qp2 k4 qc4), (8, .pointer (some ⟨j_1_8_g, 0, none⟩))]) (fun (j_1_8_f0_l, j_1_8_f1_l, j_1_8_g, j_1_8_f0_p, j_1_8_f0_c, j_1_8_f1_p, j_1_8_f1_c) => [.sli 1 R_u8 j_1_8_f0_p j_1_8_f0_c j_1_8_f0_l, .sli 1 R_u8 j_1_8_f1_p j_1_8_f1_c j_1_8_f1_l]) (fun (j_1_8_f0_l, j_1_8_f1_l, j_1_8_g, j_1_8_f0_p, j_1_8_f0_c, j_1_8_f1_p, j_1_8_f1_c) => [.blk qg0 [.int .i64 a0, .map (some qb1)] 45, mapP (keyStr (tStr_run tT_9)) true R_Disk_rowsD qb1 e1, .own 5 1 R_u8 (.slice qp2 qn3 qc4) l3, .blk j_1_8_g [.slice j_1_8_f0_p j_1_8_f0_l.length j_1_8_f0_c, .slice j_1_8_f1_p j_1_8_f1_l.length j_1_8_f1_c] 49]) ?_ ?_
 ·
  refine wc_region (wP rfl (wP rfl (wF rfl tF_45_1 (wD 0 1 rfl tS_43 tA_43 rfl (wP rfl ?_)))))
  rcases optE_some hm with ⟨hq20, hm⟩ | ⟨x20, hq20, hm⟩
  ·
   refine wl_lookNoP (i := a2) 1 rfl rfl rfl (freshS_eq rfl) rfl rfl rfl rfl tZ_49 tM_43 trivial hq20 (v := .agg #[.slice none 0 0, .slice none 0 0]) rfl (wl_alloc rfl rfl rfl (freshS_eq rfl) rfl tZ_49 rfl (fun g8 => (wS 0 0 rfl tS_49 (all' := [_,_]) rfl (H' := [_,_,_,_]) rfl (wl_nil ?_))))
   have hE := (Option.some.inj hm).symm
   refine we_fact (.sli 1 R_u8 none 0 ([] : List Int)) (fun _ _ _ => sli_none) (we_fact (.sli 1 R_u8 none 0 ([] : List Int)) (fun _ _ _ => sli_none) (we_pick [1,2,3,0] rfl (H' := [_,_,_,_]) rfl ?_))
   refine we_join ([],[], g8, none, 0, none, 0) hE [0,1,2,8] rfl (asK [1,0] rfl) rfl
  ·
   refine wl_lookYesP (i := a2) (a := x20) R_Disk_rowsD_opens 1 rfl rfl rfl (freshS_eq rfl) rfl rfl rfl rfl tM_43 trivial hq20 (u := fun r20 => .agg #[.slice r20.1.1 x20.firm.length r20.1.2, .slice r20.2.1 x20.loose.length r20.2.2]) (fun _ => rfl) (v := fun r20 => .agg #[.slice r20.1.1 x20.firm.length r20.1.2, .slice r20.2.1 x20.loose.length r20.2.2]) (fun _ => rfl) (fun r20 _ => (wl_alloc rfl rfl rfl (freshS_eq rfl) rfl tZ_49 rfl (fun g8 => (wS 0 0 rfl tS_49 (all' := [_,_]) rfl (H' := [_,_,_,_]) rfl (wl_nil ?_)))))
   have hE := (Option.some.inj hm).symm
   refine we_pick [1,2,3,0] rfl (H' := [_,_,_,_]) rfl ?_
   refine we_join (x20.firm, x20.loose, g8, r20.1.1, r20.1.2, r20.2.1, r20.2.2) hE [0,1,2,8] rfl (asK [0,1] rfl) rfl
 ·
  rintro ⟨j_1_8_f0_l, j_1_8_f1_l, j_1_8_g, j_1_8_f0_p, j_1_8_f0_c, j_1_8_f1_p, j_1_8_f1_c⟩ hE
  try dsimp only
  have hm := hLj_1
  rw [hE] at hm
  try dsimp only at hm
  refine wc_seq (wc_region (wF rfl tF_49_1 (wD 3 1 rfl tS_22 tA_22 rfl (wP rfl (wl_buildSlice rfl rfl rfl (freshS_eq rfl) rfl tE_37 tS_22 tZ_22 rfl (zs := [.slice none 0 0, .slice none 0 0]) (by kernel_rfl) rfl (out := [_,_]) rfl (fun g24 => (wl_ownLen 3 rfl (fun hzqn3 _ => ?_))))))))
  subst hzqn3
  obtain ⟨hzl2, hm⟩ := gd_some hm
  refine wl_at 1 (v' := .slice qp2 ((l3.take k4).length) qc4) rfl (by rw [take_len hzl2]) (wl_at 6 (v' := .slice qp2 ((l3.take k4).length) qc4) rfl (by rw [take_len hzl2]) (wl_hAs 0 (φ' := .blk g24 [.slice j_1_8_f1_p j_1_8_f1_l.length j_1_8_f1_c, .slice qp2 ((l3.take k4).length) qc4] 22) rfl (by rw [take_len hzl2]) (H' := [_,_,_,_,_]) rfl ?_))
  obtain ⟨v25, hc25, hm⟩ := bindO_some hm
  refine wl_lend [] [0,1,2,3,4] [0,3] rfl rfl rfl (freshS_eq rfl) rfl rfl fn_22 rfl (w_slices_Concat_byte_s N (some ⟨g24,0, none⟩) 2 [j_1_8_f1_l, l3.take k4] _ hc25) (fun F w hφ hh => (ask_cons (blk_sli (hh _ (mem_at (k := 0) rfl)) ⟨[.slice j_1_8_f1_p j_1_8_f1_l.length j_1_8_f1_c],[.slice qp2 ((l3.take k4).length) qc4], rfl, rfl, ⟨(j_1_8_f1_p, j_1_8_f1_c), rfl, ask_cons (hφ _ (mem_at (k := 1) rfl)) ask_nil⟩, ⟨[.slice qp2 ((l3.take k4).length) qc4],[], rfl, rfl, ⟨(qp2, qc4), rfl, ask_cons (sli_take (own_sli (hh _ (mem_at (k := 1) rfl))) k4) ask_nil⟩, rfl⟩⟩ rfl (by decide)) ask_nil)) (fun _ _ _ hR => by obtain ⟨_,_,_, rfl, rfl, rfl⟩ := hR; exact ⟨rfl, (free_cons (own_free mkRep_free) (fun _ h => free_nil h))⟩) rfl rfl (H' := [_,_,_,_,_]) rfl ?_
  rintro _ _ _ ⟨p25_0, c25_1, c25_2, rfl, rfl, rfl⟩
  refine wl_at 2 (v' := .slice qp2 k4 qc4) rfl (by rw [take_len hzl2]) (wl_at 7 (v' := .slice qp2 k4 qc4) rfl (by rw [take_len hzl2]) (wl_hAs 1 (φ' := .blk g24 [.slice j_1_8_f1_p j_1_8_f1_l.length j_1_8_f1_c, .slice qp2 k4 qc4] 22) rfl (by rw [take_len hzl2]) (H' := [_,_,_,_,_,_]) rfl (wF rfl tF_49_1 (wS 5 1 rfl tS_22 (all' := [_,_]) rfl (H' := [_,_,_,_,_,_]) rfl (wl_nil (we_then (wc_keep [0,1,2,8] (S' := [_,_,_,_]) rfl (wc_seq ?_))))))))
  obtain ⟨v29, hc29, hm⟩ := bindO_some hm
  obtain ⟨v31, hc31, hm⟩ := bindO_some hm
  obtain ⟨_, hc33, hm⟩ := bindO_some hm
  try dsimp only at hm
  obtain ⟨v35, hc35, hm⟩ := bindO_some hm
  obtain ⟨v37, hc37, hm⟩ := bindO_some hm
  obtain ⟨hg40, hm⟩ := gd_some hm
  obtain ⟨v46, hc46, hm⟩ := bindO_some hm
  obtain ⟨v48, hc48, hm⟩ := bindO_some hm
  refine wc_draw [0,3,5,7,9,11,12,13,14,15,16,17,18] rfl rfl (fun hok => (xP hok 0 rfl (wx_loadH hok 5 5 0 rfl rfl rfl (freshS_eq rfl) rfl rfl rfl rfl (cs := [_,_]) rfl tS_49 tA_49 rfl rfl (xP hok 9 rfl (xP hok 11 rfl (wx_len hok 12 rfl rfl rfl (freshS_eq rfl) rfl rfl rfl tE_22 (xP hok 14 rfl (xP hok 15 rfl (wx_fieldAddr hok 16 rfl rfl rfl (freshS_eq rfl) rfl rfl rfl tF_45_0 (wx_loadH hok 17 2 0 rfl rfl rfl (freshS_eq rfl) rfl rfl rfl rfl (cs := [_]) rfl tS_3 tA_3 rfl rfl (xS hok 1 rfl (wl_buildSlice rfl rfl rfl (freshS_eq rfl) rfl tE_33 tS_9 tZ_9 rfl (zs := [.string ((⟨#[]⟩ : ByteArray))]) (by kernel_rfl) rfl (out := [_]) rfl (fun g28 => (wl_nil (we_x [0,1] [3,6] rfl rfl ?_)))))))))))))))
  refine xS hok 2 rfl (wl_row (sz := 1) (m := 1) R_str [a2] 0 rfl (fun F w hφ => ⟨[.string a2],[], rfl, rfl, ⟨(), rfl, ask_nil⟩, rfl⟩) rfl (by decide) (H' := [_,_,_,_,_,_,_]) rfl (wl_lend [] [0,1,2,3,4,5,6] [0] rfl rfl rfl (freshS_eq rfl) rfl rfl fn_25 rfl (w_disk_fit_s N (some ⟨g28,0, none⟩) 1 [a2] _ hc29) (fun F w hφ hh => (ask_cons (own_sli (hh _ (mem_at (k := 0) rfl))) ask_nil)) (fun _ _ _ hR => by obtain ⟨rfl, rfl, rfl⟩ := hR; exact ⟨rfl, (fun _ h => free_nil h)⟩) rfl rfl (H' := [_,_,_,_,_,_,_]) rfl ?_))
  rintro _ _ _ ⟨rfl, rfl, rfl⟩
  refine wl_nil (we_x [0,1] [3,6] rfl rfl (xP hok 3 rfl (xS hok 4 rfl (wC [] [0,1,2,3,4,5,6] rfl fn_24 rfl (w_disk_when_s N (!v29) 2 _ hc31) (asK [] rfl) rfl (H' := [_,_,_,_,_,_,_]) rfl ?_))))
  rintro _ _ _ ⟨rfl, rfl, rfl⟩
  refine wl_nil (we_x [0,1] [3,6] rfl rfl (xS hok 6 rfl (wl_ownLen 1 rfl (fun hzc25_2 _ => ?_))))
  subst hzc25_2
  refine wl_lend [] [0,1,2,3,4,5,6] [1] rfl rfl rfl (freshS_eq rfl) rfl rfl fn_26 rfl (w_disk_rows_size_s N j_1_8_f0_p j_1_8_f0_c j_1_8_f0_l p25_0 c25_1 v25 hc33) (fun F w hφ hh => (ask_cons (hφ _ (mem_at (k := 0) rfl)) (ask_cons (own_sli (hh _ (mem_at (k := 0) rfl))) ask_nil))) (fun _ _ _ hR => by obtain ⟨rfl, rfl, rfl⟩ := hR; exact ⟨rfl, (fun _ h => free_nil h)⟩) rfl rfl (H' := [_,_,_,_,_,_,_]) rfl ?_
  rintro _ _ _ ⟨rfl, rfl, rfl⟩
  refine wl_nil (we_x [0,1] [3] rfl rfl (xP hok 7 rfl (wx_as (d := 34) (v' := .bool (decide (4194304 < (j_1_8_f0_l.length + v25.length)))) (S' := [_,_,_,_,_,_,_,_,_,_,_,_,_,_,_,_,_,_]) rfl rfl (natgt (a := j_1_8_f0_l.length + v25.length) (b := 4194304)) (xS hok 8 rfl (wC [] [0,1,2,3,4,5,6] rfl fn_24 rfl (w_disk_when_s N (decide (4194304 < (j_1_8_f0_l.length + v25.length))) 3 _ hc35) (asK [] rfl) rfl (H' := [_,_,_,_,_,_,_]) rfl ?_)))))
  rintro _ _ _ ⟨rfl, rfl, rfl⟩
  refine wl_nil (we_x [0,1] [3,6] rfl rfl (xS hok 10 rfl (wC [3,4] [0,1,2,5,6] rfl fn_19 rfl (w_disk_Disk_Used_s N qg0 a0 qb1 e1 _ hc37) (asK [] rfl) rfl (H' := [_,_,_,_,_]) rfl ?_)))
  rintro _ _ _ ⟨rfl, rfl, rfl⟩
  refine wl_nil (we_x [0,1] [0,6] rfl rfl (xP hok 13 rfl (wx_as (d := 40) (v' := .int .i64 ((v37 + k4 : Nat) : Int)) (S' := [_,_,_,_,_,_,_,_,_,_,_,_,_,_,_,_,_,_,_,_,_]) rfl rfl (nat_add (a := v37) (b := k4) hg40) (xP hok 18 rfl (xS hok 19 rfl (wC [] [0,1,2,3,4,5,6] rfl fn_24 rfl (w_disk_when_s N (decide (((v37 + k4 : Nat) : Int) > a0)) 5 _ hc46) (asK [] rfl) rfl (H' := [_,_,_,_,_,_,_]) rfl ?_))))))
  rintro _ _ _ ⟨rfl, rfl, rfl⟩
  refine wl_nil (we_x [0,1] [0,6] rfl rfl (xS hok 20 rfl (wl_buildSlice rfl rfl rfl (freshS_eq rfl) rfl tE_40 tS_27 tZ_27 rfl (zs := [.int .i64 0, .int .i64 0, .int .i64 0]) (by kernel_rfl) rfl (out := [_,_,_]) rfl (fun g47 => (wl_nil (we_x [0,1] [1,7] rfl rfl (xS hok 21 rfl (wl_row (sz := 1) (m := 3) R_i64 ([v31, v35, v46]) 0 rfl (fun F w hφ => ⟨[.int .i64 v31],[.int .i64 v35, .int .i64 v46], rfl, rfl, ⟨(), rfl, ask_nil⟩, ⟨[.int .i64 v35],[.int .i64 v46], rfl, rfl, ⟨(), rfl, ask_nil⟩, ⟨[.int .i64 v46],[], rfl, rfl, ⟨(), rfl, ask_nil⟩, rfl⟩⟩⟩) rfl (by decide) (H' := [_,_,_,_,_,_,_,_]) rfl (wl_lend [] [0,1,2,3,4,5,6,7] [0] rfl rfl rfl (freshS_eq rfl) rfl rfl fn_23 rfl (w_cmp_Or_Errno_s N (some ⟨g47,0, none⟩) 3 [v31, v35, v46] _ hc48) (fun F w hφ hh => (ask_cons (own_sli (hh _ (mem_at (k := 0) rfl))) ask_nil)) (fun _ _ _ hR => by obtain ⟨rfl, rfl, rfl⟩ := hR; exact ⟨rfl, (fun _ h => free_nil h)⟩) rfl rfl (H' := [_,_,_,_,_,_,_,_]) rfl ?_)))))))))
  rintro _ _ _ ⟨rfl, rfl, rfl⟩
  refine wl_nil (we_x [0,1] [1,7] rfl rfl (xS hok 22 rfl (wP rfl (wl_nil (we_x [0,1] [] rfl rfl (wx_done hok rfl (we_then (wc_keep [9,0,1,8] (S' := [_,_,_,_]) rfl (wc_seq ?_)))))))))
  obtain ⟨bj_2, hm, hLj_2⟩ := bindO_some hm
  refine wc_cut (σ := List (ByteArray × Disk_rowsD)) (fun j_2_r0_f1_m => bj_2 = j_2_r0_f1_m) (fun j_2_r0_f1_m => [(9, .int .i64 v48)]) (fun j_2_r0_f1_m => []) (fun j_2_r0_f1_m => [.blk qg0 [.int .i64 a0, .map (some qb1)] 45, mapP (keyStr (tStr_run tT_9)) true R_Disk_rowsD qb1 j_2_r0_f1_m, .own 5 1 R_u8 (.slice qp2 l3.length qc4) l3]) ?_ ?_
  ·
   refine wc_seq (wc_region (wP rfl (wP rfl (wl_nil (we_then (wc_keep [50,9,0,1,8] (S' := [_,_,_,_,_]) rfl ?_))))))
   refine wc_cond rfl (fun hb50 => ?_) (fun hb50 => ?_)
   ·
    replace hm := iteT hm hb50
    refine wc_keep [9,0,1,8] (S' := [_,_,_,_]) rfl (wc_draw [0,1,2,3,4,5] rfl rfl (fun hok => (xP hok 0 rfl (xP hok 1 rfl (wx_fieldAddr hok 2 rfl rfl rfl (freshS_eq rfl) rfl rfl rfl tF_45_1 (wx_loadH hok 3 1 1 rfl rfl rfl (freshS_eq rfl) rfl rfl rfl rfl (cs := [_]) rfl tS_43 tA_43 rfl rfl (xP hok 4 rfl (wx_loadH hok 5 7 0 rfl rfl rfl (freshS_eq rfl) rfl rfl rfl rfl (cs := [_,_]) rfl tS_49 tA_49 rfl rfl (xS hok 6 rfl (wl_freeze 4 rfl (H' := [_,_,_,_,_,_,_]) rfl (wl_fact (.sli 1 R_u8 p25_0 c25_1 v25) (fun F w hφ => own_sli (hφ _ (mem_at (k := 0) rfl))) (wl_mapPutP (i := a2) (u := (⟨j_1_8_f0_l, v25⟩ : Disk_rowsD)) (cs := [.slice j_1_8_f0_p j_1_8_f0_l.length j_1_8_f0_c, .slice p25_0 v25.length c25_1]) ltB 2 rfl rfl (.inl rfl) rfl rfl rfl rfl tM_43 trivial rfl (fun F w hφ => ⟨((j_1_8_f0_p, j_1_8_f0_c), (p25_0, c25_1)), rfl, (ask_cons (hφ _ (mem_at (k := 2) rfl)) (ask_cons (hφ _ (mem_at (k := 0) rfl)) ask_nil))⟩) (H' := [.own 27 1 R_i64 (.slice (some ⟨g47,0, none⟩) ([v31, v35, v46].length) 3) ([v31, v35, v46]), .blk qg0 [.int .i64 a0, .map (some qb1)] 45, mapP (keyStr (tStr_run tT_9)) true R_Disk_rowsD qb1 (mputP ltB a2 (⟨j_1_8_f0_l, v25⟩ : Disk_rowsD) e1), .own 9 1 R_str (.slice (some ⟨g28,0, none⟩) [a2].length 1) [a2], .blk g24 [.slice j_1_8_f1_p j_1_8_f1_l.length j_1_8_f1_c, .slice qp2 k4 qc4] 22, .own 5 1 R_u8 (.slice qp2 l3.length qc4) l3, .blk j_1_8_g [.slice j_1_8_f0_p j_1_8_f0_l.length j_1_8_f0_c, .slice p25_0 v25.length c25_1] 49]) rfl (wl_nil (we_x [2,3] [] rfl rfl ?_))))))))))))))
    refine wx_done hok rfl ?_
    have hE := (Option.some.inj hm).symm
    refine we_pick [1,2,5] rfl (H' := [_,_,_]) rfl ?_
    refine we_join (mputP ltB a2 (⟨j_1_8_f0_l, v25⟩ : Disk_rowsD) e1) hE [9] rfl (asK [] rfl) rfl
   ·
    replace hm := iteF hm hb50
    refine wc_keep [9] (S' := [_]) rfl (wc_skip ?_)
    have hE := (Option.some.inj hm).symm
    refine we_pick [1,2,6] rfl (H' := [_,_,_]) rfl ?_
    refine we_join e1 hE [9] rfl (asK [] rfl) rfl
  ·
   rintro j_2_r0_f1_m hE
   try dsimp only
   have hm := hLj_2
   rw [hE] at hm
   refine wc_seq (wc_region (wP rfl (wP rfl (wl_nil (we_then (wc_keep [6] (S' := [_]) rfl (wc_ret ?_)))))))
   have hE := (Option.some.inj hm).symm
   obtain ⟨hE0, hE1⟩ := Prod.mk.inj hE
   clear hE
   replace hE0 := hE0.symm
   subst hE0
   replace hE1 := hE1.symm
   subst hE1
   refine ret_one (Hr := [_,_,_]) [0,1,2] Tryz.results7 (res_tmp rfl) ⟨rfl, rfl, rfl⟩ (asK [] rfl) rfl rfl (.inl rfl)
end Go.Proofs.YtkakbckmajdggaaGreat
