/- Walks, printed by a program out of the loaded code. -/
import Derived.Test.YtkakbckmajdggaaXW3
namespace Go.Proofs.Ytkakbckmajdggaa
open Go.RowKit
set_option maxRecDepth 100000 in
set_option maxHeartbeats 4000000 in
theorem w_ropewalklaw17_DiskCrashes_s (N : Nat) (qp0 : Option Addr) (qc1 : Nat) (l0 : List (List Int)) (qp2 : Option Addr) (qc3 : Nat) (l1 : List (List Int)) (a2 : Int) (a3 : Int) (o0 : Bool) (hm : m_ropewalklaw17_DiskCrashes N l0 l1 a2 a3 = some o0) : Spec Try.prog 3 [.slice qp0 l0.length qc1, .slice qp2 l1.length qc3, .int .i64 a2, .int .i64 a3] [.sli 1 R_l_u8 qp0 qc1 l0, .sli 1 R_l_u8 qp2 qc3 l1] [] (fun v Φr Hr => v = .bool o0 ∧ Φr = [] ∧ Hr = []) := by
 unfold m_ropewalklaw17_DiskCrashes at hm
 refine spec_of Try.func3 rfl Try.ntmps3 rfl (S := [_,_,_,_]) rfl (fun C => ?_)
 refine wc_seq ?_
 refine wc_region ?_
 refine wl_pure rfl rfl rfl (freshS_eq rfl) rfl ?_
 refine wl_nil ?_
 refine we_then ?_
 refine wc_keep [0, 1, 2, 3] (S' := [_,_,_,_]) rfl ?_
 refine wc_seq ?_
 refine wc_seq ?_
 refine wc_region ?_
 obtain ⟨v19, hc19, hm⟩ := bindO_some hm
 refine wl_call [] [] rfl rfl rfl (freshS_eq rfl) rfl rfl fn_9 rfl (w_ropewalklaw17_awake_s N _ hc19) (fun _ _ hφ => ask [] rfl hφ) rfl (H' := []) rfl ?_
 rintro _ _ _ ⟨rfl, rfl, rfl⟩
 refine wl_pure rfl rfl rfl (freshS_eq rfl) rfl ?_
 refine wl_nil ?_
 refine we_then ?_
 refine wc_keep [20, 0, 1, 2, 3] (S' := [_,_,_,_,_]) rfl ?_
 refine wc_cond rfl (fun hb20 => ?_) (fun hb20 => ?_)
 ·
  replace hm := iteT hm hb20
  refine wc_keep [] (S' := []) rfl ?_
  refine wc_seq ?_
  refine wc_region ?_
  refine wl_pure rfl rfl rfl (freshS_eq rfl) rfl ?_
  refine wl_nil ?_
  refine we_then ?_
  refine wc_ret ?_
  refine we_then_ret ?_
  have hE := (Option.some.inj hm).symm
  replace hE := hE.symm
  subst hE
  refine ret_one (Hr := []) [] Try.results3 (res_tmp rfl) ⟨rfl, rfl, rfl⟩ (fun _ _ hφ => ask [] rfl hφ) rfl rfl (.inl rfl)
 ·
  replace hm := iteF hm hb20
  refine wc_keep [0, 1, 2, 3] (S' := [_,_,_,_]) rfl ?_
  refine wc_skip ?_
  refine we_then ?_
  refine wc_seq ?_
  refine wc_seq ?_
  obtain ⟨bj_1, hm, hLj_1⟩ := bindO_some hm
  refine wc_cut (σ := Bool) (fun j_1_28 => bj_1 = j_1_28) (fun j_1_28 => [(0, .slice qp0 l0.length qc1), (1, .slice qp2 l1.length qc3), (2, .int .i64 a2), (3, .int .i64 a3), (28, .bool j_1_28)]) (fun j_1_28 => [.sli 1 R_l_u8 qp0 qc1 l0, .sli 1 R_l_u8 qp2 qc3 l1]) (fun j_1_28 => []) ?_ ?_
  ·
   refine wc_region ?_
   refine wl_pure rfl rfl rfl (freshS_eq rfl) rfl ?_
   refine wl_len rfl rfl rfl (freshS_eq rfl) rfl rfl tE_22 ?_
   refine wl_pure rfl rfl rfl (freshS_eq rfl) rfl ?_
   refine wl_as (d := 23) (v' := .bool (decide (20 < l0.length))) (S' := [_,_,_,_,_,_]) rfl rfl (natgt (a := l0.length) (b := 20)) ?_
   refine wl_pure rfl rfl rfl (freshS_eq rfl) rfl ?_
   refine wl_split (d := 24) (S' := [_,_,_,_,_,_,_]) rfl rfl (fun hs24 => ?_) (fun hs24 => ?_)
   ·
    replace hm := iteT hm hs24
    refine wl_off rfl rfl rfl (freshS_eq rfl) ?_
    refine wl_off rfl rfl rfl (freshS_eq rfl) ?_
    refine wl_off rfl rfl rfl (freshS_eq rfl) ?_
    refine wl_pure rfl rfl rfl (freshS_eq rfl) rfl ?_
    refine wl_nil ?_
    have hE := (Option.some.inj hm).symm
    refine we_join true hE [0, 1, 2, 3, 28] rfl (fun _ _ hφ => ask [0, 1] rfl hφ) rfl
   ·
    replace hm := iteF hm hs24
    refine wl_pure rfl rfl rfl (freshS_eq rfl) rfl ?_
    refine wl_len rfl rfl rfl (freshS_eq rfl) rfl rfl tE_22 ?_
    refine wl_pure rfl rfl rfl (freshS_eq rfl) rfl ?_
    refine wl_as (d := 27) (v' := .bool (decide (20 < l1.length))) (S' := [_,_,_,_,_,_,_,_,_,_]) rfl rfl (natgt (a := l1.length) (b := 20)) ?_
    refine wl_pure rfl rfl rfl (freshS_eq rfl) rfl ?_
    refine wl_nil ?_
    have hE := (Option.some.inj hm).symm
    refine we_join (decide (20 < l1.length)) hE [0, 1, 2, 3, 28] rfl (fun _ _ hφ => ask [0, 1] rfl hφ) rfl
  ·
   rintro j_1_28 hE
   try dsimp only
   have hm := hLj_1
   rw [hE] at hm
   refine wc_cond rfl (fun hb28 => ?_) (fun hb28 => ?_)
   ·
    replace hm := iteT hm hb28
    refine wc_keep [] (S' := []) rfl ?_
    refine wc_seq ?_
    refine wc_region ?_
    refine wl_pure rfl rfl rfl (freshS_eq rfl) rfl ?_
    refine wl_nil ?_
    refine we_then ?_
    refine wc_ret ?_
    refine we_then_ret ?_
    have hE := (Option.some.inj hm).symm
    replace hE := hE.symm
    subst hE
    refine ret_one (Hr := []) [] Try.results3 (res_tmp rfl) ⟨rfl, rfl, rfl⟩ (fun _ _ hφ => ask [] rfl hφ) rfl rfl (.inl rfl)
   ·
    replace hm := iteF hm hb28
    refine wc_keep [0, 1, 2, 3] (S' := [_,_,_,_]) rfl ?_
    refine wc_skip ?_
    refine we_then ?_
    refine wc_seq ?_
    refine wc_region ?_
    obtain ⟨_, hc29, hm⟩ := bindO_some hm
    try dsimp only at hm
    refine wl_call [] [] rfl rfl rfl (freshS_eq rfl) rfl rfl fn_10 rfl (w_disk_New_s N 1073741824 hc29) (fun _ _ hφ => ask [] rfl hφ) rfl (H' := []) rfl ?_
    rintro _ _ _ ⟨c29_0, c29_1, rfl, rfl, rfl⟩
    refine wl_pure rfl rfl rfl (freshS_eq rfl) rfl ?_
    refine wl_nil ?_
    refine we_then ?_
    refine wc_keep [9, 0, 1, 2, 3] (S' := [_,_,_,_,_]) rfl ?_
    refine wc_seq ?_
    refine wc_region ?_
    refine wl_pure rfl rfl rfl (freshS_eq rfl) rfl ?_
    refine wl_nil ?_
    refine we_then ?_
    refine wc_seq ?_
    obtain ⟨bj_2, hm, hLj_2⟩ := bindS_some hm
    refine wc_cut (σ := (List (ByteArray × Disk_rowsD)) × (List ByteArray) × (Option Addr) × Nat × Nat) (fun (j_2_9_f1_m, j_2_10_l, j_2_10_p, j_2_10_c, j_2_10_n) => bj_2 = .inl (j_2_9_f1_m, j_2_10_l)) (fun (j_2_9_f1_m, j_2_10_l, j_2_10_p, j_2_10_c, j_2_10_n) => [(9, .pointer (some ⟨c29_0, 0, none⟩)), (0, .slice qp0 l0.length qc1), (1, .slice qp2 l1.length qc3), (2, .int .i64 a2), (3, .int .i64 a3), (10, .slice j_2_10_p j_2_10_n j_2_10_c)]) (fun (j_2_9_f1_m, j_2_10_l, j_2_10_p, j_2_10_c, j_2_10_n) => [.sli 1 R_l_u8 qp0 qc1 l0, .sli 1 R_l_u8 qp2 qc3 l1]) (fun (j_2_9_f1_m, j_2_10_l, j_2_10_p, j_2_10_c, j_2_10_n) => [.blk c29_0 [.int .i64 (maxI 1073741824 0), .map (some c29_1)] 59, mapP (keyStr (tStr_run tT_9)) true R_Disk_rowsD c29_1 j_2_9_f1_m, .own 9 1 R_str (.slice j_2_10_p j_2_10_n j_2_10_c) j_2_10_l]) ?_ ?_
    ·
     refine wc_seq ?_
     refine wc_region ?_
     refine wl_pure rfl rfl rfl (freshS_eq rfl) rfl ?_
     refine wl_nil ?_
     refine we_then ?_
     refine wc_block ?_
     refine wc_rowNil 9 1 R_str ?_
     refine wc_loop (σ := Nat × Nat × (List ByteArray) × (List (ByteArray × Disk_rowsD)) × (Option Addr) × Nat × Nat) (fun (nu1, u1_11, u1_10_l, u1_9_f1_m, u1_10_p, u1_10_c, u1_10_n) => iter (m_ropewalklaw17_DiskCrashes_L1 N l0) nu1 (u1_11, u1_10_l, u1_9_f1_m) = some bj_2) (fun (nu1, u1_11, u1_10_l, u1_9_f1_m, u1_10_p, u1_10_c, u1_10_n) => nu1) (fun (nu1, u1_11, u1_10_l, u1_9_f1_m, u1_10_p, u1_10_c, u1_10_n) => [(11, .int .i64 ((u1_11 : Nat) : Int)), (10, .slice u1_10_p u1_10_n u1_10_c), (9, .pointer (some ⟨c29_0, 0, none⟩)), (0, .slice qp0 l0.length qc1), (1, .slice qp2 l1.length qc3), (2, .int .i64 a2), (3, .int .i64 a3)]) (fun (nu1, u1_11, u1_10_l, u1_9_f1_m, u1_10_p, u1_10_c, u1_10_n) => [.sli 1 R_l_u8 qp0 qc1 l0, .sli 1 R_l_u8 qp2 qc3 l1]) (fun (nu1, u1_11, u1_10_l, u1_9_f1_m, u1_10_p, u1_10_c, u1_10_n) => [.own 9 1 R_str (.slice u1_10_p u1_10_n u1_10_c) u1_10_l, .blk c29_0 [.int .i64 (maxI 1073741824 0), .map (some c29_1)] 59, mapP (keyStr (tStr_run tT_9)) true R_Disk_rowsD c29_1 u1_9_f1_m]) (N, 0, [], ([] : List (ByteArray × Disk_rowsD)), none, 0, 0) hm [11, 10, 9, 0, 1, 2, 3] rfl (fun _ _ hφ => ask [0, 1] rfl hφ) rfl (fun s_ hm => ?_)
     obtain ⟨nu1, u1_11, u1_10_l, u1_9_f1_m, u1_10_p, u1_10_c, u1_10_n⟩ := s_
     try dsimp only at hm ⊢
     obtain ⟨mu1, bu1, hnu1, hq, hLu1⟩ := iter_some hm
     clear hm
     subst hnu1
     replace hm := hq
     clear hq
     unfold m_ropewalklaw17_DiskCrashes_L1 at hm
     try dsimp only at hm
     refine wc_seq ?_
     refine wc_seq ?_
     refine wc_region ?_
     refine wl_pure rfl rfl rfl (freshS_eq rfl) rfl ?_
     refine wl_pure rfl rfl rfl (freshS_eq rfl) rfl ?_
     refine wl_len rfl rfl rfl (freshS_eq rfl) rfl rfl tE_22 ?_
     refine wl_pure rfl rfl rfl (freshS_eq rfl) rfl ?_
     refine wl_as (d := 33) (v' := .bool (decide (u1_11 < l0.length))) (S' := [_,_,_,_,_,_,_,_,_,_]) rfl rfl (natlt (a := u1_11) (b := l0.length)) ?_
     refine wl_nil ?_
     refine we_then ?_
     refine wc_keep [33, 11, 10, 9, 0, 1, 2, 3] (S' := [_,_,_,_,_,_,_,_]) rfl ?_
     refine wc_cond rfl (fun hb33 => ?_) (fun hb33 => ?_)
     ·
      replace hm := iteT hm hb33
      refine wc_keep [11, 10, 9, 0, 1, 2, 3] (S' := [_,_,_,_,_,_,_]) rfl ?_
      refine wc_skip ?_
      refine we_then ?_
      refine wc_seq ?_
      refine wc_block ?_
      refine wc_seq ?_
      refine wc_seq ?_
      refine wc_region ?_
      refine wl_pure rfl rfl rfl (freshS_eq rfl) rfl ?_
      refine wl_pure rfl rfl rfl (freshS_eq rfl) rfl ?_
      obtain ⟨x38, hx38, hm⟩ := bindO_some hm
      refine wl_indexA 0 u1_11 rfl rfl rfl (freshS_eq rfl) rfl rfl rfl rfl rfl hx38 tE_22 tS_27 (fun b38 q38 cs38 hlx38 => ?_)
      refine wl_open R_l_u8_opens 1 rfl (fun r38 er38 _ => ?_)
      subst er38
      refine wl_load 1 0 rfl rfl rfl (freshS_eq rfl) rfl rfl rfl (cs := [_]) rfl tS_27 tA_27 rfl rfl ?_
      refine wl_len rfl rfl rfl (freshS_eq rfl) rfl rfl tE_27 ?_
      refine wl_pure rfl rfl rfl (freshS_eq rfl) rfl ?_
      refine wl_as (d := 41) (v' := .bool (decide (2000 < x38.length))) (S' := [_,_,_,_,_,_,_,_,_,_,_,_]) rfl rfl (natgt (a := x38.length) (b := 2000)) ?_
      refine wl_nil ?_
      refine we_then ?_
      refine wc_keep [41, 11, 10, 9, 0, 1, 2, 3] (S' := [_,_,_,_,_,_,_,_]) rfl ?_
      refine wc_cond rfl (fun hb41 => ?_) (fun hb41 => ?_)
      ·
       replace hm := iteT hm hb41
       refine wc_keep [] (S' := []) rfl ?_
       refine wc_seq ?_
       refine wc_region ?_
       refine wl_pure rfl rfl rfl (freshS_eq rfl) rfl ?_
       refine wl_nil ?_
       refine we_then ?_
       refine wc_ret ?_
       refine we_then_ret ?_
       refine we_block_ret ?_
       refine we_then_ret ?_
       refine we_then_ret ?_
       refine we_block_ret ?_
       refine we_then_ret ?_
       have hE := (Option.some.inj hm).symm
       replace hE := link_inr hLu1 hE
       replace hE := link_inr hLj_2 hE
       replace hE := hE.symm
       subst hE
       refine ret_one (Hr := []) [] Try.results3 (res_tmp rfl) ⟨rfl, rfl, rfl⟩ (fun _ _ hφ => ask [] rfl hφ) rfl rfl (.inl rfl)
      ·
       replace hm := iteF hm hb41
       refine wc_keep [11, 10, 9, 0, 1, 2, 3] (S' := [_,_,_,_,_,_,_]) rfl ?_
       refine wc_skip ?_
       refine we_then ?_
       refine wc_seq ?_
       refine wc_region ?_
       refine wl_pure rfl rfl rfl (freshS_eq rfl) rfl ?_
       refine wl_pure rfl rfl rfl (freshS_eq rfl) rfl ?_
       obtain ⟨hg43, hm⟩ := gd_some hm
       refine wl_as (d := 43) (v' := .int .i64 ((97 + u1_11 : Nat) : Int)) (S' := [_,_,_,_,_,_,_,_]) rfl rfl (nat_add (a := 97) (b := u1_11) hg43) ?_
       refine wl_reck rfl rfl rfl (freshS_eq rfl) (rk_conv rfl rfl tI_3 tI_5) ?_
       refine wl_buildSlice rfl rfl rfl (freshS_eq rfl) rfl tE_27 tS_5 tZ_5 rfl (zs := [.int .u8 0, .int .u8 0]) (by kernel_rfl) rfl (out := [_,_]) rfl (fun g45 => ?_)
       refine wl_row (sz := 1) (m := 2) R_u8 ([102, (IntKind.wrap .u8 ((97 + u1_11 : Nat) : Int))]) 0 rfl (fun F w hφ => ⟨[.int .u8 102], [.int .u8 (IntKind.wrap .u8 ((97 + u1_11 : Nat) : Int))], rfl, rfl, ⟨(), rfl, ask_nil⟩, ⟨[.int .u8 (IntKind.wrap .u8 ((97 + u1_11 : Nat) : Int))], [], rfl, rfl, ⟨(), rfl, ask_nil⟩, rfl⟩⟩) rfl (by decide) (H' := [_,_,_,_]) rfl ?_
       refine wl_freeze 0 rfl (H' := [_,_,_]) rfl ?_
       refine wl_fact (.sli 1 R_u8 (some ⟨g45, 0, none⟩) 2 ([102, (IntKind.wrap .u8 ((97 + u1_11 : Nat) : Int))])) (fun F w hφ => own_sli (hφ _ (mem_at (k := 0) rfl))) ?_
       refine wl_bytesStr 0 rfl rfl rfl (freshS_eq rfl) rfl rfl rfl tD_27 tD_5 tD_9 (fun _ _ _ _ h => by obtain ⟨_, h, _⟩ := h; exact h) ?_
       refine wl_pure rfl rfl rfl (freshS_eq rfl) rfl ?_
       refine wl_nil ?_
       refine we_then ?_
       refine wc_keep [12, 11, 10, 9, 0, 1, 2, 3] (S' := [_,_,_,_,_,_,_,_]) rfl ?_
       refine wc_seq ?_
       refine wc_region ?_
       refine wl_pure rfl rfl rfl (freshS_eq rfl) rfl ?_
       refine wl_pure rfl rfl rfl (freshS_eq rfl) rfl ?_
       refine wl_buildSlice rfl rfl rfl (freshS_eq rfl) rfl tE_26 tS_9 tZ_9 rfl (zs := [.string ((⟨#[]⟩ : ByteArray))]) (by kernel_rfl) rfl (out := [_]) rfl (fun g49 => ?_)
       obtain ⟨hg50, hm⟩ := gd_some hm
       refine wl_appendH ([(strOfNums [102, (IntKind.wrap .u8 ((97 + u1_11 : Nat) : Int))])]) 1 0 rfl rfl rfl (freshS_eq rfl) rfl rfl rfl rfl rfl (fun F w hφ => ⟨[.string (strOfNums [102, (IntKind.wrap .u8 ((97 + u1_11 : Nat) : Int))])], [], rfl, rfl, ⟨(), rfl, ask_nil⟩, rfl⟩) tE_26 tR_9 rfl rfl (Nat.le_trans hg50 (by decide)) (Nat.le_trans (Nat.mul_le_mul_right _ hg50) (by decide)) (H2 := fun p50 c50 => [.blk g49 [.string (strOfNums [102, (IntKind.wrap .u8 ((97 + u1_11 : Nat) : Int))])] 9, .own 9 1 R_str (.slice p50 ((u1_10_l ++ ([(strOfNums [102, (IntKind.wrap .u8 ((97 + u1_11 : Nat) : Int))])])).length) c50) (u1_10_l ++ ([(strOfNums [102, (IntKind.wrap .u8 ((97 + u1_11 : Nat) : Int))])])), .blk c29_0 [.int .i64 (maxI 1073741824 0), .map (some c29_1)] 59, mapP (keyStr (tStr_run tT_9)) true R_Disk_rowsD c29_1 u1_9_f1_m]) (fun _ _ => rfl) (fun p50 c50 => ?_)
       refine wl_drop 0 rfl (H' := [_,_,_]) rfl ?_
       refine wl_pure (S' := [_,_,_,_,_,_,_,_,_,_,_]) rfl rfl rfl rfl rfl ?_
       refine wl_nil ?_
       refine we_then ?_
       refine wc_keep [10, 12, 11, 9, 0, 1, 2, 3] (S' := [_,_,_,_,_,_,_,_]) rfl ?_
       refine wc_seq ?_
       obtain ⟨bj_3, hm, hLj_3⟩ := bindO_some hm
       refine wc_cut (σ := (List (ByteArray × Disk_rowsD)) × Bool) (fun (j_3_9_f1_m, j_3_64) => bj_3 = (j_3_9_f1_m, j_3_64)) (fun (j_3_9_f1_m, j_3_64) => [(10, .slice p50 ((u1_10_l ++ ([(strOfNums [102, (IntKind.wrap .u8 ((97 + u1_11 : Nat) : Int))])])).length) c50), (11, .int .i64 ((u1_11 : Nat) : Int)), (9, .pointer (some ⟨c29_0, 0, none⟩)), (0, .slice qp0 l0.length qc1), (1, .slice qp2 l1.length qc3), (2, .int .i64 a2), (3, .int .i64 a3), (64, .bool j_3_64)]) (fun (j_3_9_f1_m, j_3_64) => [.sli 1 R_l_u8 qp0 qc1 l0, .sli 1 R_l_u8 qp2 qc3 l1]) (fun (j_3_9_f1_m, j_3_64) => [.own 9 1 R_str (.slice p50 ((u1_10_l ++ ([(strOfNums [102, (IntKind.wrap .u8 ((97 + u1_11 : Nat) : Int))])])).length) c50) (u1_10_l ++ ([(strOfNums [102, (IntKind.wrap .u8 ((97 + u1_11 : Nat) : Int))])])), .blk c29_0 [.int .i64 (maxI 1073741824 0), .map (some c29_1)] 59, mapP (keyStr (tStr_run tT_9)) true R_Disk_rowsD c29_1 j_3_9_f1_m]) ?_ ?_
       ·
        refine wc_region ?_
        refine wl_pure rfl rfl rfl (freshS_eq rfl) rfl ?_
        refine wl_pure rfl rfl rfl (freshS_eq rfl) rfl ?_
        refine wl_pure rfl rfl rfl (freshS_eq rfl) rfl ?_
        refine wl_pure rfl rfl rfl (freshS_eq rfl) rfl ?_
        obtain ⟨x55, hx55, hm⟩ := bindO_some hm
        refine wl_indexA 5 u1_11 rfl rfl rfl (freshS_eq rfl) rfl rfl rfl rfl rfl hx55 tE_22 tS_27 (fun b55 q55 cs55 hlx55 => ?_)
        refine wl_open R_l_u8_opens 1 rfl (fun r55 er55 _ => ?_)
        subst er55
        refine wl_load 1 0 rfl rfl rfl (freshS_eq rfl) rfl rfl rfl (cs := [_]) rfl tS_27 tA_27 rfl rfl ?_
        obtain ⟨⟨v57_0, v57_1⟩, hc57, hm⟩ := bindO_some hm
        try dsimp only at hm
        refine wl_call [1, 2] [0] rfl rfl rfl (freshS_eq rfl) rfl rfl fn_11 rfl (w_disk_Disk_Append_s N c29_0 (maxI 1073741824 0) c29_1 u1_9_f1_m (strOfNums [102, (IntKind.wrap .u8 ((97 + u1_11 : Nat) : Int))]) r55.1 r55.2 x55 _ _ hc57) (fun _ _ hφ => ask [0] rfl hφ) rfl (H' := [_]) rfl ?_
        rintro _ _ _ ⟨rfl, rfl, rfl⟩
        refine wl_pure rfl rfl rfl (freshS_eq rfl) rfl ?_
        refine wl_pure rfl rfl rfl (freshS_eq rfl) rfl ?_
        refine wl_split (d := 59) (S' := [_,_,_,_,_,_,_,_,_,_,_,_,_,_,_,_]) rfl rfl (fun hs59 => ?_) (fun hs59 => ?_)
        ·
         replace hm := iteT hm hs59
         refine wl_off rfl rfl rfl (freshS_eq rfl) ?_
         refine wl_off rfl rfl rfl (freshS_eq rfl) ?_
         refine wl_off rfl rfl rfl (freshS_eq rfl) ?_
         refine wl_off rfl rfl rfl (freshS_eq rfl) ?_
         refine wl_pure rfl rfl rfl (freshS_eq rfl) rfl ?_
         refine wl_nil ?_
         have hE := (Option.some.inj hm).symm
         refine we_pick [2, 0, 1] rfl (H' := [_,_,_]) rfl ?_
         refine we_join (v57_1, true) hE [10, 11, 9, 0, 1, 2, 3, 64] rfl (fun _ _ hφ => ask [8, 9] rfl hφ) rfl
        ·
         replace hm := iteF hm hs59
         refine wl_pure rfl rfl rfl (freshS_eq rfl) rfl ?_
         refine wl_pure rfl rfl rfl (freshS_eq rfl) rfl ?_
         obtain ⟨⟨v62_0, v62_1⟩, hc62, hm⟩ := bindO_some hm
         try dsimp only at hm
         refine wl_call [0, 1] [2] rfl rfl rfl (freshS_eq rfl) rfl rfl fn_12 rfl (w_disk_Disk_Sync_s N c29_0 (maxI 1073741824 0) c29_1 v57_1 (strOfNums [102, (IntKind.wrap .u8 ((97 + u1_11 : Nat) : Int))]) _ _ hc62) (fun _ _ hφ => ask [] rfl hφ) rfl (H' := [_]) rfl ?_
         rintro _ _ _ ⟨rfl, rfl, rfl⟩
         refine wl_pure rfl rfl rfl (freshS_eq rfl) rfl ?_
         refine wl_as (d := 63) (v' := .bool (v62_0 != 0)) (S' := [_,_,_,_,_,_,_,_,_,_,_,_,_,_,_,_,_,_,_,_]) rfl rfl (natne (a := v62_0) (b := 0)) ?_
         refine wl_pure rfl rfl rfl (freshS_eq rfl) rfl ?_
         refine wl_nil ?_
         have hE := (Option.some.inj hm).symm
         refine we_pick [2, 0, 1] rfl (H' := [_,_,_]) rfl ?_
         refine we_join (v62_1, v62_0 != 0) hE [10, 11, 9, 0, 1, 2, 3, 64] rfl (fun _ _ hφ => ask [8, 9] rfl hφ) rfl
       ·
        rintro ⟨j_3_9_f1_m, j_3_64⟩ hE
        try dsimp only
        have hm := hLj_3
        rw [hE] at hm
        try dsimp only at hm
        refine wc_cond rfl (fun hb64 => ?_) (fun hb64 => ?_)
        ·
         replace hm := iteT hm hb64
         refine wc_keep [] (S' := []) rfl ?_
         refine wc_seq ?_
         refine wc_region ?_
         refine wl_pure rfl rfl rfl (freshS_eq rfl) rfl ?_
         refine wl_nil ?_
         refine we_then ?_
         refine wc_ret ?_
         refine we_block_ret ?_
         refine we_then_ret ?_
         refine we_then_ret ?_
         refine we_block_ret ?_
         refine we_then_ret ?_
         have hE := (Option.some.inj hm).symm
         replace hE := link_inr hLu1 hE
         replace hE := link_inr hLj_2 hE
         replace hE := hE.symm
         subst hE
         refine ret_one (Hr := []) [] Try.results3 (res_tmp rfl) ⟨rfl, rfl, rfl⟩ (fun _ _ hφ => ask [] rfl hφ) rfl rfl (.inl rfl)
        ·
         replace hm := iteF hm hb64
         refine wc_keep [10, 11, 9, 0, 1, 2, 3] (S' := [_,_,_,_,_,_,_]) rfl ?_
         refine wc_skip ?_
         refine we_block_normal ?_
         refine we_then ?_
         refine wc_region ?_
         refine wl_pure rfl rfl rfl (freshS_eq rfl) rfl ?_
         refine wl_pure rfl rfl rfl (freshS_eq rfl) rfl ?_
         obtain ⟨hg35, hm⟩ := gd_some hm
         refine wl_as (d := 35) (v' := .int .i64 ((u1_11 + 1 : Nat) : Int)) (S' := [_,_,_,_,_,_,_,_]) rfl rfl (nat_add (a := u1_11) (b := 1) hg35) ?_
         refine wl_pure (S' := [_,_,_,_,_,_,_,_]) rfl rfl rfl rfl rfl ?_
         refine wl_nil ?_
         have hE := (Option.some.inj hm).symm
         replace hE := link_inl hLu1 hE
         refine we_roundK (_, u1_11 + 1, (u1_10_l ++ ([(strOfNums [102, (IntKind.wrap .u8 ((97 + u1_11 : Nat) : Int))])])), j_3_9_f1_m, p50, c50, ((u1_10_l ++ ([(strOfNums [102, (IntKind.wrap .u8 ((97 + u1_11 : Nat) : Int))])])).length)) (Nat.lt_succ_self _) hE [11, 10, 9, 0, 1, 2, 3] rfl (fun _ _ hφ => ask [0, 1] rfl hφ) rfl
     ·
      replace hm := iteF hm hb33
      refine wc_keep [10, 9, 0, 1, 2, 3] (S' := [_,_,_,_,_,_]) rfl ?_
      refine wc_exit ?_
      refine we_then_exit ?_
      refine we_then_exit ?_
      refine we_block_hit ?_
      have hE := (Option.some.inj hm).symm
      replace hE := link_inr hLu1 hE
      refine we_pick [1, 2, 0] rfl (H' := [_,_,_]) rfl ?_
      refine we_join (u1_9_f1_m, u1_10_l, u1_10_p, u1_10_c, u1_10_n) hE [9, 0, 1, 2, 3, 10] rfl (fun _ _ hφ => ask [0, 1] rfl hφ) rfl
    ·
     rintro ⟨j_2_9_f1_m, j_2_10_l, j_2_10_p, j_2_10_c, j_2_10_n⟩ hE
     try dsimp only
     have hm := link_inl hLj_2 hE
     try dsimp only at hm
     refine wc_seq ?_
     obtain ⟨bj_4, hm, hLj_4⟩ := bindS_some hm
     refine wc_cut (σ := List (ByteArray × Disk_rowsD)) (fun j_4_9_f1_m => bj_4 = .inl j_4_9_f1_m) (fun j_4_9_f1_m => [(9, .pointer (some ⟨c29_0, 0, none⟩)), (0, .slice qp0 l0.length qc1), (1, .slice qp2 l1.length qc3), (2, .int .i64 a2), (3, .int .i64 a3), (10, .slice j_2_10_p j_2_10_n j_2_10_c)]) (fun j_4_9_f1_m => [.sli 1 R_l_u8 qp0 qc1 l0, .sli 1 R_l_u8 qp2 qc3 l1]) (fun j_4_9_f1_m => [.blk c29_0 [.int .i64 (maxI 1073741824 0), .map (some c29_1)] 59, mapP (keyStr (tStr_run tT_9)) true R_Disk_rowsD c29_1 j_4_9_f1_m, .own 9 1 R_str (.slice j_2_10_p j_2_10_n j_2_10_c) j_2_10_l]) ?_ ?_
     ·
      refine wc_seq ?_
      refine wc_region ?_
      refine wl_pure rfl rfl rfl (freshS_eq rfl) rfl ?_
      refine wl_nil ?_
      refine we_then ?_
      refine wc_block ?_
      refine wc_loop (σ := Nat × Nat × (List (ByteArray × Disk_rowsD))) (fun (nu2, u2_13, u2_9_f1_m) => iter (m_ropewalklaw17_DiskCrashes_L2 N l1 l0 j_2_10_l) nu2 (u2_13, u2_9_f1_m) = some bj_4) (fun (nu2, u2_13, u2_9_f1_m) => nu2) (fun (nu2, u2_13, u2_9_f1_m) => [(13, .int .i64 ((u2_13 : Nat) : Int)), (9, .pointer (some ⟨c29_0, 0, none⟩)), (0, .slice qp0 l0.length qc1), (1, .slice qp2 l1.length qc3), (2, .int .i64 a2), (3, .int .i64 a3), (10, .slice j_2_10_p j_2_10_n j_2_10_c)]) (fun (nu2, u2_13, u2_9_f1_m) => [.sli 1 R_l_u8 qp0 qc1 l0, .sli 1 R_l_u8 qp2 qc3 l1]) (fun (nu2, u2_13, u2_9_f1_m) => [.blk c29_0 [.int .i64 (maxI 1073741824 0), .map (some c29_1)] 59, mapP (keyStr (tStr_run tT_9)) true R_Disk_rowsD c29_1 u2_9_f1_m, .own 9 1 R_str (.slice j_2_10_p j_2_10_n j_2_10_c) j_2_10_l]) (N, 0, j_2_9_f1_m) hm [13, 9, 0, 1, 2, 3, 10] rfl (fun _ _ hφ => ask [0, 1] rfl hφ) rfl (fun s_ hm => ?_)
      obtain ⟨nu2, u2_13, u2_9_f1_m⟩ := s_
      try dsimp only at hm ⊢
      obtain ⟨mu2, bu2, hnu2, hq, hLu2⟩ := iter_some hm
      clear hm
      subst hnu2
      replace hm := hq
      clear hq
      unfold m_ropewalklaw17_DiskCrashes_L2 at hm
      try dsimp only at hm
      refine wc_seq ?_
      refine wc_seq ?_
      obtain ⟨bj_5, hm, hLj_5⟩ := bindO_some hm
      refine wc_cut (σ := Bool) (fun j_5_74 => bj_5 = j_5_74) (fun j_5_74 => [(13, .int .i64 ((u2_13 : Nat) : Int)), (9, .pointer (some ⟨c29_0, 0, none⟩)), (0, .slice qp0 l0.length qc1), (1, .slice qp2 l1.length qc3), (2, .int .i64 a2), (3, .int .i64 a3), (10, .slice j_2_10_p j_2_10_n j_2_10_c), (74, .bool j_5_74)]) (fun j_5_74 => [.sli 1 R_l_u8 qp0 qc1 l0, .sli 1 R_l_u8 qp2 qc3 l1]) (fun j_5_74 => [.blk c29_0 [.int .i64 (maxI 1073741824 0), .map (some c29_1)] 59, mapP (keyStr (tStr_run tT_9)) true R_Disk_rowsD c29_1 u2_9_f1_m, .own 9 1 R_str (.slice j_2_10_p j_2_10_n j_2_10_c) j_2_10_l]) ?_ ?_
      ·
       refine wc_region ?_
       refine wl_pure rfl rfl rfl (freshS_eq rfl) rfl ?_
       refine wl_pure rfl rfl rfl (freshS_eq rfl) rfl ?_
       refine wl_len rfl rfl rfl (freshS_eq rfl) rfl rfl tE_22 ?_
       refine wl_pure rfl rfl rfl (freshS_eq rfl) rfl ?_
       refine wl_as (d := 68) (v' := .bool (decide (u2_13 < l1.length))) (S' := [_,_,_,_,_,_,_,_,_,_]) rfl rfl (natlt (a := u2_13) (b := l1.length)) ?_
       refine wl_pure rfl rfl rfl (freshS_eq rfl) rfl ?_
       refine wl_split (d := 69) (S' := [_,_,_,_,_,_,_,_,_,_,_]) rfl rfl (fun hs69 => ?_) (fun hs69 => ?_)
       ·
        replace hm := iteT hm hs69
        refine wl_pure rfl rfl rfl (freshS_eq rfl) rfl ?_
        refine wl_pure rfl rfl rfl (freshS_eq rfl) rfl ?_
        refine wl_len rfl rfl rfl (freshS_eq rfl) rfl rfl tE_22 ?_
        refine wl_pure rfl rfl rfl (freshS_eq rfl) rfl ?_
        refine wl_as (d := 73) (v' := .bool (decide (u2_13 < l0.length))) (S' := [_,_,_,_,_,_,_,_,_,_,_,_,_,_,_]) rfl rfl (natlt (a := u2_13) (b := l0.length)) ?_
        refine wl_pure rfl rfl rfl (freshS_eq rfl) rfl ?_
        refine wl_nil ?_
        have hE := (Option.some.inj hm).symm
        refine we_join (decide (u2_13 < l0.length)) hE [13, 9, 0, 1, 2, 3, 10, 74] rfl (fun _ _ hφ => ask [0, 1] rfl hφ) rfl
       ·
        replace hm := iteF hm hs69
        refine wl_off rfl rfl rfl (freshS_eq rfl) ?_
        refine wl_off rfl rfl rfl (freshS_eq rfl) ?_
        refine wl_off rfl rfl rfl (freshS_eq rfl) ?_
        refine wl_off rfl rfl rfl (freshS_eq rfl) ?_
        refine wl_pure rfl rfl rfl (freshS_eq rfl) rfl ?_
        refine wl_nil ?_
        have hE := (Option.some.inj hm).symm
        refine we_join false hE [13, 9, 0, 1, 2, 3, 10, 74] rfl (fun _ _ hφ => ask [0, 1] rfl hφ) rfl
      ·
       rintro j_5_74 hE
       try dsimp only
       have hm := hLj_5
       rw [hE] at hm
       refine wc_cond rfl (fun hb74 => ?_) (fun hb74 => ?_)
       ·
        replace hm := iteT hm hb74
        refine wc_keep [13, 9, 0, 1, 2, 3, 10] (S' := [_,_,_,_,_,_,_]) rfl ?_
        refine wc_skip ?_
        refine we_then ?_
        refine wc_seq ?_
        refine wc_block ?_
        refine wc_seq ?_
        refine wc_seq ?_
        refine wc_region ?_
        refine wl_pure rfl rfl rfl (freshS_eq rfl) rfl ?_
        refine wl_pure rfl rfl rfl (freshS_eq rfl) rfl ?_
        obtain ⟨x79, hx79, hm⟩ := bindO_some hm
        refine wl_indexA 1 u2_13 rfl rfl rfl (freshS_eq rfl) rfl rfl rfl rfl rfl hx79 tE_22 tS_27 (fun b79 q79 cs79 hlx79 => ?_)
        refine wl_open R_l_u8_opens 1 rfl (fun r79 er79 _ => ?_)
        subst er79
        refine wl_load 1 0 rfl rfl rfl (freshS_eq rfl) rfl rfl rfl (cs := [_]) rfl tS_27 tA_27 rfl rfl ?_
        refine wl_len rfl rfl rfl (freshS_eq rfl) rfl rfl tE_27 ?_
        refine wl_pure rfl rfl rfl (freshS_eq rfl) rfl ?_
        refine wl_as (d := 82) (v' := .bool (decide (2000 < x79.length))) (S' := [_,_,_,_,_,_,_,_,_,_,_,_]) rfl rfl (natgt (a := x79.length) (b := 2000)) ?_
        refine wl_nil ?_
        refine we_then ?_
        refine wc_keep [82, 13, 9, 0, 1, 2, 3, 10] (S' := [_,_,_,_,_,_,_,_]) rfl ?_
        refine wc_cond rfl (fun hb82 => ?_) (fun hb82 => ?_)
        ·
         replace hm := iteT hm hb82
         refine wc_keep [] (S' := []) rfl ?_
         refine wc_seq ?_
         refine wc_region ?_
         refine wl_pure rfl rfl rfl (freshS_eq rfl) rfl ?_
         refine wl_nil ?_
         refine we_then ?_
         refine wc_ret ?_
         refine we_then_ret ?_
         refine we_block_ret ?_
         refine we_then_ret ?_
         refine we_then_ret ?_
         refine we_block_ret ?_
         refine we_then_ret ?_
         have hE := (Option.some.inj hm).symm
         replace hE := link_inr hLu2 hE
         replace hE := link_inr hLj_4 hE
         replace hE := hE.symm
         subst hE
         refine ret_one (Hr := []) [] Try.results3 (res_tmp rfl) ⟨rfl, rfl, rfl⟩ (fun _ _ hφ => ask [] rfl hφ) rfl rfl (.inl rfl)
        ·
         replace hm := iteF hm hb82
         refine wc_keep [13, 9, 0, 1, 2, 3, 10] (S' := [_,_,_,_,_,_,_]) rfl ?_
         refine wc_skip ?_
         refine we_then ?_
         refine wc_seq ?_
         obtain ⟨x86, hx86, hm⟩ := bindO_some hm
         obtain ⟨x90, hx90, hm⟩ := bindO_some hm
         obtain ⟨⟨v92_0, v92_1⟩, hc92, hm⟩ := bindO_some hm
         try dsimp only at hm
         refine wc_draw [0, 1, 2, 3, 4, 5, 6, 7, 8, 10] rfl rfl (fun hok => ?_)
         refine wx_pure hok 0 rfl rfl rfl (freshS_eq rfl) rfl rfl ?_
         refine wx_pure hok 1 rfl rfl rfl (freshS_eq rfl) rfl rfl ?_
         refine wx_pure hok 2 rfl rfl rfl (freshS_eq rfl) rfl rfl ?_
         refine wx_indexH hok 3 2 u2_13 rfl rfl rfl (freshS_eq rfl) rfl rfl rfl rfl rfl rfl (get_lt hx86) tE_26 tS_9 (fun g86 eg86 => ?_)
         subst eg86
         refine wx_loadRow hok 4 R_str_opens 2 u2_13 0 rfl rfl rfl (freshS_eq rfl) rfl rfl rfl rfl hx86 tS_9 tA_9 (v := .string x86) rfl rfl (fun _ => ?_)
         refine wx_pure hok 5 rfl rfl rfl (freshS_eq rfl) rfl rfl ?_
         refine wx_pure hok 6 rfl rfl rfl (freshS_eq rfl) rfl rfl ?_
         refine wx_indexA hok 7 4 u2_13 rfl rfl rfl (freshS_eq rfl) rfl rfl rfl rfl rfl rfl hx90 tE_22 tS_27 (fun b90 q90 cs90 hlx90 => ?_)
         refine wx_openR R_l_u8_opens 1 rfl (fun r90 er90 _ => ?_)
         subst er90
         refine wx_load hok 8 1 0 rfl rfl rfl (freshS_eq rfl) rfl rfl rfl rfl (cs := [_]) rfl tS_27 tA_27 rfl rfl ?_
         refine wx_step1 hok 9 rfl rfl rfl rfl ?_
         refine wl_call [0, 1] [2] rfl rfl rfl (freshS_eq rfl) rfl rfl fn_11 rfl (w_disk_Disk_Append_s N c29_0 (maxI 1073741824 0) c29_1 u2_9_f1_m x86 r90.1 r90.2 x90 _ _ hc92) (fun _ _ hφ => ask [0] rfl hφ) rfl (H' := [_]) rfl ?_
         rintro _ _ _ ⟨rfl, rfl, rfl⟩
         refine wl_nil ?_
         refine we_x [0, 1, 2, 3, 4, 5, 6, 7] [] rfl rfl ?_
         refine wx_pure hok 10 rfl rfl rfl (freshS_eq rfl) rfl rfl ?_
         refine wx_done hok rfl ?_
         refine we_then ?_
         refine wc_keep [93, 13, 9, 0, 1, 2, 3, 10] (S' := [_,_,_,_,_,_,_,_]) rfl ?_
         refine wc_cond rfl (fun hb93 => ?_) (fun hb93 => ?_)
         ·
          replace hm := iteT hm hb93
          refine wc_keep [] (S' := []) rfl ?_
          refine wc_seq ?_
          refine wc_region ?_
          refine wl_pure rfl rfl rfl (freshS_eq rfl) rfl ?_
          refine wl_nil ?_
          refine we_then ?_
          refine wc_ret ?_
          refine we_block_ret ?_
          refine we_then_ret ?_
          refine we_then_ret ?_
          refine we_block_ret ?_
          refine we_then_ret ?_
          have hE := (Option.some.inj hm).symm
          replace hE := link_inr hLu2 hE
          replace hE := link_inr hLj_4 hE
          replace hE := hE.symm
          subst hE
          refine ret_one (Hr := []) [] Try.results3 (res_tmp rfl) ⟨rfl, rfl, rfl⟩ (fun _ _ hφ => ask [] rfl hφ) rfl rfl (.inl rfl)
         ·
          replace hm := iteF hm hb93
          refine wc_keep [13, 9, 0, 1, 2, 3, 10] (S' := [_,_,_,_,_,_,_]) rfl ?_
          refine wc_skip ?_
          refine we_block_normal ?_
          refine we_then ?_
          refine wc_region ?_
          refine wl_pure rfl rfl rfl (freshS_eq rfl) rfl ?_
          refine wl_pure rfl rfl rfl (freshS_eq rfl) rfl ?_
          obtain ⟨hg76, hm⟩ := gd_some hm
          refine wl_as (d := 76) (v' := .int .i64 ((u2_13 + 1 : Nat) : Int)) (S' := [_,_,_,_,_,_,_,_]) rfl rfl (nat_add (a := u2_13) (b := 1) hg76) ?_
          refine wl_pure (S' := [_,_,_,_,_,_,_,_]) rfl rfl rfl rfl rfl ?_
          refine wl_nil ?_
          have hE := (Option.some.inj hm).symm
          replace hE := link_inl hLu2 hE
          refine we_roundK (_, u2_13 + 1, v92_1) (Nat.lt_succ_self _) hE [13, 9, 0, 1, 2, 3, 10] rfl (fun _ _ hφ => ask [6, 7] rfl hφ) rfl
       ·
        replace hm := iteF hm hb74
        refine wc_keep [9, 0, 1, 2, 3, 10] (S' := [_,_,_,_,_,_]) rfl ?_
        refine wc_exit ?_
        refine we_then_exit ?_
        refine we_then_exit ?_
        refine we_block_hit ?_
        have hE := (Option.some.inj hm).symm
        replace hE := link_inr hLu2 hE
        refine we_join u2_9_f1_m hE [9, 0, 1, 2, 3, 10] rfl (fun _ _ hφ => ask [0, 1] rfl hφ) rfl
     ·
      rintro j_4_9_f1_m hE
      try dsimp only
      have hm := link_inl hLj_4 hE
      refine wc_seq ?_
      refine wc_region ?_
      refine wl_pure rfl rfl rfl (freshS_eq rfl) rfl ?_
      refine wl_pure rfl rfl rfl (freshS_eq rfl) rfl ?_
      obtain ⟨v96, hc96, hm⟩ := bindO_some hm
      refine wl_call [0, 1] [2] rfl rfl rfl (freshS_eq rfl) rfl rfl fn_13 rfl (w_disk_Disk_Crash_s N c29_0 (maxI 1073741824 0) c29_1 j_4_9_f1_m a2 _ hc96) (fun _ _ hφ => ask [] rfl hφ) rfl (H' := [_]) rfl ?_
      rintro _ _ _ ⟨rfl, rfl, rfl⟩
      refine wl_nil ?_
      refine we_then ?_
      refine wc_keep [9, 0, 1, 2, 3, 10] (S' := [_,_,_,_,_,_]) rfl ?_
      refine wc_seq ?_
      refine wc_seq ?_
      refine wc_region ?_
      refine wl_pure rfl rfl rfl (freshS_eq rfl) rfl ?_
      obtain ⟨v98, hc98, hm⟩ := bindO_some hm
      refine wl_call [0, 1] [2] rfl rfl rfl (freshS_eq rfl) rfl rfl fn_15 rfl (w_disk_Disk_List_s N c29_0 (maxI 1073741824 0) c29_1 v96 _ hc98) (fun _ _ hφ => ask [] rfl hφ) rfl (H' := [_]) rfl ?_
      rintro _ _ _ ⟨p98_0, c98_1, c98_2, rfl, rfl, rfl⟩
      refine wl_pure rfl rfl rfl (freshS_eq rfl) rfl ?_
      refine wl_ownLen 0 rfl (fun hzc98_2 _ => ?_)
      subst hzc98_2
      refine wl_ownLen 3 rfl (fun hzj_2_10_n _ => ?_)
      subst hzj_2_10_n
      obtain ⟨v100, hc100, hm⟩ := bindO_some hm
      refine wl_lend [] [0, 1, 2, 3] [0, 3] rfl rfl rfl (freshS_eq rfl) rfl rfl fn_14 rfl (w_ropewalkkit_SameTexts_s N p98_0 c98_1 v98 j_2_10_p j_2_10_c j_2_10_l _ hc100) (fun F w hφ hh => (ask_cons (own_sli (hh _ (mem_at (k := 0) rfl))) (ask_cons (own_sli (hh _ (mem_at (k := 1) rfl))) ask_nil))) (fun _ _ _ hR => by obtain ⟨rfl, rfl, rfl⟩ := hR; exact ⟨rfl, (fun _ h => free_nil h)⟩) rfl rfl (H' := [_,_,_,_]) rfl ?_
      rintro _ _ _ ⟨rfl, rfl, rfl⟩
      refine wl_pure rfl rfl rfl (freshS_eq rfl) rfl ?_
      refine wl_nil ?_
      refine we_then ?_
      refine wc_keep [101, 9, 0, 1, 2, 3, 10] (S' := [_,_,_,_,_,_,_]) rfl ?_
      refine wc_cond rfl (fun hb101 => ?_) (fun hb101 => ?_)
      ·
       replace hm := iteT hm hb101
       refine wc_keep [] (S' := []) rfl ?_
       refine wc_seq ?_
       refine wc_region ?_
       refine wl_pure rfl rfl rfl (freshS_eq rfl) rfl ?_
       refine wl_nil ?_
       refine we_then ?_
       refine wc_ret ?_
       refine we_then_ret ?_
       have hE := (Option.some.inj hm).symm
       replace hE := hE.symm
       subst hE
       refine ret_one (Hr := []) [] Try.results3 (res_tmp rfl) ⟨rfl, rfl, rfl⟩ (fun _ _ hφ => ask [] rfl hφ) rfl rfl (.inl rfl)
      ·
       replace hm := iteF hm hb101
       refine wc_keep [9, 0, 1, 2, 3, 10] (S' := [_,_,_,_,_,_]) rfl ?_
       refine wc_skip ?_
       refine we_then ?_
       refine wc_seq ?_
       refine wc_region ?_
       refine wl_pure rfl rfl rfl (freshS_eq rfl) rfl ?_
       refine wl_nil ?_
       refine we_then ?_
       refine wc_seq ?_
       obtain ⟨bj_6, hm, hLj_6⟩ := bindS_some hm
       refine wc_cut (σ := (List (ByteArray × Disk_rowsD)) × Nat) (fun (j_6_9_f1_m, j_6_14) => bj_6 = .inl (j_6_9_f1_m, j_6_14)) (fun (j_6_9_f1_m, j_6_14) => [(9, .pointer (some ⟨c29_0, 0, none⟩)), (3, .int .i64 a3), (10, .slice j_2_10_p j_2_10_l.length j_2_10_c), (14, .int .i64 ((j_6_14 : Nat) : Int))]) (fun (j_6_9_f1_m, j_6_14) => []) (fun (j_6_9_f1_m, j_6_14) => [.blk c29_0 [.int .i64 (maxI 1073741824 0), .map (some c29_1)] 59, mapP (keyStr (tStr_run tT_9)) true R_Disk_rowsD c29_1 j_6_9_f1_m, .own 9 1 R_str (.slice j_2_10_p j_2_10_l.length j_2_10_c) j_2_10_l]) ?_ ?_
       ·
        refine wc_seq ?_
        refine wc_region ?_
        refine wl_pure rfl rfl rfl (freshS_eq rfl) rfl ?_
        refine wl_nil ?_
        refine we_then ?_
        refine wc_block ?_
        refine wc_pick [1, 2, 3] rfl (H' := [_,_,_]) rfl ?_
        refine wc_loop (σ := Nat × Nat × Nat × (List (ByteArray × Disk_rowsD))) (fun (nu3, u3_15, u3_14, u3_9_f1_m) => iter (m_ropewalklaw17_DiskCrashes_L3 N l0 l1 a2 j_2_10_l) nu3 (u3_15, u3_14, u3_9_f1_m) = some bj_6) (fun (nu3, u3_15, u3_14, u3_9_f1_m) => nu3) (fun (nu3, u3_15, u3_14, u3_9_f1_m) => [(15, .int .i64 ((u3_15 : Nat) : Int)), (14, .int .i64 ((u3_14 : Nat) : Int)), (9, .pointer (some ⟨c29_0, 0, none⟩)), (0, .slice qp0 l0.length qc1), (1, .slice qp2 l1.length qc3), (2, .int .i64 a2), (3, .int .i64 a3), (10, .slice j_2_10_p j_2_10_l.length j_2_10_c)]) (fun (nu3, u3_15, u3_14, u3_9_f1_m) => [.sli 1 R_l_u8 qp0 qc1 l0, .sli 1 R_l_u8 qp2 qc3 l1]) (fun (nu3, u3_15, u3_14, u3_9_f1_m) => [.blk c29_0 [.int .i64 (maxI 1073741824 0), .map (some c29_1)] 59, mapP (keyStr (tStr_run tT_9)) true R_Disk_rowsD c29_1 u3_9_f1_m, .own 9 1 R_str (.slice j_2_10_p j_2_10_l.length j_2_10_c) j_2_10_l]) (N, 0, 0, v96) hm [15, 14, 9, 0, 1, 2, 3, 10] rfl (fun _ _ hφ => ask [0, 1] rfl hφ) rfl (fun s_ hm => ?_)
        obtain ⟨nu3, u3_15, u3_14, u3_9_f1_m⟩ := s_
        try dsimp only at hm ⊢
        obtain ⟨mu3, bu3, hnu3, hq, hLu3⟩ := iter_some hm
        clear hm
        subst hnu3
        replace hm := hq
        clear hq
        unfold m_ropewalklaw17_DiskCrashes_L3 at hm
        try dsimp only at hm
        refine wc_seq ?_
        refine wc_seq ?_
        refine wc_region ?_
        refine wl_pure rfl rfl rfl (freshS_eq rfl) rfl ?_
        refine wl_pure rfl rfl rfl (freshS_eq rfl) rfl ?_
        refine wl_len rfl rfl rfl (freshS_eq rfl) rfl rfl tE_22 ?_
        refine wl_pure rfl rfl rfl (freshS_eq rfl) rfl ?_
        refine wl_as (d := 105) (v' := .bool (decide (u3_15 < l0.length))) (S' := [_,_,_,_,_,_,_,_,_,_,_]) rfl rfl (natlt (a := u3_15) (b := l0.length)) ?_
        refine wl_nil ?_
        refine we_then ?_
        refine wc_keep [105, 15, 14, 9, 0, 1, 2, 3, 10] (S' := [_,_,_,_,_,_,_,_,_]) rfl ?_
        refine wc_cond rfl (fun hb105 => ?_) (fun hb105 => ?_)
        ·
         replace hm := iteT hm hb105
         refine wc_keep [15, 14, 9, 0, 1, 2, 3, 10] (S' := [_,_,_,_,_,_,_,_]) rfl ?_
         refine wc_skip ?_
         refine we_then ?_
         refine wc_seq ?_
         refine wc_block ?_
         refine wc_seq ?_
         refine wc_region ?_
         refine wl_pure rfl rfl rfl (freshS_eq rfl) rfl ?_
         refine wl_pure rfl rfl rfl (freshS_eq rfl) rfl ?_
         obtain ⟨x110, hx110, hm⟩ := bindO_some hm
         refine wl_indexA 0 u3_15 rfl rfl rfl (freshS_eq rfl) rfl rfl rfl rfl rfl hx110 tE_22 tS_27 (fun b110 q110 cs110 hlx110 => ?_)
         refine wl_open R_l_u8_opens 1 rfl (fun r110 er110 _ => ?_)
         subst er110
         refine wl_load 1 0 rfl rfl rfl (freshS_eq rfl) rfl rfl rfl (cs := [_]) rfl tS_27 tA_27 rfl rfl ?_
         obtain ⟨_, hc112, hm⟩ := bindO_some hm
         try dsimp only at hm
         refine wl_call [] [0, 1, 2] rfl rfl rfl (freshS_eq rfl) rfl rfl fn_16 rfl (w_ropewalkkit_CopyBytes_s N r110.1 r110.2 x110 hc112) (fun _ _ hφ => ask [0] rfl hφ) rfl (H' := [_,_,_]) rfl ?_
         rintro _ _ _ ⟨p112_0, c112_1, rfl, rfl, rfl⟩
         refine wl_pure rfl rfl rfl (freshS_eq rfl) rfl ?_
         refine wl_nil ?_
         refine we_then ?_
         refine wc_keep [16, 15, 14, 9, 0, 1, 2, 3, 10] (S' := [_,_,_,_,_,_,_,_,_]) rfl ?_
         refine wc_seq ?_
         obtain ⟨bj_7, hm, hLj_7⟩ := bindO_some hm
         unfold m_ropewalklaw17_DiskCrashes_C7 at hm
         refine wc_cut (σ := (List Int) × (Option Addr) × Nat × Nat) (fun (j_7_16_l, j_7_16_p, j_7_16_c, j_7_16_n) => bj_7 = j_7_16_l) (fun (j_7_16_l, j_7_16_p, j_7_16_c, j_7_16_n) => [(16, .slice j_7_16_p j_7_16_n j_7_16_c), (15, .int .i64 ((u3_15 : Nat) : Int)), (14, .int .i64 ((u3_14 : Nat) : Int)), (9, .pointer (some ⟨c29_0, 0, none⟩)), (0, .slice qp0 l0.length qc1), (1, .slice qp2 l1.length qc3), (2, .int .i64 a2), (3, .int .i64 a3), (10, .slice j_2_10_p j_2_10_l.length j_2_10_c)]) (fun (j_7_16_l, j_7_16_p, j_7_16_c, j_7_16_n) => [.sli 1 R_l_u8 qp0 qc1 l0, .sli 1 R_l_u8 qp2 qc3 l1]) (fun (j_7_16_l, j_7_16_p, j_7_16_c, j_7_16_n) => [.own 5 1 R_u8 (.slice j_7_16_p j_7_16_n j_7_16_c) j_7_16_l, .blk c29_0 [.int .i64 (maxI 1073741824 0), .map (some c29_1)] 59, mapP (keyStr (tStr_run tT_9)) true R_Disk_rowsD c29_1 u3_9_f1_m, .own 9 1 R_str (.slice j_2_10_p j_2_10_l.length j_2_10_c) j_2_10_l]) ?_ ?_
         ·
          refine wc_seq ?_
          refine wc_region ?_
          refine wl_pure rfl rfl rfl (freshS_eq rfl) rfl ?_
          refine wl_pure rfl rfl rfl (freshS_eq rfl) rfl ?_
          refine wl_len rfl rfl rfl (freshS_eq rfl) rfl rfl tE_22 ?_
          refine wl_pure rfl rfl rfl (freshS_eq rfl) rfl ?_
          refine wl_as (d := 116) (v' := .bool (decide (u3_15 < l1.length))) (S' := [_,_,_,_,_,_,_,_,_,_,_,_]) rfl rfl (natlt (a := u3_15) (b := l1.length)) ?_
          refine wl_nil ?_
          refine we_then ?_
          refine wc_keep [116, 16, 15, 14, 9, 0, 1, 2, 3, 10] (S' := [_,_,_,_,_,_,_,_,_,_]) rfl ?_
          refine wc_cond rfl (fun hb116 => ?_) (fun hb116 => ?_)
          ·
           replace hm := iteT hm hb116
           refine wc_keep [16, 15, 14, 9, 0, 1, 2, 3, 10] (S' := [_,_,_,_,_,_,_,_,_]) rfl ?_
           obtain ⟨x120, hx120, hm⟩ := bindO_some hm
           obtain ⟨x126, hx126, hm⟩ := bindO_some hm
           obtain ⟨hn130_1, hm⟩ := gd_some hm
           obtain ⟨hg130, hm⟩ := gd_some hm
           obtain ⟨hg131, hm⟩ := gd_some hm
           refine wc_draw [0, 1, 2, 3, 4, 5, 7, 8, 9, 10, 11] rfl rfl (fun hok => ?_)
           refine wx_pure hok 0 rfl rfl rfl (freshS_eq rfl) rfl rfl ?_
           refine wx_pure hok 1 rfl rfl rfl (freshS_eq rfl) rfl rfl ?_
           refine wx_pure hok 2 rfl rfl rfl (freshS_eq rfl) rfl rfl ?_
           refine wx_indexA hok 3 4 u3_15 rfl rfl rfl (freshS_eq rfl) rfl rfl rfl rfl rfl rfl hx120 tE_22 tS_27 (fun b120 q120 cs120 hlx120 => ?_)
           refine wx_openR R_l_u8_opens 1 rfl (fun r120 er120 _ => ?_)
           subst er120
           refine wx_load hok 4 1 0 rfl rfl rfl (freshS_eq rfl) rfl rfl rfl rfl (cs := [_]) rfl tS_27 tA_27 rfl rfl ?_
           refine wx_pure hok 5 rfl rfl rfl (freshS_eq rfl) rfl rfl ?_
           refine wx_pure hok 7 rfl rfl rfl (freshS_eq rfl) rfl rfl ?_
           refine wx_pure hok 8 rfl rfl rfl (freshS_eq rfl) rfl rfl ?_
           refine wx_indexA hok 9 7 u3_15 rfl rfl rfl (freshS_eq rfl) rfl rfl rfl rfl rfl rfl hx126 tE_22 tS_27 (fun b126 q126 cs126 hlx126 => ?_)
           refine wx_openR R_l_u8_opens 1 rfl (fun r126 er126 _ => ?_)
           subst er126
           refine wx_load hok 10 1 0 rfl rfl rfl (freshS_eq rfl) rfl rfl rfl rfl (cs := [_]) rfl tS_27 tA_27 rfl rfl ?_
           refine wx_len hok 11 rfl rfl rfl (freshS_eq rfl) rfl rfl rfl tE_27 ?_
           refine wx_step1 hok 6 rfl rfl rfl rfl ?_
           refine wl_reck rfl rfl rfl (freshS_eq rfl) (rk_max rfl rfl rfl) ?_
           refine wl_nil ?_
           refine we_x [0, 1, 2, 3, 4, 5, 6, 7, 8, 9, 10] [] rfl rfl ?_
           refine wx_step1 hok 12 rfl rfl rfl rfl ?_
           refine wl_reck rfl rfl rfl (freshS_eq rfl) (rk_min rfl rfl rfl) ?_
           refine wl_nil ?_
           refine we_x [0, 1, 2, 3, 4, 5, 6, 7, 8, 9, 10] [] rfl rfl ?_
           refine wx_step1 hok 13 rfl rfl rfl rfl ?_
           refine wl_sliTo 3 rfl rfl rfl (freshS_eq rfl) rfl rfl rfl rfl (toNat_eq hn130_1) tE_27 tS_5 hg130 (fun p130 => ?_)
           refine wl_nil ?_
           refine we_x [1, 2, 3, 4, 5, 6, 7, 8, 9, 10, 11] [] rfl rfl ?_
           refine wx_step1 hok 14 rfl rfl rfl rfl ?_
           refine wl_append 0 0 rfl rfl rfl (freshS_eq rfl) rfl rfl rfl rfl rfl tE_27 tR_5 rfl rfl (Nat.le_trans hg131 (by decide)) (Nat.le_trans (Nat.mul_le_mul_right _ hg131) (by decide)) (H2 := fun p131 c131 => [.own 5 1 R_u8 (.slice p131 ((x110 ++ (x120.take ((minI (maxI a2 0) ((x126.length : Nat) : Int)).toNat))).length) c131) (x110 ++ (x120.take ((minI (maxI a2 0) ((x126.length : Nat) : Int)).toNat))), .blk c29_0 [.int .i64 (maxI 1073741824 0), .map (some c29_1)] 59, mapP (keyStr (tStr_run tT_9)) true R_Disk_rowsD c29_1 u3_9_f1_m, .own 9 1 R_str (.slice j_2_10_p j_2_10_l.length j_2_10_c) j_2_10_l]) (fun _ _ => rfl) (fun p131 c131 => ?_)
           refine wl_nil ?_
           refine we_x [0, 1, 2, 3, 4, 5, 6, 7, 8, 9, 10, 11] [] rfl rfl ?_
           refine wx_step1 hok 15 rfl rfl rfl rfl ?_
           refine wl_pure (S' := [_,_,_,_,_,_,_,_,_,_,_,_,_,_,_,_,_,_,_,_,_,_,_]) rfl rfl rfl rfl rfl ?_
           refine wl_nil ?_
           refine we_x [0, 1, 2, 3, 4, 5, 6, 7, 8, 9, 10, 11] [] rfl rfl ?_
           refine wx_done hok rfl ?_
           have hE := (Option.some.inj hm).symm
           refine we_join ((x110 ++ (x120.take ((minI (maxI a2 0) ((x126.length : Nat) : Int)).toNat))), p131, c131, ((x110 ++ (x120.take ((minI (maxI a2 0) ((x126.length : Nat) : Int)).toNat))).length)) hE [16, 15, 14, 9, 0, 1, 2, 3, 10] rfl (fun _ _ hφ => ask [10, 11] rfl hφ) rfl
          ·
           replace hm := iteF hm hb116
           refine wc_keep [16, 15, 14, 9, 0, 1, 2, 3, 10] (S' := [_,_,_,_,_,_,_,_,_]) rfl ?_
           refine wc_skip ?_
           have hE := (Option.some.inj hm).symm
           refine we_join (x110, p112_0, c112_1, (x110).length) hE [16, 15, 14, 9, 0, 1, 2, 3, 10] rfl (fun _ _ hφ => ask [3, 4] rfl hφ) rfl
         ·
          rintro ⟨j_7_16_l, j_7_16_p, j_7_16_c, j_7_16_n⟩ hE
          try dsimp only
          have hm := hLj_7
          rw [hE] at hm
          refine wc_seq ?_
          refine wc_region ?_
          refine wl_pure rfl rfl rfl (freshS_eq rfl) rfl ?_
          refine wl_pure rfl rfl rfl (freshS_eq rfl) rfl ?_
          refine wl_pure rfl rfl rfl (freshS_eq rfl) rfl ?_
          obtain ⟨x136, hx136, hm⟩ := bindO_some hm
          refine wl_indexH 3 u3_15 rfl rfl rfl (freshS_eq rfl) rfl rfl rfl rfl rfl (get_lt hx136) tE_26 tS_9 (fun g136 eg136 => ?_)
          subst eg136
          refine wl_loadRow R_str_opens 3 u3_15 0 rfl rfl rfl (freshS_eq rfl) rfl rfl rfl hx136 tS_9 tA_9 (v := fun _ => .string x136) (fun _ => rfl) (fun _ => rfl) (fun _ _ => ?_)
          obtain ⟨⟨v138_0, v138_1, v138_2⟩, hc138, hm⟩ := bindO_some hm
          try dsimp only at hm
          refine wl_call [1, 2] [0, 3] rfl rfl rfl (freshS_eq rfl) rfl rfl fn_17 rfl (w_disk_Disk_Read_s N c29_0 (maxI 1073741824 0) c29_1 u3_9_f1_m x136 _ _ _ hc138) (fun _ _ hφ => ask [] rfl hφ) rfl (H' := [_,_]) rfl ?_
          rintro _ _ _ ⟨p138_0, c138_1, c138_2, rfl, rfl, rfl⟩
          refine wl_pure rfl rfl rfl (freshS_eq rfl) rfl ?_
          refine wl_pure rfl rfl rfl (freshS_eq rfl) rfl ?_
          refine wl_pure rfl rfl rfl (freshS_eq rfl) rfl ?_
          refine wl_pure rfl rfl rfl (freshS_eq rfl) rfl ?_
          refine wl_pure rfl rfl rfl (freshS_eq rfl) rfl ?_
          refine wl_nil ?_
          refine we_then ?_
          refine wc_keep [18, 17, 16, 15, 14, 9, 0, 1, 2, 3, 10] (S' := [_,_,_,_,_,_,_,_,_,_,_]) rfl ?_
          refine wc_seq ?_
          refine wc_seq ?_
          obtain ⟨bj_8, hm, hLj_8⟩ := bindO_some hm
          refine wc_cut (σ := Bool) (fun j_8_148 => bj_8 = j_8_148) (fun j_8_148 => [(17, .slice p138_0 c138_2 c138_1), (15, .int .i64 ((u3_15 : Nat) : Int)), (14, .int .i64 ((u3_14 : Nat) : Int)), (9, .pointer (some ⟨c29_0, 0, none⟩)), (0, .slice qp0 l0.length qc1), (1, .slice qp2 l1.length qc3), (2, .int .i64 a2), (3, .int .i64 a3), (10, .slice (some ⟨g136, 0, none⟩) j_2_10_l.length j_2_10_c), (148, .bool j_8_148)]) (fun j_8_148 => [.sli 1 R_l_u8 qp0 qc1 l0, .sli 1 R_l_u8 qp2 qc3 l1]) (fun j_8_148 => [.own 5 1 R_u8 (.slice p138_0 c138_2 c138_1) v138_0, .blk c29_0 [.int .i64 (maxI 1073741824 0), .map (some c29_1)] 59, mapP (keyStr (tStr_run tT_9)) true R_Disk_rowsD c29_1 v138_2, .own 9 1 R_str (.slice (some ⟨g136, 0, none⟩) j_2_10_l.length j_2_10_c) j_2_10_l]) ?_ ?_
          ·
           refine wc_region ?_
           refine wl_pure rfl rfl rfl (freshS_eq rfl) rfl ?_
           refine wl_pure rfl rfl rfl (freshS_eq rfl) rfl ?_
           refine wl_as (d := 142) (v' := .bool (v138_1 != 0)) (S' := [_,_,_,_,_,_,_,_,_,_,_,_]) rfl rfl (natne (a := v138_1) (b := 0)) ?_
           refine wl_pure rfl rfl rfl (freshS_eq rfl) rfl ?_
           refine wl_split (d := 143) (S' := [_,_,_,_,_,_,_,_,_,_,_,_,_]) rfl rfl (fun hs143 => ?_) (fun hs143 => ?_)
           ·
            replace hm := iteT hm hs143
            refine wl_off rfl rfl rfl (freshS_eq rfl) ?_
            refine wl_off rfl rfl rfl (freshS_eq rfl) ?_
            refine wl_off rfl rfl rfl (freshS_eq rfl) ?_
            refine wl_off rfl rfl rfl (freshS_eq rfl) ?_
            refine wl_pure rfl rfl rfl (freshS_eq rfl) rfl ?_
            refine wl_nil ?_
            have hE := (Option.some.inj hm).symm
            refine we_pick [0, 1, 2, 4] rfl (H' := [_,_,_,_]) rfl ?_
            refine we_join true hE [17, 15, 14, 9, 0, 1, 2, 3, 10, 148] rfl (fun _ _ hφ => ask [0, 1] rfl hφ) rfl
           ·
            replace hm := iteF hm hs143
            refine wl_pure rfl rfl rfl (freshS_eq rfl) rfl ?_
            refine wl_pure rfl rfl rfl (freshS_eq rfl) rfl ?_
            refine wl_ownLen 0 rfl (fun hzc138_2 _ => ?_)
            subst hzc138_2
            refine wl_ownLen 3 rfl (fun hzj_7_16_n _ => ?_)
            subst hzj_7_16_n
            obtain ⟨v146, hc146, hm⟩ := bindO_some hm
            refine wl_lend [] [0, 1, 2, 3, 4] [0, 3] rfl rfl rfl (freshS_eq rfl) rfl rfl fn_18 rfl (w_ropewalkkit_SameBytes_s N p138_0 c138_1 v138_0 j_7_16_p j_7_16_c j_7_16_l _ hc146) (fun F w hφ hh => (ask_cons (own_sli (hh _ (mem_at (k := 0) rfl))) (ask_cons (own_sli (hh _ (mem_at (k := 1) rfl))) ask_nil))) (fun _ _ _ hR => by obtain ⟨rfl, rfl, rfl⟩ := hR; exact ⟨rfl, (fun _ h => free_nil h)⟩) rfl rfl (H' := [_,_,_,_,_]) rfl ?_
            rintro _ _ _ ⟨rfl, rfl, rfl⟩
            refine wl_pure rfl rfl rfl (freshS_eq rfl) rfl ?_
            refine wl_pure rfl rfl rfl (freshS_eq rfl) rfl ?_
            refine wl_nil ?_
            have hE := (Option.some.inj hm).symm
            refine we_pick [0, 1, 2, 4] rfl (H' := [_,_,_,_]) rfl ?_
            refine we_join (!v146) hE [17, 15, 14, 9, 0, 1, 2, 3, 10, 148] rfl (fun _ _ hφ => ask [0, 1] rfl hφ) rfl
          ·
           rintro j_8_148 hE
           try dsimp only
           have hm := hLj_8
           rw [hE] at hm
           refine wc_cond rfl (fun hb148 => ?_) (fun hb148 => ?_)
           ·
            replace hm := iteT hm hb148
            refine wc_keep [] (S' := []) rfl ?_
            refine wc_seq ?_
            refine wc_region ?_
            refine wl_pure rfl rfl rfl (freshS_eq rfl) rfl ?_
            refine wl_nil ?_
            refine we_then ?_
            refine wc_ret ?_
            refine we_then_ret ?_
            refine we_block_ret ?_
            refine we_then_ret ?_
            refine we_then_ret ?_
            refine we_block_ret ?_
            refine we_then_ret ?_
            have hE := (Option.some.inj hm).symm
            replace hE := link_inr hLu3 hE
            replace hE := link_inr hLj_6 hE
            replace hE := hE.symm
            subst hE
            refine ret_one (Hr := []) [] Try.results3 (res_tmp rfl) ⟨rfl, rfl, rfl⟩ (fun _ _ hφ => ask [] rfl hφ) rfl rfl (.inl rfl)
           ·
            replace hm := iteF hm hb148
            refine wc_keep [17, 15, 14, 9, 0, 1, 2, 3, 10] (S' := [_,_,_,_,_,_,_,_,_]) rfl ?_
            refine wc_skip ?_
            refine we_then ?_
            refine wc_region ?_
            refine wl_pure rfl rfl rfl (freshS_eq rfl) rfl ?_
            refine wl_pure rfl rfl rfl (freshS_eq rfl) rfl ?_
            refine wl_ownLen 0 rfl (fun hl151 _ => ?_)
            refine wl_len rfl rfl rfl (freshS_eq rfl) rfl rfl tE_27 ?_
            refine wl_as (d := 151) (v' := .int .i64 ((v138_0.length : Nat) : Int)) (S' := [_,_,_,_,_,_,_,_,_,_,_]) rfl rfl (len_is hl151) ?_
            refine wl_pure rfl rfl rfl (freshS_eq rfl) rfl ?_
            obtain ⟨hg152, hm⟩ := gd_some hm
            refine wl_as (d := 152) (v' := .int .i64 ((u3_14 + v138_0.length : Nat) : Int)) (S' := [_,_,_,_,_,_,_,_,_,_,_,_]) rfl rfl (nat_add (a := u3_14) (b := v138_0.length) hg152) ?_
            refine wl_pure (S' := [_,_,_,_,_,_,_,_,_,_,_,_]) rfl rfl rfl rfl rfl ?_
            refine wl_nil ?_
            refine we_block_normal ?_
            refine we_then ?_
            refine wc_keep [14, 15, 9, 0, 1, 2, 3, 10] (S' := [_,_,_,_,_,_,_,_]) rfl ?_
            refine wc_region ?_
            refine wl_pure rfl rfl rfl (freshS_eq rfl) rfl ?_
            refine wl_pure rfl rfl rfl (freshS_eq rfl) rfl ?_
            obtain ⟨hg107, hm⟩ := gd_some hm
            refine wl_as (d := 107) (v' := .int .i64 ((u3_15 + 1 : Nat) : Int)) (S' := [_,_,_,_,_,_,_,_,_]) rfl rfl (nat_add (a := u3_15) (b := 1) hg107) ?_
            refine wl_pure (S' := [_,_,_,_,_,_,_,_,_]) rfl rfl rfl rfl rfl ?_
            refine wl_nil ?_
            have hE := (Option.some.inj hm).symm
            replace hE := link_inl hLu3 hE
            refine we_pick [1, 2, 3] rfl (H' := [_,_,_]) rfl ?_
            refine we_roundK (_, u3_15 + 1, u3_14 + v138_0.length, v138_2) (Nat.lt_succ_self _) hE [15, 14, 9, 0, 1, 2, 3, 10] rfl (fun _ _ hφ => ask [0, 1] rfl hφ) rfl
        ·
         replace hm := iteF hm hb105
         refine wc_keep [14, 9, 3, 10] (S' := [_,_,_,_]) rfl ?_
         refine wc_exit ?_
         refine we_then_exit ?_
         refine we_then_exit ?_
         refine we_block_hit ?_
         have hE := (Option.some.inj hm).symm
         replace hE := link_inr hLu3 hE
         refine we_join (u3_9_f1_m, u3_14) hE [9, 3, 10, 14] rfl (fun _ _ hφ => ask [] rfl hφ) rfl
       ·
        rintro ⟨j_6_9_f1_m, j_6_14⟩ hE
        try dsimp only
        have hm := link_inl hLj_6 hE
        try dsimp only at hm
        refine wc_seq ?_
        refine wc_region ?_
        refine wl_pure rfl rfl rfl (freshS_eq rfl) rfl ?_
        refine wl_pure rfl rfl rfl (freshS_eq rfl) rfl ?_
        obtain ⟨v155, hc155, hm⟩ := bindO_some hm
        refine wl_call [0, 1] [2] rfl rfl rfl (freshS_eq rfl) rfl rfl fn_13 rfl (w_disk_Disk_Crash_s N c29_0 (maxI 1073741824 0) c29_1 j_6_9_f1_m a3 _ hc155) (fun _ _ hφ => ask [] rfl hφ) rfl (H' := [_]) rfl ?_
        rintro _ _ _ ⟨rfl, rfl, rfl⟩
        refine wl_nil ?_
        refine we_then ?_
        refine wc_keep [9, 10, 14] (S' := [_,_,_]) rfl ?_
        refine wc_seq ?_
        refine wc_region ?_
        refine wl_pure rfl rfl rfl (freshS_eq rfl) rfl ?_
        obtain ⟨v157, hc157, hm⟩ := bindO_some hm
        refine wl_call [0, 1] [2] rfl rfl rfl (freshS_eq rfl) rfl rfl fn_19 rfl (w_disk_Disk_Used_s N c29_0 (maxI 1073741824 0) c29_1 v155 _ hc157) (fun _ _ hφ => ask [] rfl hφ) rfl (H' := [_]) rfl ?_
        rintro _ _ _ ⟨rfl, rfl, rfl⟩
        refine wl_pure rfl rfl rfl (freshS_eq rfl) rfl ?_
        refine wl_pure rfl rfl rfl (freshS_eq rfl) rfl ?_
        refine wl_as (d := 159) (v' := .bool (v157 == j_6_14)) (S' := [_,_,_,_,_,_]) rfl rfl (nateq (a := v157) (b := j_6_14)) ?_
        refine wl_pure rfl rfl rfl (freshS_eq rfl) rfl ?_
        refine wl_split (d := 160) (S' := [_,_,_,_,_,_,_]) rfl rfl (fun hs160 => ?_) (fun hs160 => ?_)
        ·
         replace hm := iteT hm hs160
         refine wl_pure rfl rfl rfl (freshS_eq rfl) rfl ?_
         obtain ⟨v162, hc162, hm⟩ := bindO_some hm
         refine wl_call [0, 1] [2] rfl rfl rfl (freshS_eq rfl) rfl rfl fn_15 rfl (w_disk_Disk_List_s N c29_0 (maxI 1073741824 0) c29_1 v155 _ hc162) (fun _ _ hφ => ask [] rfl hφ) rfl (H' := [_]) rfl ?_
         rintro _ _ _ ⟨p162_0, c162_1, c162_2, rfl, rfl, rfl⟩
         refine wl_pure rfl rfl rfl (freshS_eq rfl) rfl ?_
         refine wl_ownLen 0 rfl (fun hzc162_2 _ => ?_)
         subst hzc162_2
         obtain ⟨v164, hc164, hm⟩ := bindO_some hm
         refine wl_lend [] [0, 1, 2, 3] [0, 3] rfl rfl rfl (freshS_eq rfl) rfl rfl fn_14 rfl (w_ropewalkkit_SameTexts_s N p162_0 c162_1 v162 j_2_10_p j_2_10_c j_2_10_l _ hc164) (fun F w hφ hh => (ask_cons (own_sli (hh _ (mem_at (k := 0) rfl))) (ask_cons (own_sli (hh _ (mem_at (k := 1) rfl))) ask_nil))) (fun _ _ _ hR => by obtain ⟨rfl, rfl, rfl⟩ := hR; exact ⟨rfl, (fun _ h => free_nil h)⟩) rfl rfl (H' := [_,_,_,_]) rfl ?_
         rintro _ _ _ ⟨rfl, rfl, rfl⟩
         refine wl_pure rfl rfl rfl (freshS_eq rfl) rfl ?_
         refine wl_pure rfl rfl rfl (freshS_eq rfl) rfl ?_
         refine wl_nil ?_
         refine we_then ?_
         refine wc_keep [8] (S' := [_]) rfl ?_
         refine wc_ret ?_
         have hE := (Option.some.inj hm).symm
         replace hE := hE.symm
         subst hE
         refine ret_one (Hr := []) [] Try.results3 (res_tmp rfl) ⟨rfl, rfl, rfl⟩ (fun _ _ hφ => ask [] rfl hφ) rfl rfl (.inl rfl)
        ·
         replace hm := iteF hm hs160
         refine wl_off rfl rfl rfl (freshS_eq rfl) ?_
         refine wl_off rfl rfl rfl (freshS_eq rfl) ?_
         refine wl_off rfl rfl rfl (freshS_eq rfl) ?_
         refine wl_off rfl rfl rfl (freshS_eq rfl) ?_
         refine wl_pure rfl rfl rfl (freshS_eq rfl) rfl ?_
         refine wl_pure rfl rfl rfl (freshS_eq rfl) rfl ?_
         refine wl_nil ?_
         refine we_then ?_
         refine wc_keep [8] (S' := [_]) rfl ?_
         refine wc_ret ?_
         have hE := (Option.some.inj hm).symm
         replace hE := hE.symm
         subst hE
         refine ret_one (Hr := []) [] Try.results3 (res_tmp rfl) ⟨rfl, rfl, rfl⟩ (fun _ _ hφ => ask [] rfl hφ) rfl rfl (.inl rfl)
set_option maxRecDepth 100000 in
set_option maxHeartbeats 4000000 in
theorem w_ropewalklaw17_short_s (N : Nat) (qp0 : Option Addr) (qc1 : Nat) (l0 : List Ropewalklaw17_DoD)  (hm : m_ropewalklaw17_short N l0 = some ()) : Spec Try.prog 20 [.slice qp0 l0.length qc1] [.sli 5 R_Ropewalklaw17_DoD qp0 qc1 l0] [] (fun v Φr Hr => ∃ (o0 : Option Addr), v = .slice o0 ((l0.take (min l0.length 60)).length) qc1 ∧ Φr = [.sli 5 R_Ropewalklaw17_DoD o0 qc1 (l0.take (min l0.length 60))] ∧ Hr = []) := by
 unfold m_ropewalklaw17_short at hm
 refine spec_of Try.func20 rfl Try.ntmps20 rfl (S := [_]) rfl (fun C => ?_)
 refine wc_seq ?_
 refine wc_region ?_
 refine wl_pure rfl rfl rfl (freshS_eq rfl) rfl ?_
 refine wl_nil ?_
 refine we_then ?_
 refine wc_keep [0] (S' := [_]) rfl ?_
 refine wc_seq ?_
 refine wc_region ?_
 refine wl_pure rfl rfl rfl (freshS_eq rfl) rfl ?_
 refine wl_pure rfl rfl rfl (freshS_eq rfl) rfl ?_
 refine wl_len rfl rfl rfl (freshS_eq rfl) rfl rfl tE_40 ?_
 refine wl_reck rfl rfl rfl (freshS_eq rfl) (rk_min rfl rfl rfl) ?_
 refine wl_as (d := 6) (v' := .int .i64 ((min l0.length 60 : Nat) : Int)) (S' := [_,_,_,_]) rfl rfl (minI_nat (a := l0.length) (b := 60)) ?_
 obtain ⟨hg7, hm⟩ := gd_some hm
 refine wl_sliTo 0 rfl rfl rfl (freshS_eq rfl) rfl rfl rfl rfl rfl tE_40 tS_54 hg7 (fun p7 => ?_)
 refine wl_pure rfl rfl rfl (freshS_eq rfl) rfl ?_
 refine wl_nil ?_
 refine we_then ?_
 refine wc_keep [2] (S' := [_]) rfl ?_
 refine wc_ret ?_
 have hE := (Option.some.inj hm).symm
 refine ret_one (Hr := []) [] Try.results20 (res_tmp rfl) ⟨p7, rfl, rfl, rfl⟩ (fun _ _ hφ => ask [0] rfl hφ) rfl rfl (.inl rfl)
set_option maxRecDepth 100000 in
set_option maxHeartbeats 4000000 in
theorem w_ropewalkref17_New_s (N : Nat) (a0 : Int) (o1 : Int) (hm : m_ropewalkref17_New N a0 = some o1) : Spec Try.prog 47 [.int .i64 a0] [] [] (fun v Φr Hr => ∃ (o0 : Nat), v = .pointer (some ⟨o0, 0, none⟩) ∧ Φr = [] ∧ Hr = [.blk o0 [.int .i64 o1, .slice none 0 0] 85]) := by
 unfold m_ropewalkref17_New at hm
 refine spec_of Try.func47 rfl Try.ntmps47 rfl (S := [_]) rfl (fun C => ?_)
 refine wc_seq ?_
 refine wc_region ?_
 refine wl_pure rfl rfl rfl (freshS_eq rfl) rfl ?_
 refine wl_nil ?_
 refine we_then ?_
 refine wc_keep [0] (S' := [_]) rfl ?_
 refine wc_seq ?_
 obtain ⟨bj_1, hm, hLj_1⟩ := bindO_some hm
 refine wc_cut (σ := Int) (fun j_1_0 => bj_1 = j_1_0) (fun j_1_0 => [(0, .int .i64 j_1_0)]) (fun j_1_0 => []) (fun j_1_0 => []) ?_ ?_
 ·
  refine wc_seq ?_
  refine wc_region ?_
  refine wl_pure rfl rfl rfl (freshS_eq rfl) rfl ?_
  refine wl_pure rfl rfl rfl (freshS_eq rfl) rfl ?_
  refine wl_nil ?_
  refine we_then ?_
  refine wc_keep [4, 0] (S' := [_,_]) rfl ?_
  refine wc_cond rfl (fun hb4 => ?_) (fun hb4 => ?_)
  ·
   replace hm := iteT hm hb4
   refine wc_keep [] (S' := []) rfl ?_
   refine wc_region ?_
   refine wl_pure rfl rfl rfl (freshS_eq rfl) rfl ?_
   refine wl_nil ?_
   have hE := (Option.some.inj hm).symm
   refine we_join 0 hE [0] rfl (fun _ _ hφ => ask [] rfl hφ) rfl
  ·
   replace hm := iteF hm hb4
   refine wc_keep [0] (S' := [_]) rfl ?_
   refine wc_skip ?_
   have hE := (Option.some.inj hm).symm
   refine we_join a0 hE [0] rfl (fun _ _ hφ => ask [] rfl hφ) rfl
 ·
  rintro j_1_0 hE
  try dsimp only
  have hm := hLj_1
  rw [hE] at hm
  refine wc_seq ?_
  refine wc_region ?_
  refine wl_pure rfl rfl rfl (freshS_eq rfl) rfl ?_
  refine wl_build rfl rfl rfl (freshS_eq rfl) rfl tZ_85 tP_85 rfl (out := [_,_]) rfl ?_
  refine wl_box rfl rfl rfl (freshS_eq rfl) rfl rfl rfl (fun g7 => ?_)
  refine wl_pure rfl rfl rfl (freshS_eq rfl) rfl ?_
  refine wl_nil ?_
  refine we_then ?_
  refine wc_keep [2] (S' := [_]) rfl ?_
  refine wc_ret ?_
  have hE := (Option.some.inj hm).symm
  replace hE := hE.symm
  subst hE
  refine ret_one (Hr := [_]) [0] Try.results47 (res_tmp rfl) ⟨g7, rfl, rfl, rfl⟩ (fun _ _ hφ => ask [] rfl hφ) rfl rfl (.inl rfl)
set_option maxRecDepth 100000 in
set_option maxHeartbeats 4000000 in
theorem w_ropewalklaw17_begin_s (N : Nat) (a0 : Int) (o3 : Int) (hm : m_ropewalklaw17_begin N a0 = some o3) : Spec Try.prog 21 [.int .i64 a0] [] [] (fun v Φr Hr => ∃ (o0 : Nat) (o1 : Nat) (o2 : Nat), v = .agg #[.pointer (some ⟨o0, 0, none⟩), .pointer (some ⟨o2, 0, none⟩)] ∧ Φr = [] ∧ Hr = [.blk o0 [.int .i64 (maxI a0 0), .map (some o1)] 59, mapP (keyStr (tStr_run tT_9)) true R_Disk_rowsD o1 ([] : List (ByteArray × Disk_rowsD)), .blk o2 [.int .i64 o3, .slice none 0 0] 85]) := by
 unfold m_ropewalklaw17_begin at hm
 refine spec_of Try.func21 rfl Try.ntmps21 rfl (S := [_]) rfl (fun C => ?_)
 refine wc_seq ?_
 refine wc_region ?_
 refine wl_alloc rfl rfl rfl (freshS_eq rfl) rfl tZ_44 rfl (fun g2 => ?_)
 refine wl_nil ?_
 refine we_then ?_
 refine wc_seq ?_
 refine wc_region ?_
 refine wl_pure rfl rfl rfl (freshS_eq rfl) rfl ?_
 obtain ⟨_, hc4, hm⟩ := bindO_some hm
 try dsimp only at hm
 refine wl_call [] [0] rfl rfl rfl (freshS_eq rfl) rfl rfl fn_10 rfl (w_disk_New_s N a0 hc4) (fun _ _ hφ => ask [] rfl hφ) rfl (H' := [_]) rfl ?_
 rintro _ _ _ ⟨c4_0, c4_1, rfl, rfl, rfl⟩
 refine wl_pure rfl rfl rfl (freshS_eq rfl) rfl ?_
 obtain ⟨v6, hc6, hm⟩ := bindO_some hm
 refine wl_call [] [0, 1, 2] rfl rfl rfl (freshS_eq rfl) rfl rfl fn_47 rfl (w_ropewalkref17_New_s N a0 _ hc6) (fun _ _ hφ => ask [] rfl hφ) rfl (H' := [_,_,_]) rfl ?_
 rintro _ _ _ ⟨c6_0, rfl, rfl, rfl⟩
 refine wl_build rfl rfl rfl (freshS_eq rfl) rfl tZ_44 tP_44 rfl (out := [_,_]) rfl ?_
 refine wl_store 3 0 rfl rfl rfl rfl rfl rfl rfl tS_44 rfl rfl rfl (all' := [_,_]) rfl (H' := [_,_,_,_]) rfl ?_
 refine wl_nil ?_
 refine we_then ?_
 refine wc_keep [2] (S' := [_]) rfl ?_
 refine wc_ret ?_
 have hE := (Option.some.inj hm).symm
 replace hE := hE.symm
 subst hE
 refine ret_one (Hr := [_, _, _]) [1, 2, 0] Try.results21 (res_cell 3 rfl rfl tS_44 tA_44 rfl rfl) ⟨c4_0, c4_1, c6_0, rfl, rfl, rfl⟩ (fun _ _ hφ => ask [] rfl hφ) rfl rfl (.inl rfl)
set_option maxRecDepth 100000 in
set_option maxHeartbeats 4000000 in
theorem w_ropewalkref17_Disk_split_s (N : Nat) (qg0 : Nat) (a0 : Int) (qp1 : Option Addr) (qn2 : Nat) (qc3 : Nat) (l1 : List Ropewalkref17_entryD) (a2 : ByteArray) (o0 : ByteArray) (o1 : ByteArray) (o2 : ByteArray) (o5 : List Ropewalkref17_entryD) (o7 : Bool) (hm : m_ropewalkref17_Disk_split N a0 l1 a2 = some (o0, o1, o2, o5, o7)) : Spec Try.prog 75 [.pointer (some ⟨qg0, 0, none⟩), .string a2] [] [.blk qg0 [.int .i64 a0, .slice qp1 qn2 qc3] 85, .own 87 3 R_Ropewalkref17_entryD (.slice qp1 qn2 qc3) l1] (fun v Φr Hr => ∃ (o3 : Option Addr) (o4 : Nat) (o6 : Nat), v = .tuple #[.agg #[.string o0, .string o1, .string o2], .slice o3 o6 o4, .bool o7] ∧ Φr = [] ∧ Hr = [.own 87 3 R_Ropewalkref17_entryD (.slice o3 o6 o4) o5, .blk qg0 [.int .i64 a0, .slice qp1 qn2 qc3] 85, .own 87 3 R_Ropewalkref17_entryD (.slice qp1 qn2 qc3) l1]) := by
 unfold m_ropewalkref17_Disk_split at hm
 refine spec_of Try.func75 rfl Try.ntmps75 rfl (S := [_,_]) rfl (fun C => ?_)
 refine wc_seq ?_
 refine wc_region ?_
 refine wl_alloc rfl rfl rfl (freshS_eq rfl) rfl tZ_87 rfl (fun g4 => ?_)
 refine wl_pure rfl rfl rfl (freshS_eq rfl) rfl ?_
 refine wl_pure rfl rfl rfl (freshS_eq rfl) rfl ?_
 refine wl_nil ?_
 refine we_then ?_
 refine wc_keep [4, 0, 1] (S' := [_,_,_]) rfl ?_
 refine wc_seq ?_
 refine wc_region ?_
 refine wl_pure rfl rfl rfl (freshS_eq rfl) rfl ?_
 refine wl_build rfl rfl rfl (freshS_eq rfl) rfl tZ_87 tP_87 rfl (out := [_,_,_]) rfl ?_
 refine wl_alloc rfl rfl rfl (freshS_eq rfl) rfl tZ_87 rfl (fun g7 => ?_)
 refine wl_store 0 0 rfl rfl rfl rfl rfl rfl rfl tS_87 rfl rfl rfl (all' := [_,_,_]) rfl (H' := [_,_,_,_]) rfl ?_
 refine wl_nil ?_
 refine we_then ?_
 refine wc_keep [7, 4, 0, 1] (S' := [_,_,_,_]) rfl ?_
 refine wc_seq ?_
 refine wc_region ?_
 refine wl_pure rfl rfl rfl (freshS_eq rfl) rfl ?_
 refine wl_nil ?_
 refine we_then ?_
 refine wc_seq ?_
 refine wc_region ?_
 refine wl_pure rfl rfl rfl (freshS_eq rfl) rfl ?_
 refine wl_nil ?_
 refine we_then ?_
 refine wc_seq ?_
 obtain ⟨bj_1, hm, hLj_1⟩ := bindO_some hm
 refine wc_cut (σ := ByteArray × ByteArray × ByteArray × Bool × (List Ropewalkref17_entryD) × (Option Addr) × Nat × Nat) (fun (j_1_7_f0, j_1_7_f1, j_1_7_f2, j_1_8, j_1_9_l, j_1_9_p, j_1_9_c, j_1_9_n) => bj_1 = (j_1_7_f0, j_1_7_f1, j_1_7_f2, j_1_8, j_1_9_l)) (fun (j_1_7_f0, j_1_7_f1, j_1_7_f2, j_1_8, j_1_9_l, j_1_9_p, j_1_9_c, j_1_9_n) => [(7, .pointer (some ⟨g7, 0, none⟩)), (4, .pointer (some ⟨g4, 0, none⟩)), (8, .bool j_1_8), (9, .slice j_1_9_p j_1_9_n j_1_9_c)]) (fun (j_1_7_f0, j_1_7_f1, j_1_7_f2, j_1_8, j_1_9_l, j_1_9_p, j_1_9_c, j_1_9_n) => []) (fun (j_1_7_f0, j_1_7_f1, j_1_7_f2, j_1_8, j_1_9_l, j_1_9_p, j_1_9_c, j_1_9_n) => [.blk g7 [.string j_1_7_f0, .string j_1_7_f1, .string j_1_7_f2] 87, .blk g4 [.string ((⟨#[]⟩ : ByteArray)), .string ((⟨#[]⟩ : ByteArray)), .string ((⟨#[]⟩ : ByteArray))] 87, .own 87 3 R_Ropewalkref17_entryD (.slice j_1_9_p j_1_9_n j_1_9_c) j_1_9_l, .blk qg0 [.int .i64 a0, .slice qp1 qn2 qc3] 85, .own 87 3 R_Ropewalkref17_entryD (.slice qp1 qn2 qc3) l1]) ?_ ?_
 ·
  refine wc_seq ?_
  refine wc_region ?_
  refine wl_pure rfl rfl rfl (freshS_eq rfl) rfl ?_
  refine wl_pure rfl rfl rfl (freshS_eq rfl) rfl ?_
  refine wl_fieldAddr rfl rfl rfl (freshS_eq rfl) rfl rfl tF_85_1 ?_
  refine wl_loadH 2 1 rfl rfl rfl (freshS_eq rfl) rfl rfl rfl (cs := [_]) rfl tS_83 tA_83 rfl rfl ?_
  refine wl_ownLen 3 rfl (fun hl18 _ => ?_)
  refine wl_len rfl rfl rfl (freshS_eq rfl) rfl rfl tE_83 ?_
  refine wl_as (d := 18) (v' := .int .i64 ((l1.length : Nat) : Int)) (S' := [_,_,_,_,_,_,_,_,_,_]) rfl rfl (len_is hl18) ?_
  refine wl_pure rfl rfl rfl (freshS_eq rfl) rfl ?_
  refine wl_nil ?_
  refine we_then ?_
  refine wc_keep [19, 18, 17, 9, 8, 7, 4, 1] (S' := [_,_,_,_,_,_,_,_]) rfl ?_
  refine wc_block ?_
  refine wc_rowNil 87 3 R_Ropewalkref17_entryD ?_
  refine wc_pick [4, 0, 1, 2, 3] rfl (H' := [_,_,_,_,_]) rfl ?_
  refine wc_loop (σ := Nat × Nat × (List Ropewalkref17_entryD) × Bool × ByteArray × ByteArray × ByteArray × (Option Addr) × Nat × Nat) (fun (nu1, u1_19, u1_9_l, u1_8, u1_7_f0, u1_7_f1, u1_7_f2, u1_9_p, u1_9_c, u1_9_n) => iter (m_ropewalkref17_Disk_split_L1 N l1 a2) nu1 (u1_19, u1_9_l, u1_8, u1_7_f0, u1_7_f1, u1_7_f2) = some bj_1) (fun (nu1, u1_19, u1_9_l, u1_8, u1_7_f0, u1_7_f1, u1_7_f2, u1_9_p, u1_9_c, u1_9_n) => nu1) (fun (nu1, u1_19, u1_9_l, u1_8, u1_7_f0, u1_7_f1, u1_7_f2, u1_9_p, u1_9_c, u1_9_n) => [(19, .int .i64 ((u1_19 : Nat) : Int)), (18, .int .i64 ((l1.length : Nat) : Int)), (17, .slice qp1 qn2 qc3), (9, .slice u1_9_p u1_9_n u1_9_c), (8, .bool u1_8), (7, .pointer (some ⟨g7, 0, none⟩)), (4, .pointer (some ⟨g4, 0, none⟩)), (1, .string a2)]) (fun (nu1, u1_19, u1_9_l, u1_8, u1_7_f0, u1_7_f1, u1_7_f2, u1_9_p, u1_9_c, u1_9_n) => []) (fun (nu1, u1_19, u1_9_l, u1_8, u1_7_f0, u1_7_f1, u1_7_f2, u1_9_p, u1_9_c, u1_9_n) => [.own 87 3 R_Ropewalkref17_entryD (.slice qp1 qn2 qc3) l1, .own 87 3 R_Ropewalkref17_entryD (.slice u1_9_p u1_9_n u1_9_c) u1_9_l, .blk g7 [.string u1_7_f0, .string u1_7_f1, .string u1_7_f2] 87, .blk g4 [.string ((⟨#[]⟩ : ByteArray)), .string ((⟨#[]⟩ : ByteArray)), .string ((⟨#[]⟩ : ByteArray))] 87, .blk qg0 [.int .i64 a0, .slice qp1 qn2 qc3] 85]) (N, 0, [], false, a2, (⟨#[]⟩ : ByteArray), (⟨#[]⟩ : ByteArray), none, 0, 0) hm [19, 18, 17, 9, 8, 7, 4, 1] rfl (fun _ _ hφ => ask [] rfl hφ) rfl (fun s_ hm => ?_)
  obtain ⟨nu1, u1_19, u1_9_l, u1_8, u1_7_f0, u1_7_f1, u1_7_f2, u1_9_p, u1_9_c, u1_9_n⟩ := s_
  try dsimp only at hm ⊢
  obtain ⟨mu1, bu1, hnu1, hq, hLu1⟩ := iter_some hm
  clear hm
  subst hnu1
  replace hm := hq
  clear hq
  unfold m_ropewalkref17_Disk_split_L1 at hm
  try dsimp only at hm
  refine wc_seq ?_
  refine wc_region ?_
  refine wl_pure rfl rfl rfl (freshS_eq rfl) rfl ?_
  refine wl_as (d := 20) (v' := .bool (decide (u1_19 < l1.length))) (S' := [_,_,_,_,_,_,_,_]) rfl rfl (natlt (a := u1_19) (b := l1.length)) ?_
  refine wl_nil ?_
  refine we_then ?_
  refine wc_seq ?_
  refine wc_cond rfl (fun hb20 => ?_) (fun hb20 => ?_)
  ·
   replace hm := iteT hm hb20
   refine wc_keep [19, 18, 17, 9, 8, 7, 4, 1] (S' := [_,_,_,_,_,_,_,_]) rfl ?_
   refine wc_skip ?_
   refine we_then ?_
   refine wc_seq ?_
   obtain ⟨bj_2, hm, hLj_2⟩ := bindO_some hm
   refine wc_cut (σ := (List Ropewalkref17_entryD) × Bool × ByteArray × ByteArray × ByteArray × (Option Addr) × Nat × Nat) (fun (j_2_9_l, j_2_8, j_2_7_f0, j_2_7_f1, j_2_7_f2, j_2_9_p, j_2_9_c, j_2_9_n) => bj_2 = (j_2_9_l, j_2_8, j_2_7_f0, j_2_7_f1, j_2_7_f2)) (fun (j_2_9_l, j_2_8, j_2_7_f0, j_2_7_f1, j_2_7_f2, j_2_9_p, j_2_9_c, j_2_9_n) => [(19, .int .i64 ((u1_19 : Nat) : Int)), (18, .int .i64 ((l1.length : Nat) : Int)), (17, .slice qp1 qn2 qc3), (9, .slice j_2_9_p j_2_9_n j_2_9_c), (8, .bool j_2_8), (7, .pointer (some ⟨g7, 0, none⟩)), (4, .pointer (some ⟨g4, 0, none⟩)), (1, .string a2)]) (fun (j_2_9_l, j_2_8, j_2_7_f0, j_2_7_f1, j_2_7_f2, j_2_9_p, j_2_9_c, j_2_9_n) => []) (fun (j_2_9_l, j_2_8, j_2_7_f0, j_2_7_f1, j_2_7_f2, j_2_9_p, j_2_9_c, j_2_9_n) => [.own 87 3 R_Ropewalkref17_entryD (.slice qp1 qn2 qc3) l1, .own 87 3 R_Ropewalkref17_entryD (.slice j_2_9_p j_2_9_n j_2_9_c) j_2_9_l, .blk g7 [.string j_2_7_f0, .string j_2_7_f1, .string j_2_7_f2] 87, .blk g4 [.string ((⟨#[]⟩ : ByteArray)), .string ((⟨#[]⟩ : ByteArray)), .string ((⟨#[]⟩ : ByteArray))] 87, .blk qg0 [.int .i64 a0, .slice qp1 qn2 qc3] 85]) ?_ ?_
   ·
    refine wc_block ?_
    refine wc_seq ?_
    refine wc_region ?_
    obtain ⟨x21, hx21, hm⟩ := bindO_some hm
    refine wl_indexH 0 u1_19 rfl rfl rfl (freshS_eq rfl) rfl rfl rfl rfl rfl (get_lt hx21) tE_83 tS_87 (fun g21 eg21 => ?_)
    subst eg21
    refine wl_loadRow R_Ropewalkref17_entryD_opens 0 u1_19 0 rfl rfl rfl (freshS_eq rfl) rfl rfl rfl hx21 tS_87 tA_87 (v := fun _ => .agg #[.string x21.name, .string x21.firm, .string x21.loose]) (fun _ => rfl) (fun _ => rfl) (fun _ _ => ?_)
    refine wl_alloc rfl rfl rfl (freshS_eq rfl) rfl tZ_87 rfl (fun g11 => ?_)
    refine wl_store 0 0 rfl rfl rfl rfl rfl rfl rfl tS_87 rfl rfl rfl (all' := [_,_,_]) rfl (H' := [_,_,_,_,_,_]) rfl ?_
    refine wl_nil ?_
    refine we_then ?_
    refine wc_keep [11, 19, 18, 17, 9, 8, 7, 4, 1] (S' := [_,_,_,_,_,_,_,_,_]) rfl ?_
    refine wc_seq ?_
    refine wc_seq ?_
    refine wc_region ?_
    refine wl_fieldAddr rfl rfl rfl (freshS_eq rfl) rfl rfl tF_87_0 ?_
    refine wl_loadH 0 0 rfl rfl rfl (freshS_eq rfl) rfl rfl rfl (cs := [_]) rfl tS_9 tA_9 rfl rfl ?_
    refine wl_pure rfl rfl rfl (freshS_eq rfl) rfl ?_
    refine wl_pure rfl rfl rfl (freshS_eq rfl) rfl ?_
    refine wl_nil ?_
    refine we_then ?_
    refine wc_keep [26, 11, 19, 18, 17, 9, 8, 7, 4, 1] (S' := [_,_,_,_,_,_,_,_,_,_]) rfl ?_
    refine wc_cond rfl (fun hb26 => ?_) (fun hb26 => ?_)
    ·
     replace hm := iteT hm hb26
     refine wc_keep [11, 19, 18, 17, 9, 8, 7, 4, 1] (S' := [_,_,_,_,_,_,_,_,_]) rfl ?_
     refine wc_seq ?_
     refine wc_region ?_
     refine wl_pure rfl rfl rfl (freshS_eq rfl) rfl ?_
     refine wl_loadH 0 0 rfl rfl rfl (freshS_eq rfl) rfl rfl rfl (cs := [_,_,_]) rfl tS_87 tA_87 rfl rfl ?_
     refine wl_buildSlice rfl rfl rfl (freshS_eq rfl) rfl tE_83 tS_87 tZ_87 rfl (zs := [.string ((⟨#[]⟩ : ByteArray)), .string ((⟨#[]⟩ : ByteArray)), .string ((⟨#[]⟩ : ByteArray))]) (by kernel_rfl) rfl (out := [_,_,_]) rfl (fun g29 => ?_)
     obtain ⟨hg30, hm⟩ := gd_some hm
     refine wl_appendH [x21] 3 0 rfl rfl rfl (freshS_eq rfl) rfl rfl rfl rfl rfl (fun F w hφ => ⟨[.string x21.name, .string x21.firm, .string x21.loose], [], rfl, rfl, ⟨(), rfl, ask_nil⟩, rfl⟩) tE_83 tR_87 rfl rfl (Nat.le_trans hg30 (by decide)) (Nat.le_trans (Nat.mul_le_mul_right _ hg30) (by decide)) (H2 := fun p30 c30 => [.blk g29 [.string x21.name, .string x21.firm, .string x21.loose] 87, .blk g11 [.string x21.name, .string x21.firm, .string x21.loose] 87, .own 87 3 R_Ropewalkref17_entryD (.slice (some ⟨g21, 0, none⟩) qn2 qc3) l1, .own 87 3 R_Ropewalkref17_entryD (.slice p30 ((u1_9_l ++ [x21]).length) c30) (u1_9_l ++ [x21]), .blk g7 [.string u1_7_f0, .string u1_7_f1, .string u1_7_f2] 87, .blk g4 [.string ((⟨#[]⟩ : ByteArray)), .string ((⟨#[]⟩ : ByteArray)), .string ((⟨#[]⟩ : ByteArray))] 87, .blk qg0 [.int .i64 a0, .slice (some ⟨g21, 0, none⟩) qn2 qc3] 85]) (fun _ _ => rfl) (fun p30 c30 => ?_)
     refine wl_drop 0 rfl (H' := [_,_,_,_,_,_]) rfl ?_
     refine wl_pure (S' := [_,_,_,_,_,_,_,_,_,_,_,_]) rfl rfl rfl rfl rfl ?_
     refine wl_nil ?_
     refine we_then ?_
     refine wc_keep [9, 19, 18, 17, 8, 7, 4, 1] (S' := [_,_,_,_,_,_,_,_]) rfl ?_
     refine wc_exit ?_
     refine we_then_exit ?_
     refine we_block_hit ?_
     have hE := (Option.some.inj hm).symm
     refine we_pick [1, 2, 3, 4, 5] rfl (H' := [_,_,_,_,_]) rfl ?_
     refine we_join (u1_9_l ++ [x21], u1_8, u1_7_f0, u1_7_f1, u1_7_f2, p30, c30, (u1_9_l ++ [x21]).length) hE [19, 18, 17, 9, 8, 7, 4, 1] rfl (fun _ _ hφ => ask [] rfl hφ) rfl
    ·
     replace hm := iteF hm hb26
     refine wc_keep [11, 19, 18, 17, 9, 7, 4, 1] (S' := [_,_,_,_,_,_,_,_]) rfl ?_
     refine wc_skip ?_
     refine we_then ?_
     refine wc_seq ?_
     refine wc_region ?_
     refine wl_loadH 0 0 rfl rfl rfl (freshS_eq rfl) rfl rfl rfl (cs := [_,_,_]) rfl tS_87 tA_87 rfl rfl ?_
     refine wl_store 3 0 rfl rfl rfl rfl rfl rfl rfl tS_87 rfl rfl rfl (all' := [_,_,_]) rfl (H' := [_,_,_,_,_,_]) rfl ?_
     refine wl_nil ?_
     refine we_then ?_
     refine wc_keep [19, 18, 17, 9, 7, 4, 1] (S' := [_,_,_,_,_,_,_]) rfl ?_
     refine wc_region ?_
     refine wl_pure rfl rfl rfl (freshS_eq rfl) rfl ?_
     refine wl_nil ?_
     refine we_block_normal ?_
     have hE := (Option.some.inj hm).symm
     refine we_pick [1, 2, 3, 4, 5] rfl (H' := [_,_,_,_,_]) rfl ?_
     refine we_join (u1_9_l, true, x21.name, x21.firm, x21.loose, u1_9_p, u1_9_c, u1_9_n) hE [19, 18, 17, 9, 8, 7, 4, 1] rfl (fun _ _ hφ => ask [] rfl hφ) rfl
   ·
    rintro ⟨j_2_9_l, j_2_8, j_2_7_f0, j_2_7_f1, j_2_7_f2, j_2_9_p, j_2_9_c, j_2_9_n⟩ hE
    try dsimp only
    have hm := hLj_2
    rw [hE] at hm
    try dsimp only at hm
    refine wc_region ?_
    refine wl_pure rfl rfl rfl (freshS_eq rfl) rfl ?_
    obtain ⟨hg32, hm⟩ := gd_some hm
    refine wl_as (d := 32) (v' := .int .i64 ((u1_19 + 1 : Nat) : Int)) (S' := [_,_,_,_,_,_,_,_]) rfl rfl (nat_add (a := u1_19) (b := 1) hg32) ?_
    refine wl_pure (S' := [_,_,_,_,_,_,_,_]) rfl rfl rfl rfl rfl ?_
    refine wl_nil ?_
    have hE := (Option.some.inj hm).symm
    replace hE := link_inl hLu1 hE
    refine we_roundK (_, u1_19 + 1, j_2_9_l, j_2_8, j_2_7_f0, j_2_7_f1, j_2_7_f2, j_2_9_p, j_2_9_c, j_2_9_n) (Nat.lt_succ_self _) hE [19, 18, 17, 9, 8, 7, 4, 1] rfl (fun _ _ hφ => ask [] rfl hφ) rfl
  ·
   replace hm := iteF hm hb20
   refine wc_keep [9, 8, 7, 4] (S' := [_,_,_,_]) rfl ?_
   refine wc_exit ?_
   refine we_then_exit ?_
   refine we_then_exit ?_
   refine we_block_hit ?_
   have hE := (Option.some.inj hm).symm
   replace hE := link_inr hLu1 hE
   refine we_pick [2, 3, 1, 4, 0] rfl (H' := [_,_,_,_,_]) rfl ?_
   refine we_join (u1_7_f0, u1_7_f1, u1_7_f2, u1_8, u1_9_l, u1_9_p, u1_9_c, u1_9_n) hE [7, 4, 8, 9] rfl (fun _ _ hφ => ask [] rfl hφ) rfl
 ·
  rintro ⟨j_1_7_f0, j_1_7_f1, j_1_7_f2, j_1_8, j_1_9_l, j_1_9_p, j_1_9_c, j_1_9_n⟩ hE
  try dsimp only
  have hm := hLj_1
  rw [hE] at hm
  try dsimp only at hm
  refine wc_seq ?_
  refine wc_region ?_
  refine wl_loadH 0 0 rfl rfl rfl (freshS_eq rfl) rfl rfl rfl (cs := [_,_,_]) rfl tS_87 tA_87 rfl rfl ?_
  refine wl_pure rfl rfl rfl (freshS_eq rfl) rfl ?_
  refine wl_pure rfl rfl rfl (freshS_eq rfl) rfl ?_
  refine wl_store 1 0 rfl rfl rfl rfl rfl rfl rfl tS_87 rfl rfl rfl (all' := [_,_,_]) rfl (H' := [_,_,_,_,_]) rfl ?_
  refine wl_pure rfl rfl rfl (freshS_eq rfl) rfl ?_
  refine wl_pure rfl rfl rfl (freshS_eq rfl) rfl ?_
  refine wl_nil ?_
  refine we_then ?_
  refine wc_keep [6, 5, 4] (S' := [_,_,_]) rfl ?_
  refine wc_ret ?_
  have hE := (Option.some.inj hm).symm
  obtain ⟨hE0, hF1⟩ := Prod.mk.inj hE
  obtain ⟨hE1, hF2⟩ := Prod.mk.inj hF1
  obtain ⟨hE2, hF3⟩ := Prod.mk.inj hF2
  obtain ⟨hE3, hE4⟩ := Prod.mk.inj hF3
  clear hE hF1 hF2 hF3
  replace hE0 := hE0.symm
  subst hE0
  replace hE1 := hE1.symm
  subst hE1
  replace hE2 := hE2.symm
  subst hE2
  replace hE3 := hE3.symm
  subst hE3
  replace hE4 := hE4.symm
  subst hE4
  refine ret_three (Hr := [_, _, _]) [2, 3, 4] Try.results75 (res_cell 1 rfl rfl tS_87 tA_87 rfl rfl) (res_tmp rfl) (res_tmp rfl) ⟨j_1_9_p, j_1_9_c, j_1_9_n, rfl, rfl, rfl⟩ (fun _ _ hφ => ask [] rfl hφ) rfl rfl (.inl rfl)
set_option maxRecDepth 100000 in
set_option maxHeartbeats 4000000 in
theorem w_ropewalkref17_fit_s (N : Nat) (a0 : ByteArray) (o0 : Bool) (hm : m_ropewalkref17_fit N a0 = some o0) : Spec Try.prog 76 [.string a0] [] [] (fun v Φr Hr => v = .bool o0 ∧ Φr = [] ∧ Hr = []) := by
 unfold m_ropewalkref17_fit at hm
 refine spec_of Try.func76 rfl Try.ntmps76 rfl (S := [_]) rfl (fun C => ?_)
 refine wc_seq ?_
 refine wc_region ?_
 refine wl_pure rfl rfl rfl (freshS_eq rfl) rfl ?_
 refine wl_nil ?_
 refine we_then ?_
 refine wc_keep [0] (S' := [_]) rfl ?_
 refine wc_seq ?_
 refine wc_region ?_
 refine wl_pure rfl rfl rfl (freshS_eq rfl) rfl ?_
 refine wl_nil ?_
 refine we_then ?_
 refine wc_seq ?_
 refine wc_region ?_
 refine wl_pure rfl rfl rfl (freshS_eq rfl) rfl ?_
 refine wl_nil ?_
 refine we_then ?_
 refine wc_seq ?_
 obtain ⟨bj_1, hm, hLj_1⟩ := bindO_some hm
 refine wc_cut (σ := Nat) (fun j_1_4 => bj_1 = j_1_4) (fun j_1_4 => [(0, .string a0), (4, .int .i64 ((j_1_4 : Nat) : Int))]) (fun j_1_4 => []) (fun j_1_4 => []) ?_ ?_
 ·
  refine wc_seq ?_
  refine wc_region ?_
  refine wl_pure rfl rfl rfl (freshS_eq rfl) rfl ?_
  refine wl_nil ?_
  refine we_then ?_
  refine wc_block ?_
  refine wc_loop (σ := Nat × Nat × Nat) (fun (nu1, u1_5, u1_4) => iter (m_ropewalkref17_fit_L1 N a0) nu1 (u1_5, u1_4) = some bj_1) (fun (nu1, u1_5, u1_4) => nu1) (fun (nu1, u1_5, u1_4) => [(5, .int .i64 ((u1_5 : Nat) : Int)), (4, .int .i64 ((u1_4 : Nat) : Int)), (3, .string ((⟨#[97, 98, 99, 100, 101, 102, 103, 104, 105, 106, 107, 108, 109, 110, 111, 112, 113, 114, 115, 116, 117, 118, 119, 120, 121, 122, 48, 49, 50, 51, 52, 53, 54, 55, 56, 57, 46, 45]⟩ : ByteArray))), (0, .string a0)]) (fun (nu1, u1_5, u1_4) => []) (fun (nu1, u1_5, u1_4) => []) (N, 0, 0) hm [5, 4, 3, 0] rfl (fun _ _ hφ => ask [] rfl hφ) rfl (fun s_ hm => ?_)
  obtain ⟨nu1, u1_5, u1_4⟩ := s_
  try dsimp only at hm ⊢
  obtain ⟨mu1, bu1, hnu1, hq, hLu1⟩ := iter_some hm
  clear hm
  subst hnu1
  replace hm := hq
  clear hq
  unfold m_ropewalkref17_fit_L1 at hm
  try dsimp only at hm
  refine wc_seq ?_
  refine wc_seq ?_
  refine wc_region ?_
  refine wl_pure rfl rfl rfl (freshS_eq rfl) rfl ?_
  refine wl_pure rfl rfl rfl (freshS_eq rfl) rfl ?_
  refine wl_reck rfl rfl rfl (freshS_eq rfl) (rk_strLen rfl rfl tT_9) ?_
  refine wl_pure rfl rfl rfl (freshS_eq rfl) rfl ?_
  refine wl_as (d := 10) (v' := .bool (decide (u1_5 < a0.size))) (S' := [_,_,_,_,_,_,_]) rfl rfl (natlt (a := u1_5) (b := a0.size)) ?_
  refine wl_nil ?_
  refine we_then ?_
  refine wc_keep [10, 5, 4, 3, 0] (S' := [_,_,_,_,_]) rfl ?_
  refine wc_cond rfl (fun hb10 => ?_) (fun hb10 => ?_)
  ·
   replace hm := iteT hm hb10
   refine wc_keep [5, 4, 3, 0] (S' := [_,_,_,_]) rfl ?_
   refine wc_skip ?_
   refine we_then ?_
   refine wc_seq ?_
   obtain ⟨bj_2, hm, hLj_2⟩ := bindO_some hm
   refine wc_cut (σ := Nat) (fun j_2_4 => bj_2 = j_2_4) (fun j_2_4 => [(5, .int .i64 ((u1_5 : Nat) : Int)), (4, .int .i64 ((j_2_4 : Nat) : Int)), (3, .string ((⟨#[97, 98, 99, 100, 101, 102, 103, 104, 105, 106, 107, 108, 109, 110, 111, 112, 113, 114, 115, 116, 117, 118, 119, 120, 121, 122, 48, 49, 50, 51, 52, 53, 54, 55, 56, 57, 46, 45]⟩ : ByteArray))), (0, .string a0)]) (fun j_2_4 => []) (fun j_2_4 => []) ?_ ?_
   ·
    refine wc_block ?_
    refine wc_seq ?_
    refine wc_region ?_
    refine wl_pure rfl rfl rfl (freshS_eq rfl) rfl ?_
    refine wl_nil ?_
    refine we_then ?_
    refine wc_block ?_
    refine wc_loop (σ := Nat × Nat × Nat) (fun (nu2, u2_6, u2_4) => iter (m_ropewalkref17_fit_L2 N a0 u1_5) nu2 (u2_6, u2_4) = some bj_2) (fun (nu2, u2_6, u2_4) => nu2) (fun (nu2, u2_6, u2_4) => [(6, .int .i64 ((u2_6 : Nat) : Int)), (5, .int .i64 ((u1_5 : Nat) : Int)), (4, .int .i64 ((u2_4 : Nat) : Int)), (3, .string ((⟨#[97, 98, 99, 100, 101, 102, 103, 104, 105, 106, 107, 108, 109, 110, 111, 112, 113, 114, 115, 116, 117, 118, 119, 120, 121, 122, 48, 49, 50, 51, 52, 53, 54, 55, 56, 57, 46, 45]⟩ : ByteArray))), (0, .string a0)]) (fun (nu2, u2_6, u2_4) => []) (fun (nu2, u2_6, u2_4) => []) (N, 0, u1_4) hm [6, 5, 4, 3, 0] rfl (fun _ _ hφ => ask [] rfl hφ) rfl (fun s_ hm => ?_)
    obtain ⟨nu2, u2_6, u2_4⟩ := s_
    try dsimp only at hm ⊢
    obtain ⟨mu2, bu2, hnu2, hq, hLu2⟩ := iter_some hm
    clear hm
    subst hnu2
    replace hm := hq
    clear hq
    unfold m_ropewalkref17_fit_L2 at hm
    try dsimp only at hm
    refine wc_seq ?_
    refine wc_seq ?_
    refine wc_region ?_
    refine wl_pure rfl rfl rfl (freshS_eq rfl) rfl ?_
    refine wl_pure rfl rfl rfl (freshS_eq rfl) rfl ?_
    refine wl_reck rfl rfl rfl (freshS_eq rfl) (rk_strLen rfl rfl tT_9) ?_
    refine wl_pure rfl rfl rfl (freshS_eq rfl) rfl ?_
    refine wl_as (d := 16) (v' := .bool (decide (u2_6 < ((⟨#[97, 98, 99, 100, 101, 102, 103, 104, 105, 106, 107, 108, 109, 110, 111, 112, 113, 114, 115, 116, 117, 118, 119, 120, 121, 122, 48, 49, 50, 51, 52, 53, 54, 55, 56, 57, 46, 45]⟩ : ByteArray).size)))) (S' := [_,_,_,_,_,_,_,_]) rfl rfl (natlt (a := u2_6) (b := (⟨#[97, 98, 99, 100, 101, 102, 103, 104, 105, 106, 107, 108, 109, 110, 111, 112, 113, 114, 115, 116, 117, 118, 119, 120, 121, 122, 48, 49, 50, 51, 52, 53, 54, 55, 56, 57, 46, 45]⟩ : ByteArray).size)) ?_
    refine wl_nil ?_
    refine we_then ?_
    refine wc_keep [16, 6, 5, 4, 3, 0] (S' := [_,_,_,_,_,_]) rfl ?_
    refine wc_cond rfl (fun hb16 => ?_) (fun hb16 => ?_)
    ·
     replace hm := iteT hm hb16
     refine wc_keep [6, 5, 4, 3, 0] (S' := [_,_,_,_,_]) rfl ?_
     refine wc_skip ?_
     refine we_then ?_
     refine wc_seq ?_
     obtain ⟨bj_3, hm, hLj_3⟩ := bindO_some hm
     refine wc_cut (σ := Nat) (fun j_3_4 => bj_3 = j_3_4) (fun j_3_4 => [(6, .int .i64 ((u2_6 : Nat) : Int)), (5, .int .i64 ((u1_5 : Nat) : Int)), (4, .int .i64 ((j_3_4 : Nat) : Int)), (3, .string ((⟨#[97, 98, 99, 100, 101, 102, 103, 104, 105, 106, 107, 108, 109, 110, 111, 112, 113, 114, 115, 116, 117, 118, 119, 120, 121, 122, 48, 49, 50, 51, 52, 53, 54, 55, 56, 57, 46, 45]⟩ : ByteArray))), (0, .string a0)]) (fun j_3_4 => []) (fun j_3_4 => []) ?_ ?_
     ·
      refine wc_block ?_
      refine wc_seq ?_
      obtain ⟨x21, hx21, hm⟩ := bindO_some hm
      obtain ⟨x24, hx24, hm⟩ := bindO_some hm
      refine wc_draw [0, 1, 2, 3, 4, 5, 6] rfl rfl (fun hok => ?_)
      refine wx_pure hok 0 rfl rfl rfl (freshS_eq rfl) rfl rfl ?_
      refine wx_pure hok 1 rfl rfl rfl (freshS_eq rfl) rfl rfl ?_
      refine wx_reck hok 2 rfl rfl rfl (freshS_eq rfl) rfl (rk_strAt u1_5 rfl rfl rfl rfl hx21 tT_9) ?_
      refine wx_pure hok 3 rfl rfl rfl (freshS_eq rfl) rfl rfl ?_
      refine wx_pure hok 4 rfl rfl rfl (freshS_eq rfl) rfl rfl ?_
      refine wx_reck hok 5 rfl rfl rfl (freshS_eq rfl) rfl (rk_strAt u2_6 rfl rfl rfl rfl hx24 tT_9) ?_
      refine wx_pure hok 6 rfl rfl rfl (freshS_eq rfl) rfl rfl ?_
      refine wx_as (d := 25) (v' := .bool (x21.toNat == x24.toNat)) (S' := [_,_,_,_,_,_,_,_,_,_,_]) rfl rfl (nateq (a := x21.toNat) (b := x24.toNat)) ?_
      refine wx_done hok rfl ?_
      refine we_then ?_
      refine wc_keep [25, 6, 5, 4, 3, 0] (S' := [_,_,_,_,_,_]) rfl ?_
      refine wc_cond rfl (fun hb25 => ?_) (fun hb25 => ?_)
      ·
       replace hm := iteT hm hb25
       refine wc_keep [6, 5, 4, 3, 0] (S' := [_,_,_,_,_]) rfl ?_
       refine wc_region ?_
       refine wl_pure rfl rfl rfl (freshS_eq rfl) rfl ?_
       refine wl_pure rfl rfl rfl (freshS_eq rfl) rfl ?_
       obtain ⟨hg27, hm⟩ := gd_some hm
       refine wl_as (d := 27) (v' := .int .i64 ((u2_4 + 1 : Nat) : Int)) (S' := [_,_,_,_,_,_]) rfl rfl (nat_add (a := u2_4) (b := 1) hg27) ?_
       refine wl_pure (S' := [_,_,_,_,_,_]) rfl rfl rfl rfl rfl ?_
       refine wl_nil ?_
       refine we_block_normal ?_
       have hE := (Option.some.inj hm).symm
       refine we_join (u2_4 + 1) hE [6, 5, 4, 3, 0] rfl (fun _ _ hφ => ask [] rfl hφ) rfl
      ·
       replace hm := iteF hm hb25
       refine wc_keep [6, 5, 4, 3, 0] (S' := [_,_,_,_,_]) rfl ?_
       refine wc_skip ?_
       refine we_block_normal ?_
       have hE := (Option.some.inj hm).symm
       refine we_join u2_4 hE [6, 5, 4, 3, 0] rfl (fun _ _ hφ => ask [] rfl hφ) rfl
     ·
      rintro j_3_4 hE
      try dsimp only
      have hm := hLj_3
      rw [hE] at hm
      refine wc_region ?_
      refine wl_pure rfl rfl rfl (freshS_eq rfl) rfl ?_
      refine wl_pure rfl rfl rfl (freshS_eq rfl) rfl ?_
      obtain ⟨hg18, hm⟩ := gd_some hm
      refine wl_as (d := 18) (v' := .int .i64 ((u2_6 + 1 : Nat) : Int)) (S' := [_,_,_,_,_,_]) rfl rfl (nat_add (a := u2_6) (b := 1) hg18) ?_
      refine wl_pure (S' := [_,_,_,_,_,_]) rfl rfl rfl rfl rfl ?_
      refine wl_nil ?_
      have hE := (Option.some.inj hm).symm
      replace hE := link_inl hLu2 hE
      refine we_roundK (_, u2_6 + 1, j_3_4) (Nat.lt_succ_self _) hE [6, 5, 4, 3, 0] rfl (fun _ _ hφ => ask [] rfl hφ) rfl
    ·
     replace hm := iteF hm hb16
     refine wc_keep [5, 4, 3, 0] (S' := [_,_,_,_]) rfl ?_
     refine wc_exit ?_
     refine we_then_exit ?_
     refine we_then_exit ?_
     refine we_block_hit ?_
     refine we_block_normal ?_
     have hE := (Option.some.inj hm).symm
     replace hE := link_inr hLu2 hE
     refine we_join u2_4 hE [5, 4, 3, 0] rfl (fun _ _ hφ => ask [] rfl hφ) rfl
   ·
    rintro j_2_4 hE
    try dsimp only
    have hm := hLj_2
    rw [hE] at hm
    refine wc_region ?_
    refine wl_pure rfl rfl rfl (freshS_eq rfl) rfl ?_
    refine wl_pure rfl rfl rfl (freshS_eq rfl) rfl ?_
    obtain ⟨hg12, hm⟩ := gd_some hm
    refine wl_as (d := 12) (v' := .int .i64 ((u1_5 + 1 : Nat) : Int)) (S' := [_,_,_,_,_]) rfl rfl (nat_add (a := u1_5) (b := 1) hg12) ?_
    refine wl_pure (S' := [_,_,_,_,_]) rfl rfl rfl rfl rfl ?_
    refine wl_nil ?_
    have hE := (Option.some.inj hm).symm
    replace hE := link_inl hLu1 hE
    refine we_roundK (_, u1_5 + 1, j_2_4) (Nat.lt_succ_self _) hE [5, 4, 3, 0] rfl (fun _ _ hφ => ask [] rfl hφ) rfl
  ·
   replace hm := iteF hm hb10
   refine wc_keep [4, 0] (S' := [_,_]) rfl ?_
   refine wc_exit ?_
   refine we_then_exit ?_
   refine we_then_exit ?_
   refine we_block_hit ?_
   have hE := (Option.some.inj hm).symm
   replace hE := link_inr hLu1 hE
   refine we_join u1_4 hE [0, 4] rfl (fun _ _ hφ => ask [] rfl hφ) rfl
 ·
  rintro j_1_4 hE
  try dsimp only
  have hm := hLj_1
  rw [hE] at hm
  refine wc_seq ?_
  refine wc_region ?_
  refine wl_pure rfl rfl rfl (freshS_eq rfl) rfl ?_
  refine wl_pure rfl rfl rfl (freshS_eq rfl) rfl ?_
  refine wl_reck rfl rfl rfl (freshS_eq rfl) (rk_strLen rfl rfl tT_9) ?_
  refine wl_pure rfl rfl rfl (freshS_eq rfl) rfl ?_
  refine wl_as (d := 31) (v' := .bool (j_1_4 == a0.size)) (S' := [_,_,_,_,_]) rfl rfl (nateq (a := j_1_4) (b := a0.size)) ?_
  refine wl_pure rfl rfl rfl (freshS_eq rfl) rfl ?_
  refine wl_split (d := 32) (S' := [_,_,_,_,_,_]) rfl rfl (fun hs32 => ?_) (fun hs32 => ?_)
  ·
   replace hm := iteT hm hs32
   refine wl_pure rfl rfl rfl (freshS_eq rfl) rfl ?_
   refine wl_pure rfl rfl rfl (freshS_eq rfl) rfl ?_
   refine wl_as (d := 34) (v' := .bool (decide (0 < j_1_4))) (S' := [_,_,_,_,_,_,_,_]) rfl rfl (natgt (a := j_1_4) (b := 0)) ?_
   refine wl_pure rfl rfl rfl (freshS_eq rfl) rfl ?_
   refine wl_pure rfl rfl rfl (freshS_eq rfl) rfl ?_
   refine wl_split (d := 36) (S' := [_,_,_,_,_,_,_,_,_,_]) rfl rfl (fun hs36 => ?_) (fun hs36 => ?_)
   ·
    replace hm := iteT hm hs36
    refine wl_pure rfl rfl rfl (freshS_eq rfl) rfl ?_
    refine wl_pure rfl rfl rfl (freshS_eq rfl) rfl ?_
    refine wl_as (d := 38) (v' := .bool (decide (j_1_4 ≤ 30))) (S' := [_,_,_,_,_,_,_,_,_,_,_,_]) rfl rfl (natle (a := j_1_4) (b := 30)) ?_
    refine wl_pure rfl rfl rfl (freshS_eq rfl) rfl ?_
    refine wl_pure rfl rfl rfl (freshS_eq rfl) rfl ?_
    refine wl_nil ?_
    refine we_then ?_
    refine wc_keep [2] (S' := [_]) rfl ?_
    refine wc_ret ?_
    have hE := (Option.some.inj hm).symm
    replace hE := hE.symm
    subst hE
    refine ret_one (Hr := []) [] Try.results76 (res_tmp rfl) ⟨rfl, rfl, rfl⟩ (fun _ _ hφ => ask [] rfl hφ) rfl rfl (.inl rfl)
   ·
    replace hm := iteF hm hs36
    refine wl_off rfl rfl rfl (freshS_eq rfl) ?_
    refine wl_off rfl rfl rfl (freshS_eq rfl) ?_
    refine wl_pure rfl rfl rfl (freshS_eq rfl) rfl ?_
    refine wl_pure rfl rfl rfl (freshS_eq rfl) rfl ?_
    refine wl_nil ?_
    refine we_then ?_
    refine wc_keep [2] (S' := [_]) rfl ?_
    refine wc_ret ?_
    have hE := (Option.some.inj hm).symm
    replace hE := hE.symm
    subst hE
    refine ret_one (Hr := []) [] Try.results76 (res_tmp rfl) ⟨rfl, rfl, rfl⟩ (fun _ _ hφ => ask [] rfl hφ) rfl rfl (.inl rfl)
  ·
   replace hm := iteF hm hs32
   refine wl_off rfl rfl rfl (freshS_eq rfl) ?_
   refine wl_off rfl rfl rfl (freshS_eq rfl) ?_
   refine wl_pure rfl rfl rfl (freshS_eq rfl) rfl ?_
   refine wl_pure rfl rfl rfl (freshS_eq rfl) rfl ?_
   refine wl_off rfl rfl rfl (freshS_eq rfl) ?_
   refine wl_off rfl rfl rfl (freshS_eq rfl) ?_
   refine wl_pure rfl rfl rfl (freshS_eq rfl) rfl ?_
   refine wl_pure rfl rfl rfl (freshS_eq rfl) rfl ?_
   refine wl_nil ?_
   refine we_then ?_
   refine wc_keep [2] (S' := [_]) rfl ?_
   refine wc_ret ?_
   have hE := (Option.some.inj hm).symm
   replace hE := hE.symm
   subst hE
   refine ret_one (Hr := []) [] Try.results76 (res_tmp rfl) ⟨rfl, rfl, rfl⟩ (fun _ _ hφ => ask [] rfl hφ) rfl rfl (.inl rfl)
set_option maxRecDepth 100000 in
set_option maxHeartbeats 4000000 in
theorem w_ropewalkref17_entry_whole_s (N : Nat) (a0 : ByteArray) (a1 : ByteArray) (a2 : ByteArray)  (hm : m_ropewalkref17_entry_whole N a0 a1 a2 = some ()) : Spec Try.prog 74 [.agg #[.string a0, .string a1, .string a2]] [] [] (fun v Φr Hr => v = .string (a1 ++ a2) ∧ Φr = [] ∧ Hr = []) := by
 unfold m_ropewalkref17_entry_whole at hm
 refine spec_of Try.func74 rfl Try.ntmps74 rfl (S := [_]) rfl (fun C => ?_)
 refine wc_seq ?_
 refine wc_region ?_
 refine wl_box rfl rfl rfl (freshS_eq rfl) rfl rfl rfl (fun g1 => ?_)
 refine wl_pure rfl rfl rfl (freshS_eq rfl) rfl ?_
 refine wl_nil ?_
 refine we_then ?_
 refine wc_keep [1] (S' := [_]) rfl ?_
 refine wc_seq ?_
 refine wc_region ?_
 refine wl_fieldAddr rfl rfl rfl (freshS_eq rfl) rfl rfl tF_87_1 ?_
 refine wl_loadH 0 1 rfl rfl rfl (freshS_eq rfl) rfl rfl rfl (cs := [_]) rfl tS_9 tA_9 rfl rfl ?_
 refine wl_fieldAddr rfl rfl rfl (freshS_eq rfl) rfl rfl tF_87_2 ?_
 refine wl_loadH 0 2 rfl rfl rfl (freshS_eq rfl) rfl rfl rfl (cs := [_]) rfl tS_9 tA_9 rfl rfl ?_
 obtain ⟨hg7, hm⟩ := gd_some hm
 refine wl_bin rfl rfl rfl (freshS_eq rfl) rfl rfl rfl (run_strAdd hg7) ?_
 refine wl_pure rfl rfl rfl (freshS_eq rfl) rfl ?_
 refine wl_nil ?_
 refine we_then ?_
 refine wc_keep [2] (S' := [_]) rfl ?_
 refine wc_ret ?_
 have hE := (Option.some.inj hm).symm
 refine ret_one (Hr := []) [] Try.results74 (res_tmp rfl) ⟨rfl, rfl, rfl⟩ (fun _ _ hφ => ask [] rfl hφ) rfl rfl (.inl rfl)
set_option maxRecDepth 100000 in
set_option maxHeartbeats 4000000 in
theorem w_ropewalkref17_Disk_Used_s (N : Nat) (qg0 : Nat) (a0 : Int) (qp1 : Option Addr) (qn2 : Nat) (qc3 : Nat) (l1 : List Ropewalkref17_entryD) (o0 : Nat) (hm : m_ropewalkref17_Disk_Used N a0 l1 = some o0) : Spec Try.prog 51 [.pointer (some ⟨qg0, 0, none⟩)] [] [.blk qg0 [.int .i64 a0, .slice qp1 qn2 qc3] 85, .own 87 3 R_Ropewalkref17_entryD (.slice qp1 qn2 qc3) l1] (fun v Φr Hr => v = .int .i64 ((o0 : Nat) : Int) ∧ Φr = [] ∧ Hr = [.blk qg0 [.int .i64 a0, .slice qp1 qn2 qc3] 85, .own 87 3 R_Ropewalkref17_entryD (.slice qp1 qn2 qc3) l1]) := by
 unfold m_ropewalkref17_Disk_Used at hm
 refine spec_of Try.func51 rfl Try.ntmps51 rfl (S := [_]) rfl (fun C => ?_)
 refine wc_seq ?_
 refine wc_region ?_
 refine wl_pure rfl rfl rfl (freshS_eq rfl) rfl ?_
 refine wl_nil ?_
 refine we_then ?_
 refine wc_keep [0] (S' := [_]) rfl ?_
 refine wc_seq ?_
 refine wc_region ?_
 refine wl_pure rfl rfl rfl (freshS_eq rfl) rfl ?_
 refine wl_nil ?_
 refine we_then ?_
 refine wc_seq ?_
 obtain ⟨bj_1, hm, hLj_1⟩ := bindO_some hm
 refine wc_cut (σ := Nat) (fun j_1_3 => bj_1 = j_1_3) (fun j_1_3 => [(3, .int .i64 ((j_1_3 : Nat) : Int))]) (fun j_1_3 => []) (fun j_1_3 => [.blk qg0 [.int .i64 a0, .slice qp1 qn2 qc3] 85, .own 87 3 R_Ropewalkref17_entryD (.slice qp1 qn2 qc3) l1]) ?_ ?_
 ·
  refine wc_seq ?_
  refine wc_region ?_
  refine wl_pure rfl rfl rfl (freshS_eq rfl) rfl ?_
  refine wl_pure rfl rfl rfl (freshS_eq rfl) rfl ?_
  refine wl_fieldAddr rfl rfl rfl (freshS_eq rfl) rfl rfl tF_85_1 ?_
  refine wl_loadH 0 1 rfl rfl rfl (freshS_eq rfl) rfl rfl rfl (cs := [_]) rfl tS_83 tA_83 rfl rfl ?_
  refine wl_ownLen 1 rfl (fun hl10 _ => ?_)
  refine wl_len rfl rfl rfl (freshS_eq rfl) rfl rfl tE_83 ?_
  refine wl_as (d := 10) (v' := .int .i64 ((l1.length : Nat) : Int)) (S' := [_,_,_,_,_,_]) rfl rfl (len_is hl10) ?_
  refine wl_pure rfl rfl rfl (freshS_eq rfl) rfl ?_
  refine wl_nil ?_
  refine we_then ?_
  refine wc_keep [11, 10, 9, 3] (S' := [_,_,_,_]) rfl ?_
  refine wc_block ?_
  refine wc_pick [1, 0] rfl (H' := [_,_]) rfl ?_
  refine wc_loop (σ := Nat × Nat × Nat) (fun (nu1, u1_11, u1_3) => iter (m_ropewalkref17_Disk_Used_L1 N l1) nu1 (u1_11, u1_3) = some bj_1) (fun (nu1, u1_11, u1_3) => nu1) (fun (nu1, u1_11, u1_3) => [(11, .int .i64 ((u1_11 : Nat) : Int)), (10, .int .i64 ((l1.length : Nat) : Int)), (9, .slice qp1 qn2 qc3), (3, .int .i64 ((u1_3 : Nat) : Int))]) (fun (nu1, u1_11, u1_3) => []) (fun (nu1, u1_11, u1_3) => [.own 87 3 R_Ropewalkref17_entryD (.slice qp1 qn2 qc3) l1, .blk qg0 [.int .i64 a0, .slice qp1 qn2 qc3] 85]) (N, 0, 0) hm [11, 10, 9, 3] rfl (fun _ _ hφ => ask [] rfl hφ) rfl (fun s_ hm => ?_)
  obtain ⟨nu1, u1_11, u1_3⟩ := s_
  try dsimp only at hm ⊢
  obtain ⟨mu1, bu1, hnu1, hq, hLu1⟩ := iter_some hm
  clear hm
  subst hnu1
  replace hm := hq
  clear hq
  unfold m_ropewalkref17_Disk_Used_L1 at hm
  try dsimp only at hm
  refine wc_seq ?_
  refine wc_region ?_
  refine wl_pure rfl rfl rfl (freshS_eq rfl) rfl ?_
  refine wl_as (d := 12) (v' := .bool (decide (u1_11 < l1.length))) (S' := [_,_,_,_]) rfl rfl (natlt (a := u1_11) (b := l1.length)) ?_
  refine wl_nil ?_
  refine we_then ?_
  refine wc_seq ?_
  refine wc_cond rfl (fun hb12 => ?_) (fun hb12 => ?_)
  ·
   replace hm := iteT hm hb12
   refine wc_keep [11, 10, 9, 3] (S' := [_,_,_,_]) rfl ?_
   refine wc_skip ?_
   refine we_then ?_
   refine wc_seq ?_
   refine wc_block ?_
   refine wc_seq ?_
   refine wc_region ?_
   obtain ⟨x13, hx13, hm⟩ := bindO_some hm
   refine wl_indexH 0 u1_11 rfl rfl rfl (freshS_eq rfl) rfl rfl rfl rfl rfl (get_lt hx13) tE_83 tS_87 (fun g13 eg13 => ?_)
   subst eg13
   refine wl_loadRow R_Ropewalkref17_entryD_opens 0 u1_11 0 rfl rfl rfl (freshS_eq rfl) rfl rfl rfl hx13 tS_87 tA_87 (v := fun _ => .agg #[.string x13.name, .string x13.firm, .string x13.loose]) (fun _ => rfl) (fun _ => rfl) (fun _ _ => ?_)
   refine wl_alloc rfl rfl rfl (freshS_eq rfl) rfl tZ_87 rfl (fun g5 => ?_)
   refine wl_store 0 0 rfl rfl rfl rfl rfl rfl rfl tS_87 rfl rfl rfl (all' := [_,_,_]) rfl (H' := [_,_,_]) rfl ?_
   refine wl_nil ?_
   refine we_then ?_
   refine wc_keep [5, 11, 10, 9, 3] (S' := [_,_,_,_,_]) rfl ?_
   refine wc_region ?_
   refine wl_pure rfl rfl rfl (freshS_eq rfl) rfl ?_
   refine wl_loadH 0 0 rfl rfl rfl (freshS_eq rfl) rfl rfl rfl (cs := [_,_,_]) rfl tS_87 tA_87 rfl rfl ?_
   obtain ⟨_, hc17, hm⟩ := bindO_some hm
   try dsimp only at hm
   refine wl_call [] [0, 1, 2] rfl rfl rfl (freshS_eq rfl) rfl rfl fn_74 rfl (w_ropewalkref17_entry_whole_s N x13.name x13.firm x13.loose hc17) (fun _ _ hφ => ask [] rfl hφ) rfl (H' := [_,_,_]) rfl ?_
   rintro _ _ _ ⟨rfl, rfl, rfl⟩
   refine wl_reck rfl rfl rfl (freshS_eq rfl) (rk_strLen rfl rfl tT_9) ?_
   refine wl_pure rfl rfl rfl (freshS_eq rfl) rfl ?_
   obtain ⟨hg19, hm⟩ := gd_some hm
   refine wl_as (d := 19) (v' := .int .i64 ((u1_3 + ((x13.firm ++ x13.loose).size) : Nat) : Int)) (S' := [_,_,_,_,_,_,_,_,_]) rfl rfl (nat_add (a := u1_3) (b := (x13.firm ++ x13.loose).size) hg19) ?_
   refine wl_pure (S' := [_,_,_,_,_,_,_,_,_]) rfl rfl rfl rfl rfl ?_
   refine wl_nil ?_
   refine we_block_normal ?_
   refine we_then ?_
   refine wc_keep [3, 11, 10, 9] (S' := [_,_,_,_]) rfl ?_
   refine wc_region ?_
   refine wl_pure rfl rfl rfl (freshS_eq rfl) rfl ?_
   obtain ⟨hg20, hm⟩ := gd_some hm
   refine wl_as (d := 20) (v' := .int .i64 ((u1_11 + 1 : Nat) : Int)) (S' := [_,_,_,_]) rfl rfl (nat_add (a := u1_11) (b := 1) hg20) ?_
   refine wl_pure (S' := [_,_,_,_]) rfl rfl rfl rfl rfl ?_
   refine wl_nil ?_
   have hE := (Option.some.inj hm).symm
   replace hE := link_inl hLu1 hE
   refine we_pick [1, 2] rfl (H' := [_,_]) rfl ?_
   refine we_roundK (_, u1_11 + 1, u1_3 + ((x13.firm ++ x13.loose).size)) (Nat.lt_succ_self _) hE [11, 10, 9, 3] rfl (fun _ _ hφ => ask [] rfl hφ) rfl
  ·
   replace hm := iteF hm hb12
   refine wc_keep [3] (S' := [_]) rfl ?_
   refine wc_exit ?_
   refine we_then_exit ?_
   refine we_then_exit ?_
   refine we_block_hit ?_
   have hE := (Option.some.inj hm).symm
   replace hE := link_inr hLu1 hE
   refine we_pick [1, 0] rfl (H' := [_,_]) rfl ?_
   refine we_join u1_3 hE [3] rfl (fun _ _ hφ => ask [] rfl hφ) rfl
 ·
  rintro j_1_3 hE
  try dsimp only
  have hm := hLj_1
  rw [hE] at hm
  refine wc_seq ?_
  refine wc_region ?_
  refine wl_pure rfl rfl rfl (freshS_eq rfl) rfl ?_
  refine wl_pure rfl rfl rfl (freshS_eq rfl) rfl ?_
  refine wl_nil ?_
  refine we_then ?_
  refine wc_keep [2] (S' := [_]) rfl ?_
  refine wc_ret ?_
  have hE := (Option.some.inj hm).symm
  replace hE := hE.symm
  subst hE
  refine ret_one (Hr := [_, _]) [0, 1] Try.results51 (res_tmp rfl) ⟨rfl, rfl, rfl⟩ (fun _ _ hφ => ask [] rfl hφ) rfl rfl (.inl rfl)
set_option maxRecDepth 100000 in
set_option maxHeartbeats 4000000 in
theorem w_ropewalkref17_Disk_Append_s (N : Nat) (qg0 : Nat) (a0 : Int) (qp1 : Option Addr) (qn2 : Nat) (qc3 : Nat) (l1 : List Ropewalkref17_entryD) (a2 : ByteArray) (qp4 : Option Addr) (qc5 : Nat) (l3 : List Int) (o0 : Nat) (o3 : List Ropewalkref17_entryD) (hm : m_ropewalkref17_Disk_Append N a0 l1 a2 l3 = some (o0, o3)) : Spec Try.prog 52 [.pointer (some ⟨qg0, 0, none⟩), .string a2, .slice qp4 l3.length qc5] [.sli 1 R_u8 qp4 qc5 l3] [.blk qg0 [.int .i64 a0, .slice qp1 qn2 qc3] 85, .own 87 3 R_Ropewalkref17_entryD (.slice qp1 qn2 qc3) l1] (fun v Φr Hr => ∃ (o1 : Option Addr) (o2 : Nat) (o4 : Nat), v = .int .i64 ((o0 : Nat) : Int) ∧ Φr = [] ∧ Hr = [.blk qg0 [.int .i64 a0, .slice o1 o4 o2] 85, .own 87 3 R_Ropewalkref17_entryD (.slice o1 o4 o2) o3]) := by
 unfold m_ropewalkref17_Disk_Append at hm
 refine spec_of Try.func52 rfl Try.ntmps52 rfl (S := [_,_,_]) rfl (fun C => ?_)
 refine wc_seq ?_
 refine wc_region ?_
 refine wl_pure rfl rfl rfl (freshS_eq rfl) rfl ?_
 refine wl_nil ?_
 refine we_then ?_
 refine wc_keep [0, 1, 2] (S' := [_,_,_]) rfl ?_
 refine wc_seq ?_
 refine wc_region ?_
 refine wl_pure rfl rfl rfl (freshS_eq rfl) rfl ?_
 refine wl_pure rfl rfl rfl (freshS_eq rfl) rfl ?_
 obtain ⟨⟨v13_0, v13_1, v13_2, v13_3, v13_4⟩, hc13, hm⟩ := bindO_some hm
 try dsimp only at hm
 refine wl_call [0, 1] [] rfl rfl rfl (freshS_eq rfl) rfl rfl fn_75 rfl (w_ropewalkref17_Disk_split_s N qg0 a0 qp1 qn2 qc3 l1 a2 _ _ _ _ _ hc13) (fun _ _ hφ => ask [] rfl hφ) rfl (H' := []) rfl ?_
 rintro _ _ _ ⟨p13_0, c13_1, c13_2, rfl, rfl, rfl⟩
 refine wl_pure rfl rfl rfl (freshS_eq rfl) rfl ?_
 refine wl_pure rfl rfl rfl (freshS_eq rfl) rfl ?_
 refine wl_pure rfl rfl rfl (freshS_eq rfl) rfl ?_
 refine wl_pure rfl rfl rfl (freshS_eq rfl) rfl ?_
 refine wl_alloc rfl rfl rfl (freshS_eq rfl) rfl tZ_87 rfl (fun g7 => ?_)
 refine wl_store 0 0 rfl rfl rfl rfl rfl rfl rfl tS_87 rfl rfl rfl (all' := [_,_,_]) rfl (H' := [_,_,_,_]) rfl ?_
 refine wl_pure rfl rfl rfl (freshS_eq rfl) rfl ?_
 refine wl_pure rfl rfl rfl (freshS_eq rfl) rfl ?_
 refine wl_nil ?_
 refine we_then ?_
 refine wc_keep [8, 7, 0, 1, 2] (S' := [_,_,_,_,_]) rfl ?_
 refine wc_seq ?_
 refine wc_region ?_
 refine wl_fieldAddr rfl rfl rfl (freshS_eq rfl) rfl rfl tF_87_2 ?_
 refine wl_loadH 0 2 rfl rfl rfl (freshS_eq rfl) rfl rfl rfl (cs := [_]) rfl tS_9 tA_9 rfl rfl ?_
 refine wl_pure rfl rfl rfl (freshS_eq rfl) rfl ?_
 refine wl_bytesStr 0 rfl rfl rfl (freshS_eq rfl) rfl rfl rfl tD_27 tD_5 tD_9 (fun _ _ _ _ h => by obtain ⟨_, h, _⟩ := h; exact h) ?_
 obtain ⟨hg21, hm⟩ := gd_some hm
 refine wl_bin rfl rfl rfl (freshS_eq rfl) rfl rfl rfl (run_strAdd hg21) ?_
 refine wl_fieldAddr rfl rfl rfl (freshS_eq rfl) rfl rfl tF_87_2 ?_
 refine wl_store 0 2 rfl rfl rfl rfl rfl rfl rfl tS_9 rfl rfl rfl (all' := [_,_,_]) rfl (H' := [_,_,_,_]) rfl ?_
 refine wl_nil ?_
 refine we_then ?_
 refine wc_keep [8, 7, 0, 1, 2] (S' := [_,_,_,_,_]) rfl ?_
 refine wc_seq ?_
 refine wc_block ?_
 refine wc_seq ?_
 refine wc_region ?_
 refine wl_pure rfl rfl rfl (freshS_eq rfl) rfl ?_
 obtain ⟨v25, hc25, hm⟩ := bindO_some hm
 refine wl_call [] [0, 1, 2, 3] rfl rfl rfl (freshS_eq rfl) rfl rfl fn_76 rfl (w_ropewalkref17_fit_s N a2 _ hc25) (fun _ _ hφ => ask [] rfl hφ) rfl (H' := [_,_,_,_]) rfl ?_
 rintro _ _ _ ⟨rfl, rfl, rfl⟩
 refine wl_pure rfl rfl rfl (freshS_eq rfl) rfl ?_
 refine wl_pure rfl rfl rfl (freshS_eq rfl) rfl ?_
 refine wl_nil ?_
 refine we_then ?_
 refine wc_keep [23, 8, 7, 0, 2] (S' := [_,_,_,_,_]) rfl ?_
 refine wc_cond rfl (fun hb23 => ?_) (fun hb23 => ?_)
 ·
  replace hm := iteT hm hb23
  refine wc_keep [] (S' := []) rfl ?_
  refine wc_seq ?_
  refine wc_region ?_
  refine wl_pure rfl rfl rfl (freshS_eq rfl) rfl ?_
  refine wl_nil ?_
  refine we_then ?_
  refine wc_ret ?_
  refine we_block_ret ?_
  refine we_then_ret ?_
  have hE := (Option.some.inj hm).symm
  obtain ⟨hE0, hE1⟩ := Prod.mk.inj hE
  clear hE
  replace hE0 := hE0.symm
  subst hE0
  replace hE1 := hE1.symm
  subst hE1
  refine ret_one (Hr := [_, _]) [2, 3] Try.results52 (res_tmp rfl) ⟨qp1, qc3, qn2, rfl, rfl, rfl⟩ (fun _ _ hφ => ask [] rfl hφ) rfl rfl (.inl rfl)
 ·
  replace hm := iteF hm hb23
  refine wc_keep [8, 7, 0, 2] (S' := [_,_,_,_]) rfl ?_
  refine wc_seq ?_
  refine wc_region ?_
  refine wl_loadH 0 0 rfl rfl rfl (freshS_eq rfl) rfl rfl rfl (cs := [_,_,_]) rfl tS_87 tA_87 rfl rfl ?_
  obtain ⟨_, hc29, hm⟩ := bindO_some hm
  try dsimp only at hm
  refine wl_call [] [0, 1, 2, 3] rfl rfl rfl (freshS_eq rfl) rfl rfl fn_74 rfl (w_ropewalkref17_entry_whole_s N v13_0 v13_1 (v13_2 ++ (strOfNums l3)) hc29) (fun _ _ hφ => ask [] rfl hφ) rfl (H' := [_,_,_,_]) rfl ?_
  rintro _ _ _ ⟨rfl, rfl, rfl⟩
  refine wl_reck rfl rfl rfl (freshS_eq rfl) (rk_strLen rfl rfl tT_9) ?_
  refine wl_pure rfl rfl rfl (freshS_eq rfl) rfl ?_
  refine wl_as (d := 31) (v' := .bool (decide (4194304 < ((v13_1 ++ (v13_2 ++ (strOfNums l3))).size)))) (S' := [_,_,_,_,_,_,_]) rfl rfl (natgt (a := (v13_1 ++ (v13_2 ++ (strOfNums l3))).size) (b := 4194304)) ?_
  refine wl_pure rfl rfl rfl (freshS_eq rfl) rfl ?_
  refine wl_nil ?_
  refine we_then ?_
  refine wc_keep [27, 8, 7, 0, 2] (S' := [_,_,_,_,_]) rfl ?_
  refine wc_cond rfl (fun hb27 => ?_) (fun hb27 => ?_)
  ·
   replace hm := iteT hm hb27
   refine wc_keep [] (S' := []) rfl ?_
   refine wc_seq ?_
   refine wc_region ?_
   refine wl_pure rfl rfl rfl (freshS_eq rfl) rfl ?_
   refine wl_nil ?_
   refine we_then ?_
   refine wc_ret ?_
   refine we_block_ret ?_
   refine we_then_ret ?_
   have hE := (Option.some.inj hm).symm
   obtain ⟨hE0, hE1⟩ := Prod.mk.inj hE
   clear hE
   replace hE0 := hE0.symm
   subst hE0
   replace hE1 := hE1.symm
   subst hE1
   refine ret_one (Hr := [_, _]) [2, 3] Try.results52 (res_tmp rfl) ⟨qp1, qc3, qn2, rfl, rfl, rfl⟩ (fun _ _ hφ => ask [] rfl hφ) rfl rfl (.inl rfl)
  ·
   replace hm := iteF hm hb27
   refine wc_keep [8, 7, 0, 2] (S' := [_,_,_,_]) rfl ?_
   refine wc_seq ?_
   obtain ⟨v34, hc34, hm⟩ := bindO_some hm
   obtain ⟨hg37, hm⟩ := gd_some hm
   refine wc_draw [0, 2, 3, 4, 5, 6, 7, 8, 9] rfl rfl (fun hok => ?_)
   refine wx_pure hok 0 rfl rfl rfl (freshS_eq rfl) rfl rfl ?_
   refine wx_pure hok 2 rfl rfl rfl (freshS_eq rfl) rfl rfl ?_
   refine wx_len hok 3 rfl rfl rfl (freshS_eq rfl) rfl rfl rfl tE_27 ?_
   refine wx_pure hok 5 rfl rfl rfl (freshS_eq rfl) rfl rfl ?_
   refine wx_pure hok 6 rfl rfl rfl (freshS_eq rfl) rfl rfl ?_
   refine wx_fieldAddr hok 7 rfl rfl rfl (freshS_eq rfl) rfl rfl rfl tF_85_0 ?_
   refine wx_loadH hok 8 2 0 rfl rfl rfl (freshS_eq rfl) rfl rfl rfl rfl (cs := [_]) rfl tS_3 tA_3 rfl rfl ?_
   refine wx_step1 hok 1 rfl rfl rfl rfl ?_
   refine wl_call [2, 3] [0, 1] rfl rfl rfl (freshS_eq rfl) rfl rfl fn_51 rfl (w_ropewalkref17_Disk_Used_s N qg0 a0 qp1 qn2 qc3 l1 _ hc34) (fun _ _ hφ => ask [] rfl hφ) rfl (H' := [_,_]) rfl ?_
   rintro _ _ _ ⟨rfl, rfl, rfl⟩
   refine wl_nil ?_
   refine we_x [0] [0] rfl rfl ?_
   refine wx_pure hok 4 rfl rfl rfl (freshS_eq rfl) rfl rfl ?_
   refine wx_as (d := 37) (v' := .int .i64 ((v34 + l3.length : Nat) : Int)) (S' := [_,_,_,_,_,_,_,_,_,_,_,_]) rfl rfl (nat_add (a := v34) (b := l3.length) hg37) ?_
   refine wx_pure hok 9 rfl rfl rfl (freshS_eq rfl) rfl rfl ?_
   refine wx_step1 hok 10 rfl rfl rfl rfl ?_
   refine wl_pure rfl rfl rfl (freshS_eq rfl) rfl ?_
   refine wl_nil ?_
   refine we_x [0] [0] rfl rfl ?_
   refine wx_done hok rfl ?_
   refine we_then ?_
   refine wc_keep [32, 8, 7, 0] (S' := [_,_,_,_]) rfl ?_
   refine wc_cond rfl (fun hb32 => ?_) (fun hb32 => ?_)
   ·
    replace hm := iteT hm hb32
    refine wc_keep [] (S' := []) rfl ?_
    refine wc_seq ?_
    refine wc_region ?_
    refine wl_pure rfl rfl rfl (freshS_eq rfl) rfl ?_
    refine wl_nil ?_
    refine we_then ?_
    refine wc_ret ?_
    refine we_block_ret ?_
    refine we_then_ret ?_
    have hE := (Option.some.inj hm).symm
    obtain ⟨hE0, hE1⟩ := Prod.mk.inj hE
    clear hE
    replace hE0 := hE0.symm
    subst hE0
    replace hE1 := hE1.symm
    subst hE1
    refine ret_one (Hr := [_, _]) [0, 1] Try.results52 (res_tmp rfl) ⟨qp1, qc3, qn2, rfl, rfl, rfl⟩ (fun _ _ hφ => ask [] rfl hφ) rfl rfl (.inl rfl)
   ·
    replace hm := iteF hm hb32
    refine wc_keep [8, 7, 0] (S' := [_,_,_]) rfl ?_
    refine wc_skip ?_
    refine we_block_normal ?_
    refine we_then ?_
    refine wc_seq ?_
    refine wc_region ?_
    refine wl_pure rfl rfl rfl (freshS_eq rfl) rfl ?_
    refine wl_pure rfl rfl rfl (freshS_eq rfl) rfl ?_
    refine wl_loadH 2 0 rfl rfl rfl (freshS_eq rfl) rfl rfl rfl (cs := [_,_,_]) rfl tS_87 tA_87 rfl rfl ?_
    refine wl_buildSlice rfl rfl rfl (freshS_eq rfl) rfl tE_83 tS_87 tZ_87 rfl (zs := [.string ((⟨#[]⟩ : ByteArray)), .string ((⟨#[]⟩ : ByteArray)), .string ((⟨#[]⟩ : ByteArray))]) (by kernel_rfl) rfl (out := [_,_,_]) rfl (fun g46 => ?_)
    obtain ⟨hg47, hm⟩ := gd_some hm
    refine wl_appendH ([(⟨v13_0, v13_1, v13_2 ++ (strOfNums l3)⟩ : Ropewalkref17_entryD)]) 4 0 rfl rfl rfl (freshS_eq rfl) rfl rfl rfl rfl rfl (fun F w hφ => ⟨[.string v13_0, .string v13_1, .string (v13_2 ++ (strOfNums l3))], [], rfl, rfl, ⟨(), rfl, ask_nil⟩, rfl⟩) tE_83 tR_87 rfl rfl (Nat.le_trans hg47 (by decide)) (Nat.le_trans (Nat.mul_le_mul_right _ hg47) (by decide)) (H2 := fun p47 c47 => [.blk g46 [.string v13_0, .string v13_1, .string (v13_2 ++ (strOfNums l3))] 87, .blk qg0 [.int .i64 a0, .slice qp1 qn2 qc3] 85, .own 87 3 R_Ropewalkref17_entryD (.slice qp1 qn2 qc3) l1, .blk g7 [.string v13_0, .string v13_1, .string (v13_2 ++ (strOfNums l3))] 87, .own 87 3 R_Ropewalkref17_entryD (.slice p47 ((v13_3 ++ ([(⟨v13_0, v13_1, v13_2 ++ (strOfNums l3)⟩ : Ropewalkref17_entryD)])).length) c47) (v13_3 ++ ([(⟨v13_0, v13_1, v13_2 ++ (strOfNums l3)⟩ : Ropewalkref17_entryD)]))]) (fun _ _ => rfl) (fun p47 c47 => ?_)
    refine wl_drop 0 rfl (H' := [_,_,_,_]) rfl ?_
    refine wl_pure rfl rfl rfl (freshS_eq rfl) rfl ?_
    refine wl_fieldAddr rfl rfl rfl (freshS_eq rfl) rfl rfl tF_85_1 ?_
    refine wl_store 0 1 rfl rfl rfl rfl rfl rfl rfl tS_83 rfl rfl rfl (all' := [_,_]) rfl (H' := [_,_,_,_]) rfl ?_
    refine wl_nil ?_
    refine we_then ?_
    refine wc_keep [] (S' := []) rfl ?_
    refine wc_seq ?_
    refine wc_region ?_
    refine wl_pure rfl rfl rfl (freshS_eq rfl) rfl ?_
    refine wl_nil ?_
    refine we_then ?_
    refine wc_ret ?_
    have hE := (Option.some.inj hm).symm
    obtain ⟨hE0, hE1⟩ := Prod.mk.inj hE
    clear hE
    replace hE0 := hE0.symm
    subst hE0
    replace hE1 := hE1.symm
    subst hE1
    refine ret_one (Hr := [_, _]) [0, 3] Try.results52 (res_tmp rfl) ⟨p47, c47, (v13_3 ++ ([(⟨v13_0, v13_1, v13_2 ++ (strOfNums l3)⟩ : Ropewalkref17_entryD)])).length, rfl, rfl, rfl⟩ (fun _ _ hφ => ask [] rfl hφ) rfl rfl (.inl rfl)
set_option maxRecDepth 100000 in
set_option maxHeartbeats 4000000 in
theorem w_ropewalkref17_Disk_Sync_s (N : Nat) (qg0 : Nat) (a0 : Int) (qp1 : Option Addr) (qn2 : Nat) (qc3 : Nat) (l1 : List Ropewalkref17_entryD) (a2 : ByteArray) (o0 : Nat) (o3 : List Ropewalkref17_entryD) (hm : m_ropewalkref17_Disk_Sync N a0 l1 a2 = some (o0, o3)) : Spec Try.prog 53 [.pointer (some ⟨qg0, 0, none⟩), .string a2] [] [.blk qg0 [.int .i64 a0, .slice qp1 qn2 qc3] 85, .own 87 3 R_Ropewalkref17_entryD (.slice qp1 qn2 qc3) l1] (fun v Φr Hr => ∃ (o1 : Option Addr) (o2 : Nat) (o4 : Nat), v = .int .i64 ((o0 : Nat) : Int) ∧ Φr = [] ∧ Hr = [.blk qg0 [.int .i64 a0, .slice o1 o4 o2] 85, .own 87 3 R_Ropewalkref17_entryD (.slice o1 o4 o2) o3]) := by
 unfold m_ropewalkref17_Disk_Sync at hm
 refine spec_of Try.func53 rfl Try.ntmps53 rfl (S := [_,_]) rfl (fun C => ?_)
 refine wc_seq ?_
 refine wc_region ?_
 refine wl_pure rfl rfl rfl (freshS_eq rfl) rfl ?_
 refine wl_nil ?_
 refine we_then ?_
 refine wc_keep [0, 1] (S' := [_,_]) rfl ?_
 refine wc_seq ?_
 refine wc_region ?_
 refine wl_pure rfl rfl rfl (freshS_eq rfl) rfl ?_
 refine wl_pure rfl rfl rfl (freshS_eq rfl) rfl ?_
 obtain ⟨⟨v11_0, v11_1, v11_2, v11_3, v11_4⟩, hc11, hm⟩ := bindO_some hm
 try dsimp only at hm
 refine wl_call [0, 1] [] rfl rfl rfl (freshS_eq rfl) rfl rfl fn_75 rfl (w_ropewalkref17_Disk_split_s N qg0 a0 qp1 qn2 qc3 l1 a2 _ _ _ _ _ hc11) (fun _ _ hφ => ask [] rfl hφ) rfl (H' := []) rfl ?_
 rintro _ _ _ ⟨p11_0, c11_1, c11_2, rfl, rfl, rfl⟩
 refine wl_pure rfl rfl rfl (freshS_eq rfl) rfl ?_
 refine wl_pure rfl rfl rfl (freshS_eq rfl) rfl ?_
 refine wl_pure rfl rfl rfl (freshS_eq rfl) rfl ?_
 refine wl_pure rfl rfl rfl (freshS_eq rfl) rfl ?_
 refine wl_alloc rfl rfl rfl (freshS_eq rfl) rfl tZ_87 rfl (fun g5 => ?_)
 refine wl_store 0 0 rfl rfl rfl rfl rfl rfl rfl tS_87 rfl rfl rfl (all' := [_,_,_]) rfl (H' := [_,_,_,_]) rfl ?_
 refine wl_pure rfl rfl rfl (freshS_eq rfl) rfl ?_
 refine wl_pure rfl rfl rfl (freshS_eq rfl) rfl ?_
 refine wl_nil ?_
 refine we_then ?_
 refine wc_keep [7, 6, 5, 0, 1] (S' := [_,_,_,_,_]) rfl ?_
 refine wc_seq ?_
 refine wc_seq ?_
 refine wc_region ?_
 refine wl_pure rfl rfl rfl (freshS_eq rfl) rfl ?_
 refine wl_pure rfl rfl rfl (freshS_eq rfl) rfl ?_
 refine wl_nil ?_
 refine we_then ?_
 refine wc_keep [16, 6, 5, 0, 1] (S' := [_,_,_,_,_]) rfl ?_
 refine wc_cond rfl (fun hb16 => ?_) (fun hb16 => ?_)
 ·
  replace hm := iteT hm hb16
  refine wc_keep [] (S' := []) rfl ?_
  refine wc_seq ?_
  refine wc_region ?_
  refine wl_pure rfl rfl rfl (freshS_eq rfl) rfl ?_
  refine wl_nil ?_
  refine we_then ?_
  refine wc_ret ?_
  refine we_then_ret ?_
  have hE := (Option.some.inj hm).symm
  obtain ⟨hE0, hE1⟩ := Prod.mk.inj hE
  clear hE
  replace hE0 := hE0.symm
  subst hE0
  replace hE1 := hE1.symm
  subst hE1
  refine ret_one (Hr := [_, _]) [2, 3] Try.results53 (res_tmp rfl) ⟨qp1, qc3, qn2, rfl, rfl, rfl⟩ (fun _ _ hφ => ask [] rfl hφ) rfl rfl (.inl rfl)
 ·
  replace hm := iteF hm hb16
  refine wc_keep [6, 5, 0, 1] (S' := [_,_,_,_]) rfl ?_
  refine wc_skip ?_
  refine we_then ?_
  refine wc_seq ?_
  refine wc_region ?_
  refine wl_pure rfl rfl rfl (freshS_eq rfl) rfl ?_
  refine wl_pure rfl rfl rfl (freshS_eq rfl) rfl ?_
  refine wl_pure rfl rfl rfl (freshS_eq rfl) rfl ?_
  refine wl_loadH 0 0 rfl rfl rfl (freshS_eq rfl) rfl rfl rfl (cs := [_,_,_]) rfl tS_87 tA_87 rfl rfl ?_
  obtain ⟨_, hc21, hm⟩ := bindO_some hm
  try dsimp only at hm
  refine wl_call [] [0, 1, 2, 3] rfl rfl rfl (freshS_eq rfl) rfl rfl fn_74 rfl (w_ropewalkref17_entry_whole_s N v11_0 v11_1 v11_2 hc21) (fun _ _ hφ => ask [] rfl hφ) rfl (H' := [_,_,_,_]) rfl ?_
  rintro _ _ _ ⟨rfl, rfl, rfl⟩
  refine wl_build rfl rfl rfl (freshS_eq rfl) rfl tZ_87 tP_87 rfl (out := [_,_,_]) rfl ?_
  refine wl_buildSlice rfl rfl rfl (freshS_eq rfl) rfl tE_83 tS_87 tZ_87 rfl (zs := [.string ((⟨#[]⟩ : ByteArray)), .string ((⟨#[]⟩ : ByteArray)), .string ((⟨#[]⟩ : ByteArray))]) (by kernel_rfl) rfl (out := [_,_,_]) rfl (fun g23 => ?_)
  obtain ⟨hg24, hm⟩ := gd_some hm
  refine wl_appendH ([(⟨a2, v11_1 ++ v11_2, (⟨#[]⟩ : ByteArray)⟩ : Ropewalkref17_entryD)]) 2 0 rfl rfl rfl (freshS_eq rfl) rfl rfl rfl rfl rfl (fun F w hφ => ⟨[.string a2, .string (v11_1 ++ v11_2), .string ((⟨#[]⟩ : ByteArray))], [], rfl, rfl, ⟨(), rfl, ask_nil⟩, rfl⟩) tE_83 tR_87 rfl rfl (Nat.le_trans hg24 (by decide)) (Nat.le_trans (Nat.mul_le_mul_right _ hg24) (by decide)) (H2 := fun p24 c24 => [.blk g23 [.string a2, .string (v11_1 ++ v11_2), .string ((⟨#[]⟩ : ByteArray))] 87, .blk g5 [.string v11_0, .string v11_1, .string v11_2] 87, .own 87 3 R_Ropewalkref17_entryD (.slice p24 ((v11_3 ++ ([(⟨a2, v11_1 ++ v11_2, (⟨#[]⟩ : ByteArray)⟩ : Ropewalkref17_entryD)])).length) c24) (v11_3 ++ ([(⟨a2, v11_1 ++ v11_2, (⟨#[]⟩ : ByteArray)⟩ : Ropewalkref17_entryD)])), .blk qg0 [.int .i64 a0, .slice qp1 qn2 qc3] 85, .own 87 3 R_Ropewalkref17_entryD (.slice qp1 qn2 qc3) l1]) (fun _ _ => rfl) (fun p24 c24 => ?_)
  refine wl_drop 0 rfl (H' := [_,_,_,_]) rfl ?_
  refine wl_pure rfl rfl rfl (freshS_eq rfl) rfl ?_
  refine wl_fieldAddr rfl rfl rfl (freshS_eq rfl) rfl rfl tF_85_1 ?_
  refine wl_store 2 1 rfl rfl rfl rfl rfl rfl rfl tS_83 rfl rfl rfl (all' := [_,_]) rfl (H' := [_,_,_,_]) rfl ?_
  refine wl_nil ?_
  refine we_then ?_
  refine wc_keep [] (S' := []) rfl ?_
  refine wc_seq ?_
  refine wc_region ?_
  refine wl_pure rfl rfl rfl (freshS_eq rfl) rfl ?_
  refine wl_nil ?_
  refine we_then ?_
  refine wc_ret ?_
  have hE := (Option.some.inj hm).symm
  obtain ⟨hE0, hE1⟩ := Prod.mk.inj hE
  clear hE
  replace hE0 := hE0.symm
  subst hE0
  replace hE1 := hE1.symm
  subst hE1
  refine ret_one (Hr := [_, _]) [2, 1] Try.results53 (res_tmp rfl) ⟨p24, c24, (v11_3 ++ ([(⟨a2, v11_1 ++ v11_2, (⟨#[]⟩ : ByteArray)⟩ : Ropewalkref17_entryD)])).length, rfl, rfl, rfl⟩ (fun _ _ hφ => ask [] rfl hφ) rfl rfl (.inl rfl)
set_option maxRecDepth 100000 in
set_option maxHeartbeats 4000000 in
theorem w_ropewalkref17_Disk_Cut_s (N : Nat) (qg0 : Nat) (a0 : Int) (qp1 : Option Addr) (qn2 : Nat) (qc3 : Nat) (l1 : List Ropewalkref17_entryD) (a2 : ByteArray) (a3 : Int) (o0 : Nat) (o3 : List Ropewalkref17_entryD) (hm : m_ropewalkref17_Disk_Cut N a0 l1 a2 a3 = some (o0, o3)) : Spec Try.prog 54 [.pointer (some ⟨qg0, 0, none⟩), .string a2, .int .i64 a3] [] [.blk qg0 [.int .i64 a0, .slice qp1 qn2 qc3] 85, .own 87 3 R_Ropewalkref17_entryD (.slice qp1 qn2 qc3) l1] (fun v Φr Hr => ∃ (o1 : Option Addr) (o2 : Nat) (o4 : Nat), v = .int .i64 ((o0 : Nat) : Int) ∧ Φr = [] ∧ Hr = [.blk qg0 [.int .i64 a0, .slice o1 o4 o2] 85, .own 87 3 R_Ropewalkref17_entryD (.slice o1 o4 o2) o3]) := by
 unfold m_ropewalkref17_Disk_Cut at hm
 refine spec_of Try.func54 rfl Try.ntmps54 rfl (S := [_,_,_]) rfl (fun C => ?_)
 refine wc_seq ?_
 refine wc_region ?_
 refine wl_pure rfl rfl rfl (freshS_eq rfl) rfl ?_
 refine wl_nil ?_
 refine we_then ?_
 refine wc_keep [0, 1, 2] (S' := [_,_,_]) rfl ?_
 refine wc_seq ?_
 refine wc_region ?_
 refine wl_pure rfl rfl rfl (freshS_eq rfl) rfl ?_
 refine wl_pure rfl rfl rfl (freshS_eq rfl) rfl ?_
 obtain ⟨⟨v14_0, v14_1, v14_2, v14_3, v14_4⟩, hc14, hm⟩ := bindO_some hm
 try dsimp only at hm
 refine wl_call [0, 1] [] rfl rfl rfl (freshS_eq rfl) rfl rfl fn_75 rfl (w_ropewalkref17_Disk_split_s N qg0 a0 qp1 qn2 qc3 l1 a2 _ _ _ _ _ hc14) (fun _ _ hφ => ask [] rfl hφ) rfl (H' := []) rfl ?_
 rintro _ _ _ ⟨p14_0, c14_1, c14_2, rfl, rfl, rfl⟩
 refine wl_pure rfl rfl rfl (freshS_eq rfl) rfl ?_
 refine wl_pure rfl rfl rfl (freshS_eq rfl) rfl ?_
 refine wl_pure rfl rfl rfl (freshS_eq rfl) rfl ?_
 refine wl_pure rfl rfl rfl (freshS_eq rfl) rfl ?_
 refine wl_alloc rfl rfl rfl (freshS_eq rfl) rfl tZ_87 rfl (fun g7 => ?_)
 refine wl_store 0 0 rfl rfl rfl rfl rfl rfl rfl tS_87 rfl rfl rfl (all' := [_,_,_]) rfl (H' := [_,_,_,_]) rfl ?_
 refine wl_pure rfl rfl rfl (freshS_eq rfl) rfl ?_
 refine wl_pure rfl rfl rfl (freshS_eq rfl) rfl ?_
 refine wl_nil ?_
 refine we_then ?_
 refine wc_keep [9, 8, 7, 0, 1, 2] (S' := [_,_,_,_,_,_]) rfl ?_
 refine wc_seq ?_
 refine wc_region ?_
 refine wl_loadH 0 0 rfl rfl rfl (freshS_eq rfl) rfl rfl rfl (cs := [_,_,_]) rfl tS_87 tA_87 rfl rfl ?_
 obtain ⟨_, hc19, hm⟩ := bindO_some hm
 try dsimp only at hm
 refine wl_call [] [0, 1, 2, 3] rfl rfl rfl (freshS_eq rfl) rfl rfl fn_74 rfl (w_ropewalkref17_entry_whole_s N v14_0 v14_1 v14_2 hc19) (fun _ _ hφ => ask [] rfl hφ) rfl (H' := [_,_,_,_]) rfl ?_
 rintro _ _ _ ⟨rfl, rfl, rfl⟩
 refine wl_pure rfl rfl rfl (freshS_eq rfl) rfl ?_
 refine wl_nil ?_
 refine we_then ?_
 refine wc_keep [10, 9, 8, 0, 1, 2] (S' := [_,_,_,_,_,_]) rfl ?_
 refine wc_seq ?_
 refine wc_block ?_
 refine wc_seq ?_
 refine wc_region ?_
 refine wl_pure rfl rfl rfl (freshS_eq rfl) rfl ?_
 refine wl_pure rfl rfl rfl (freshS_eq rfl) rfl ?_
 refine wl_pure rfl rfl rfl (freshS_eq rfl) rfl ?_
 refine wl_nil ?_
 refine we_then ?_
 refine wc_keep [20, 10, 8, 0, 1, 2] (S' := [_,_,_,_,_,_]) rfl ?_
 refine wc_cond rfl (fun hb20 => ?_) (fun hb20 => ?_)
 ·
  replace hm := iteT hm hb20
  refine wc_keep [] (S' := []) rfl ?_
  refine wc_seq ?_
  refine wc_region ?_
  refine wl_pure rfl rfl rfl (freshS_eq rfl) rfl ?_
  refine wl_nil ?_
  refine we_then ?_
  refine wc_ret ?_
  refine we_block_ret ?_
  refine we_then_ret ?_
  have hE := (Option.some.inj hm).symm
  obtain ⟨hE0, hE1⟩ := Prod.mk.inj hE
  clear hE
  replace hE0 := hE0.symm
  subst hE0
  replace hE1 := hE1.symm
  subst hE1
  refine ret_one (Hr := [_, _]) [2, 3] Try.results54 (res_tmp rfl) ⟨qp1, qc3, qn2, rfl, rfl, rfl⟩ (fun _ _ hφ => ask [] rfl hφ) rfl rfl (.inl rfl)
 ·
  replace hm := iteF hm hb20
  refine wc_keep [10, 8, 0, 1, 2] (S' := [_,_,_,_,_]) rfl ?_
  refine wc_seq ?_
  obtain ⟨bj_1, hm, hLj_1⟩ := bindO_some hm
  refine wc_cut (σ := Bool) (fun j_1_23 => bj_1 = j_1_23) (fun j_1_23 => [(10, .string (v14_1 ++ v14_2)), (8, .slice p14_0 c14_2 c14_1), (0, .pointer (some ⟨qg0, 0, none⟩)), (1, .string a2), (2, .int .i64 a3), (23, .bool j_1_23)]) (fun j_1_23 => []) (fun j_1_23 => [.own 87 3 R_Ropewalkref17_entryD (.slice p14_0 c14_2 c14_1) v14_3, .blk qg0 [.int .i64 a0, .slice qp1 qn2 qc3] 85, .own 87 3 R_Ropewalkref17_entryD (.slice qp1 qn2 qc3) l1]) ?_ ?_
  ·
   refine wc_region ?_
   refine wl_pure rfl rfl rfl (freshS_eq rfl) rfl ?_
   refine wl_pure rfl rfl rfl (freshS_eq rfl) rfl ?_
   refine wl_pure rfl rfl rfl (freshS_eq rfl) rfl ?_
   refine wl_split (d := 26) (S' := [_,_,_,_,_,_,_]) rfl rfl (fun hs26 => ?_) (fun hs26 => ?_)
   ·
    replace hm := iteT hm hs26
    refine wl_off rfl rfl rfl (freshS_eq rfl) ?_
    refine wl_off rfl rfl rfl (freshS_eq rfl) ?_
    refine wl_off rfl rfl rfl (freshS_eq rfl) ?_
    refine wl_off rfl rfl rfl (freshS_eq rfl) ?_
    refine wl_pure rfl rfl rfl (freshS_eq rfl) rfl ?_
    refine wl_pure rfl rfl rfl (freshS_eq rfl) rfl ?_
    refine wl_nil ?_
    have hE := (Option.some.inj hm).symm
    refine we_pick [1, 2, 3] rfl (H' := [_,_,_]) rfl ?_
    refine we_join true hE [10, 8, 0, 1, 2, 23] rfl (fun _ _ hφ => ask [] rfl hφ) rfl
   ·
    replace hm := iteF hm hs26
    refine wl_pure rfl rfl rfl (freshS_eq rfl) rfl ?_
    refine wl_pure rfl rfl rfl (freshS_eq rfl) rfl ?_
    refine wl_reck rfl rfl rfl (freshS_eq rfl) (rk_strLen rfl rfl tT_9) ?_
    refine wl_pure rfl rfl rfl (freshS_eq rfl) rfl ?_
    refine wl_pure rfl rfl rfl (freshS_eq rfl) rfl ?_
    refine wl_pure rfl rfl rfl (freshS_eq rfl) rfl ?_
    refine wl_nil ?_
    have hE := (Option.some.inj hm).symm
    refine we_pick [1, 2, 3] rfl (H' := [_,_,_]) rfl ?_
    refine we_join (decide (a3 > (((v14_1 ++ v14_2).size : Nat) : Int))) hE [10, 8, 0, 1, 2, 23] rfl (fun _ _ hφ => ask [] rfl hφ) rfl
  ·
   rintro j_1_23 hE
   try dsimp only
   have hm := hLj_1
   rw [hE] at hm
   refine wc_cond rfl (fun hb23 => ?_) (fun hb23 => ?_)
   ·
    replace hm := iteT hm hb23
    refine wc_keep [] (S' := []) rfl ?_
    refine wc_seq ?_
    refine wc_region ?_
    refine wl_pure rfl rfl rfl (freshS_eq rfl) rfl ?_
    refine wl_nil ?_
    refine we_then ?_
    refine wc_ret ?_
    refine we_block_ret ?_
    refine we_then_ret ?_
    have hE := (Option.some.inj hm).symm
    obtain ⟨hE0, hE1⟩ := Prod.mk.inj hE
    clear hE
    replace hE0 := hE0.symm
    subst hE0
    replace hE1 := hE1.symm
    subst hE1
    refine ret_one (Hr := [_, _]) [1, 2] Try.results54 (res_tmp rfl) ⟨qp1, qc3, qn2, rfl, rfl, rfl⟩ (fun _ _ hφ => ask [] rfl hφ) rfl rfl (.inl rfl)
   ·
    replace hm := iteF hm hb23
    refine wc_keep [10, 8, 0, 1, 2] (S' := [_,_,_,_,_]) rfl ?_
    refine wc_skip ?_
    refine we_block_normal ?_
    refine we_then ?_
    refine wc_seq ?_
    refine wc_region ?_
    refine wl_pure rfl rfl rfl (freshS_eq rfl) rfl ?_
    refine wl_pure rfl rfl rfl (freshS_eq rfl) rfl ?_
    refine wl_pure rfl rfl rfl (freshS_eq rfl) rfl ?_
    refine wl_pure rfl rfl rfl (freshS_eq rfl) rfl ?_
    refine wl_pure rfl rfl rfl (freshS_eq rfl) rfl ?_
    obtain ⟨hn37_1, hm⟩ := gd_some hm
    obtain ⟨hg37, hm⟩ := gd_some hm
    refine wl_reck rfl rfl rfl (freshS_eq rfl) (rk_strTo a3.toNat rfl rfl rfl (toNat_eq hn37_1) hg37 tT_9) ?_
    refine wl_build rfl rfl rfl (freshS_eq rfl) rfl tZ_87 tP_87 rfl (out := [_,_,_]) rfl ?_
    refine wl_buildSlice rfl rfl rfl (freshS_eq rfl) rfl tE_83 tS_87 tZ_87 rfl (zs := [.string ((⟨#[]⟩ : ByteArray)), .string ((⟨#[]⟩ : ByteArray)), .string ((⟨#[]⟩ : ByteArray))]) (by kernel_rfl) rfl (out := [_,_,_]) rfl (fun g39 => ?_)
    obtain ⟨hg40, hm⟩ := gd_some hm
    refine wl_appendH ([(⟨a2, (v14_1 ++ v14_2).extract 0 a3.toNat, (⟨#[]⟩ : ByteArray)⟩ : Ropewalkref17_entryD)]) 1 0 rfl rfl rfl (freshS_eq rfl) rfl rfl rfl rfl rfl (fun F w hφ => ⟨[.string a2, .string ((v14_1 ++ v14_2).extract 0 a3.toNat), .string ((⟨#[]⟩ : ByteArray))], [], rfl, rfl, ⟨(), rfl, ask_nil⟩, rfl⟩) tE_83 tR_87 rfl rfl (Nat.le_trans hg40 (by decide)) (Nat.le_trans (Nat.mul_le_mul_right _ hg40) (by decide)) (H2 := fun p40 c40 => [.blk g39 [.string a2, .string ((v14_1 ++ v14_2).extract 0 a3.toNat), .string ((⟨#[]⟩ : ByteArray))] 87, .own 87 3 R_Ropewalkref17_entryD (.slice p40 ((v14_3 ++ ([(⟨a2, (v14_1 ++ v14_2).extract 0 a3.toNat, (⟨#[]⟩ : ByteArray)⟩ : Ropewalkref17_entryD)])).length) c40) (v14_3 ++ ([(⟨a2, (v14_1 ++ v14_2).extract 0 a3.toNat, (⟨#[]⟩ : ByteArray)⟩ : Ropewalkref17_entryD)])), .blk qg0 [.int .i64 a0, .slice qp1 qn2 qc3] 85, .own 87 3 R_Ropewalkref17_entryD (.slice qp1 qn2 qc3) l1]) (fun _ _ => rfl) (fun p40 c40 => ?_)
    refine wl_drop 0 rfl (H' := [_,_,_]) rfl ?_
    refine wl_pure rfl rfl rfl (freshS_eq rfl) rfl ?_
    refine wl_fieldAddr rfl rfl rfl (freshS_eq rfl) rfl rfl tF_85_1 ?_
    refine wl_store 1 1 rfl rfl rfl rfl rfl rfl rfl tS_83 rfl rfl rfl (all' := [_,_]) rfl (H' := [_,_,_]) rfl ?_
    refine wl_nil ?_
    refine we_then ?_
    refine wc_keep [] (S' := []) rfl ?_
    refine wc_seq ?_
    refine wc_region ?_
    refine wl_pure rfl rfl rfl (freshS_eq rfl) rfl ?_
    refine wl_nil ?_
    refine we_then ?_
    refine wc_ret ?_
    have hE := (Option.some.inj hm).symm
    obtain ⟨hE0, hE1⟩ := Prod.mk.inj hE
    clear hE
    replace hE0 := hE0.symm
    subst hE0
    replace hE1 := hE1.symm
    subst hE1
    refine ret_one (Hr := [_, _]) [1, 0] Try.results54 (res_tmp rfl) ⟨p40, c40, (v14_3 ++ ([(⟨a2, (v14_1 ++ v14_2).extract 0 a3.toNat, (⟨#[]⟩ : ByteArray)⟩ : Ropewalkref17_entryD)])).length, rfl, rfl, rfl⟩ (fun _ _ hφ => ask [] rfl hφ) rfl rfl (.inl rfl)
set_option maxRecDepth 100000 in
set_option maxHeartbeats 4000000 in
theorem w_ropewalkref17_Disk_Rename_s (N : Nat) (qg0 : Nat) (a0 : Int) (qp1 : Option Addr) (qn2 : Nat) (qc3 : Nat) (l1 : List Ropewalkref17_entryD) (a2 : ByteArray) (a3 : ByteArray) (o0 : Nat) (o3 : List Ropewalkref17_entryD) (hm : m_ropewalkref17_Disk_Rename N a0 l1 a2 a3 = some (o0, o3)) : Spec Try.prog 55 [.pointer (some ⟨qg0, 0, none⟩), .string a2, .string a3] [] [.blk qg0 [.int .i64 a0, .slice qp1 qn2 qc3] 85, .own 87 3 R_Ropewalkref17_entryD (.slice qp1 qn2 qc3) l1] (fun v Φr Hr => ∃ (o1 : Option Addr) (o2 : Nat) (o4 : Nat), v = .int .i64 ((o0 : Nat) : Int) ∧ Φr = [] ∧ Hr = [.blk qg0 [.int .i64 a0, .slice o1 o4 o2] 85, .own 87 3 R_Ropewalkref17_entryD (.slice o1 o4 o2) o3]) := by
 unfold m_ropewalkref17_Disk_Rename at hm
 refine spec_of Try.func55 rfl Try.ntmps55 rfl (S := [_,_,_]) rfl (fun C => ?_)
 refine wc_seq ?_
 refine wc_region ?_
 refine wl_pure rfl rfl rfl (freshS_eq rfl) rfl ?_
 refine wl_nil ?_
 refine we_then ?_
 refine wc_keep [0, 1, 2] (S' := [_,_,_]) rfl ?_
 refine wc_seq ?_
 refine wc_seq ?_
 obtain ⟨bj_1, hm, hLj_1⟩ := bindO_some hm
 refine wc_cut (σ := Bool) (fun j_1_20 => bj_1 = j_1_20) (fun j_1_20 => [(0, .pointer (some ⟨qg0, 0, none⟩)), (1, .string a2), (2, .string a3), (20, .bool j_1_20)]) (fun j_1_20 => []) (fun j_1_20 => [.blk qg0 [.int .i64 a0, .slice qp1 qn2 qc3] 85, .own 87 3 R_Ropewalkref17_entryD (.slice qp1 qn2 qc3) l1]) ?_ ?_
 ·
  refine wc_region ?_
  refine wl_pure rfl rfl rfl (freshS_eq rfl) rfl ?_
  obtain ⟨v15, hc15, hm⟩ := bindO_some hm
  refine wl_call [] [0, 1] rfl rfl rfl (freshS_eq rfl) rfl rfl fn_76 rfl (w_ropewalkref17_fit_s N a2 _ hc15) (fun _ _ hφ => ask [] rfl hφ) rfl (H' := [_,_]) rfl ?_
  rintro _ _ _ ⟨rfl, rfl, rfl⟩
  refine wl_pure rfl rfl rfl (freshS_eq rfl) rfl ?_
  refine wl_split (d := 16) (S' := [_,_,_,_,_]) rfl rfl (fun hs16 => ?_) (fun hs16 => ?_)
  ·
   replace hm := iteT hm hs16
   refine wl_pure rfl rfl rfl (freshS_eq rfl) rfl ?_
   obtain ⟨v18, hc18, hm⟩ := bindO_some hm
   refine wl_call [] [0, 1] rfl rfl rfl (freshS_eq rfl) rfl rfl fn_76 rfl (w_ropewalkref17_fit_s N a3 _ hc18) (fun _ _ hφ => ask [] rfl hφ) rfl (H' := [_,_]) rfl ?_
   rintro _ _ _ ⟨rfl, rfl, rfl⟩
   refine wl_pure rfl rfl rfl (freshS_eq rfl) rfl ?_
   refine wl_pure rfl rfl rfl (freshS_eq rfl) rfl ?_
   refine wl_nil ?_
   have hE := (Option.some.inj hm).symm
   refine we_join (!v18) hE [0, 1, 2, 20] rfl (fun _ _ hφ => ask [] rfl hφ) rfl
  ·
   replace hm := iteF hm hs16
   refine wl_off rfl rfl rfl (freshS_eq rfl) ?_
   refine wl_off rfl rfl rfl (freshS_eq rfl) ?_
   refine wl_pure rfl rfl rfl (freshS_eq rfl) rfl ?_
   refine wl_pure rfl rfl rfl (freshS_eq rfl) rfl ?_
   refine wl_nil ?_
   have hE := (Option.some.inj hm).symm
   refine we_join true hE [0, 1, 2, 20] rfl (fun _ _ hφ => ask [] rfl hφ) rfl
 ·
  rintro j_1_20 hE
  try dsimp only
  have hm := hLj_1
  rw [hE] at hm
  refine wc_cond rfl (fun hb20 => ?_) (fun hb20 => ?_)
  ·
   replace hm := iteT hm hb20
   refine wc_keep [] (S' := []) rfl ?_
   refine wc_seq ?_
   refine wc_region ?_
   refine wl_pure rfl rfl rfl (freshS_eq rfl) rfl ?_
   refine wl_nil ?_
   refine we_then ?_
   refine wc_ret ?_
   refine we_then_ret ?_
   have hE := (Option.some.inj hm).symm
   obtain ⟨hE0, hE1⟩ := Prod.mk.inj hE
   clear hE
   replace hE0 := hE0.symm
   subst hE0
   replace hE1 := hE1.symm
   subst hE1
   refine ret_one (Hr := [_, _]) [0, 1] Try.results55 (res_tmp rfl) ⟨qp1, qc3, qn2, rfl, rfl, rfl⟩ (fun _ _ hφ => ask [] rfl hφ) rfl rfl (.inl rfl)
  ·
   replace hm := iteF hm hb20
   refine wc_keep [0, 1, 2] (S' := [_,_,_]) rfl ?_
   refine wc_skip ?_
   refine we_then ?_
   refine wc_seq ?_
   refine wc_region ?_
   refine wl_pure rfl rfl rfl (freshS_eq rfl) rfl ?_
   refine wl_pure rfl rfl rfl (freshS_eq rfl) rfl ?_
   obtain ⟨⟨v24_0, v24_1, v24_2, v24_3, v24_4⟩, hc24, hm⟩ := bindO_some hm
   try dsimp only at hm
   refine wl_call [0, 1] [] rfl rfl rfl (freshS_eq rfl) rfl rfl fn_75 rfl (w_ropewalkref17_Disk_split_s N qg0 a0 qp1 qn2 qc3 l1 a2 _ _ _ _ _ hc24) (fun _ _ hφ => ask [] rfl hφ) rfl (H' := []) rfl ?_
   rintro _ _ _ ⟨p24_0, c24_1, c24_2, rfl, rfl, rfl⟩
   refine wl_pure rfl rfl rfl (freshS_eq rfl) rfl ?_
   refine wl_pure rfl rfl rfl (freshS_eq rfl) rfl ?_
   refine wl_pure rfl rfl rfl (freshS_eq rfl) rfl ?_
   refine wl_pure rfl rfl rfl (freshS_eq rfl) rfl ?_
   refine wl_alloc rfl rfl rfl (freshS_eq rfl) rfl tZ_87 rfl (fun g7 => ?_)
   refine wl_store 0 0 rfl rfl rfl rfl rfl rfl rfl tS_87 rfl rfl rfl (all' := [_,_,_]) rfl (H' := [_,_,_,_]) rfl ?_
   refine wl_pure rfl rfl rfl (freshS_eq rfl) rfl ?_
   refine wl_pure rfl rfl rfl (freshS_eq rfl) rfl ?_
   refine wl_nil ?_
   refine we_then ?_
   refine wc_keep [9, 8, 7, 0, 2] (S' := [_,_,_,_,_]) rfl ?_
   refine wc_seq ?_
   refine wc_seq ?_
   refine wc_region ?_
   refine wl_pure rfl rfl rfl (freshS_eq rfl) rfl ?_
   refine wl_pure rfl rfl rfl (freshS_eq rfl) rfl ?_
   refine wl_nil ?_
   refine we_then ?_
   refine wc_keep [29, 8, 7, 0, 2] (S' := [_,_,_,_,_]) rfl ?_
   refine wc_cond rfl (fun hb29 => ?_) (fun hb29 => ?_)
   ·
    replace hm := iteT hm hb29
    refine wc_keep [] (S' := []) rfl ?_
    refine wc_seq ?_
    refine wc_region ?_
    refine wl_pure rfl rfl rfl (freshS_eq rfl) rfl ?_
    refine wl_nil ?_
    refine we_then ?_
    refine wc_ret ?_
    refine we_then_ret ?_
    have hE := (Option.some.inj hm).symm
    obtain ⟨hE0, hE1⟩ := Prod.mk.inj hE
    clear hE
    replace hE0 := hE0.symm
    subst hE0
    replace hE1 := hE1.symm
    subst hE1
    refine ret_one (Hr := [_, _]) [2, 3] Try.results55 (res_tmp rfl) ⟨qp1, qc3, qn2, rfl, rfl, rfl⟩ (fun _ _ hφ => ask [] rfl hφ) rfl rfl (.inl rfl)
   ·
    replace hm := iteF hm hb29
    refine wc_keep [8, 7, 0, 2] (S' := [_,_,_,_]) rfl ?_
    refine wc_skip ?_
    refine we_then ?_
    refine wc_seq ?_
    refine wc_region ?_
    refine wl_pure rfl rfl rfl (freshS_eq rfl) rfl ?_
    refine wl_build rfl rfl rfl (freshS_eq rfl) rfl tZ_85 tP_85 rfl (out := [_,_]) rfl ?_
    refine wl_alloc rfl rfl rfl (freshS_eq rfl) rfl tZ_85 rfl (fun g10 => ?_)
    refine wl_store 0 0 rfl rfl rfl rfl rfl rfl rfl tS_85 rfl rfl rfl (all' := [_,_]) rfl (H' := [_,_,_,_,_]) rfl ?_
    refine wl_nil ?_
    refine we_then ?_
    refine wc_keep [10, 7, 0, 2] (S' := [_,_,_,_]) rfl ?_
    refine wc_seq ?_
    refine wc_region ?_
    refine wl_pure rfl rfl rfl (freshS_eq rfl) rfl ?_
    obtain ⟨⟨v34_0, v34_1, v34_2, v34_3, v34_4⟩, hc34, hm⟩ := bindO_some hm
    try dsimp only at hm
    refine wl_call [0, 2] [1, 3, 4] rfl rfl rfl (freshS_eq rfl) rfl rfl fn_75 rfl (w_ropewalkref17_Disk_split_s N g10 0 p24_0 c24_2 c24_1 v24_3 a3 _ _ _ _ _ hc34) (fun _ _ hφ => ask [] rfl hφ) rfl (H' := [_,_,_]) rfl ?_
    rintro _ _ _ ⟨p34_0, c34_1, c34_2, rfl, rfl, rfl⟩
    refine wl_pure rfl rfl rfl (freshS_eq rfl) rfl ?_
    refine wl_pure rfl rfl rfl (freshS_eq rfl) rfl ?_
    refine wl_pure rfl rfl rfl (freshS_eq rfl) rfl ?_
    refine wl_pure rfl rfl rfl (freshS_eq rfl) rfl ?_
    refine wl_alloc rfl rfl rfl (freshS_eq rfl) rfl tZ_87 rfl (fun g11 => ?_)
    refine wl_store 0 0 rfl rfl rfl rfl rfl rfl rfl tS_87 rfl rfl rfl (all' := [_,_,_]) rfl (H' := [_,_,_,_,_,_,_]) rfl ?_
    refine wl_pure rfl rfl rfl (freshS_eq rfl) rfl ?_
    refine wl_pure rfl rfl rfl (freshS_eq rfl) rfl ?_
    refine wl_nil ?_
    refine we_then ?_
    refine wc_keep [12, 7, 0, 2] (S' := [_,_,_,_]) rfl ?_
    refine wc_seq ?_
    refine wc_region ?_
    refine wl_pure rfl rfl rfl (freshS_eq rfl) rfl ?_
    refine wl_pure rfl rfl rfl (freshS_eq rfl) rfl ?_
    refine wl_pure rfl rfl rfl (freshS_eq rfl) rfl ?_
    refine wl_fieldAddr rfl rfl rfl (freshS_eq rfl) rfl rfl tF_87_1 ?_
    refine wl_loadH 4 1 rfl rfl rfl (freshS_eq rfl) rfl rfl rfl (cs := [_]) rfl tS_9 tA_9 rfl rfl ?_
    refine wl_fieldAddr rfl rfl rfl (freshS_eq rfl) rfl rfl tF_87_2 ?_
    refine wl_loadH 4 2 rfl rfl rfl (freshS_eq rfl) rfl rfl rfl (cs := [_]) rfl tS_9 tA_9 rfl rfl ?_
    refine wl_build rfl rfl rfl (freshS_eq rfl) rfl tZ_87 tP_87 rfl (out := [_,_,_]) rfl ?_
    refine wl_buildSlice rfl rfl rfl (freshS_eq rfl) rfl tE_83 tS_87 tZ_87 rfl (zs := [.string ((⟨#[]⟩ : ByteArray)), .string ((⟨#[]⟩ : ByteArray)), .string ((⟨#[]⟩ : ByteArray))]) (by kernel_rfl) rfl (out := [_,_,_]) rfl (fun g46 => ?_)
    obtain ⟨hg47, hm⟩ := gd_some hm
    refine wl_appendH ([(⟨a3, v24_1, v24_2⟩ : Ropewalkref17_entryD)]) 2 0 rfl rfl rfl (freshS_eq rfl) rfl rfl rfl rfl rfl (fun F w hφ => ⟨[.string a3, .string v24_1, .string v24_2], [], rfl, rfl, ⟨(), rfl, ask_nil⟩, rfl⟩) tE_83 tR_87 rfl rfl (Nat.le_trans hg47 (by decide)) (Nat.le_trans (Nat.mul_le_mul_right _ hg47) (by decide)) (H2 := fun p47 c47 => [.blk g46 [.string a3, .string v24_1, .string v24_2] 87, .blk g11 [.string v34_0, .string v34_1, .string v34_2] 87, .own 87 3 R_Ropewalkref17_entryD (.slice p47 ((v34_3 ++ ([(⟨a3, v24_1, v24_2⟩ : Ropewalkref17_entryD)])).length) c47) (v34_3 ++ ([(⟨a3, v24_1, v24_2⟩ : Ropewalkref17_entryD)])), .blk g10 [.int .i64 0, .slice p24_0 c24_2 c24_1] 85, .own 87 3 R_Ropewalkref17_entryD (.slice p24_0 c24_2 c24_1) v24_3, .blk g7 [.string v24_0, .string v24_1, .string v24_2] 87, .blk qg0 [.int .i64 a0, .slice qp1 qn2 qc3] 85, .own 87 3 R_Ropewalkref17_entryD (.slice qp1 qn2 qc3) l1]) (fun _ _ => rfl) (fun p47 c47 => ?_)
    refine wl_drop 0 rfl (H' := [_,_,_,_,_,_,_]) rfl ?_
    refine wl_pure rfl rfl rfl (freshS_eq rfl) rfl ?_
    refine wl_fieldAddr rfl rfl rfl (freshS_eq rfl) rfl rfl tF_85_1 ?_
    refine wl_store 5 1 rfl rfl rfl rfl rfl rfl rfl tS_83 rfl rfl rfl (all' := [_,_]) rfl (H' := [_,_,_,_,_,_,_]) rfl ?_
    refine wl_nil ?_
    refine we_then ?_
    refine wc_keep [] (S' := []) rfl ?_
    refine wc_seq ?_
    refine wc_region ?_
    refine wl_pure rfl rfl rfl (freshS_eq rfl) rfl ?_
    refine wl_nil ?_
    refine we_then ?_
    refine wc_ret ?_
    have hE := (Option.some.inj hm).symm
    obtain ⟨hE0, hE1⟩ := Prod.mk.inj hE
    clear hE
    replace hE0 := hE0.symm
    subst hE0
    replace hE1 := hE1.symm
    subst hE1
    refine ret_one (Hr := [_, _]) [5, 1] Try.results55 (res_tmp rfl) ⟨p47, c47, (v34_3 ++ ([(⟨a3, v24_1, v24_2⟩ : Ropewalkref17_entryD)])).length, rfl, rfl, rfl⟩ (fun _ _ hφ => ask [] rfl hφ) rfl rfl (.inl rfl)
set_option maxRecDepth 100000 in
set_option maxHeartbeats 4000000 in
theorem w_ropewalkref17_Disk_Remove_s (N : Nat) (qg0 : Nat) (a0 : Int) (qp1 : Option Addr) (qn2 : Nat) (qc3 : Nat) (l1 : List Ropewalkref17_entryD) (a2 : ByteArray) (o0 : Nat) (o3 : List Ropewalkref17_entryD) (hm : m_ropewalkref17_Disk_Remove N a0 l1 a2 = some (o0, o3)) : Spec Try.prog 56 [.pointer (some ⟨qg0, 0, none⟩), .string a2] [] [.blk qg0 [.int .i64 a0, .slice qp1 qn2 qc3] 85, .own 87 3 R_Ropewalkref17_entryD (.slice qp1 qn2 qc3) l1] (fun v Φr Hr => ∃ (o1 : Option Addr) (o2 : Nat) (o4 : Nat), v = .int .i64 ((o0 : Nat) : Int) ∧ Φr = [] ∧ Hr = [.blk qg0 [.int .i64 a0, .slice o1 o4 o2] 85, .own 87 3 R_Ropewalkref17_entryD (.slice o1 o4 o2) o3]) := by
 unfold m_ropewalkref17_Disk_Remove at hm
 refine spec_of Try.func56 rfl Try.ntmps56 rfl (S := [_,_]) rfl (fun C => ?_)
 refine wc_seq ?_
 refine wc_region ?_
 refine wl_pure rfl rfl rfl (freshS_eq rfl) rfl ?_
 refine wl_nil ?_
 refine we_then ?_
 refine wc_keep [0, 1] (S' := [_,_]) rfl ?_
 refine wc_seq ?_
 refine wc_region ?_
 refine wl_pure rfl rfl rfl (freshS_eq rfl) rfl ?_
 refine wl_pure rfl rfl rfl (freshS_eq rfl) rfl ?_
 obtain ⟨⟨v11_0, v11_1, v11_2, v11_3, v11_4⟩, hc11, hm⟩ := bindO_some hm
 try dsimp only at hm
 refine wl_call [0, 1] [] rfl rfl rfl (freshS_eq rfl) rfl rfl fn_75 rfl (w_ropewalkref17_Disk_split_s N qg0 a0 qp1 qn2 qc3 l1 a2 _ _ _ _ _ hc11) (fun _ _ hφ => ask [] rfl hφ) rfl (H' := []) rfl ?_
 rintro _ _ _ ⟨p11_0, c11_1, c11_2, rfl, rfl, rfl⟩
 refine wl_pure rfl rfl rfl (freshS_eq rfl) rfl ?_
 refine wl_pure rfl rfl rfl (freshS_eq rfl) rfl ?_
 refine wl_pure rfl rfl rfl (freshS_eq rfl) rfl ?_
 refine wl_pure rfl rfl rfl (freshS_eq rfl) rfl ?_
 refine wl_alloc rfl rfl rfl (freshS_eq rfl) rfl tZ_87 rfl (fun g5 => ?_)
 refine wl_store 0 0 rfl rfl rfl rfl rfl rfl rfl tS_87 rfl rfl rfl (all' := [_,_,_]) rfl (H' := [_,_,_,_]) rfl ?_
 refine wl_pure rfl rfl rfl (freshS_eq rfl) rfl ?_
 refine wl_pure rfl rfl rfl (freshS_eq rfl) rfl ?_
 refine wl_nil ?_
 refine we_then ?_
 refine wc_keep [7, 6, 0] (S' := [_,_,_]) rfl ?_
 refine wc_seq ?_
 refine wc_seq ?_
 refine wc_region ?_
 refine wl_pure rfl rfl rfl (freshS_eq rfl) rfl ?_
 refine wl_pure rfl rfl rfl (freshS_eq rfl) rfl ?_
 refine wl_nil ?_
 refine we_then ?_
 refine wc_keep [16, 6, 0] (S' := [_,_,_]) rfl ?_
 refine wc_cond rfl (fun hb16 => ?_) (fun hb16 => ?_)
 ·
  replace hm := iteT hm hb16
  refine wc_keep [] (S' := []) rfl ?_
  refine wc_seq ?_
  refine wc_region ?_
  refine wl_pure rfl rfl rfl (freshS_eq rfl) rfl ?_
  refine wl_nil ?_
  refine we_then ?_
  refine wc_ret ?_
  refine we_then_ret ?_
  have hE := (Option.some.inj hm).symm
  obtain ⟨hE0, hE1⟩ := Prod.mk.inj hE
  clear hE
  replace hE0 := hE0.symm
  subst hE0
  replace hE1 := hE1.symm
  subst hE1
  refine ret_one (Hr := [_, _]) [2, 3] Try.results56 (res_tmp rfl) ⟨qp1, qc3, qn2, rfl, rfl, rfl⟩ (fun _ _ hφ => ask [] rfl hφ) rfl rfl (.inl rfl)
 ·
  replace hm := iteF hm hb16
  refine wc_keep [6, 0] (S' := [_,_]) rfl ?_
  refine wc_skip ?_
  refine we_then ?_
  refine wc_seq ?_
  refine wc_region ?_
  refine wl_pure rfl rfl rfl (freshS_eq rfl) rfl ?_
  refine wl_pure rfl rfl rfl (freshS_eq rfl) rfl ?_
  refine wl_pure rfl rfl rfl (freshS_eq rfl) rfl ?_
  refine wl_fieldAddr rfl rfl rfl (freshS_eq rfl) rfl rfl tF_85_1 ?_
  refine wl_store 2 1 rfl rfl rfl rfl rfl rfl rfl tS_83 rfl rfl rfl (all' := [_,_]) rfl (H' := [_,_,_,_]) rfl ?_
  refine wl_nil ?_
  refine we_then ?_
  refine wc_keep [] (S' := []) rfl ?_
  refine wc_seq ?_
  refine wc_region ?_
  refine wl_pure rfl rfl rfl (freshS_eq rfl) rfl ?_
  refine wl_nil ?_
  refine we_then ?_
  refine wc_ret ?_
  have hE := (Option.some.inj hm).symm
  obtain ⟨hE0, hE1⟩ := Prod.mk.inj hE
  clear hE
  replace hE0 := hE0.symm
  subst hE0
  replace hE1 := hE1.symm
  subst hE1
  refine ret_one (Hr := [_, _]) [2, 1] Try.results56 (res_tmp rfl) ⟨p11_0, c11_1, c11_2, rfl, rfl, rfl⟩ (fun _ _ hφ => ask [] rfl hφ) rfl rfl (.inl rfl)
end Go.Proofs.Ytkakbckmajdggaa
