/- Walks, printed by a program out of the loaded code. -/
import Derived.Test.YtkakbckmajdggaaXW5
namespace Go.Proofs.Ytkakbckmajdggaa
open Go.RowKit
set_option maxRecDepth 100000 in
set_option maxHeartbeats 4000000 in
theorem w_ropewalklaw17_DiskCopies_s (N : Nat) (a0 : Int) (qp0 : Option Addr) (qc1 : Nat) (l1 : List Ropewalklaw17_DoD) (a2 : Int) (o0 : Bool) (hm : m_ropewalklaw17_DiskCopies N a0 l1 a2 = some o0) : Spec Try.prog 5 [.int .i64 a0, .slice qp0 l1.length qc1, .int .i64 a2] [.sli 5 R_Ropewalklaw17_DoD qp0 qc1 l1] [] (fun v Φr Hr => v = .bool o0 ∧ Φr = [] ∧ Hr = []) := by
 unfold m_ropewalklaw17_DiskCopies at hm
 refine spec_of Try.func5 rfl Try.ntmps5 rfl (S := [_,_,_]) rfl (fun C => ?_)
 refine wc_seq ?_
 refine wc_region ?_
 refine wl_pure rfl rfl rfl (freshS_eq rfl) rfl ?_
 refine wl_nil ?_
 refine we_then ?_
 refine wc_keep [0, 1, 2] (S' := [_,_,_]) rfl ?_
 refine wc_seq ?_
 refine wc_region ?_
 refine wl_pure rfl rfl rfl (freshS_eq rfl) rfl ?_
 obtain ⟨_, hc15, hm⟩ := bindO_some hm
 try dsimp only at hm
 refine wl_call [] [] rfl rfl rfl (freshS_eq rfl) rfl rfl fn_20 rfl (w_ropewalklaw17_short_s N qp0 qc1 l1 hc15) (fun _ _ hφ => ask [0] rfl hφ) rfl (H' := []) rfl ?_
 rintro _ _ _ ⟨p15_0, rfl, rfl, rfl⟩
 refine wl_pure rfl rfl rfl (freshS_eq rfl) rfl ?_
 refine wl_nil ?_
 refine we_then ?_
 refine wc_keep [7, 0, 2] (S' := [_,_,_]) rfl ?_
 refine wc_seq ?_
 refine wc_region ?_
 refine wl_pure rfl rfl rfl (freshS_eq rfl) rfl ?_
 refine wl_pure rfl rfl rfl (freshS_eq rfl) rfl ?_
 refine wl_len rfl rfl rfl (freshS_eq rfl) rfl rfl tE_40 ?_
 refine wl_pure rfl rfl rfl (freshS_eq rfl) rfl ?_
 obtain ⟨hg19, hm⟩ := gd_some hm
 refine wl_as (d := 19) (v' := .int .i64 ((((l1.take (min l1.length 60)).length) + 1 : Nat) : Int)) (S' := [_,_,_,_,_,_]) rfl rfl (nat_add (a := (l1.take (min l1.length 60)).length) (b := 1) hg19) ?_
 obtain ⟨v20, hc20, hm⟩ := bindO_some hm
 refine wl_call [] [] rfl rfl rfl (freshS_eq rfl) rfl rfl fn_23 rfl (w_ropewalkkit_Pick_s N a2 ((((l1.take (min l1.length 60)).length) + 1 : Nat) : Int) _ hc20) (fun _ _ hφ => ask [] rfl hφ) rfl (H' := []) rfl ?_
 rintro _ _ _ ⟨rfl, rfl, rfl⟩
 refine wl_pure rfl rfl rfl (freshS_eq rfl) rfl ?_
 refine wl_nil ?_
 refine we_then ?_
 refine wc_keep [8, 7, 0] (S' := [_,_,_]) rfl ?_
 refine wc_seq ?_
 refine wc_region ?_
 refine wl_pure rfl rfl rfl (freshS_eq rfl) rfl ?_
 obtain ⟨v22, hc22, hm⟩ := bindO_some hm
 refine wl_call [] [] rfl rfl rfl (freshS_eq rfl) rfl rfl fn_21 rfl (w_ropewalklaw17_begin_s N a0 _ hc22) (fun _ _ hφ => ask [] rfl hφ) rfl (H' := []) rfl ?_
 rintro _ _ _ ⟨c22_0, c22_1, c22_2, rfl, rfl, rfl⟩
 refine wl_alloc rfl rfl rfl (freshS_eq rfl) rfl tZ_44 rfl (fun g9 => ?_)
 refine wl_store 0 0 rfl rfl rfl rfl rfl rfl rfl tS_44 rfl rfl rfl (all' := [_,_]) rfl (H' := [_,_,_,_]) rfl ?_
 refine wl_nil ?_
 refine we_then ?_
 refine wc_keep [9, 8, 7] (S' := [_,_,_]) rfl ?_
 refine wc_seq ?_
 refine wc_seq ?_
 refine wc_region ?_
 refine wl_loadH 0 0 rfl rfl rfl (freshS_eq rfl) rfl rfl rfl (cs := [_,_]) rfl tS_44 tA_44 rfl rfl ?_
 refine wl_pure rfl rfl rfl (freshS_eq rfl) rfl ?_
 refine wl_pure rfl rfl rfl (freshS_eq rfl) rfl ?_
 refine wl_rowNil 87 3 R_Ropewalkref17_entryD ?_
 obtain ⟨⟨v26_0, v26_1, v26_2⟩, hc26, hm⟩ := bindO_some hm
 try dsimp only at hm
 refine wl_call [2, 3, 4, 0] [1] rfl rfl rfl (freshS_eq rfl) rfl rfl fn_22 rfl (w_ropewalklaw17_both_goes_s N c22_0 (maxI a0 0) c22_1 ([] : List (ByteArray × Disk_rowsD)) c22_2 v22 none 0 0 [] p15_0 qc1 (l1.take (min l1.length 60)) 0 v20 _ _ _ hc26) (fun _ _ hφ => ask [0] rfl hφ) rfl (H' := [_]) rfl ?_
 rintro _ _ _ ⟨p26_0, c26_1, c26_2, rfl, rfl, rfl⟩
 refine wl_pure rfl rfl rfl (freshS_eq rfl) rfl ?_
 refine wl_nil ?_
 refine we_then ?_
 refine wc_keep [27, 9, 8, 7] (S' := [_,_,_,_]) rfl ?_
 refine wc_cond rfl (fun hb27 => ?_) (fun hb27 => ?_)
 ·
  replace hm := iteT hm hb27
  refine wc_keep [] (S' := []) rfl ?_
  refine wc_seq ?_
  refine wc_region ?_
  refine wl_pure rfl rfl rfl (freshS_eq rfl) rfl ?_
  refine wl_nil ?_
  refine we_then ?_
  refine wc_ret ?_
  refine we_then_ret ?_
  have hE := (Option.some.inj hm).symm
  replace hE := hE.symm
  subst hE
  refine ret_one (Hr := []) [] Try.results5 (res_tmp rfl) ⟨rfl, rfl, rfl⟩ (fun _ _ hφ => ask [] rfl hφ) rfl rfl (.inl rfl)
 ·
  replace hm := iteF hm hb27
  refine wc_keep [9, 8, 7] (S' := [_,_,_]) rfl ?_
  refine wc_skip ?_
  refine we_then ?_
  refine wc_seq ?_
  obtain ⟨v30, hc30, hm⟩ := bindO_some hm
  obtain ⟨⟨v33_0, v33_1⟩, hc33, hm⟩ := bindO_some hm
  try dsimp only at hm
  refine wc_cut (σ := Nat × Nat × Nat × Nat × (Option Addr) × Nat × Nat) (fun _ => True) (fun (w_1_10_g, w_1_10_f0_g, w_1_10_f0_f1_b, w_1_10_f1_g, w_1_10_f1_f1_p, w_1_10_f1_f1_c, w_1_10_f1_f1_n) => [(10, .pointer (some ⟨w_1_10_g, 0, none⟩)), (9, .pointer (some ⟨g9, 0, none⟩)), (8, .int .i64 v20), (7, .slice p15_0 ((l1.take (min l1.length 60)).length) qc1)]) (fun (w_1_10_g, w_1_10_f0_g, w_1_10_f0_f1_b, w_1_10_f1_g, w_1_10_f1_f1_p, w_1_10_f1_f1_c, w_1_10_f1_f1_n) => [.sli 5 R_Ropewalklaw17_DoD p15_0 qc1 (l1.take (min l1.length 60))]) (fun (w_1_10_g, w_1_10_f0_g, w_1_10_f0_f1_b, w_1_10_f1_g, w_1_10_f1_f1_p, w_1_10_f1_f1_c, w_1_10_f1_f1_n) => [.blk w_1_10_g [.pointer (some ⟨w_1_10_f0_g, 0, none⟩), .pointer (some ⟨w_1_10_f1_g, 0, none⟩)] 44, .blk w_1_10_f0_g [.int .i64 (maxI (maxI a0 0) 0), .map (some w_1_10_f0_f1_b)] 59, mapP (keyStr (tStr_run tT_9)) true R_Disk_rowsD w_1_10_f0_f1_b v30, .blk w_1_10_f1_g [.int .i64 v33_0, .slice w_1_10_f1_f1_p w_1_10_f1_f1_n w_1_10_f1_f1_c] 85, .own 87 3 R_Ropewalkref17_entryD (.slice w_1_10_f1_f1_p w_1_10_f1_f1_n w_1_10_f1_f1_c) v33_1, .blk g9 [.pointer (some ⟨c22_0, 0, none⟩), .pointer (some ⟨c22_2, 0, none⟩)] 44, .blk c22_0 [.int .i64 (maxI a0 0), .map (some c22_1)] 59, mapP (keyStr (tStr_run tT_9)) true R_Disk_rowsD c22_1 v26_1, .blk c22_2 [.int .i64 v22, .slice p26_0 c26_2 c26_1] 85, .own 87 3 R_Ropewalkref17_entryD (.slice p26_0 c26_2 c26_1) v26_2]) ?_ ?_
  ·
   refine wc_draw [0, 1, 3, 4, 6] rfl rfl (fun hok => ?_)
   refine wx_fieldAddr hok 0 rfl rfl rfl (freshS_eq rfl) rfl rfl rfl tF_44_0 ?_
   refine wx_loadH hok 1 4 0 rfl rfl rfl (freshS_eq rfl) rfl rfl rfl rfl (cs := [_]) rfl tS_24 tA_24 rfl rfl ?_
   refine wx_fieldAddr hok 3 rfl rfl rfl (freshS_eq rfl) rfl rfl rfl tF_44_1 ?_
   refine wx_loadH hok 4 4 1 rfl rfl rfl (freshS_eq rfl) rfl rfl rfl rfl (cs := [_]) rfl tS_42 tA_42 rfl rfl ?_
   refine wx_step2 hok 2 7 rfl rfl rfl rfl rfl rfl ?_ ?_
   ·
    refine wl_call [0, 1] [2, 3, 4] rfl rfl rfl (freshS_eq rfl) rfl rfl fn_24 rfl (w_disk_Disk_Copy_v3_s N c22_0 (maxI a0 0) c22_1 v26_1 _ hc30) (fun _ _ hφ => ask [] rfl hφ) rfl (H' := [_,_,_]) rfl ?_
    rintro _ _ _ ⟨c30_0, c30_1, rfl, rfl, rfl⟩
    refine wl_nil ?_
    refine we_x [0, 1] [6] rfl rfl ?_
    refine wx_step2 hok 5 7 rfl rfl rfl rfl rfl rfl ?_ ?_
    ·
     refine wl_call [4, 5] [0, 1, 2, 3, 6] rfl rfl rfl (freshS_eq rfl) rfl rfl fn_25 rfl (w_ropewalkref17_Disk_Copy_s N c22_2 v22 p26_0 c26_2 c26_1 v26_2 _ _ hc33) (fun _ _ hφ => ask [] rfl hφ) rfl (H' := [_,_,_,_,_]) rfl ?_
     rintro _ _ _ ⟨c33_0, p33_1, c33_2, c33_3, rfl, rfl, rfl⟩
     refine wl_nil ?_
     refine we_x [0, 1] [8] rfl rfl ?_
     refine wx_build hok 6 rfl rfl rfl (freshS_eq rfl) rfl rfl tZ_44 tP_44 rfl (out := [_,_]) rfl ?_
     refine wx_step1 hok 7 rfl rfl rfl rfl ?_
     refine wl_alloc rfl rfl rfl (freshS_eq rfl) rfl tZ_44 rfl (fun g10 => ?_)
     refine wl_nil ?_
     refine we_x [0, 1] [9, 9] rfl rfl ?_
     refine wx_step1 hok 8 rfl rfl rfl rfl ?_
     refine wl_store 0 0 rfl rfl rfl rfl rfl rfl rfl tS_44 rfl rfl rfl (all' := [_,_]) rfl (H' := [_,_,_,_,_,_,_,_,_,_]) rfl ?_
     refine wl_nil ?_
     refine we_x [0, 1] [] rfl rfl ?_
     refine wx_done hok rfl ?_
     refine we_pick [0, 5, 6, 1, 2, 9, 7, 8, 3, 4] rfl (H' := [_,_,_,_,_,_,_,_,_,_]) rfl ?_
     refine we_join (g10, c30_0, c30_1, c33_0, p33_1, c33_2, c33_3) trivial [10, 9, 8, 7] rfl (fun _ _ hφ => ask [0] rfl hφ) rfl
    ·
     refine wl_alloc rfl rfl rfl (freshS_eq rfl) rfl tZ_44 rfl (fun g10 => ?_)
     refine wl_nil ?_
     refine we_x [0, 1] [7, 7] rfl rfl ?_
     refine wx_step1 hok 5 rfl rfl rfl rfl ?_
     refine wl_call [5, 6] [0, 1, 2, 3, 4, 7] rfl rfl rfl (freshS_eq rfl) rfl rfl fn_25 rfl (w_ropewalkref17_Disk_Copy_s N c22_2 v22 p26_0 c26_2 c26_1 v26_2 _ _ hc33) (fun _ _ hφ => ask [] rfl hφ) rfl (H' := [_,_,_,_,_,_]) rfl ?_
     rintro _ _ _ ⟨c33_0, p33_1, c33_2, c33_3, rfl, rfl, rfl⟩
     refine wl_nil ?_
     refine we_x [0, 1] [9] rfl rfl ?_
     refine wx_build hok 6 rfl rfl rfl (freshS_eq rfl) rfl rfl tZ_44 tP_44 rfl (out := [_,_]) rfl ?_
     refine wx_step1 hok 8 rfl rfl rfl rfl ?_
     refine wl_store 4 0 rfl rfl rfl rfl rfl rfl rfl tS_44 rfl rfl rfl (all' := [_,_]) rfl (H' := [_,_,_,_,_,_,_,_,_,_]) rfl ?_
     refine wl_nil ?_
     refine we_x [0, 1] [] rfl rfl ?_
     refine wx_done hok rfl ?_
     refine we_pick [4, 5, 6, 0, 1, 9, 7, 8, 2, 3] rfl (H' := [_,_,_,_,_,_,_,_,_,_]) rfl ?_
     refine we_join (g10, c30_0, c30_1, c33_0, p33_1, c33_2, c33_3) trivial [10, 9, 8, 7] rfl (fun _ _ hφ => ask [0] rfl hφ) rfl
   ·
    refine wl_alloc rfl rfl rfl (freshS_eq rfl) rfl tZ_44 rfl (fun g10 => ?_)
    refine wl_nil ?_
    refine we_x [0, 1] [5, 5] rfl rfl ?_
    refine wx_step1 hok 2 rfl rfl rfl rfl ?_
    refine wl_call [1, 2] [0, 3, 4, 5] rfl rfl rfl (freshS_eq rfl) rfl rfl fn_24 rfl (w_disk_Disk_Copy_v3_s N c22_0 (maxI a0 0) c22_1 v26_1 _ hc30) (fun _ _ hφ => ask [] rfl hφ) rfl (H' := [_,_,_,_]) rfl ?_
    rintro _ _ _ ⟨c30_0, c30_1, rfl, rfl, rfl⟩
    refine wl_nil ?_
    refine we_x [0, 1] [7] rfl rfl ?_
    refine wx_step1 hok 5 rfl rfl rfl rfl ?_
    refine wl_call [5, 6] [0, 1, 2, 3, 4, 7] rfl rfl rfl (freshS_eq rfl) rfl rfl fn_25 rfl (w_ropewalkref17_Disk_Copy_s N c22_2 v22 p26_0 c26_2 c26_1 v26_2 _ _ hc33) (fun _ _ hφ => ask [] rfl hφ) rfl (H' := [_,_,_,_,_,_]) rfl ?_
    rintro _ _ _ ⟨c33_0, p33_1, c33_2, c33_3, rfl, rfl, rfl⟩
    refine wl_nil ?_
    refine we_x [0, 1] [9] rfl rfl ?_
    refine wx_build hok 6 rfl rfl rfl (freshS_eq rfl) rfl rfl tZ_44 tP_44 rfl (out := [_,_]) rfl ?_
    refine wx_step1 hok 8 rfl rfl rfl rfl ?_
    refine wl_store 8 0 rfl rfl rfl rfl rfl rfl rfl tS_44 rfl rfl rfl (all' := [_,_]) rfl (H' := [_,_,_,_,_,_,_,_,_,_]) rfl ?_
    refine wl_nil ?_
    refine we_x [0, 1] [] rfl rfl ?_
    refine wx_done hok rfl ?_
    refine we_pick [8, 4, 5, 0, 1, 9, 6, 7, 2, 3] rfl (H' := [_,_,_,_,_,_,_,_,_,_]) rfl ?_
    refine we_join (g10, c30_0, c30_1, c33_0, p33_1, c33_2, c33_3) trivial [10, 9, 8, 7] rfl (fun _ _ hφ => ask [0] rfl hφ) rfl
  ·
   rintro ⟨w_1_10_g, w_1_10_f0_g, w_1_10_f0_f1_b, w_1_10_f1_g, w_1_10_f1_f1_p, w_1_10_f1_f1_c, w_1_10_f1_f1_n⟩ _
   try dsimp only
   refine wc_seq ?_
   refine wc_seq ?_
   obtain ⟨bj_2, hm, hLj_2⟩ := bindO_some hm
   unfold m_ropewalklaw17_DiskCopies_C2 at hm
   refine wc_cut (σ := (List (ByteArray × Disk_rowsD)) × (List (ByteArray × Disk_rowsD)) × (List Ropewalkref17_entryD) × Bool × (Option Addr) × Nat × Nat) (fun (j_2_10_f0_f1_m, j_2_9_f0_f1_m, j_2_9_f1_f1_l, j_2_51, j_2_9_f1_f1_p, j_2_9_f1_f1_c, j_2_9_f1_f1_n) => bj_2 = (j_2_10_f0_f1_m, j_2_9_f0_f1_m, j_2_9_f1_f1_l, j_2_51)) (fun (j_2_10_f0_f1_m, j_2_9_f0_f1_m, j_2_9_f1_f1_l, j_2_51, j_2_9_f1_f1_p, j_2_9_f1_f1_c, j_2_9_f1_f1_n) => [(10, .pointer (some ⟨w_1_10_g, 0, none⟩)), (9, .pointer (some ⟨g9, 0, none⟩)), (8, .int .i64 v20), (7, .slice p15_0 ((l1.take (min l1.length 60)).length) qc1), (51, .bool j_2_51)]) (fun (j_2_10_f0_f1_m, j_2_9_f0_f1_m, j_2_9_f1_f1_l, j_2_51, j_2_9_f1_f1_p, j_2_9_f1_f1_c, j_2_9_f1_f1_n) => [.sli 5 R_Ropewalklaw17_DoD p15_0 qc1 (l1.take (min l1.length 60))]) (fun (j_2_10_f0_f1_m, j_2_9_f0_f1_m, j_2_9_f1_f1_l, j_2_51, j_2_9_f1_f1_p, j_2_9_f1_f1_c, j_2_9_f1_f1_n) => [.blk w_1_10_g [.pointer (some ⟨w_1_10_f0_g, 0, none⟩), .pointer (some ⟨w_1_10_f1_g, 0, none⟩)] 44, .blk w_1_10_f0_g [.int .i64 (maxI (maxI a0 0) 0), .map (some w_1_10_f0_f1_b)] 59, mapP (keyStr (tStr_run tT_9)) true R_Disk_rowsD w_1_10_f0_f1_b j_2_10_f0_f1_m, .blk w_1_10_f1_g [.int .i64 v33_0, .slice w_1_10_f1_f1_p w_1_10_f1_f1_n w_1_10_f1_f1_c] 85, .own 87 3 R_Ropewalkref17_entryD (.slice w_1_10_f1_f1_p w_1_10_f1_f1_n w_1_10_f1_f1_c) v33_1, .blk g9 [.pointer (some ⟨c22_0, 0, none⟩), .pointer (some ⟨c22_2, 0, none⟩)] 44, .blk c22_0 [.int .i64 (maxI a0 0), .map (some c22_1)] 59, mapP (keyStr (tStr_run tT_9)) true R_Disk_rowsD c22_1 j_2_9_f0_f1_m, .blk c22_2 [.int .i64 v22, .slice j_2_9_f1_f1_p j_2_9_f1_f1_n j_2_9_f1_f1_c] 85, .own 87 3 R_Ropewalkref17_entryD (.slice j_2_9_f1_f1_p j_2_9_f1_f1_n j_2_9_f1_f1_c) j_2_9_f1_f1_l]) ?_ ?_
   ·
    refine wc_region ?_
    refine wl_loadH 0 0 rfl rfl rfl (freshS_eq rfl) rfl rfl rfl (cs := [_,_]) rfl tS_44 tA_44 rfl rfl ?_
    obtain ⟨⟨v36_0, v36_1⟩, hc36, hm⟩ := bindO_some hm
    try dsimp only at hm
    refine wl_call [1, 2, 3, 4] [0, 5, 6, 7, 8, 9] rfl rfl rfl (freshS_eq rfl) rfl rfl fn_26 rfl (w_ropewalklaw17_both_agree_s N w_1_10_f0_g (maxI (maxI a0 0) 0) w_1_10_f0_f1_b v30 w_1_10_f1_g v33_0 w_1_10_f1_f1_p w_1_10_f1_f1_n w_1_10_f1_f1_c v33_1 _ _ hc36) (fun _ _ hφ => ask [] rfl hφ) rfl (H' := [_,_,_,_,_,_]) rfl ?_
    rintro _ _ _ ⟨rfl, rfl, rfl⟩
    refine wl_pure rfl rfl rfl (freshS_eq rfl) rfl ?_
    refine wl_pure rfl rfl rfl (freshS_eq rfl) rfl ?_
    refine wl_split (d := 38) (S' := [_,_,_,_,_,_,_]) rfl rfl (fun hs38 => ?_) (fun hs38 => ?_)
    ·
     replace hm := iteT hm hs38
     refine wl_off rfl rfl rfl (freshS_eq rfl) ?_
     refine wl_off rfl rfl rfl (freshS_eq rfl) ?_
     refine wl_off rfl rfl rfl (freshS_eq rfl) ?_
     refine wl_off rfl rfl rfl (freshS_eq rfl) ?_
     refine wl_off rfl rfl rfl (freshS_eq rfl) ?_
     refine wl_off rfl rfl rfl (freshS_eq rfl) ?_
     refine wl_off rfl rfl rfl (freshS_eq rfl) ?_
     refine wl_pure rfl rfl rfl (freshS_eq rfl) rfl ?_
     refine wl_pure rfl rfl rfl (freshS_eq rfl) rfl ?_
     refine wl_off rfl rfl rfl (freshS_eq rfl) ?_
     refine wl_off rfl rfl rfl (freshS_eq rfl) ?_
     refine wl_off rfl rfl rfl (freshS_eq rfl) ?_
     refine wl_pure rfl rfl rfl (freshS_eq rfl) rfl ?_
     refine wl_nil ?_
     have hE := (Option.some.inj hm).symm
     refine we_pick [4, 0, 1, 2, 3, 5, 6, 7, 8, 9] rfl (H' := [_,_,_,_,_,_,_,_,_,_]) rfl ?_
     refine we_join (v36_1, v26_1, v26_2, true, p26_0, c26_1, c26_2) hE [10, 9, 8, 7, 51] rfl (fun _ _ hφ => ask [0] rfl hφ) rfl
    ·
     replace hm := iteF hm hs38
     refine wl_loadH 5 0 rfl rfl rfl (freshS_eq rfl) rfl rfl rfl (cs := [_,_]) rfl tS_44 tA_44 rfl rfl ?_
     refine wl_pure rfl rfl rfl (freshS_eq rfl) rfl ?_
     refine wl_pure rfl rfl rfl (freshS_eq rfl) rfl ?_
     refine wl_pure rfl rfl rfl (freshS_eq rfl) rfl ?_
     refine wl_len rfl rfl rfl (freshS_eq rfl) rfl rfl tE_40 ?_
     obtain ⟨⟨v44_0, v44_1, v44_2⟩, hc44, hm⟩ := bindO_some hm
     try dsimp only at hm
     refine wl_call [6, 7, 8, 9] [0, 1, 2, 3, 4, 5] rfl rfl rfl (freshS_eq rfl) rfl rfl fn_22 rfl (w_ropewalklaw17_both_goes_s N c22_0 (maxI a0 0) c22_1 v26_1 c22_2 v22 p26_0 c26_2 c26_1 v26_2 p15_0 qc1 (l1.take (min l1.length 60)) v20 (((l1.take (min l1.length 60)).length : Nat) : Int) _ _ _ hc44) (fun _ _ hφ => ask [0] rfl hφ) rfl (H' := [_,_,_,_,_,_]) rfl ?_
     rintro _ _ _ ⟨p44_0, c44_1, c44_2, rfl, rfl, rfl⟩
     refine wl_pure rfl rfl rfl (freshS_eq rfl) rfl ?_
     refine wl_pure rfl rfl rfl (freshS_eq rfl) rfl ?_
     refine wl_pure rfl rfl rfl (freshS_eq rfl) rfl ?_
     refine wl_split (d := 47) (S' := [_,_,_,_,_,_,_,_,_,_,_,_,_,_,_,_]) rfl rfl (fun hs47 => ?_) (fun hs47 => ?_)
     ·
      replace hm := iteT hm hs47
      refine wl_off rfl rfl rfl (freshS_eq rfl) ?_
      refine wl_off rfl rfl rfl (freshS_eq rfl) ?_
      refine wl_off rfl rfl rfl (freshS_eq rfl) ?_
      refine wl_pure rfl rfl rfl (freshS_eq rfl) rfl ?_
      refine wl_nil ?_
      have hE := (Option.some.inj hm).symm
      refine we_pick [8, 4, 5, 6, 7, 9, 0, 1, 2, 3] rfl (H' := [_,_,_,_,_,_,_,_,_,_]) rfl ?_
      refine we_join (v36_1, v44_1, v44_2, true, p44_0, c44_1, c44_2) hE [10, 9, 8, 7, 51] rfl (fun _ _ hφ => ask [0] rfl hφ) rfl
     ·
      replace hm := iteF hm hs47
      refine wl_loadH 8 0 rfl rfl rfl (freshS_eq rfl) rfl rfl rfl (cs := [_,_]) rfl tS_44 tA_44 rfl rfl ?_
      obtain ⟨⟨v49_0, v49_1⟩, hc49, hm⟩ := bindO_some hm
      try dsimp only at hm
      refine wl_call [4, 5, 6, 7] [0, 1, 2, 3, 8, 9] rfl rfl rfl (freshS_eq rfl) rfl rfl fn_26 rfl (w_ropewalklaw17_both_agree_s N w_1_10_f0_g (maxI (maxI a0 0) 0) w_1_10_f0_f1_b v36_1 w_1_10_f1_g v33_0 w_1_10_f1_f1_p w_1_10_f1_f1_n w_1_10_f1_f1_c v33_1 _ _ hc49) (fun _ _ hφ => ask [] rfl hφ) rfl (H' := [_,_,_,_,_,_]) rfl ?_
      rintro _ _ _ ⟨rfl, rfl, rfl⟩
      refine wl_pure rfl rfl rfl (freshS_eq rfl) rfl ?_
      refine wl_pure rfl rfl rfl (freshS_eq rfl) rfl ?_
      refine wl_nil ?_
      have hE := (Option.some.inj hm).symm
      refine we_pick [8, 0, 1, 2, 3, 9, 4, 5, 6, 7] rfl (H' := [_,_,_,_,_,_,_,_,_,_]) rfl ?_
      refine we_join (v49_1, v44_1, v44_2, !v49_0, p44_0, c44_1, c44_2) hE [10, 9, 8, 7, 51] rfl (fun _ _ hφ => ask [0] rfl hφ) rfl
   ·
    rintro ⟨j_2_10_f0_f1_m, j_2_9_f0_f1_m, j_2_9_f1_f1_l, j_2_51, j_2_9_f1_f1_p, j_2_9_f1_f1_c, j_2_9_f1_f1_n⟩ hE
    try dsimp only
    have hm := hLj_2
    rw [hE] at hm
    try dsimp only at hm
    refine wc_cond rfl (fun hb51 => ?_) (fun hb51 => ?_)
    ·
     replace hm := iteT hm hb51
     refine wc_keep [] (S' := []) rfl ?_
     refine wc_seq ?_
     refine wc_region ?_
     refine wl_pure rfl rfl rfl (freshS_eq rfl) rfl ?_
     refine wl_nil ?_
     refine we_then ?_
     refine wc_ret ?_
     refine we_then_ret ?_
     have hE := (Option.some.inj hm).symm
     replace hE := hE.symm
     subst hE
     refine ret_one (Hr := []) [] Try.results5 (res_tmp rfl) ⟨rfl, rfl, rfl⟩ (fun _ _ hφ => ask [] rfl hφ) rfl rfl (.inl rfl)
    ·
     replace hm := iteF hm hb51
     refine wc_keep [10, 9, 8, 7] (S' := [_,_,_,_]) rfl ?_
     refine wc_skip ?_
     refine we_then ?_
     refine wc_seq ?_
     obtain ⟨bj_3, hm, hLj_3⟩ := bindS_some hm
     refine wc_cut (σ := (List (ByteArray × Disk_rowsD)) × (List Ropewalkref17_entryD) × (Option Addr) × Nat × Nat) (fun (j_3_10_f0_f1_m, j_3_10_f1_f1_l, j_3_10_f1_f1_p, j_3_10_f1_f1_c, j_3_10_f1_f1_n) => bj_3 = .inl (j_3_10_f0_f1_m, j_3_10_f1_f1_l)) (fun (j_3_10_f0_f1_m, j_3_10_f1_f1_l, j_3_10_f1_f1_p, j_3_10_f1_f1_c, j_3_10_f1_f1_n) => [(10, .pointer (some ⟨w_1_10_g, 0, none⟩)), (9, .pointer (some ⟨g9, 0, none⟩))]) (fun (j_3_10_f0_f1_m, j_3_10_f1_f1_l, j_3_10_f1_f1_p, j_3_10_f1_f1_c, j_3_10_f1_f1_n) => []) (fun (j_3_10_f0_f1_m, j_3_10_f1_f1_l, j_3_10_f1_f1_p, j_3_10_f1_f1_c, j_3_10_f1_f1_n) => [.blk w_1_10_g [.pointer (some ⟨w_1_10_f0_g, 0, none⟩), .pointer (some ⟨w_1_10_f1_g, 0, none⟩)] 44, .blk w_1_10_f0_g [.int .i64 (maxI (maxI a0 0) 0), .map (some w_1_10_f0_f1_b)] 59, mapP (keyStr (tStr_run tT_9)) true R_Disk_rowsD w_1_10_f0_f1_b j_3_10_f0_f1_m, .blk w_1_10_f1_g [.int .i64 v33_0, .slice j_3_10_f1_f1_p j_3_10_f1_f1_n j_3_10_f1_f1_c] 85, .own 87 3 R_Ropewalkref17_entryD (.slice j_3_10_f1_f1_p j_3_10_f1_f1_n j_3_10_f1_f1_c) j_3_10_f1_f1_l, .blk g9 [.pointer (some ⟨c22_0, 0, none⟩), .pointer (some ⟨c22_2, 0, none⟩)] 44, .blk c22_0 [.int .i64 (maxI a0 0), .map (some c22_1)] 59, mapP (keyStr (tStr_run tT_9)) true R_Disk_rowsD c22_1 j_2_9_f0_f1_m, .blk c22_2 [.int .i64 v22, .slice j_2_9_f1_f1_p j_2_9_f1_f1_n j_2_9_f1_f1_c] 85, .own 87 3 R_Ropewalkref17_entryD (.slice j_2_9_f1_f1_p j_2_9_f1_f1_n j_2_9_f1_f1_c) j_2_9_f1_f1_l]) ?_ ?_
     ·
      refine wc_seq ?_
      refine wc_region ?_
      refine wl_pure rfl rfl rfl (freshS_eq rfl) rfl ?_
      refine wl_len rfl rfl rfl (freshS_eq rfl) rfl rfl tE_40 ?_
      refine wl_pure rfl rfl rfl (freshS_eq rfl) rfl ?_
      refine wl_nil ?_
      refine we_then ?_
      refine wc_keep [11, 10, 9, 8, 7] (S' := [_,_,_,_,_]) rfl ?_
      refine wc_block ?_
      refine wc_loop (σ := Nat × Int × (List (ByteArray × Disk_rowsD)) × (List Ropewalkref17_entryD) × (Option Addr) × Nat × Nat) (fun (nu1, u1_11, u1_10_f0_f1_m, u1_10_f1_f1_l, u1_10_f1_f1_p, u1_10_f1_f1_c, u1_10_f1_f1_n) => iter (m_ropewalklaw17_DiskCopies_L1 N v20 a0 v33_0 l1) nu1 (u1_11, u1_10_f0_f1_m, u1_10_f1_f1_l) = some bj_3) (fun (nu1, u1_11, u1_10_f0_f1_m, u1_10_f1_f1_l, u1_10_f1_f1_p, u1_10_f1_f1_c, u1_10_f1_f1_n) => nu1) (fun (nu1, u1_11, u1_10_f0_f1_m, u1_10_f1_f1_l, u1_10_f1_f1_p, u1_10_f1_f1_c, u1_10_f1_f1_n) => [(11, .int .i64 u1_11), (10, .pointer (some ⟨w_1_10_g, 0, none⟩)), (9, .pointer (some ⟨g9, 0, none⟩)), (8, .int .i64 v20), (7, .slice p15_0 ((l1.take (min l1.length 60)).length) qc1)]) (fun (nu1, u1_11, u1_10_f0_f1_m, u1_10_f1_f1_l, u1_10_f1_f1_p, u1_10_f1_f1_c, u1_10_f1_f1_n) => [.sli 5 R_Ropewalklaw17_DoD p15_0 qc1 (l1.take (min l1.length 60))]) (fun (nu1, u1_11, u1_10_f0_f1_m, u1_10_f1_f1_l, u1_10_f1_f1_p, u1_10_f1_f1_c, u1_10_f1_f1_n) => [.blk w_1_10_g [.pointer (some ⟨w_1_10_f0_g, 0, none⟩), .pointer (some ⟨w_1_10_f1_g, 0, none⟩)] 44, .blk w_1_10_f0_g [.int .i64 (maxI (maxI a0 0) 0), .map (some w_1_10_f0_f1_b)] 59, mapP (keyStr (tStr_run tT_9)) true R_Disk_rowsD w_1_10_f0_f1_b u1_10_f0_f1_m, .blk w_1_10_f1_g [.int .i64 v33_0, .slice u1_10_f1_f1_p u1_10_f1_f1_n u1_10_f1_f1_c] 85, .own 87 3 R_Ropewalkref17_entryD (.slice u1_10_f1_f1_p u1_10_f1_f1_n u1_10_f1_f1_c) u1_10_f1_f1_l, .blk g9 [.pointer (some ⟨c22_0, 0, none⟩), .pointer (some ⟨c22_2, 0, none⟩)] 44, .blk c22_0 [.int .i64 (maxI a0 0), .map (some c22_1)] 59, mapP (keyStr (tStr_run tT_9)) true R_Disk_rowsD c22_1 j_2_9_f0_f1_m, .blk c22_2 [.int .i64 v22, .slice j_2_9_f1_f1_p j_2_9_f1_f1_n j_2_9_f1_f1_c] 85, .own 87 3 R_Ropewalkref17_entryD (.slice j_2_9_f1_f1_p j_2_9_f1_f1_n j_2_9_f1_f1_c) j_2_9_f1_f1_l]) (N, (((l1.take (min l1.length 60)).length : Nat) : Int), j_2_10_f0_f1_m, v33_1, w_1_10_f1_f1_p, w_1_10_f1_f1_c, w_1_10_f1_f1_n) hm [11, 10, 9, 8, 7] rfl (fun _ _ hφ => ask [0] rfl hφ) rfl (fun s_ hm => ?_)
      obtain ⟨nu1, u1_11, u1_10_f0_f1_m, u1_10_f1_f1_l, u1_10_f1_f1_p, u1_10_f1_f1_c, u1_10_f1_f1_n⟩ := s_
      try dsimp only at hm ⊢
      obtain ⟨mu1, bu1, hnu1, hq, hLu1⟩ := iter_some hm
      clear hm
      subst hnu1
      replace hm := hq
      clear hq
      unfold m_ropewalklaw17_DiskCopies_L1 at hm
      try dsimp only at hm
      refine wc_seq ?_
      refine wc_seq ?_
      refine wc_region ?_
      refine wl_pure rfl rfl rfl (freshS_eq rfl) rfl ?_
      refine wl_pure rfl rfl rfl (freshS_eq rfl) rfl ?_
      refine wl_pure rfl rfl rfl (freshS_eq rfl) rfl ?_
      refine wl_nil ?_
      refine we_then ?_
      refine wc_keep [56, 11, 10, 9, 8, 7] (S' := [_,_,_,_,_,_]) rfl ?_
      refine wc_cond rfl (fun hb56 => ?_) (fun hb56 => ?_)
      ·
       replace hm := iteT hm hb56
       refine wc_keep [11, 10, 9, 8, 7] (S' := [_,_,_,_,_]) rfl ?_
       refine wc_skip ?_
       refine we_then ?_
       refine wc_seq ?_
       refine wc_block ?_
       refine wc_seq ?_
       refine wc_region ?_
       refine wl_loadH 0 0 rfl rfl rfl (freshS_eq rfl) rfl rfl rfl (cs := [_,_]) rfl tS_44 tA_44 rfl rfl ?_
       refine wl_pure rfl rfl rfl (freshS_eq rfl) rfl ?_
       refine wl_pure rfl rfl rfl (freshS_eq rfl) rfl ?_
       refine wl_pure rfl rfl rfl (freshS_eq rfl) rfl ?_
       obtain ⟨hg62, hm⟩ := gd_some hm
       refine wl_as (d := 62) (v' := .int .i64 (u1_11 - 1)) (S' := [_,_,_,_,_,_,_,_]) rfl rfl (i64_in hg62) ?_
       refine wl_pure rfl rfl rfl (freshS_eq rfl) rfl ?_
       obtain ⟨⟨v64_0, v64_1, v64_2⟩, hc64, hm⟩ := bindO_some hm
       try dsimp only at hm
       refine wl_call [1, 2, 3, 4] [0, 5, 6, 7, 8, 9] rfl rfl rfl (freshS_eq rfl) rfl rfl fn_22 rfl (w_ropewalklaw17_both_goes_s N w_1_10_f0_g (maxI (maxI a0 0) 0) w_1_10_f0_f1_b u1_10_f0_f1_m w_1_10_f1_g v33_0 u1_10_f1_f1_p u1_10_f1_f1_n u1_10_f1_f1_c u1_10_f1_f1_l p15_0 qc1 (l1.take (min l1.length 60)) (u1_11 - 1) u1_11 _ _ _ hc64) (fun _ _ hφ => ask [0] rfl hφ) rfl (H' := [_,_,_,_,_,_]) rfl ?_
       rintro _ _ _ ⟨p64_0, c64_1, c64_2, rfl, rfl, rfl⟩
       refine wl_pure rfl rfl rfl (freshS_eq rfl) rfl ?_
       refine wl_nil ?_
       refine we_then ?_
       refine wc_keep [65, 11, 10, 9, 8, 7] (S' := [_,_,_,_,_,_]) rfl ?_
       refine wc_cond rfl (fun hb65 => ?_) (fun hb65 => ?_)
       ·
        replace hm := iteT hm hb65
        refine wc_keep [] (S' := []) rfl ?_
        refine wc_seq ?_
        refine wc_region ?_
        refine wl_pure rfl rfl rfl (freshS_eq rfl) rfl ?_
        refine wl_nil ?_
        refine we_then ?_
        refine wc_ret ?_
        refine we_block_ret ?_
        refine we_then_ret ?_
        refine we_then_ret ?_
        refine we_block_ret ?_
        refine we_then_ret ?_
        have hE := (Option.some.inj hm).symm
        replace hE := link_inr hLu1 hE
        replace hE := link_inr hLj_3 hE
        replace hE := hE.symm
        subst hE
        refine ret_one (Hr := []) [] Try.results5 (res_tmp rfl) ⟨rfl, rfl, rfl⟩ (fun _ _ hφ => ask [] rfl hφ) rfl rfl (.inl rfl)
       ·
        replace hm := iteF hm hb65
        refine wc_keep [11, 10, 9, 8, 7] (S' := [_,_,_,_,_]) rfl ?_
        refine wc_skip ?_
        refine we_block_normal ?_
        refine we_then ?_
        refine wc_region ?_
        refine wl_pure rfl rfl rfl (freshS_eq rfl) rfl ?_
        refine wl_pure rfl rfl rfl (freshS_eq rfl) rfl ?_
        obtain ⟨hg58, hm⟩ := gd_some hm
        refine wl_as (d := 58) (v' := .int .i64 (u1_11 - 1)) (S' := [_,_,_,_,_,_]) rfl rfl (i64_in hg58) ?_
        refine wl_pure (S' := [_,_,_,_,_,_]) rfl rfl rfl rfl rfl ?_
        refine wl_nil ?_
        have hE := (Option.some.inj hm).symm
        replace hE := link_inl hLu1 hE
        refine we_pick [4, 0, 1, 2, 3, 5, 6, 7, 8, 9] rfl (H' := [_,_,_,_,_,_,_,_,_,_]) rfl ?_
        refine we_roundK (_, u1_11 - 1, v64_1, v64_2, p64_0, c64_1, c64_2) (Nat.lt_succ_self _) hE [11, 10, 9, 8, 7] rfl (fun _ _ hφ => ask [0] rfl hφ) rfl
      ·
       replace hm := iteF hm hb56
       refine wc_keep [10, 9] (S' := [_,_]) rfl ?_
       refine wc_exit ?_
       refine we_then_exit ?_
       refine we_then_exit ?_
       refine we_block_hit ?_
       have hE := (Option.some.inj hm).symm
       replace hE := link_inr hLu1 hE
       refine we_join (u1_10_f0_f1_m, u1_10_f1_f1_l, u1_10_f1_f1_p, u1_10_f1_f1_c, u1_10_f1_f1_n) hE [10, 9] rfl (fun _ _ hφ => ask [] rfl hφ) rfl
     ·
      rintro ⟨j_3_10_f0_f1_m, j_3_10_f1_f1_l, j_3_10_f1_f1_p, j_3_10_f1_f1_c, j_3_10_f1_f1_n⟩ hE
      try dsimp only
      have hm := link_inl hLj_3 hE
      try dsimp only at hm
      refine wc_seq ?_
      refine wc_region ?_
      refine wl_loadH 0 0 rfl rfl rfl (freshS_eq rfl) rfl rfl rfl (cs := [_,_]) rfl tS_44 tA_44 rfl rfl ?_
      refine wl_build rfl rfl rfl (freshS_eq rfl) rfl tZ_54 tP_54 rfl (out := [_,_,_,_,_]) rfl ?_
      refine wl_fact (.sli 1 R_u8 none 0 ([] : List Int)) (fun _ _ _ => sli_none) ?_
      obtain ⟨⟨v69_0, v69_1, v69_2, v69_3⟩, hc69, hm⟩ := bindO_some hm
      try dsimp only at hm
      refine wl_call [1, 2, 3, 4] [0, 5, 6, 7, 8, 9] rfl rfl rfl (freshS_eq rfl) rfl rfl fn_27 rfl (w_ropewalklaw17_both_errors_s N w_1_10_f0_g (maxI (maxI a0 0) 0) w_1_10_f0_f1_b j_3_10_f0_f1_m w_1_10_f1_g v33_0 j_3_10_f1_f1_p j_3_10_f1_f1_n j_3_10_f1_f1_c j_3_10_f1_f1_l 6 (⟨#[]⟩ : ByteArray) (⟨#[]⟩ : ByteArray) none 0 ([] : List Int) 1 _ _ _ _ hc69) (fun _ _ hφ => ask [0] rfl hφ) rfl (H' := [_,_,_,_,_,_]) rfl ?_
      rintro _ _ _ ⟨p69_0, c69_1, c69_2, rfl, rfl, rfl⟩
      refine wl_pure rfl rfl rfl (freshS_eq rfl) rfl ?_
      refine wl_pure rfl rfl rfl (freshS_eq rfl) rfl ?_
      refine wl_pure rfl rfl rfl (freshS_eq rfl) rfl ?_
      refine wl_pure rfl rfl rfl (freshS_eq rfl) rfl ?_
      refine wl_pure rfl rfl rfl (freshS_eq rfl) rfl ?_
      refine wl_nil ?_
      refine we_then ?_
      refine wc_keep [13, 12, 10, 9] (S' := [_,_,_,_]) rfl ?_
      refine wc_seq ?_
      obtain ⟨bj_4, hm, hLj_4⟩ := bindO_some hm
      unfold m_ropewalklaw17_DiskCopies_C4 at hm
      refine wc_cut (σ := Bool) (fun j_4_6 => bj_4 = j_4_6) (fun j_4_6 => [(6, .bool j_4_6)]) (fun j_4_6 => []) (fun j_4_6 => []) ?_ ?_
      ·
       refine wc_region ?_
       refine wl_pure rfl rfl rfl (freshS_eq rfl) rfl ?_
       refine wl_pure rfl rfl rfl (freshS_eq rfl) rfl ?_
       refine wl_pure rfl rfl rfl (freshS_eq rfl) rfl ?_
       refine wl_pure rfl rfl rfl (freshS_eq rfl) rfl ?_
       refine wl_split (d := 75) (S' := [_,_,_,_,_,_,_]) rfl rfl (fun hs75 => ?_) (fun hs75 => ?_)
       ·
        replace hm := iteT hm hs75
        refine wl_loadH 4 0 rfl rfl rfl (freshS_eq rfl) rfl rfl rfl (cs := [_,_]) rfl tS_44 tA_44 rfl rfl ?_
        obtain ⟨⟨v77_0, v77_1⟩, hc77, hm⟩ := bindO_some hm
        try dsimp only at hm
        refine wl_call [0, 1, 2, 3] [4, 5, 6, 7, 8, 9] rfl rfl rfl (freshS_eq rfl) rfl rfl fn_26 rfl (w_ropewalklaw17_both_agree_s N w_1_10_f0_g (maxI (maxI a0 0) 0) w_1_10_f0_f1_b v69_2 w_1_10_f1_g v33_0 p69_0 c69_2 c69_1 v69_3 _ _ hc77) (fun _ _ hφ => ask [] rfl hφ) rfl (H' := [_,_,_,_,_,_]) rfl ?_
        rintro _ _ _ ⟨rfl, rfl, rfl⟩
        refine wl_pure rfl rfl rfl (freshS_eq rfl) rfl ?_
        refine wl_pure rfl rfl rfl (freshS_eq rfl) rfl ?_
        refine wl_split (d := 79) (S' := [_,_,_,_,_,_,_,_,_,_,_]) rfl rfl (fun hs79 => ?_) (fun hs79 => ?_)
        ·
         replace hm := iteT hm hs79
         refine wl_loadH 5 0 rfl rfl rfl (freshS_eq rfl) rfl rfl rfl (cs := [_,_]) rfl tS_44 tA_44 rfl rfl ?_
         obtain ⟨⟨v81_0, v81_1⟩, hc81, hm⟩ := bindO_some hm
         try dsimp only at hm
         refine wl_call [6, 7, 8, 9] [0, 1, 2, 3, 4, 5] rfl rfl rfl (freshS_eq rfl) rfl rfl fn_26 rfl (w_ropewalklaw17_both_agree_s N c22_0 (maxI a0 0) c22_1 j_2_9_f0_f1_m c22_2 v22 j_2_9_f1_f1_p j_2_9_f1_f1_n j_2_9_f1_f1_c j_2_9_f1_f1_l _ _ hc81) (fun _ _ hφ => ask [] rfl hφ) rfl (H' := [_,_,_,_,_,_]) rfl ?_
         rintro _ _ _ ⟨rfl, rfl, rfl⟩
         refine wl_pure rfl rfl rfl (freshS_eq rfl) rfl ?_
         refine wl_pure rfl rfl rfl (freshS_eq rfl) rfl ?_
         refine wl_split (d := 83) (S' := [_,_,_,_,_,_,_,_,_,_,_,_,_,_,_]) rfl rfl (fun hs83 => ?_) (fun hs83 => ?_)
         ·
          replace hm := iteT hm hs83
          obtain ⟨v84, hc84, hm⟩ := bindO_some hm
          refine wl_call [] [0, 1, 2, 3, 4, 5, 6, 7, 8, 9] rfl rfl rfl (freshS_eq rfl) rfl rfl fn_9 rfl (w_ropewalklaw17_awake_s N _ hc84) (fun _ _ hφ => ask [] rfl hφ) rfl (H' := [_,_,_,_,_,_,_,_,_,_]) rfl ?_
          rintro _ _ _ ⟨rfl, rfl, rfl⟩
          refine wl_pure rfl rfl rfl (freshS_eq rfl) rfl ?_
          refine wl_pure rfl rfl rfl (freshS_eq rfl) rfl ?_
          refine wl_nil ?_
          have hE := (Option.some.inj hm).symm
          refine we_pick [] rfl (H' := []) rfl ?_
          refine we_join v84 hE [6] rfl (fun _ _ hφ => ask [] rfl hφ) rfl
         ·
          replace hm := iteF hm hs83
          refine wl_off rfl rfl rfl (freshS_eq rfl) ?_
          refine wl_pure rfl rfl rfl (freshS_eq rfl) rfl ?_
          refine wl_pure rfl rfl rfl (freshS_eq rfl) rfl ?_
          refine wl_nil ?_
          have hE := (Option.some.inj hm).symm
          refine we_pick [] rfl (H' := []) rfl ?_
          refine we_join false hE [6] rfl (fun _ _ hφ => ask [] rfl hφ) rfl
        ·
         replace hm := iteF hm hs79
         refine wl_off rfl rfl rfl (freshS_eq rfl) ?_
         refine wl_off rfl rfl rfl (freshS_eq rfl) ?_
         refine wl_pure rfl rfl rfl (freshS_eq rfl) rfl ?_
         refine wl_pure rfl rfl rfl (freshS_eq rfl) rfl ?_
         refine wl_off rfl rfl rfl (freshS_eq rfl) ?_
         refine wl_pure rfl rfl rfl (freshS_eq rfl) rfl ?_
         refine wl_pure rfl rfl rfl (freshS_eq rfl) rfl ?_
         refine wl_nil ?_
         have hE := (Option.some.inj hm).symm
         refine we_pick [] rfl (H' := []) rfl ?_
         refine we_join false hE [6] rfl (fun _ _ hφ => ask [] rfl hφ) rfl
       ·
        replace hm := iteF hm hs75
        refine wl_off rfl rfl rfl (freshS_eq rfl) ?_
        refine wl_off rfl rfl rfl (freshS_eq rfl) ?_
        refine wl_pure rfl rfl rfl (freshS_eq rfl) rfl ?_
        refine wl_pure rfl rfl rfl (freshS_eq rfl) rfl ?_
        refine wl_off rfl rfl rfl (freshS_eq rfl) ?_
        refine wl_off rfl rfl rfl (freshS_eq rfl) ?_
        refine wl_pure rfl rfl rfl (freshS_eq rfl) rfl ?_
        refine wl_pure rfl rfl rfl (freshS_eq rfl) rfl ?_
        refine wl_off rfl rfl rfl (freshS_eq rfl) ?_
        refine wl_pure rfl rfl rfl (freshS_eq rfl) rfl ?_
        refine wl_pure rfl rfl rfl (freshS_eq rfl) rfl ?_
        refine wl_nil ?_
        have hE := (Option.some.inj hm).symm
        refine we_pick [] rfl (H' := []) rfl ?_
        refine we_join false hE [6] rfl (fun _ _ hφ => ask [] rfl hφ) rfl
      ·
       rintro j_4_6 hE
       try dsimp only
       have hm := hLj_4
       rw [hE] at hm
       refine wc_ret ?_
       have hE := (Option.some.inj hm).symm
       replace hE := hE.symm
       subst hE
       refine ret_one (Hr := []) [] Try.results5 (res_tmp rfl) ⟨rfl, rfl, rfl⟩ (fun _ _ hφ => ask [] rfl hφ) rfl rfl (.inl rfl)
end Go.Proofs.Ytkakbckmajdggaa
