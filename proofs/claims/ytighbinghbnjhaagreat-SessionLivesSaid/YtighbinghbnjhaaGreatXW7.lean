import Derived.Test.YtighbinghbnjhaaGreatXW6
namespace Go.Proofs.YtighbinghbnjhaaGreat
open Go.RowKit
set_option maxRecDepth 100000
set_option maxHeartbeats 4000000
theorem w_ropewalklaw27_SessionLives_s (N : Nat) (a0 : Int) (qp0 : Option Addr) (qc1 : Nat) (l1 : List SessD) (a2 : Bool) (qp2 : Option Addr) (qc3 : Nat) (l3 : List Ropewalklaw27_DoD) (o0 : Bool) (hm : m_ropewalklaw27_SessionLives N a0 l1 a2 l3 = some o0) : Spec Tryz.prog 3 [.int .i64 a0, .slice qp0 l1.length qc1, .bool a2, .slice qp2 l3.length qc3] [.sli 6 R_SessD qp0 qc1 l1, .sli 7 R_Ropewalklaw27_DoD qp2 qc3 l3] [] (fun v Φr Hr => v = .bool o0 ∧ Φr = [] ∧ Hr = []) := by
 unfold m_ropewalklaw27_SessionLives at hm
 refine spec_of Tryz.func3 rfl Tryz.ntmps3 rfl (S := [_,_,_,_]) rfl (fun C => (wc_seq (wc_region (wP rfl (wl_nil (we_then (wc_keep [0,1,2,3] (S' := [_,_,_,_]) rfl (wc_seq ?_))))))))
 obtain ⟨bj_1, hm, hLj_1⟩ := bindS_some hm
 refine wc_cut (σ := Unit) (fun _ => bj_1 = .inl ()) (fun _ => [(0, .int .i64 a0), (1, .slice qp0 l1.length qc1), (2, .bool a2), (3, .slice qp2 l3.length qc3)]) (fun _ => [.sli 6 R_SessD qp0 qc1 l1, .sli 7 R_Ropewalklaw27_DoD qp2 qc3 l3]) (fun _ => []) ?_ ?_
 ·
  refine wc_seq (wc_region (wP rfl (wl_nil (we_then (wc_block (wc_loop (σ := Nat × Nat) (fun (nu1, u1_9) => iter (m_ropewalklaw27_SessionLives_L1 N l1) nu1 u1_9 = some bj_1) (fun (nu1, u1_9) => nu1) (fun (nu1, u1_9) => [(9, .int .i64 ((u1_9 : Nat) : Int)), (0, .int .i64 a0), (1, .slice qp0 l1.length qc1), (2, .bool a2), (3, .slice qp2 l3.length qc3)]) (fun (nu1, u1_9) => [.sli 6 R_SessD qp0 qc1 l1, .sli 7 R_Ropewalklaw27_DoD qp2 qc3 l3]) (fun (nu1, u1_9) => []) (N, 0) hm [9,0,1,2,3] rfl (asK [0,1] rfl) rfl (fun s_ hm => ?_)))))))
  obtain ⟨nu1, u1_9⟩ := s_
  try dsimp only at hm ⊢
  obtain ⟨mu1, bu1, hnu1, hq, hLu1⟩ := iter_some hm
  clear hm
  subst hnu1
  replace hm := hq
  clear hq
  unfold m_ropewalklaw27_SessionLives_L1 at hm
  try dsimp only at hm
  refine wc_seq (wc_seq (wc_region (wP rfl (wP rfl (wN rfl tE_22 (wP rfl (wl_as (d := 23) (v' := .bool (decide (u1_9 < l1.length))) (S' := [_,_,_,_,_,_,_,_]) rfl rfl (natlt (a := u1_9) (b := l1.length)) (wl_nil (we_then (wc_keep [23,9,0,1,2,3] (S' := [_,_,_,_,_,_]) rfl ?_))))))))))
  refine wc_cond rfl (fun hb23 => ?_) (fun hb23 => ?_)
  ·
   replace hm := iteT hm hb23
   refine wc_keep [9,0,1,2,3] (S' := [_,_,_,_,_]) rfl (wc_skip (we_then (wc_seq (wc_block (wc_seq ?_)))))
   obtain ⟨bj_2, hm, hLj_2⟩ := bindO_some hm
   refine wc_cut (σ := Bool) (fun j_2_35 => bj_2 = j_2_35) (fun j_2_35 => [(9, .int .i64 ((u1_9 : Nat) : Int)), (0, .int .i64 a0), (1, .slice qp0 l1.length qc1), (2, .bool a2), (3, .slice qp2 l3.length qc3), (35, .bool j_2_35)]) (fun j_2_35 => [.sli 6 R_SessD qp0 qc1 l1, .sli 7 R_Ropewalklaw27_DoD qp2 qc3 l3]) (fun j_2_35 => []) ?_ ?_
   ·
    refine wc_region (wP rfl (wP rfl (wl_as (d := 27) (v' := .bool (decide (40 < u1_9))) (S' := [_,_,_,_,_,_]) rfl rfl (natgt (a := u1_9) (b := 40)) (wP rfl ?_))))
    refine wl_split (d := 28) (S' := [_,_,_,_,_,_,_]) rfl rfl (fun hs28 => ?_) (fun hs28 => ?_)
    ·
     replace hm := iteT hm hs28
     refine wO rfl (wO rfl (wO rfl (wO rfl (wO rfl (wO rfl (wP rfl (wl_nil ?_)))))))
     have hE := (Option.some.inj hm).symm
     refine we_join true hE [9,0,1,2,3,35] rfl (asK [0,1] rfl) rfl
    ·
     replace hm := iteF hm hs28
     refine wP rfl (wP rfl ?_)
     obtain ⟨x31, hx31, hm⟩ := bindO_some hm
     refine wl_indexA 0 u1_9 rfl rfl rfl (freshS_eq rfl) rfl rfl rfl rfl rfl hx31 tE_22 tS_31 (fun b31 q31 cs31 hlx31 => (wl_open R_SessD_opens 1 rfl (fun r31 er31 _ => ?_)))
     subst er31
     refine wF rfl tF_31_2 (wl_load 2 2 rfl rfl rfl (freshS_eq rfl) rfl rfl rfl (cs := [_,_,_,_]) rfl tS_29 tA_29 rfl rfl ?_)
     obtain ⟨v34, hc34, hm⟩ := bindO_some hm
     refine wC [] [] rfl fn_5 rfl (w_ropewalklaw27_great_s N x31.r.err x31.r.num r31.1.1 r31.1.2 x31.r.facts r31.2.1 r31.2.2 x31.r.said _ hc34) (asK [0,1] rfl) rfl (H' := []) rfl ?_
     rintro _ _ _ ⟨rfl, rfl, rfl⟩
     refine wP rfl (wl_nil ?_)
     have hE := (Option.some.inj hm).symm
     refine we_join v34 hE [9,0,1,2,3,35] rfl (asK [4,5] rfl) rfl
   ·
    rintro j_2_35 hE
    try dsimp only
    have hm := hLj_2
    rw [hE] at hm
    refine wc_cond rfl (fun hb35 => ?_) (fun hb35 => ?_)
    ·
     replace hm := iteT hm hb35
     refine wc_keep [] (S' := []) rfl (wc_seq (wc_region ?_))
     obtain ⟨v36, hc36, hm⟩ := bindO_some hm
     refine wC [] [] rfl fn_6 rfl (w_ropewalklaw27_awake_s N _ hc36) (asK [] rfl) rfl (H' := []) rfl ?_
     rintro _ _ _ ⟨rfl, rfl, rfl⟩
     refine wP rfl (wl_nil (we_then (wc_keep [8] (S' := [_]) rfl (wc_ret (we_block_ret (we_then_ret (we_then_ret (we_block_ret (we_then_ret ?_)))))))))
     have hE := (Option.some.inj hm).symm
     replace hE := link_inr hLu1 hE
     replace hE := link_inr hLj_1 hE
     replace hE := hE.symm
     subst hE
     refine ret_one (Hr := []) [] Tryz.results3 (res_tmp rfl) ⟨rfl, rfl, rfl⟩ (asK [] rfl) rfl rfl (.inl rfl)
    ·
     replace hm := iteF hm hb35
     refine wc_keep [9,0,1,2,3] (S' := [_,_,_,_,_]) rfl (wc_skip (we_block_normal (we_then (wc_region (wP rfl (wP rfl ?_))))))
     obtain ⟨hg25, hm⟩ := gd_some hm
     refine wl_as (d := 25) (v' := .int .i64 ((u1_9 + 1 : Nat) : Int)) (S' := [_,_,_,_,_,_]) rfl rfl (nat_add (a := u1_9) (b := 1) hg25) (wl_pure (S' := [_,_,_,_,_,_]) rfl rfl rfl rfl rfl (wl_nil ?_))
     have hE := (Option.some.inj hm).symm
     replace hE := link_inl hLu1 hE
     refine we_roundK (_, u1_9 + 1) (Nat.lt_succ_self _) hE [9,0,1,2,3] rfl (asK [0,1] rfl) rfl
  ·
   replace hm := iteF hm hb23
   refine wc_keep [0,1,2,3] (S' := [_,_,_,_]) rfl (wc_exit (we_then_exit (we_then_exit (we_block_hit ?_))))
   have hE := (Option.some.inj hm).symm
   replace hE := link_inr hLu1 hE
   refine we_join () hE [0,1,2,3] rfl (asK [0,1] rfl) rfl
 ·
  rintro _ hE
  try dsimp only
  have hm := link_inl hLj_1 hE
  try dsimp only at hm
  refine wc_seq (wc_region ?_)
  obtain ⟨_, hc37, hm⟩ := bindO_some hm
  try dsimp only at hm
  refine wC [] [] rfl fn_7 rfl (w_session_New_s N  hc37) (asK [] rfl) rfl (H' := []) rfl ?_
  rintro _ _ _ ⟨c37_0, rfl, rfl, rfl⟩
  obtain ⟨_, hc38, hm⟩ := bindO_some hm
  try dsimp only at hm
  refine wC [] [0] rfl fn_8 rfl (w_ropewalkref27_New_s N  hc38) (asK [] rfl) rfl (H' := [_]) rfl ?_
  rintro _ _ _ ⟨c38_0, rfl, rfl, rfl⟩
  refine wP rfl (wP rfl (wl_nil (we_then (wc_keep [11,10,0,1,2,3] (S' := [_,_,_,_,_,_]) rfl (wc_seq ?_)))))
  obtain ⟨bj_3, hm, hLj_3⟩ := bindS_some hm
  unfold m_ropewalklaw27_SessionLives_C3 at hm
  refine wc_cut (σ := (List SessD) × Int × (List SessD) × Int × Nat × (Option Addr) × Nat × Nat × Nat × (Option Addr) × Nat × Nat) (fun (j_3_11_f0_l, j_3_11_f1, j_3_10_f0_l, j_3_10_f1, j_3_11_g, j_3_11_f0_p, j_3_11_f0_c, j_3_11_f0_n, j_3_10_g, j_3_10_f0_p, j_3_10_f0_c, j_3_10_f0_n) => bj_3 = .inl (j_3_11_f0_l, j_3_11_f1, j_3_10_f0_l, j_3_10_f1)) (fun (j_3_11_f0_l, j_3_11_f1, j_3_10_f0_l, j_3_10_f1, j_3_11_g, j_3_11_f0_p, j_3_11_f0_c, j_3_11_f0_n, j_3_10_g, j_3_10_f0_p, j_3_10_f0_c, j_3_10_f0_n) => [(11, .pointer (some ⟨j_3_11_g, 0, none⟩)), (10, .pointer (some ⟨j_3_10_g, 0, none⟩)), (3, .slice qp2 l3.length qc3)]) (fun (j_3_11_f0_l, j_3_11_f1, j_3_10_f0_l, j_3_10_f1, j_3_11_g, j_3_11_f0_p, j_3_11_f0_c, j_3_11_f0_n, j_3_10_g, j_3_10_f0_p, j_3_10_f0_c, j_3_10_f0_n) => [.sli 7 R_Ropewalklaw27_DoD qp2 qc3 l3]) (fun (j_3_11_f0_l, j_3_11_f1, j_3_10_f0_l, j_3_10_f1, j_3_11_g, j_3_11_f0_p, j_3_11_f0_c, j_3_11_f0_n, j_3_10_g, j_3_10_f0_p, j_3_10_f0_c, j_3_10_f0_n) => [.blk j_3_11_g [.slice j_3_11_f0_p j_3_11_f0_n j_3_11_f0_c, .int .i64 j_3_11_f1] 67, treeF T_SessD 31 6 (.slice j_3_11_f0_p j_3_11_f0_n j_3_11_f0_c) j_3_11_f0_l, .blk j_3_10_g [.slice j_3_10_f0_p j_3_10_f0_n j_3_10_f0_c, .int .i64 j_3_10_f1] 65, treeF T_SessD 31 6 (.slice j_3_10_f0_p j_3_10_f0_n j_3_10_f0_c) j_3_10_f0_l]) ?_ ?_
  ·
   refine wc_seq (wc_region (wP rfl (wl_nil (we_then (wc_keep [39,11,10,0,1,3] (S' := [_,_,_,_,_,_]) rfl ?_)))))
   refine wc_cond rfl (fun hb39 => ?_) (fun hb39 => ?_)
   ·
    replace hm := iteT hm hb39
    refine wc_keep [0,1,3] (S' := [_,_,_]) rfl (wc_seq (wc_region (wP rfl ?_)))
    obtain ⟨v41, hc41, hm⟩ := bindO_some hm
    refine wC [] [0,1] rfl fn_9 rfl (w_ropewalkkit_LentSessions_s N qp0 qc1 l1 _ hc41) (asK [0] rfl) rfl (H' := [_,_]) rfl ?_
    rintro _ _ _ ⟨p41_0, c41_1, c41_2, rfl, rfl, rfl⟩
    refine wP rfl (wl_nil (we_then (wc_keep [12,0,1,3] (S' := [_,_,_,_]) rfl (wc_seq (wc_region (wP rfl (wP rfl (wl_treeLen 0 rfl (fun hzt4 _ => ?_)))))))))
    subst hzt4
    obtain ⟨hzl4, hm⟩ := gd_some hm
    refine wl_at 0 (v' := .slice p41_0 (((v41.map to_SessD).take l1.length).length) c41_1) rfl (by rw [takeM_len hzl4]) (wl_at 2 (v' := .slice p41_0 (((v41.map to_SessD).take l1.length).length) c41_1) rfl (by rw [takeM_len hzl4]) ?_)
    obtain ⟨_ | v45, hc45, hm⟩ := bindO_some hm
    ·
     try dsimp only at hm
     refine wl_lend [] [0,1,2] [0] rfl rfl rfl (freshS_eq rfl) rfl rfl fn_10 rfl (w_session_Of_s0 N a0 p41_0 c41_1 ((v41.map to_SessD).take l1.length) hc45) (fun F w hφ hh => (ask_cons (sli_take (tree_sliM TS_SessD_lend (hh _ (mem_at (k := 0) rfl)) (fun _ h => h) (fun _ h => h)) l1.length) ask_nil)) (fun _ _ _ hR => by obtain ⟨rfl, rfl, rfl⟩ := hR; exact ⟨rfl, (fun _ h => free_nil h)⟩) rfl rfl (H' := [_,_,_]) rfl ?_
     rintro _ _ _ ⟨rfl, rfl, rfl⟩
     refine wP rfl (wP rfl (wP rfl (wP rfl (wP rfl (wl_nil (we_then (wc_keep [14,13,12,0,1,3] (S' := [_,_,_,_,_,_]) rfl (wc_seq (wc_region (wP rfl (wP rfl ?_)))))))))))
     obtain ⟨_ | v51, hc51, hm⟩ := bindO_some hm
     ·
      try dsimp only at hm
      refine wC [] [0,1,2] rfl fn_11 rfl (w_ropewalkref27_Of_s0 N a0 qp0 qc1 l1 hc51) (asK [0] rfl) rfl (H' := [_,_,_]) rfl ?_
      rintro _ _ _ ⟨rfl, rfl, rfl⟩
      refine wP rfl (wP rfl (wP rfl (wP rfl (wP rfl (wl_nil (we_then (wc_keep [16,15,14,13,12,1,3] (S' := [_,_,_,_,_,_,_]) rfl (wc_seq (wc_seq ?_)))))))))
      obtain ⟨bj_6, hm, hLj_6⟩ := bindO_some hm
      refine wc_cut (σ := Bool) (fun j_6_69 => bj_6 = j_6_69) (fun j_6_69 => [(15, .pointer none), (14, .int .i64 4), (13, .pointer none), (12, .slice p41_0 (((v41.map to_SessD).take l1.length).length) c41_1), (3, .slice qp2 l3.length qc3), (69, .bool j_6_69)]) (fun j_6_69 => [.sli 7 R_Ropewalklaw27_DoD qp2 qc3 l3]) (fun j_6_69 => [treeF TS_SessD 31 6 (.slice p41_0 v41.length c41_1) v41]) ?_ ?_
      ·
       refine wc_region (wP rfl (wP rfl (wP rfl (wl_as (d := 56) (v' := .bool false) (S' := [_,_,_,_,_,_,_,_,_]) rfl rfl rfl (wP rfl (wP rfl (wP rfl ?_)))))))
       obtain ⟨v60, hc60, hm⟩ := bindO_some hm
       refine wl_lend [] [0,1,2] [0] rfl rfl rfl (freshS_eq rfl) rfl rfl fn_12 rfl (w_ropewalkkit_KeptSessions_W_s N p41_0 c41_1 v41 (((v41.map to_SessD).take l1.length).length) qp0 qc1 l1 _ hc60) (fun F w hφ hh => (ask_cons (tree_sli TS_SessD_lendS (hh _ (mem_at (k := 0) rfl)) (fun _ h => h) (fun _ h => h)) (ask_cons (hφ _ (mem_at (k := 0) rfl)) ask_nil))) (fun _ _ _ hR => by obtain ⟨rfl, rfl, rfl⟩ := hR; exact ⟨rfl, (fun _ h => free_nil h)⟩) rfl rfl (H' := [_,_,_]) rfl ?_
       rintro _ _ _ ⟨rfl, rfl, rfl⟩
       refine wP rfl (wP rfl (wP rfl ?_))
       refine wl_split (d := 63) (S' := [_,_,_,_,_,_,_,_,_,_,_,_,_,_,_,_]) rfl rfl (fun hs63 => ?_) (fun hs63 => ?_)
       ·
        replace hm := iteT hm hs63
        refine wO rfl (wO rfl (wO rfl (wO rfl (wO rfl (wP rfl (wl_nil ?_))))))
        have hE := (Option.some.inj hm).symm
        refine we_pick [0] rfl (H' := [_]) rfl ?_
        refine we_join true hE [15,14,13,12,3,69] rfl (asK [1] rfl) rfl
       ·
        replace hm := iteF hm hs63
        refine wP rfl (wl_bin rfl rfl rfl (freshS_eq rfl) rfl rfl rfl (neqP tQ_33 _ _ _) (wP rfl (wP rfl (wl_as (d := 67) (v' := .bool false) (S' := [_,_,_,_,_,_,_,_,_,_,_,_,_,_,_,_,_,_,_,_]) rfl rfl rfl (wl_bin rfl rfl rfl (freshS_eq rfl) rfl rfl rfl (neqB _ _ false false) (wP rfl (wl_nil ?_)))))))
        have hE := (Option.some.inj hm).symm
        refine we_pick [0] rfl (H' := [_]) rfl ?_
        refine we_join (false != false) hE [15,14,13,12,3,69] rfl (asK [1] rfl) rfl
      ·
       rintro j_6_69 hE
       try dsimp only
       have hm := hLj_6
       rw [hE] at hm
       refine wc_cond rfl (fun hb69 => ?_) (fun hb69 => ?_)
       ·
        replace hm := iteT hm hb69
        refine wc_keep [] (S' := []) rfl (wc_seq (wc_region (wP rfl (wl_nil (we_then (wc_ret (we_then_ret (we_then_ret ?_))))))))
        have hE := (Option.some.inj hm).symm
        replace hE := link_inr hLj_3 hE
        replace hE := hE.symm
        subst hE
        refine ret_one (Hr := []) [] Tryz.results3 (res_tmp rfl) ⟨rfl, rfl, rfl⟩ (asK [] rfl) rfl rfl (.inl rfl)
       ·
        replace hm := iteF hm hb69
        refine wc_keep [15,14,13,12,3] (S' := [_,_,_,_,_]) rfl (wc_skip (we_then (wc_seq (wc_seq (wc_region (wP rfl (wP rfl (wl_as (d := 71) (v' := .bool true) (S' := [_,_,_,_,_,_]) rfl rfl rfl (wP rfl (wO rfl (wO rfl (wP rfl (wl_nil ?_)))))))))))))
        refine we_then (wc_keep [75,15,13,12,3] (S' := [_,_,_,_,_]) rfl (wc_true rfl (wc_keep [] (S' := []) rfl (wc_seq (wc_region ?_)))))
        obtain ⟨v76, hc76, hm⟩ := bindO_some hm
        refine wC [] [0] rfl fn_6 rfl (w_ropewalklaw27_awake_s N _ hc76) (asK [] rfl) rfl (H' := [_]) rfl ?_
        rintro _ _ _ ⟨rfl, rfl, rfl⟩
        refine wP rfl (wl_nil (we_then (wc_keep [8] (S' := [_]) rfl (wc_ret (we_then_ret (we_then_ret ?_))))))
        have hE := (Option.some.inj hm).symm
        replace hE := link_inr hLj_3 hE
        replace hE := hE.symm
        subst hE
        refine ret_one (Hr := []) [] Tryz.results3 (res_tmp rfl) ⟨rfl, rfl, rfl⟩ (asK [] rfl) rfl rfl (.inl rfl)
     ·
      try dsimp only at hm
      refine wC [] [0,1,2] rfl fn_11 rfl (w_ropewalkref27_Of_s1 N a0 qp0 qc1 l1 _ hc51) (asK [0] rfl) rfl (H' := [_,_,_]) rfl ?_
      rintro _ _ _ ⟨c51_0, p51_1, c51_2, c51_3, rfl, rfl, rfl⟩
      refine wP rfl (wP rfl (wP rfl (wP rfl (wP rfl (wl_nil (we_then (wc_keep [16,15,14,13,12,1,3] (S' := [_,_,_,_,_,_,_]) rfl (wc_seq (wc_seq (wc_region (wP rfl (wP rfl (wP rfl ?_)))))))))))))
      refine wl_as (d := 56) (v' := .bool true) (S' := [_,_,_,_,_,_,_,_,_]) rfl rfl rfl (wP rfl (wO rfl (wO rfl (wO rfl (wO rfl (wP rfl (wP rfl (wO rfl (wO rfl (wO rfl (wO rfl (wO rfl (wP rfl ?_)))))))))))))
      refine wl_nil (we_then (wc_keep [69,15,14,13,12,3] (S' := [_,_,_,_,_,_]) rfl (wc_true rfl (wc_keep [] (S' := []) rfl (wc_seq (wc_region (wP rfl (wl_nil (we_then (wc_ret (we_then_ret (we_then_ret ?_))))))))))))
      have hE := (Option.some.inj hm).symm
      replace hE := link_inr hLj_3 hE
      replace hE := hE.symm
      subst hE
      refine ret_one (Hr := []) [] Tryz.results3 (res_tmp rfl) ⟨rfl, rfl, rfl⟩ (asK [] rfl) rfl rfl (.inl rfl)
    ·
     try dsimp only at hm
     refine wl_lend [] [0,1,2] [0] rfl rfl rfl (freshS_eq rfl) rfl rfl fn_10 rfl (w_session_Of_s1 N a0 p41_0 c41_1 ((v41.map to_SessD).take l1.length) _ hc45) (fun F w hφ hh => (ask_cons (sli_take (tree_sliM TS_SessD_lend (hh _ (mem_at (k := 0) rfl)) (fun _ h => h) (fun _ h => h)) l1.length) ask_nil)) (fun _ _ _ hR => by obtain ⟨_,_,_, rfl, rfl, rfl⟩ := hR; exact ⟨rfl, (free_cons (blk_free) (free_cons (tree_free T_SessD_free) (fun _ h => free_nil h)))⟩) rfl rfl (H' := [_,_,_]) rfl ?_
     rintro _ _ _ ⟨c45_0, p45_1, c45_2, rfl, rfl, rfl⟩
     refine wP rfl (wP rfl (wP rfl (wP rfl (wP rfl (wl_nil (we_then (wc_keep [14,13,12,0,1,3] (S' := [_,_,_,_,_,_]) rfl (wc_seq (wc_region (wP rfl (wP rfl ?_)))))))))))
     obtain ⟨_ | v51, hc51, hm⟩ := bindO_some hm
     ·
      try dsimp only at hm
      refine wC [] [0,1,2,3,4] rfl fn_11 rfl (w_ropewalkref27_Of_s0 N a0 qp0 qc1 l1 hc51) (asK [0] rfl) rfl (H' := [_,_,_,_,_]) rfl ?_
      rintro _ _ _ ⟨rfl, rfl, rfl⟩
      refine wP rfl (wP rfl (wP rfl (wP rfl (wP rfl (wl_nil (we_then (wc_keep [16,15,14,13,12,1,3] (S' := [_,_,_,_,_,_,_]) rfl (wc_seq (wc_seq (wc_region (wP rfl (wP rfl (wP rfl ?_)))))))))))))
      refine wl_as (d := 56) (v' := .bool true) (S' := [_,_,_,_,_,_,_,_,_]) rfl rfl rfl (wP rfl (wO rfl (wO rfl (wO rfl (wO rfl (wP rfl (wP rfl (wO rfl (wO rfl (wO rfl (wO rfl (wO rfl (wP rfl ?_)))))))))))))
      refine wl_nil (we_then (wc_keep [69,15,14,13,12,3] (S' := [_,_,_,_,_,_]) rfl (wc_true rfl (wc_keep [] (S' := []) rfl (wc_seq (wc_region (wP rfl (wl_nil (we_then (wc_ret (we_then_ret (we_then_ret ?_))))))))))))
      have hE := (Option.some.inj hm).symm
      replace hE := link_inr hLj_3 hE
      replace hE := hE.symm
      subst hE
      refine ret_one (Hr := []) [] Tryz.results3 (res_tmp rfl) ⟨rfl, rfl, rfl⟩ (asK [] rfl) rfl rfl (.inl rfl)
     ·
      try dsimp only at hm
      refine wC [] [0,1,2,3,4] rfl fn_11 rfl (w_ropewalkref27_Of_s1 N a0 qp0 qc1 l1 _ hc51) (asK [0] rfl) rfl (H' := [_,_,_,_,_]) rfl ?_
      rintro _ _ _ ⟨c51_0, p51_1, c51_2, c51_3, rfl, rfl, rfl⟩
      refine wP rfl (wP rfl (wP rfl (wP rfl (wP rfl (wl_nil (we_then (wc_keep [16,15,14,13,12,1,3] (S' := [_,_,_,_,_,_,_]) rfl (wc_seq (wc_seq ?_)))))))))
      obtain ⟨bj_8, hm, hLj_8⟩ := bindO_some hm
      refine wc_cut (σ := Bool) (fun j_8_69 => bj_8 = j_8_69) (fun j_8_69 => [(15, .pointer (some ⟨c51_0,0, none⟩)), (14, .int .i64 0), (13, .pointer (some ⟨c45_0,0, none⟩)), (12, .slice p41_0 (((v41.map to_SessD).take l1.length).length) c41_1), (3, .slice qp2 l3.length qc3), (69, .bool j_8_69)]) (fun j_8_69 => [.sli 7 R_Ropewalklaw27_DoD qp2 qc3 l3]) (fun j_8_69 => [.blk c51_0 [.slice p51_1 c51_3 c51_2, .int .i64 a0] 67, treeF T_SessD 31 6 (.slice p51_1 c51_3 c51_2) v51, .blk c45_0 [.slice p45_1 (((v41.map to_SessD).take l1.length).length) c45_2, .int .i64 a0] 65, treeF T_SessD 31 6 (.slice p45_1 (((v41.map to_SessD).take l1.length).length) c45_2) v45, treeF TS_SessD 31 6 (.slice p41_0 v41.length c41_1) v41]) ?_ ?_
      ·
       refine wc_region (wP rfl (wP rfl (wP rfl (wl_as (d := 56) (v' := .bool false) (S' := [_,_,_,_,_,_,_,_,_]) rfl rfl rfl (wP rfl (wP rfl (wP rfl ?_)))))))
       obtain ⟨v60, hc60, hm⟩ := bindO_some hm
       refine wl_lend [] [0,1,2,3,4,5,6] [4] rfl rfl rfl (freshS_eq rfl) rfl rfl fn_12 rfl (w_ropewalkkit_KeptSessions_W_s N p41_0 c41_1 v41 (((v41.map to_SessD).take l1.length).length) qp0 qc1 l1 _ hc60) (fun F w hφ hh => (ask_cons (tree_sli TS_SessD_lendS (hh _ (mem_at (k := 0) rfl)) (fun _ h => h) (fun _ h => h)) (ask_cons (hφ _ (mem_at (k := 0) rfl)) ask_nil))) (fun _ _ _ hR => by obtain ⟨rfl, rfl, rfl⟩ := hR; exact ⟨rfl, (fun _ h => free_nil h)⟩) rfl rfl (H' := [_,_,_,_,_,_,_]) rfl ?_
       rintro _ _ _ ⟨rfl, rfl, rfl⟩
       refine wP rfl (wP rfl (wP rfl ?_))
       refine wl_split (d := 63) (S' := [_,_,_,_,_,_,_,_,_,_,_,_,_,_,_,_]) rfl rfl (fun hs63 => ?_) (fun hs63 => ?_)
       ·
        replace hm := iteT hm hs63
        refine wO rfl (wO rfl (wO rfl (wO rfl (wO rfl (wP rfl (wl_nil ?_))))))
        have hE := (Option.some.inj hm).symm
        refine we_pick [0,1,2,3,4] rfl (H' := [_,_,_,_,_]) rfl ?_
        refine we_join true hE [15,14,13,12,3,69] rfl (asK [1] rfl) rfl
       ·
        replace hm := iteF hm hs63
        refine wP rfl (wl_bin rfl rfl rfl (freshS_eq rfl) rfl rfl rfl (neqP tQ_33 _ _ _) (wP rfl (wP rfl (wl_as (d := 67) (v' := .bool true) (S' := [_,_,_,_,_,_,_,_,_,_,_,_,_,_,_,_,_,_,_,_]) rfl rfl rfl (wl_bin rfl rfl rfl (freshS_eq rfl) rfl rfl rfl (neqB _ _ true true) (wP rfl (wl_nil ?_)))))))
        have hE := (Option.some.inj hm).symm
        refine we_pick [0,1,2,3,4] rfl (H' := [_,_,_,_,_]) rfl ?_
        refine we_join (true != true) hE [15,14,13,12,3,69] rfl (asK [1] rfl) rfl
      ·
       rintro j_8_69 hE
       try dsimp only
       have hm := hLj_8
       rw [hE] at hm
       refine wc_cond rfl (fun hb69 => ?_) (fun hb69 => ?_)
       ·
        replace hm := iteT hm hb69
        refine wc_keep [] (S' := []) rfl (wc_seq (wc_region (wP rfl (wl_nil (we_then (wc_ret (we_then_ret (we_then_ret ?_))))))))
        have hE := (Option.some.inj hm).symm
        replace hE := link_inr hLj_3 hE
        replace hE := hE.symm
        subst hE
        refine ret_one (Hr := []) [] Tryz.results3 (res_tmp rfl) ⟨rfl, rfl, rfl⟩ (asK [] rfl) rfl rfl (.inl rfl)
       ·
        replace hm := iteF hm hb69
        refine wc_keep [15,14,13,12,3] (S' := [_,_,_,_,_]) rfl (wc_skip (we_then (wc_seq (wc_seq (wc_region (wP rfl (wP rfl (wl_as (d := 71) (v' := .bool false) (S' := [_,_,_,_,_,_]) rfl rfl rfl (wP rfl (wP rfl (wl_bin rfl rfl rfl (freshS_eq rfl) rfl rfl rfl (eqlP tQ_33 _ _ _) (wP rfl (wl_nil ?_)))))))))))))
        refine we_then (wc_keep [75,15,13,12,3] (S' := [_,_,_,_,_]) rfl (wc_false rfl (wc_keep [15,13,12,3] (S' := [_,_,_,_]) rfl (wc_skip (we_then (wc_seq (wc_region (wP rfl ?_))))))))
        obtain ⟨v78, hc78, hm⟩ := bindO_some hm
        refine wC [4] [0,1,2,3] rfl fn_13 rfl (w_ropewalkkit_OverSessions_V_s N p41_0 v41.length c41_1 v41 (((v41.map to_SessD).take l1.length).length) _ hc78) (asK [] rfl) rfl (H' := [_,_,_,_]) rfl ?_
        rintro _ _ _ ⟨rfl, rfl, rfl⟩
        refine wl_nil (we_then (wc_keep [15,13,3] (S' := [_,_,_]) rfl (wc_region (wP rfl (wP rfl (wP rfl (wP rfl (wl_nil ?_))))))))
        have hE := (Option.some.inj hm).symm
        refine we_pick [1,2,3,4] rfl (H' := [_,_,_,_]) rfl ?_
        refine we_join (v51, a0, v45, a0, c51_0, p51_1, c51_2, c51_3, c45_0, p45_1, c45_2, ((v41.map to_SessD).take l1.length).length) hE [11,10,3] rfl (asK [0] rfl) rfl
   ·
    replace hm := iteF hm hb39
    refine wc_keep [11,10,3] (S' := [_,_,_]) rfl (wc_skip ?_)
    have hE := (Option.some.inj hm).symm
    refine we_sh [treeF T_SessD 31 6 (.slice none 0 0) [], .blk c38_0 [.slice none 0 0, .int .i64 1] 67, .blk c37_0 [.slice none 0 0, .int .i64 1] 65] (fun _ h => h.treeNil T_SessD 31 6) (we_sh [treeF T_SessD 31 6 (.slice none 0 0) [], treeF T_SessD 31 6 (.slice none 0 0) [], .blk c38_0 [.slice none 0 0, .int .i64 1] 67, .blk c37_0 [.slice none 0 0, .int .i64 1] 65] (fun _ h => h.treeNil T_SessD 31 6) (we_pick [2,1,3,0] rfl (H' := [_,_,_,_]) rfl ?_))
    refine we_join ([],1,[],1, c38_0, none, 0,0, c37_0, none, 0,0) hE [11,10,3] rfl (asK [1] rfl) rfl
  ·
   rintro ⟨j_3_11_f0_l, j_3_11_f1, j_3_10_f0_l, j_3_10_f1, j_3_11_g, j_3_11_f0_p, j_3_11_f0_c, j_3_11_f0_n, j_3_10_g, j_3_10_f0_p, j_3_10_f0_c, j_3_10_f0_n⟩ hE
   try dsimp only
   have hm := link_inl hLj_3 hE
   try dsimp only at hm
   refine wc_seq ?_
   obtain ⟨bj_9, hm, hLj_9⟩ := bindS_some hm
   refine wc_cut (σ := (List SessD) × Int × (List SessD) × Int × (Option Addr) × Nat × Nat × (Option Addr) × Nat × Nat) (fun (j_9_11_f0_l, j_9_11_f1, j_9_10_f0_l, j_9_10_f1, j_9_11_f0_p, j_9_11_f0_c, j_9_11_f0_n, j_9_10_f0_p, j_9_10_f0_c, j_9_10_f0_n) => bj_9 = .inl (j_9_11_f0_l, j_9_11_f1, j_9_10_f0_l, j_9_10_f1)) (fun (j_9_11_f0_l, j_9_11_f1, j_9_10_f0_l, j_9_10_f1, j_9_11_f0_p, j_9_11_f0_c, j_9_11_f0_n, j_9_10_f0_p, j_9_10_f0_c, j_9_10_f0_n) => [(11, .pointer (some ⟨j_3_11_g, 0, none⟩)), (10, .pointer (some ⟨j_3_10_g, 0, none⟩))]) (fun (j_9_11_f0_l, j_9_11_f1, j_9_10_f0_l, j_9_10_f1, j_9_11_f0_p, j_9_11_f0_c, j_9_11_f0_n, j_9_10_f0_p, j_9_10_f0_c, j_9_10_f0_n) => []) (fun (j_9_11_f0_l, j_9_11_f1, j_9_10_f0_l, j_9_10_f1, j_9_11_f0_p, j_9_11_f0_c, j_9_11_f0_n, j_9_10_f0_p, j_9_10_f0_c, j_9_10_f0_n) => [.blk j_3_11_g [.slice j_9_11_f0_p j_9_11_f0_n j_9_11_f0_c, .int .i64 j_9_11_f1] 67, .own 31 6 R_SessD (.slice j_9_11_f0_p j_9_11_f0_n j_9_11_f0_c) j_9_11_f0_l, .blk j_3_10_g [.slice j_9_10_f0_p j_9_10_f0_n j_9_10_f0_c, .int .i64 j_9_10_f1] 65, treeF T_SessD 31 6 (.slice j_9_10_f0_p j_9_10_f0_n j_9_10_f0_c) j_9_10_f0_l]) ?_ ?_
   ·
    refine wc_seq (wc_region (wP rfl (wl_nil (we_then (wc_block (wc_sh [.blk j_3_11_g [.slice j_3_11_f0_p j_3_11_f0_n j_3_11_f0_c, .int .i64 j_3_11_f1] 67, .own 31 6 R_SessD (.slice j_3_11_f0_p j_3_11_f0_n j_3_11_f0_c) j_3_11_f0_l, .blk j_3_10_g [.slice j_3_10_f0_p j_3_10_f0_n j_3_10_f0_c, .int .i64 j_3_10_f1] 65, treeF T_SessD 31 6 (.slice j_3_10_f0_p j_3_10_f0_n j_3_10_f0_c) j_3_10_f0_l] (fun _ h => h.letgo T_SessD_lend 1 rfl) (wc_loop (σ := Nat × Nat × (List SessD) × Int × (List SessD) × Int × (Option Addr) × Nat × Nat × (Option Addr) × Nat × Nat) (fun (nu2, u2_17, u2_11_f0_l, u2_11_f1, u2_10_f0_l, u2_10_f1, u2_11_f0_p, u2_11_f0_c, u2_11_f0_n, u2_10_f0_p, u2_10_f0_c, u2_10_f0_n) => iter (m_ropewalklaw27_SessionLives_L2 N l3) nu2 (u2_17, u2_11_f0_l, u2_11_f1, u2_10_f0_l, u2_10_f1) = some bj_9) (fun (nu2, u2_17, u2_11_f0_l, u2_11_f1, u2_10_f0_l, u2_10_f1, u2_11_f0_p, u2_11_f0_c, u2_11_f0_n, u2_10_f0_p, u2_10_f0_c, u2_10_f0_n) => nu2) (fun (nu2, u2_17, u2_11_f0_l, u2_11_f1, u2_10_f0_l, u2_10_f1, u2_11_f0_p, u2_11_f0_c, u2_11_f0_n, u2_10_f0_p, u2_10_f0_c, u2_10_f0_n) => [(17, .int .i64 ((u2_17 : Nat) : Int)), (11, .pointer (some ⟨j_3_11_g, 0, none⟩)), (10, .pointer (some ⟨j_3_10_g, 0, none⟩)), (3, .slice qp2 l3.length qc3)]) (fun (nu2, u2_17, u2_11_f0_l, u2_11_f1, u2_10_f0_l, u2_10_f1, u2_11_f0_p, u2_11_f0_c, u2_11_f0_n, u2_10_f0_p, u2_10_f0_c, u2_10_f0_n) => [.sli 7 R_Ropewalklaw27_DoD qp2 qc3 l3]) (fun (nu2, u2_17, u2_11_f0_l, u2_11_f1, u2_10_f0_l, u2_10_f1, u2_11_f0_p, u2_11_f0_c, u2_11_f0_n, u2_10_f0_p, u2_10_f0_c, u2_10_f0_n) => [.blk j_3_11_g [.slice u2_11_f0_p u2_11_f0_n u2_11_f0_c, .int .i64 u2_11_f1] 67, .own 31 6 R_SessD (.slice u2_11_f0_p u2_11_f0_n u2_11_f0_c) u2_11_f0_l, .blk j_3_10_g [.slice u2_10_f0_p u2_10_f0_n u2_10_f0_c, .int .i64 u2_10_f1] 65, treeF T_SessD 31 6 (.slice u2_10_f0_p u2_10_f0_n u2_10_f0_c) u2_10_f0_l]) (N, 0, j_3_11_f0_l, j_3_11_f1, j_3_10_f0_l, j_3_10_f1, j_3_11_f0_p, j_3_11_f0_c, j_3_11_f0_n, j_3_10_f0_p, j_3_10_f0_c, j_3_10_f0_n) hm [17,11,10,3] rfl (asK [0] rfl) rfl (fun s_ hm => ?_))))))))
    obtain ⟨nu2, u2_17, u2_11_f0_l, u2_11_f1, u2_10_f0_l, u2_10_f1, u2_11_f0_p, u2_11_f0_c, u2_11_f0_n, u2_10_f0_p, u2_10_f0_c, u2_10_f0_n⟩ := s_
    try dsimp only at hm ⊢
    obtain ⟨mu2, bu2, hnu2, hq, hLu2⟩ := iter_some hm
    clear hm
    subst hnu2
    replace hm := hq
    clear hq
    unfold m_ropewalklaw27_SessionLives_L2 at hm
    try dsimp only at hm
    refine wc_seq (wc_seq ?_)
    obtain ⟨bj_10, hm, hLj_10⟩ := bindO_some hm
    refine wc_cut (σ := Bool) (fun j_10_88 => bj_10 = j_10_88) (fun j_10_88 => [(17, .int .i64 ((u2_17 : Nat) : Int)), (11, .pointer (some ⟨j_3_11_g, 0, none⟩)), (10, .pointer (some ⟨j_3_10_g, 0, none⟩)), (3, .slice qp2 l3.length qc3), (88, .bool j_10_88)]) (fun j_10_88 => [.sli 7 R_Ropewalklaw27_DoD qp2 qc3 l3]) (fun j_10_88 => [.blk j_3_11_g [.slice u2_11_f0_p u2_11_f0_n u2_11_f0_c, .int .i64 u2_11_f1] 67, .own 31 6 R_SessD (.slice u2_11_f0_p u2_11_f0_n u2_11_f0_c) u2_11_f0_l, .blk j_3_10_g [.slice u2_10_f0_p u2_10_f0_n u2_10_f0_c, .int .i64 u2_10_f1] 65, treeF T_SessD 31 6 (.slice u2_10_f0_p u2_10_f0_n u2_10_f0_c) u2_10_f0_l]) ?_ ?_
    ·
     refine wc_region (wP rfl (wP rfl (wN rfl tE_23 (wP rfl (wl_as (d := 84) (v' := .bool (decide (u2_17 < l3.length))) (S' := [_,_,_,_,_,_,_]) rfl rfl (natlt (a := u2_17) (b := l3.length)) (wP rfl ?_))))))
     refine wl_split (d := 85) (S' := [_,_,_,_,_,_,_,_]) rfl rfl (fun hs85 => ?_) (fun hs85 => ?_)
     ·
      replace hm := iteT hm hs85
      refine wP rfl (wP rfl (wl_as (d := 87) (v' := .bool (decide (u2_17 < 120))) (S' := [_,_,_,_,_,_,_,_,_,_]) rfl rfl (natlt (a := u2_17) (b := 120)) (wP rfl (wl_nil ?_))))
      have hE := (Option.some.inj hm).symm
      refine we_join (decide (u2_17 < 120)) hE [17,11,10,3,88] rfl (asK [0] rfl) rfl
     ·
      replace hm := iteF hm hs85
      refine wO rfl (wO rfl (wP rfl (wl_nil ?_)))
      have hE := (Option.some.inj hm).symm
      refine we_join false hE [17,11,10,3,88] rfl (asK [0] rfl) rfl
    ·
     rintro j_10_88 hE
     try dsimp only
     have hm := hLj_10
     rw [hE] at hm
     refine wc_cond rfl (fun hb88 => ?_) (fun hb88 => ?_)
     ·
      replace hm := iteT hm hb88
      refine wc_keep [17,11,10,3] (S' := [_,_,_,_]) rfl (wc_skip (we_then (wc_seq (wc_block (wc_seq (wc_seq (wc_region (wP rfl (wP rfl ?_)))))))))
      obtain ⟨x93, hx93, hm⟩ := bindO_some hm
      refine wl_indexA 0 u2_17 rfl rfl rfl (freshS_eq rfl) rfl rfl rfl rfl rfl hx93 tE_23 tS_45 (fun b93 q93 cs93 hlx93 => (wl_open R_Ropewalklaw27_DoD_opens 1 rfl (fun r93 er93 _ => ?_)))
      subst er93
      refine wF rfl tF_45_3 (wl_load 2 3 rfl rfl rfl (freshS_eq rfl) rfl rfl rfl (cs := [_,_,_,_]) rfl tS_29 tA_29 rfl rfl ?_)
      obtain ⟨v96, hc96, hm⟩ := bindO_some hm
      refine wC [] [0,1,2,3] rfl fn_5 rfl (w_ropewalklaw27_great_s N x93.reply.err x93.reply.num r93.1.1 r93.1.2 x93.reply.facts r93.2.1 r93.2.2 x93.reply.said _ hc96) (asK [0,1] rfl) rfl (H' := [_,_,_,_]) rfl ?_
      rintro _ _ _ ⟨rfl, rfl, rfl⟩
      refine wl_nil (we_then (wc_keep [96,17,11,10,3] (S' := [_,_,_,_,_]) rfl ?_))
      refine wc_cond rfl (fun hb96 => ?_) (fun hb96 => ?_)
      ·
       replace hm := iteT hm hb96
       refine wc_keep [] (S' := []) rfl (wc_seq (wc_region ?_))
       obtain ⟨v97, hc97, hm⟩ := bindO_some hm
       refine wC [] [0,1,2,3] rfl fn_6 rfl (w_ropewalklaw27_awake_s N _ hc97) (asK [] rfl) rfl (H' := [_,_,_,_]) rfl ?_
       rintro _ _ _ ⟨rfl, rfl, rfl⟩
       refine wP rfl (wl_nil (we_then (wc_keep [8] (S' := [_]) rfl (wc_ret (we_then_ret (we_block_ret (we_then_ret (we_then_ret (we_block_ret (we_then_ret ?_))))))))))
       have hE := (Option.some.inj hm).symm
       replace hE := link_inr hLu2 hE
       replace hE := link_inr hLj_9 hE
       replace hE := hE.symm
       subst hE
       refine ret_one (Hr := []) [] Tryz.results3 (res_tmp rfl) ⟨rfl, rfl, rfl⟩ (asK [] rfl) rfl rfl (.inl rfl)
      ·
       replace hm := iteF hm hb96
       refine wc_keep [17,11,10,3] (S' := [_,_,_,_]) rfl (wc_skip (we_then (wc_seq ?_)))
       obtain ⟨bj_11, hm, hLj_11⟩ := bindO_some hm
       refine wc_cut (σ := (List SessD) × Int × (List SessD) × Int × Bool × (Option Addr) × Nat × Nat × (Option Addr) × Nat × Nat) (fun (j_11_11_f0_l, j_11_11_f1, j_11_10_f0_l, j_11_10_f1, j_11_111, j_11_11_f0_p, j_11_11_f0_c, j_11_11_f0_n, j_11_10_f0_p, j_11_10_f0_c, j_11_10_f0_n) => bj_11 = (j_11_11_f0_l, j_11_11_f1, j_11_10_f0_l, j_11_10_f1, j_11_111)) (fun (j_11_11_f0_l, j_11_11_f1, j_11_10_f0_l, j_11_10_f1, j_11_111, j_11_11_f0_p, j_11_11_f0_c, j_11_11_f0_n, j_11_10_f0_p, j_11_10_f0_c, j_11_10_f0_n) => [(17, .int .i64 ((u2_17 : Nat) : Int)), (11, .pointer (some ⟨j_3_11_g, 0, none⟩)), (10, .pointer (some ⟨j_3_10_g, 0, none⟩)), (3, .slice qp2 l3.length qc3), (111, .bool j_11_111)]) (fun (j_11_11_f0_l, j_11_11_f1, j_11_10_f0_l, j_11_10_f1, j_11_111, j_11_11_f0_p, j_11_11_f0_c, j_11_11_f0_n, j_11_10_f0_p, j_11_10_f0_c, j_11_10_f0_n) => [.sli 7 R_Ropewalklaw27_DoD qp2 qc3 l3]) (fun (j_11_11_f0_l, j_11_11_f1, j_11_10_f0_l, j_11_10_f1, j_11_111, j_11_11_f0_p, j_11_11_f0_c, j_11_11_f0_n, j_11_10_f0_p, j_11_10_f0_c, j_11_10_f0_n) => [.blk j_3_11_g [.slice j_11_11_f0_p j_11_11_f0_n j_11_11_f0_c, .int .i64 j_11_11_f1] 67, .own 31 6 R_SessD (.slice j_11_11_f0_p j_11_11_f0_n j_11_11_f0_c) j_11_11_f0_l, .blk j_3_10_g [.slice j_11_10_f0_p j_11_10_f0_n j_11_10_f0_c, .int .i64 j_11_10_f1] 65, treeF T_SessD 31 6 (.slice j_11_10_f0_p j_11_10_f0_n j_11_10_f0_c) j_11_10_f0_l]) ?_ ?_
       ·
        refine wc_region (wP rfl (wP rfl (wP rfl (wP rfl ?_))))
        obtain ⟨x102, hx102, hm⟩ := bindO_some hm
        refine wl_indexA 4 u2_17 rfl rfl rfl (freshS_eq rfl) rfl rfl rfl rfl rfl hx102 tE_23 tS_45 (fun b102 q102 cs102 hlx102 => (wl_open R_Ropewalklaw27_DoD_opens 1 rfl (fun r102 er102 _ => ?_)))
        subst er102
        refine wl_load 2 0 rfl rfl rfl (freshS_eq rfl) rfl rfl rfl (cs := [_,_,_,_,_,_,_]) rfl tS_45 tA_45 rfl rfl ?_
        obtain ⟨⟨v104_0, v104_1, v104_2, v104_3, v104_4⟩, hc104, hm⟩ := bindO_some hm
        try dsimp only at hm
        refine wC [2,3,0,1] [] rfl fn_14 rfl (w_ropewalklaw27_step_v2_s N j_3_10_g u2_10_f0_p u2_10_f0_n u2_10_f0_c u2_10_f0_l u2_10_f1 j_3_11_g u2_11_f0_p u2_11_f0_n u2_11_f0_c u2_11_f0_l u2_11_f1 x102.op x102.id x102.seq x102.reply.err x102.reply.num r102.1.1 r102.1.2 x102.reply.facts r102.2.1 r102.2.2 x102.reply.said _ _ _ _ _ hc104) (asK [0,1] rfl) rfl (H' := []) rfl ?_
        rintro _ _ _ ⟨p104_0, c104_1, c104_2, p104_3, c104_4, c104_5, rfl, rfl, rfl⟩
        refine wP rfl (wP rfl ?_)
        refine wl_split (d := 106) (S' := [_,_,_,_,_,_,_,_,_,_,_,_]) rfl rfl (fun hs106 => ?_) (fun hs106 => ?_)
        ·
         replace hm := iteT hm hs106
         refine wO rfl (wO rfl (wO rfl (wO rfl (wP rfl (wl_nil ?_)))))
         have hE := (Option.some.inj hm).symm
         refine we_pick [2,3,0,1] rfl (H' := [_,_,_,_]) rfl ?_
         refine we_join (v104_3, v104_4, v104_1, v104_2, true, p104_3, c104_4, c104_5, p104_0, c104_1, c104_2) hE [17,11,10,3,111] rfl (asK [8] rfl) rfl
        ·
         replace hm := iteF hm hs106
         refine wP rfl (wP rfl ?_)
         obtain ⟨v109, hc109, hm⟩ := bindO_some hm
         refine wC [0,1,2,3] [] rfl fn_15 rfl (w_ropewalklaw27_alike_s N j_3_10_g p104_0 c104_2 c104_1 v104_1 v104_2 j_3_11_g p104_3 c104_5 c104_4 v104_3 v104_4 _ hc109) (asK [] rfl) rfl (H' := []) rfl ?_
         rintro _ _ _ ⟨rfl, rfl, rfl⟩
         refine wP rfl (wP rfl (wl_nil ?_))
         have hE := (Option.some.inj hm).symm
         refine we_pick [2,3,0,1] rfl (H' := [_,_,_,_]) rfl ?_
         refine we_join (v104_3, v104_4, v104_1, v104_2, !v109, p104_3, c104_4, c104_5, p104_0, c104_1, c104_2) hE [17,11,10,3,111] rfl (asK [8] rfl) rfl
       ·
        rintro ⟨j_11_11_f0_l, j_11_11_f1, j_11_10_f0_l, j_11_10_f1, j_11_111, j_11_11_f0_p, j_11_11_f0_c, j_11_11_f0_n, j_11_10_f0_p, j_11_10_f0_c, j_11_10_f0_n⟩ hE
        try dsimp only
        have hm := hLj_11
        rw [hE] at hm
        try dsimp only at hm
        refine wc_cond rfl (fun hb111 => ?_) (fun hb111 => ?_)
        ·
         replace hm := iteT hm hb111
         refine wc_keep [] (S' := []) rfl (wc_seq (wc_region (wP rfl (wl_nil (we_then (wc_ret (we_block_ret (we_then_ret (we_then_ret (we_block_ret (we_then_ret ?_)))))))))))
         have hE := (Option.some.inj hm).symm
         replace hE := link_inr hLu2 hE
         replace hE := link_inr hLj_9 hE
         replace hE := hE.symm
         subst hE
         refine ret_one (Hr := []) [] Tryz.results3 (res_tmp rfl) ⟨rfl, rfl, rfl⟩ (asK [] rfl) rfl rfl (.inl rfl)
        ·
         replace hm := iteF hm hb111
         refine wc_keep [17,11,10,3] (S' := [_,_,_,_]) rfl (wc_skip (we_block_normal (we_then (wc_region (wP rfl (wP rfl ?_))))))
         obtain ⟨hg90, hm⟩ := gd_some hm
         refine wl_as (d := 90) (v' := .int .i64 ((u2_17 + 1 : Nat) : Int)) (S' := [_,_,_,_,_]) rfl rfl (nat_add (a := u2_17) (b := 1) hg90) (wl_pure (S' := [_,_,_,_,_]) rfl rfl rfl rfl rfl (wl_nil ?_))
         have hE := (Option.some.inj hm).symm
         replace hE := link_inl hLu2 hE
         refine we_roundK (_, u2_17 + 1, j_11_11_f0_l, j_11_11_f1, j_11_10_f0_l, j_11_10_f1, j_11_11_f0_p, j_11_11_f0_c, j_11_11_f0_n, j_11_10_f0_p, j_11_10_f0_c, j_11_10_f0_n) (Nat.lt_succ_self _) hE [17,11,10,3] rfl (asK [0] rfl) rfl
     ·
      replace hm := iteF hm hb88
      refine wc_keep [11,10] (S' := [_,_]) rfl (wc_exit (we_then_exit (we_then_exit (we_block_hit ?_))))
      have hE := (Option.some.inj hm).symm
      replace hE := link_inr hLu2 hE
      refine we_join (u2_11_f0_l, u2_11_f1, u2_10_f0_l, u2_10_f1, u2_11_f0_p, u2_11_f0_c, u2_11_f0_n, u2_10_f0_p, u2_10_f0_c, u2_10_f0_n) hE [11,10] rfl (asK [] rfl) rfl
   ·
    rintro ⟨j_9_11_f0_l, j_9_11_f1, j_9_10_f0_l, j_9_10_f1, j_9_11_f0_p, j_9_11_f0_c, j_9_11_f0_n, j_9_10_f0_p, j_9_10_f0_c, j_9_10_f0_n⟩ hE
    try dsimp only
    have hm := link_inl hLj_9 hE
    try dsimp only at hm
    refine wc_seq (wc_region (wP rfl ?_))
    obtain ⟨v113, hc113, hm⟩ := bindO_some hm
    refine wC [2,3] [0,1] rfl fn_16 rfl (w_session_Table_All_s N j_3_10_g j_9_10_f0_p j_9_10_f0_n j_9_10_f0_c j_9_10_f0_l j_9_10_f1 _ hc113) (asK [] rfl) rfl (H' := [_,_]) rfl ?_
    rintro _ _ _ ⟨p113_0, c113_1, c113_2, rfl, rfl, rfl⟩
    refine wP rfl ?_
    obtain ⟨v115, hc115, hm⟩ := bindO_some hm
    refine wC [1,2] [0,3,4] rfl fn_16 rfl (w_session_Table_All_s N j_3_10_g j_9_10_f0_p j_9_10_f0_n j_9_10_f0_c j_9_10_f0_l j_9_10_f1 _ hc115) (asK [] rfl) rfl (H' := [_,_,_]) rfl ?_
    rintro _ _ _ ⟨p115_0, c115_1, c115_2, rfl, rfl, rfl⟩
    refine wP rfl (wP rfl (wl_nil (we_then (wc_keep [19,18,11,10] (S' := [_,_,_,_]) rfl (wc_seq (wc_region (wP rfl (wP rfl (wl_buildSlice rfl rfl rfl (freshS_eq rfl) rfl tE_50 tS_22 tZ_22 rfl (zs := [.slice none 0 0, .slice none 0 0]) (by kernel_rfl) rfl (out := [_,_]) rfl (fun g118 => (wl_treeLen 4 rfl (fun hzt8 _ => ?_))))))))))))
    subst hzt8
    refine wl_treeLen 1 rfl (fun hzt9 _ => ?_)
    subst hzt9
    refine wl_row (sz := 1) (m := 2) T_l_SessD.pair ([(v113, (p113_0, c113_1)), (v115, (p115_0, c115_1))]) 0 rfl (fun F w hφ => ⟨[.slice p113_0 v113.length c113_1],[.slice p115_0 v115.length c115_1], rfl, rfl, rfl, ⟨[.slice p115_0 v115.length c115_1],[], rfl, rfl, rfl, rfl⟩⟩) rfl (by decide) (H' := [_,_,_,_,_,_,_]) rfl (wl_sh [bagF T_l_SessD [] none, .own 22 1 T_l_SessD.pair (.slice (some ⟨g118,0, none⟩) 2 2) ([(v113, (p113_0, c113_1)), (v115, (p115_0, c115_1))]), treeF T_SessD 31 6 (.slice p115_0 v115.length c115_1) v115, .blk j_3_10_g [.slice j_9_10_f0_p j_9_10_f0_n j_9_10_f0_c, .int .i64 j_9_10_f1] 65, treeF T_SessD 31 6 (.slice j_9_10_f0_p j_9_10_f0_n j_9_10_f0_c) j_9_10_f0_l, treeF T_SessD 31 6 (.slice p113_0 v113.length c113_1) v113, .blk j_3_11_g [.slice j_9_11_f0_p j_9_11_f0_n j_9_11_f0_c, .int .i64 j_9_11_f1] 67, .own 31 6 R_SessD (.slice j_9_11_f0_p j_9_11_f0_n j_9_11_f0_c) j_9_11_f0_l] (fun _ h => h.bagNil T_l_SessD) (wl_pick [5,0,1,2,3,4,6,7] rfl (H' := [_,_,_,_,_,_,_,_]) rfl (wl_sh [bagF T_l_SessD ([(v113, (p113_0, c113_1))]) none, .own 22 1 T_l_SessD.pair (.slice (some ⟨g118,0, none⟩) 2 2) ([(v113, (p113_0, c113_1)), (v115, (p115_0, c115_1))]), treeF T_SessD 31 6 (.slice p115_0 v115.length c115_1) v115, .blk j_3_10_g [.slice j_9_10_f0_p j_9_10_f0_n j_9_10_f0_c, .int .i64 j_9_10_f1] 65, treeF T_SessD 31 6 (.slice j_9_10_f0_p j_9_10_f0_n j_9_10_f0_c) j_9_10_f0_l, .blk j_3_11_g [.slice j_9_11_f0_p j_9_11_f0_n j_9_11_f0_c, .int .i64 j_9_11_f1] 67, .own 31 6 R_SessD (.slice j_9_11_f0_p j_9_11_f0_n j_9_11_f0_c) j_9_11_f0_l] (fun _ h => Holds.bagPush (T := T_l_SessD) (x := v113) (r := (p113_0, c113_1)) (zs := []) (H := [bagF T_l_SessD [] none, .own 22 1 T_l_SessD.pair (.slice (some ⟨g118,0, none⟩) 2 2) ([(v113, (p113_0, c113_1)), (v115, (p115_0, c115_1))]), treeF T_SessD 31 6 (.slice p115_0 v115.length c115_1) v115, .blk j_3_10_g [.slice j_9_10_f0_p j_9_10_f0_n j_9_10_f0_c, .int .i64 j_9_10_f1] 65, treeF T_SessD 31 6 (.slice j_9_10_f0_p j_9_10_f0_n j_9_10_f0_c) j_9_10_f0_l, .blk j_3_11_g [.slice j_9_11_f0_p j_9_11_f0_n j_9_11_f0_c, .int .i64 j_9_11_f1] 67, .own 31 6 R_SessD (.slice j_9_11_f0_p j_9_11_f0_n j_9_11_f0_c) j_9_11_f0_l]) h 0 rfl) (wl_pick [2,0,1,3,4,5,6] rfl (H' := [_,_,_,_,_,_,_]) rfl (wl_sh [bagF T_l_SessD (([(v113, (p113_0, c113_1))]) ++ [(v115, (p115_0, c115_1))]) none, .own 22 1 T_l_SessD.pair (.slice (some ⟨g118,0, none⟩) 2 2) ([(v113, (p113_0, c113_1)), (v115, (p115_0, c115_1))]), .blk j_3_10_g [.slice j_9_10_f0_p j_9_10_f0_n j_9_10_f0_c, .int .i64 j_9_10_f1] 65, treeF T_SessD 31 6 (.slice j_9_10_f0_p j_9_10_f0_n j_9_10_f0_c) j_9_10_f0_l, .blk j_3_11_g [.slice j_9_11_f0_p j_9_11_f0_n j_9_11_f0_c, .int .i64 j_9_11_f1] 67, .own 31 6 R_SessD (.slice j_9_11_f0_p j_9_11_f0_n j_9_11_f0_c) j_9_11_f0_l] (fun _ h => Holds.bagPush (T := T_l_SessD) (x := v115) (r := (p115_0, c115_1)) (zs := [(v113, (p113_0, c113_1))]) (H := [bagF T_l_SessD ([(v113, (p113_0, c113_1))]) none, .own 22 1 T_l_SessD.pair (.slice (some ⟨g118,0, none⟩) 2 2) ([(v113, (p113_0, c113_1)), (v115, (p115_0, c115_1))]), .blk j_3_10_g [.slice j_9_10_f0_p j_9_10_f0_n j_9_10_f0_c, .int .i64 j_9_10_f1] 65, treeF T_SessD 31 6 (.slice j_9_10_f0_p j_9_10_f0_n j_9_10_f0_c) j_9_10_f0_l, .blk j_3_11_g [.slice j_9_11_f0_p j_9_11_f0_n j_9_11_f0_c, .int .i64 j_9_11_f1] 67, .own 31 6 R_SessD (.slice j_9_11_f0_p j_9_11_f0_n j_9_11_f0_c) j_9_11_f0_l]) h 0 rfl) (wl_hAs 0 (φ' := bagF T_l_SessD ([(v113, (p113_0, c113_1)), (v115, (p115_0, c115_1))]) none) rfl rfl (H' := [_,_,_,_,_,_]) rfl (wl_sh [treeF T_l_SessD 22 1 (.slice (some ⟨g118,0, none⟩) 2 2) ([v113, v115]), .blk j_3_10_g [.slice j_9_10_f0_p j_9_10_f0_n j_9_10_f0_c, .int .i64 j_9_10_f1] 65, treeF T_SessD 31 6 (.slice j_9_10_f0_p j_9_10_f0_n j_9_10_f0_c) j_9_10_f0_l, .blk j_3_11_g [.slice j_9_11_f0_p j_9_11_f0_n j_9_11_f0_c, .int .i64 j_9_11_f1] 67, .own 31 6 R_SessD (.slice j_9_11_f0_p j_9_11_f0_n j_9_11_f0_c) j_9_11_f0_l] (fun _ h => h.treeIn 1 0 rfl rfl rfl rfl) (wl_treeLen 0 rfl (fun hzt10 _ => (wl_at 0 (v' := .slice (some ⟨g118,0, none⟩) ([v113, v115].length) 2) rfl (by rw [hzt10]) (wl_hAs 0 (φ' := treeF T_l_SessD 22 1 (.slice (some ⟨g118,0, none⟩) ([v113, v115].length) 2) ([v113, v115])) rfl (by rw [hzt10]) (H' := [_,_,_,_,_]) rfl ?_)))))))))))
    obtain ⟨hap119, hm⟩ := gd_some hm
    refine wl_treeOut 0 rfl (fun zz119 hzz119 => (wC [1,0] [2,3,4,5] rfl fn_17 rfl (ap_ApartSessions (some ⟨g118,0, none⟩) ([v113, v115].length) 2 zz119 (by rw [pair_len hzz119]) (by rw [pair_len hzz119]; exact hap119.1) (fun z hz => hap119.2 z.1 (by rw [← hzz119]; exact List.mem_map_of_mem hz))) (asK [] rfl) rfl (H' := [_,_,_,_]) rfl ?_))
    rintro _ _ _ ⟨r6_119, r7_119, r19_119, r26_119, rfl, rfl, rfl⟩
    refine wl_drop 0 rfl (H' := [_,_,_,_,_,_,_]) rfl (wl_drop 0 rfl (H' := [_,_,_,_,_,_]) rfl (wl_drop 0 rfl (H' := [_,_,_,_,_]) rfl (wl_drop 0 rfl (H' := [_,_,_,_]) rfl (wP rfl (wP rfl (wP rfl ?_))))))
    obtain ⟨v123, hc123, hm⟩ := bindO_some hm
    refine wC [0,1,2,3] [] rfl fn_15 rfl (w_ropewalklaw27_alike_s N j_3_10_g j_9_10_f0_p j_9_10_f0_n j_9_10_f0_c j_9_10_f0_l j_9_10_f1 j_3_11_g j_9_11_f0_p j_9_11_f0_n j_9_11_f0_c j_9_11_f0_l j_9_11_f1 _ hc123) (asK [] rfl) rfl (H' := []) rfl ?_
    rintro _ _ _ ⟨rfl, rfl, rfl⟩
    refine wP rfl (wP rfl ?_)
    refine wl_split (d := 125) (S' := [_,_,_,_,_,_,_,_,_,_,_,_,_]) rfl rfl (fun hs125 => ?_) (fun hs125 => ?_)
    ·
     replace hm := iteT hm hs125
     obtain ⟨v126, hc126, hm⟩ := bindO_some hm
     refine wC [] [0,1,2,3] rfl fn_6 rfl (w_ropewalklaw27_awake_s N _ hc126) (asK [] rfl) rfl (H' := [_,_,_,_]) rfl ?_
     rintro _ _ _ ⟨rfl, rfl, rfl⟩
     refine wP rfl (wP rfl (wl_nil (we_then (wc_keep [8] (S' := [_]) rfl (wc_ret ?_)))))
     have hE := (Option.some.inj hm).symm
     replace hE := hE.symm
     subst hE
     refine ret_one (Hr := []) [] Tryz.results3 (res_tmp rfl) ⟨rfl, rfl, rfl⟩ (asK [] rfl) rfl rfl (.inl rfl)
    ·
     replace hm := iteF hm hs125
     refine wO rfl (wP rfl (wP rfl (wl_nil (we_then (wc_keep [8] (S' := [_]) rfl (wc_ret ?_))))))
     have hE := (Option.some.inj hm).symm
     replace hE := hE.symm
     subst hE
     refine ret_one (Hr := []) [] Tryz.results3 (res_tmp rfl) ⟨rfl, rfl, rfl⟩ (asK [] rfl) rfl rfl (.inl rfl)
end Go.Proofs.YtighbinghbnjhaaGreat
