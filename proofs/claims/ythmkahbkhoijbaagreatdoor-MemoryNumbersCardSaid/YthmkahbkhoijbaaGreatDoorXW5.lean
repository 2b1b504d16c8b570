import Derived.Test.YthmkahbkhoijbaaGreatDoorXW4
namespace Go.Proofs.YthmkahbkhoijbaaGreatDoor
open Go.RowKit
set_option maxRecDepth 100000
set_option maxHeartbeats 4000000
theorem w_ropewalklaw11_MemoryLives_s (N : Nat) (a0 : Int) (qp0 : Option Addr) (qc1 : Nat) (l1 : List FactD) (a2 : Bool) (qp2 : Option Addr) (qc3 : Nat) (l3 : List Ropewalklaw11_DoD) (o0 : Bool) (hm : m_ropewalklaw11_MemoryLives N a0 l1 a2 l3 = some o0) : Spec Tryz.prog 3 [.int .i64 a0, .slice qp0 l1.length qc1, .bool a2, .slice qp2 l3.length qc3] [.sli 3 R_FactD qp0 qc1 l1, .sli 4 R_Ropewalklaw11_DoD qp2 qc3 l3] [] (fun v Φr Hr => v = .bool o0 ∧ Φr = [] ∧ Hr = []) := by
 unfold m_ropewalklaw11_MemoryLives at hm
 refine spec_of Tryz.func3 rfl Tryz.ntmps3 rfl (S := [_,_,_,_]) rfl (fun C => (wc_seq (wc_region (wP rfl (wl_nil (we_then (wc_keep [0,1,2,3] (S' := [_,_,_,_]) rfl (wc_seq (wc_seq (wc_region (wP rfl (wN rfl tE_22 (wP rfl (wl_as (d := 22) (v' := .bool (decide (300 < l1.length))) (S' := [_,_,_,_,_,_]) rfl rfl (natgt (a := l1.length) (b := 300)) ?_))))))))))))))
 refine wl_nil (we_then (wc_keep [22,0,1,2,3] (S' := [_,_,_,_,_]) rfl ?_))
 refine wc_cond rfl (fun hb22 => ?_) (fun hb22 => ?_)
 ·
  replace hm := iteT hm hb22
  refine wc_keep [] (S' := []) rfl (wc_seq (wc_region ?_))
  obtain ⟨v23, hc23, hm⟩ := bindO_some hm
  refine wC [] [] rfl fn_5 rfl (w_ropewalklaw11_awake_s N _ hc23) (asK [] rfl) rfl (H' := []) rfl ?_
  rintro _ _ _ ⟨rfl, rfl, rfl⟩
  refine wP rfl (wl_nil (we_then (wc_keep [8] (S' := [_]) rfl (wc_ret (we_then_ret ?_)))))
  have hE := (Option.some.inj hm).symm
  replace hE := hE.symm
  subst hE
  refine ret_one (Hr := []) [] Tryz.results3 (res_tmp rfl) ⟨rfl, rfl, rfl⟩ (asK [] rfl) rfl rfl (.inl rfl)
 ·
  replace hm := iteF hm hb22
  refine wc_keep [0,1,2,3] (S' := [_,_,_,_]) rfl (wc_skip (we_then (wc_seq ?_)))
  obtain ⟨bj_1, hm, hLj_1⟩ := bindS_some hm
  refine wc_cut (σ := Unit) (fun _ => bj_1 = .inl ()) (fun _ => [(0, .int .i64 a0), (1, .slice qp0 l1.length qc1), (2, .bool a2), (3, .slice qp2 l3.length qc3)]) (fun _ => [.sli 3 R_FactD qp0 qc1 l1, .sli 4 R_Ropewalklaw11_DoD qp2 qc3 l3]) (fun _ => []) ?_ ?_
  ·
   refine wc_seq (wc_region (wP rfl (wl_nil (we_then (wc_block (wc_loop (σ := Nat × Nat) (fun (nu1, u1_9) => iter (m_ropewalklaw11_MemoryLives_L1 N l1) nu1 u1_9 = some bj_1) (fun (nu1, u1_9) => nu1) (fun (nu1, u1_9) => [(9, .int .i64 ((u1_9 : Nat) : Int)), (0, .int .i64 a0), (1, .slice qp0 l1.length qc1), (2, .bool a2), (3, .slice qp2 l3.length qc3)]) (fun (nu1, u1_9) => [.sli 3 R_FactD qp0 qc1 l1, .sli 4 R_Ropewalklaw11_DoD qp2 qc3 l3]) (fun (nu1, u1_9) => []) (N, 0) hm [9,0,1,2,3] rfl (asK [0,1] rfl) rfl (fun s_ hm => ?_)))))))
   obtain ⟨nu1, u1_9⟩ := s_
   try dsimp only at hm ⊢
   obtain ⟨mu1, bu1, hnu1, hq, hLu1⟩ := iter_some hm
   clear hm
   subst hnu1
   replace hm := hq
   clear hq
   unfold m_ropewalklaw11_MemoryLives_L1 at hm
   try dsimp only at hm
   refine wc_seq (wc_seq (wc_region (wP rfl (wP rfl (wN rfl tE_22 (wP rfl (wl_as (d := 27) (v' := .bool (decide (u1_9 < l1.length))) (S' := [_,_,_,_,_,_,_,_]) rfl rfl (natlt (a := u1_9) (b := l1.length)) (wl_nil (we_then (wc_keep [27,9,0,1,2,3] (S' := [_,_,_,_,_,_]) rfl ?_))))))))))
   refine wc_cond rfl (fun hb27 => ?_) (fun hb27 => ?_)
   ·
    replace hm := iteT hm hb27
    refine wc_keep [9,0,1,2,3] (S' := [_,_,_,_,_]) rfl (wc_skip (we_then (wc_seq (wc_block (wc_seq (wc_region (wP rfl (wP rfl ?_))))))))
    obtain ⟨x32, hx32, hm⟩ := bindO_some hm
    refine wl_indexA 0 u1_9 rfl rfl rfl (freshS_eq rfl) rfl rfl rfl rfl rfl hx32 tE_22 tS_27 (fun b32 q32 cs32 hlx32 => (wl_open R_FactD_opens 1 rfl (fun r32 er32 _ => ?_)))
    subst er32
    refine wF rfl tF_27_2 (wl_load 1 2 rfl rfl rfl (freshS_eq rfl) rfl rfl rfl (cs := [_]) rfl tS_25 tA_25 rfl rfl (wN rfl tE_25 (wP rfl (wl_as (d := 36) (v' := .bool (decide (20 < x32.args.length))) (S' := [_,_,_,_,_,_,_,_,_,_,_]) rfl rfl (natgt (a := x32.args.length) (b := 20)) (wl_nil (we_then (wc_keep [36,9,0,1,2,3] (S' := [_,_,_,_,_,_]) rfl ?_)))))))
    refine wc_cond rfl (fun hb36 => ?_) (fun hb36 => ?_)
    ·
     replace hm := iteT hm hb36
     refine wc_keep [] (S' := []) rfl (wc_seq (wc_region ?_))
     obtain ⟨v37, hc37, hm⟩ := bindO_some hm
     refine wC [] [] rfl fn_5 rfl (w_ropewalklaw11_awake_s N _ hc37) (asK [] rfl) rfl (H' := []) rfl ?_
     rintro _ _ _ ⟨rfl, rfl, rfl⟩
     refine wP rfl (wl_nil (we_then (wc_keep [8] (S' := [_]) rfl (wc_ret (we_block_ret (we_then_ret (we_then_ret (we_block_ret (we_then_ret ?_)))))))))
     have hE := (Option.some.inj hm).symm
     replace hE := link_inr hLu1 hE
     replace hE := link_inr hLj_1 hE
     replace hE := hE.symm
     subst hE
     refine ret_one (Hr := []) [] Tryz.results3 (res_tmp rfl) ⟨rfl, rfl, rfl⟩ (asK [] rfl) rfl rfl (.inl rfl)
    ·
     replace hm := iteF hm hb36
     refine wc_keep [9,0,1,2,3] (S' := [_,_,_,_,_]) rfl (wc_skip (we_block_normal (we_then (wc_region (wP rfl (wP rfl ?_))))))
     obtain ⟨hg29, hm⟩ := gd_some hm
     refine wl_as (d := 29) (v' := .int .i64 ((u1_9 + 1 : Nat) : Int)) (S' := [_,_,_,_,_,_]) rfl rfl (nat_add (a := u1_9) (b := 1) hg29) (wl_pure (S' := [_,_,_,_,_,_]) rfl rfl rfl rfl rfl (wl_nil ?_))
     have hE := (Option.some.inj hm).symm
     replace hE := link_inl hLu1 hE
     refine we_roundK (_, u1_9 + 1) (Nat.lt_succ_self _) hE [9,0,1,2,3] rfl (asK [3,4] rfl) rfl
   ·
    replace hm := iteF hm hb27
    refine wc_keep [0,1,2,3] (S' := [_,_,_,_]) rfl (wc_exit (we_then_exit (we_then_exit (we_block_hit ?_))))
    have hE := (Option.some.inj hm).symm
    replace hE := link_inr hLu1 hE
    refine we_join () hE [0,1,2,3] rfl (asK [0,1] rfl) rfl
  ·
   rintro _ hE
   try dsimp only
   have hm := link_inl hLj_1 hE
   try dsimp only at hm
   refine wc_seq (wc_region ?_)
   obtain ⟨_, hc38, hm⟩ := bindO_some hm
   try dsimp only at hm
   refine wC [] [] rfl fn_6 rfl (w_memory_New_s N  hc38) (asK [] rfl) rfl (H' := []) rfl ?_
   rintro _ _ _ ⟨c38_0, rfl, rfl, rfl⟩
   obtain ⟨_, hc39, hm⟩ := bindO_some hm
   try dsimp only at hm
   refine wC [] [0] rfl fn_7 rfl (w_ropewalkref11_New_s N  hc39) (asK [] rfl) rfl (H' := [_]) rfl ?_
   rintro _ _ _ ⟨c39_0, rfl, rfl, rfl⟩
   refine wP rfl (wP rfl (wl_nil (we_then (wc_keep [11,10,0,1,2,3] (S' := [_,_,_,_,_,_]) rfl (wc_seq ?_)))))
   obtain ⟨bj_2, hm, hLj_2⟩ := bindS_some hm
   unfold m_ropewalklaw11_MemoryLives_C2 at hm
   refine wc_cut (σ := (List FactD) × Int × (List FactD) × Int × Nat × (Option Addr) × Nat × Nat × Nat × (Option Addr) × Nat × Nat) (fun (j_2_11_f0_l, j_2_11_f1, j_2_10_f0_l, j_2_10_f1, j_2_11_g, j_2_11_f0_p, j_2_11_f0_c, j_2_11_f0_n, j_2_10_g, j_2_10_f0_p, j_2_10_f0_c, j_2_10_f0_n) => bj_2 = .inl (j_2_11_f0_l, j_2_11_f1, j_2_10_f0_l, j_2_10_f1)) (fun (j_2_11_f0_l, j_2_11_f1, j_2_10_f0_l, j_2_10_f1, j_2_11_g, j_2_11_f0_p, j_2_11_f0_c, j_2_11_f0_n, j_2_10_g, j_2_10_f0_p, j_2_10_f0_c, j_2_10_f0_n) => [(11, .pointer (some ⟨j_2_11_g, 0, none⟩)), (10, .pointer (some ⟨j_2_10_g, 0, none⟩)), (3, .slice qp2 l3.length qc3)]) (fun (j_2_11_f0_l, j_2_11_f1, j_2_10_f0_l, j_2_10_f1, j_2_11_g, j_2_11_f0_p, j_2_11_f0_c, j_2_11_f0_n, j_2_10_g, j_2_10_f0_p, j_2_10_f0_c, j_2_10_f0_n) => [.sli 4 R_Ropewalklaw11_DoD qp2 qc3 l3]) (fun (j_2_11_f0_l, j_2_11_f1, j_2_10_f0_l, j_2_10_f1, j_2_11_g, j_2_11_f0_p, j_2_11_f0_c, j_2_11_f0_n, j_2_10_g, j_2_10_f0_p, j_2_10_f0_c, j_2_10_f0_n) => [.blk j_2_11_g [.slice j_2_11_f0_p j_2_11_f0_n j_2_11_f0_c, .int .i64 j_2_11_f1] 63, .own 27 3 R_FactD (.slice j_2_11_f0_p j_2_11_f0_n j_2_11_f0_c) j_2_11_f0_l, .blk j_2_10_g [.slice j_2_10_f0_p j_2_10_f0_n j_2_10_f0_c, .int .i64 j_2_10_f1] 61, .own 27 3 R_FactD (.slice j_2_10_f0_p j_2_10_f0_n j_2_10_f0_c) j_2_10_f0_l]) ?_ ?_
   ·
    refine wc_seq (wc_region (wP rfl (wl_nil (we_then (wc_keep [40,11,10,0,1,3] (S' := [_,_,_,_,_,_]) rfl ?_)))))
    refine wc_cond rfl (fun hb40 => ?_) (fun hb40 => ?_)
    ·
     replace hm := iteT hm hb40
     refine wc_keep [0,1,3] (S' := [_,_,_]) rfl (wc_seq (wc_region (wP rfl ?_)))
     obtain ⟨v42, hc42, hm⟩ := bindO_some hm
     refine wC [] [0,1] rfl fn_8 rfl (w_ropewalkkit_LentFacts_s N qp0 qc1 l1 _ hc42) (asK [0] rfl) rfl (H' := [_,_]) rfl ?_
     rintro _ _ _ ⟨p42_0, c42_1, c42_2, rfl, rfl, rfl⟩
     refine wP rfl (wl_nil (we_then (wc_keep [12,0,1,3] (S' := [_,_,_,_]) rfl (wc_seq (wc_region (wP rfl (wP rfl (wl_treeLen 0 rfl (fun hzt4 _ => ?_)))))))))
     subst hzt4
     obtain ⟨_ | v46, hc46, hm⟩ := bindO_some hm
     ·
      try dsimp only at hm
      refine wC [0] [1,2] rfl fn_9 rfl (w_memory_Of_V_s0 N a0 p42_0 v42.length c42_1 v42 l1.length hc46) (asK [] rfl) rfl (H' := [_,_]) rfl ?_
      rintro _ _ _ ⟨rfl, rfl, rfl⟩
      refine wP rfl (wP rfl (wP rfl (wP rfl (wP rfl (wl_nil (we_then (wc_keep [14,13,12,0,1,3] (S' := [_,_,_,_,_,_]) rfl (wc_seq (wc_region (wP rfl (wP rfl ?_)))))))))))
      obtain ⟨_ | v52, hc52, hm⟩ := bindO_some hm
      ·
       try dsimp only at hm
       refine wC [] [0,1,2] rfl fn_10 rfl (w_ropewalkref11_Of_s0 N a0 qp0 qc1 l1 hc52) (asK [0] rfl) rfl (H' := [_,_,_]) rfl ?_
       rintro _ _ _ ⟨rfl, rfl, rfl⟩
       refine wP rfl (wP rfl (wP rfl (wP rfl (wP rfl (wl_nil (we_then (wc_keep [16,15,14,13,12,1,3] (S' := [_,_,_,_,_,_,_]) rfl (wc_seq (wc_seq ?_)))))))))
       obtain ⟨bj_5, hm, hLj_5⟩ := bindO_some hm
       refine wc_cut (σ := Bool) (fun j_5_70 => bj_5 = j_5_70) (fun j_5_70 => [(15, .pointer none), (14, .int .i64 4), (13, .pointer none), (12, .slice p42_0 l1.length c42_1), (3, .slice qp2 l3.length qc3), (70, .bool j_5_70)]) (fun j_5_70 => [.sli 4 R_Ropewalklaw11_DoD qp2 qc3 l3]) (fun j_5_70 => [treeF TS_FactD 27 3 (.slice p42_0 v42.length c42_1) v42]) ?_ ?_
       ·
        refine wc_region (wP rfl (wP rfl (wP rfl (wl_as (d := 57) (v' := .bool false) (S' := [_,_,_,_,_,_,_,_,_]) rfl rfl rfl (wP rfl (wP rfl (wP rfl ?_)))))))
        obtain ⟨v61, hc61, hm⟩ := bindO_some hm
        refine wl_lend [] [0,1,2] [0] rfl rfl rfl (freshS_eq rfl) rfl rfl fn_11 rfl (w_ropewalkkit_KeptFacts_W_s N p42_0 c42_1 v42 l1.length qp0 qc1 l1 _ hc61) (fun F w hφ hh => (ask_cons (tree_sli TS_FactD_lendS (hh _ (mem_at (k := 0) rfl)) (fun _ h => h) (fun _ h => h)) (ask_cons (hφ _ (mem_at (k := 0) rfl)) ask_nil))) (fun _ _ _ hR => by obtain ⟨rfl, rfl, rfl⟩ := hR; exact ⟨rfl, (fun _ h => free_nil h)⟩) rfl rfl (H' := [_,_,_]) rfl ?_
        rintro _ _ _ ⟨rfl, rfl, rfl⟩
        refine wP rfl (wP rfl (wP rfl ?_))
        refine wl_split (d := 64) (S' := [_,_,_,_,_,_,_,_,_,_,_,_,_,_,_,_]) rfl rfl (fun hs64 => ?_) (fun hs64 => ?_)
        ·
         replace hm := iteT hm hs64
         refine wO rfl (wO rfl (wO rfl (wO rfl (wO rfl (wP rfl (wl_nil ?_))))))
         have hE := (Option.some.inj hm).symm
         refine we_pick [0] rfl (H' := [_]) rfl ?_
         refine we_join true hE [15,14,13,12,3,70] rfl (asK [1] rfl) rfl
        ·
         replace hm := iteF hm hs64
         refine wP rfl (wl_bin rfl rfl rfl (freshS_eq rfl) rfl rfl rfl (neqP tQ_28 _ _ _) (wP rfl (wP rfl (wl_as (d := 68) (v' := .bool false) (S' := [_,_,_,_,_,_,_,_,_,_,_,_,_,_,_,_,_,_,_,_]) rfl rfl rfl (wl_bin rfl rfl rfl (freshS_eq rfl) rfl rfl rfl (neqB _ _ false false) (wP rfl (wl_nil ?_)))))))
         have hE := (Option.some.inj hm).symm
         refine we_pick [0] rfl (H' := [_]) rfl ?_
         refine we_join (false != false) hE [15,14,13,12,3,70] rfl (asK [1] rfl) rfl
       ·
        rintro j_5_70 hE
        try dsimp only
        have hm := hLj_5
        rw [hE] at hm
        refine wc_cond rfl (fun hb70 => ?_) (fun hb70 => ?_)
        ·
         replace hm := iteT hm hb70
         refine wc_keep [] (S' := []) rfl (wc_seq (wc_region (wP rfl (wl_nil (we_then (wc_ret (we_then_ret (we_then_ret ?_))))))))
         have hE := (Option.some.inj hm).symm
         replace hE := link_inr hLj_2 hE
         replace hE := hE.symm
         subst hE
         refine ret_one (Hr := []) [] Tryz.results3 (res_tmp rfl) ⟨rfl, rfl, rfl⟩ (asK [] rfl) rfl rfl (.inl rfl)
        ·
         replace hm := iteF hm hb70
         refine wc_keep [15,14,13,12,3] (S' := [_,_,_,_,_]) rfl (wc_skip (we_then (wc_seq (wc_seq (wc_region (wP rfl (wP rfl (wl_as (d := 72) (v' := .bool true) (S' := [_,_,_,_,_,_]) rfl rfl rfl (wP rfl (wO rfl (wO rfl (wP rfl (wl_nil ?_)))))))))))))
         refine we_then (wc_keep [76,15,13,12,3] (S' := [_,_,_,_,_]) rfl (wc_true rfl (wc_keep [] (S' := []) rfl (wc_seq (wc_region ?_)))))
         obtain ⟨v77, hc77, hm⟩ := bindO_some hm
         refine wC [] [0] rfl fn_5 rfl (w_ropewalklaw11_awake_s N _ hc77) (asK [] rfl) rfl (H' := [_]) rfl ?_
         rintro _ _ _ ⟨rfl, rfl, rfl⟩
         refine wP rfl (wl_nil (we_then (wc_keep [8] (S' := [_]) rfl (wc_ret (we_then_ret (we_then_ret ?_))))))
         have hE := (Option.some.inj hm).symm
         replace hE := link_inr hLj_2 hE
         replace hE := hE.symm
         subst hE
         refine ret_one (Hr := []) [] Tryz.results3 (res_tmp rfl) ⟨rfl, rfl, rfl⟩ (asK [] rfl) rfl rfl (.inl rfl)
      ·
       try dsimp only at hm
       refine wC [] [0,1,2] rfl fn_10 rfl (w_ropewalkref11_Of_s1 N a0 qp0 qc1 l1 _ hc52) (asK [0] rfl) rfl (H' := [_,_,_]) rfl ?_
       rintro _ _ _ ⟨c52_0, p52_1, c52_2, c52_3, rfl, rfl, rfl⟩
       refine wP rfl (wP rfl (wP rfl (wP rfl (wP rfl (wl_nil (we_then (wc_keep [16,15,14,13,12,1,3] (S' := [_,_,_,_,_,_,_]) rfl (wc_seq (wc_seq (wc_region (wP rfl (wP rfl (wP rfl ?_)))))))))))))
       refine wl_as (d := 57) (v' := .bool true) (S' := [_,_,_,_,_,_,_,_,_]) rfl rfl rfl (wP rfl (wO rfl (wO rfl (wO rfl (wO rfl (wP rfl (wP rfl (wO rfl (wO rfl (wO rfl (wO rfl (wO rfl (wP rfl ?_)))))))))))))
       refine wl_nil (we_then (wc_keep [70,15,14,13,12,3] (S' := [_,_,_,_,_,_]) rfl (wc_true rfl (wc_keep [] (S' := []) rfl (wc_seq (wc_region (wP rfl (wl_nil (we_then (wc_ret (we_then_ret (we_then_ret ?_))))))))))))
       have hE := (Option.some.inj hm).symm
       replace hE := link_inr hLj_2 hE
       replace hE := hE.symm
       subst hE
       refine ret_one (Hr := []) [] Tryz.results3 (res_tmp rfl) ⟨rfl, rfl, rfl⟩ (asK [] rfl) rfl rfl (.inl rfl)
     ·
      try dsimp only at hm
      refine wC [0] [1,2] rfl fn_9 rfl (w_memory_Of_V_s1 N a0 p42_0 v42.length c42_1 v42 l1.length _ hc46) (asK [] rfl) rfl (H' := [_,_]) rfl ?_
      rintro _ _ _ ⟨c46_0, p46_1, c46_2, c46_3, rfl, rfl, rfl⟩
      refine wP rfl (wP rfl (wP rfl (wP rfl (wP rfl (wl_nil (we_then (wc_keep [14,13,12,0,1,3] (S' := [_,_,_,_,_,_]) rfl (wc_seq (wc_region (wP rfl (wP rfl ?_)))))))))))
      obtain ⟨_ | v52, hc52, hm⟩ := bindO_some hm
      ·
       try dsimp only at hm
       refine wC [] [0,1,2,3,4] rfl fn_10 rfl (w_ropewalkref11_Of_s0 N a0 qp0 qc1 l1 hc52) (asK [0] rfl) rfl (H' := [_,_,_,_,_]) rfl ?_
       rintro _ _ _ ⟨rfl, rfl, rfl⟩
       refine wP rfl (wP rfl (wP rfl (wP rfl (wP rfl (wl_nil (we_then (wc_keep [16,15,14,13,12,1,3] (S' := [_,_,_,_,_,_,_]) rfl (wc_seq (wc_seq (wc_region (wP rfl (wP rfl (wP rfl ?_)))))))))))))
       refine wl_as (d := 57) (v' := .bool true) (S' := [_,_,_,_,_,_,_,_,_]) rfl rfl rfl (wP rfl (wO rfl (wO rfl (wO rfl (wO rfl (wP rfl (wP rfl (wO rfl (wO rfl (wO rfl (wO rfl (wO rfl (wP rfl ?_)))))))))))))
       refine wl_nil (we_then (wc_keep [70,15,14,13,12,3] (S' := [_,_,_,_,_,_]) rfl (wc_true rfl (wc_keep [] (S' := []) rfl (wc_seq (wc_region (wP rfl (wl_nil (we_then (wc_ret (we_then_ret (we_then_ret ?_))))))))))))
       have hE := (Option.some.inj hm).symm
       replace hE := link_inr hLj_2 hE
       replace hE := hE.symm
       subst hE
       refine ret_one (Hr := []) [] Tryz.results3 (res_tmp rfl) ⟨rfl, rfl, rfl⟩ (asK [] rfl) rfl rfl (.inl rfl)
      ·
       try dsimp only at hm
       refine wC [] [0,1,2,3,4] rfl fn_10 rfl (w_ropewalkref11_Of_s1 N a0 qp0 qc1 l1 _ hc52) (asK [0] rfl) rfl (H' := [_,_,_,_,_]) rfl ?_
       rintro _ _ _ ⟨c52_0, p52_1, c52_2, c52_3, rfl, rfl, rfl⟩
       refine wP rfl (wP rfl (wP rfl (wP rfl (wP rfl (wl_nil (we_then (wc_keep [16,15,14,13,12,1,3] (S' := [_,_,_,_,_,_,_]) rfl (wc_seq (wc_seq ?_)))))))))
       obtain ⟨bj_7, hm, hLj_7⟩ := bindO_some hm
       refine wc_cut (σ := Bool) (fun j_7_70 => bj_7 = j_7_70) (fun j_7_70 => [(15, .pointer (some ⟨c52_0,0, none⟩)), (14, .int .i64 0), (13, .pointer (some ⟨c46_0,0, none⟩)), (12, .slice p42_0 l1.length c42_1), (3, .slice qp2 l3.length qc3), (70, .bool j_7_70)]) (fun j_7_70 => [.sli 4 R_Ropewalklaw11_DoD qp2 qc3 l3]) (fun j_7_70 => [.blk c52_0 [.slice p52_1 c52_3 c52_2, .int .i64 a0] 63, .own 27 3 R_FactD (.slice p52_1 c52_3 c52_2) v52, .blk c46_0 [.slice p46_1 c46_3 c46_2, .int .i64 a0] 61, .own 27 3 R_FactD (.slice p46_1 c46_3 c46_2) v46, treeF TS_FactD 27 3 (.slice p42_0 v42.length c42_1) v42]) ?_ ?_
       ·
        refine wc_region (wP rfl (wP rfl (wP rfl (wl_as (d := 57) (v' := .bool false) (S' := [_,_,_,_,_,_,_,_,_]) rfl rfl rfl (wP rfl (wP rfl (wP rfl ?_)))))))
        obtain ⟨v61, hc61, hm⟩ := bindO_some hm
        refine wl_lend [] [0,1,2,3,4,5,6] [4] rfl rfl rfl (freshS_eq rfl) rfl rfl fn_11 rfl (w_ropewalkkit_KeptFacts_W_s N p42_0 c42_1 v42 l1.length qp0 qc1 l1 _ hc61) (fun F w hφ hh => (ask_cons (tree_sli TS_FactD_lendS (hh _ (mem_at (k := 0) rfl)) (fun _ h => h) (fun _ h => h)) (ask_cons (hφ _ (mem_at (k := 0) rfl)) ask_nil))) (fun _ _ _ hR => by obtain ⟨rfl, rfl, rfl⟩ := hR; exact ⟨rfl, (fun _ h => free_nil h)⟩) rfl rfl (H' := [_,_,_,_,_,_,_]) rfl ?_
        rintro _ _ _ ⟨rfl, rfl, rfl⟩
        refine wP rfl (wP rfl (wP rfl ?_))
        refine wl_split (d := 64) (S' := [_,_,_,_,_,_,_,_,_,_,_,_,_,_,_,_]) rfl rfl (fun hs64 => ?_) (fun hs64 => ?_)
        ·
         replace hm := iteT hm hs64
         refine wO rfl (wO rfl (wO rfl (wO rfl (wO rfl (wP rfl (wl_nil ?_))))))
         have hE := (Option.some.inj hm).symm
         refine we_pick [0,1,2,3,4] rfl (H' := [_,_,_,_,_]) rfl ?_
         refine we_join true hE [15,14,13,12,3,70] rfl (asK [1] rfl) rfl
        ·
         replace hm := iteF hm hs64
         refine wP rfl (wl_bin rfl rfl rfl (freshS_eq rfl) rfl rfl rfl (neqP tQ_28 _ _ _) (wP rfl (wP rfl (wl_as (d := 68) (v' := .bool true) (S' := [_,_,_,_,_,_,_,_,_,_,_,_,_,_,_,_,_,_,_,_]) rfl rfl rfl (wl_bin rfl rfl rfl (freshS_eq rfl) rfl rfl rfl (neqB _ _ true true) (wP rfl (wl_nil ?_)))))))
         have hE := (Option.some.inj hm).symm
         refine we_pick [0,1,2,3,4] rfl (H' := [_,_,_,_,_]) rfl ?_
         refine we_join (true != true) hE [15,14,13,12,3,70] rfl (asK [1] rfl) rfl
       ·
        rintro j_7_70 hE
        try dsimp only
        have hm := hLj_7
        rw [hE] at hm
        refine wc_cond rfl (fun hb70 => ?_) (fun hb70 => ?_)
        ·
         replace hm := iteT hm hb70
         refine wc_keep [] (S' := []) rfl (wc_seq (wc_region (wP rfl (wl_nil (we_then (wc_ret (we_then_ret (we_then_ret ?_))))))))
         have hE := (Option.some.inj hm).symm
         replace hE := link_inr hLj_2 hE
         replace hE := hE.symm
         subst hE
         refine ret_one (Hr := []) [] Tryz.results3 (res_tmp rfl) ⟨rfl, rfl, rfl⟩ (asK [] rfl) rfl rfl (.inl rfl)
        ·
         replace hm := iteF hm hb70
         refine wc_keep [15,14,13,12,3] (S' := [_,_,_,_,_]) rfl (wc_skip (we_then (wc_seq (wc_seq (wc_region (wP rfl (wP rfl (wl_as (d := 72) (v' := .bool false) (S' := [_,_,_,_,_,_]) rfl rfl rfl (wP rfl (wP rfl (wl_bin rfl rfl rfl (freshS_eq rfl) rfl rfl rfl (eqlP tQ_28 _ _ _) (wP rfl (wl_nil ?_)))))))))))))
         refine we_then (wc_keep [76,15,13,12,3] (S' := [_,_,_,_,_]) rfl (wc_false rfl (wc_keep [15,13,12,3] (S' := [_,_,_,_]) rfl (wc_skip (we_then (wc_seq (wc_region (wP rfl ?_))))))))
         obtain ⟨v79, hc79, hm⟩ := bindO_some hm
         refine wC [4] [0,1,2,3] rfl fn_12 rfl (w_ropewalkkit_OverFacts_V_s N p42_0 v42.length c42_1 v42 l1.length _ hc79) (asK [] rfl) rfl (H' := [_,_,_,_]) rfl ?_
         rintro _ _ _ ⟨rfl, rfl, rfl⟩
         refine wl_nil (we_then (wc_keep [15,13,3] (S' := [_,_,_]) rfl (wc_region (wP rfl (wP rfl (wP rfl (wP rfl (wl_nil ?_))))))))
         have hE := (Option.some.inj hm).symm
         refine we_pick [1,2,3,4] rfl (H' := [_,_,_,_]) rfl ?_
         refine we_join (v52, a0, v46, a0, c52_0, p52_1, c52_2, c52_3, c46_0, p46_1, c46_2, c46_3) hE [11,10,3] rfl (asK [0] rfl) rfl
    ·
     replace hm := iteF hm hb40
     refine wc_keep [11,10,3] (S' := [_,_,_]) rfl (wc_skip ?_)
     have hE := (Option.some.inj hm).symm
     refine we_rowNil 27 3 R_FactD (we_rowNil 27 3 R_FactD (we_pick [2,1,3,0] rfl (H' := [_,_,_,_]) rfl ?_))
     refine we_join ([],1,[],1, c39_0, none, 0,0, c38_0, none, 0,0) hE [11,10,3] rfl (asK [1] rfl) rfl
   ·
    rintro ⟨j_2_11_f0_l, j_2_11_f1, j_2_10_f0_l, j_2_10_f1, j_2_11_g, j_2_11_f0_p, j_2_11_f0_c, j_2_11_f0_n, j_2_10_g, j_2_10_f0_p, j_2_10_f0_c, j_2_10_f0_n⟩ hE
    try dsimp only
    have hm := link_inl hLj_2 hE
    try dsimp only at hm
    refine wc_seq ?_
    obtain ⟨bj_8, hm, hLj_8⟩ := bindS_some hm
    refine wc_cut (σ := (List FactD) × Int × (List FactD) × Int × (Option Addr) × Nat × Nat × (Option Addr) × Nat × Nat) (fun (j_8_11_f0_l, j_8_11_f1, j_8_10_f0_l, j_8_10_f1, j_8_11_f0_p, j_8_11_f0_c, j_8_11_f0_n, j_8_10_f0_p, j_8_10_f0_c, j_8_10_f0_n) => bj_8 = .inl (j_8_11_f0_l, j_8_11_f1, j_8_10_f0_l, j_8_10_f1)) (fun (j_8_11_f0_l, j_8_11_f1, j_8_10_f0_l, j_8_10_f1, j_8_11_f0_p, j_8_11_f0_c, j_8_11_f0_n, j_8_10_f0_p, j_8_10_f0_c, j_8_10_f0_n) => [(11, .pointer (some ⟨j_2_11_g, 0, none⟩)), (10, .pointer (some ⟨j_2_10_g, 0, none⟩))]) (fun (j_8_11_f0_l, j_8_11_f1, j_8_10_f0_l, j_8_10_f1, j_8_11_f0_p, j_8_11_f0_c, j_8_11_f0_n, j_8_10_f0_p, j_8_10_f0_c, j_8_10_f0_n) => []) (fun (j_8_11_f0_l, j_8_11_f1, j_8_10_f0_l, j_8_10_f1, j_8_11_f0_p, j_8_11_f0_c, j_8_11_f0_n, j_8_10_f0_p, j_8_10_f0_c, j_8_10_f0_n) => [.blk j_2_11_g [.slice j_8_11_f0_p j_8_11_f0_n j_8_11_f0_c, .int .i64 j_8_11_f1] 63, .own 27 3 R_FactD (.slice j_8_11_f0_p j_8_11_f0_n j_8_11_f0_c) j_8_11_f0_l, .blk j_2_10_g [.slice j_8_10_f0_p j_8_10_f0_n j_8_10_f0_c, .int .i64 j_8_10_f1] 61, .own 27 3 R_FactD (.slice j_8_10_f0_p j_8_10_f0_n j_8_10_f0_c) j_8_10_f0_l]) ?_ ?_
    ·
     refine wc_seq (wc_region (wP rfl (wl_nil (we_then (wc_block (wc_loop (σ := Nat × Nat × (List FactD) × Int × (List FactD) × Int × (Option Addr) × Nat × Nat × (Option Addr) × Nat × Nat) (fun (nu2, u2_17, u2_11_f0_l, u2_11_f1, u2_10_f0_l, u2_10_f1, u2_11_f0_p, u2_11_f0_c, u2_11_f0_n, u2_10_f0_p, u2_10_f0_c, u2_10_f0_n) => iter (m_ropewalklaw11_MemoryLives_L2 N l3) nu2 (u2_17, u2_11_f0_l, u2_11_f1, u2_10_f0_l, u2_10_f1) = some bj_8) (fun (nu2, u2_17, u2_11_f0_l, u2_11_f1, u2_10_f0_l, u2_10_f1, u2_11_f0_p, u2_11_f0_c, u2_11_f0_n, u2_10_f0_p, u2_10_f0_c, u2_10_f0_n) => nu2) (fun (nu2, u2_17, u2_11_f0_l, u2_11_f1, u2_10_f0_l, u2_10_f1, u2_11_f0_p, u2_11_f0_c, u2_11_f0_n, u2_10_f0_p, u2_10_f0_c, u2_10_f0_n) => [(17, .int .i64 ((u2_17 : Nat) : Int)), (11, .pointer (some ⟨j_2_11_g, 0, none⟩)), (10, .pointer (some ⟨j_2_10_g, 0, none⟩)), (3, .slice qp2 l3.length qc3)]) (fun (nu2, u2_17, u2_11_f0_l, u2_11_f1, u2_10_f0_l, u2_10_f1, u2_11_f0_p, u2_11_f0_c, u2_11_f0_n, u2_10_f0_p, u2_10_f0_c, u2_10_f0_n) => [.sli 4 R_Ropewalklaw11_DoD qp2 qc3 l3]) (fun (nu2, u2_17, u2_11_f0_l, u2_11_f1, u2_10_f0_l, u2_10_f1, u2_11_f0_p, u2_11_f0_c, u2_11_f0_n, u2_10_f0_p, u2_10_f0_c, u2_10_f0_n) => [.blk j_2_11_g [.slice u2_11_f0_p u2_11_f0_n u2_11_f0_c, .int .i64 u2_11_f1] 63, .own 27 3 R_FactD (.slice u2_11_f0_p u2_11_f0_n u2_11_f0_c) u2_11_f0_l, .blk j_2_10_g [.slice u2_10_f0_p u2_10_f0_n u2_10_f0_c, .int .i64 u2_10_f1] 61, .own 27 3 R_FactD (.slice u2_10_f0_p u2_10_f0_n u2_10_f0_c) u2_10_f0_l]) (N, 0, j_2_11_f0_l, j_2_11_f1, j_2_10_f0_l, j_2_10_f1, j_2_11_f0_p, j_2_11_f0_c, j_2_11_f0_n, j_2_10_f0_p, j_2_10_f0_c, j_2_10_f0_n) hm [17,11,10,3] rfl (asK [0] rfl) rfl (fun s_ hm => ?_)))))))
     obtain ⟨nu2, u2_17, u2_11_f0_l, u2_11_f1, u2_10_f0_l, u2_10_f1, u2_11_f0_p, u2_11_f0_c, u2_11_f0_n, u2_10_f0_p, u2_10_f0_c, u2_10_f0_n⟩ := s_
     try dsimp only at hm ⊢
     obtain ⟨mu2, bu2, hnu2, hq, hLu2⟩ := iter_some hm
     clear hm
     subst hnu2
     replace hm := hq
     clear hq
     unfold m_ropewalklaw11_MemoryLives_L2 at hm
     try dsimp only at hm
     refine wc_seq (wc_seq ?_)
     obtain ⟨bj_9, hm, hLj_9⟩ := bindO_some hm
     refine wc_cut (σ := Bool) (fun j_9_89 => bj_9 = j_9_89) (fun j_9_89 => [(17, .int .i64 ((u2_17 : Nat) : Int)), (11, .pointer (some ⟨j_2_11_g, 0, none⟩)), (10, .pointer (some ⟨j_2_10_g, 0, none⟩)), (3, .slice qp2 l3.length qc3), (89, .bool j_9_89)]) (fun j_9_89 => [.sli 4 R_Ropewalklaw11_DoD qp2 qc3 l3]) (fun j_9_89 => [.blk j_2_11_g [.slice u2_11_f0_p u2_11_f0_n u2_11_f0_c, .int .i64 u2_11_f1] 63, .own 27 3 R_FactD (.slice u2_11_f0_p u2_11_f0_n u2_11_f0_c) u2_11_f0_l, .blk j_2_10_g [.slice u2_10_f0_p u2_10_f0_n u2_10_f0_c, .int .i64 u2_10_f1] 61, .own 27 3 R_FactD (.slice u2_10_f0_p u2_10_f0_n u2_10_f0_c) u2_10_f0_l]) ?_ ?_
     ·
      refine wc_region (wP rfl (wP rfl (wN rfl tE_23 (wP rfl (wl_as (d := 85) (v' := .bool (decide (u2_17 < l3.length))) (S' := [_,_,_,_,_,_,_]) rfl rfl (natlt (a := u2_17) (b := l3.length)) (wP rfl ?_))))))
      refine wl_split (d := 86) (S' := [_,_,_,_,_,_,_,_]) rfl rfl (fun hs86 => ?_) (fun hs86 => ?_)
      ·
       replace hm := iteT hm hs86
       refine wP rfl (wP rfl (wl_as (d := 88) (v' := .bool (decide (u2_17 < 120))) (S' := [_,_,_,_,_,_,_,_,_,_]) rfl rfl (natlt (a := u2_17) (b := 120)) (wP rfl (wl_nil ?_))))
       have hE := (Option.some.inj hm).symm
       refine we_join (decide (u2_17 < 120)) hE [17,11,10,3,89] rfl (asK [0] rfl) rfl
      ·
       replace hm := iteF hm hs86
       refine wO rfl (wO rfl (wP rfl (wl_nil ?_)))
       have hE := (Option.some.inj hm).symm
       refine we_join false hE [17,11,10,3,89] rfl (asK [0] rfl) rfl
     ·
      rintro j_9_89 hE
      try dsimp only
      have hm := hLj_9
      rw [hE] at hm
      refine wc_cond rfl (fun hb89 => ?_) (fun hb89 => ?_)
      ·
       replace hm := iteT hm hb89
       refine wc_keep [17,11,10,3] (S' := [_,_,_,_]) rfl (wc_skip (we_then (wc_seq (wc_block (wc_seq (wc_seq (wc_region (wP rfl (wP rfl ?_)))))))))
       obtain ⟨x94, hx94, hm⟩ := bindO_some hm
       refine wl_indexA 0 u2_17 rfl rfl rfl (freshS_eq rfl) rfl rfl rfl rfl rfl hx94 tE_23 tS_41 (fun b94 q94 cs94 hlx94 => (wl_open R_Ropewalklaw11_DoD_opens 1 rfl (fun r94 er94 _ => ?_)))
       subst er94
       refine wF rfl tF_41_3 (wl_load 1 3 rfl rfl rfl (freshS_eq rfl) rfl rfl rfl (cs := [_]) rfl tS_25 tA_25 rfl rfl (wN rfl tE_25 (wP rfl (wl_as (d := 98) (v' := .bool (decide (20 < x94.args.length))) (S' := [_,_,_,_,_,_,_,_,_,_]) rfl rfl (natgt (a := x94.args.length) (b := 20)) (wl_nil (we_then (wc_keep [98,17,11,10,3] (S' := [_,_,_,_,_]) rfl ?_)))))))
       refine wc_cond rfl (fun hb98 => ?_) (fun hb98 => ?_)
       ·
        replace hm := iteT hm hb98
        refine wc_keep [] (S' := []) rfl (wc_seq (wc_region ?_))
        obtain ⟨v99, hc99, hm⟩ := bindO_some hm
        refine wC [] [0,1,2,3] rfl fn_5 rfl (w_ropewalklaw11_awake_s N _ hc99) (asK [] rfl) rfl (H' := [_,_,_,_]) rfl ?_
        rintro _ _ _ ⟨rfl, rfl, rfl⟩
        refine wP rfl (wl_nil (we_then (wc_keep [8] (S' := [_]) rfl (wc_ret (we_then_ret (we_block_ret (we_then_ret (we_then_ret (we_block_ret (we_then_ret ?_))))))))))
        have hE := (Option.some.inj hm).symm
        replace hE := link_inr hLu2 hE
        replace hE := link_inr hLj_8 hE
        replace hE := hE.symm
        subst hE
        refine ret_one (Hr := []) [] Tryz.results3 (res_tmp rfl) ⟨rfl, rfl, rfl⟩ (asK [] rfl) rfl rfl (.inl rfl)
       ·
        replace hm := iteF hm hb98
        refine wc_keep [17,11,10,3] (S' := [_,_,_,_]) rfl (wc_skip (we_then (wc_seq ?_)))
        obtain ⟨bj_10, hm, hLj_10⟩ := bindO_some hm
        refine wc_cut (σ := (List FactD) × Int × (List FactD) × Int × Bool × (Option Addr) × Nat × Nat × (Option Addr) × Nat × Nat) (fun (j_10_11_f0_l, j_10_11_f1, j_10_10_f0_l, j_10_10_f1, j_10_113, j_10_11_f0_p, j_10_11_f0_c, j_10_11_f0_n, j_10_10_f0_p, j_10_10_f0_c, j_10_10_f0_n) => bj_10 = (j_10_11_f0_l, j_10_11_f1, j_10_10_f0_l, j_10_10_f1, j_10_113)) (fun (j_10_11_f0_l, j_10_11_f1, j_10_10_f0_l, j_10_10_f1, j_10_113, j_10_11_f0_p, j_10_11_f0_c, j_10_11_f0_n, j_10_10_f0_p, j_10_10_f0_c, j_10_10_f0_n) => [(17, .int .i64 ((u2_17 : Nat) : Int)), (11, .pointer (some ⟨j_2_11_g, 0, none⟩)), (10, .pointer (some ⟨j_2_10_g, 0, none⟩)), (3, .slice qp2 l3.length qc3), (113, .bool j_10_113)]) (fun (j_10_11_f0_l, j_10_11_f1, j_10_10_f0_l, j_10_10_f1, j_10_113, j_10_11_f0_p, j_10_11_f0_c, j_10_11_f0_n, j_10_10_f0_p, j_10_10_f0_c, j_10_10_f0_n) => [.sli 4 R_Ropewalklaw11_DoD qp2 qc3 l3]) (fun (j_10_11_f0_l, j_10_11_f1, j_10_10_f0_l, j_10_10_f1, j_10_113, j_10_11_f0_p, j_10_11_f0_c, j_10_11_f0_n, j_10_10_f0_p, j_10_10_f0_c, j_10_10_f0_n) => [.blk j_2_11_g [.slice j_10_11_f0_p j_10_11_f0_n j_10_11_f0_c, .int .i64 j_10_11_f1] 63, .own 27 3 R_FactD (.slice j_10_11_f0_p j_10_11_f0_n j_10_11_f0_c) j_10_11_f0_l, .blk j_2_10_g [.slice j_10_10_f0_p j_10_10_f0_n j_10_10_f0_c, .int .i64 j_10_10_f1] 61, .own 27 3 R_FactD (.slice j_10_10_f0_p j_10_10_f0_n j_10_10_f0_c) j_10_10_f0_l]) ?_ ?_
        ·
         refine wc_region (wP rfl (wP rfl (wP rfl (wP rfl ?_))))
         obtain ⟨x104, hx104, hm⟩ := bindO_some hm
         refine wl_indexA 3 u2_17 rfl rfl rfl (freshS_eq rfl) rfl rfl rfl rfl rfl hx104 tE_23 tS_41 (fun b104 q104 cs104 hlx104 => (wl_open R_Ropewalklaw11_DoD_opens 1 rfl (fun r104 er104 _ => ?_)))
         subst er104
         refine wl_load 1 0 rfl rfl rfl (freshS_eq rfl) rfl rfl rfl (cs := [_,_,_,_]) rfl tS_41 tA_41 rfl rfl ?_
         obtain ⟨⟨v106_0, v106_1, v106_2, v106_3, v106_4⟩, hc106, hm⟩ := bindO_some hm
         try dsimp only at hm
         refine wC [2,3,0,1] [] rfl fn_13 rfl (w_ropewalklaw11_step_s N j_2_10_g u2_10_f0_p u2_10_f0_n u2_10_f0_c u2_10_f0_l u2_10_f1 j_2_11_g u2_11_f0_p u2_11_f0_n u2_11_f0_c u2_11_f0_l u2_11_f1 x104.op x104.id x104.type r104.1 r104.2 x104.args _ _ _ _ _ hc106) (asK [0] rfl) rfl (H' := []) rfl ?_
         rintro _ _ _ ⟨p106_0, c106_1, c106_2, p106_3, c106_4, c106_5, rfl, rfl, rfl⟩
         refine wP rfl (wP rfl ?_)
         refine wl_split (d := 108) (S' := [_,_,_,_,_,_,_,_,_,_,_,_]) rfl rfl (fun hs108 => ?_) (fun hs108 => ?_)
         ·
          replace hm := iteT hm hs108
          refine wO rfl (wO rfl (wO rfl (wO rfl (wP rfl (wl_nil ?_)))))
          have hE := (Option.some.inj hm).symm
          refine we_pick [2,3,0,1] rfl (H' := [_,_,_,_]) rfl ?_
          refine we_join (v106_3, v106_4, v106_1, v106_2, true, p106_3, c106_4, c106_5, p106_0, c106_1, c106_2) hE [17,11,10,3,113] rfl (asK [6] rfl) rfl
         ·
          replace hm := iteF hm hs108
          refine wP rfl (wP rfl ?_)
          obtain ⟨v111, hc111, hm⟩ := bindO_some hm
          refine wC [0,1,2,3] [] rfl fn_14 rfl (w_ropewalklaw11_alike_s N j_2_10_g p106_0 c106_2 c106_1 v106_1 v106_2 j_2_11_g p106_3 c106_5 c106_4 v106_3 v106_4 _ hc111) (asK [] rfl) rfl (H' := []) rfl ?_
          rintro _ _ _ ⟨rfl, rfl, rfl⟩
          refine wP rfl (wP rfl (wl_nil ?_))
          have hE := (Option.some.inj hm).symm
          refine we_pick [2,3,0,1] rfl (H' := [_,_,_,_]) rfl ?_
          refine we_join (v106_3, v106_4, v106_1, v106_2, !v111, p106_3, c106_4, c106_5, p106_0, c106_1, c106_2) hE [17,11,10,3,113] rfl (asK [6] rfl) rfl
        ·
         rintro ⟨j_10_11_f0_l, j_10_11_f1, j_10_10_f0_l, j_10_10_f1, j_10_113, j_10_11_f0_p, j_10_11_f0_c, j_10_11_f0_n, j_10_10_f0_p, j_10_10_f0_c, j_10_10_f0_n⟩ hE
         try dsimp only
         have hm := hLj_10
         rw [hE] at hm
         try dsimp only at hm
         refine wc_cond rfl (fun hb113 => ?_) (fun hb113 => ?_)
         ·
          replace hm := iteT hm hb113
          refine wc_keep [] (S' := []) rfl (wc_seq (wc_region (wP rfl (wl_nil (we_then (wc_ret (we_block_ret (we_then_ret (we_then_ret (we_block_ret (we_then_ret ?_)))))))))))
          have hE := (Option.some.inj hm).symm
          replace hE := link_inr hLu2 hE
          replace hE := link_inr hLj_8 hE
          replace hE := hE.symm
          subst hE
          refine ret_one (Hr := []) [] Tryz.results3 (res_tmp rfl) ⟨rfl, rfl, rfl⟩ (asK [] rfl) rfl rfl (.inl rfl)
         ·
          replace hm := iteF hm hb113
          refine wc_keep [17,11,10,3] (S' := [_,_,_,_]) rfl (wc_skip (we_block_normal (we_then (wc_region (wP rfl (wP rfl ?_))))))
          obtain ⟨hg91, hm⟩ := gd_some hm
          refine wl_as (d := 91) (v' := .int .i64 ((u2_17 + 1 : Nat) : Int)) (S' := [_,_,_,_,_]) rfl rfl (nat_add (a := u2_17) (b := 1) hg91) (wl_pure (S' := [_,_,_,_,_]) rfl rfl rfl rfl rfl (wl_nil ?_))
          have hE := (Option.some.inj hm).symm
          replace hE := link_inl hLu2 hE
          refine we_roundK (_, u2_17 + 1, j_10_11_f0_l, j_10_11_f1, j_10_10_f0_l, j_10_10_f1, j_10_11_f0_p, j_10_11_f0_c, j_10_11_f0_n, j_10_10_f0_p, j_10_10_f0_c, j_10_10_f0_n) (Nat.lt_succ_self _) hE [17,11,10,3] rfl (asK [0] rfl) rfl
      ·
       replace hm := iteF hm hb89
       refine wc_keep [11,10] (S' := [_,_]) rfl (wc_exit (we_then_exit (we_then_exit (we_block_hit ?_))))
       have hE := (Option.some.inj hm).symm
       replace hE := link_inr hLu2 hE
       refine we_join (u2_11_f0_l, u2_11_f1, u2_10_f0_l, u2_10_f1, u2_11_f0_p, u2_11_f0_c, u2_11_f0_n, u2_10_f0_p, u2_10_f0_c, u2_10_f0_n) hE [11,10] rfl (asK [] rfl) rfl
    ·
     rintro ⟨j_8_11_f0_l, j_8_11_f1, j_8_10_f0_l, j_8_10_f1, j_8_11_f0_p, j_8_11_f0_c, j_8_11_f0_n, j_8_10_f0_p, j_8_10_f0_c, j_8_10_f0_n⟩ hE
     try dsimp only
     have hm := link_inl hLj_8 hE
     try dsimp only at hm
     refine wc_seq (wc_region (wP rfl ?_))
     obtain ⟨v115, hc115, hm⟩ := bindO_some hm
     refine wC [2,3] [0,1] rfl fn_15 rfl (w_memory_Memory_All_s N j_2_10_g j_8_10_f0_p j_8_10_f0_n j_8_10_f0_c j_8_10_f0_l j_8_10_f1 _ hc115) (asK [] rfl) rfl (H' := [_,_]) rfl ?_
     rintro _ _ _ ⟨p115_0, c115_1, c115_2, rfl, rfl, rfl⟩
     refine wP rfl ?_
     obtain ⟨v117, hc117, hm⟩ := bindO_some hm
     refine wC [1,2] [0,3,4] rfl fn_15 rfl (w_memory_Memory_All_s N j_2_10_g j_8_10_f0_p j_8_10_f0_n j_8_10_f0_c j_8_10_f0_l j_8_10_f1 _ hc117) (asK [] rfl) rfl (H' := [_,_,_]) rfl ?_
     rintro _ _ _ ⟨p117_0, c117_1, c117_2, rfl, rfl, rfl⟩
     refine wP rfl (wP rfl (wl_nil (we_then (wc_keep [19,18,11,10] (S' := [_,_,_,_]) rfl (wc_seq (wc_region (wP rfl (wP rfl (wl_buildSlice rfl rfl rfl (freshS_eq rfl) rfl tE_46 tS_22 tZ_22 rfl (zs := [.slice none 0 0, .slice none 0 0]) (by kernel_rfl) rfl (out := [_,_]) rfl (fun g120 => (wl_treeLen 4 rfl (fun hzt8 _ => ?_))))))))))))
     subst hzt8
     refine wl_treeLen 1 rfl (fun hzt9 _ => ?_)
     subst hzt9
     refine wl_row (sz := 1) (m := 2) T_l_FactD.pair ([(v115, (p115_0, c115_1)), (v117, (p117_0, c117_1))]) 0 rfl (fun F w hφ => ⟨[.slice p115_0 v115.length c115_1],[.slice p117_0 v117.length c117_1], rfl, rfl, rfl, ⟨[.slice p117_0 v117.length c117_1],[], rfl, rfl, rfl, rfl⟩⟩) rfl (by decide) (H' := [_,_,_,_,_,_,_]) rfl (wl_sh [bagF T_l_FactD [] none, _,_,_,_,_,_,_] (fun _ h => h.bagNil T_l_FactD) (wl_pick [5,0,1,2,3,4,6,7] rfl (H' := [_,_,_,_,_,_,_,_]) rfl (wl_sh [bagF T_l_FactD ([(v115, (p115_0, c115_1))]) none, _,_,_,_,_,_] (fun _ h => Holds.bagPush (T := T_l_FactD) (x := v115) (r := (p115_0, c115_1)) (zs := []) (H := [_,_,_,_,_,_,_]) h 0 rfl) (wl_pick [2,0,1,3,4,5,6] rfl (H' := [_,_,_,_,_,_,_]) rfl (wl_sh [bagF T_l_FactD (([(v115, (p115_0, c115_1))]) ++ [(v117, (p117_0, c117_1))]) none, _,_,_,_,_] (fun _ h => Holds.bagPush (T := T_l_FactD) (x := v117) (r := (p117_0, c117_1)) (zs := [(v115, (p115_0, c115_1))]) (H := [_,_,_,_,_,_]) h 0 rfl) (wl_hAs 0 (φ' := bagF T_l_FactD ([(v115, (p115_0, c115_1)), (v117, (p117_0, c117_1))]) none) rfl rfl (H' := [_,_,_,_,_,_]) rfl (wl_sh [treeF T_l_FactD 22 1 (.slice (some ⟨g120,0, none⟩) 2 2) ([v115, v117]), _,_,_,_] (fun _ h => h.treeIn 1 0 rfl rfl rfl rfl) (wl_treeLen 0 rfl (fun hzt10 _ => (wl_at 0 (v' := .slice (some ⟨g120,0, none⟩) ([v115, v117].length) 2) rfl (by rw [hzt10]) (wl_hAs 0 (φ' := treeF T_l_FactD 22 1 (.slice (some ⟨g120,0, none⟩) ([v115, v117].length) 2) ([v115, v117])) rfl (by rw [hzt10]) (H' := [_,_,_,_,_]) rfl ?_)))))))))))
     obtain ⟨hap121, hm⟩ := gd_some hm
     refine wl_treeOut 0 rfl (fun zz121 hzz121 => (wC [1,0] [2,3,4,5] rfl fn_16 rfl (ap_ApartFacts (some ⟨g120,0, none⟩) ([v115, v117].length) 2 zz121 (by rw [pair_len hzz121]) (by rw [pair_len hzz121]; exact hap121.1) (fun z hz => hap121.2 z.1 (by rw [← hzz121]; exact List.mem_map_of_mem hz))) (asK [] rfl) rfl (H' := [_,_,_,_]) rfl ?_))
     rintro _ _ _ ⟨r6_121, r7_121, rfl, rfl, rfl⟩
     refine wl_drop 0 rfl (H' := [_,_,_,_,_]) rfl (wl_drop 0 rfl (H' := [_,_,_,_]) rfl (wP rfl (wP rfl (wP rfl ?_))))
     obtain ⟨v125, hc125, hm⟩ := bindO_some hm
     refine wC [0,1,2,3] [] rfl fn_14 rfl (w_ropewalklaw11_alike_s N j_2_10_g j_8_10_f0_p j_8_10_f0_n j_8_10_f0_c j_8_10_f0_l j_8_10_f1 j_2_11_g j_8_11_f0_p j_8_11_f0_n j_8_11_f0_c j_8_11_f0_l j_8_11_f1 _ hc125) (asK [] rfl) rfl (H' := []) rfl ?_
     rintro _ _ _ ⟨rfl, rfl, rfl⟩
     refine wP rfl (wP rfl ?_)
     refine wl_split (d := 127) (S' := [_,_,_,_,_,_,_,_,_,_,_,_,_]) rfl rfl (fun hs127 => ?_) (fun hs127 => ?_)
     ·
      replace hm := iteT hm hs127
      obtain ⟨v128, hc128, hm⟩ := bindO_some hm
      refine wC [] [0,1,2,3] rfl fn_5 rfl (w_ropewalklaw11_awake_s N _ hc128) (asK [] rfl) rfl (H' := [_,_,_,_]) rfl ?_
      rintro _ _ _ ⟨rfl, rfl, rfl⟩
      refine wP rfl (wP rfl (wl_nil (we_then (wc_keep [8] (S' := [_]) rfl (wc_ret ?_)))))
      have hE := (Option.some.inj hm).symm
      replace hE := hE.symm
      subst hE
      refine ret_one (Hr := []) [] Tryz.results3 (res_tmp rfl) ⟨rfl, rfl, rfl⟩ (asK [] rfl) rfl rfl (.inl rfl)
     ·
      replace hm := iteF hm hs127
      refine wO rfl (wP rfl (wP rfl (wl_nil (we_then (wc_keep [8] (S' := [_]) rfl (wc_ret ?_))))))
      have hE := (Option.some.inj hm).symm
      replace hE := hE.symm
      subst hE
      refine ret_one (Hr := []) [] Tryz.results3 (res_tmp rfl) ⟨rfl, rfl, rfl⟩ (asK [] rfl) rfl rfl (.inl rfl)
theorem w_ropewalklaw11_facts_s (N : Nat) (a0 : Int) (a1 : Int) (o2 : List FactD) (hm : m_ropewalklaw11_facts N a0 a1 = some o2) : Spec Tryz.prog 18 [.int .i64 a0, .int .i64 a1] [] [] (fun v Φr Hr => ∃ (o0 : Option Addr) (o1 : Nat) (o3 : Nat), v = .slice o0 o3 o1 ∧ Φr = [] ∧ Hr = [treeF T_FactD 27 3 (.slice o0 o3 o1) o2]) := by
 unfold m_ropewalklaw11_facts at hm
 refine spec_of Tryz.func18 rfl Tryz.ntmps18 rfl (S := [_,_]) rfl (fun C => (wc_seq (wc_region (wP rfl (wl_nil (we_then (wc_keep [0,1] (S' := [_,_]) rfl (wc_seq (wc_region (wP rfl (wl_nil (we_then (wc_seq ?_)))))))))))))
 obtain ⟨bj_1, hm, hLj_1⟩ := bindO_some hm
 refine wc_cut (σ := (List FactD) × (Option Addr) × Nat × Nat) (fun (j_1_5_l, j_1_5_p, j_1_5_c, j_1_5_n) => bj_1 = j_1_5_l) (fun (j_1_5_l, j_1_5_p, j_1_5_c, j_1_5_n) => [(5, .slice j_1_5_p j_1_5_n j_1_5_c)]) (fun (j_1_5_l, j_1_5_p, j_1_5_c, j_1_5_n) => []) (fun (j_1_5_l, j_1_5_p, j_1_5_c, j_1_5_n) => [treeF T_FactD 27 3 (.slice j_1_5_p j_1_5_n j_1_5_c) j_1_5_l]) ?_ ?_
 ·
  refine wc_seq (wc_region (wP rfl (wl_nil (we_then (wc_block (wc_sh [treeF T_FactD 27 3 (.slice none 0 0) []] (fun _ h => h.treeNil T_FactD 27 3) (wc_loop (σ := Nat × Nat × (List FactD) × (Option Addr) × Nat × Nat) (fun (nu1, u1_6, u1_5_l, u1_5_p, u1_5_c, u1_5_n) => iter (m_ropewalklaw11_facts_L1 N a1 a0) nu1 (u1_6, u1_5_l) = some bj_1) (fun (nu1, u1_6, u1_5_l, u1_5_p, u1_5_c, u1_5_n) => nu1) (fun (nu1, u1_6, u1_5_l, u1_5_p, u1_5_c, u1_5_n) => [(6, .int .i64 ((u1_6 : Nat) : Int)), (5, .slice u1_5_p u1_5_n u1_5_c), (0, .int .i64 a0), (1, .int .i64 a1)]) (fun (nu1, u1_6, u1_5_l, u1_5_p, u1_5_c, u1_5_n) => []) (fun (nu1, u1_6, u1_5_l, u1_5_p, u1_5_c, u1_5_n) => [treeF T_FactD 27 3 (.slice u1_5_p u1_5_n u1_5_c) u1_5_l]) (N, 0,[], none, 0,0) hm [6,5,0,1] rfl (asK [] rfl) rfl (fun s_ hm => ?_))))))))
  obtain ⟨nu1, u1_6, u1_5_l, u1_5_p, u1_5_c, u1_5_n⟩ := s_
  try dsimp only at hm ⊢
  obtain ⟨mu1, bu1, hnu1, hq, hLu1⟩ := iter_some hm
  clear hm
  subst hnu1
  replace hm := hq
  clear hq
  unfold m_ropewalklaw11_facts_L1 at hm
  try dsimp only at hm
  refine wc_seq (wc_seq (wc_region (wP rfl (wP rfl (wP rfl (wl_nil (we_then (wc_keep [9,6,5,0,1] (S' := [_,_,_,_,_]) rfl ?_))))))))
  refine wc_cond rfl (fun hb9 => ?_) (fun hb9 => ?_)
  ·
   replace hm := iteT hm hb9
   refine wc_keep [6,5,0,1] (S' := [_,_,_,_]) rfl (wc_skip (we_then (wc_seq (wc_block (wc_region (wP rfl (wP rfl (wP rfl (wP rfl ?_)))))))))
   obtain ⟨hg15, hm⟩ := gd_some hm
   refine wl_as (d := 15) (v' := .int .i64 (a0 + ((u1_6 : Nat) : Int))) (S' := [_,_,_,_,_,_,_]) rfl rfl (i64_in hg15) (wP rfl (wl_bin rfl rfl rfl (freshS_eq rfl) rfl rfl rfl (run_rem (by decide)) (wP rfl ?_)))
   obtain ⟨_, hc19, hm⟩ := bindO_some hm
   try dsimp only at hm
   refine wC [] [0] rfl fn_17 rfl (w_ropewalklaw11_num_s N ((u1_6 : Nat) : Int) hc19) (asK [] rfl) rfl (H' := [_]) rfl ?_
   rintro _ _ _ ⟨rfl, rfl, rfl⟩
   refine wl_buildSlice rfl rfl rfl (freshS_eq rfl) rfl tE_25 tS_51 tZ_51 rfl (zs := [.int .u8 0, .int .i64 0, .string ((⟨#[]⟩ : ByteArray))]) (by kernel_rfl) rfl (out := [_,_,_]) rfl (fun g20 => (wl_build rfl rfl rfl (freshS_eq rfl) rfl tZ_27 tP_27 rfl (out := [_,_,_]) rfl (wl_buildSlice rfl rfl rfl (freshS_eq rfl) rfl tE_22 tS_27 tZ_27 rfl (zs := [.int .i64 0, .int .i64 0, .slice none 0 0]) (by kernel_rfl) rfl (out := [_,_,_]) rfl (fun g22 => (wl_treeLen 2 rfl (fun hzt8 _ => ?_))))))
   subst hzt8
   refine wl_row (sz := 3) (m := 1) R_V ([(⟨1, (((u1_6 : Nat) : Int)), (⟨#[]⟩ : ByteArray)⟩ : V)]) 1 rfl (fun F w hφ => ⟨[.int .u8 1, .int .i64 ((u1_6 : Nat) : Int), .string ((⟨#[]⟩ : ByteArray))],[], rfl, rfl, ⟨(), rfl, ask_nil⟩, rfl⟩) rfl (by decide) (H' := [_,_,_]) rfl (wl_treeOut 2 rfl (fun zz23 hzz23 => ?_))
   obtain ⟨hg23, hm⟩ := gd_some hm
   have hzs12 : List.map (fun x : FactD × (Option Addr × Nat) => x.1) (zz23 ++ [((⟨(a0 + ((u1_6 : Nat) : Int)), (Int.tmod ((u1_6 : Nat) : Int) 32), [(⟨1, (((u1_6 : Nat) : Int)), (⟨#[]⟩ : ByteArray)⟩ : V)]⟩ : FactD), (some (⟨g20,0, none⟩ : Addr), 1))]) = u1_5_l ++ [(⟨(a0 + ((u1_6 : Nat) : Int)), (Int.tmod ((u1_6 : Nat) : Int) 32), [(⟨1, (((u1_6 : Nat) : Int)), (⟨#[]⟩ : ByteArray)⟩ : V)]⟩ : FactD)] := pair_app hzz23 (us := [(⟨(a0 + ((u1_6 : Nat) : Int)), (Int.tmod ((u1_6 : Nat) : Int) 32), [(⟨1, (((u1_6 : Nat) : Int)), (⟨#[]⟩ : ByteArray)⟩ : V)]⟩ : FactD)]) rfl
   have hgl23 : zz23.length + ([((⟨(a0 + ((u1_6 : Nat) : Int)), (Int.tmod ((u1_6 : Nat) : Int) 32), [(⟨1, (((u1_6 : Nat) : Int)), (⟨#[]⟩ : ByteArray)⟩ : V)]⟩ : FactD), (some (⟨g20,0, none⟩ : Addr), 1))] : List (FactD × (Option Addr × Nat))).length ≤ 3518437208883 := by rw [pair_len hzz23]; exact hg23
   refine wl_appendH (R := T_FactD.pair) ([((⟨(a0 + ((u1_6 : Nat) : Int)), (Int.tmod ((u1_6 : Nat) : Int) 32), [(⟨1, (((u1_6 : Nat) : Int)), (⟨#[]⟩ : ByteArray)⟩ : V)]⟩ : FactD), (some (⟨g20,0, none⟩ : Addr), 1))]) 3 1 rfl rfl rfl (freshS_eq rfl) rfl rfl rfl rfl rfl (fun F w hφ => ⟨[.int .i64 (a0 + ((u1_6 : Nat) : Int)), .int .i64 (Int.tmod ((u1_6 : Nat) : Int) 32), .slice (some ⟨g20,0, none⟩) 1 1],[], rfl, rfl, rfl, rfl⟩) tE_22 tR_27 rfl rfl (Nat.le_trans hgl23 (by decide)) (Nat.le_trans (Nat.mul_le_mul_right _ hgl23) (by decide)) (H2 := fun p23 c23 => [_,_,_, .own 27 3 T_FactD.pair (.slice p23 ((zz23 ++ [((⟨(a0 + ((u1_6 : Nat) : Int)), (Int.tmod ((u1_6 : Nat) : Int) 32), [(⟨1, (((u1_6 : Nat) : Int)), (⟨#[]⟩ : ByteArray)⟩ : V)]⟩ : FactD), (some (⟨g20,0, none⟩ : Addr), 1))]).length) c23) (zz23 ++ [((⟨(a0 + ((u1_6 : Nat) : Int)), (Int.tmod ((u1_6 : Nat) : Int) 32), [(⟨1, (((u1_6 : Nat) : Int)), (⟨#[]⟩ : ByteArray)⟩ : V)]⟩ : FactD), (some (⟨g20,0, none⟩ : Addr), 1))])]) (fun _ _ => rfl) (fun p23 c23 => (wl_drop 1 rfl (H' := [_,_,_]) rfl (wl_as (d := 23) (v' := .slice p23 ((u1_5_l ++ [(⟨(a0 + ((u1_6 : Nat) : Int)), (Int.tmod ((u1_6 : Nat) : Int) 32), [(⟨1, (((u1_6 : Nat) : Int)), (⟨#[]⟩ : ByteArray)⟩ : V)]⟩ : FactD)]).length) c23) (S' := [_,_,_,_,_,_,_,_,_,_,_,_,_,_,_]) rfl rfl (by rw [pair_len hzs12]) (wl_hAs 2 (φ' := .own 27 3 T_FactD.pair (.slice p23 ((u1_5_l ++ [(⟨(a0 + ((u1_6 : Nat) : Int)), (Int.tmod ((u1_6 : Nat) : Int) 32), [(⟨1, (((u1_6 : Nat) : Int)), (⟨#[]⟩ : ByteArray)⟩ : V)]⟩ : FactD)]).length) c23) (zz23 ++ [((⟨(a0 + ((u1_6 : Nat) : Int)), (Int.tmod ((u1_6 : Nat) : Int) 32), [(⟨1, (((u1_6 : Nat) : Int)), (⟨#[]⟩ : ByteArray)⟩ : V)]⟩ : FactD), (some (⟨g20,0, none⟩ : Addr), 1))])) rfl (by rw [pair_len hzs12]) (H' := [_,_,_]) rfl (wl_pick [1,0,2] rfl (H' := [_,_,_]) rfl (wl_sh [bagF T_FactD (zz23 ++ [((⟨(a0 + ((u1_6 : Nat) : Int)), (Int.tmod ((u1_6 : Nat) : Int) 32), [(⟨1, (((u1_6 : Nat) : Int)), (⟨#[]⟩ : ByteArray)⟩ : V)]⟩ : FactD), (some (⟨g20,0, none⟩ : Addr), 1))]) none, _] (fun _ h => Holds.bagPush (T := T_FactD) (x := (⟨(a0 + ((u1_6 : Nat) : Int)), (Int.tmod ((u1_6 : Nat) : Int) 32), [(⟨1, (((u1_6 : Nat) : Int)), (⟨#[]⟩ : ByteArray)⟩ : V)]⟩ : FactD)) (r := (some (⟨g20,0, none⟩ : Addr), 1)) (zs := zz23) (H := [_,_]) h 0 rfl) (wl_sh [treeF T_FactD 27 3 (.slice p23 ((u1_5_l ++ [(⟨(a0 + ((u1_6 : Nat) : Int)), (Int.tmod ((u1_6 : Nat) : Int) 32), [(⟨1, (((u1_6 : Nat) : Int)), (⟨#[]⟩ : ByteArray)⟩ : V)]⟩ : FactD)]).length) c23) (u1_5_l ++ [(⟨(a0 + ((u1_6 : Nat) : Int)), (Int.tmod ((u1_6 : Nat) : Int) 32), [(⟨1, (((u1_6 : Nat) : Int)), (⟨#[]⟩ : ByteArray)⟩ : V)]⟩ : FactD)])] (fun _ h => h.treeIn 1 0 rfl rfl rfl hzs12) (wl_pure (S' := [_,_,_,_,_,_,_,_,_,_,_,_,_,_,_]) rfl rfl rfl rfl rfl (wl_nil (we_block_normal (we_then (wc_keep [5,6,0,1] (S' := [_,_,_,_]) rfl (wc_region (wP rfl ?_))))))))))))))
   refine wP rfl ?_
   obtain ⟨hg11, hm⟩ := gd_some hm
   refine wl_as (d := 11) (v' := .int .i64 ((u1_6 + 1 : Nat) : Int)) (S' := [_,_,_,_,_]) rfl rfl (nat_add (a := u1_6) (b := 1) hg11) (wl_pure (S' := [_,_,_,_,_]) rfl rfl rfl rfl rfl (wl_nil ?_))
   have hE := (Option.some.inj hm).symm
   replace hE := link_inl hLu1 hE
   refine we_roundK (_, u1_6 + 1, (u1_5_l ++ [(⟨(a0 + ((u1_6 : Nat) : Int)), (Int.tmod ((u1_6 : Nat) : Int) 32), [(⟨1, (((u1_6 : Nat) : Int)), (⟨#[]⟩ : ByteArray)⟩ : V)]⟩ : FactD)]), p23, c23, ((u1_5_l ++ [(⟨(a0 + ((u1_6 : Nat) : Int)), (Int.tmod ((u1_6 : Nat) : Int) 32), [(⟨1, (((u1_6 : Nat) : Int)), (⟨#[]⟩ : ByteArray)⟩ : V)]⟩ : FactD)]).length)) (Nat.lt_succ_self _) hE [6,5,0,1] rfl (asK [] rfl) rfl
  ·
   replace hm := iteF hm hb9
   refine wc_keep [5] (S' := [_]) rfl (wc_exit (we_then_exit (we_then_exit (we_block_hit ?_))))
   have hE := (Option.some.inj hm).symm
   replace hE := link_inr hLu1 hE
   refine we_join (u1_5_l, u1_5_p, u1_5_c, u1_5_n) hE [5] rfl (asK [] rfl) rfl
 ·
  rintro ⟨j_1_5_l, j_1_5_p, j_1_5_c, j_1_5_n⟩ hE
  try dsimp only
  have hm := hLj_1
  rw [hE] at hm
  refine wc_seq (wc_region (wP rfl (wP rfl (wl_nil (we_then (wc_keep [4] (S' := [_]) rfl (wc_ret ?_)))))))
  have hE := (Option.some.inj hm).symm
  replace hE := hE.symm
  subst hE
  refine ret_one (Hr := [_]) [0] Tryz.results18 (res_tmp rfl) ⟨j_1_5_p, j_1_5_c, j_1_5_n, rfl, rfl, rfl⟩ (asK [] rfl) rfl rfl (.inl rfl)
end Go.Proofs.YthmkahbkhoijbaaGreatDoor
