import Derived.Test.YtalbennlmcpnmaaGreatXW5
namespace Go.Proofs.YtalbennlmcpnmaaGreat
open Go.RowKit
set_option maxRecDepth 100000
set_option maxHeartbeats 4000000
theorem w_ropewalklaw10_PatternSome_s (N : Nat) (a0 : Int) (a1 : Int) (qp0 : Option Addr) (qc1 : Nat) (l2 : List ArgD) (a3 : Int) (a4 : Int) (a5 : Int) (a6 : ByteArray) (a7 : Int) (a8 : Int) (qp2 : Option Addr) (qc3 : Nat) (l9 : List Api_ExprD) (qp4 : Option Addr) (qc5 : Nat) (l10 : List Bool) (qp6 : Option Addr) (qc7 : Nat) (l11 : List V) (qp8 : Option Addr) (qc9 : Nat) (l12 : List FactD) (o0 : Bool) (hm : m_ropewalklaw10_PatternSome N a0 a1 l2 a3 a4 a5 a6 a7 a8 l9 l10 l11 l12 = some o0) : Spec Tryz.prog 22 [.agg #[.int .u8 a0, .int .i64 a1, .slice qp0 l2.length qc1, .int .u8 a3, .int .u8 a4, .int .i64 a5, .string a6, .int .i64 a7, .int .u8 a8, .slice qp2 l9.length qc3], .slice qp4 l10.length qc5, .slice qp6 l11.length qc7, .slice qp8 l12.length qc9] [.sli 5 R_ArgD qp0 qc1 l2, .sli 7 R_Api_ExprD qp2 qc3 l9, .sli 1 R_bool qp4 qc5 l10, .sli 3 R_V qp6 qc7 l11, .sli 3 R_FactD qp8 qc9 l12] [] (fun v Φr Hr => v = .bool o0 ∧ Φr = [] ∧ Hr = []) := by
 unfold m_ropewalklaw10_PatternSome at hm
 refine spec_of Tryz.func22 rfl Tryz.ntmps22 rfl (S := [_,_,_,_]) rfl (fun C => (wc_seq (wc_region (wB rfl (fun g4 => (wP rfl (wl_nil (we_then (wc_keep [4,1,2,3] (S' := [_,_,_,_]) rfl (wc_seq (wc_seq ?_)))))))))))
 obtain ⟨bj_1, hm, hLj_1⟩ := bindO_some hm
 unfold m_ropewalklaw10_PatternSome_C1 at hm
 refine wc_cut (σ := Bool) (fun j_1_30 => bj_1 = j_1_30) (fun j_1_30 => [(4, .pointer (some ⟨g4,0, none⟩)), (1, .slice qp4 l10.length qc5), (2, .slice qp6 l11.length qc7), (3, .slice qp8 l12.length qc9), (30, .bool j_1_30)]) (fun j_1_30 => [.sli 5 R_ArgD qp0 qc1 l2, .sli 7 R_Api_ExprD qp2 qc3 l9, .sli 1 R_bool qp4 qc5 l10, .sli 3 R_V qp6 qc7 l11, .sli 3 R_FactD qp8 qc9 l12]) (fun j_1_30 => [.blk g4 [.int .u8 a0, .int .i64 a1, .slice qp0 l2.length qc1, .int .u8 a3, .int .u8 a4, .int .i64 a5, .string a6, .int .i64 a7, .int .u8 a8, .slice qp2 l9.length qc3] 33]) ?_ ?_
 ·
  refine wc_region (wF rfl tF_33_2 (wD 0 2 rfl tS_23 tA_23 rfl (wN rfl tE_23 (wP rfl (wl_as (d := 15) (v' := .bool (decide (2000 < l2.length))) (S' := [_,_,_,_,_,_,_]) rfl rfl (natgt (a := l2.length) (b := 2000)) (wP rfl ?_))))))
  refine wl_split (d := 16) (S' := [_,_,_,_,_,_,_,_]) rfl rfl (fun hs16 => ?_) (fun hs16 => ?_)
  ·
   replace hm := iteT hm hs16
   refine wO rfl (wO rfl (wO rfl (wP rfl (wP rfl (wO rfl (wO rfl (wO rfl (wP rfl (wP rfl (wO rfl (wO rfl (wO rfl (wP rfl ?_)))))))))))))
   refine wl_nil ?_
   have hE := (Option.some.inj hm).symm
   refine we_join true hE [4,1,2,3,30] rfl (asK [0,1,2,3,4] rfl) rfl
  ·
   replace hm := iteF hm hs16
   refine wP rfl (wN rfl tE_37 (wP rfl (wl_as (d := 19) (v' := .bool (decide (2000 < l10.length))) (S' := [_,_,_,_,_,_,_,_,_,_,_]) rfl rfl (natgt (a := l10.length) (b := 2000)) (wP rfl (wP rfl ?_)))))
   refine wl_split (d := 21) (S' := [_,_,_,_,_,_,_,_,_,_,_,_,_]) rfl rfl (fun hs21 => ?_) (fun hs21 => ?_)
   ·
    replace hm := iteT hm hs21
    refine wO rfl (wO rfl (wO rfl (wP rfl (wP rfl (wO rfl (wO rfl (wO rfl (wP rfl (wl_nil ?_)))))))))
    have hE := (Option.some.inj hm).symm
    refine we_join true hE [4,1,2,3,30] rfl (asK [0,1,2,3,4] rfl) rfl
   ·
    replace hm := iteF hm hs21
    refine wP rfl (wN rfl tE_34 (wP rfl (wl_as (d := 24) (v' := .bool (decide (2000 < l11.length))) (S' := [_,_,_,_,_,_,_,_,_,_,_,_,_,_,_,_]) rfl rfl (natgt (a := l11.length) (b := 2000)) (wP rfl (wP rfl ?_)))))
    refine wl_split (d := 26) (S' := [_,_,_,_,_,_,_,_,_,_,_,_,_,_,_,_,_,_]) rfl rfl (fun hs26 => ?_) (fun hs26 => ?_)
    ·
     replace hm := iteT hm hs26
     refine wO rfl (wO rfl (wO rfl (wP rfl (wl_nil ?_))))
     have hE := (Option.some.inj hm).symm
     refine we_join true hE [4,1,2,3,30] rfl (asK [0,1,2,3,4] rfl) rfl
    ·
     replace hm := iteF hm hs26
     refine wP rfl (wN rfl tE_78 (wP rfl (wl_as (d := 29) (v' := .bool (decide (300 < l12.length))) (S' := [_,_,_,_,_,_,_,_,_,_,_,_,_,_,_,_,_,_,_,_,_]) rfl rfl (natgt (a := l12.length) (b := 300)) (wP rfl (wl_nil ?_)))))
     have hE := (Option.some.inj hm).symm
     refine we_join (decide (300 < l12.length)) hE [4,1,2,3,30] rfl (asK [0,1,2,3,4] rfl) rfl
 ·
  rintro j_1_30 hE
  try dsimp only
  have hm := hLj_1
  rw [hE] at hm
  refine wc_cond rfl (fun hb30 => ?_) (fun hb30 => ?_)
  ·
   replace hm := iteT hm hb30
   refine wc_keep [] (S' := []) rfl (wc_seq (wc_region ?_))
   obtain ⟨v31, hc31, hm⟩ := bindO_some hm
   refine wC [] [0] rfl fn_6 rfl (w_ropewalklaw10_awake_s N _ hc31) (asK [] rfl) rfl (H' := [_]) rfl ?_
   rintro _ _ _ ⟨rfl, rfl, rfl⟩
   refine wP rfl (wl_nil (we_then (wc_keep [8] (S' := [_]) rfl (wc_ret (we_then_ret ?_)))))
   have hE := (Option.some.inj hm).symm
   replace hE := hE.symm
   subst hE
   refine ret_one (Hr := []) [] Tryz.results22 (res_tmp rfl) ⟨rfl, rfl, rfl⟩ (asK [] rfl) rfl rfl (.inl rfl)
  ·
   replace hm := iteF hm hb30
   refine wc_keep [4,1,2,3] (S' := [_,_,_,_]) rfl (wc_skip (we_then (wc_seq ?_)))
   obtain ⟨bj_2, hm, hLj_2⟩ := bindS_some hm
   refine wc_cut (σ := Unit) (fun _ => bj_2 = .inl ()) (fun _ => [(4, .pointer (some ⟨g4,0, none⟩)), (1, .slice qp4 l10.length qc5), (2, .slice qp6 l11.length qc7), (3, .slice qp8 l12.length qc9)]) (fun _ => [.sli 5 R_ArgD qp0 qc1 l2, .sli 7 R_Api_ExprD qp2 qc3 l9, .sli 1 R_bool qp4 qc5 l10, .sli 3 R_V qp6 qc7 l11, .sli 3 R_FactD qp8 qc9 l12]) (fun _ => [.blk g4 [.int .u8 a0, .int .i64 a1, .slice qp0 l2.length qc1, .int .u8 a3, .int .u8 a4, .int .i64 a5, .string a6, .int .i64 a7, .int .u8 a8, .slice qp2 l9.length qc3] 33]) ?_ ?_
   ·
    refine wc_seq (wc_region (wP rfl (wl_nil (we_then (wc_block (wc_loop (σ := Nat × Nat) (fun (nu1, u1_9) => iter (m_ropewalklaw10_PatternSome_L1 N l12) nu1 u1_9 = some bj_2) (fun (nu1, u1_9) => nu1) (fun (nu1, u1_9) => [(9, .int .i64 ((u1_9 : Nat) : Int)), (4, .pointer (some ⟨g4,0, none⟩)), (1, .slice qp4 l10.length qc5), (2, .slice qp6 l11.length qc7), (3, .slice qp8 l12.length qc9)]) (fun (nu1, u1_9) => [.sli 5 R_ArgD qp0 qc1 l2, .sli 7 R_Api_ExprD qp2 qc3 l9, .sli 1 R_bool qp4 qc5 l10, .sli 3 R_V qp6 qc7 l11, .sli 3 R_FactD qp8 qc9 l12]) (fun (nu1, u1_9) => [.blk g4 [.int .u8 a0, .int .i64 a1, .slice qp0 l2.length qc1, .int .u8 a3, .int .u8 a4, .int .i64 a5, .string a6, .int .i64 a7, .int .u8 a8, .slice qp2 l9.length qc3] 33]) (N, 0) hm [9,4,1,2,3] rfl (asK [0,1,2,3,4] rfl) rfl (fun s_ hm => ?_)))))))
    obtain ⟨nu1, u1_9⟩ := s_
    try dsimp only at hm ⊢
    obtain ⟨mu1, bu1, hnu1, hq, hLu1⟩ := iter_some hm
    clear hm
    subst hnu1
    replace hm := hq
    clear hq
    unfold m_ropewalklaw10_PatternSome_L1 at hm
    try dsimp only at hm
    refine wc_seq (wc_seq (wc_region (wP rfl (wP rfl (wN rfl tE_78 (wP rfl (wl_as (d := 35) (v' := .bool (decide (u1_9 < l12.length))) (S' := [_,_,_,_,_,_,_,_]) rfl rfl (natlt (a := u1_9) (b := l12.length)) (wl_nil (we_then (wc_keep [35,9,4,1,2,3] (S' := [_,_,_,_,_,_]) rfl ?_))))))))))
    refine wc_cond rfl (fun hb35 => ?_) (fun hb35 => ?_)
    ·
     replace hm := iteT hm hb35
     refine wc_keep [9,4,1,2,3] (S' := [_,_,_,_,_]) rfl (wc_skip (we_then (wc_seq (wc_block (wc_seq (wc_region (wP rfl (wP rfl ?_))))))))
     obtain ⟨x40, hx40, hm⟩ := bindO_some hm
     refine wl_indexA 4 u1_9 rfl rfl rfl (freshS_eq rfl) rfl rfl rfl rfl rfl hx40 tE_78 tS_36 (fun b40 q40 cs40 hlx40 => (wl_open R_FactD_opens 1 rfl (fun r40 er40 _ => ?_)))
     subst er40
     refine wF rfl tF_36_2 (wl_load 1 2 rfl rfl rfl (freshS_eq rfl) rfl rfl rfl (cs := [_]) rfl tS_34 tA_34 rfl rfl (wN rfl tE_34 (wP rfl (wl_as (d := 44) (v' := .bool (decide (50 < x40.args.length))) (S' := [_,_,_,_,_,_,_,_,_,_,_]) rfl rfl (natgt (a := x40.args.length) (b := 50)) (wl_nil (we_then (wc_keep [44,9,4,1,2,3] (S' := [_,_,_,_,_,_]) rfl ?_)))))))
     refine wc_cond rfl (fun hb44 => ?_) (fun hb44 => ?_)
     ·
      replace hm := iteT hm hb44
      refine wc_keep [] (S' := []) rfl (wc_seq (wc_region ?_))
      obtain ⟨v45, hc45, hm⟩ := bindO_some hm
      refine wC [] [0] rfl fn_6 rfl (w_ropewalklaw10_awake_s N _ hc45) (asK [] rfl) rfl (H' := [_]) rfl ?_
      rintro _ _ _ ⟨rfl, rfl, rfl⟩
      refine wP rfl (wl_nil (we_then (wc_keep [8] (S' := [_]) rfl (wc_ret (we_block_ret (we_then_ret (we_then_ret (we_block_ret (we_then_ret ?_)))))))))
      have hE := (Option.some.inj hm).symm
      replace hE := link_inr hLu1 hE
      replace hE := link_inr hLj_2 hE
      replace hE := hE.symm
      subst hE
      refine ret_one (Hr := []) [] Tryz.results22 (res_tmp rfl) ⟨rfl, rfl, rfl⟩ (asK [] rfl) rfl rfl (.inl rfl)
     ·
      replace hm := iteF hm hb44
      refine wc_keep [9,4,1,2,3] (S' := [_,_,_,_,_]) rfl (wc_skip (we_block_normal (we_then (wc_region (wP rfl (wP rfl ?_))))))
      obtain ⟨hg37, hm⟩ := gd_some hm
      refine wl_as (d := 37) (v' := .int .i64 ((u1_9 + 1 : Nat) : Int)) (S' := [_,_,_,_,_,_]) rfl rfl (nat_add (a := u1_9) (b := 1) hg37) (wl_pure (S' := [_,_,_,_,_,_]) rfl rfl rfl rfl rfl (wl_nil ?_))
      have hE := (Option.some.inj hm).symm
      replace hE := link_inl hLu1 hE
      refine we_roundK (_, u1_9 + 1) (Nat.lt_succ_self _) hE [9,4,1,2,3] rfl (asK [3,4,5,6,7] rfl) rfl
    ·
     replace hm := iteF hm hb35
     refine wc_keep [4,1,2,3] (S' := [_,_,_,_]) rfl (wc_exit (we_then_exit (we_then_exit (we_block_hit ?_))))
     have hE := (Option.some.inj hm).symm
     replace hE := link_inr hLu1 hE
     refine we_join () hE [4,1,2,3] rfl (asK [0,1,2,3,4] rfl) rfl
   ·
    rintro _ hE
    try dsimp only
    have hm := link_inl hLj_2 hE
    try dsimp only at hm
    refine wc_seq (wc_region (wP rfl ?_))
    obtain ⟨v47, hc47, hm⟩ := bindO_some hm
    refine wC [] [0] rfl fn_36 rfl (w_ropewalkkit_LentFacts_s N qp8 qc9 l12 _ hc47) (asK [4] rfl) rfl (H' := [_]) rfl ?_
    rintro _ _ _ ⟨p47_0, c47_1, c47_2, rfl, rfl, rfl⟩
    refine wP rfl (wl_nil (we_then (wc_keep [10,4,1,2,3] (S' := [_,_,_,_,_]) rfl (wc_seq (wc_region (wP rfl (wP rfl (wl_build rfl rfl rfl (freshS_eq rfl) rfl tZ_44 tP_44 rfl (out := [_,_]) rfl (wl_alloc rfl rfl rfl (freshS_eq rfl) rfl tZ_44 rfl (fun g11 => (wS 0 0 rfl tS_44 (all' := [_,_]) rfl (H' := [_,_,_]) rfl (wl_nil (we_then (wc_keep [11,10,4,1,2,3] (S' := [_,_,_,_,_,_]) rfl ?_))))))))))))))
    refine wc_seq ?_
    obtain ⟨hzl2, hm⟩ := gd_some hm
    obtain ⟨v54, hc54, hm⟩ := bindO_some hm
    obtain ⟨v60, hc60, hm⟩ := bindO_some hm
    rcases ite_some hm with ⟨hs62, hm⟩ | ⟨hs62, hm⟩
    ·
     obtain ⟨v65, hc65, hm⟩ := bindO_some hm
     rcases ite_some hm with ⟨hs67, hm⟩ | ⟨hs67, hm⟩
     ·
      obtain ⟨v68, hc68, hm⟩ := bindO_some hm
      refine wc_draw [0,1,2,4,5,6,7,8,10,11,12,13,15,16,18] rfl rfl (fun hok => (wx_loadH hok 0 2 0 rfl rfl rfl (freshS_eq rfl) rfl rfl rfl rfl (cs := [_,_,_,_,_,_,_,_,_,_]) rfl tS_33 tA_33 rfl rfl (wx_loadH hok 1 0 0 rfl rfl rfl (freshS_eq rfl) rfl rfl rfl rfl (cs := [_,_]) rfl tS_44 tA_44 rfl rfl (xP hok 2 rfl (wx_loadH hok 4 2 0 rfl rfl rfl (freshS_eq rfl) rfl rfl rfl rfl (cs := [_,_,_,_,_,_,_,_,_,_]) rfl tS_33 tA_33 rfl rfl (xP hok 5 rfl (xP hok 6 rfl (wx_build hok 7 rfl rfl rfl (freshS_eq rfl) rfl rfl tZ_47 tP_47 rfl (out := [_,_]) rfl (xP hok 8 rfl (xS hok 3 rfl (wl_treeLen 1 rfl (fun hzt6 _ => ?_))))))))))))
      subst hzt6
      refine wl_at 5 (v' := .slice p47_0 (((v47.map to_FactD).take l12.length).length) c47_1) rfl (by rw [takeM_len hzl2]) (wl_at 9 (v' := .slice p47_0 (((v47.map to_FactD).take l12.length).length) c47_1) rfl (by rw [takeM_len hzl2]) (wl_lend [] [0,1,2] [1] rfl rfl rfl (freshS_eq rfl) rfl rfl fn_37 rfl (w_pattern_Some_s N a0 a1 qp0 qc1 l2 a3 a4 a5 a6 a7 a8 qp2 qc3 l9 qp4 qc5 l10 qp6 qc7 l11 p47_0 c47_1 ((v47.map to_FactD).take l12.length) _ hc54) (fun F w hφ hh => (ask_cons (hφ _ (mem_at (k := 0) rfl)) (ask_cons (hφ _ (mem_at (k := 1) rfl)) (ask_cons (hφ _ (mem_at (k := 2) rfl)) (ask_cons (hφ _ (mem_at (k := 3) rfl)) (ask_cons (sli_take (tree_sliM TS_FactD_lend (hh _ (mem_at (k := 0) rfl)) (fun _ h => h) (fun _ h => h)) l12.length) ask_nil)))))) (fun _ _ _ hR => by obtain ⟨rfl, rfl, rfl⟩ := hR; exact ⟨rfl, (fun _ h => free_nil h)⟩) rfl rfl (H' := [_,_,_]) rfl ?_))
      rintro _ _ _ ⟨rfl, rfl, rfl⟩
      refine wl_at 6 (v' := .slice p47_0 l12.length c47_1) rfl (by rw [takeM_len hzl2]) (wl_at 10 (v' := .slice p47_0 l12.length c47_1) rfl (by rw [takeM_len hzl2]) (wl_nil (we_x [0,1,2,3,4] [2] rfl rfl (xS hok 9 rfl (wC [] [0,1,2] rfl fn_38 rfl (w_ropewalkref10_Some_s N a0 a1 qp0 qc1 l2 a3 a4 a5 a6 a7 a8 qp2 qc3 l9 qp4 qc5 l10 qp6 qc7 l11 qp8 qc9 l12 _ hc60) (asK [0,1,2,3,4] rfl) rfl (H' := [_,_,_]) rfl ?_)))))
      rintro _ _ _ ⟨rfl, rfl, rfl⟩
      refine wl_nil (we_x [0,1,2,3,4] [0,2] rfl rfl (wx_bin hok 10 rfl rfl rfl (freshS_eq rfl) rfl rfl rfl rfl (eqlB _ _ v54 v60) (xP hok 11 rfl (wx_as (d := 62) (v' := .bool true) (S' := [_,_,_,_,_,_,_,_,_,_,_,_,_,_,_,_,_]) rfl rfl (bool_is hs62) (xP hok 12 rfl (xP hok 13 rfl (xS hok 14 rfl (wl_lend [] [0,1,2] [1] rfl rfl rfl (freshS_eq rfl) rfl rfl fn_39 rfl (w_ropewalkkit_KeptFacts_W_s N p47_0 c47_1 v47 l12.length qp8 qc9 l12 _ hc65) (fun F w hφ hh => (ask_cons (tree_sli TS_FactD_lendS (hh _ (mem_at (k := 0) rfl)) (fun _ h => h) (fun _ h => h)) (ask_cons (hφ _ (mem_at (k := 4) rfl)) ask_nil))) (fun _ _ _ hR => by obtain ⟨rfl, rfl, rfl⟩ := hR; exact ⟨rfl, (fun _ h => free_nil h)⟩) rfl rfl (H' := [_,_,_]) rfl ?_))))))))
      rintro _ _ _ ⟨rfl, rfl, rfl⟩
      refine wl_nil (we_x [0,1,2,3,4] [2,0,2] rfl rfl (xP hok 15 rfl (xP hok 16 rfl (xS hok 17 rfl (wl_as (d := 67) (v' := .bool true) (S' := [_,_,_,_,_,_,_,_,_,_,_,_,_,_,_,_,_,_,_,_,_,_]) rfl rfl (bool_is hs67) (wC [] [0,1,2] rfl fn_6 rfl (w_ropewalklaw10_awake_s N _ hc68) (asK [] rfl) rfl (H' := [_,_,_]) rfl ?_))))))
      rintro _ _ _ ⟨rfl, rfl, rfl⟩
      refine wl_nil (we_x [0,1,2,3,4] [2,0,2] rfl rfl (xP hok 18 rfl (xS hok 19 rfl (wP rfl (wl_nil (we_x [0,1,2,3,4] [] rfl rfl (wx_done hok rfl (we_then (wc_keep [8] (S' := [_]) rfl (wc_ret ?_))))))))))
      have hE := (Option.some.inj hm).symm
      replace hE := hE.symm
      subst hE
      refine ret_one (Hr := []) [] Tryz.results22 (res_tmp rfl) ⟨rfl, rfl, rfl⟩ (asK [] rfl) rfl rfl (.inl rfl)
     ·
      refine wc_draw [0,1,2,4,5,6,7,8,10,11,12,13,15,16,18] rfl rfl (fun hok => (wx_loadH hok 0 2 0 rfl rfl rfl (freshS_eq rfl) rfl rfl rfl rfl (cs := [_,_,_,_,_,_,_,_,_,_]) rfl tS_33 tA_33 rfl rfl (wx_loadH hok 1 0 0 rfl rfl rfl (freshS_eq rfl) rfl rfl rfl rfl (cs := [_,_]) rfl tS_44 tA_44 rfl rfl (xP hok 2 rfl (wx_loadH hok 4 2 0 rfl rfl rfl (freshS_eq rfl) rfl rfl rfl rfl (cs := [_,_,_,_,_,_,_,_,_,_]) rfl tS_33 tA_33 rfl rfl (xP hok 5 rfl (xP hok 6 rfl (wx_build hok 7 rfl rfl rfl (freshS_eq rfl) rfl rfl tZ_47 tP_47 rfl (out := [_,_]) rfl (xP hok 8 rfl (xS hok 3 rfl (wl_treeLen 1 rfl (fun hzt7 _ => ?_))))))))))))
      subst hzt7
      refine wl_at 5 (v' := .slice p47_0 (((v47.map to_FactD).take l12.length).length) c47_1) rfl (by rw [takeM_len hzl2]) (wl_at 9 (v' := .slice p47_0 (((v47.map to_FactD).take l12.length).length) c47_1) rfl (by rw [takeM_len hzl2]) (wl_lend [] [0,1,2] [1] rfl rfl rfl (freshS_eq rfl) rfl rfl fn_37 rfl (w_pattern_Some_s N a0 a1 qp0 qc1 l2 a3 a4 a5 a6 a7 a8 qp2 qc3 l9 qp4 qc5 l10 qp6 qc7 l11 p47_0 c47_1 ((v47.map to_FactD).take l12.length) _ hc54) (fun F w hφ hh => (ask_cons (hφ _ (mem_at (k := 0) rfl)) (ask_cons (hφ _ (mem_at (k := 1) rfl)) (ask_cons (hφ _ (mem_at (k := 2) rfl)) (ask_cons (hφ _ (mem_at (k := 3) rfl)) (ask_cons (sli_take (tree_sliM TS_FactD_lend (hh _ (mem_at (k := 0) rfl)) (fun _ h => h) (fun _ h => h)) l12.length) ask_nil)))))) (fun _ _ _ hR => by obtain ⟨rfl, rfl, rfl⟩ := hR; exact ⟨rfl, (fun _ h => free_nil h)⟩) rfl rfl (H' := [_,_,_]) rfl ?_))
      rintro _ _ _ ⟨rfl, rfl, rfl⟩
      refine wl_at 6 (v' := .slice p47_0 l12.length c47_1) rfl (by rw [takeM_len hzl2]) (wl_at 10 (v' := .slice p47_0 l12.length c47_1) rfl (by rw [takeM_len hzl2]) (wl_nil (we_x [0,1,2,3,4] [2] rfl rfl (xS hok 9 rfl (wC [] [0,1,2] rfl fn_38 rfl (w_ropewalkref10_Some_s N a0 a1 qp0 qc1 l2 a3 a4 a5 a6 a7 a8 qp2 qc3 l9 qp4 qc5 l10 qp6 qc7 l11 qp8 qc9 l12 _ hc60) (asK [0,1,2,3,4] rfl) rfl (H' := [_,_,_]) rfl ?_)))))
      rintro _ _ _ ⟨rfl, rfl, rfl⟩
      refine wl_nil (we_x [0,1,2,3,4] [0,2] rfl rfl (wx_bin hok 10 rfl rfl rfl (freshS_eq rfl) rfl rfl rfl rfl (eqlB _ _ v54 v60) (xP hok 11 rfl (wx_as (d := 62) (v' := .bool true) (S' := [_,_,_,_,_,_,_,_,_,_,_,_,_,_,_,_,_]) rfl rfl (bool_is hs62) (xP hok 12 rfl (xP hok 13 rfl (xS hok 14 rfl (wl_lend [] [0,1,2] [1] rfl rfl rfl (freshS_eq rfl) rfl rfl fn_39 rfl (w_ropewalkkit_KeptFacts_W_s N p47_0 c47_1 v47 l12.length qp8 qc9 l12 _ hc65) (fun F w hφ hh => (ask_cons (tree_sli TS_FactD_lendS (hh _ (mem_at (k := 0) rfl)) (fun _ h => h) (fun _ h => h)) (ask_cons (hφ _ (mem_at (k := 4) rfl)) ask_nil))) (fun _ _ _ hR => by obtain ⟨rfl, rfl, rfl⟩ := hR; exact ⟨rfl, (fun _ h => free_nil h)⟩) rfl rfl (H' := [_,_,_]) rfl ?_))))))))
      rintro _ _ _ ⟨rfl, rfl, rfl⟩
      refine wl_nil (we_x [0,1,2,3,4] [2,0,2] rfl rfl (xP hok 15 rfl (xP hok 16 rfl (xS hok 17 rfl (wl_as (d := 67) (v' := .bool false) (S' := [_,_,_,_,_,_,_,_,_,_,_,_,_,_,_,_,_,_,_,_,_,_]) rfl rfl (bool_is hs67) (wO rfl (wl_nil (we_x [0,1,2,3,4] [2,0,2] rfl rfl (xP hok 18 rfl (xS hok 19 rfl (wP rfl (wl_nil (we_x [0,1,2,3,4] [] rfl rfl ?_)))))))))))))
      refine wx_done hok rfl (we_then (wc_keep [8] (S' := [_]) rfl (wc_ret ?_)))
      have hE := (Option.some.inj hm).symm
      replace hE := hE.symm
      subst hE
      refine ret_one (Hr := []) [] Tryz.results22 (res_tmp rfl) ⟨rfl, rfl, rfl⟩ (asK [] rfl) rfl rfl (.inl rfl)
    ·
     refine wc_draw [0,1,2,4,5,6,7,8,10,11,12,13,15,16,18] rfl rfl (fun hok => (wx_loadH hok 0 2 0 rfl rfl rfl (freshS_eq rfl) rfl rfl rfl rfl (cs := [_,_,_,_,_,_,_,_,_,_]) rfl tS_33 tA_33 rfl rfl (wx_loadH hok 1 0 0 rfl rfl rfl (freshS_eq rfl) rfl rfl rfl rfl (cs := [_,_]) rfl tS_44 tA_44 rfl rfl (xP hok 2 rfl (wx_loadH hok 4 2 0 rfl rfl rfl (freshS_eq rfl) rfl rfl rfl rfl (cs := [_,_,_,_,_,_,_,_,_,_]) rfl tS_33 tA_33 rfl rfl (xP hok 5 rfl (xP hok 6 rfl (wx_build hok 7 rfl rfl rfl (freshS_eq rfl) rfl rfl tZ_47 tP_47 rfl (out := [_,_]) rfl (xP hok 8 rfl (xS hok 3 rfl (wl_treeLen 1 rfl (fun hzt8 _ => ?_))))))))))))
     subst hzt8
     refine wl_at 5 (v' := .slice p47_0 (((v47.map to_FactD).take l12.length).length) c47_1) rfl (by rw [takeM_len hzl2]) (wl_at 9 (v' := .slice p47_0 (((v47.map to_FactD).take l12.length).length) c47_1) rfl (by rw [takeM_len hzl2]) (wl_lend [] [0,1,2] [1] rfl rfl rfl (freshS_eq rfl) rfl rfl fn_37 rfl (w_pattern_Some_s N a0 a1 qp0 qc1 l2 a3 a4 a5 a6 a7 a8 qp2 qc3 l9 qp4 qc5 l10 qp6 qc7 l11 p47_0 c47_1 ((v47.map to_FactD).take l12.length) _ hc54) (fun F w hφ hh => (ask_cons (hφ _ (mem_at (k := 0) rfl)) (ask_cons (hφ _ (mem_at (k := 1) rfl)) (ask_cons (hφ _ (mem_at (k := 2) rfl)) (ask_cons (hφ _ (mem_at (k := 3) rfl)) (ask_cons (sli_take (tree_sliM TS_FactD_lend (hh _ (mem_at (k := 0) rfl)) (fun _ h => h) (fun _ h => h)) l12.length) ask_nil)))))) (fun _ _ _ hR => by obtain ⟨rfl, rfl, rfl⟩ := hR; exact ⟨rfl, (fun _ h => free_nil h)⟩) rfl rfl (H' := [_,_,_]) rfl ?_))
     rintro _ _ _ ⟨rfl, rfl, rfl⟩
     refine wl_at 6 (v' := .slice p47_0 l12.length c47_1) rfl (by rw [takeM_len hzl2]) (wl_at 10 (v' := .slice p47_0 l12.length c47_1) rfl (by rw [takeM_len hzl2]) (wl_nil (we_x [0,1,2,3,4] [2] rfl rfl (xS hok 9 rfl (wC [] [0,1,2] rfl fn_38 rfl (w_ropewalkref10_Some_s N a0 a1 qp0 qc1 l2 a3 a4 a5 a6 a7 a8 qp2 qc3 l9 qp4 qc5 l10 qp6 qc7 l11 qp8 qc9 l12 _ hc60) (asK [0,1,2,3,4] rfl) rfl (H' := [_,_,_]) rfl ?_)))))
     rintro _ _ _ ⟨rfl, rfl, rfl⟩
     refine wl_nil (we_x [0,1,2,3,4] [0,2] rfl rfl (wx_bin hok 10 rfl rfl rfl (freshS_eq rfl) rfl rfl rfl rfl (eqlB _ _ v54 v60) (xP hok 11 rfl (wx_as (d := 62) (v' := .bool false) (S' := [_,_,_,_,_,_,_,_,_,_,_,_,_,_,_,_,_]) rfl rfl (bool_is hs62) (xO hok 12 rfl (xO hok 13 rfl (xS hok 14 rfl (wO rfl (wl_nil (we_x [0,1,2,3,4] [2,0,2] rfl rfl (xP hok 15 rfl (xP hok 16 rfl (xS hok 17 rfl ?_)))))))))))))
     refine wO rfl (wl_nil (we_x [0,1,2,3,4] [2,0,2] rfl rfl (xP hok 18 rfl (xS hok 19 rfl (wP rfl (wl_nil (we_x [0,1,2,3,4] [] rfl rfl (wx_done hok rfl (we_then (wc_keep [8] (S' := [_]) rfl (wc_ret ?_)))))))))))
     have hE := (Option.some.inj hm).symm
     replace hE := hE.symm
     subst hE
     refine ret_one (Hr := []) [] Tryz.results22 (res_tmp rfl) ⟨rfl, rfl, rfl⟩ (asK [] rfl) rfl rfl (.inl rfl)
end Go.Proofs.YtalbennlmcpnmaaGreat
