/- Walks, printed by a program out of the loaded code. -/
import Derived.Test.YtighbinghbnjhaaXW2
namespace Go.Proofs.Ytighbinghbnjhaa
open Go.RowKit
set_option maxRecDepth 100000 in
set_option maxHeartbeats 4000000 in
theorem m_ropewalklaw27_SessionOf_s (N : Nat) (qp0 : Option Addr) (qc1 : Nat) (l2 : List Ropewalklaw27_DoD) (qp3 : Option Addr) (qc4 : Nat) (l5 : List Ropewalklaw27_DoD) (o0 : Bool) (hm : m_ropewalklaw27_SessionOf N l2 l5 = some o0) : Spec Try.prog 5 [.slice qp0 l2.length qc1, .slice qp3 l5.length qc4] [.sli 7 R_Ropewalklaw27_DoD qp0 qc1 l2, .sli 7 R_Ropewalklaw27_DoD qp3 qc4 l5] [] (fun v Φr Hr => v = .bool o0 ∧ Φr = [] ∧ Hr = []) := by
 unfold m_ropewalklaw27_SessionOf at hm
 refine spec_of Try.func5 rfl Try.ntmps5 rfl (S := [_,_]) rfl (fun C => ?_)
 refine wc_seq ?_
 refine wc_region ?_
 refine wl_pure rfl rfl rfl (freshS_eq rfl) rfl ?_
 refine wl_nil ?_
 refine we_then ?_
 refine wc_keep [0, 1] (S' := [_,_]) rfl ?_
 refine wc_seq ?_
 refine wc_seq ?_
 refine wc_region ?_
 obtain ⟨v10, hc10, hm⟩ := bindO_some hm
 refine wl_call [] [] rfl rfl rfl (freshS_eq rfl) rfl rfl fn_6 rfl (m_ropewalklaw27_awake_s N _ hc10) (fun _ _ hφ => ask [] rfl hφ) rfl (H' := []) rfl ?_
 rintro _ _ _ ⟨rfl, rfl, rfl⟩
 refine wl_pure rfl rfl rfl (freshS_eq rfl) rfl ?_
 refine wl_nil ?_
 refine we_then ?_
 refine wc_keep [11, 0, 1] (S' := [_,_,_]) rfl ?_
 refine wc_cond rfl (fun hb11 => ?_) (fun hb11 => ?_)
 ·
  replace hm := iteT hm hb11
  refine wc_keep [] (S' := []) rfl ?_
  refine wc_seq ?_
  refine wc_region ?_
  refine wl_pure rfl rfl rfl (freshS_eq rfl) rfl ?_
  refine wl_nil ?_
  refine we_then ?_
  refine wc_ret ?_
  refine we_then_ret ?_
  have hE := (Option.some.inj hm).symm
  replace hE := hE.symm
  subst hE
  refine ret_one (Hr := []) [] Try.results5 (res_tmp rfl) ⟨rfl, rfl, rfl⟩ (fun _ _ hφ => ask [] rfl hφ) rfl rfl (.inl rfl)
 ·
  replace hm := iteF hm hb11
  refine wc_keep [0, 1] (S' := [_,_]) rfl ?_
  refine wc_skip ?_
  refine we_then ?_
  refine wc_seq ?_
  refine wc_region ?_
  obtain ⟨_, hc12, hm⟩ := bindO_some hm
  try dsimp only at hm
  refine wl_call [] [] rfl rfl rfl (freshS_eq rfl) rfl rfl fn_7 rfl (m_session_New_s N  hc12) (fun _ _ hφ => ask [] rfl hφ) rfl (H' := []) rfl ?_
  rintro _ _ _ ⟨c12_0, rfl, rfl, rfl⟩
  refine wl_pure rfl rfl rfl (freshS_eq rfl) rfl ?_
  refine wl_nil ?_
  refine we_then ?_
  refine wc_keep [5, 0, 1] (S' := [_,_,_]) rfl ?_
  refine wc_seq ?_
  obtain ⟨bj_1, hm, hLj_1⟩ := bindS_some hm
  refine wc_cut (σ := (List SessD) × Int × (Option Addr) × Nat × Nat) (fun (j_1_5_f0_l, j_1_5_f1, j_1_5_f0_p, j_1_5_f0_c, j_1_5_f0_n) => bj_1 = .inl (j_1_5_f0_l, j_1_5_f1)) (fun (j_1_5_f0_l, j_1_5_f1, j_1_5_f0_p, j_1_5_f0_c, j_1_5_f0_n) => [(5, .pointer (some ⟨c12_0, 0, none⟩)), (1, .slice qp3 l5.length qc4)]) (fun (j_1_5_f0_l, j_1_5_f1, j_1_5_f0_p, j_1_5_f0_c, j_1_5_f0_n) => [.sli 7 R_Ropewalklaw27_DoD qp3 qc4 l5]) (fun (j_1_5_f0_l, j_1_5_f1, j_1_5_f0_p, j_1_5_f0_c, j_1_5_f0_n) => [.blk c12_0 [.slice j_1_5_f0_p j_1_5_f0_n j_1_5_f0_c, .int .i64 j_1_5_f1] 50, .own 62 6 R_SessD (.slice j_1_5_f0_p j_1_5_f0_n j_1_5_f0_c) j_1_5_f0_l]) ?_ ?_
  ·
   refine wc_seq ?_
   refine wc_region ?_
   refine wl_pure rfl rfl rfl (freshS_eq rfl) rfl ?_
   refine wl_nil ?_
   refine we_then ?_
   refine wc_block ?_
   refine wc_rowNil 62 6 R_SessD ?_
   refine wc_pick [1, 0] rfl (H' := [_,_]) rfl ?_
   refine wc_loop (σ := Nat × Nat × (List SessD) × Int × (Option Addr) × Nat × Nat) (fun (nu1, u1_6, u1_5_f0_l, u1_5_f1, u1_5_f0_p, u1_5_f0_c, u1_5_f0_n) => iter (m_ropewalklaw27_SessionOf_L1 N l2) nu1 (u1_6, u1_5_f0_l, u1_5_f1) = some bj_1) (fun (nu1, u1_6, u1_5_f0_l, u1_5_f1, u1_5_f0_p, u1_5_f0_c, u1_5_f0_n) => nu1) (fun (nu1, u1_6, u1_5_f0_l, u1_5_f1, u1_5_f0_p, u1_5_f0_c, u1_5_f0_n) => [(6, .int .i64 ((u1_6 : Nat) : Int)), (5, .pointer (some ⟨c12_0, 0, none⟩)), (0, .slice qp0 l2.length qc1), (1, .slice qp3 l5.length qc4)]) (fun (nu1, u1_6, u1_5_f0_l, u1_5_f1, u1_5_f0_p, u1_5_f0_c, u1_5_f0_n) => [.sli 7 R_Ropewalklaw27_DoD qp0 qc1 l2, .sli 7 R_Ropewalklaw27_DoD qp3 qc4 l5]) (fun (nu1, u1_6, u1_5_f0_l, u1_5_f1, u1_5_f0_p, u1_5_f0_c, u1_5_f0_n) => [.blk c12_0 [.slice u1_5_f0_p u1_5_f0_n u1_5_f0_c, .int .i64 u1_5_f1] 50, .own 62 6 R_SessD (.slice u1_5_f0_p u1_5_f0_n u1_5_f0_c) u1_5_f0_l]) (N, 0, [], 1, none, 0, 0) hm [6, 5, 0, 1] rfl (fun _ _ hφ => ask [0, 1] rfl hφ) rfl (fun s_ hm => ?_)
   obtain ⟨nu1, u1_6, u1_5_f0_l, u1_5_f1, u1_5_f0_p, u1_5_f0_c, u1_5_f0_n⟩ := s_
   try dsimp only at hm ⊢
   obtain ⟨mu1, bu1, hnu1, hq, hLu1⟩ := iter_some hm
   clear hm
   subst hnu1
   replace hm := hq
   clear hq
   unfold m_ropewalklaw27_SessionOf_L1 at hm
   try dsimp only at hm
   refine wc_seq ?_
   refine wc_seq ?_
   obtain ⟨bj_2, hm, hLj_2⟩ := bindO_some hm
   refine wc_cut (σ := Bool) (fun j_2_20 => bj_2 = j_2_20) (fun j_2_20 => [(6, .int .i64 ((u1_6 : Nat) : Int)), (5, .pointer (some ⟨c12_0, 0, none⟩)), (0, .slice qp0 l2.length qc1), (1, .slice qp3 l5.length qc4), (20, .bool j_2_20)]) (fun j_2_20 => [.sli 7 R_Ropewalklaw27_DoD qp0 qc1 l2, .sli 7 R_Ropewalklaw27_DoD qp3 qc4 l5]) (fun j_2_20 => [.blk c12_0 [.slice u1_5_f0_p u1_5_f0_n u1_5_f0_c, .int .i64 u1_5_f1] 50, .own 62 6 R_SessD (.slice u1_5_f0_p u1_5_f0_n u1_5_f0_c) u1_5_f0_l]) ?_ ?_
   ·
    refine wc_region ?_
    refine wl_pure rfl rfl rfl (freshS_eq rfl) rfl ?_
    refine wl_pure rfl rfl rfl (freshS_eq rfl) rfl ?_
    refine wl_len rfl rfl rfl (freshS_eq rfl) rfl rfl tE_22 ?_
    refine wl_pure rfl rfl rfl (freshS_eq rfl) rfl ?_
    refine wl_as (d := 16) (v' := .bool (decide (u1_6 < l2.length))) (S' := [_,_,_,_,_,_,_]) rfl rfl (natlt (a := u1_6) (b := l2.length)) ?_
    refine wl_pure rfl rfl rfl (freshS_eq rfl) rfl ?_
    refine wl_split (d := 17) (S' := [_,_,_,_,_,_,_,_]) rfl rfl (fun hs17 => ?_) (fun hs17 => ?_)
    ·
     replace hm := iteT hm hs17
     refine wl_pure rfl rfl rfl (freshS_eq rfl) rfl ?_
     refine wl_pure rfl rfl rfl (freshS_eq rfl) rfl ?_
     refine wl_as (d := 19) (v' := .bool (decide (u1_6 < 120))) (S' := [_,_,_,_,_,_,_,_,_,_]) rfl rfl (natlt (a := u1_6) (b := 120)) ?_
     refine wl_pure rfl rfl rfl (freshS_eq rfl) rfl ?_
     refine wl_nil ?_
     have hE := (Option.some.inj hm).symm
     refine we_join (decide (u1_6 < 120)) hE [6, 5, 0, 1, 20] rfl (fun _ _ hφ => ask [0, 1] rfl hφ) rfl
    ·
     replace hm := iteF hm hs17
     refine wl_off rfl rfl rfl (freshS_eq rfl) ?_
     refine wl_off rfl rfl rfl (freshS_eq rfl) ?_
     refine wl_pure rfl rfl rfl (freshS_eq rfl) rfl ?_
     refine wl_nil ?_
     have hE := (Option.some.inj hm).symm
     refine we_join false hE [6, 5, 0, 1, 20] rfl (fun _ _ hφ => ask [0, 1] rfl hφ) rfl
   ·
    rintro j_2_20 hE
    try dsimp only
    have hm := hLj_2
    rw [hE] at hm
    refine wc_cond rfl (fun hb20 => ?_) (fun hb20 => ?_)
    ·
     replace hm := iteT hm hb20
     refine wc_keep [6, 5, 0, 1] (S' := [_,_,_,_]) rfl ?_
     refine wc_skip ?_
     refine we_then ?_
     refine wc_seq ?_
     refine wc_block ?_
     refine wc_seq ?_
     refine wc_seq ?_
     refine wc_region ?_
     refine wl_pure rfl rfl rfl (freshS_eq rfl) rfl ?_
     refine wl_pure rfl rfl rfl (freshS_eq rfl) rfl ?_
     obtain ⟨x25, hx25, hm⟩ := bindO_some hm
     refine wl_indexA 0 u1_6 rfl rfl rfl (freshS_eq rfl) rfl rfl rfl rfl rfl hx25 tE_22 tS_34 (fun b25 q25 cs25 hlx25 => ?_)
     refine wl_open R_Ropewalklaw27_DoD_opens 1 rfl (fun r25 er25 _ => ?_)
     subst er25
     refine wl_fieldAddr rfl rfl rfl (freshS_eq rfl) rfl rfl tF_34_3 ?_
     refine wl_load 2 3 rfl rfl rfl (freshS_eq rfl) rfl rfl rfl (cs := [_,_,_,_]) rfl tS_32 tA_32 rfl rfl ?_
     obtain ⟨v28, hc28, hm⟩ := bindO_some hm
     refine wl_call [] [0, 1] rfl rfl rfl (freshS_eq rfl) rfl rfl fn_16 rfl (m_ropewalklaw27_great_s N x25.reply.err x25.reply.num r25.1.1 r25.1.2 x25.reply.facts r25.2.1 r25.2.2 x25.reply.said _ hc28) (fun _ _ hφ => ask [0, 1] rfl hφ) rfl (H' := [_,_]) rfl ?_
     rintro _ _ _ ⟨rfl, rfl, rfl⟩
     refine wl_nil ?_
     refine we_then ?_
     refine wc_keep [28, 6, 5, 0, 1] (S' := [_,_,_,_,_]) rfl ?_
     refine wc_cond rfl (fun hb28 => ?_) (fun hb28 => ?_)
     ·
      replace hm := iteT hm hb28
      refine wc_keep [] (S' := []) rfl ?_
      refine wc_seq ?_
      refine wc_region ?_
      refine wl_pure rfl rfl rfl (freshS_eq rfl) rfl ?_
      refine wl_nil ?_
      refine we_then ?_
      refine wc_ret ?_
      refine we_then_ret ?_
      refine we_block_ret ?_
      refine we_then_ret ?_
      refine we_then_ret ?_
      refine we_block_ret ?_
      refine we_then_ret ?_
      have hE := (Option.some.inj hm).symm
      replace hE := link_inr hLu1 hE
      replace hE := link_inr hLj_1 hE
      replace hE := hE.symm
      subst hE
      refine ret_one (Hr := []) [] Try.results5 (res_tmp rfl) ⟨rfl, rfl, rfl⟩ (fun _ _ hφ => ask [] rfl hφ) rfl rfl (.inl rfl)
     ·
      replace hm := iteF hm hb28
      refine wc_keep [6, 5, 0, 1] (S' := [_,_,_,_]) rfl ?_
      refine wc_skip ?_
      refine we_then ?_
      refine wc_region ?_
      refine wl_pure rfl rfl rfl (freshS_eq rfl) rfl ?_
      refine wl_pure rfl rfl rfl (freshS_eq rfl) rfl ?_
      refine wl_pure rfl rfl rfl (freshS_eq rfl) rfl ?_
      obtain ⟨x32, hx32, hm⟩ := bindO_some hm
      refine wl_indexA 4 u1_6 rfl rfl rfl (freshS_eq rfl) rfl rfl rfl rfl rfl hx32 tE_22 tS_34 (fun b32 q32 cs32 hlx32 => ?_)
      refine wl_open R_Ropewalklaw27_DoD_opens 1 rfl (fun r32 er32 _ => ?_)
      subst er32
      refine wl_load 2 0 rfl rfl rfl (freshS_eq rfl) rfl rfl rfl (cs := [_,_,_,_,_,_,_]) rfl tS_34 tA_34 rfl rfl ?_
      obtain ⟨⟨v34_0, v34_1, v34_2⟩, hc34, hm⟩ := bindO_some hm
      try dsimp only at hm
      refine wl_call [0, 1] [] rfl rfl rfl (freshS_eq rfl) rfl rfl fn_17 rfl (m_ropewalklaw27_do_s N c12_0 u1_5_f0_p u1_5_f0_n u1_5_f0_c u1_5_f0_l u1_5_f1 x32.op x32.id x32.seq x32.reply.err x32.reply.num r32.1.1 r32.1.2 x32.reply.facts r32.2.1 r32.2.2 x32.reply.said _ _ _ hc34) (fun _ _ hφ => ask [0, 1] rfl hφ) rfl (H' := []) rfl ?_
      rintro _ _ _ ⟨p34_0, c34_1, c34_2, rfl, rfl, rfl⟩
      refine wl_nil ?_
      refine we_block_normal ?_
      refine we_then ?_
      refine wc_keep [6, 5, 0, 1] (S' := [_,_,_,_]) rfl ?_
      refine wc_region ?_
      refine wl_pure rfl rfl rfl (freshS_eq rfl) rfl ?_
      refine wl_pure rfl rfl rfl (freshS_eq rfl) rfl ?_
      obtain ⟨hg22, hm⟩ := gd_some hm
      refine wl_as (d := 22) (v' := .int .i64 ((u1_6 + 1 : Nat) : Int)) (S' := [_,_,_,_,_]) rfl rfl (nat_add (a := u1_6) (b := 1) hg22) ?_
      refine wl_pure (S' := [_,_,_,_,_]) rfl rfl rfl rfl rfl ?_
      refine wl_nil ?_
      have hE := (Option.some.inj hm).symm
      replace hE := link_inl hLu1 hE
      refine we_roundK (_, u1_6 + 1, v34_1, v34_2, p34_0, c34_1, c34_2) (Nat.lt_succ_self _) hE [6, 5, 0, 1] rfl (fun _ _ hφ => ask [8, 9] rfl hφ) rfl
    ·
     replace hm := iteF hm hb20
     refine wc_keep [5, 1] (S' := [_,_]) rfl ?_
     refine wc_exit ?_
     refine we_then_exit ?_
     refine we_then_exit ?_
     refine we_block_hit ?_
     have hE := (Option.some.inj hm).symm
     replace hE := link_inr hLu1 hE
     refine we_join (u1_5_f0_l, u1_5_f1, u1_5_f0_p, u1_5_f0_c, u1_5_f0_n) hE [5, 1] rfl (fun _ _ hφ => ask [1] rfl hφ) rfl
  ·
   rintro ⟨j_1_5_f0_l, j_1_5_f1, j_1_5_f0_p, j_1_5_f0_c, j_1_5_f0_n⟩ hE
   try dsimp only
   have hm := link_inl hLj_1 hE
   try dsimp only at hm
   refine wc_seq ?_
   refine wc_region ?_
   refine wl_pure rfl rfl rfl (freshS_eq rfl) rfl ?_
   obtain ⟨v37, hc37, hm⟩ := bindO_some hm
   refine wl_call [0, 1] [] rfl rfl rfl (freshS_eq rfl) rfl rfl fn_15 rfl (m_session_Table_Next_s N c12_0 j_1_5_f0_p j_1_5_f0_n j_1_5_f0_c j_1_5_f0_l j_1_5_f1 _ hc37) (fun _ _ hφ => ask [] rfl hφ) rfl (H' := []) rfl ?_
   rintro _ _ _ ⟨rfl, rfl, rfl⟩
   refine wl_pure rfl rfl rfl (freshS_eq rfl) rfl ?_
   obtain ⟨v39, hc39, hm⟩ := bindO_some hm
   refine wl_call [0, 1] [] rfl rfl rfl (freshS_eq rfl) rfl rfl fn_10 rfl (m_session_Table_All_s N c12_0 j_1_5_f0_p j_1_5_f0_n j_1_5_f0_c j_1_5_f0_l j_1_5_f1 _ hc39) (fun _ _ hφ => ask [] rfl hφ) rfl (H' := []) rfl ?_
   rintro _ _ _ ⟨p39_0, c39_1, c39_2, rfl, rfl, rfl⟩
   obtain ⟨_ | v40, hc40, hm⟩ := bindO_some hm
   ·
    try dsimp only at hm
    refine wl_call [0] [1, 2] rfl rfl rfl (freshS_eq rfl) rfl rfl fn_18 rfl (m_session_Of_s0 N v37 p39_0 c39_2 c39_1 v39 hc40) (fun _ _ hφ => ask [] rfl hφ) rfl (H' := [_,_]) rfl ?_
    rintro _ _ _ ⟨rfl, rfl, rfl⟩
    refine wl_pure rfl rfl rfl (freshS_eq rfl) rfl ?_
    refine wl_pure rfl rfl rfl (freshS_eq rfl) rfl ?_
    refine wl_pure rfl rfl rfl (freshS_eq rfl) rfl ?_
    refine wl_pure rfl rfl rfl (freshS_eq rfl) rfl ?_
    refine wl_pure rfl rfl rfl (freshS_eq rfl) rfl ?_
    refine wl_nil ?_
    refine we_then ?_
    refine wc_keep [8, 7, 5, 1] (S' := [_,_,_,_]) rfl ?_
    refine wc_seq ?_
    refine wc_seq ?_
    refine wc_region ?_
    refine wl_pure rfl rfl rfl (freshS_eq rfl) rfl ?_
    refine wl_pure rfl rfl rfl (freshS_eq rfl) rfl ?_
    refine wl_as (d := 44) (v' := .bool (4 != 0)) (S' := [_,_,_,_,_]) rfl rfl (natne (a := 4) (b := 0)) ?_
    refine wl_nil ?_
    refine we_then ?_
    refine wc_keep [44, 7, 5, 1] (S' := [_,_,_,_]) rfl ?_
    refine wc_cond rfl (fun hb44 => ?_) (fun hb44 => ?_)
    ·
     replace hm := iteT hm hb44
     refine wc_keep [] (S' := []) rfl ?_
     refine wc_seq ?_
     refine wc_region ?_
     refine wl_pure rfl rfl rfl (freshS_eq rfl) rfl ?_
     refine wl_nil ?_
     refine we_then ?_
     refine wc_ret ?_
     refine we_then_ret ?_
     have hE := (Option.some.inj hm).symm
     replace hE := hE.symm
     subst hE
     refine ret_one (Hr := []) [] Try.results5 (res_tmp rfl) ⟨rfl, rfl, rfl⟩ (fun _ _ hφ => ask [] rfl hφ) rfl rfl (.inl rfl)
    ·
     replace hm := iteF hm hb44
     refine wc_keep [7, 5, 1] (S' := [_,_,_]) rfl ?_
     refine wc_skip ?_
     refine we_then ?_
     refine wc_seq ?_
     obtain ⟨bj_4, hm, hLj_4⟩ := bindS_some hm
     refine wc_cut (σ := (List SessD) × Int × (Option Addr) × Nat × Nat) (fun (j_4_5_f0_l, j_4_5_f1, j_4_5_f0_p, j_4_5_f0_c, j_4_5_f0_n) => bj_4 = .inl (j_4_5_f0_l, j_4_5_f1)) (fun (j_4_5_f0_l, j_4_5_f1, j_4_5_f0_p, j_4_5_f0_c, j_4_5_f0_n) => [(7, .pointer none), (5, .pointer (some ⟨c12_0, 0, none⟩))]) (fun (j_4_5_f0_l, j_4_5_f1, j_4_5_f0_p, j_4_5_f0_c, j_4_5_f0_n) => []) (fun (j_4_5_f0_l, j_4_5_f1, j_4_5_f0_p, j_4_5_f0_c, j_4_5_f0_n) => [.blk c12_0 [.slice j_4_5_f0_p j_4_5_f0_n j_4_5_f0_c, .int .i64 j_4_5_f1] 50, .own 62 6 R_SessD (.slice j_4_5_f0_p j_4_5_f0_n j_4_5_f0_c) j_4_5_f0_l]) ?_ ?_
     ·
      refine wc_seq ?_
      refine wc_region ?_
      refine wl_pure rfl rfl rfl (freshS_eq rfl) rfl ?_
      refine wl_nil ?_
      refine we_then ?_
      refine wc_block ?_
      refine wc_pick [1, 2] rfl (H' := [_,_]) rfl ?_
      refine wc_loop (σ := Nat × Nat × (List SessD) × Int × (Option Addr) × Nat × Nat) (fun (nu2, u2_9, u2_5_f0_l, u2_5_f1, u2_5_f0_p, u2_5_f0_c, u2_5_f0_n) => iter (m_ropewalklaw27_SessionOf_L2 N l5) nu2 (u2_9, u2_5_f0_l, u2_5_f1) = some bj_4) (fun (nu2, u2_9, u2_5_f0_l, u2_5_f1, u2_5_f0_p, u2_5_f0_c, u2_5_f0_n) => nu2) (fun (nu2, u2_9, u2_5_f0_l, u2_5_f1, u2_5_f0_p, u2_5_f0_c, u2_5_f0_n) => [(9, .int .i64 ((u2_9 : Nat) : Int)), (7, .pointer none), (5, .pointer (some ⟨c12_0, 0, none⟩)), (1, .slice qp3 l5.length qc4)]) (fun (nu2, u2_9, u2_5_f0_l, u2_5_f1, u2_5_f0_p, u2_5_f0_c, u2_5_f0_n) => [.sli 7 R_Ropewalklaw27_DoD qp3 qc4 l5]) (fun (nu2, u2_9, u2_5_f0_l, u2_5_f1, u2_5_f0_p, u2_5_f0_c, u2_5_f0_n) => [.blk c12_0 [.slice u2_5_f0_p u2_5_f0_n u2_5_f0_c, .int .i64 u2_5_f1] 50, .own 62 6 R_SessD (.slice u2_5_f0_p u2_5_f0_n u2_5_f0_c) u2_5_f0_l]) (N, 0, j_1_5_f0_l, j_1_5_f1, j_1_5_f0_p, j_1_5_f0_c, j_1_5_f0_n) hm [9, 7, 5, 1] rfl (fun _ _ hφ => ask [0] rfl hφ) rfl (fun s_ hm => ?_)
      obtain ⟨nu2, u2_9, u2_5_f0_l, u2_5_f1, u2_5_f0_p, u2_5_f0_c, u2_5_f0_n⟩ := s_
      try dsimp only at hm ⊢
      obtain ⟨mu2, bu2, hnu2, hq, hLu2⟩ := iter_some hm
      clear hm
      subst hnu2
      replace hm := hq
      clear hq
      unfold m_ropewalklaw27_SessionOf_L2 at hm
      try dsimp only at hm
      refine wc_seq ?_
      refine wc_seq ?_
      obtain ⟨bj_5, hm, hLj_5⟩ := bindO_some hm
      refine wc_cut (σ := Bool) (fun j_5_52 => bj_5 = j_5_52) (fun j_5_52 => [(9, .int .i64 ((u2_9 : Nat) : Int)), (7, .pointer none), (5, .pointer (some ⟨c12_0, 0, none⟩)), (1, .slice qp3 l5.length qc4), (52, .bool j_5_52)]) (fun j_5_52 => [.sli 7 R_Ropewalklaw27_DoD qp3 qc4 l5]) (fun j_5_52 => [.blk c12_0 [.slice u2_5_f0_p u2_5_f0_n u2_5_f0_c, .int .i64 u2_5_f1] 50, .own 62 6 R_SessD (.slice u2_5_f0_p u2_5_f0_n u2_5_f0_c) u2_5_f0_l]) ?_ ?_
      ·
       refine wc_region ?_
       refine wl_pure rfl rfl rfl (freshS_eq rfl) rfl ?_
       refine wl_pure rfl rfl rfl (freshS_eq rfl) rfl ?_
       refine wl_len rfl rfl rfl (freshS_eq rfl) rfl rfl tE_22 ?_
       refine wl_pure rfl rfl rfl (freshS_eq rfl) rfl ?_
       refine wl_as (d := 48) (v' := .bool (decide (u2_9 < l5.length))) (S' := [_,_,_,_,_,_,_]) rfl rfl (natlt (a := u2_9) (b := l5.length)) ?_
       refine wl_pure rfl rfl rfl (freshS_eq rfl) rfl ?_
       refine wl_split (d := 49) (S' := [_,_,_,_,_,_,_,_]) rfl rfl (fun hs49 => ?_) (fun hs49 => ?_)
       ·
        replace hm := iteT hm hs49
        refine wl_pure rfl rfl rfl (freshS_eq rfl) rfl ?_
        refine wl_pure rfl rfl rfl (freshS_eq rfl) rfl ?_
        refine wl_as (d := 51) (v' := .bool (decide (u2_9 < 120))) (S' := [_,_,_,_,_,_,_,_,_,_]) rfl rfl (natlt (a := u2_9) (b := 120)) ?_
        refine wl_pure rfl rfl rfl (freshS_eq rfl) rfl ?_
        refine wl_nil ?_
        have hE := (Option.some.inj hm).symm
        refine we_join (decide (u2_9 < 120)) hE [9, 7, 5, 1, 52] rfl (fun _ _ hφ => ask [0] rfl hφ) rfl
       ·
        replace hm := iteF hm hs49
        refine wl_off rfl rfl rfl (freshS_eq rfl) ?_
        refine wl_off rfl rfl rfl (freshS_eq rfl) ?_
        refine wl_pure rfl rfl rfl (freshS_eq rfl) rfl ?_
        refine wl_nil ?_
        have hE := (Option.some.inj hm).symm
        refine we_join false hE [9, 7, 5, 1, 52] rfl (fun _ _ hφ => ask [0] rfl hφ) rfl
      ·
       rintro j_5_52 hE
       try dsimp only
       have hm := hLj_5
       rw [hE] at hm
       refine wc_cond rfl (fun hb52 => ?_) (fun hb52 => ?_)
       ·
        replace hm := iteT hm hb52
        refine wc_keep [9, 7, 5, 1] (S' := [_,_,_,_]) rfl ?_
        refine wc_skip ?_
        refine we_then ?_
        refine wc_seq ?_
        refine wc_block ?_
        refine wc_seq ?_
        refine wc_seq ?_
        refine wc_region ?_
        refine wl_pure rfl rfl rfl (freshS_eq rfl) rfl ?_
        refine wl_pure rfl rfl rfl (freshS_eq rfl) rfl ?_
        obtain ⟨x57, hx57, hm⟩ := bindO_some hm
        refine wl_indexA 0 u2_9 rfl rfl rfl (freshS_eq rfl) rfl rfl rfl rfl rfl hx57 tE_22 tS_34 (fun b57 q57 cs57 hlx57 => ?_)
        refine wl_open R_Ropewalklaw27_DoD_opens 1 rfl (fun r57 er57 _ => ?_)
        subst er57
        refine wl_fieldAddr rfl rfl rfl (freshS_eq rfl) rfl rfl tF_34_3 ?_
        refine wl_load 2 3 rfl rfl rfl (freshS_eq rfl) rfl rfl rfl (cs := [_,_,_,_]) rfl tS_32 tA_32 rfl rfl ?_
        obtain ⟨v60, hc60, hm⟩ := bindO_some hm
        refine wl_call [] [0, 1] rfl rfl rfl (freshS_eq rfl) rfl rfl fn_16 rfl (m_ropewalklaw27_great_s N x57.reply.err x57.reply.num r57.1.1 r57.1.2 x57.reply.facts r57.2.1 r57.2.2 x57.reply.said _ hc60) (fun _ _ hφ => ask [0, 1] rfl hφ) rfl (H' := [_,_]) rfl ?_
        rintro _ _ _ ⟨rfl, rfl, rfl⟩
        refine wl_nil ?_
        refine we_then ?_
        refine wc_keep [60, 9, 7, 5, 1] (S' := [_,_,_,_,_]) rfl ?_
        refine wc_cond rfl (fun hb60 => ?_) (fun hb60 => ?_)
        ·
         replace hm := iteT hm hb60
         refine wc_keep [] (S' := []) rfl ?_
         refine wc_seq ?_
         refine wc_region ?_
         refine wl_pure rfl rfl rfl (freshS_eq rfl) rfl ?_
         refine wl_nil ?_
         refine we_then ?_
         refine wc_ret ?_
         refine we_then_ret ?_
         refine we_block_ret ?_
         refine we_then_ret ?_
         refine we_then_ret ?_
         refine we_block_ret ?_
         refine we_then_ret ?_
         have hE := (Option.some.inj hm).symm
         replace hE := link_inr hLu2 hE
         replace hE := link_inr hLj_4 hE
         replace hE := hE.symm
         subst hE
         refine ret_one (Hr := []) [] Try.results5 (res_tmp rfl) ⟨rfl, rfl, rfl⟩ (fun _ _ hφ => ask [] rfl hφ) rfl rfl (.inl rfl)
        ·
         replace hm := iteF hm hb60
         refine wc_keep [9, 7, 5, 1] (S' := [_,_,_,_]) rfl ?_
         refine wc_skip ?_
         refine we_then ?_
         refine wc_seq ?_
         obtain ⟨x64, hx64, hm⟩ := bindO_some hm
         obtain ⟨⟨v66_0, v66_1, v66_2⟩, hc66, hm⟩ := bindO_some hm
         try dsimp only at hm
         obtain ⟨x70, hx70, hm⟩ := bindO_some hm
         obtain ⟨v72, hc72, hm⟩ := bindO_some hm
         refine wc_draw [0, 1, 2, 3, 4, 6, 7, 8, 9, 10, 12] rfl rfl (fun hok => ?_)
         refine wx_pure hok 0 rfl rfl rfl (freshS_eq rfl) rfl rfl ?_
         refine wx_pure hok 1 rfl rfl rfl (freshS_eq rfl) rfl rfl ?_
         refine wx_pure hok 2 rfl rfl rfl (freshS_eq rfl) rfl rfl ?_
         refine wx_indexA hok 3 4 u2_9 rfl rfl rfl (freshS_eq rfl) rfl rfl rfl rfl rfl rfl hx64 tE_22 tS_34 (fun b64 q64 cs64 hlx64 => ?_)
         refine wx_openR R_Ropewalklaw27_DoD_opens 1 rfl (fun r64 er64 _ => ?_)
         subst er64
         refine wx_load hok 4 2 0 rfl rfl rfl (freshS_eq rfl) rfl rfl rfl rfl (cs := [_,_,_,_,_,_,_]) rfl tS_34 tA_34 rfl rfl ?_
         refine wx_pure hok 6 rfl rfl rfl (freshS_eq rfl) rfl rfl ?_
         refine wx_pure hok 7 rfl rfl rfl (freshS_eq rfl) rfl rfl ?_
         refine wx_pure hok 8 rfl rfl rfl (freshS_eq rfl) rfl rfl ?_
         refine wx_indexA hok 9 8 u2_9 rfl rfl rfl (freshS_eq rfl) rfl rfl rfl rfl rfl rfl hx70 tE_22 tS_34 (fun b70 q70 cs70 hlx70 => ?_)
         refine wx_openR R_Ropewalklaw27_DoD_opens 1 rfl (fun r70 er70 _ => ?_)
         subst er70
         refine wx_load hok 10 2 0 rfl rfl rfl (freshS_eq rfl) rfl rfl rfl rfl (cs := [_,_,_,_,_,_,_]) rfl tS_34 tA_34 rfl rfl ?_
         refine wx_step1 hok 5 rfl rfl rfl rfl ?_
         refine wl_call [0, 1] [] rfl rfl rfl (freshS_eq rfl) rfl rfl fn_17 rfl (m_ropewalklaw27_do_s N c12_0 u2_5_f0_p u2_5_f0_n u2_5_f0_c u2_5_f0_l u2_5_f1 x64.op x64.id x64.seq x64.reply.err x64.reply.num r64.1.1 r64.1.2 x64.reply.facts r64.2.1 r64.2.2 x64.reply.said _ _ _ hc66) (fun _ _ hφ => ask [4, 5] rfl hφ) rfl (H' := []) rfl ?_
         rintro _ _ _ ⟨p66_0, c66_1, c66_2, rfl, rfl, rfl⟩
         refine wl_nil ?_
         refine we_x [0, 1, 2, 3, 4, 5, 6, 7, 8, 9, 10, 11, 12] [] rfl rfl ?_
         refine wx_step1 hok 11 rfl rfl rfl rfl ?_
         refine wl_call [] [0, 1] rfl rfl rfl (freshS_eq rfl) rfl rfl fn_17 rfl (m_ropewalklaw27_do_v2_s N x70.op x70.id x70.seq x70.reply.err x70.reply.num r70.1.1 r70.1.2 x70.reply.facts r70.2.1 r70.2.2 x70.reply.said _ hc72) (fun _ _ hφ => ask [0, 1] rfl hφ) rfl (H' := [_,_]) rfl ?_
         rintro _ _ _ ⟨rfl, rfl, rfl⟩
         refine wl_nil ?_
         refine we_x [0, 1, 2, 3, 4, 5, 6, 7, 8, 9, 10, 11, 12] [] rfl rfl ?_
         refine wx_pure hok 12 rfl rfl rfl (freshS_eq rfl) rfl rfl ?_
         refine wx_as (d := 73) (v' := .bool (v66_0 != v72)) (S' := [_,_,_,_,_,_,_,_,_,_,_,_,_,_,_,_]) rfl rfl (natne (a := v66_0) (b := v72)) ?_
         refine wx_done hok rfl ?_
         refine we_then ?_
         refine wc_keep [73, 9, 7, 5, 1] (S' := [_,_,_,_,_]) rfl ?_
         refine wc_cond rfl (fun hb73 => ?_) (fun hb73 => ?_)
         ·
          replace hm := iteT hm hb73
          refine wc_keep [] (S' := []) rfl ?_
          refine wc_seq ?_
          refine wc_region ?_
          refine wl_pure rfl rfl rfl (freshS_eq rfl) rfl ?_
          refine wl_nil ?_
          refine we_then ?_
          refine wc_ret ?_
          refine we_block_ret ?_
          refine we_then_ret ?_
          refine we_then_ret ?_
          refine we_block_ret ?_
          refine we_then_ret ?_
          have hE := (Option.some.inj hm).symm
          replace hE := link_inr hLu2 hE
          replace hE := link_inr hLj_4 hE
          replace hE := hE.symm
          subst hE
          refine ret_one (Hr := []) [] Try.results5 (res_tmp rfl) ⟨rfl, rfl, rfl⟩ (fun _ _ hφ => ask [] rfl hφ) rfl rfl (.inl rfl)
         ·
          replace hm := iteF hm hb73
          refine wc_keep [9, 7, 5, 1] (S' := [_,_,_,_]) rfl ?_
          refine wc_skip ?_
          refine we_block_normal ?_
          refine we_then ?_
          refine wc_region ?_
          refine wl_pure rfl rfl rfl (freshS_eq rfl) rfl ?_
          refine wl_pure rfl rfl rfl (freshS_eq rfl) rfl ?_
          obtain ⟨hg54, hm⟩ := gd_some hm
          refine wl_as (d := 54) (v' := .int .i64 ((u2_9 + 1 : Nat) : Int)) (S' := [_,_,_,_,_]) rfl rfl (nat_add (a := u2_9) (b := 1) hg54) ?_
          refine wl_pure (S' := [_,_,_,_,_]) rfl rfl rfl rfl rfl ?_
          refine wl_nil ?_
          have hE := (Option.some.inj hm).symm
          replace hE := link_inl hLu2 hE
          refine we_roundK (_, u2_9 + 1, v66_1, v66_2, p66_0, c66_1, c66_2) (Nat.lt_succ_self _) hE [9, 7, 5, 1] rfl (fun _ _ hφ => ask [12] rfl hφ) rfl
       ·
        replace hm := iteF hm hb52
        refine wc_keep [7, 5] (S' := [_,_]) rfl ?_
        refine wc_exit ?_
        refine we_then_exit ?_
        refine we_then_exit ?_
        refine we_block_hit ?_
        have hE := (Option.some.inj hm).symm
        replace hE := link_inr hLu2 hE
        refine we_join (u2_5_f0_l, u2_5_f1, u2_5_f0_p, u2_5_f0_c, u2_5_f0_n) hE [7, 5] rfl (fun _ _ hφ => ask [] rfl hφ) rfl
     ·
      rintro ⟨j_4_5_f0_l, j_4_5_f1, j_4_5_f0_p, j_4_5_f0_c, j_4_5_f0_n⟩ hE
      try dsimp only
      have hm := link_inl hLj_4 hE
      try dsimp only at hm
      refine wc_seq ?_
      refine wc_region ?_
      refine wl_pure rfl rfl rfl (freshS_eq rfl) rfl ?_
      obtain ⟨v75, hc75, hm⟩ := bindO_some hm
      refine wl_call [0, 1] [] rfl rfl rfl (freshS_eq rfl) rfl rfl fn_15 rfl (m_session_Table_Next_s N c12_0 j_4_5_f0_p j_4_5_f0_n j_4_5_f0_c j_4_5_f0_l j_4_5_f1 _ hc75) (fun _ _ hφ => ask [] rfl hφ) rfl (H' := []) rfl ?_
      rintro _ _ _ ⟨rfl, rfl, rfl⟩
      refine wl_pure rfl rfl rfl (freshS_eq rfl) rfl ?_
      obtain ⟨_, hc77, hm⟩ := bindO_some hm
      try dsimp only at hm
      refine wl_call [] [0, 1] rfl rfl rfl (freshS_eq rfl) rfl rfl fn_15 rfl (m_session_Table_Next_v2_s N  hc77) (fun _ _ hφ => ask [] rfl hφ) rfl (H' := [_,_]) rfl ?_
      rintro _ _ _ ⟨rfl, rfl, rfl⟩
      refine wl_pure rfl rfl rfl (freshS_eq rfl) rfl ?_
      refine wl_pure rfl rfl rfl (freshS_eq rfl) rfl ?_
      refine wl_split (d := 79) (S' := [_,_,_,_,_,_,_]) rfl rfl (fun hs79 => ?_) (fun hs79 => ?_)
      ·
       replace hm := iteT hm hs79
       refine wl_pure rfl rfl rfl (freshS_eq rfl) rfl ?_
       obtain ⟨v81, hc81, hm⟩ := bindO_some hm
       refine wl_call [0, 1] [] rfl rfl rfl (freshS_eq rfl) rfl rfl fn_10 rfl (m_session_Table_All_s N c12_0 j_4_5_f0_p j_4_5_f0_n j_4_5_f0_c j_4_5_f0_l j_4_5_f1 _ hc81) (fun _ _ hφ => ask [] rfl hφ) rfl (H' := []) rfl ?_
       rintro _ _ _ ⟨p81_0, c81_1, c81_2, rfl, rfl, rfl⟩
       refine wl_pure rfl rfl rfl (freshS_eq rfl) rfl ?_
       obtain ⟨_, hc83, hm⟩ := bindO_some hm
       try dsimp only at hm
       refine wl_call [] [0, 1, 2] rfl rfl rfl (freshS_eq rfl) rfl rfl fn_10 rfl (m_session_Table_All_v2_s N  hc83) (fun _ _ hφ => ask [] rfl hφ) rfl (H' := [_,_,_]) rfl ?_
       rintro _ _ _ ⟨rfl, rfl, rfl⟩
       refine wl_fact (.sli 6 R_SessD none 0 ([] : List SessD)) (fun _ _ _ => sli_none) ?_
       obtain ⟨v84, hc84, hm⟩ := bindO_some hm
       refine wl_call [0] [1, 2] rfl rfl rfl (freshS_eq rfl) rfl rfl fn_19 rfl (m_ropewalkkit_SameSessions_s N p81_0 c81_2 c81_1 v81 none 0 ([] : List SessD) _ hc84) (fun _ _ hφ => ask [0] rfl hφ) rfl (H' := [_,_]) rfl ?_
       rintro _ _ _ ⟨rfl, rfl, rfl⟩
       refine wl_pure rfl rfl rfl (freshS_eq rfl) rfl ?_
       refine wl_pure rfl rfl rfl (freshS_eq rfl) rfl ?_
       refine wl_nil ?_
       refine we_then ?_
       refine wc_keep [4] (S' := [_]) rfl ?_
       refine wc_ret ?_
       have hE := (Option.some.inj hm).symm
       replace hE := hE.symm
       subst hE
       refine ret_one (Hr := []) [] Try.results5 (res_tmp rfl) ⟨rfl, rfl, rfl⟩ (fun _ _ hφ => ask [] rfl hφ) rfl rfl (.inl rfl)
      ·
       replace hm := iteF hm hs79
       refine wl_off rfl rfl rfl (freshS_eq rfl) ?_
       refine wl_off rfl rfl rfl (freshS_eq rfl) ?_
       refine wl_off rfl rfl rfl (freshS_eq rfl) ?_
       refine wl_off rfl rfl rfl (freshS_eq rfl) ?_
       refine wl_off rfl rfl rfl (freshS_eq rfl) ?_
       refine wl_pure rfl rfl rfl (freshS_eq rfl) rfl ?_
       refine wl_pure rfl rfl rfl (freshS_eq rfl) rfl ?_
       refine wl_nil ?_
       refine we_then ?_
       refine wc_keep [4] (S' := [_]) rfl ?_
       refine wc_ret ?_
       have hE := (Option.some.inj hm).symm
       replace hE := hE.symm
       subst hE
       refine ret_one (Hr := []) [] Try.results5 (res_tmp rfl) ⟨rfl, rfl, rfl⟩ (fun _ _ hφ => ask [] rfl hφ) rfl rfl (.inl rfl)
   ·
    try dsimp only at hm
    refine wl_call [0] [1, 2] rfl rfl rfl (freshS_eq rfl) rfl rfl fn_18 rfl (m_session_Of_s1 N v37 p39_0 c39_2 c39_1 v39 _ hc40) (fun _ _ hφ => ask [] rfl hφ) rfl (H' := [_,_]) rfl ?_
    rintro _ _ _ ⟨c40_0, p40_1, c40_2, rfl, rfl, rfl⟩
    refine wl_pure rfl rfl rfl (freshS_eq rfl) rfl ?_
    refine wl_pure rfl rfl rfl (freshS_eq rfl) rfl ?_
    refine wl_pure rfl rfl rfl (freshS_eq rfl) rfl ?_
    refine wl_pure rfl rfl rfl (freshS_eq rfl) rfl ?_
    refine wl_pure rfl rfl rfl (freshS_eq rfl) rfl ?_
    refine wl_nil ?_
    refine we_then ?_
    refine wc_keep [8, 7, 5, 1] (S' := [_,_,_,_]) rfl ?_
    refine wc_seq ?_
    refine wc_seq ?_
    refine wc_region ?_
    refine wl_pure rfl rfl rfl (freshS_eq rfl) rfl ?_
    refine wl_pure rfl rfl rfl (freshS_eq rfl) rfl ?_
    refine wl_as (d := 44) (v' := .bool (0 != 0)) (S' := [_,_,_,_,_]) rfl rfl (natne (a := 0) (b := 0)) ?_
    refine wl_nil ?_
    refine we_then ?_
    refine wc_keep [44, 7, 5, 1] (S' := [_,_,_,_]) rfl ?_
    refine wc_cond rfl (fun hb44 => ?_) (fun hb44 => ?_)
    ·
     replace hm := iteT hm hb44
     refine wc_keep [] (S' := []) rfl ?_
     refine wc_seq ?_
     refine wc_region ?_
     refine wl_pure rfl rfl rfl (freshS_eq rfl) rfl ?_
     refine wl_nil ?_
     refine we_then ?_
     refine wc_ret ?_
     refine we_then_ret ?_
     have hE := (Option.some.inj hm).symm
     replace hE := hE.symm
     subst hE
     refine ret_one (Hr := []) [] Try.results5 (res_tmp rfl) ⟨rfl, rfl, rfl⟩ (fun _ _ hφ => ask [] rfl hφ) rfl rfl (.inl rfl)
    ·
     replace hm := iteF hm hb44
     refine wc_keep [7, 5, 1] (S' := [_,_,_]) rfl ?_
     refine wc_skip ?_
     refine we_then ?_
     refine wc_seq ?_
     obtain ⟨bj_6, hm, hLj_6⟩ := bindS_some hm
     refine wc_cut (σ := (List SessD) × Int × (List SessD) × Int × (Option Addr) × Nat × Nat × (Option Addr) × Nat × Nat) (fun (j_6_7_f0_l, j_6_7_f1, j_6_5_f0_l, j_6_5_f1, j_6_7_f0_p, j_6_7_f0_c, j_6_7_f0_n, j_6_5_f0_p, j_6_5_f0_c, j_6_5_f0_n) => bj_6 = .inl (j_6_7_f0_l, j_6_7_f1, j_6_5_f0_l, j_6_5_f1)) (fun (j_6_7_f0_l, j_6_7_f1, j_6_5_f0_l, j_6_5_f1, j_6_7_f0_p, j_6_7_f0_c, j_6_7_f0_n, j_6_5_f0_p, j_6_5_f0_c, j_6_5_f0_n) => [(7, .pointer (some ⟨c40_0, 0, none⟩)), (5, .pointer (some ⟨c12_0, 0, none⟩))]) (fun (j_6_7_f0_l, j_6_7_f1, j_6_5_f0_l, j_6_5_f1, j_6_7_f0_p, j_6_7_f0_c, j_6_7_f0_n, j_6_5_f0_p, j_6_5_f0_c, j_6_5_f0_n) => []) (fun (j_6_7_f0_l, j_6_7_f1, j_6_5_f0_l, j_6_5_f1, j_6_7_f0_p, j_6_7_f0_c, j_6_7_f0_n, j_6_5_f0_p, j_6_5_f0_c, j_6_5_f0_n) => [.blk c40_0 [.slice j_6_7_f0_p j_6_7_f0_n j_6_7_f0_c, .int .i64 j_6_7_f1] 50, .own 62 6 R_SessD (.slice j_6_7_f0_p j_6_7_f0_n j_6_7_f0_c) j_6_7_f0_l, .blk c12_0 [.slice j_6_5_f0_p j_6_5_f0_n j_6_5_f0_c, .int .i64 j_6_5_f1] 50, .own 62 6 R_SessD (.slice j_6_5_f0_p j_6_5_f0_n j_6_5_f0_c) j_6_5_f0_l]) ?_ ?_
     ·
      refine wc_seq ?_
      refine wc_region ?_
      refine wl_pure rfl rfl rfl (freshS_eq rfl) rfl ?_
      refine wl_nil ?_
      refine we_then ?_
      refine wc_block ?_
      refine wc_pick [0, 1, 3, 4] rfl (H' := [_,_,_,_]) rfl ?_
      refine wc_loop (σ := Nat × Nat × (List SessD) × Int × (List SessD) × Int × (Option Addr) × Nat × Nat × (Option Addr) × Nat × Nat) (fun (nu3, u3_9, u3_7_f0_l, u3_7_f1, u3_5_f0_l, u3_5_f1, u3_7_f0_p, u3_7_f0_c, u3_7_f0_n, u3_5_f0_p, u3_5_f0_c, u3_5_f0_n) => iter (m_ropewalklaw27_SessionOf_L3 N l5) nu3 (u3_9, u3_7_f0_l, u3_7_f1, u3_5_f0_l, u3_5_f1) = some bj_6) (fun (nu3, u3_9, u3_7_f0_l, u3_7_f1, u3_5_f0_l, u3_5_f1, u3_7_f0_p, u3_7_f0_c, u3_7_f0_n, u3_5_f0_p, u3_5_f0_c, u3_5_f0_n) => nu3) (fun (nu3, u3_9, u3_7_f0_l, u3_7_f1, u3_5_f0_l, u3_5_f1, u3_7_f0_p, u3_7_f0_c, u3_7_f0_n, u3_5_f0_p, u3_5_f0_c, u3_5_f0_n) => [(9, .int .i64 ((u3_9 : Nat) : Int)), (7, .pointer (some ⟨c40_0, 0, none⟩)), (5, .pointer (some ⟨c12_0, 0, none⟩)), (1, .slice qp3 l5.length qc4)]) (fun (nu3, u3_9, u3_7_f0_l, u3_7_f1, u3_5_f0_l, u3_5_f1, u3_7_f0_p, u3_7_f0_c, u3_7_f0_n, u3_5_f0_p, u3_5_f0_c, u3_5_f0_n) => [.sli 7 R_Ropewalklaw27_DoD qp3 qc4 l5]) (fun (nu3, u3_9, u3_7_f0_l, u3_7_f1, u3_5_f0_l, u3_5_f1, u3_7_f0_p, u3_7_f0_c, u3_7_f0_n, u3_5_f0_p, u3_5_f0_c, u3_5_f0_n) => [.blk c40_0 [.slice u3_7_f0_p u3_7_f0_n u3_7_f0_c, .int .i64 u3_7_f1] 50, .own 62 6 R_SessD (.slice u3_7_f0_p u3_7_f0_n u3_7_f0_c) u3_7_f0_l, .blk c12_0 [.slice u3_5_f0_p u3_5_f0_n u3_5_f0_c, .int .i64 u3_5_f1] 50, .own 62 6 R_SessD (.slice u3_5_f0_p u3_5_f0_n u3_5_f0_c) u3_5_f0_l]) (N, 0, v40, v37, j_1_5_f0_l, j_1_5_f1, p40_1, c40_2, c39_2, j_1_5_f0_p, j_1_5_f0_c, j_1_5_f0_n) hm [9, 7, 5, 1] rfl (fun _ _ hφ => ask [0] rfl hφ) rfl (fun s_ hm => ?_)
      obtain ⟨nu3, u3_9, u3_7_f0_l, u3_7_f1, u3_5_f0_l, u3_5_f1, u3_7_f0_p, u3_7_f0_c, u3_7_f0_n, u3_5_f0_p, u3_5_f0_c, u3_5_f0_n⟩ := s_
      try dsimp only at hm ⊢
      obtain ⟨mu3, bu3, hnu3, hq, hLu3⟩ := iter_some hm
      clear hm
      subst hnu3
      replace hm := hq
      clear hq
      unfold m_ropewalklaw27_SessionOf_L3 at hm
      try dsimp only at hm
      refine wc_seq ?_
      refine wc_seq ?_
      obtain ⟨bj_7, hm, hLj_7⟩ := bindO_some hm
      refine wc_cut (σ := Bool) (fun j_7_52 => bj_7 = j_7_52) (fun j_7_52 => [(9, .int .i64 ((u3_9 : Nat) : Int)), (7, .pointer (some ⟨c40_0, 0, none⟩)), (5, .pointer (some ⟨c12_0, 0, none⟩)), (1, .slice qp3 l5.length qc4), (52, .bool j_7_52)]) (fun j_7_52 => [.sli 7 R_Ropewalklaw27_DoD qp3 qc4 l5]) (fun j_7_52 => [.blk c40_0 [.slice u3_7_f0_p u3_7_f0_n u3_7_f0_c, .int .i64 u3_7_f1] 50, .own 62 6 R_SessD (.slice u3_7_f0_p u3_7_f0_n u3_7_f0_c) u3_7_f0_l, .blk c12_0 [.slice u3_5_f0_p u3_5_f0_n u3_5_f0_c, .int .i64 u3_5_f1] 50, .own 62 6 R_SessD (.slice u3_5_f0_p u3_5_f0_n u3_5_f0_c) u3_5_f0_l]) ?_ ?_
      ·
       refine wc_region ?_
       refine wl_pure rfl rfl rfl (freshS_eq rfl) rfl ?_
       refine wl_pure rfl rfl rfl (freshS_eq rfl) rfl ?_
       refine wl_len rfl rfl rfl (freshS_eq rfl) rfl rfl tE_22 ?_
       refine wl_pure rfl rfl rfl (freshS_eq rfl) rfl ?_
       refine wl_as (d := 48) (v' := .bool (decide (u3_9 < l5.length))) (S' := [_,_,_,_,_,_,_]) rfl rfl (natlt (a := u3_9) (b := l5.length)) ?_
       refine wl_pure rfl rfl rfl (freshS_eq rfl) rfl ?_
       refine wl_split (d := 49) (S' := [_,_,_,_,_,_,_,_]) rfl rfl (fun hs49 => ?_) (fun hs49 => ?_)
       ·
        replace hm := iteT hm hs49
        refine wl_pure rfl rfl rfl (freshS_eq rfl) rfl ?_
        refine wl_pure rfl rfl rfl (freshS_eq rfl) rfl ?_
        refine wl_as (d := 51) (v' := .bool (decide (u3_9 < 120))) (S' := [_,_,_,_,_,_,_,_,_,_]) rfl rfl (natlt (a := u3_9) (b := 120)) ?_
        refine wl_pure rfl rfl rfl (freshS_eq rfl) rfl ?_
        refine wl_nil ?_
        have hE := (Option.some.inj hm).symm
        refine we_join (decide (u3_9 < 120)) hE [9, 7, 5, 1, 52] rfl (fun _ _ hφ => ask [0] rfl hφ) rfl
       ·
        replace hm := iteF hm hs49
        refine wl_off rfl rfl rfl (freshS_eq rfl) ?_
        refine wl_off rfl rfl rfl (freshS_eq rfl) ?_
        refine wl_pure rfl rfl rfl (freshS_eq rfl) rfl ?_
        refine wl_nil ?_
        have hE := (Option.some.inj hm).symm
        refine we_join false hE [9, 7, 5, 1, 52] rfl (fun _ _ hφ => ask [0] rfl hφ) rfl
      ·
       rintro j_7_52 hE
       try dsimp only
       have hm := hLj_7
       rw [hE] at hm
       refine wc_cond rfl (fun hb52 => ?_) (fun hb52 => ?_)
       ·
        replace hm := iteT hm hb52
        refine wc_keep [9, 7, 5, 1] (S' := [_,_,_,_]) rfl ?_
        refine wc_skip ?_
        refine we_then ?_
        refine wc_seq ?_
        refine wc_block ?_
        refine wc_seq ?_
        refine wc_seq ?_
        refine wc_region ?_
        refine wl_pure rfl rfl rfl (freshS_eq rfl) rfl ?_
        refine wl_pure rfl rfl rfl (freshS_eq rfl) rfl ?_
        obtain ⟨x57, hx57, hm⟩ := bindO_some hm
        refine wl_indexA 0 u3_9 rfl rfl rfl (freshS_eq rfl) rfl rfl rfl rfl rfl hx57 tE_22 tS_34 (fun b57 q57 cs57 hlx57 => ?_)
        refine wl_open R_Ropewalklaw27_DoD_opens 1 rfl (fun r57 er57 _ => ?_)
        subst er57
        refine wl_fieldAddr rfl rfl rfl (freshS_eq rfl) rfl rfl tF_34_3 ?_
        refine wl_load 2 3 rfl rfl rfl (freshS_eq rfl) rfl rfl rfl (cs := [_,_,_,_]) rfl tS_32 tA_32 rfl rfl ?_
        obtain ⟨v60, hc60, hm⟩ := bindO_some hm
        refine wl_call [] [0, 1, 2, 3] rfl rfl rfl (freshS_eq rfl) rfl rfl fn_16 rfl (m_ropewalklaw27_great_s N x57.reply.err x57.reply.num r57.1.1 r57.1.2 x57.reply.facts r57.2.1 r57.2.2 x57.reply.said _ hc60) (fun _ _ hφ => ask [0, 1] rfl hφ) rfl (H' := [_,_,_,_]) rfl ?_
        rintro _ _ _ ⟨rfl, rfl, rfl⟩
        refine wl_nil ?_
        refine we_then ?_
        refine wc_keep [60, 9, 7, 5, 1] (S' := [_,_,_,_,_]) rfl ?_
        refine wc_cond rfl (fun hb60 => ?_) (fun hb60 => ?_)
        ·
         replace hm := iteT hm hb60
         refine wc_keep [] (S' := []) rfl ?_
         refine wc_seq ?_
         refine wc_region ?_
         refine wl_pure rfl rfl rfl (freshS_eq rfl) rfl ?_
         refine wl_nil ?_
         refine we_then ?_
         refine wc_ret ?_
         refine we_then_ret ?_
         refine we_block_ret ?_
         refine we_then_ret ?_
         refine we_then_ret ?_
         refine we_block_ret ?_
         refine we_then_ret ?_
         have hE := (Option.some.inj hm).symm
         replace hE := link_inr hLu3 hE
         replace hE := link_inr hLj_6 hE
         replace hE := hE.symm
         subst hE
         refine ret_one (Hr := []) [] Try.results5 (res_tmp rfl) ⟨rfl, rfl, rfl⟩ (fun _ _ hφ => ask [] rfl hφ) rfl rfl (.inl rfl)
        ·
         replace hm := iteF hm hb60
         refine wc_keep [9, 7, 5, 1] (S' := [_,_,_,_]) rfl ?_
         refine wc_skip ?_
         refine we_then ?_
         refine wc_seq ?_
         obtain ⟨x64, hx64, hm⟩ := bindO_some hm
         obtain ⟨⟨v66_0, v66_1, v66_2⟩, hc66, hm⟩ := bindO_some hm
         try dsimp only at hm
         obtain ⟨x70, hx70, hm⟩ := bindO_some hm
         obtain ⟨⟨v72_0, v72_1, v72_2⟩, hc72, hm⟩ := bindO_some hm
         try dsimp only at hm
         refine wc_draw [0, 1, 2, 3, 4, 6, 7, 8, 9, 10, 12] rfl rfl (fun hok => ?_)
         refine wx_pure hok 0 rfl rfl rfl (freshS_eq rfl) rfl rfl ?_
         refine wx_pure hok 1 rfl rfl rfl (freshS_eq rfl) rfl rfl ?_
         refine wx_pure hok 2 rfl rfl rfl (freshS_eq rfl) rfl rfl ?_
         refine wx_indexA hok 3 4 u3_9 rfl rfl rfl (freshS_eq rfl) rfl rfl rfl rfl rfl rfl hx64 tE_22 tS_34 (fun b64 q64 cs64 hlx64 => ?_)
         refine wx_openR R_Ropewalklaw27_DoD_opens 1 rfl (fun r64 er64 _ => ?_)
         subst er64
         refine wx_load hok 4 2 0 rfl rfl rfl (freshS_eq rfl) rfl rfl rfl rfl (cs := [_,_,_,_,_,_,_]) rfl tS_34 tA_34 rfl rfl ?_
         refine wx_pure hok 6 rfl rfl rfl (freshS_eq rfl) rfl rfl ?_
         refine wx_pure hok 7 rfl rfl rfl (freshS_eq rfl) rfl rfl ?_
         refine wx_pure hok 8 rfl rfl rfl (freshS_eq rfl) rfl rfl ?_
         refine wx_indexA hok 9 8 u3_9 rfl rfl rfl (freshS_eq rfl) rfl rfl rfl rfl rfl rfl hx70 tE_22 tS_34 (fun b70 q70 cs70 hlx70 => ?_)
         refine wx_openR R_Ropewalklaw27_DoD_opens 1 rfl (fun r70 er70 _ => ?_)
         subst er70
         refine wx_load hok 10 2 0 rfl rfl rfl (freshS_eq rfl) rfl rfl rfl rfl (cs := [_,_,_,_,_,_,_]) rfl tS_34 tA_34 rfl rfl ?_
         refine wx_step1 hok 5 rfl rfl rfl rfl ?_
         refine wl_call [2, 3] [0, 1] rfl rfl rfl (freshS_eq rfl) rfl rfl fn_17 rfl (m_ropewalklaw27_do_s N c12_0 u3_5_f0_p u3_5_f0_n u3_5_f0_c u3_5_f0_l u3_5_f1 x64.op x64.id x64.seq x64.reply.err x64.reply.num r64.1.1 r64.1.2 x64.reply.facts r64.2.1 r64.2.2 x64.reply.said _ _ _ hc66) (fun _ _ hφ => ask [4, 5] rfl hφ) rfl (H' := [_,_]) rfl ?_
         rintro _ _ _ ⟨p66_0, c66_1, c66_2, rfl, rfl, rfl⟩
         refine wl_nil ?_
         refine we_x [0, 1, 2, 3, 4, 5, 6, 7, 8, 9, 10, 11, 12] [] rfl rfl ?_
         refine wx_step1 hok 11 rfl rfl rfl rfl ?_
         refine wl_call [2, 3] [0, 1] rfl rfl rfl (freshS_eq rfl) rfl rfl fn_17 rfl (m_ropewalklaw27_do_s N c40_0 u3_7_f0_p u3_7_f0_n u3_7_f0_c u3_7_f0_l u3_7_f1 x70.op x70.id x70.seq x70.reply.err x70.reply.num r70.1.1 r70.1.2 x70.reply.facts r70.2.1 r70.2.2 x70.reply.said _ _ _ hc72) (fun _ _ hφ => ask [0, 1] rfl hφ) rfl (H' := [_,_]) rfl ?_
         rintro _ _ _ ⟨p72_0, c72_1, c72_2, rfl, rfl, rfl⟩
         refine wl_nil ?_
         refine we_x [0, 1, 2, 3, 4, 5, 6, 7, 8, 9, 10, 11, 12] [] rfl rfl ?_
         refine wx_pure hok 12 rfl rfl rfl (freshS_eq rfl) rfl rfl ?_
         refine wx_as (d := 73) (v' := .bool (v66_0 != v72_0)) (S' := [_,_,_,_,_,_,_,_,_,_,_,_,_,_,_,_]) rfl rfl (natne (a := v66_0) (b := v72_0)) ?_
         refine wx_done hok rfl ?_
         refine we_then ?_
         refine wc_keep [73, 9, 7, 5, 1] (S' := [_,_,_,_,_]) rfl ?_
         refine wc_cond rfl (fun hb73 => ?_) (fun hb73 => ?_)
         ·
          replace hm := iteT hm hb73
          refine wc_keep [] (S' := []) rfl ?_
          refine wc_seq ?_
          refine wc_region ?_
          refine wl_pure rfl rfl rfl (freshS_eq rfl) rfl ?_
          refine wl_nil ?_
          refine we_then ?_
          refine wc_ret ?_
          refine we_block_ret ?_
          refine we_then_ret ?_
          refine we_then_ret ?_
          refine we_block_ret ?_
          refine we_then_ret ?_
          have hE := (Option.some.inj hm).symm
          replace hE := link_inr hLu3 hE
          replace hE := link_inr hLj_6 hE
          replace hE := hE.symm
          subst hE
          refine ret_one (Hr := []) [] Try.results5 (res_tmp rfl) ⟨rfl, rfl, rfl⟩ (fun _ _ hφ => ask [] rfl hφ) rfl rfl (.inl rfl)
         ·
          replace hm := iteF hm hb73
          refine wc_keep [9, 7, 5, 1] (S' := [_,_,_,_]) rfl ?_
          refine wc_skip ?_
          refine we_block_normal ?_
          refine we_then ?_
          refine wc_region ?_
          refine wl_pure rfl rfl rfl (freshS_eq rfl) rfl ?_
          refine wl_pure rfl rfl rfl (freshS_eq rfl) rfl ?_
          obtain ⟨hg54, hm⟩ := gd_some hm
          refine wl_as (d := 54) (v' := .int .i64 ((u3_9 + 1 : Nat) : Int)) (S' := [_,_,_,_,_]) rfl rfl (nat_add (a := u3_9) (b := 1) hg54) ?_
          refine wl_pure (S' := [_,_,_,_,_]) rfl rfl rfl rfl rfl ?_
          refine wl_nil ?_
          have hE := (Option.some.inj hm).symm
          replace hE := link_inl hLu3 hE
          refine we_roundK (_, u3_9 + 1, v72_1, v72_2, v66_1, v66_2, p72_0, c72_1, c72_2, p66_0, c66_1, c66_2) (Nat.lt_succ_self _) hE [9, 7, 5, 1] rfl (fun _ _ hφ => ask [12] rfl hφ) rfl
       ·
        replace hm := iteF hm hb52
        refine wc_keep [7, 5] (S' := [_,_]) rfl ?_
        refine wc_exit ?_
        refine we_then_exit ?_
        refine we_then_exit ?_
        refine we_block_hit ?_
        have hE := (Option.some.inj hm).symm
        replace hE := link_inr hLu3 hE
        refine we_join (u3_7_f0_l, u3_7_f1, u3_5_f0_l, u3_5_f1, u3_7_f0_p, u3_7_f0_c, u3_7_f0_n, u3_5_f0_p, u3_5_f0_c, u3_5_f0_n) hE [7, 5] rfl (fun _ _ hφ => ask [] rfl hφ) rfl
     ·
      rintro ⟨j_6_7_f0_l, j_6_7_f1, j_6_5_f0_l, j_6_5_f1, j_6_7_f0_p, j_6_7_f0_c, j_6_7_f0_n, j_6_5_f0_p, j_6_5_f0_c, j_6_5_f0_n⟩ hE
      try dsimp only
      have hm := link_inl hLj_6 hE
      try dsimp only at hm
      refine wc_seq ?_
      refine wc_region ?_
      refine wl_pure rfl rfl rfl (freshS_eq rfl) rfl ?_
      obtain ⟨v75, hc75, hm⟩ := bindO_some hm
      refine wl_call [2, 3] [0, 1] rfl rfl rfl (freshS_eq rfl) rfl rfl fn_15 rfl (m_session_Table_Next_s N c12_0 j_6_5_f0_p j_6_5_f0_n j_6_5_f0_c j_6_5_f0_l j_6_5_f1 _ hc75) (fun _ _ hφ => ask [] rfl hφ) rfl (H' := [_,_]) rfl ?_
      rintro _ _ _ ⟨rfl, rfl, rfl⟩
      refine wl_pure rfl rfl rfl (freshS_eq rfl) rfl ?_
      obtain ⟨v77, hc77, hm⟩ := bindO_some hm
      refine wl_call [2, 3] [0, 1] rfl rfl rfl (freshS_eq rfl) rfl rfl fn_15 rfl (m_session_Table_Next_s N c40_0 j_6_7_f0_p j_6_7_f0_n j_6_7_f0_c j_6_7_f0_l j_6_7_f1 _ hc77) (fun _ _ hφ => ask [] rfl hφ) rfl (H' := [_,_]) rfl ?_
      rintro _ _ _ ⟨rfl, rfl, rfl⟩
      refine wl_pure rfl rfl rfl (freshS_eq rfl) rfl ?_
      refine wl_pure rfl rfl rfl (freshS_eq rfl) rfl ?_
      refine wl_split (d := 79) (S' := [_,_,_,_,_,_,_]) rfl rfl (fun hs79 => ?_) (fun hs79 => ?_)
      ·
       replace hm := iteT hm hs79
       refine wl_pure rfl rfl rfl (freshS_eq rfl) rfl ?_
       obtain ⟨v81, hc81, hm⟩ := bindO_some hm
       refine wl_call [2, 3] [0, 1] rfl rfl rfl (freshS_eq rfl) rfl rfl fn_10 rfl (m_session_Table_All_s N c12_0 j_6_5_f0_p j_6_5_f0_n j_6_5_f0_c j_6_5_f0_l j_6_5_f1 _ hc81) (fun _ _ hφ => ask [] rfl hφ) rfl (H' := [_,_]) rfl ?_
       rintro _ _ _ ⟨p81_0, c81_1, c81_2, rfl, rfl, rfl⟩
       refine wl_pure rfl rfl rfl (freshS_eq rfl) rfl ?_
       obtain ⟨v83, hc83, hm⟩ := bindO_some hm
       refine wl_call [3, 4] [0, 1, 2] rfl rfl rfl (freshS_eq rfl) rfl rfl fn_10 rfl (m_session_Table_All_s N c40_0 j_6_7_f0_p j_6_7_f0_n j_6_7_f0_c j_6_7_f0_l j_6_7_f1 _ hc83) (fun _ _ hφ => ask [] rfl hφ) rfl (H' := [_,_,_]) rfl ?_
       rintro _ _ _ ⟨p83_0, c83_1, c83_2, rfl, rfl, rfl⟩
       obtain ⟨v84, hc84, hm⟩ := bindO_some hm
       refine wl_call [3, 0] [1, 2, 4, 5] rfl rfl rfl (freshS_eq rfl) rfl rfl fn_19 rfl (m_ropewalkkit_SameSessions_v2_s N p81_0 c81_2 c81_1 v81 p83_0 c83_2 c83_1 v83 _ hc84) (fun _ _ hφ => ask [] rfl hφ) rfl (H' := [_,_,_,_]) rfl ?_
       rintro _ _ _ ⟨rfl, rfl, rfl⟩
       refine wl_pure rfl rfl rfl (freshS_eq rfl) rfl ?_
       refine wl_pure rfl rfl rfl (freshS_eq rfl) rfl ?_
       refine wl_nil ?_
       refine we_then ?_
       refine wc_keep [4] (S' := [_]) rfl ?_
       refine wc_ret ?_
       have hE := (Option.some.inj hm).symm
       replace hE := hE.symm
       subst hE
       refine ret_one (Hr := []) [] Try.results5 (res_tmp rfl) ⟨rfl, rfl, rfl⟩ (fun _ _ hφ => ask [] rfl hφ) rfl rfl (.inl rfl)
      ·
       replace hm := iteF hm hs79
       refine wl_off rfl rfl rfl (freshS_eq rfl) ?_
       refine wl_off rfl rfl rfl (freshS_eq rfl) ?_
       refine wl_off rfl rfl rfl (freshS_eq rfl) ?_
       refine wl_off rfl rfl rfl (freshS_eq rfl) ?_
       refine wl_off rfl rfl rfl (freshS_eq rfl) ?_
       refine wl_pure rfl rfl rfl (freshS_eq rfl) rfl ?_
       refine wl_pure rfl rfl rfl (freshS_eq rfl) rfl ?_
       refine wl_nil ?_
       refine we_then ?_
       refine wc_keep [4] (S' := [_]) rfl ?_
       refine wc_ret ?_
       have hE := (Option.some.inj hm).symm
       replace hE := hE.symm
       subst hE
       refine ret_one (Hr := []) [] Try.results5 (res_tmp rfl) ⟨rfl, rfl, rfl⟩ (fun _ _ hφ => ask [] rfl hφ) rfl rfl (.inl rfl)
end Go.Proofs.Ytighbinghbnjhaa
