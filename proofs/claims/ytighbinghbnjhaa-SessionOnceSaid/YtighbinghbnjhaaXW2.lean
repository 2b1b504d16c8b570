/- Walks, printed by a program out of the loaded code. -/
import Derived.Test.YtighbinghbnjhaaXW1
namespace Go.Proofs.Ytighbinghbnjhaa
open Go.RowKit
set_option maxRecDepth 100000 in
set_option maxHeartbeats 4000000 in
theorem m_ropewalklaw27_SessionOnce_s (N : Nat) (qp0 : Option Addr) (qc1 : Nat) (l2 : List Ropewalklaw27_DoD) (o0 : Bool) (hm : m_ropewalklaw27_SessionOnce N l2 = some o0) : Spec Try.prog 3 [.slice qp0 l2.length qc1] [.sli 7 R_Ropewalklaw27_DoD qp0 qc1 l2] [] (fun v Φr Hr => v = .bool o0 ∧ Φr = [] ∧ Hr = []) := by
 unfold m_ropewalklaw27_SessionOnce at hm
 refine spec_of Try.func3 rfl Try.ntmps3 rfl (S := [_]) rfl (fun C => ?_)
 refine wc_seq ?_
 refine wc_region ?_
 refine wl_pure rfl rfl rfl (freshS_eq rfl) rfl ?_
 refine wl_nil ?_
 refine we_then ?_
 refine wc_keep [0] (S' := [_]) rfl ?_
 refine wc_seq ?_
 refine wc_seq ?_
 refine wc_region ?_
 obtain ⟨v17, hc17, hm⟩ := bindO_some hm
 refine wl_call [] [] rfl rfl rfl (freshS_eq rfl) rfl rfl fn_6 rfl (m_ropewalklaw27_awake_s N _ hc17) (fun _ _ hφ => ask [] rfl hφ) rfl (H' := []) rfl ?_
 rintro _ _ _ ⟨rfl, rfl, rfl⟩
 refine wl_pure rfl rfl rfl (freshS_eq rfl) rfl ?_
 refine wl_nil ?_
 refine we_then ?_
 refine wc_keep [18, 0] (S' := [_,_]) rfl ?_
 refine wc_cond rfl (fun hb18 => ?_) (fun hb18 => ?_)
 ·
  replace hm := iteT hm hb18
  refine wc_keep [] (S' := []) rfl ?_
  refine wc_seq ?_
  refine wc_region ?_
  refine wl_pure rfl rfl rfl (freshS_eq rfl) rfl ?_
  refine wl_nil ?_
  refine we_then ?_
  refine wc_ret ?_
  refine we_then_ret ?_
  have hE := (Option.some.inj hm).symm
  replace hE := hE.symm
  subst hE
  refine ret_one (Hr := []) [] Try.results3 (res_tmp rfl) ⟨rfl, rfl, rfl⟩ (fun _ _ hφ => ask [] rfl hφ) rfl rfl (.inl rfl)
 ·
  replace hm := iteF hm hb18
  refine wc_keep [0] (S' := [_]) rfl ?_
  refine wc_skip ?_
  refine we_then ?_
  refine wc_seq ?_
  refine wc_region ?_
  obtain ⟨_, hc19, hm⟩ := bindO_some hm
  try dsimp only at hm
  refine wl_call [] [] rfl rfl rfl (freshS_eq rfl) rfl rfl fn_7 rfl (m_session_New_s N  hc19) (fun _ _ hφ => ask [] rfl hφ) rfl (H' := []) rfl ?_
  rintro _ _ _ ⟨c19_0, rfl, rfl, rfl⟩
  refine wl_pure rfl rfl rfl (freshS_eq rfl) rfl ?_
  refine wl_nil ?_
  refine we_then ?_
  refine wc_keep [3, 0] (S' := [_,_]) rfl ?_
  refine wc_seq ?_
  refine wc_region ?_
  refine wl_makeMapK (k := 44) (e := 3) pairKey44 (mInt tU_3) rfl rfl rfl (freshS_eq rfl) rfl (fun g20 => ?_)
  refine wl_pure rfl rfl rfl (freshS_eq rfl) rfl ?_
  refine wl_nil ?_
  refine we_then ?_
  refine wc_keep [4, 3, 0] (S' := [_,_,_]) rfl ?_
  refine wc_seq ?_
  refine wc_region ?_
  refine wl_pure rfl rfl rfl (freshS_eq rfl) rfl ?_
  refine wl_nil ?_
  refine we_then ?_
  refine wc_seq ?_
  obtain ⟨bj_1, hm, hLj_1⟩ := bindS_some hm
  refine wc_cut (σ := Unit) (fun _ => bj_1 = .inl ()) (fun _ => []) (fun _ => []) (fun _ => []) ?_ ?_
  ·
   refine wc_seq ?_
   refine wc_region ?_
   refine wl_pure rfl rfl rfl (freshS_eq rfl) rfl ?_
   refine wl_nil ?_
   refine we_then ?_
   refine wc_block ?_
   refine wc_rowNil 3 1 R_i64 ?_
   refine wc_rowNil 62 6 R_SessD ?_
   refine wc_pick [1, 2, 3, 0] rfl (H' := [_,_,_,_]) rfl ?_
   refine wc_loop (σ := Nat × Nat × (List Int) × Nat × ((Int × Int) → Option Int) × (List SessD) × Int × (Option Addr) × Nat × Nat × (Option Addr) × Nat × Nat) (fun (nu1, u1_6, u1_5_l, u1_4_n, u1_4_m, u1_3_f0_l, u1_3_f1, u1_5_p, u1_5_c, u1_5_n, u1_3_f0_p, u1_3_f0_c, u1_3_f0_n) => iter (m_ropewalklaw27_SessionOnce_L1 N l2) nu1 (u1_6, u1_5_l, u1_4_n, u1_4_m, u1_3_f0_l, u1_3_f1) = some bj_1) (fun (nu1, u1_6, u1_5_l, u1_4_n, u1_4_m, u1_3_f0_l, u1_3_f1, u1_5_p, u1_5_c, u1_5_n, u1_3_f0_p, u1_3_f0_c, u1_3_f0_n) => nu1) (fun (nu1, u1_6, u1_5_l, u1_4_n, u1_4_m, u1_3_f0_l, u1_3_f1, u1_5_p, u1_5_c, u1_5_n, u1_3_f0_p, u1_3_f0_c, u1_3_f0_n) => [(6, .int .i64 ((u1_6 : Nat) : Int)), (5, .slice u1_5_p u1_5_n u1_5_c), (4, .map (some g20)), (3, .pointer (some ⟨c19_0, 0, none⟩)), (0, .slice qp0 l2.length qc1)]) (fun (nu1, u1_6, u1_5_l, u1_4_n, u1_4_m, u1_3_f0_l, u1_3_f1, u1_5_p, u1_5_c, u1_5_n, u1_3_f0_p, u1_3_f0_c, u1_3_f0_n) => [.sli 7 R_Ropewalklaw27_DoD qp0 qc1 l2]) (fun (nu1, u1_6, u1_5_l, u1_4_n, u1_4_m, u1_3_f0_l, u1_3_f1, u1_5_p, u1_5_c, u1_5_n, u1_3_f0_p, u1_3_f0_c, u1_3_f0_n) => [.own 3 1 R_i64 (.slice u1_5_p u1_5_n u1_5_c) u1_5_l, mapK Try.prog 44 3 pairKey44 (mInt tU_3) g20 u1_4_n u1_4_m, .blk c19_0 [.slice u1_3_f0_p u1_3_f0_n u1_3_f0_c, .int .i64 u1_3_f1] 50, .own 62 6 R_SessD (.slice u1_3_f0_p u1_3_f0_n u1_3_f0_c) u1_3_f0_l]) (N, 0, [], 0, fun _ => none, [], 1, none, 0, 0, none, 0, 0) hm [6, 5, 4, 3, 0] rfl (fun _ _ hφ => ask [0] rfl hφ) rfl (fun s_ hm => ?_)
   obtain ⟨nu1, u1_6, u1_5_l, u1_4_n, u1_4_m, u1_3_f0_l, u1_3_f1, u1_5_p, u1_5_c, u1_5_n, u1_3_f0_p, u1_3_f0_c, u1_3_f0_n⟩ := s_
   try dsimp only at hm ⊢
   obtain ⟨mu1, bu1, hnu1, hq, hLu1⟩ := iter_some hm
   clear hm
   subst hnu1
   replace hm := hq
   clear hq
   unfold m_ropewalklaw27_SessionOnce_L1 at hm
   try dsimp only at hm
   refine wc_seq ?_
   refine wc_seq ?_
   obtain ⟨bj_2, hm, hLj_2⟩ := bindO_some hm
   refine wc_cut (σ := Bool) (fun j_2_28 => bj_2 = j_2_28) (fun j_2_28 => [(6, .int .i64 ((u1_6 : Nat) : Int)), (5, .slice u1_5_p u1_5_n u1_5_c), (4, .map (some g20)), (3, .pointer (some ⟨c19_0, 0, none⟩)), (0, .slice qp0 l2.length qc1), (28, .bool j_2_28)]) (fun j_2_28 => [.sli 7 R_Ropewalklaw27_DoD qp0 qc1 l2]) (fun j_2_28 => [.own 3 1 R_i64 (.slice u1_5_p u1_5_n u1_5_c) u1_5_l, mapK Try.prog 44 3 pairKey44 (mInt tU_3) g20 u1_4_n u1_4_m, .blk c19_0 [.slice u1_3_f0_p u1_3_f0_n u1_3_f0_c, .int .i64 u1_3_f1] 50, .own 62 6 R_SessD (.slice u1_3_f0_p u1_3_f0_n u1_3_f0_c) u1_3_f0_l]) ?_ ?_
   ·
    refine wc_region ?_
    refine wl_pure rfl rfl rfl (freshS_eq rfl) rfl ?_
    refine wl_pure rfl rfl rfl (freshS_eq rfl) rfl ?_
    refine wl_len rfl rfl rfl (freshS_eq rfl) rfl rfl tE_22 ?_
    refine wl_pure rfl rfl rfl (freshS_eq rfl) rfl ?_
    refine wl_as (d := 24) (v' := .bool (decide (u1_6 < l2.length))) (S' := [_,_,_,_,_,_,_,_]) rfl rfl (natlt (a := u1_6) (b := l2.length)) ?_
    refine wl_pure rfl rfl rfl (freshS_eq rfl) rfl ?_
    refine wl_split (d := 25) (S' := [_,_,_,_,_,_,_,_,_]) rfl rfl (fun hs25 => ?_) (fun hs25 => ?_)
    ·
     replace hm := iteT hm hs25
     refine wl_pure rfl rfl rfl (freshS_eq rfl) rfl ?_
     refine wl_pure rfl rfl rfl (freshS_eq rfl) rfl ?_
     refine wl_as (d := 27) (v' := .bool (decide (u1_6 < 120))) (S' := [_,_,_,_,_,_,_,_,_,_,_]) rfl rfl (natlt (a := u1_6) (b := 120)) ?_
     refine wl_pure rfl rfl rfl (freshS_eq rfl) rfl ?_
     refine wl_nil ?_
     have hE := (Option.some.inj hm).symm
     refine we_join (decide (u1_6 < 120)) hE [6, 5, 4, 3, 0, 28] rfl (fun _ _ hφ => ask [0] rfl hφ) rfl
    ·
     replace hm := iteF hm hs25
     refine wl_off rfl rfl rfl (freshS_eq rfl) ?_
     refine wl_off rfl rfl rfl (freshS_eq rfl) ?_
     refine wl_pure rfl rfl rfl (freshS_eq rfl) rfl ?_
     refine wl_nil ?_
     have hE := (Option.some.inj hm).symm
     refine we_join false hE [6, 5, 4, 3, 0, 28] rfl (fun _ _ hφ => ask [0] rfl hφ) rfl
   ·
    rintro j_2_28 hE
    try dsimp only
    have hm := hLj_2
    rw [hE] at hm
    refine wc_cond rfl (fun hb28 => ?_) (fun hb28 => ?_)
    ·
     replace hm := iteT hm hb28
     refine wc_keep [6, 5, 4, 3, 0] (S' := [_,_,_,_,_]) rfl ?_
     refine wc_skip ?_
     refine we_then ?_
     refine wc_seq ?_
     obtain ⟨bj_3, hm, hLj_3⟩ := bindS_some hm
     unfold m_ropewalklaw27_SessionOnce_C3 at hm
     refine wc_cut (σ := (List Int) × Nat × ((Int × Int) → Option Int) × (List SessD) × Int × (Option Addr) × Nat × Nat × (Option Addr) × Nat × Nat) (fun (j_3_5_l, j_3_4_n, j_3_4_m, j_3_3_f0_l, j_3_3_f1, j_3_5_p, j_3_5_c, j_3_5_n, j_3_3_f0_p, j_3_3_f0_c, j_3_3_f0_n) => bj_3 = .inl (j_3_5_l, j_3_4_n, j_3_4_m, j_3_3_f0_l, j_3_3_f1)) (fun (j_3_5_l, j_3_4_n, j_3_4_m, j_3_3_f0_l, j_3_3_f1, j_3_5_p, j_3_5_c, j_3_5_n, j_3_3_f0_p, j_3_3_f0_c, j_3_3_f0_n) => [(6, .int .i64 ((u1_6 : Nat) : Int)), (5, .slice j_3_5_p j_3_5_n j_3_5_c), (4, .map (some g20)), (3, .pointer (some ⟨c19_0, 0, none⟩)), (0, .slice qp0 l2.length qc1)]) (fun (j_3_5_l, j_3_4_n, j_3_4_m, j_3_3_f0_l, j_3_3_f1, j_3_5_p, j_3_5_c, j_3_5_n, j_3_3_f0_p, j_3_3_f0_c, j_3_3_f0_n) => [.sli 7 R_Ropewalklaw27_DoD qp0 qc1 l2]) (fun (j_3_5_l, j_3_4_n, j_3_4_m, j_3_3_f0_l, j_3_3_f1, j_3_5_p, j_3_5_c, j_3_5_n, j_3_3_f0_p, j_3_3_f0_c, j_3_3_f0_n) => [.own 3 1 R_i64 (.slice j_3_5_p j_3_5_n j_3_5_c) j_3_5_l, mapK Try.prog 44 3 pairKey44 (mInt tU_3) g20 j_3_4_n j_3_4_m, .blk c19_0 [.slice j_3_3_f0_p j_3_3_f0_n j_3_3_f0_c, .int .i64 j_3_3_f1] 50, .own 62 6 R_SessD (.slice j_3_3_f0_p j_3_3_f0_n j_3_3_f0_c) j_3_3_f0_l]) ?_ ?_
     ·
      refine wc_block ?_
      refine wc_seq ?_
      refine wc_region ?_
      refine wl_pure rfl rfl rfl (freshS_eq rfl) rfl ?_
      refine wl_pure rfl rfl rfl (freshS_eq rfl) rfl ?_
      obtain ⟨x33, hx33, hm⟩ := bindO_some hm
      refine wl_indexA 0 u1_6 rfl rfl rfl (freshS_eq rfl) rfl rfl rfl rfl rfl hx33 tE_22 tS_34 (fun b33 q33 cs33 hlx33 => ?_)
      refine wl_open R_Ropewalklaw27_DoD_opens 1 rfl (fun r33 er33 _ => ?_)
      subst er33
      refine wl_load 2 0 rfl rfl rfl (freshS_eq rfl) rfl rfl rfl (cs := [_,_,_,_,_,_,_]) rfl tS_34 tA_34 rfl rfl ?_
      refine wl_alloc rfl rfl rfl (freshS_eq rfl) rfl tZ_34 rfl (fun g7 => ?_)
      refine wl_store 0 0 rfl rfl rfl rfl rfl rfl rfl tS_34 rfl rfl rfl (all' := [_,_,_,_,_,_,_]) rfl (H' := [_,_,_,_,_]) rfl ?_
      refine wl_nil ?_
      refine we_then ?_
      refine wc_keep [7, 6, 5, 4, 3, 0] (S' := [_,_,_,_,_,_]) rfl ?_
      refine wc_seq ?_
      obtain ⟨bj_4, hm, hLj_4⟩ := bindS_some hm
      unfold m_ropewalklaw27_SessionOnce_C4 at hm
      refine wc_cut (σ := (List Int) × (List SessD) × Int × (Option Addr) × Nat × Nat × (Option Addr) × Nat × Nat) (fun (j_4_5_l, j_4_3_f0_l, j_4_3_f1, j_4_5_p, j_4_5_c, j_4_5_n, j_4_3_f0_p, j_4_3_f0_c, j_4_3_f0_n) => bj_4 = .inl (j_4_5_l, j_4_3_f0_l, j_4_3_f1)) (fun (j_4_5_l, j_4_3_f0_l, j_4_3_f1, j_4_5_p, j_4_5_c, j_4_5_n, j_4_3_f0_p, j_4_3_f0_c, j_4_3_f0_n) => [(7, .pointer (some ⟨g7, 0, none⟩)), (6, .int .i64 ((u1_6 : Nat) : Int)), (5, .slice j_4_5_p j_4_5_n j_4_5_c), (4, .map (some g20)), (3, .pointer (some ⟨c19_0, 0, none⟩)), (0, .slice qp0 l2.length qc1)]) (fun (j_4_5_l, j_4_3_f0_l, j_4_3_f1, j_4_5_p, j_4_5_c, j_4_5_n, j_4_3_f0_p, j_4_3_f0_c, j_4_3_f0_n) => [.sli 3 R_FactD r33.1.1 r33.1.2 x33.reply.facts, .sli 3 R_V r33.2.1 r33.2.2 x33.reply.said, .sli 7 R_Ropewalklaw27_DoD qp0 qc1 l2]) (fun (j_4_5_l, j_4_3_f0_l, j_4_3_f1, j_4_5_p, j_4_5_c, j_4_5_n, j_4_3_f0_p, j_4_3_f0_c, j_4_3_f0_n) => [.blk g7 [.int .i64 (x33.op), .int .i64 (x33.id), .int .i64 (x33.seq), .int .i64 (x33.reply.err), .int .i64 (x33.reply.num), .slice r33.1.1 x33.reply.facts.length r33.1.2, .slice r33.2.1 x33.reply.said.length r33.2.2] 34, .own 3 1 R_i64 (.slice j_4_5_p j_4_5_n j_4_5_c) j_4_5_l, mapK Try.prog 44 3 pairKey44 (mInt tU_3) g20 u1_4_n u1_4_m, .blk c19_0 [.slice j_4_3_f0_p j_4_3_f0_n j_4_3_f0_c, .int .i64 j_4_3_f1] 50, .own 62 6 R_SessD (.slice j_4_3_f0_p j_4_3_f0_n j_4_3_f0_c) j_4_3_f0_l]) ?_ ?_
      ·
       refine wc_seq ?_
       obtain ⟨bj_5, hm, hLj_5⟩ := bindO_some hm
       refine wc_cut (σ := Bool) (fun j_5_43 => bj_5 = j_5_43) (fun j_5_43 => [(7, .pointer (some ⟨g7, 0, none⟩)), (6, .int .i64 ((u1_6 : Nat) : Int)), (5, .slice u1_5_p u1_5_n u1_5_c), (4, .map (some g20)), (3, .pointer (some ⟨c19_0, 0, none⟩)), (0, .slice qp0 l2.length qc1), (43, .bool j_5_43)]) (fun j_5_43 => [.sli 3 R_FactD r33.1.1 r33.1.2 x33.reply.facts, .sli 3 R_V r33.2.1 r33.2.2 x33.reply.said, .sli 7 R_Ropewalklaw27_DoD qp0 qc1 l2]) (fun j_5_43 => [.blk g7 [.int .i64 (x33.op), .int .i64 (x33.id), .int .i64 (x33.seq), .int .i64 (x33.reply.err), .int .i64 (x33.reply.num), .slice r33.1.1 x33.reply.facts.length r33.1.2, .slice r33.2.1 x33.reply.said.length r33.2.2] 34, .own 3 1 R_i64 (.slice u1_5_p u1_5_n u1_5_c) u1_5_l, mapK Try.prog 44 3 pairKey44 (mInt tU_3) g20 u1_4_n u1_4_m, .blk c19_0 [.slice u1_3_f0_p u1_3_f0_n u1_3_f0_c, .int .i64 u1_3_f1] 50, .own 62 6 R_SessD (.slice u1_3_f0_p u1_3_f0_n u1_3_f0_c) u1_3_f0_l]) ?_ ?_
       ·
        refine wc_region ?_
        refine wl_pure rfl rfl rfl (freshS_eq rfl) rfl ?_
        refine wl_ownLen 1 rfl (fun hl36 _ => ?_)
        refine wl_len rfl rfl rfl (freshS_eq rfl) rfl rfl tE_27 ?_
        refine wl_as (d := 36) (v' := .int .i64 ((u1_5_l.length : Nat) : Int)) (S' := [_,_,_,_,_,_,_]) rfl rfl (len_is hl36) ?_
        refine wl_pure rfl rfl rfl (freshS_eq rfl) rfl ?_
        refine wl_as (d := 37) (v' := .bool (u1_5_l.length == 0)) (S' := [_,_,_,_,_,_,_,_]) rfl rfl (nateq (a := u1_5_l.length) (b := 0)) ?_
        refine wl_pure rfl rfl rfl (freshS_eq rfl) rfl ?_
        refine wl_split (d := 38) (S' := [_,_,_,_,_,_,_,_,_]) rfl rfl (fun hs38 => ?_) (fun hs38 => ?_)
        ·
         replace hm := iteT hm hs38
         refine wl_off rfl rfl rfl (freshS_eq rfl) ?_
         refine wl_off rfl rfl rfl (freshS_eq rfl) ?_
         refine wl_off rfl rfl rfl (freshS_eq rfl) ?_
         refine wl_off rfl rfl rfl (freshS_eq rfl) ?_
         refine wl_pure rfl rfl rfl (freshS_eq rfl) rfl ?_
         refine wl_nil ?_
         have hE := (Option.some.inj hm).symm
         refine we_join true hE [7, 6, 5, 4, 3, 0, 43] rfl (fun _ _ hφ => ask [0, 1, 4] rfl hφ) rfl
        ·
         replace hm := iteF hm hs38
         refine wl_fieldAddr rfl rfl rfl (freshS_eq rfl) rfl rfl tF_34_0 ?_
         refine wl_loadH 0 0 rfl rfl rfl (freshS_eq rfl) rfl rfl rfl (cs := [_]) rfl tS_3 tA_3 rfl rfl ?_
         obtain ⟨v41, hc41, hm⟩ := bindO_some hm
         refine wl_call [] [0, 1, 2, 3, 4] rfl rfl rfl (freshS_eq rfl) rfl rfl fn_8 rfl (m_ropewalkkit_Pick_s N x33.op 8 _ hc41) (fun _ _ hφ => ask [] rfl hφ) rfl (H' := [_,_,_,_,_]) rfl ?_
         rintro _ _ _ ⟨rfl, rfl, rfl⟩
         refine wl_pure rfl rfl rfl (freshS_eq rfl) rfl ?_
         refine wl_pure rfl rfl rfl (freshS_eq rfl) rfl ?_
         refine wl_nil ?_
         have hE := (Option.some.inj hm).symm
         refine we_join (v41 == 0) hE [7, 6, 5, 4, 3, 0, 43] rfl (fun _ _ hφ => ask [0, 1, 4] rfl hφ) rfl
       ·
        rintro j_5_43 hE
        try dsimp only
        have hm := hLj_5
        rw [hE] at hm
        refine wc_cond rfl (fun hb43 => ?_) (fun hb43 => ?_)
        ·
         replace hm := iteT hm hb43
         refine wc_keep [7, 6, 5, 4, 3, 0] (S' := [_,_,_,_,_,_]) rfl ?_
         refine wc_seq ?_
         refine wc_region ?_
         refine wl_pure rfl rfl rfl (freshS_eq rfl) rfl ?_
         obtain ⟨⟨v46_0, v46_1, v46_2, v46_3⟩, hc46, hm⟩ := bindO_some hm
         try dsimp only at hm
         refine wl_call [3, 4] [0, 1, 2] rfl rfl rfl (freshS_eq rfl) rfl rfl fn_9 rfl (m_session_Table_Open_s N c19_0 u1_3_f0_p u1_3_f0_n u1_3_f0_c u1_3_f0_l u1_3_f1 _ _ _ _ hc46) (fun _ _ hφ => ask [] rfl hφ) rfl (H' := [_,_,_]) rfl ?_
         rintro _ _ _ ⟨p46_0, c46_1, c46_2, rfl, rfl, rfl⟩
         refine wl_pure rfl rfl rfl (freshS_eq rfl) rfl ?_
         refine wl_pure rfl rfl rfl (freshS_eq rfl) rfl ?_
         refine wl_pure rfl rfl rfl (freshS_eq rfl) rfl ?_
         refine wl_pure rfl rfl rfl (freshS_eq rfl) rfl ?_
         refine wl_pure rfl rfl rfl (freshS_eq rfl) rfl ?_
         refine wl_nil ?_
         refine we_then ?_
         refine wc_keep [9, 8, 7, 6, 5, 4, 3, 0] (S' := [_,_,_,_,_,_,_,_]) rfl ?_
         refine wc_seq ?_
         refine wc_seq ?_
         refine wc_region ?_
         refine wl_pure rfl rfl rfl (freshS_eq rfl) rfl ?_
         refine wl_pure rfl rfl rfl (freshS_eq rfl) rfl ?_
         refine wl_as (d := 50) (v' := .bool (v46_1 != 0)) (S' := [_,_,_,_,_,_,_,_,_]) rfl rfl (natne (a := v46_1) (b := 0)) ?_
         refine wl_nil ?_
         refine we_then ?_
         refine wc_keep [50, 9, 8, 7, 6, 5, 4, 3, 0] (S' := [_,_,_,_,_,_,_,_,_]) rfl ?_
         refine wc_cond rfl (fun hb50 => ?_) (fun hb50 => ?_)
         ·
          replace hm := iteT hm hb50
          refine wc_keep [9, 3] (S' := [_,_]) rfl ?_
          refine wc_seq ?_
          refine wc_region ?_
          refine wl_pure rfl rfl rfl (freshS_eq rfl) rfl ?_
          refine wl_pure rfl rfl rfl (freshS_eq rfl) rfl ?_
          refine wl_as (d := 52) (v' := .bool (v46_1 == 5)) (S' := [_,_,_]) rfl rfl (nateq (a := v46_1) (b := 5)) ?_
          refine wl_pure rfl rfl rfl (freshS_eq rfl) rfl ?_
          refine wl_split (d := 53) (S' := [_,_,_,_]) rfl rfl (fun hs53 => ?_) (fun hs53 => ?_)
          ·
           replace hm := iteT hm hs53
           refine wl_pure rfl rfl rfl (freshS_eq rfl) rfl ?_
           obtain ⟨v55, hc55, hm⟩ := bindO_some hm
           refine wl_call [0, 1] [2, 3, 4] rfl rfl rfl (freshS_eq rfl) rfl rfl fn_10 rfl (m_session_Table_All_s N c19_0 p46_0 c46_2 c46_1 v46_2 v46_3 _ hc55) (fun _ _ hφ => ask [] rfl hφ) rfl (H' := [_,_,_]) rfl ?_
           rintro _ _ _ ⟨p55_0, c55_1, c55_2, rfl, rfl, rfl⟩
           refine wl_ownLen 0 rfl (fun hl56 _ => ?_)
           refine wl_len rfl rfl rfl (freshS_eq rfl) rfl rfl tE_38 ?_
           refine wl_as (d := 56) (v' := .int .i64 ((v55.length : Nat) : Int)) (S' := [_,_,_,_,_,_,_]) rfl rfl (len_is hl56) ?_
           refine wl_pure rfl rfl rfl (freshS_eq rfl) rfl ?_
           refine wl_as (d := 57) (v' := .bool (v55.length == 32)) (S' := [_,_,_,_,_,_,_,_]) rfl rfl (nateq (a := v55.length) (b := 32)) ?_
           refine wl_pure rfl rfl rfl (freshS_eq rfl) rfl ?_
           refine wl_pure rfl rfl rfl (freshS_eq rfl) rfl ?_
           refine wl_nil ?_
           refine we_then ?_
           refine wc_keep [2] (S' := [_]) rfl ?_
           refine wc_ret ?_
           refine we_then_ret ?_
           refine we_then_ret ?_
           refine we_block_ret ?_
           refine we_then_ret ?_
           refine we_then_ret ?_
           refine we_block_ret ?_
           refine we_then_ret ?_
           have hE := (Option.some.inj hm).symm
           replace hE := link_inr hLj_4 hE
           replace hE := link_inr hLj_3 hE
           replace hE := link_inr hLu1 hE
           replace hE := link_inr hLj_1 hE
           replace hE := hE.symm
           subst hE
           refine ret_one (Hr := []) [] Try.results3 (res_tmp rfl) ⟨rfl, rfl, rfl⟩ (fun _ _ hφ => ask [] rfl hφ) rfl rfl (.inl rfl)
          ·
           replace hm := iteF hm hs53
           refine wl_off rfl rfl rfl (freshS_eq rfl) ?_
           refine wl_off rfl rfl rfl (freshS_eq rfl) ?_
           refine wl_off rfl rfl rfl (freshS_eq rfl) ?_
           refine wl_off rfl rfl rfl (freshS_eq rfl) ?_
           refine wl_pure rfl rfl rfl (freshS_eq rfl) rfl ?_
           refine wl_pure rfl rfl rfl (freshS_eq rfl) rfl ?_
           refine wl_nil ?_
           refine we_then ?_
           refine wc_keep [2] (S' := [_]) rfl ?_
           refine wc_ret ?_
           refine we_then_ret ?_
           refine we_then_ret ?_
           refine we_block_ret ?_
           refine we_then_ret ?_
           refine we_then_ret ?_
           refine we_block_ret ?_
           refine we_then_ret ?_
           have hE := (Option.some.inj hm).symm
           replace hE := link_inr hLj_4 hE
           replace hE := link_inr hLj_3 hE
           replace hE := link_inr hLu1 hE
           replace hE := link_inr hLj_1 hE
           replace hE := hE.symm
           subst hE
           refine ret_one (Hr := []) [] Try.results3 (res_tmp rfl) ⟨rfl, rfl, rfl⟩ (fun _ _ hφ => ask [] rfl hφ) rfl rfl (.inl rfl)
         ·
          replace hm := iteF hm hb50
          refine wc_keep [8, 7, 6, 5, 4, 3, 0] (S' := [_,_,_,_,_,_,_]) rfl ?_
          refine wc_skip ?_
          refine we_then ?_
          refine wc_seq ?_
          refine wc_seq ?_
          obtain ⟨bj_6, hm, hLj_6⟩ := bindO_some hm
          refine wc_cut (σ := Bool) (fun j_6_71 => bj_6 = j_6_71) (fun j_6_71 => [(8, .int .i64 v46_0), (7, .pointer (some ⟨g7, 0, none⟩)), (6, .int .i64 ((u1_6 : Nat) : Int)), (5, .slice u1_5_p u1_5_n u1_5_c), (4, .map (some g20)), (3, .pointer (some ⟨c19_0, 0, none⟩)), (0, .slice qp0 l2.length qc1), (71, .bool j_6_71)]) (fun j_6_71 => [.sli 3 R_FactD r33.1.1 r33.1.2 x33.reply.facts, .sli 3 R_V r33.2.1 r33.2.2 x33.reply.said, .sli 7 R_Ropewalklaw27_DoD qp0 qc1 l2]) (fun j_6_71 => [.blk g7 [.int .i64 (x33.op), .int .i64 (x33.id), .int .i64 (x33.seq), .int .i64 (x33.reply.err), .int .i64 (x33.reply.num), .slice r33.1.1 x33.reply.facts.length r33.1.2, .slice r33.2.1 x33.reply.said.length r33.2.2] 34, .own 3 1 R_i64 (.slice u1_5_p u1_5_n u1_5_c) u1_5_l, mapK Try.prog 44 3 pairKey44 (mInt tU_3) g20 u1_4_n u1_4_m, .blk c19_0 [.slice p46_0 c46_2 c46_1, .int .i64 v46_3] 50, .own 62 6 R_SessD (.slice p46_0 c46_2 c46_1) v46_2]) ?_ ?_
          ·
           refine wc_region ?_
           refine wl_pure rfl rfl rfl (freshS_eq rfl) rfl ?_
           refine wl_ownLen 3 rfl (fun hl60 _ => ?_)
           refine wl_len rfl rfl rfl (freshS_eq rfl) rfl rfl tE_27 ?_
           refine wl_as (d := 60) (v' := .int .i64 ((u1_5_l.length : Nat) : Int)) (S' := [_,_,_,_,_,_,_,_]) rfl rfl (len_is hl60) ?_
           refine wl_pure rfl rfl rfl (freshS_eq rfl) rfl ?_
           refine wl_as (d := 61) (v' := .bool (decide (0 < u1_5_l.length))) (S' := [_,_,_,_,_,_,_,_,_]) rfl rfl (natgt (a := u1_5_l.length) (b := 0)) ?_
           refine wl_pure rfl rfl rfl (freshS_eq rfl) rfl ?_
           refine wl_split (d := 62) (S' := [_,_,_,_,_,_,_,_,_,_]) rfl rfl (fun hs62 => ?_) (fun hs62 => ?_)
           ·
            replace hm := iteT hm hs62
            refine wl_pure rfl rfl rfl (freshS_eq rfl) rfl ?_
            refine wl_pure rfl rfl rfl (freshS_eq rfl) rfl ?_
            refine wl_pure rfl rfl rfl (freshS_eq rfl) rfl ?_
            refine wl_ownLen 3 rfl (fun hl66 _ => ?_)
            refine wl_len rfl rfl rfl (freshS_eq rfl) rfl rfl tE_27 ?_
            refine wl_as (d := 66) (v' := .int .i64 ((u1_5_l.length : Nat) : Int)) (S' := [_,_,_,_,_,_,_,_,_,_,_,_,_,_]) rfl rfl (len_is hl66) ?_
            refine wl_pure rfl rfl rfl (freshS_eq rfl) rfl ?_
            obtain ⟨hg67, hm⟩ := gd_some hm
            refine wl_as (d := 67) (v' := .int .i64 (((u1_5_l.length : Nat) : Int) - 1)) (S' := [_,_,_,_,_,_,_,_,_,_,_,_,_,_,_]) rfl rfl (i64_in hg67) ?_
            obtain ⟨hn68, hm⟩ := gd_some hm
            obtain ⟨x68, hx68, hm⟩ := bindO_some hm
            refine wl_indexH 3 ((((u1_5_l.length : Nat) : Int) - 1).toNat) rfl rfl rfl (freshS_eq rfl) rfl rfl rfl rfl (toNat_eq hn68) (get_lt hx68) tE_27 tS_3 (fun g68 eg68 => ?_)
            subst eg68
            refine wl_loadRow R_i64_opens 3 ((((u1_5_l.length : Nat) : Int) - 1).toNat) 0 rfl rfl rfl (freshS_eq rfl) rfl rfl rfl hx68 tS_3 tA_3 (v := fun _ => .int .i64 x68) (fun _ => rfl) (fun _ => rfl) (fun _ _ => ?_)
            refine wl_pure rfl rfl rfl (freshS_eq rfl) rfl ?_
            refine wl_pure rfl rfl rfl (freshS_eq rfl) rfl ?_
            refine wl_nil ?_
            have hE := (Option.some.inj hm).symm
            refine we_pick [2, 3, 4, 0, 1] rfl (H' := [_,_,_,_,_]) rfl ?_
            refine we_join (decide (v46_0 ≤ x68)) hE [8, 7, 6, 5, 4, 3, 0, 71] rfl (fun _ _ hφ => ask [0, 1, 2] rfl hφ) rfl
           ·
            replace hm := iteF hm hs62
            refine wl_off rfl rfl rfl (freshS_eq rfl) ?_
            refine wl_off rfl rfl rfl (freshS_eq rfl) ?_
            refine wl_off rfl rfl rfl (freshS_eq rfl) ?_
            refine wl_off rfl rfl rfl (freshS_eq rfl) ?_
            refine wl_off rfl rfl rfl (freshS_eq rfl) ?_
            refine wl_off rfl rfl rfl (freshS_eq rfl) ?_
            refine wl_off rfl rfl rfl (freshS_eq rfl) ?_
            refine wl_off rfl rfl rfl (freshS_eq rfl) ?_
            refine wl_pure rfl rfl rfl (freshS_eq rfl) rfl ?_
            refine wl_nil ?_
            have hE := (Option.some.inj hm).symm
            refine we_pick [2, 3, 4, 0, 1] rfl (H' := [_,_,_,_,_]) rfl ?_
            refine we_join false hE [8, 7, 6, 5, 4, 3, 0, 71] rfl (fun _ _ hφ => ask [0, 1, 2] rfl hφ) rfl
          ·
           rintro j_6_71 hE
           try dsimp only
           have hm := hLj_6
           rw [hE] at hm
           refine wc_cond rfl (fun hb71 => ?_) (fun hb71 => ?_)
           ·
            replace hm := iteT hm hb71
            refine wc_keep [] (S' := []) rfl ?_
            refine wc_seq ?_
            refine wc_region ?_
            refine wl_pure rfl rfl rfl (freshS_eq rfl) rfl ?_
            refine wl_nil ?_
            refine we_then ?_
            refine wc_ret ?_
            refine we_then_ret ?_
            refine we_then_ret ?_
            refine we_block_ret ?_
            refine we_then_ret ?_
            refine we_then_ret ?_
            refine we_block_ret ?_
            refine we_then_ret ?_
            have hE := (Option.some.inj hm).symm
            replace hE := link_inr hLj_4 hE
            replace hE := link_inr hLj_3 hE
            replace hE := link_inr hLu1 hE
            replace hE := link_inr hLj_1 hE
            replace hE := hE.symm
            subst hE
            refine ret_one (Hr := []) [] Try.results3 (res_tmp rfl) ⟨rfl, rfl, rfl⟩ (fun _ _ hφ => ask [] rfl hφ) rfl rfl (.inl rfl)
           ·
            replace hm := iteF hm hb71
            refine wc_keep [8, 7, 6, 5, 4, 3, 0] (S' := [_,_,_,_,_,_,_]) rfl ?_
            refine wc_skip ?_
            refine we_then ?_
            refine wc_region ?_
            refine wl_pure rfl rfl rfl (freshS_eq rfl) rfl ?_
            refine wl_pure rfl rfl rfl (freshS_eq rfl) rfl ?_
            refine wl_buildSlice rfl rfl rfl (freshS_eq rfl) rfl tE_27 tS_3 tZ_3 rfl (zs := [.int .i64 0]) (by kernel_rfl) rfl (out := [_]) rfl (fun g74 => ?_)
            obtain ⟨hg75, hm⟩ := gd_some hm
            refine wl_appendH [v46_0] 2 0 rfl rfl rfl (freshS_eq rfl) rfl rfl rfl rfl rfl (fun F w hφ => ⟨[.int .i64 v46_0], [], rfl, rfl, ⟨(), rfl, ask_nil⟩, rfl⟩) tE_27 tR_3 rfl rfl (Nat.le_trans hg75 (by decide)) (Nat.le_trans (Nat.mul_le_mul_right _ hg75) (by decide)) (H2 := fun p75 c75 => [.blk g74 [.int .i64 v46_0] 3, .blk g7 [.int .i64 (x33.op), .int .i64 (x33.id), .int .i64 (x33.seq), .int .i64 (x33.reply.err), .int .i64 (x33.reply.num), .slice r33.1.1 x33.reply.facts.length r33.1.2, .slice r33.2.1 x33.reply.said.length r33.2.2] 34, .own 3 1 R_i64 (.slice p75 ((u1_5_l ++ [v46_0]).length) c75) (u1_5_l ++ [v46_0]), mapK Try.prog 44 3 pairKey44 (mInt tU_3) g20 u1_4_n u1_4_m, .blk c19_0 [.slice p46_0 c46_2 c46_1, .int .i64 v46_3] 50, .own 62 6 R_SessD (.slice p46_0 c46_2 c46_1) v46_2]) (fun _ _ => rfl) (fun p75 c75 => ?_)
            refine wl_drop 0 rfl (H' := [_,_,_,_,_]) rfl ?_
            refine wl_pure (S' := [_,_,_,_,_,_,_,_,_,_]) rfl rfl rfl rfl rfl ?_
            refine wl_nil ?_
            have hE := (Option.some.inj hm).symm
            refine we_join (u1_5_l ++ [v46_0], v46_2, v46_3, p75, c75, (u1_5_l ++ [v46_0]).length, p46_0, c46_1, c46_2) hE [7, 6, 5, 4, 3, 0] rfl (fun _ _ hφ => ask [0, 1, 2] rfl hφ) rfl
        ·
         replace hm := iteF hm hb43
         refine wc_keep [7, 6, 5, 4, 3, 0] (S' := [_,_,_,_,_,_]) rfl ?_
         refine wc_skip ?_
         have hE := (Option.some.inj hm).symm
         refine we_join (u1_5_l, u1_3_f0_l, u1_3_f1, u1_5_p, u1_5_c, u1_5_n, u1_3_f0_p, u1_3_f0_c, u1_3_f0_n) hE [7, 6, 5, 4, 3, 0] rfl (fun _ _ hφ => ask [0, 1, 2] rfl hφ) rfl
      ·
       rintro ⟨j_4_5_l, j_4_3_f0_l, j_4_3_f1, j_4_5_p, j_4_5_c, j_4_5_n, j_4_3_f0_p, j_4_3_f0_c, j_4_3_f0_n⟩ hE
       try dsimp only
       have hm := link_inl hLj_4 hE
       try dsimp only at hm
       refine wc_seq ?_
       refine wc_region ?_
       refine wl_pure rfl rfl rfl (freshS_eq rfl) rfl ?_
       refine wl_fieldAddr rfl rfl rfl (freshS_eq rfl) rfl rfl tF_34_1 ?_
       refine wl_loadH 0 1 rfl rfl rfl (freshS_eq rfl) rfl rfl rfl (cs := [_]) rfl tS_3 tA_3 rfl rfl ?_
       refine wl_pure rfl rfl rfl (freshS_eq rfl) rfl ?_
       refine wl_ownLen 1 rfl (fun hl80 _ => ?_)
       refine wl_len rfl rfl rfl (freshS_eq rfl) rfl rfl tE_27 ?_
       refine wl_as (d := 80) (v' := .int .i64 ((j_4_5_l.length : Nat) : Int)) (S' := [_,_,_,_,_,_,_,_,_,_]) rfl rfl (len_is hl80) ?_
       obtain ⟨v81, hc81, hm⟩ := bindO_some hm
       refine wl_call [] [0, 1, 2, 3, 4] rfl rfl rfl (freshS_eq rfl) rfl rfl fn_8 rfl (m_ropewalkkit_Pick_s N x33.id ((j_4_5_l.length : Nat) : Int) _ hc81) (fun _ _ hφ => ask [] rfl hφ) rfl (H' := [_,_,_,_,_]) rfl ?_
       rintro _ _ _ ⟨rfl, rfl, rfl⟩
       obtain ⟨hn82, hm⟩ := gd_some hm
       obtain ⟨x82, hx82, hm⟩ := bindO_some hm
       refine wl_indexH 1 v81.toNat rfl rfl rfl (freshS_eq rfl) rfl rfl rfl rfl (toNat_eq hn82) (get_lt hx82) tE_27 tS_3 (fun g82 eg82 => ?_)
       subst eg82
       refine wl_loadRow R_i64_opens 1 v81.toNat 0 rfl rfl rfl (freshS_eq rfl) rfl rfl rfl hx82 tS_3 tA_3 (v := fun _ => .int .i64 x82) (fun _ => rfl) (fun _ => rfl) (fun _ _ => ?_)
       refine wl_pure rfl rfl rfl (freshS_eq rfl) rfl ?_
       refine wl_nil ?_
       refine we_then ?_
       refine wc_keep [10, 7, 6, 5, 4, 3, 0] (S' := [_,_,_,_,_,_,_]) rfl ?_
       refine wc_seq ?_
       refine wc_region ?_
       refine wl_fieldAddr rfl rfl rfl (freshS_eq rfl) rfl rfl tF_34_2 ?_
       refine wl_loadH 0 2 rfl rfl rfl (freshS_eq rfl) rfl rfl rfl (cs := [_]) rfl tS_3 tA_3 rfl rfl ?_
       obtain ⟨v86, hc86, hm⟩ := bindO_some hm
       refine wl_call [] [0, 1, 2, 3, 4] rfl rfl rfl (freshS_eq rfl) rfl rfl fn_8 rfl (m_ropewalkkit_Pick_s N x33.seq 12 _ hc86) (fun _ _ hφ => ask [] rfl hφ) rfl (H' := [_,_,_,_,_]) rfl ?_
       rintro _ _ _ ⟨rfl, rfl, rfl⟩
       refine wl_pure rfl rfl rfl (freshS_eq rfl) rfl ?_
       obtain ⟨hg87, hm⟩ := gd_some hm
       refine wl_as (d := 87) (v' := .int .i64 (1 + v86)) (S' := [_,_,_,_,_,_,_,_,_,_]) rfl rfl (i64_in hg87) ?_
       refine wl_pure rfl rfl rfl (freshS_eq rfl) rfl ?_
       refine wl_nil ?_
       refine we_then ?_
       refine wc_keep [11, 10, 7, 6, 5, 4, 3, 0] (S' := [_,_,_,_,_,_,_,_]) rfl ?_
       refine wc_seq ?_
       obtain ⟨bj_7, hm, hLj_7⟩ := bindO_some hm
       refine wc_cut (σ := (List SessD) × (Option Addr) × Nat × Nat) (fun (j_7_3_f0_l, j_7_3_f0_p, j_7_3_f0_c, j_7_3_f0_n) => bj_7 = j_7_3_f0_l) (fun (j_7_3_f0_l, j_7_3_f0_p, j_7_3_f0_c, j_7_3_f0_n) => [(11, .int .i64 (1 + v86)), (10, .int .i64 x82), (6, .int .i64 ((u1_6 : Nat) : Int)), (5, .slice (some ⟨g82, 0, none⟩) j_4_5_n j_4_5_c), (4, .map (some g20)), (3, .pointer (some ⟨c19_0, 0, none⟩)), (0, .slice qp0 l2.length qc1)]) (fun (j_7_3_f0_l, j_7_3_f0_p, j_7_3_f0_c, j_7_3_f0_n) => [.sli 7 R_Ropewalklaw27_DoD qp0 qc1 l2]) (fun (j_7_3_f0_l, j_7_3_f0_p, j_7_3_f0_c, j_7_3_f0_n) => [.own 3 1 R_i64 (.slice (some ⟨g82, 0, none⟩) j_4_5_n j_4_5_c) j_4_5_l, mapK Try.prog 44 3 pairKey44 (mInt tU_3) g20 u1_4_n u1_4_m, .blk c19_0 [.slice j_7_3_f0_p j_7_3_f0_n j_7_3_f0_c, .int .i64 j_4_3_f1] 50, .own 62 6 R_SessD (.slice j_7_3_f0_p j_7_3_f0_n j_7_3_f0_c) j_7_3_f0_l]) ?_ ?_
       ·
        refine wc_seq ?_
        refine wc_region ?_
        refine wl_fieldAddr rfl rfl rfl (freshS_eq rfl) rfl rfl tF_34_0 ?_
        refine wl_loadH 0 0 rfl rfl rfl (freshS_eq rfl) rfl rfl rfl (cs := [_]) rfl tS_3 tA_3 rfl rfl ?_
        obtain ⟨v90, hc90, hm⟩ := bindO_some hm
        refine wl_call [] [0, 1, 2, 3, 4] rfl rfl rfl (freshS_eq rfl) rfl rfl fn_8 rfl (m_ropewalkkit_Pick_s N x33.op 30 _ hc90) (fun _ _ hφ => ask [] rfl hφ) rfl (H' := [_,_,_,_,_]) rfl ?_
        rintro _ _ _ ⟨rfl, rfl, rfl⟩
        refine wl_pure rfl rfl rfl (freshS_eq rfl) rfl ?_
        refine wl_nil ?_
        refine we_then ?_
        refine wc_keep [91, 11, 10, 6, 5, 4, 3, 0] (S' := [_,_,_,_,_,_,_,_]) rfl ?_
        refine wc_cond rfl (fun hb91 => ?_) (fun hb91 => ?_)
        ·
         replace hm := iteT hm hb91
         refine wc_keep [11, 10, 6, 5, 4, 3, 0] (S' := [_,_,_,_,_,_,_]) rfl ?_
         refine wc_region ?_
         refine wl_pure rfl rfl rfl (freshS_eq rfl) rfl ?_
         refine wl_pure rfl rfl rfl (freshS_eq rfl) rfl ?_
         obtain ⟨⟨v94_0, v94_1⟩, hc94, hm⟩ := bindO_some hm
         try dsimp only at hm
         refine wl_call [3, 4] [0, 1, 2] rfl rfl rfl (freshS_eq rfl) rfl rfl fn_11 rfl (m_session_Table_Expire_s N c19_0 j_4_3_f0_p j_4_3_f0_n j_4_3_f0_c j_4_3_f0_l j_4_3_f1 x82 _ _ hc94) (fun _ _ hφ => ask [] rfl hφ) rfl (H' := [_,_,_]) rfl ?_
         rintro _ _ _ ⟨p94_0, c94_1, c94_2, rfl, rfl, rfl⟩
         refine wl_nil ?_
         have hE := (Option.some.inj hm).symm
         refine we_pick [3, 4, 0, 1] rfl (H' := [_,_,_,_]) rfl ?_
         refine we_join (v94_1, p94_0, c94_1, c94_2) hE [11, 10, 6, 5, 4, 3, 0] rfl (fun _ _ hφ => ask [2] rfl hφ) rfl
        ·
         replace hm := iteF hm hb91
         refine wc_keep [11, 10, 6, 5, 4, 3, 0] (S' := [_,_,_,_,_,_,_]) rfl ?_
         refine wc_skip ?_
         have hE := (Option.some.inj hm).symm
         refine we_pick [1, 2, 3, 4] rfl (H' := [_,_,_,_]) rfl ?_
         refine we_join (j_4_3_f0_l, j_4_3_f0_p, j_4_3_f0_c, j_4_3_f0_n) hE [11, 10, 6, 5, 4, 3, 0] rfl (fun _ _ hφ => ask [2] rfl hφ) rfl
       ·
        rintro ⟨j_7_3_f0_l, j_7_3_f0_p, j_7_3_f0_c, j_7_3_f0_n⟩ hE
        try dsimp only
        have hm := hLj_7
        rw [hE] at hm
        refine wc_seq ?_
        refine wc_region ?_
        refine wl_pure rfl rfl rfl (freshS_eq rfl) rfl ?_
        refine wl_pure rfl rfl rfl (freshS_eq rfl) rfl ?_
        refine wl_pure rfl rfl rfl (freshS_eq rfl) rfl ?_
        obtain ⟨⟨v99_0, v99_1, v99_2, v99_3, v99_4, v99_5⟩, hc99, hm⟩ := bindO_some hm
        try dsimp only at hm
        refine wl_call [2, 3] [0, 1] rfl rfl rfl (freshS_eq rfl) rfl rfl fn_12 rfl (m_session_Table_Ask_s N c19_0 j_7_3_f0_p j_7_3_f0_n j_7_3_f0_c j_7_3_f0_l j_4_3_f1 x82 (1 + v86) _ _ _ _ _ _ hc99) (fun _ _ hφ => ask [] rfl hφ) rfl (H' := [_,_]) rfl ?_
        rintro _ _ _ ⟨p99_0, c99_1, c99_2, p99_3, c99_4, c99_5, rfl, rfl, rfl⟩
        refine wl_pure rfl rfl rfl (freshS_eq rfl) rfl ?_
        refine wl_pure rfl rfl rfl (freshS_eq rfl) rfl ?_
        refine wl_pure rfl rfl rfl (freshS_eq rfl) rfl ?_
        refine wl_pure rfl rfl rfl (freshS_eq rfl) rfl ?_
        refine wl_alloc rfl rfl rfl (freshS_eq rfl) rfl tZ_32 rfl (fun g12 => ?_)
        refine wl_store 0 0 rfl rfl rfl rfl rfl rfl rfl tS_32 rfl rfl rfl (all' := [_,_,_,_]) rfl (H' := [_,_,_,_,_,_,_]) rfl ?_
        refine wl_pure rfl rfl rfl (freshS_eq rfl) rfl ?_
        refine wl_pure rfl rfl rfl (freshS_eq rfl) rfl ?_
        refine wl_nil ?_
        refine we_then ?_
        refine wc_keep [14, 13, 12, 11, 10, 6, 5, 4, 3, 0] (S' := [_,_,_,_,_,_,_,_,_,_]) rfl ?_
        refine wc_seq ?_
        refine wc_region ?_
        refine wl_pure rfl rfl rfl (freshS_eq rfl) rfl ?_
        refine wl_pure rfl rfl rfl (freshS_eq rfl) rfl ?_
        refine wl_pure rfl rfl rfl (freshS_eq rfl) rfl ?_
        refine wl_buildArr rfl rfl rfl (freshS_eq rfl) rfl tZ_44 tArr_44 rfl (out := [_,_]) rfl ?_
        obtain ⟨hk108, hm⟩ := gd_some hm
        obtain ⟨hkk108, hm⟩ := gd_some hm
        refine wl_lookupK (K := pairKey44) (E := (mInt tU_3)) (i := (x82, 1 + v86)) 6 rfl rfl rfl (freshS_eq rfl) rfl rfl rfl rfl tZ_3 tM_26 ⟨hk108, hkk108⟩ (v := .tuple #[.int .i64 ((u1_4_m (x82, 1 + v86)).getD 0), .bool ((u1_4_m (x82, 1 + v86)).isSome)]) (by cases (u1_4_m (x82, 1 + v86)) <;> rfl) ?_
        refine wl_pure rfl rfl rfl (freshS_eq rfl) rfl ?_
        refine wl_pure rfl rfl rfl (freshS_eq rfl) rfl ?_
        refine wl_pure rfl rfl rfl (freshS_eq rfl) rfl ?_
        refine wl_pure rfl rfl rfl (freshS_eq rfl) rfl ?_
        refine wl_pure rfl rfl rfl (freshS_eq rfl) rfl ?_
        refine wl_nil ?_
        refine we_then ?_
        refine wc_keep [16, 15, 14, 13, 12, 11, 10, 6, 5, 4, 3, 0] (S' := [_,_,_,_,_,_,_,_,_,_,_,_]) rfl ?_
        refine wc_block ?_
        refine wc_seq ?_
        refine wc_region ?_
        refine wl_pure rfl rfl rfl (freshS_eq rfl) rfl ?_
        refine wl_pure rfl rfl rfl (freshS_eq rfl) rfl ?_
        refine wl_nil ?_
        refine we_then ?_
        refine wc_keep [111, 16, 15, 14, 12, 11, 10, 6, 5, 4, 3, 0] (S' := [_,_,_,_,_,_,_,_,_,_,_,_]) rfl ?_
        refine wc_cond rfl (fun hb111 => ?_) (fun hb111 => ?_)
        ·
         replace hm := iteT hm hb111
         refine wc_keep [16, 15, 14, 12, 6, 5, 4, 3, 0] (S' := [_,_,_,_,_,_,_,_,_]) rfl ?_
         refine wc_seq ?_
         obtain ⟨bj_8, hm, hLj_8⟩ := bindO_some hm
         refine wc_cut (σ := Bool) (fun j_8_124 => bj_8 = j_8_124) (fun j_8_124 => [(6, .int .i64 ((u1_6 : Nat) : Int)), (5, .slice (some ⟨g82, 0, none⟩) j_4_5_n j_4_5_c), (4, .map (some g20)), (3, .pointer (some ⟨c19_0, 0, none⟩)), (0, .slice qp0 l2.length qc1), (124, .bool j_8_124)]) (fun j_8_124 => [.sli 7 R_Ropewalklaw27_DoD qp0 qc1 l2]) (fun j_8_124 => [.own 3 1 R_i64 (.slice (some ⟨g82, 0, none⟩) j_4_5_n j_4_5_c) j_4_5_l, mapK Try.prog 44 3 pairKey44 (mInt tU_3) g20 u1_4_n u1_4_m, .blk c19_0 [.slice j_7_3_f0_p j_7_3_f0_n j_7_3_f0_c, .int .i64 j_4_3_f1] 50, .own 62 6 R_SessD (.slice j_7_3_f0_p j_7_3_f0_n j_7_3_f0_c) j_7_3_f0_l]) ?_ ?_
         ·
          refine wc_region ?_
          refine wl_pure rfl rfl rfl (freshS_eq rfl) rfl ?_
          refine wl_pure rfl rfl rfl (freshS_eq rfl) rfl ?_
          refine wl_as (d := 114) (v' := .bool (v99_5 != 0)) (S' := [_,_,_,_,_,_,_,_,_,_]) rfl rfl (natne (a := v99_5) (b := 0)) ?_
          refine wl_pure rfl rfl rfl (freshS_eq rfl) rfl ?_
          refine wl_split (d := 115) (S' := [_,_,_,_,_,_,_,_,_,_,_]) rfl rfl (fun hs115 => ?_) (fun hs115 => ?_)
          ·
           replace hm := iteT hm hs115
           refine wl_off rfl rfl rfl (freshS_eq rfl) ?_
           refine wl_off rfl rfl rfl (freshS_eq rfl) ?_
           refine wl_pure rfl rfl rfl (freshS_eq rfl) rfl ?_
           refine wl_pure rfl rfl rfl (freshS_eq rfl) rfl ?_
           refine wl_off rfl rfl rfl (freshS_eq rfl) ?_
           refine wl_off rfl rfl rfl (freshS_eq rfl) ?_
           refine wl_off rfl rfl rfl (freshS_eq rfl) ?_
           refine wl_off rfl rfl rfl (freshS_eq rfl) ?_
           refine wl_pure rfl rfl rfl (freshS_eq rfl) rfl ?_
           refine wl_nil ?_
           have hE := (Option.some.inj hm).symm
           refine we_pick [5, 6, 3, 4] rfl (H' := [_,_,_,_]) rfl ?_
           refine we_join true hE [6, 5, 4, 3, 0, 124] rfl (fun _ _ hφ => ask [0] rfl hφ) rfl
          ·
           replace hm := iteF hm hs115
           refine wl_pure rfl rfl rfl (freshS_eq rfl) rfl ?_
           refine wl_pure rfl rfl rfl (freshS_eq rfl) rfl ?_
           refine wl_pure rfl rfl rfl (freshS_eq rfl) rfl ?_
           refine wl_pure rfl rfl rfl (freshS_eq rfl) rfl ?_
           refine wl_split (d := 119) (S' := [_,_,_,_,_,_,_,_,_,_,_,_,_,_,_]) rfl rfl (fun hs119 => ?_) (fun hs119 => ?_)
           ·
            replace hm := iteT hm hs119
            refine wl_off rfl rfl rfl (freshS_eq rfl) ?_
            refine wl_off rfl rfl rfl (freshS_eq rfl) ?_
            refine wl_off rfl rfl rfl (freshS_eq rfl) ?_
            refine wl_off rfl rfl rfl (freshS_eq rfl) ?_
            refine wl_pure rfl rfl rfl (freshS_eq rfl) rfl ?_
            refine wl_nil ?_
            have hE := (Option.some.inj hm).symm
            refine we_pick [5, 6, 3, 4] rfl (H' := [_,_,_,_]) rfl ?_
            refine we_join true hE [6, 5, 4, 3, 0, 124] rfl (fun _ _ hφ => ask [0] rfl hφ) rfl
           ·
            replace hm := iteF hm hs119
            refine wl_fieldAddr rfl rfl rfl (freshS_eq rfl) rfl rfl tF_32_1 ?_
            refine wl_loadH 0 1 rfl rfl rfl (freshS_eq rfl) rfl rfl rfl (cs := [_]) rfl tS_3 tA_3 rfl rfl ?_
            refine wl_pure rfl rfl rfl (freshS_eq rfl) rfl ?_
            refine wl_pure rfl rfl rfl (freshS_eq rfl) rfl ?_
            refine wl_pure rfl rfl rfl (freshS_eq rfl) rfl ?_
            refine wl_nil ?_
            have hE := (Option.some.inj hm).symm
            refine we_pick [5, 6, 3, 4] rfl (H' := [_,_,_,_]) rfl ?_
            refine we_join (v99_1 != ((u1_4_m (x82, 1 + v86)).getD 0)) hE [6, 5, 4, 3, 0, 124] rfl (fun _ _ hφ => ask [0] rfl hφ) rfl
         ·
          rintro j_8_124 hE
          try dsimp only
          have hm := hLj_8
          rw [hE] at hm
          refine wc_cond rfl (fun hb124 => ?_) (fun hb124 => ?_)
          ·
           replace hm := iteT hm hb124
           refine wc_keep [] (S' := []) rfl ?_
           refine wc_seq ?_
           refine wc_region ?_
           refine wl_pure rfl rfl rfl (freshS_eq rfl) rfl ?_
           refine wl_nil ?_
           refine we_then ?_
           refine wc_ret ?_
           refine we_block_ret ?_
           refine we_block_ret ?_
           refine we_then_ret ?_
           refine we_then_ret ?_
           refine we_block_ret ?_
           refine we_then_ret ?_
           have hE := (Option.some.inj hm).symm
           replace hE := link_inr hLj_3 hE
           replace hE := link_inr hLu1 hE
           replace hE := link_inr hLj_1 hE
           replace hE := hE.symm
           subst hE
           refine ret_one (Hr := []) [] Try.results3 (res_tmp rfl) ⟨rfl, rfl, rfl⟩ (fun _ _ hφ => ask [] rfl hφ) rfl rfl (.inl rfl)
          ·
           replace hm := iteF hm hb124
           refine wc_keep [6, 5, 4, 3, 0] (S' := [_,_,_,_,_]) rfl ?_
           refine wc_skip ?_
           refine we_block_normal ?_
           refine we_block_normal ?_
           have hE := (Option.some.inj hm).symm
           refine we_join (j_4_5_l, u1_4_n, u1_4_m, j_7_3_f0_l, j_4_3_f1, some ⟨g82, 0, none⟩, j_4_5_c, j_4_5_n, j_7_3_f0_p, j_7_3_f0_c, j_7_3_f0_n) hE [6, 5, 4, 3, 0] rfl (fun _ _ hφ => ask [0] rfl hφ) rfl
        ·
         replace hm := iteF hm hb111
         refine wc_keep [16, 14, 11, 10, 6, 5, 4, 3, 0] (S' := [_,_,_,_,_,_,_,_,_]) rfl ?_
         refine wc_seq ?_
         refine wc_region ?_
         refine wl_pure rfl rfl rfl (freshS_eq rfl) rfl ?_
         refine wl_pure rfl rfl rfl (freshS_eq rfl) rfl ?_
         refine wl_as (d := 127) (v' := .bool (v99_5 == 0)) (S' := [_,_,_,_,_,_,_,_,_,_]) rfl rfl (nateq (a := v99_5) (b := 0)) ?_
         refine wl_pure rfl rfl rfl (freshS_eq rfl) rfl ?_
         refine wl_nil ?_
         refine we_then ?_
         refine wc_keep [125, 16, 14, 11, 10, 6, 5, 4, 3, 0] (S' := [_,_,_,_,_,_,_,_,_,_]) rfl ?_
         refine wc_cond rfl (fun hb125 => ?_) (fun hb125 => ?_)
         ·
          replace hm := iteT hm hb125
          refine wc_keep [16, 11, 10, 6, 5, 4, 3, 0] (S' := [_,_,_,_,_,_,_,_]) rfl ?_
          refine wc_seq ?_
          refine wc_seq ?_
          obtain ⟨bj_9, hm, hLj_9⟩ := bindO_some hm
          refine wc_cut (σ := (List SessD) × Bool) (fun (j_9_3_f0_l, j_9_138) => bj_9 = (j_9_3_f0_l, j_9_138)) (fun (j_9_3_f0_l, j_9_138) => [(11, .int .i64 (1 + v86)), (10, .int .i64 x82), (6, .int .i64 ((u1_6 : Nat) : Int)), (5, .slice (some ⟨g82, 0, none⟩) j_4_5_n j_4_5_c), (4, .map (some g20)), (3, .pointer (some ⟨c19_0, 0, none⟩)), (0, .slice qp0 l2.length qc1), (138, .bool j_9_138)]) (fun (j_9_3_f0_l, j_9_138) => [.sli 7 R_Ropewalklaw27_DoD qp0 qc1 l2]) (fun (j_9_3_f0_l, j_9_138) => [.own 3 1 R_i64 (.slice (some ⟨g82, 0, none⟩) j_4_5_n j_4_5_c) j_4_5_l, mapK Try.prog 44 3 pairKey44 (mInt tU_3) g20 u1_4_n u1_4_m, .blk c19_0 [.slice j_7_3_f0_p j_7_3_f0_n j_7_3_f0_c, .int .i64 j_4_3_f1] 50, .own 62 6 R_SessD (.slice j_7_3_f0_p j_7_3_f0_n j_7_3_f0_c) j_9_3_f0_l]) ?_ ?_
          ·
           refine wc_region ?_
           refine wl_pure rfl rfl rfl (freshS_eq rfl) rfl ?_
           refine wl_pure rfl rfl rfl (freshS_eq rfl) rfl ?_
           refine wl_split (d := 129) (S' := [_,_,_,_,_,_,_,_,_]) rfl rfl (fun hs129 => ?_) (fun hs129 => ?_)
           ·
            replace hm := iteT hm hs129
            refine wl_off rfl rfl rfl (freshS_eq rfl) ?_
            refine wl_off rfl rfl rfl (freshS_eq rfl) ?_
            refine wl_off rfl rfl rfl (freshS_eq rfl) ?_
            refine wl_off rfl rfl rfl (freshS_eq rfl) ?_
            refine wl_off rfl rfl rfl (freshS_eq rfl) ?_
            refine wl_off rfl rfl rfl (freshS_eq rfl) ?_
            refine wl_off rfl rfl rfl (freshS_eq rfl) ?_
            refine wl_off rfl rfl rfl (freshS_eq rfl) ?_
            refine wl_pure rfl rfl rfl (freshS_eq rfl) rfl ?_
            refine wl_nil ?_
            have hE := (Option.some.inj hm).symm
            refine we_pick [5, 6, 3, 4] rfl (H' := [_,_,_,_]) rfl ?_
            refine we_join (j_7_3_f0_l, true) hE [11, 10, 6, 5, 4, 3, 0, 138] rfl (fun _ _ hφ => ask [0] rfl hφ) rfl
           ·
            replace hm := iteF hm hs129
            refine wl_pure rfl rfl rfl (freshS_eq rfl) rfl ?_
            refine wl_pure rfl rfl rfl (freshS_eq rfl) rfl ?_
            refine wl_pure rfl rfl rfl (freshS_eq rfl) rfl ?_
            refine wl_pure rfl rfl rfl (freshS_eq rfl) rfl ?_
            refine wl_pure rfl rfl rfl (freshS_eq rfl) rfl ?_
            obtain ⟨hg134, hm⟩ := gd_some hm
            refine wl_as (d := 134) (v' := .int .i64 ((u1_6 + 1 : Nat) : Int)) (S' := [_,_,_,_,_,_,_,_,_,_,_,_,_,_]) rfl rfl (nat_add (a := u1_6) (b := 1) hg134) ?_
            refine wl_build rfl rfl rfl (freshS_eq rfl) rfl tZ_32 tP_32 rfl (out := [_,_,_,_]) rfl ?_
            refine wl_fact (.sli 3 R_FactD none 0 ([] : List FactD)) (fun _ _ _ => sli_none) ?_
            refine wl_fact (.sli 3 R_V none 0 ([] : List V)) (fun _ _ _ => sli_none) ?_
            obtain ⟨⟨v136_0, v136_1⟩, hc136, hm⟩ := bindO_some hm
            try dsimp only at hm
            refine wl_call [3, 4] [0, 1, 2, 5, 6] rfl rfl rfl (freshS_eq rfl) rfl rfl fn_13 rfl (m_session_Table_Done_s N c19_0 j_7_3_f0_p j_7_3_f0_n j_7_3_f0_c j_7_3_f0_l j_4_3_f1 x82 (1 + v86) 0 ((u1_6 + 1 : Nat) : Int) none 0 ([] : List FactD) none 0 ([] : List V) _ _ hc136) (fun _ _ hφ => ask [1, 0] rfl hφ) rfl (H' := [_,_,_,_,_]) rfl ?_
            rintro _ _ _ ⟨rfl, rfl, rfl⟩
            refine wl_pure rfl rfl rfl (freshS_eq rfl) rfl ?_
            refine wl_as (d := 137) (v' := .bool (v136_0 != 0)) (S' := [_,_,_,_,_,_,_,_,_,_,_,_,_,_,_,_,_]) rfl rfl (natne (a := v136_0) (b := 0)) ?_
            refine wl_pure rfl rfl rfl (freshS_eq rfl) rfl ?_
            refine wl_nil ?_
            have hE := (Option.some.inj hm).symm
            refine we_pick [5, 6, 0, 1] rfl (H' := [_,_,_,_]) rfl ?_
            refine we_join (v136_1, v136_0 != 0) hE [11, 10, 6, 5, 4, 3, 0, 138] rfl (fun _ _ hφ => ask [2] rfl hφ) rfl
          ·
           rintro ⟨j_9_3_f0_l, j_9_138⟩ hE
           try dsimp only
           have hm := hLj_9
           rw [hE] at hm
           try dsimp only at hm
           refine wc_cond rfl (fun hb138 => ?_) (fun hb138 => ?_)
           ·
            replace hm := iteT hm hb138
            refine wc_keep [] (S' := []) rfl ?_
            refine wc_seq ?_
            refine wc_region ?_
            refine wl_pure rfl rfl rfl (freshS_eq rfl) rfl ?_
            refine wl_nil ?_
            refine we_then ?_
            refine wc_ret ?_
            refine we_then_ret ?_
            refine we_block_ret ?_
            refine we_block_ret ?_
            refine we_then_ret ?_
            refine we_then_ret ?_
            refine we_block_ret ?_
            refine we_then_ret ?_
            have hE := (Option.some.inj hm).symm
            replace hE := link_inr hLj_3 hE
            replace hE := link_inr hLu1 hE
            replace hE := link_inr hLj_1 hE
            replace hE := hE.symm
            subst hE
            refine ret_one (Hr := []) [] Try.results3 (res_tmp rfl) ⟨rfl, rfl, rfl⟩ (fun _ _ hφ => ask [] rfl hφ) rfl rfl (.inl rfl)
           ·
            replace hm := iteF hm hb138
            refine wc_keep [11, 10, 6, 5, 4, 3, 0] (S' := [_,_,_,_,_,_,_]) rfl ?_
            refine wc_skip ?_
            refine we_then ?_
            refine wc_region ?_
            refine wl_pure rfl rfl rfl (freshS_eq rfl) rfl ?_
            refine wl_pure rfl rfl rfl (freshS_eq rfl) rfl ?_
            refine wl_pure rfl rfl rfl (freshS_eq rfl) rfl ?_
            refine wl_buildArr rfl rfl rfl (freshS_eq rfl) rfl tZ_44 tArr_44 rfl (out := [_,_]) rfl ?_
            refine wl_pure rfl rfl rfl (freshS_eq rfl) rfl ?_
            refine wl_pure rfl rfl rfl (freshS_eq rfl) rfl ?_
            obtain ⟨hg144, hm⟩ := gd_some hm
            refine wl_as (d := 144) (v' := .int .i64 ((u1_6 + 1 : Nat) : Int)) (S' := [_,_,_,_,_,_,_,_,_,_,_,_]) rfl rfl (nat_add (a := u1_6) (b := 1) hg144) ?_
            obtain ⟨hk1021, hm⟩ := gd_some hm
            obtain ⟨hkk1021, hm⟩ := gd_some hm
            obtain ⟨hm1021, hm⟩ := gd_some hm
            obtain ⟨hu1021, hm⟩ := gd_some hm
            refine wl_mapUpdateK (K := pairKey44) (E := (mInt tU_3)) (i := (x82, 1 + v86)) (u := ((u1_6 + 1 : Nat) : Int)) 1 rfl rfl rfl rfl rfl rfl rfl tM_26 hm1021 ⟨hk1021, hkk1021⟩ (inI_wf hu1021) (H' := [.own 3 1 R_i64 (.slice (some ⟨g82, 0, none⟩) j_4_5_n j_4_5_c) j_4_5_l, mapK Try.prog 44 3 pairKey44 (mInt tU_3) g20 (u1_4_n + 1) (fun q => if q = (x82, 1 + v86) then some ((u1_6 + 1 : Nat) : Int) else u1_4_m q), .blk c19_0 [.slice j_7_3_f0_p j_7_3_f0_n j_7_3_f0_c, .int .i64 j_4_3_f1] 50, .own 62 6 R_SessD (.slice j_7_3_f0_p j_7_3_f0_n j_7_3_f0_c) j_9_3_f0_l]) rfl ?_
            refine wl_nil ?_
            refine we_block_normal ?_
            refine we_block_normal ?_
            have hE := (Option.some.inj hm).symm
            refine we_join (j_4_5_l, u1_4_n + 1, fun q => if q = (x82, 1 + v86) then some ((u1_6 + 1 : Nat) : Int) else u1_4_m q, j_9_3_f0_l, j_4_3_f1, some ⟨g82, 0, none⟩, j_4_5_c, j_4_5_n, j_7_3_f0_p, j_7_3_f0_c, j_7_3_f0_n) hE [6, 5, 4, 3, 0] rfl (fun _ _ hφ => ask [0] rfl hφ) rfl
         ·
          replace hm := iteF hm hb125
          refine wc_keep [14, 6, 5, 4, 3, 0] (S' := [_,_,_,_,_,_]) rfl ?_
          refine wc_seq ?_
          obtain ⟨bj_10, hm, hLj_10⟩ := bindO_some hm
          refine wc_cut (σ := Bool) (fun j_10_145 => bj_10 = j_10_145) (fun j_10_145 => [(6, .int .i64 ((u1_6 : Nat) : Int)), (5, .slice (some ⟨g82, 0, none⟩) j_4_5_n j_4_5_c), (4, .map (some g20)), (3, .pointer (some ⟨c19_0, 0, none⟩)), (0, .slice qp0 l2.length qc1), (145, .bool j_10_145)]) (fun j_10_145 => [.sli 7 R_Ropewalklaw27_DoD qp0 qc1 l2]) (fun j_10_145 => [.own 3 1 R_i64 (.slice (some ⟨g82, 0, none⟩) j_4_5_n j_4_5_c) j_4_5_l, mapK Try.prog 44 3 pairKey44 (mInt tU_3) g20 u1_4_n u1_4_m, .blk c19_0 [.slice j_7_3_f0_p j_7_3_f0_n j_7_3_f0_c, .int .i64 j_4_3_f1] 50, .own 62 6 R_SessD (.slice j_7_3_f0_p j_7_3_f0_n j_7_3_f0_c) j_7_3_f0_l]) ?_ ?_
          ·
           refine wc_region ?_
           refine wl_pure rfl rfl rfl (freshS_eq rfl) rfl ?_
           refine wl_pure rfl rfl rfl (freshS_eq rfl) rfl ?_
           refine wl_as (d := 147) (v' := .bool (v99_5 != 304)) (S' := [_,_,_,_,_,_,_]) rfl rfl (natne (a := v99_5) (b := 304)) ?_
           refine wl_pure rfl rfl rfl (freshS_eq rfl) rfl ?_
           refine wl_split (d := 148) (S' := [_,_,_,_,_,_,_,_]) rfl rfl (fun hs148 => ?_) (fun hs148 => ?_)
           ·
            replace hm := iteT hm hs148
            refine wl_pure rfl rfl rfl (freshS_eq rfl) rfl ?_
            refine wl_pure rfl rfl rfl (freshS_eq rfl) rfl ?_
            refine wl_as (d := 150) (v' := .bool (v99_5 != 303)) (S' := [_,_,_,_,_,_,_,_,_,_]) rfl rfl (natne (a := v99_5) (b := 303)) ?_
            refine wl_pure rfl rfl rfl (freshS_eq rfl) rfl ?_
            refine wl_pure rfl rfl rfl (freshS_eq rfl) rfl ?_
            refine wl_nil ?_
            have hE := (Option.some.inj hm).symm
            refine we_pick [5, 6, 3, 4] rfl (H' := [_,_,_,_]) rfl ?_
            refine we_join (v99_5 != 303) hE [6, 5, 4, 3, 0, 145] rfl (fun _ _ hφ => ask [0] rfl hφ) rfl
           ·
            replace hm := iteF hm hs148
            refine wl_off rfl rfl rfl (freshS_eq rfl) ?_
            refine wl_off rfl rfl rfl (freshS_eq rfl) ?_
            refine wl_pure rfl rfl rfl (freshS_eq rfl) rfl ?_
            refine wl_pure rfl rfl rfl (freshS_eq rfl) rfl ?_
            refine wl_nil ?_
            have hE := (Option.some.inj hm).symm
            refine we_pick [5, 6, 3, 4] rfl (H' := [_,_,_,_]) rfl ?_
            refine we_join false hE [6, 5, 4, 3, 0, 145] rfl (fun _ _ hφ => ask [0] rfl hφ) rfl
          ·
           rintro j_10_145 hE
           try dsimp only
           have hm := hLj_10
           rw [hE] at hm
           refine wc_cond rfl (fun hb145 => ?_) (fun hb145 => ?_)
           ·
            replace hm := iteT hm hb145
            refine wc_keep [] (S' := []) rfl ?_
            refine wc_seq ?_
            refine wc_region ?_
            refine wl_pure rfl rfl rfl (freshS_eq rfl) rfl ?_
            refine wl_nil ?_
            refine we_then ?_
            refine wc_ret ?_
            refine we_block_ret ?_
            refine we_block_ret ?_
            refine we_then_ret ?_
            refine we_then_ret ?_
            refine we_block_ret ?_
            refine we_then_ret ?_
            have hE := (Option.some.inj hm).symm
            replace hE := link_inr hLj_3 hE
            replace hE := link_inr hLu1 hE
            replace hE := link_inr hLj_1 hE
            replace hE := hE.symm
            subst hE
            refine ret_one (Hr := []) [] Try.results3 (res_tmp rfl) ⟨rfl, rfl, rfl⟩ (fun _ _ hφ => ask [] rfl hφ) rfl rfl (.inl rfl)
           ·
            replace hm := iteF hm hb145
            refine wc_keep [6, 5, 4, 3, 0] (S' := [_,_,_,_,_]) rfl ?_
            refine wc_skip ?_
            refine we_block_normal ?_
            refine we_block_normal ?_
            have hE := (Option.some.inj hm).symm
            refine we_join (j_4_5_l, u1_4_n, u1_4_m, j_7_3_f0_l, j_4_3_f1, some ⟨g82, 0, none⟩, j_4_5_c, j_4_5_n, j_7_3_f0_p, j_7_3_f0_c, j_7_3_f0_n) hE [6, 5, 4, 3, 0] rfl (fun _ _ hφ => ask [0] rfl hφ) rfl
     ·
      rintro ⟨j_3_5_l, j_3_4_n, j_3_4_m, j_3_3_f0_l, j_3_3_f1, j_3_5_p, j_3_5_c, j_3_5_n, j_3_3_f0_p, j_3_3_f0_c, j_3_3_f0_n⟩ hE
      try dsimp only
      have hm := link_inl hLj_3 hE
      try dsimp only at hm
      refine wc_region ?_
      refine wl_pure rfl rfl rfl (freshS_eq rfl) rfl ?_
      refine wl_pure rfl rfl rfl (freshS_eq rfl) rfl ?_
      obtain ⟨hg30, hm⟩ := gd_some hm
      refine wl_as (d := 30) (v' := .int .i64 ((u1_6 + 1 : Nat) : Int)) (S' := [_,_,_,_,_,_]) rfl rfl (nat_add (a := u1_6) (b := 1) hg30) ?_
      refine wl_pure (S' := [_,_,_,_,_,_]) rfl rfl rfl rfl rfl ?_
      refine wl_nil ?_
      have hE := (Option.some.inj hm).symm
      replace hE := link_inl hLu1 hE
      refine we_roundK (_, u1_6 + 1, j_3_5_l, j_3_4_n, j_3_4_m, j_3_3_f0_l, j_3_3_f1, j_3_5_p, j_3_5_c, j_3_5_n, j_3_3_f0_p, j_3_3_f0_c, j_3_3_f0_n) (Nat.lt_succ_self _) hE [6, 5, 4, 3, 0] rfl (fun _ _ hφ => ask [0] rfl hφ) rfl
    ·
     replace hm := iteF hm hb28
     refine wc_keep [] (S' := []) rfl ?_
     refine wc_exit ?_
     refine we_then_exit ?_
     refine we_then_exit ?_
     refine we_block_hit ?_
     have hE := (Option.some.inj hm).symm
     replace hE := link_inr hLu1 hE
     refine we_pick [] rfl (H' := []) rfl ?_
     refine we_join () hE [] rfl (fun _ _ hφ => ask [] rfl hφ) rfl
  ·
   rintro _ hE
   try dsimp only
   have hm := link_inl hLj_1 hE
   try dsimp only at hm
   refine wc_seq ?_
   refine wc_region ?_
   refine wl_pure rfl rfl rfl (freshS_eq rfl) rfl ?_
   refine wl_nil ?_
   refine we_then ?_
   refine wc_ret ?_
   have hE := (Option.some.inj hm).symm
   replace hE := hE.symm
   subst hE
   refine ret_one (Hr := []) [] Try.results3 (res_tmp rfl) ⟨rfl, rfl, rfl⟩ (fun _ _ hφ => ask [] rfl hφ) rfl rfl (.inl rfl)
end Go.Proofs.Ytighbinghbnjhaa
