/- Walks, printed by a program out of the loaded code. -/
import Derived.Test.YtdnolbmbmncefaaDoorXW3
namespace Go.Proofs.YtdnolbmbmncefaaDoor
open Go.RowKit
set_option maxRecDepth 100000 in
set_option maxHeartbeats 4000000 in
theorem w_ropewalkkit_SameFact_v2_s (N : Nat) (a0 : Int) (a1 : Int) (qp0 : Option Addr) (qn1 : Nat) (qc2 : Nat) (l2 : List V) (a3 : Int) (a4 : Int) (qp3 : Option Addr) (qc4 : Nat) (l5 : List V) (o0 : Bool) (hm : m_ropewalkkit_SameFact N a0 a1 l2 a3 a4 l5 = some o0) : Spec Tryd.prog 20 [.agg #[.int .i64 a0, .int .i64 a1, .slice qp0 qn1 qc2], .agg #[.int .i64 a3, .int .i64 a4, .slice qp3 l5.length qc4]] [.sli 3 R_V qp3 qc4 l5] [.own 55 3 R_V (.slice qp0 qn1 qc2) l2] (fun v Φr Hr => v = .bool o0 ∧ Φr = [] ∧ Hr = [.own 55 3 R_V (.slice qp0 qn1 qc2) l2]) := by
 unfold m_ropewalkkit_SameFact at hm
 refine spec_of Tryd.func20 rfl Tryd.ntmps20 rfl (S := [_,_]) rfl (fun C => ?_)
 refine wc_seq ?_
 refine wc_region ?_
 refine wl_box rfl rfl rfl (freshS_eq rfl) rfl rfl rfl (fun g2 => ?_)
 refine wl_box rfl rfl rfl (freshS_eq rfl) rfl rfl rfl (fun g3 => ?_)
 refine wl_pure rfl rfl rfl (freshS_eq rfl) rfl ?_
 refine wl_nil ?_
 refine we_then ?_
 refine wc_keep [3, 2] (S' := [_,_]) rfl ?_
 refine wc_seq ?_
 refine wc_region ?_
 refine wl_fieldAddr rfl rfl rfl (freshS_eq rfl) rfl rfl tF_42_0 ?_
 refine wl_loadH 1 0 rfl rfl rfl (freshS_eq rfl) rfl rfl rfl (cs := [_]) rfl tS_3 tA_3 rfl rfl ?_
 refine wl_fieldAddr rfl rfl rfl (freshS_eq rfl) rfl rfl tF_42_0 ?_
 refine wl_loadH 0 0 rfl rfl rfl (freshS_eq rfl) rfl rfl rfl (cs := [_]) rfl tS_3 tA_3 rfl rfl ?_
 refine wl_pure rfl rfl rfl (freshS_eq rfl) rfl ?_
 refine wl_pure rfl rfl rfl (freshS_eq rfl) rfl ?_
 refine wl_split (d := 10) (S' := [_,_,_,_,_,_,_]) rfl rfl (fun hs10 => ?_) (fun hs10 => ?_)
 ·
  replace hm := iteT hm hs10
  refine wl_fieldAddr rfl rfl rfl (freshS_eq rfl) rfl rfl tF_42_1 ?_
  refine wl_loadH 1 1 rfl rfl rfl (freshS_eq rfl) rfl rfl rfl (cs := [_]) rfl tS_3 tA_3 rfl rfl ?_
  refine wl_fieldAddr rfl rfl rfl (freshS_eq rfl) rfl rfl tF_42_1 ?_
  refine wl_loadH 0 1 rfl rfl rfl (freshS_eq rfl) rfl rfl rfl (cs := [_]) rfl tS_3 tA_3 rfl rfl ?_
  refine wl_pure rfl rfl rfl (freshS_eq rfl) rfl ?_
  refine wl_pure rfl rfl rfl (freshS_eq rfl) rfl ?_
  refine wl_pure rfl rfl rfl (freshS_eq rfl) rfl ?_
  refine wl_split (d := 17) (S' := [_,_,_,_,_,_,_,_,_,_,_,_,_,_]) rfl rfl (fun hs17 => ?_) (fun hs17 => ?_)
  ·
   replace hm := iteT hm hs17
   refine wl_fieldAddr rfl rfl rfl (freshS_eq rfl) rfl rfl tF_42_2 ?_
   refine wl_loadH 1 2 rfl rfl rfl (freshS_eq rfl) rfl rfl rfl (cs := [_]) rfl tS_26 tA_26 rfl rfl ?_
   refine wl_fieldAddr rfl rfl rfl (freshS_eq rfl) rfl rfl tF_42_2 ?_
   refine wl_loadH 0 2 rfl rfl rfl (freshS_eq rfl) rfl rfl rfl (cs := [_]) rfl tS_26 tA_26 rfl rfl ?_
   obtain ⟨v22, hc22, hm⟩ := bindO_some hm
   refine wl_call [2] [0, 1] rfl rfl rfl (freshS_eq rfl) rfl rfl fn_16 rfl (w_ropewalkkit_SameValues_v2_s N qp0 qn1 qc2 l2 qp3 qc4 l5 _ hc22) (fun _ _ hφ => ask [0] rfl hφ) rfl (H' := [_,_]) rfl ?_
   rintro _ _ _ ⟨rfl, rfl, rfl⟩
   refine wl_pure rfl rfl rfl (freshS_eq rfl) rfl ?_
   refine wl_pure rfl rfl rfl (freshS_eq rfl) rfl ?_
   refine wl_nil ?_
   refine we_then ?_
   refine wc_keep [4] (S' := [_]) rfl ?_
   refine wc_ret ?_
   have hE := (Option.some.inj hm).symm
   replace hE := hE.symm
   subst hE
   refine ret_one (Hr := [_]) [0] Tryd.results20 (res_tmp rfl) ⟨rfl, rfl, rfl⟩ (fun _ _ hφ => ask [] rfl hφ) rfl rfl (.inl rfl)
  ·
   replace hm := iteF hm hs17
   refine wl_off rfl rfl rfl (freshS_eq rfl) ?_
   refine wl_off rfl rfl rfl (freshS_eq rfl) ?_
   refine wl_off rfl rfl rfl (freshS_eq rfl) ?_
   refine wl_off rfl rfl rfl (freshS_eq rfl) ?_
   refine wl_off rfl rfl rfl (freshS_eq rfl) ?_
   refine wl_pure rfl rfl rfl (freshS_eq rfl) rfl ?_
   refine wl_pure rfl rfl rfl (freshS_eq rfl) rfl ?_
   refine wl_nil ?_
   refine we_then ?_
   refine wc_keep [4] (S' := [_]) rfl ?_
   refine wc_ret ?_
   have hE := (Option.some.inj hm).symm
   replace hE := hE.symm
   subst hE
   refine ret_one (Hr := [_]) [2] Tryd.results20 (res_tmp rfl) ⟨rfl, rfl, rfl⟩ (fun _ _ hφ => ask [] rfl hφ) rfl rfl (.inl rfl)
 ·
  replace hm := iteF hm hs10
  refine wl_off rfl rfl rfl (freshS_eq rfl) ?_
  refine wl_off rfl rfl rfl (freshS_eq rfl) ?_
  refine wl_off rfl rfl rfl (freshS_eq rfl) ?_
  refine wl_off rfl rfl rfl (freshS_eq rfl) ?_
  refine wl_off rfl rfl rfl (freshS_eq rfl) ?_
  refine wl_pure rfl rfl rfl (freshS_eq rfl) rfl ?_
  refine wl_pure rfl rfl rfl (freshS_eq rfl) rfl ?_
  refine wl_off rfl rfl rfl (freshS_eq rfl) ?_
  refine wl_off rfl rfl rfl (freshS_eq rfl) ?_
  refine wl_off rfl rfl rfl (freshS_eq rfl) ?_
  refine wl_off rfl rfl rfl (freshS_eq rfl) ?_
  refine wl_off rfl rfl rfl (freshS_eq rfl) ?_
  refine wl_pure rfl rfl rfl (freshS_eq rfl) rfl ?_
  refine wl_pure rfl rfl rfl (freshS_eq rfl) rfl ?_
  refine wl_nil ?_
  refine we_then ?_
  refine wc_keep [4] (S' := [_]) rfl ?_
  refine wc_ret ?_
  have hE := (Option.some.inj hm).symm
  replace hE := hE.symm
  subst hE
  refine ret_one (Hr := [_]) [2] Tryd.results20 (res_tmp rfl) ⟨rfl, rfl, rfl⟩ (fun _ _ hφ => ask [] rfl hφ) rfl rfl (.inl rfl)
set_option maxRecDepth 100000 in
set_option maxHeartbeats 4000000 in
theorem w_ropewalkkit_CopyFact_s (N : Nat) (a0 : Int) (a1 : Int) (qp0 : Option Addr) (qc1 : Nat) (l2 : List V)  (hm : m_ropewalkkit_CopyFact N a0 a1 l2 = some ()) : Spec Tryd.prog 30 [.agg #[.int .i64 a0, .int .i64 a1, .slice qp0 l2.length qc1]] [.sli 3 R_V qp0 qc1 l2] [] (fun v Φr Hr => ∃ (o0 : Option Addr) (o1 : Nat), v = .agg #[.int .i64 a0, .int .i64 a1, .slice o0 (l2).length o1] ∧ Φr = [] ∧ Hr = [.own 55 3 R_V (.slice o0 (l2).length o1) l2]) := by
 unfold m_ropewalkkit_CopyFact at hm
 refine spec_of Tryd.func30 rfl Tryd.ntmps30 rfl (S := [_]) rfl (fun C => ?_)
 refine wc_seq ?_
 refine wc_region ?_
 refine wl_box rfl rfl rfl (freshS_eq rfl) rfl rfl rfl (fun g1 => ?_)
 refine wl_alloc rfl rfl rfl (freshS_eq rfl) rfl tZ_42 rfl (fun g2 => ?_)
 refine wl_nil ?_
 refine we_then ?_
 refine wc_keep [2, 1] (S' := [_,_]) rfl ?_
 refine wc_seq ?_
 refine wc_region ?_
 refine wl_fieldAddr rfl rfl rfl (freshS_eq rfl) rfl rfl tF_42_2 ?_
 refine wl_loadH 1 2 rfl rfl rfl (freshS_eq rfl) rfl rfl rfl (cs := [_]) rfl tS_26 tA_26 rfl rfl ?_
 obtain ⟨_, hc5, hm⟩ := bindO_some hm
 try dsimp only at hm
 refine wl_call [] [0, 1] rfl rfl rfl (freshS_eq rfl) rfl rfl fn_17 rfl (w_ropewalkkit_CopyValues_s N qp0 qc1 l2 hc5) (fun _ _ hφ => ask [0] rfl hφ) rfl (H' := [_,_]) rfl ?_
 rintro _ _ _ ⟨p5_0, c5_1, rfl, rfl, rfl⟩
 refine wl_fieldAddr rfl rfl rfl (freshS_eq rfl) rfl rfl tF_42_2 ?_
 refine wl_store 2 2 rfl rfl rfl rfl rfl rfl rfl tS_26 rfl rfl rfl (all' := [_,_,_]) rfl (H' := [_,_,_]) rfl ?_
 refine wl_nil ?_
 refine we_then ?_
 refine wc_keep [2, 1] (S' := [_,_]) rfl ?_
 refine wc_seq ?_
 refine wc_region ?_
 refine wl_loadH 2 0 rfl rfl rfl (freshS_eq rfl) rfl rfl rfl (cs := [_,_,_]) rfl tS_42 tA_42 rfl rfl ?_
 refine wl_store 1 0 rfl rfl rfl rfl rfl rfl rfl tS_42 rfl rfl rfl (all' := [_,_,_]) rfl (H' := [_,_,_]) rfl ?_
 refine wl_nil ?_
 refine we_then ?_
 refine wc_keep [2] (S' := [_]) rfl ?_
 refine wc_ret ?_
 have hE := (Option.some.inj hm).symm
 refine ret_one (Hr := [_]) [0] Tryd.results30 (res_cell 1 rfl rfl tS_42 tA_42 rfl rfl) ⟨p5_0, c5_1, rfl, rfl, rfl⟩ (fun _ _ hφ => ask [] rfl hφ) rfl rfl (.inl rfl)
set_option maxRecDepth 100000 in
set_option maxHeartbeats 4000000 in
theorem w_ropewalkkit_CopyFacts_s (N : Nat) (qp0 : Option Addr) (qc1 : Nat) (l0 : List FactD) (o2 : List FactD) (hm : m_ropewalkkit_CopyFacts N l0 = some o2) : Spec Tryd.prog 14 [.slice qp0 l0.length qc1] [.sli 3 R_FactD qp0 qc1 l0] [] (fun v Φr Hr => ∃ (o0 : Option Addr) (o1 : Nat) (o3 : Nat), v = .slice o0 o3 o1 ∧ Φr = [] ∧ Hr = [.own 42 3 R_FactD (.slice o0 o3 o1) o2]) := by
 unfold m_ropewalkkit_CopyFacts at hm
 refine spec_of Tryd.func14 rfl Tryd.ntmps14 rfl (S := [_]) rfl (fun C => ?_)
 refine wc_seq ?_
 refine wc_region ?_
 refine wl_pure rfl rfl rfl (freshS_eq rfl) rfl ?_
 refine wl_nil ?_
 refine we_then ?_
 refine wc_keep [0] (S' := [_]) rfl ?_
 refine wc_seq ?_
 refine wc_region ?_
 refine wl_pure rfl rfl rfl (freshS_eq rfl) rfl ?_
 refine wl_nil ?_
 refine we_then ?_
 refine wc_seq ?_
 obtain ⟨bj_1, hm, hLj_1⟩ := bindO_some hm
 refine wc_cut (σ := (List FactD) × (Option Addr) × Nat × Nat) (fun (j_1_3_l, j_1_3_p, j_1_3_c, j_1_3_n) => bj_1 = j_1_3_l) (fun (j_1_3_l, j_1_3_p, j_1_3_c, j_1_3_n) => [(3, .slice j_1_3_p j_1_3_n j_1_3_c)]) (fun (j_1_3_l, j_1_3_p, j_1_3_c, j_1_3_n) => []) (fun (j_1_3_l, j_1_3_p, j_1_3_c, j_1_3_n) => [.own 42 3 R_FactD (.slice j_1_3_p j_1_3_n j_1_3_c) j_1_3_l]) ?_ ?_
 ·
  refine wc_seq ?_
  refine wc_region ?_
  refine wl_pure rfl rfl rfl (freshS_eq rfl) rfl ?_
  refine wl_nil ?_
  refine we_then ?_
  refine wc_block ?_
  refine wc_rowNil 42 3 R_FactD ?_
  refine wc_loop (σ := Nat × Nat × (List FactD) × (Option Addr) × Nat × Nat) (fun (nu1, u1_4, u1_3_l, u1_3_p, u1_3_c, u1_3_n) => iter (m_ropewalkkit_CopyFacts_L1 N l0) nu1 (u1_4, u1_3_l) = some bj_1) (fun (nu1, u1_4, u1_3_l, u1_3_p, u1_3_c, u1_3_n) => nu1) (fun (nu1, u1_4, u1_3_l, u1_3_p, u1_3_c, u1_3_n) => [(4, .int .i64 ((u1_4 : Nat) : Int)), (3, .slice u1_3_p u1_3_n u1_3_c), (0, .slice qp0 l0.length qc1)]) (fun (nu1, u1_4, u1_3_l, u1_3_p, u1_3_c, u1_3_n) => [.sli 3 R_FactD qp0 qc1 l0]) (fun (nu1, u1_4, u1_3_l, u1_3_p, u1_3_c, u1_3_n) => [.own 42 3 R_FactD (.slice u1_3_p u1_3_n u1_3_c) u1_3_l]) (N, 0, [], none, 0, 0) hm [4, 3, 0] rfl (fun _ _ hφ => ask [0] rfl hφ) rfl (fun s_ hm => ?_)
  obtain ⟨nu1, u1_4, u1_3_l, u1_3_p, u1_3_c, u1_3_n⟩ := s_
  try dsimp only at hm ⊢
  obtain ⟨mu1, bu1, hnu1, hq, hLu1⟩ := iter_some hm
  clear hm
  subst hnu1
  replace hm := hq
  clear hq
  unfold m_ropewalkkit_CopyFacts_L1 at hm
  try dsimp only at hm
  refine wc_seq ?_
  refine wc_seq ?_
  refine wc_region ?_
  refine wl_pure rfl rfl rfl (freshS_eq rfl) rfl ?_
  refine wl_pure rfl rfl rfl (freshS_eq rfl) rfl ?_
  refine wl_len rfl rfl rfl (freshS_eq rfl) rfl rfl tE_35 ?_
  refine wl_pure rfl rfl rfl (freshS_eq rfl) rfl ?_
  refine wl_as (d := 9) (v' := .bool (decide (u1_4 < l0.length))) (S' := [_,_,_,_,_,_]) rfl rfl (natlt (a := u1_4) (b := l0.length)) ?_
  refine wl_nil ?_
  refine we_then ?_
  refine wc_keep [9, 4, 3, 0] (S' := [_,_,_,_]) rfl ?_
  refine wc_cond rfl (fun hb9 => ?_) (fun hb9 => ?_)
  ·
   replace hm := iteT hm hb9
   refine wc_keep [4, 3, 0] (S' := [_,_,_]) rfl ?_
   refine wc_skip ?_
   refine we_then ?_
   refine wc_seq ?_
   refine wc_block ?_
   refine wc_seq ?_
   refine wc_region ?_
   refine wl_pure rfl rfl rfl (freshS_eq rfl) rfl ?_
   refine wl_pure rfl rfl rfl (freshS_eq rfl) rfl ?_
   obtain ⟨x14, hx14, hm⟩ := bindO_some hm
   refine wl_indexA 0 u1_4 rfl rfl rfl (freshS_eq rfl) rfl rfl rfl rfl rfl hx14 tE_35 tS_42 (fun b14 q14 cs14 hlx14 => ?_)
   refine wl_open R_FactD_opens 1 rfl (fun r14 er14 _ => ?_)
   subst er14
   refine wl_load 1 0 rfl rfl rfl (freshS_eq rfl) rfl rfl rfl (cs := [_,_,_]) rfl tS_42 tA_42 rfl rfl ?_
   obtain ⟨_, hc16, hm⟩ := bindO_some hm
   try dsimp only at hm
   refine wl_call [] [0] rfl rfl rfl (freshS_eq rfl) rfl rfl fn_30 rfl (w_ropewalkkit_CopyFact_s N x14.id x14.ty r14.1 r14.2 x14.args hc16) (fun _ _ hφ => ask [0] rfl hφ) rfl (H' := [_]) rfl ?_
   rintro _ _ _ ⟨p16_0, c16_1, rfl, rfl, rfl⟩
   refine wl_alloc rfl rfl rfl (freshS_eq rfl) rfl tZ_42 rfl (fun g5 => ?_)
   refine wl_store 0 0 rfl rfl rfl rfl rfl rfl rfl tS_42 rfl rfl rfl (all' := [_,_,_]) rfl (H' := [_,_,_]) rfl ?_
   refine wl_nil ?_
   refine we_then ?_
   refine wc_keep [5, 4, 3, 0] (S' := [_,_,_,_]) rfl ?_
   refine wc_region ?_
   refine wl_pure rfl rfl rfl (freshS_eq rfl) rfl ?_
   refine wl_loadH 0 0 rfl rfl rfl (freshS_eq rfl) rfl rfl rfl (cs := [_,_,_]) rfl tS_42 tA_42 rfl rfl ?_
   refine wl_buildSlice rfl rfl rfl (freshS_eq rfl) rfl tE_35 tS_42 tZ_42 rfl (zs := [.int .i64 0, .int .i64 0, .slice none 0 0]) (by kernel_rfl) rfl (out := [_,_,_]) rfl (fun g19 => ?_)
   refine wl_ownLen 2 rfl (fun hz12 _ => ?_)
   refine wl_at 1 (v' := .agg #[.int .i64 (x14.id), .int .i64 (x14.ty), .slice p16_0 x14.args.length c16_1]) rfl (by rw [hz12]) ?_
   refine wl_hAs 0 (φ' := .blk g19 [.int .i64 (x14.id), .int .i64 (x14.ty), .slice p16_0 x14.args.length c16_1] 42) rfl (by rw [hz12]) (H' := [_,_,_,_]) rfl ?_
   refine wl_hAs 1 (φ' := .blk g5 [.int .i64 (x14.id), .int .i64 (x14.ty), .slice p16_0 x14.args.length c16_1] 42) rfl (by rw [hz12]) (H' := [_,_,_,_]) rfl ?_
   refine wl_hAs 2 (φ' := .own 55 3 R_V (.slice p16_0 x14.args.length c16_1) x14.args) rfl (by rw [hz12]) (H' := [_,_,_,_]) rfl ?_
   refine wl_freeze 2 rfl (H' := [_,_,_]) rfl ?_
   refine wl_fact (.sli 3 R_V p16_0 c16_1 x14.args) (fun F w hφ => own_sli (hφ _ (mem_at (k := 0) rfl))) ?_
   obtain ⟨hg20, hm⟩ := gd_some hm
   refine wl_appendH [x14] 2 0 rfl rfl rfl (freshS_eq rfl) rfl rfl rfl rfl rfl (fun F w hφ => ⟨[.int .i64 (x14.id), .int .i64 (x14.ty), .slice p16_0 x14.args.length c16_1], [], rfl, rfl, ⟨(p16_0, c16_1), rfl, (ask_cons (hφ _ (mem_at (k := 0) rfl)) ask_nil)⟩, rfl⟩) tE_35 tR_42 rfl rfl (Nat.le_trans hg20 (by decide)) (Nat.le_trans (Nat.mul_le_mul_right _ hg20) (by decide)) (H2 := fun p20 c20 => [.blk g19 [.int .i64 (x14.id), .int .i64 (x14.ty), .slice p16_0 x14.args.length c16_1] 42, .blk g5 [.int .i64 (x14.id), .int .i64 (x14.ty), .slice p16_0 x14.args.length c16_1] 42, .own 42 3 R_FactD (.slice p20 ((u1_3_l ++ [x14]).length) c20) (u1_3_l ++ [x14])]) (fun _ _ => rfl) (fun p20 c20 => ?_)
   refine wl_drop 0 rfl (H' := [_,_]) rfl ?_
   refine wl_pure (S' := [_,_,_,_,_,_,_]) rfl rfl rfl rfl rfl ?_
   refine wl_nil ?_
   refine we_block_normal ?_
   refine we_then ?_
   refine wc_keep [3, 4, 0] (S' := [_,_,_]) rfl ?_
   refine wc_region ?_
   refine wl_pure rfl rfl rfl (freshS_eq rfl) rfl ?_
   refine wl_pure rfl rfl rfl (freshS_eq rfl) rfl ?_
   obtain ⟨hg11, hm⟩ := gd_some hm
   refine wl_as (d := 11) (v' := .int .i64 ((u1_4 + 1 : Nat) : Int)) (S' := [_,_,_,_]) rfl rfl (nat_add (a := u1_4) (b := 1) hg11) ?_
   refine wl_pure (S' := [_,_,_,_]) rfl rfl rfl rfl rfl ?_
   refine wl_nil ?_
   have hE := (Option.some.inj hm).symm
   replace hE := link_inl hLu1 hE
   refine we_pick [1] rfl (H' := [_]) rfl ?_
   refine we_roundK (_, u1_4 + 1, u1_3_l ++ [x14], p20, c20, (u1_3_l ++ [x14]).length) (Nat.lt_succ_self _) hE [4, 3, 0] rfl (fun _ _ hφ => ask [5] rfl hφ) rfl
  ·
   replace hm := iteF hm hb9
   refine wc_keep [3] (S' := [_]) rfl ?_
   refine wc_exit ?_
   refine we_then_exit ?_
   refine we_then_exit ?_
   refine we_block_hit ?_
   have hE := (Option.some.inj hm).symm
   replace hE := link_inr hLu1 hE
   refine we_join (u1_3_l, u1_3_p, u1_3_c, u1_3_n) hE [3] rfl (fun _ _ hφ => ask [] rfl hφ) rfl
 ·
  rintro ⟨j_1_3_l, j_1_3_p, j_1_3_c, j_1_3_n⟩ hE
  try dsimp only
  have hm := hLj_1
  rw [hE] at hm
  refine wc_seq ?_
  refine wc_region ?_
  refine wl_pure rfl rfl rfl (freshS_eq rfl) rfl ?_
  refine wl_pure rfl rfl rfl (freshS_eq rfl) rfl ?_
  refine wl_nil ?_
  refine we_then ?_
  refine wc_keep [2] (S' := [_]) rfl ?_
  refine wc_ret ?_
  have hE := (Option.some.inj hm).symm
  replace hE := hE.symm
  subst hE
  refine ret_one (Hr := [_]) [0] Tryd.results14 (res_tmp rfl) ⟨j_1_3_p, j_1_3_c, j_1_3_n, rfl, rfl, rfl⟩ (fun _ _ hφ => ask [] rfl hφ) rfl rfl (.inl rfl)
set_option maxRecDepth 100000 in
set_option maxHeartbeats 4000000 in
theorem w_ropewalklaw11_MemoryKeeps_s (N : Nat) (qp0 : Option Addr) (qc1 : Nat) (l0 : List Ropewalklaw11_DoD) (o0 : Bool) (hm : m_ropewalklaw11_MemoryKeeps N l0 = some o0) : Spec Tryd.prog 4 [.slice qp0 l0.length qc1] [.sli 4 R_Ropewalklaw11_DoD qp0 qc1 l0] [] (fun v Φr Hr => v = .bool o0 ∧ Φr = [] ∧ Hr = []) := by
 unfold m_ropewalklaw11_MemoryKeeps at hm
 refine spec_of Tryd.func4 rfl Tryd.ntmps4 rfl (S := [_]) rfl (fun C => ?_)
 refine wc_seq ?_
 refine wc_region ?_
 refine wl_pure rfl rfl rfl (freshS_eq rfl) rfl ?_
 refine wl_nil ?_
 refine we_then ?_
 refine wc_keep [0] (S' := [_]) rfl ?_
 refine wc_seq ?_
 refine wc_seq ?_
 refine wc_region ?_
 obtain ⟨v19, hc19, hm⟩ := bindO_some hm
 refine wl_call [] [] rfl rfl rfl (freshS_eq rfl) rfl rfl fn_5 rfl (w_ropewalklaw11_awake_s N _ hc19) (fun _ _ hφ => ask [] rfl hφ) rfl (H' := []) rfl ?_
 rintro _ _ _ ⟨rfl, rfl, rfl⟩
 refine wl_pure rfl rfl rfl (freshS_eq rfl) rfl ?_
 refine wl_nil ?_
 refine we_then ?_
 refine wc_keep [20, 0] (S' := [_,_]) rfl ?_
 refine wc_cond rfl (fun hb20 => ?_) (fun hb20 => ?_)
 ·
  replace hm := iteT hm hb20
  refine wc_keep [] (S' := []) rfl ?_
  refine wc_seq ?_
  refine wc_region ?_
  refine wl_pure rfl rfl rfl (freshS_eq rfl) rfl ?_
  refine wl_nil ?_
  refine we_then ?_
  refine wc_ret ?_
  refine we_then_ret ?_
  have hE := (Option.some.inj hm).symm
  replace hE := hE.symm
  subst hE
  refine ret_one (Hr := []) [] Tryd.results4 (res_tmp rfl) ⟨rfl, rfl, rfl⟩ (fun _ _ hφ => ask [] rfl hφ) rfl rfl (.inl rfl)
 ·
  replace hm := iteF hm hb20
  refine wc_keep [0] (S' := [_]) rfl ?_
  refine wc_skip ?_
  refine we_then ?_
  refine wc_seq ?_
  refine wc_region ?_
  obtain ⟨_, hc21, hm⟩ := bindO_some hm
  try dsimp only at hm
  refine wl_call [] [] rfl rfl rfl (freshS_eq rfl) rfl rfl fn_6 rfl (w_memory_New_s N  hc21) (fun _ _ hφ => ask [] rfl hφ) rfl (H' := []) rfl ?_
  rintro _ _ _ ⟨c21_0, rfl, rfl, rfl⟩
  refine wl_pure rfl rfl rfl (freshS_eq rfl) rfl ?_
  refine wl_nil ?_
  refine we_then ?_
  refine wc_keep [3, 0] (S' := [_,_]) rfl ?_
  refine wc_seq ?_
  refine wc_region ?_
  refine wl_pure rfl rfl rfl (freshS_eq rfl) rfl ?_
  refine wl_nil ?_
  refine we_then ?_
  refine wc_seq ?_
  refine wc_region ?_
  refine wl_pure rfl rfl rfl (freshS_eq rfl) rfl ?_
  refine wl_nil ?_
  refine we_then ?_
  refine wc_seq ?_
  obtain ⟨bj_1, hm, hLj_1⟩ := bindS_some hm
  refine wc_cut (σ := (List FactD) × Int × (List FactD) × (Option Addr) × Nat × Nat × (Option Addr) × Nat × Nat) (fun (j_1_3_f0_l, j_1_3_f1, j_1_4_l, j_1_3_f0_p, j_1_3_f0_c, j_1_3_f0_n, j_1_4_p, j_1_4_c, j_1_4_n) => bj_1 = .inl (j_1_3_f0_l, j_1_3_f1, j_1_4_l)) (fun (j_1_3_f0_l, j_1_3_f1, j_1_4_l, j_1_3_f0_p, j_1_3_f0_c, j_1_3_f0_n, j_1_4_p, j_1_4_c, j_1_4_n) => [(3, .pointer (some ⟨c21_0, 0, none⟩)), (4, .slice j_1_4_p j_1_4_n j_1_4_c)]) (fun (j_1_3_f0_l, j_1_3_f1, j_1_4_l, j_1_3_f0_p, j_1_3_f0_c, j_1_3_f0_n, j_1_4_p, j_1_4_c, j_1_4_n) => []) (fun (j_1_3_f0_l, j_1_3_f1, j_1_4_l, j_1_3_f0_p, j_1_3_f0_c, j_1_3_f0_n, j_1_4_p, j_1_4_c, j_1_4_n) => [.blk c21_0 [.slice j_1_3_f0_p j_1_3_f0_n j_1_3_f0_c, .int .i64 j_1_3_f1] 60, .own 42 3 R_FactD (.slice j_1_3_f0_p j_1_3_f0_n j_1_3_f0_c) j_1_3_f0_l, .own 42 3 R_FactD (.slice j_1_4_p j_1_4_n j_1_4_c) j_1_4_l]) ?_ ?_
  ·
   refine wc_seq ?_
   refine wc_region ?_
   refine wl_pure rfl rfl rfl (freshS_eq rfl) rfl ?_
   refine wl_nil ?_
   refine we_then ?_
   refine wc_block ?_
   refine wc_rowNil 42 3 R_FactD ?_
   refine wc_rowNil 42 3 R_FactD ?_
   refine wc_pick [1, 2, 0] rfl (H' := [_,_,_]) rfl ?_
   refine wc_loop (σ := Nat × Nat × Int × (List FactD) × (List FactD) × Int × (Option Addr) × Nat × Nat × (Option Addr) × Nat × Nat) (fun (nu1, u1_6, u1_5, u1_4_l, u1_3_f0_l, u1_3_f1, u1_4_p, u1_4_c, u1_4_n, u1_3_f0_p, u1_3_f0_c, u1_3_f0_n) => iter (m_ropewalklaw11_MemoryKeeps_L1 N l0) nu1 (u1_6, u1_5, u1_4_l, u1_3_f0_l, u1_3_f1) = some bj_1) (fun (nu1, u1_6, u1_5, u1_4_l, u1_3_f0_l, u1_3_f1, u1_4_p, u1_4_c, u1_4_n, u1_3_f0_p, u1_3_f0_c, u1_3_f0_n) => nu1) (fun (nu1, u1_6, u1_5, u1_4_l, u1_3_f0_l, u1_3_f1, u1_4_p, u1_4_c, u1_4_n, u1_3_f0_p, u1_3_f0_c, u1_3_f0_n) => [(6, .int .i64 ((u1_6 : Nat) : Int)), (5, .int .i64 u1_5), (4, .slice u1_4_p u1_4_n u1_4_c), (3, .pointer (some ⟨c21_0, 0, none⟩)), (0, .slice qp0 l0.length qc1)]) (fun (nu1, u1_6, u1_5, u1_4_l, u1_3_f0_l, u1_3_f1, u1_4_p, u1_4_c, u1_4_n, u1_3_f0_p, u1_3_f0_c, u1_3_f0_n) => [.sli 4 R_Ropewalklaw11_DoD qp0 qc1 l0]) (fun (nu1, u1_6, u1_5, u1_4_l, u1_3_f0_l, u1_3_f1, u1_4_p, u1_4_c, u1_4_n, u1_3_f0_p, u1_3_f0_c, u1_3_f0_n) => [.own 42 3 R_FactD (.slice u1_4_p u1_4_n u1_4_c) u1_4_l, .blk c21_0 [.slice u1_3_f0_p u1_3_f0_n u1_3_f0_c, .int .i64 u1_3_f1] 60, .own 42 3 R_FactD (.slice u1_3_f0_p u1_3_f0_n u1_3_f0_c) u1_3_f0_l]) (N, 0, 0, [], [], 1, none, 0, 0, none, 0, 0) hm [6, 5, 4, 3, 0] rfl (fun _ _ hφ => ask [0] rfl hφ) rfl (fun s_ hm => ?_)
   obtain ⟨nu1, u1_6, u1_5, u1_4_l, u1_3_f0_l, u1_3_f1, u1_4_p, u1_4_c, u1_4_n, u1_3_f0_p, u1_3_f0_c, u1_3_f0_n⟩ := s_
   try dsimp only at hm ⊢
   obtain ⟨mu1, bu1, hnu1, hq, hLu1⟩ := iter_some hm
   clear hm
   subst hnu1
   replace hm := hq
   clear hq
   unfold m_ropewalklaw11_MemoryKeeps_L1 at hm
   try dsimp only at hm
   refine wc_seq ?_
   refine wc_seq ?_
   obtain ⟨bj_2, hm, hLj_2⟩ := bindO_some hm
   refine wc_cut (σ := Bool) (fun j_2_29 => bj_2 = j_2_29) (fun j_2_29 => [(6, .int .i64 ((u1_6 : Nat) : Int)), (5, .int .i64 u1_5), (4, .slice u1_4_p u1_4_n u1_4_c), (3, .pointer (some ⟨c21_0, 0, none⟩)), (0, .slice qp0 l0.length qc1), (29, .bool j_2_29)]) (fun j_2_29 => [.sli 4 R_Ropewalklaw11_DoD qp0 qc1 l0]) (fun j_2_29 => [.own 42 3 R_FactD (.slice u1_4_p u1_4_n u1_4_c) u1_4_l, .blk c21_0 [.slice u1_3_f0_p u1_3_f0_n u1_3_f0_c, .int .i64 u1_3_f1] 60, .own 42 3 R_FactD (.slice u1_3_f0_p u1_3_f0_n u1_3_f0_c) u1_3_f0_l]) ?_ ?_
   ·
    refine wc_region ?_
    refine wl_pure rfl rfl rfl (freshS_eq rfl) rfl ?_
    refine wl_pure rfl rfl rfl (freshS_eq rfl) rfl ?_
    refine wl_len rfl rfl rfl (freshS_eq rfl) rfl rfl tE_22 ?_
    refine wl_pure rfl rfl rfl (freshS_eq rfl) rfl ?_
    refine wl_as (d := 25) (v' := .bool (decide (u1_6 < l0.length))) (S' := [_,_,_,_,_,_,_,_]) rfl rfl (natlt (a := u1_6) (b := l0.length)) ?_
    refine wl_pure rfl rfl rfl (freshS_eq rfl) rfl ?_
    refine wl_split (d := 26) (S' := [_,_,_,_,_,_,_,_,_]) rfl rfl (fun hs26 => ?_) (fun hs26 => ?_)
    ·
     replace hm := iteT hm hs26
     refine wl_pure rfl rfl rfl (freshS_eq rfl) rfl ?_
     refine wl_pure rfl rfl rfl (freshS_eq rfl) rfl ?_
     refine wl_as (d := 28) (v' := .bool (decide (u1_6 < 120))) (S' := [_,_,_,_,_,_,_,_,_,_,_]) rfl rfl (natlt (a := u1_6) (b := 120)) ?_
     refine wl_pure rfl rfl rfl (freshS_eq rfl) rfl ?_
     refine wl_nil ?_
     have hE := (Option.some.inj hm).symm
     refine we_join (decide (u1_6 < 120)) hE [6, 5, 4, 3, 0, 29] rfl (fun _ _ hφ => ask [0] rfl hφ) rfl
    ·
     replace hm := iteF hm hs26
     refine wl_off rfl rfl rfl (freshS_eq rfl) ?_
     refine wl_off rfl rfl rfl (freshS_eq rfl) ?_
     refine wl_pure rfl rfl rfl (freshS_eq rfl) rfl ?_
     refine wl_nil ?_
     have hE := (Option.some.inj hm).symm
     refine we_join false hE [6, 5, 4, 3, 0, 29] rfl (fun _ _ hφ => ask [0] rfl hφ) rfl
   ·
    rintro j_2_29 hE
    try dsimp only
    have hm := hLj_2
    rw [hE] at hm
    refine wc_cond rfl (fun hb29 => ?_) (fun hb29 => ?_)
    ·
     replace hm := iteT hm hb29
     refine wc_keep [6, 5, 4, 3, 0] (S' := [_,_,_,_,_]) rfl ?_
     refine wc_skip ?_
     refine we_then ?_
     refine wc_seq ?_
     obtain ⟨bj_3, hm, hLj_3⟩ := bindS_some hm
     unfold m_ropewalklaw11_MemoryKeeps_C3 at hm
     refine wc_cut (σ := Int × (List FactD) × (List FactD) × Int × (Option Addr) × Nat × Nat × (Option Addr) × Nat × Nat) (fun (j_3_5, j_3_4_l, j_3_3_f0_l, j_3_3_f1, j_3_4_p, j_3_4_c, j_3_4_n, j_3_3_f0_p, j_3_3_f0_c, j_3_3_f0_n) => bj_3 = .inl (j_3_5, j_3_4_l, j_3_3_f0_l, j_3_3_f1)) (fun (j_3_5, j_3_4_l, j_3_3_f0_l, j_3_3_f1, j_3_4_p, j_3_4_c, j_3_4_n, j_3_3_f0_p, j_3_3_f0_c, j_3_3_f0_n) => [(6, .int .i64 ((u1_6 : Nat) : Int)), (5, .int .i64 j_3_5), (4, .slice j_3_4_p j_3_4_n j_3_4_c), (3, .pointer (some ⟨c21_0, 0, none⟩)), (0, .slice qp0 l0.length qc1)]) (fun (j_3_5, j_3_4_l, j_3_3_f0_l, j_3_3_f1, j_3_4_p, j_3_4_c, j_3_4_n, j_3_3_f0_p, j_3_3_f0_c, j_3_3_f0_n) => [.sli 4 R_Ropewalklaw11_DoD qp0 qc1 l0]) (fun (j_3_5, j_3_4_l, j_3_3_f0_l, j_3_3_f1, j_3_4_p, j_3_4_c, j_3_4_n, j_3_3_f0_p, j_3_3_f0_c, j_3_3_f0_n) => [.own 42 3 R_FactD (.slice j_3_4_p j_3_4_n j_3_4_c) j_3_4_l, .blk c21_0 [.slice j_3_3_f0_p j_3_3_f0_n j_3_3_f0_c, .int .i64 j_3_3_f1] 60, .own 42 3 R_FactD (.slice j_3_3_f0_p j_3_3_f0_n j_3_3_f0_c) j_3_3_f0_l]) ?_ ?_
     ·
      refine wc_block ?_
      refine wc_seq ?_
      refine wc_region ?_
      refine wl_pure rfl rfl rfl (freshS_eq rfl) rfl ?_
      refine wl_pure rfl rfl rfl (freshS_eq rfl) rfl ?_
      obtain ⟨x34, hx34, hm⟩ := bindO_some hm
      refine wl_indexA 0 u1_6 rfl rfl rfl (freshS_eq rfl) rfl rfl rfl rfl rfl hx34 tE_22 tS_28 (fun b34 q34 cs34 hlx34 => ?_)
      refine wl_open R_Ropewalklaw11_DoD_opens 1 rfl (fun r34 er34 _ => ?_)
      subst er34
      refine wl_load 1 0 rfl rfl rfl (freshS_eq rfl) rfl rfl rfl (cs := [_,_,_,_]) rfl tS_28 tA_28 rfl rfl ?_
      refine wl_alloc rfl rfl rfl (freshS_eq rfl) rfl tZ_28 rfl (fun g7 => ?_)
      refine wl_store 0 0 rfl rfl rfl rfl rfl rfl rfl tS_28 rfl rfl rfl (all' := [_,_,_,_]) rfl (H' := [_,_,_,_]) rfl ?_
      refine wl_nil ?_
      refine we_then ?_
      refine wc_keep [7, 6, 5, 4, 3, 0] (S' := [_,_,_,_,_,_]) rfl ?_
      refine wc_seq ?_
      refine wc_seq ?_
      refine wc_region ?_
      refine wl_fieldAddr rfl rfl rfl (freshS_eq rfl) rfl rfl tF_28_3 ?_
      refine wl_loadH 0 3 rfl rfl rfl (freshS_eq rfl) rfl rfl rfl (cs := [_]) rfl tS_26 tA_26 rfl rfl ?_
      refine wl_len rfl rfl rfl (freshS_eq rfl) rfl rfl tE_26 ?_
      refine wl_pure rfl rfl rfl (freshS_eq rfl) rfl ?_
      refine wl_as (d := 39) (v' := .bool (decide (20 < x34.args.length))) (S' := [_,_,_,_,_,_,_,_,_]) rfl rfl (natgt (a := x34.args.length) (b := 20)) ?_
      refine wl_nil ?_
      refine we_then ?_
      refine wc_keep [39, 7, 6, 5, 4, 3, 0] (S' := [_,_,_,_,_,_,_]) rfl ?_
      refine wc_cond rfl (fun hb39 => ?_) (fun hb39 => ?_)
      ·
       replace hm := iteT hm hb39
       refine wc_keep [] (S' := []) rfl ?_
       refine wc_seq ?_
       refine wc_region ?_
       refine wl_pure rfl rfl rfl (freshS_eq rfl) rfl ?_
       refine wl_nil ?_
       refine we_then ?_
       refine wc_ret ?_
       refine we_then_ret ?_
       refine we_block_ret ?_
       refine we_then_ret ?_
       refine we_then_ret ?_
       refine we_block_ret ?_
       refine we_then_ret ?_
       have hE := (Option.some.inj hm).symm
       replace hE := link_inr hLj_3 hE
       replace hE := link_inr hLu1 hE
       replace hE := link_inr hLj_1 hE
       replace hE := hE.symm
       subst hE
       refine ret_one (Hr := []) [] Tryd.results4 (res_tmp rfl) ⟨rfl, rfl, rfl⟩ (fun _ _ hφ => ask [] rfl hφ) rfl rfl (.inl rfl)
      ·
       replace hm := iteF hm hb39
       refine wc_keep [7, 6, 5, 4, 3, 0] (S' := [_,_,_,_,_,_]) rfl ?_
       refine wc_skip ?_
       refine we_then ?_
       refine wc_seq ?_
       refine wc_seq ?_
       obtain ⟨bj_4, hm, hLj_4⟩ := bindO_some hm
       refine wc_cut (σ := Bool) (fun j_4_48 => bj_4 = j_4_48) (fun j_4_48 => [(7, .pointer (some ⟨g7, 0, none⟩)), (6, .int .i64 ((u1_6 : Nat) : Int)), (5, .int .i64 u1_5), (4, .slice u1_4_p u1_4_n u1_4_c), (3, .pointer (some ⟨c21_0, 0, none⟩)), (0, .slice qp0 l0.length qc1), (48, .bool j_4_48)]) (fun j_4_48 => [.sli 3 R_V r34.1 r34.2 x34.args, .sli 4 R_Ropewalklaw11_DoD qp0 qc1 l0]) (fun j_4_48 => [.blk g7 [.int .i64 (x34.op), .int .i64 (x34.id), .int .i64 (x34.type), .slice r34.1 x34.args.length r34.2] 28, .own 42 3 R_FactD (.slice u1_4_p u1_4_n u1_4_c) u1_4_l, .blk c21_0 [.slice u1_3_f0_p u1_3_f0_n u1_3_f0_c, .int .i64 u1_3_f1] 60, .own 42 3 R_FactD (.slice u1_3_f0_p u1_3_f0_n u1_3_f0_c) u1_3_f0_l]) ?_ ?_
       ·
        refine wc_region ?_
        refine wl_fieldAddr rfl rfl rfl (freshS_eq rfl) rfl rfl tF_28_0 ?_
        refine wl_loadH 0 0 rfl rfl rfl (freshS_eq rfl) rfl rfl rfl (cs := [_]) rfl tS_3 tA_3 rfl rfl ?_
        obtain ⟨v42, hc42, hm⟩ := bindO_some hm
        refine wl_call [] [0, 1, 2, 3] rfl rfl rfl (freshS_eq rfl) rfl rfl fn_12 rfl (w_ropewalkkit_Pick_s N x34.op 3 _ hc42) (fun _ _ hφ => ask [] rfl hφ) rfl (H' := [_,_,_,_]) rfl ?_
        rintro _ _ _ ⟨rfl, rfl, rfl⟩
        refine wl_pure rfl rfl rfl (freshS_eq rfl) rfl ?_
        refine wl_pure rfl rfl rfl (freshS_eq rfl) rfl ?_
        refine wl_split (d := 44) (S' := [_,_,_,_,_,_,_,_,_,_]) rfl rfl (fun hs44 => ?_) (fun hs44 => ?_)
        ·
         replace hm := iteT hm hs44
         refine wl_pure rfl rfl rfl (freshS_eq rfl) rfl ?_
         refine wl_ownLen 1 rfl (fun hl46 _ => ?_)
         refine wl_len rfl rfl rfl (freshS_eq rfl) rfl rfl tE_35 ?_
         refine wl_as (d := 46) (v' := .int .i64 ((u1_4_l.length : Nat) : Int)) (S' := [_,_,_,_,_,_,_,_,_,_,_,_]) rfl rfl (len_is hl46) ?_
         refine wl_pure rfl rfl rfl (freshS_eq rfl) rfl ?_
         refine wl_as (d := 47) (v' := .bool (decide (0 < u1_4_l.length))) (S' := [_,_,_,_,_,_,_,_,_,_,_,_,_]) rfl rfl (natgt (a := u1_4_l.length) (b := 0)) ?_
         refine wl_pure rfl rfl rfl (freshS_eq rfl) rfl ?_
         refine wl_nil ?_
         have hE := (Option.some.inj hm).symm
         refine we_join (decide (0 < u1_4_l.length)) hE [7, 6, 5, 4, 3, 0, 48] rfl (fun _ _ hφ => ask [0, 3] rfl hφ) rfl
        ·
         replace hm := iteF hm hs44
         refine wl_off rfl rfl rfl (freshS_eq rfl) ?_
         refine wl_off rfl rfl rfl (freshS_eq rfl) ?_
         refine wl_off rfl rfl rfl (freshS_eq rfl) ?_
         refine wl_pure rfl rfl rfl (freshS_eq rfl) rfl ?_
         refine wl_nil ?_
         have hE := (Option.some.inj hm).symm
         refine we_join false hE [7, 6, 5, 4, 3, 0, 48] rfl (fun _ _ hφ => ask [0, 3] rfl hφ) rfl
       ·
        rintro j_4_48 hE
        try dsimp only
        have hm := hLj_4
        rw [hE] at hm
        refine wc_cond rfl (fun hb48 => ?_) (fun hb48 => ?_)
        ·
         replace hm := iteT hm hb48
         refine wc_keep [7, 6, 5, 4, 3, 0] (S' := [_,_,_,_,_,_]) rfl ?_
         refine wc_seq ?_
         refine wc_region ?_
         refine wl_fieldAddr rfl rfl rfl (freshS_eq rfl) rfl rfl tF_28_1 ?_
         refine wl_loadH 0 1 rfl rfl rfl (freshS_eq rfl) rfl rfl rfl (cs := [_]) rfl tS_3 tA_3 rfl rfl ?_
         refine wl_pure rfl rfl rfl (freshS_eq rfl) rfl ?_
         refine wl_ownLen 1 rfl (fun hl52 _ => ?_)
         refine wl_len rfl rfl rfl (freshS_eq rfl) rfl rfl tE_35 ?_
         refine wl_as (d := 52) (v' := .int .i64 ((u1_4_l.length : Nat) : Int)) (S' := [_,_,_,_,_,_,_,_,_]) rfl rfl (len_is hl52) ?_
         obtain ⟨v53, hc53, hm⟩ := bindO_some hm
         refine wl_call [] [0, 1, 2, 3] rfl rfl rfl (freshS_eq rfl) rfl rfl fn_12 rfl (w_ropewalkkit_Pick_s N x34.id ((u1_4_l.length : Nat) : Int) _ hc53) (fun _ _ hφ => ask [] rfl hφ) rfl (H' := [_,_,_,_]) rfl ?_
         rintro _ _ _ ⟨rfl, rfl, rfl⟩
         refine wl_pure rfl rfl rfl (freshS_eq rfl) rfl ?_
         refine wl_nil ?_
         refine we_then ?_
         refine wc_keep [8, 6, 5, 4, 3, 0] (S' := [_,_,_,_,_,_]) rfl ?_
         refine wc_seq ?_
         refine wc_seq ?_
         refine wc_region ?_
         refine wl_pure rfl rfl rfl (freshS_eq rfl) rfl ?_
         refine wl_pure rfl rfl rfl (freshS_eq rfl) rfl ?_
         refine wl_pure rfl rfl rfl (freshS_eq rfl) rfl ?_
         obtain ⟨hn57, hm⟩ := gd_some hm
         obtain ⟨x57, hx57, hm⟩ := bindO_some hm
         refine wl_indexH 1 v53.toNat rfl rfl rfl (freshS_eq rfl) rfl rfl rfl rfl (toNat_eq hn57) (get_lt hx57) tE_35 tS_42 (fun g57 eg57 => ?_)
         subst eg57
         refine wl_fieldAddr rfl rfl rfl (freshS_eq rfl) rfl rfl tF_42_0 ?_
         refine wl_loadRow R_FactD_opens 1 v53.toNat 0 rfl rfl rfl (freshS_eq rfl) rfl rfl rfl hx57 tS_3 tA_3 (v := fun r59 => .int .i64 (x57.id)) (fun _ => rfl) (fun _ => rfl) (fun r59 _ => ?_)
         obtain ⟨⟨v60_0, v60_1⟩, hc60, hm⟩ := bindO_some hm
         try dsimp only at hm
         refine wl_call [2, 3] [0, 1] rfl rfl rfl (freshS_eq rfl) rfl rfl fn_13 rfl (w_memory_Memory_Drop_s N c21_0 u1_3_f0_p u1_3_f0_n u1_3_f0_c u1_3_f0_l u1_3_f1 x57.id _ _ hc60) (fun _ _ hφ => ask [] rfl hφ) rfl (H' := [_,_]) rfl ?_
         rintro _ _ _ ⟨p60_0, c60_1, c60_2, rfl, rfl, rfl⟩
         refine wl_pure rfl rfl rfl (freshS_eq rfl) rfl ?_
         refine wl_as (d := 61) (v' := .bool (v60_0 != 0)) (S' := [_,_,_,_,_,_,_,_,_,_,_,_,_]) rfl rfl (natne (a := v60_0) (b := 0)) ?_
         refine wl_nil ?_
         refine we_then ?_
         refine wc_keep [61, 8, 6, 5, 4, 3, 0] (S' := [_,_,_,_,_,_,_]) rfl ?_
         refine wc_cond rfl (fun hb61 => ?_) (fun hb61 => ?_)
         ·
          replace hm := iteT hm hb61
          refine wc_keep [] (S' := []) rfl ?_
          refine wc_seq ?_
          refine wc_region ?_
          refine wl_pure rfl rfl rfl (freshS_eq rfl) rfl ?_
          refine wl_nil ?_
          refine we_then ?_
          refine wc_ret ?_
          refine we_then_ret ?_
          refine we_then_ret ?_
          refine we_block_ret ?_
          refine we_then_ret ?_
          refine we_then_ret ?_
          refine we_block_ret ?_
          refine we_then_ret ?_
          have hE := (Option.some.inj hm).symm
          replace hE := link_inr hLj_3 hE
          replace hE := link_inr hLu1 hE
          replace hE := link_inr hLj_1 hE
          replace hE := hE.symm
          subst hE
          refine ret_one (Hr := []) [] Tryd.results4 (res_tmp rfl) ⟨rfl, rfl, rfl⟩ (fun _ _ hφ => ask [] rfl hφ) rfl rfl (.inl rfl)
         ·
          replace hm := iteF hm hb61
          refine wc_keep [8, 6, 5, 4, 3, 0] (S' := [_,_,_,_,_,_]) rfl ?_
          refine wc_skip ?_
          refine we_then ?_
          refine wc_seq ?_
          obtain ⟨hn64_1, hm⟩ := gd_some hm
          obtain ⟨hg64, hm⟩ := gd_some hm
          obtain ⟨v65, hc65, hm⟩ := bindO_some hm
          obtain ⟨hg68, hm⟩ := gd_some hm
          obtain ⟨hn69_0, hm⟩ := gd_some hm
          obtain ⟨hg69, hm⟩ := gd_some hm
          obtain ⟨hg70, hm⟩ := gd_some hm
          refine wc_cut (σ := (Option Addr) × Nat) (fun _ => True) (fun (w_5_4_p, w_5_4_c) => [(4, .slice w_5_4_p ((v65 ++ (u1_4_l.drop ((v53 + 1).toNat))).length) w_5_4_c), (6, .int .i64 ((u1_6 : Nat) : Int)), (5, .int .i64 u1_5), (3, .pointer (some ⟨c21_0, 0, none⟩)), (0, .slice qp0 l0.length qc1)]) (fun (w_5_4_p, w_5_4_c) => [.sli 4 R_Ropewalklaw11_DoD qp0 qc1 l0]) (fun (w_5_4_p, w_5_4_c) => [.own 42 3 R_FactD (.slice w_5_4_p ((v65 ++ (u1_4_l.drop ((v53 + 1).toNat))).length) w_5_4_c) (v65 ++ (u1_4_l.drop ((v53 + 1).toNat))), .blk c21_0 [.slice p60_0 c60_2 c60_1, .int .i64 u1_3_f1] 60, .own 42 3 R_FactD (.slice p60_0 c60_2 c60_1) v60_1]) ?_ ?_
          ·
           refine wc_draw [0, 1, 4, 5, 6] rfl rfl (fun hok => ?_)
           refine wx_pure hok 0 rfl rfl rfl (freshS_eq rfl) rfl rfl ?_
           refine wx_pure hok 1 rfl rfl rfl (freshS_eq rfl) rfl rfl ?_
           refine wx_pure hok 4 rfl rfl rfl (freshS_eq rfl) rfl rfl ?_
           refine wx_pure hok 5 rfl rfl rfl (freshS_eq rfl) rfl rfl ?_
           refine wx_pure hok 6 rfl rfl rfl (freshS_eq rfl) rfl rfl ?_
           refine wx_as (d := 68) (v' := .int .i64 (v53 + 1)) (S' := [_,_,_,_,_,_,_,_,_,_]) rfl rfl (i64_in hg68) ?_
           refine wx_step2 hok 2 7 rfl rfl rfl rfl rfl rfl ?_ ?_
           ·
            refine wl_ownSpot 3 rfl (fun hsp64 hcm64 => ?_)
            refine wl_sliceTo rfl rfl rfl (freshS_eq rfl) rfl rfl rfl (toNat_eq hn64_1) tE_35 tS_42 (Nat.le_trans hg64 (by rw [← hcm64.2]; exact hcm64.1)) hsp64 ?_
            refine wl_nil ?_
            refine we_x [0, 1, 2] [] rfl rfl ?_
            refine wx_step2 hok 3 7 rfl rfl rfl rfl rfl rfl ?_ ?_
            ·
             refine wl_ownLen 3 rfl (fun hzu1_4_n _ => ?_)
             subst hzu1_4_n
             refine wl_freeze 3 rfl (H' := [_,_,_]) rfl ?_
             refine wl_fact (.sli 3 R_FactD (some ⟨g57, 0, none⟩) u1_4_c u1_4_l) (fun F w hφ => own_sli (hφ _ (mem_at (k := 0) rfl))) ?_
             refine wl_fact (.sli 3 R_FactD (some ⟨g57, 0, none⟩) u1_4_c (u1_4_l.take v53.toNat)) (fun _ _ hφ => view_to (hφ _ (mem_at (k := 0) rfl)) v53.toNat) ?_
             refine wl_at 0 (v' := .slice (some ⟨g57, 0, none⟩) ((u1_4_l.take v53.toNat).length) u1_4_c) rfl (take_slice hg64) ?_
             refine wl_call [] [0, 1, 2] rfl rfl rfl (freshS_eq rfl) rfl rfl fn_14 rfl (w_ropewalkkit_CopyFacts_s N (some ⟨g57, 0, none⟩) u1_4_c (u1_4_l.take v53.toNat) _ hc65) (fun _ _ hφ => ask [0] rfl hφ) rfl (H' := [_,_,_]) rfl ?_
             rintro _ _ _ ⟨p65_0, c65_1, c65_2, rfl, rfl, rfl⟩
             refine wl_nil ?_
             refine we_x [3, 4, 5] [] rfl rfl ?_
             refine wx_step1 hok 7 rfl rfl rfl rfl ?_
             refine wl_sliFrom 1 rfl rfl rfl (freshS_eq rfl) rfl rfl rfl rfl (toNat_eq hn69_0) tE_35 tS_42 hg69 (fun p69 => ?_)
             refine wl_nil ?_
             refine we_x [1, 2, 3, 4, 5, 6] [] rfl rfl ?_
             refine wx_step1 hok 8 rfl rfl rfl rfl ?_
             refine wl_append 0 0 rfl rfl rfl (freshS_eq rfl) rfl rfl rfl rfl rfl tE_35 tR_42 rfl rfl (Nat.le_trans hg70 (by decide)) (Nat.le_trans (Nat.mul_le_mul_right _ hg70) (by decide)) (H2 := fun p70 c70 => [.own 42 3 R_FactD (.slice p70 ((v65 ++ (u1_4_l.drop ((v53 + 1).toNat))).length) c70) (v65 ++ (u1_4_l.drop ((v53 + 1).toNat))), .blk c21_0 [.slice p60_0 c60_2 c60_1, .int .i64 u1_3_f1] 60, .own 42 3 R_FactD (.slice p60_0 c60_2 c60_1) v60_1, .blk g7 [.int .i64 (x34.op), .int .i64 (x34.id), .int .i64 (x34.type), .slice r34.1 x34.args.length r34.2] 28]) (fun _ _ => rfl) (fun p70 c70 => ?_)
             refine wl_nil ?_
             refine we_x [0, 1, 2, 3, 4, 5, 6] [] rfl rfl ?_
             refine wx_step1 hok 9 rfl rfl rfl rfl ?_
             refine wl_pure (S' := [_,_,_,_,_,_,_,_,_,_,_,_,_,_]) rfl rfl rfl rfl rfl ?_
             refine wl_nil ?_
             refine we_x [0, 1, 2, 3, 4, 5, 6] [] rfl rfl ?_
             refine wx_done hok rfl ?_
             refine we_pick [0, 1, 2] rfl (H' := [_,_,_]) rfl ?_
             refine we_join (p70, c70) trivial [4, 6, 5, 3, 0] rfl (fun _ _ hφ => ask [6] rfl hφ) rfl
            ·
             refine wl_ownSpot 3 rfl (fun hsp69 hcm69 => ?_)
             refine wl_sliceFrom rfl rfl rfl (freshS_eq rfl) rfl rfl rfl (toNat_eq hn69_0) tE_35 tS_42 (by omega) hcm69.1 (fun ad69 had69 => ?_)
             refine wl_nil ?_
             refine we_x [0, 1, 2] [] rfl rfl ?_
             refine wx_step1 hok 3 rfl rfl rfl rfl ?_
             refine wl_ownLen 3 rfl (fun hzu1_4_n _ => ?_)
             subst hzu1_4_n
             refine wl_freeze 3 rfl (H' := [_,_,_]) rfl ?_
             refine wl_fact (.sli 3 R_FactD (some ⟨g57, 0, none⟩) u1_4_c u1_4_l) (fun F w hφ => own_sli (hφ _ (mem_at (k := 0) rfl))) ?_
             refine wl_fact (.sli 3 R_FactD (some ⟨g57, 0, none⟩) u1_4_c (u1_4_l.take v53.toNat)) (fun _ _ hφ => view_to (hφ _ (mem_at (k := 0) rfl)) v53.toNat) ?_
             refine wl_at 1 (v' := .slice (some ⟨g57, 0, none⟩) ((u1_4_l.take v53.toNat).length) u1_4_c) rfl (take_slice hg64) ?_
             refine wl_call [] [0, 1, 2] rfl rfl rfl (freshS_eq rfl) rfl rfl fn_14 rfl (w_ropewalkkit_CopyFacts_s N (some ⟨g57, 0, none⟩) u1_4_c (u1_4_l.take v53.toNat) _ hc65) (fun _ _ hφ => ask [0] rfl hφ) rfl (H' := [_,_,_]) rfl ?_
             rintro _ _ _ ⟨p65_0, c65_1, c65_2, rfl, rfl, rfl⟩
             refine wl_nil ?_
             refine we_x [3, 4, 5] [] rfl rfl ?_
             refine wx_step1 hok 8 rfl rfl rfl rfl ?_
             refine wl_fact (.sli 3 R_FactD (some ad69) (u1_4_c - ((v53 + 1).toNat)) (u1_4_l.drop ((v53 + 1).toNat))) (fun _ _ hφ => view_from (hφ _ (mem_at (k := 1) rfl)) hg69 had69) ?_
             refine wl_at 1 (v' := .slice (some ad69) ((u1_4_l.drop ((v53 + 1).toNat)).length) (u1_4_c - ((v53 + 1).toNat))) rfl (drop_slice (by first | rfl | exact hcm69.2)) ?_
             refine wl_append 0 0 rfl rfl rfl (freshS_eq rfl) rfl rfl rfl rfl rfl tE_35 tR_42 rfl rfl (Nat.le_trans hg70 (by decide)) (Nat.le_trans (Nat.mul_le_mul_right _ hg70) (by decide)) (H2 := fun p70 c70 => [.own 42 3 R_FactD (.slice p70 ((v65 ++ (u1_4_l.drop ((v53 + 1).toNat))).length) c70) (v65 ++ (u1_4_l.drop ((v53 + 1).toNat))), .blk c21_0 [.slice p60_0 c60_2 c60_1, .int .i64 u1_3_f1] 60, .own 42 3 R_FactD (.slice p60_0 c60_2 c60_1) v60_1, .blk g7 [.int .i64 (x34.op), .int .i64 (x34.id), .int .i64 (x34.type), .slice r34.1 x34.args.length r34.2] 28]) (fun _ _ => rfl) (fun p70 c70 => ?_)
             refine wl_nil ?_
             refine we_x [1, 2, 3, 4, 5, 6] [] rfl rfl ?_
             refine wx_step1 hok 9 rfl rfl rfl rfl ?_
             refine wl_pure (S' := [_,_,_,_,_,_,_,_,_,_,_,_,_,_]) rfl rfl rfl rfl rfl ?_
             refine wl_nil ?_
             refine we_x [0, 1, 2, 3, 4, 5, 6] [] rfl rfl ?_
             refine wx_done hok rfl ?_
             refine we_pick [0, 1, 2] rfl (H' := [_,_,_]) rfl ?_
             refine we_join (p70, c70) trivial [4, 6, 5, 3, 0] rfl (fun _ _ hφ => ask [6] rfl hφ) rfl
           ·
            refine wl_ownSpot 3 rfl (fun hsp69 hcm69 => ?_)
            refine wl_sliceFrom rfl rfl rfl (freshS_eq rfl) rfl rfl rfl (toNat_eq hn69_0) tE_35 tS_42 (by omega) hcm69.1 (fun ad69 had69 => ?_)
            refine wl_nil ?_
            refine we_x [0, 1, 2] [] rfl rfl ?_
            refine wx_step1 hok 2 rfl rfl rfl rfl ?_
            refine wl_ownSpot 3 rfl (fun hsp64 hcm64 => ?_)
            refine wl_sliceTo rfl rfl rfl (freshS_eq rfl) rfl rfl rfl (toNat_eq hn64_1) tE_35 tS_42 (Nat.le_trans hg64 (by rw [← hcm64.2]; exact hcm64.1)) hsp64 ?_
            refine wl_nil ?_
            refine we_x [0, 1, 2] [] rfl rfl ?_
            refine wx_step1 hok 3 rfl rfl rfl rfl ?_
            refine wl_ownLen 3 rfl (fun hzu1_4_n _ => ?_)
            subst hzu1_4_n
            refine wl_freeze 3 rfl (H' := [_,_,_]) rfl ?_
            refine wl_fact (.sli 3 R_FactD (some ⟨g57, 0, none⟩) u1_4_c u1_4_l) (fun F w hφ => own_sli (hφ _ (mem_at (k := 0) rfl))) ?_
            refine wl_fact (.sli 3 R_FactD (some ⟨g57, 0, none⟩) u1_4_c (u1_4_l.take v53.toNat)) (fun _ _ hφ => view_to (hφ _ (mem_at (k := 0) rfl)) v53.toNat) ?_
            refine wl_at 0 (v' := .slice (some ⟨g57, 0, none⟩) ((u1_4_l.take v53.toNat).length) u1_4_c) rfl (take_slice hg64) ?_
            refine wl_call [] [0, 1, 2] rfl rfl rfl (freshS_eq rfl) rfl rfl fn_14 rfl (w_ropewalkkit_CopyFacts_s N (some ⟨g57, 0, none⟩) u1_4_c (u1_4_l.take v53.toNat) _ hc65) (fun _ _ hφ => ask [0] rfl hφ) rfl (H' := [_,_,_]) rfl ?_
            rintro _ _ _ ⟨p65_0, c65_1, c65_2, rfl, rfl, rfl⟩
            refine wl_nil ?_
            refine we_x [3, 4, 5] [] rfl rfl ?_
            refine wx_step1 hok 8 rfl rfl rfl rfl ?_
            refine wl_fact (.sli 3 R_FactD (some ad69) (u1_4_c - ((v53 + 1).toNat)) (u1_4_l.drop ((v53 + 1).toNat))) (fun _ _ hφ => view_from (hφ _ (mem_at (k := 1) rfl)) hg69 had69) ?_
            refine wl_at 2 (v' := .slice (some ad69) ((u1_4_l.drop ((v53 + 1).toNat)).length) (u1_4_c - ((v53 + 1).toNat))) rfl (drop_slice (by first | rfl | exact hcm69.2)) ?_
            refine wl_append 0 0 rfl rfl rfl (freshS_eq rfl) rfl rfl rfl rfl rfl tE_35 tR_42 rfl rfl (Nat.le_trans hg70 (by decide)) (Nat.le_trans (Nat.mul_le_mul_right _ hg70) (by decide)) (H2 := fun p70 c70 => [.own 42 3 R_FactD (.slice p70 ((v65 ++ (u1_4_l.drop ((v53 + 1).toNat))).length) c70) (v65 ++ (u1_4_l.drop ((v53 + 1).toNat))), .blk c21_0 [.slice p60_0 c60_2 c60_1, .int .i64 u1_3_f1] 60, .own 42 3 R_FactD (.slice p60_0 c60_2 c60_1) v60_1, .blk g7 [.int .i64 (x34.op), .int .i64 (x34.id), .int .i64 (x34.type), .slice r34.1 x34.args.length r34.2] 28]) (fun _ _ => rfl) (fun p70 c70 => ?_)
            refine wl_nil ?_
            refine we_x [1, 2, 3, 4, 5, 6] [] rfl rfl ?_
            refine wx_step1 hok 9 rfl rfl rfl rfl ?_
            refine wl_pure (S' := [_,_,_,_,_,_,_,_,_,_,_,_,_,_]) rfl rfl rfl rfl rfl ?_
            refine wl_nil ?_
            refine we_x [0, 1, 2, 3, 4, 5, 6] [] rfl rfl ?_
            refine wx_done hok rfl ?_
            refine we_pick [0, 1, 2] rfl (H' := [_,_,_]) rfl ?_
            refine we_join (p70, c70) trivial [4, 6, 5, 3, 0] rfl (fun _ _ hφ => ask [6] rfl hφ) rfl
          ·
           rintro ⟨w_5_4_p, w_5_4_c⟩ _
           try dsimp only
           refine wc_exit ?_
           refine we_then_exit ?_
           refine we_block_hit ?_
           have hE := (Option.some.inj hm).symm
           refine we_join (u1_5, v65 ++ (u1_4_l.drop ((v53 + 1).toNat)), v60_1, u1_3_f1, w_5_4_p, w_5_4_c, (v65 ++ (u1_4_l.drop ((v53 + 1).toNat))).length, p60_0, c60_1, c60_2) hE [6, 5, 4, 3, 0] rfl (fun _ _ hφ => ask [0] rfl hφ) rfl
        ·
         replace hm := iteF hm hb48
         refine wc_keep [7, 6, 5, 4, 3, 0] (S' := [_,_,_,_,_,_]) rfl ?_
         refine wc_skip ?_
         refine we_then ?_
         refine wc_seq ?_
         refine wc_region ?_
         refine wl_fieldAddr rfl rfl rfl (freshS_eq rfl) rfl rfl tF_28_2 ?_
         refine wl_loadH 0 2 rfl rfl rfl (freshS_eq rfl) rfl rfl rfl (cs := [_]) rfl tS_3 tA_3 rfl rfl ?_
         obtain ⟨v73, hc73, hm⟩ := bindO_some hm
         refine wl_call [] [0, 1, 2, 3] rfl rfl rfl (freshS_eq rfl) rfl rfl fn_12 rfl (w_ropewalkkit_Pick_s N x34.type 3 _ hc73) (fun _ _ hφ => ask [] rfl hφ) rfl (H' := [_,_,_,_]) rfl ?_
         rintro _ _ _ ⟨rfl, rfl, rfl⟩
         refine wl_pure rfl rfl rfl (freshS_eq rfl) rfl ?_
         refine wl_nil ?_
         refine we_then ?_
         refine wc_keep [9, 7, 6, 5, 4, 3, 0] (S' := [_,_,_,_,_,_,_]) rfl ?_
         refine wc_seq ?_
         refine wc_region ?_
         refine wl_pure rfl rfl rfl (freshS_eq rfl) rfl ?_
         refine wl_pure rfl rfl rfl (freshS_eq rfl) rfl ?_
         refine wl_fieldAddr rfl rfl rfl (freshS_eq rfl) rfl rfl tF_28_3 ?_
         refine wl_loadH 0 3 rfl rfl rfl (freshS_eq rfl) rfl rfl rfl (cs := [_]) rfl tS_26 tA_26 rfl rfl ?_
         obtain ⟨⟨v79_0, v79_1, v79_2, v79_3⟩, hc79, hm⟩ := bindO_some hm
         try dsimp only at hm
         refine wl_call [2, 3] [0, 1] rfl rfl rfl (freshS_eq rfl) rfl rfl fn_15 rfl (w_memory_Memory_Add_v2_s N c21_0 u1_3_f0_p u1_3_f0_n u1_3_f0_c u1_3_f0_l u1_3_f1 v73 r34.1 r34.2 x34.args _ _ _ _ hc79) (fun _ _ hφ => ask [0] rfl hφ) rfl (H' := [_,_]) rfl ?_
         rintro _ _ _ ⟨p79_0, c79_1, c79_2, rfl, rfl, rfl⟩
         refine wl_pure rfl rfl rfl (freshS_eq rfl) rfl ?_
         refine wl_pure rfl rfl rfl (freshS_eq rfl) rfl ?_
         refine wl_pure rfl rfl rfl (freshS_eq rfl) rfl ?_
         refine wl_pure rfl rfl rfl (freshS_eq rfl) rfl ?_
         refine wl_pure rfl rfl rfl (freshS_eq rfl) rfl ?_
         refine wl_nil ?_
         refine we_then ?_
         refine wc_keep [11, 10, 9, 7, 6, 5, 4, 3, 0] (S' := [_,_,_,_,_,_,_,_,_]) rfl ?_
         refine wc_seq ?_
         refine wc_region ?_
         refine wl_pure rfl rfl rfl (freshS_eq rfl) rfl ?_
         refine wl_nil ?_
         refine we_then ?_
         refine wc_seq ?_
         obtain ⟨bj_6, hm, hLj_6⟩ := bindO_some hm
         refine wc_cut (σ := Int) (fun j_6_12 => bj_6 = j_6_12) (fun j_6_12 => [(11, .int .i64 ((v79_1 : Nat) : Int)), (10, .int .i64 v79_0), (9, .int .i64 v73), (7, .pointer (some ⟨g7, 0, none⟩)), (6, .int .i64 ((u1_6 : Nat) : Int)), (5, .int .i64 u1_5), (4, .slice u1_4_p u1_4_n u1_4_c), (3, .pointer (some ⟨c21_0, 0, none⟩)), (0, .slice qp0 l0.length qc1), (12, .int .i64 j_6_12)]) (fun j_6_12 => [.sli 3 R_V r34.1 r34.2 x34.args, .sli 4 R_Ropewalklaw11_DoD qp0 qc1 l0]) (fun j_6_12 => [.blk g7 [.int .i64 (x34.op), .int .i64 (x34.id), .int .i64 (x34.type), .slice r34.1 x34.args.length r34.2] 28, .own 42 3 R_FactD (.slice u1_4_p u1_4_n u1_4_c) u1_4_l, .blk c21_0 [.slice p79_0 c79_2 c79_1, .int .i64 v79_3] 60, .own 42 3 R_FactD (.slice p79_0 c79_2 c79_1) v79_2]) ?_ ?_
         ·
          refine wc_seq ?_
          refine wc_region ?_
          refine wl_pure rfl rfl rfl (freshS_eq rfl) rfl ?_
          refine wl_nil ?_
          refine we_then ?_
          refine wc_block ?_
          refine wc_pick [2, 3, 0, 1] rfl (H' := [_,_,_,_]) rfl ?_
          refine wc_loop (σ := Nat × Nat × Int) (fun (nu2, u2_13, u2_12) => iter (m_ropewalklaw11_MemoryKeeps_L2 N u1_4_l v73 x34) nu2 (u2_13, u2_12) = some bj_6) (fun (nu2, u2_13, u2_12) => nu2) (fun (nu2, u2_13, u2_12) => [(13, .int .i64 ((u2_13 : Nat) : Int)), (12, .int .i64 u2_12), (11, .int .i64 ((v79_1 : Nat) : Int)), (10, .int .i64 v79_0), (9, .int .i64 v73), (7, .pointer (some ⟨g7, 0, none⟩)), (6, .int .i64 ((u1_6 : Nat) : Int)), (5, .int .i64 u1_5), (4, .slice u1_4_p u1_4_n u1_4_c), (3, .pointer (some ⟨c21_0, 0, none⟩)), (0, .slice qp0 l0.length qc1)]) (fun (nu2, u2_13, u2_12) => [.sli 3 R_V r34.1 r34.2 x34.args, .sli 4 R_Ropewalklaw11_DoD qp0 qc1 l0]) (fun (nu2, u2_13, u2_12) => [.blk g7 [.int .i64 (x34.op), .int .i64 (x34.id), .int .i64 (x34.type), .slice r34.1 x34.args.length r34.2] 28, .own 42 3 R_FactD (.slice u1_4_p u1_4_n u1_4_c) u1_4_l, .blk c21_0 [.slice p79_0 c79_2 c79_1, .int .i64 v79_3] 60, .own 42 3 R_FactD (.slice p79_0 c79_2 c79_1) v79_2]) (N, 0, -1) hm [13, 12, 11, 10, 9, 7, 6, 5, 4, 3, 0] rfl (fun _ _ hφ => ask [0, 1] rfl hφ) rfl (fun s_ hm => ?_)
          obtain ⟨nu2, u2_13, u2_12⟩ := s_
          try dsimp only at hm ⊢
          obtain ⟨mu2, bu2, hnu2, hq, hLu2⟩ := iter_some hm
          clear hm
          subst hnu2
          replace hm := hq
          clear hq
          unfold m_ropewalklaw11_MemoryKeeps_L2 at hm
          try dsimp only at hm
          refine wc_seq ?_
          refine wc_seq ?_
          refine wc_region ?_
          refine wl_pure rfl rfl rfl (freshS_eq rfl) rfl ?_
          refine wl_pure rfl rfl rfl (freshS_eq rfl) rfl ?_
          refine wl_ownLen 1 rfl (fun hl84 _ => ?_)
          refine wl_len rfl rfl rfl (freshS_eq rfl) rfl rfl tE_35 ?_
          refine wl_as (d := 84) (v' := .int .i64 ((u1_4_l.length : Nat) : Int)) (S' := [_,_,_,_,_,_,_,_,_,_,_,_,_]) rfl rfl (len_is hl84) ?_
          refine wl_pure rfl rfl rfl (freshS_eq rfl) rfl ?_
          refine wl_as (d := 85) (v' := .bool (decide (u2_13 < u1_4_l.length))) (S' := [_,_,_,_,_,_,_,_,_,_,_,_,_,_]) rfl rfl (natlt (a := u2_13) (b := u1_4_l.length)) ?_
          refine wl_nil ?_
          refine we_then ?_
          refine wc_keep [85, 13, 12, 11, 10, 9, 7, 6, 5, 4, 3, 0] (S' := [_,_,_,_,_,_,_,_,_,_,_,_]) rfl ?_
          refine wc_cond rfl (fun hb85 => ?_) (fun hb85 => ?_)
          ·
           replace hm := iteT hm hb85
           refine wc_keep [13, 12, 11, 10, 9, 7, 6, 5, 4, 3, 0] (S' := [_,_,_,_,_,_,_,_,_,_,_]) rfl ?_
           refine wc_skip ?_
           refine we_then ?_
           refine wc_seq ?_
           obtain ⟨bj_7, hm, hLj_7⟩ := bindO_some hm
           unfold m_ropewalklaw11_MemoryKeeps_C7 at hm
           refine wc_cut (σ := Int) (fun j_7_12 => bj_7 = j_7_12) (fun j_7_12 => [(13, .int .i64 ((u2_13 : Nat) : Int)), (12, .int .i64 j_7_12), (11, .int .i64 ((v79_1 : Nat) : Int)), (10, .int .i64 v79_0), (9, .int .i64 v73), (7, .pointer (some ⟨g7, 0, none⟩)), (6, .int .i64 ((u1_6 : Nat) : Int)), (5, .int .i64 u1_5), (4, .slice u1_4_p u1_4_n u1_4_c), (3, .pointer (some ⟨c21_0, 0, none⟩)), (0, .slice qp0 l0.length qc1)]) (fun j_7_12 => [.sli 3 R_V r34.1 r34.2 x34.args, .sli 4 R_Ropewalklaw11_DoD qp0 qc1 l0]) (fun j_7_12 => [.blk g7 [.int .i64 (x34.op), .int .i64 (x34.id), .int .i64 (x34.type), .slice r34.1 x34.args.length r34.2] 28, .own 42 3 R_FactD (.slice u1_4_p u1_4_n u1_4_c) u1_4_l, .blk c21_0 [.slice p79_0 c79_2 c79_1, .int .i64 v79_3] 60, .own 42 3 R_FactD (.slice p79_0 c79_2 c79_1) v79_2]) ?_ ?_
           ·
            refine wc_block ?_
            refine wc_seq ?_
            obtain ⟨bj_8, hm, hLj_8⟩ := bindO_some hm
            refine wc_cut (σ := Bool) (fun j_8_104 => bj_8 = j_8_104) (fun j_8_104 => [(13, .int .i64 ((u2_13 : Nat) : Int)), (12, .int .i64 u2_12), (11, .int .i64 ((v79_1 : Nat) : Int)), (10, .int .i64 v79_0), (9, .int .i64 v73), (7, .pointer (some ⟨g7, 0, none⟩)), (6, .int .i64 ((u1_6 : Nat) : Int)), (5, .int .i64 u1_5), (4, .slice u1_4_p u1_4_n u1_4_c), (3, .pointer (some ⟨c21_0, 0, none⟩)), (0, .slice qp0 l0.length qc1), (104, .bool j_8_104)]) (fun j_8_104 => [.sli 3 R_V r34.1 r34.2 x34.args, .sli 4 R_Ropewalklaw11_DoD qp0 qc1 l0]) (fun j_8_104 => [.blk g7 [.int .i64 (x34.op), .int .i64 (x34.id), .int .i64 (x34.type), .slice r34.1 x34.args.length r34.2] 28, .own 42 3 R_FactD (.slice u1_4_p u1_4_n u1_4_c) u1_4_l, .blk c21_0 [.slice p79_0 c79_2 c79_1, .int .i64 v79_3] 60, .own 42 3 R_FactD (.slice p79_0 c79_2 c79_1) v79_2]) ?_ ?_
            ·
             obtain ⟨x90, hx90, hm⟩ := bindO_some hm
             rcases ite_some hm with ⟨hs95, hm⟩ | ⟨hs95, hm⟩
             ·
              obtain ⟨x98, hx98, hm⟩ := bindO_some hm
              obtain ⟨v103, hc103, hm⟩ := bindO_some hm
              refine wc_draw [0, 1, 2, 3, 5, 6, 7, 8, 9, 10, 11, 13, 14, 16] rfl rfl (fun hok => ?_)
              refine wx_pure hok 0 rfl rfl rfl (freshS_eq rfl) rfl rfl ?_
              refine wx_pure hok 1 rfl rfl rfl (freshS_eq rfl) rfl rfl ?_
              refine wx_indexH hok 2 1 u2_13 rfl rfl rfl (freshS_eq rfl) rfl rfl rfl rfl rfl rfl (get_lt hx90) tE_35 tS_42 (fun g90 eg90 => ?_)
              subst eg90
              refine wx_fieldAddr hok 3 rfl rfl rfl (freshS_eq rfl) rfl rfl rfl tF_42_1 ?_
              refine wx_pure hok 5 rfl rfl rfl (freshS_eq rfl) rfl rfl ?_
              refine wx_step1 hok 4 rfl rfl rfl rfl ?_
              refine wl_loadRow R_FactD_opens 1 u2_13 1 rfl rfl rfl (freshS_eq rfl) rfl rfl rfl hx90 tS_3 tA_3 (v := fun r92 => .int .i64 (x90.ty)) (fun _ => rfl) (fun _ => rfl) (fun r92 _ => ?_)
              refine wl_nil ?_
              refine we_x [1, 2] [] rfl rfl ?_
              refine wx_pure hok 6 rfl rfl rfl (freshS_eq rfl) rfl rfl ?_
              refine wx_pure hok 7 rfl rfl rfl (freshS_eq rfl) rfl rfl ?_
              refine wx_as (d := 95) (v' := .bool true) (S' := [_,_,_,_,_,_,_,_,_,_,_,_,_,_,_,_,_,_]) rfl rfl (bool_is hs95) ?_
              refine wx_pure hok 8 rfl rfl rfl (freshS_eq rfl) rfl rfl ?_
              refine wx_pure hok 9 rfl rfl rfl (freshS_eq rfl) rfl rfl ?_
              refine wx_indexK hok 10 1 u2_13 rfl rfl rfl (freshS_eq rfl) rfl rfl rfl rfl rfl rfl (get_lt hx98) tE_35 tS_42 ?_
              refine wx_fieldAddr hok 11 rfl rfl rfl (freshS_eq rfl) rfl rfl rfl tF_42_2 ?_
              refine wx_fieldAddr hok 13 rfl rfl rfl (freshS_eq rfl) rfl rfl rfl tF_28_3 ?_
              refine wx_loadH hok 14 0 3 rfl rfl rfl (freshS_eq rfl) rfl rfl rfl rfl (cs := [_]) rfl tS_26 tA_26 rfl rfl ?_
              refine wx_step1 hok 12 rfl rfl rfl rfl ?_
              refine wl_loadRow R_FactD_opens 1 u2_13 2 rfl rfl rfl (freshS_eq rfl) rfl rfl rfl hx98 tS_26 tA_26 (v := fun r100 => .slice r100.1 x98.args.length r100.2) (fun _ => rfl) (fun _ => rfl) (fun r100 _ => ?_)
              refine wl_nil ?_
              refine we_x [1, 2, 3] [0] rfl rfl ?_
              refine wx_step1 hok 15 rfl rfl rfl rfl ?_
              refine wl_call [] [0, 1, 2, 3] rfl rfl rfl (freshS_eq rfl) rfl rfl fn_16 rfl (w_ropewalkkit_SameValues_s N r100.1 r100.2 x98.args r34.1 r34.2 x34.args _ hc103) (fun _ _ hφ => ask [0, 2] rfl hφ) rfl (H' := [_,_,_,_]) rfl ?_
              rintro _ _ _ ⟨rfl, rfl, rfl⟩
              refine wl_nil ?_
              refine we_x [0, 1, 2, 3] [] rfl rfl ?_
              refine wx_pure hok 16 rfl rfl rfl (freshS_eq rfl) rfl rfl ?_
              refine wx_done hok rfl ?_
              have hE := (Option.some.inj hm).symm
              refine we_join v103 hE [13, 12, 11, 10, 9, 7, 6, 5, 4, 3, 0, 104] rfl (fun _ _ hφ => ask [2, 3] rfl hφ) rfl
             ·
              refine wc_draw [0, 1, 2, 3, 5, 6, 7, 8, 9, 10, 11, 13, 14, 16] rfl rfl (fun hok => ?_)
              refine wx_pure hok 0 rfl rfl rfl (freshS_eq rfl) rfl rfl ?_
              refine wx_pure hok 1 rfl rfl rfl (freshS_eq rfl) rfl rfl ?_
              refine wx_indexH hok 2 1 u2_13 rfl rfl rfl (freshS_eq rfl) rfl rfl rfl rfl rfl rfl (get_lt hx90) tE_35 tS_42 (fun g90 eg90 => ?_)
              subst eg90
              refine wx_fieldAddr hok 3 rfl rfl rfl (freshS_eq rfl) rfl rfl rfl tF_42_1 ?_
              refine wx_pure hok 5 rfl rfl rfl (freshS_eq rfl) rfl rfl ?_
              refine wx_step1 hok 4 rfl rfl rfl rfl ?_
              refine wl_loadRow R_FactD_opens 1 u2_13 1 rfl rfl rfl (freshS_eq rfl) rfl rfl rfl hx90 tS_3 tA_3 (v := fun r92 => .int .i64 (x90.ty)) (fun _ => rfl) (fun _ => rfl) (fun r92 _ => ?_)
              refine wl_nil ?_
              refine we_x [1, 2] [] rfl rfl ?_
              refine wx_pure hok 6 rfl rfl rfl (freshS_eq rfl) rfl rfl ?_
              refine wx_pure hok 7 rfl rfl rfl (freshS_eq rfl) rfl rfl ?_
              refine wx_as (d := 95) (v' := .bool false) (S' := [_,_,_,_,_,_,_,_,_,_,_,_,_,_,_,_,_,_]) rfl rfl (bool_is hs95) ?_
              refine wx_off hok 8 rfl rfl rfl (freshS_eq rfl) rfl ?_
              refine wx_off hok 9 rfl rfl rfl (freshS_eq rfl) rfl ?_
              refine wx_off hok 10 rfl rfl rfl (freshS_eq rfl) rfl ?_
              refine wx_off hok 11 rfl rfl rfl (freshS_eq rfl) rfl ?_
              refine wx_off hok 13 rfl rfl rfl (freshS_eq rfl) rfl ?_
              refine wx_off hok 14 rfl rfl rfl (freshS_eq rfl) rfl ?_
              refine wx_step1 hok 12 rfl rfl rfl rfl ?_
              refine wl_off rfl rfl rfl (freshS_eq rfl) ?_
              refine wl_nil ?_
              refine we_x [0, 1, 2] [] rfl rfl ?_
              refine wx_step1 hok 15 rfl rfl rfl rfl ?_
              refine wl_off rfl rfl rfl (freshS_eq rfl) ?_
              refine wl_nil ?_
              refine we_x [0, 1, 2] [] rfl rfl ?_
              refine wx_pure hok 16 rfl rfl rfl (freshS_eq rfl) rfl rfl ?_
              refine wx_done hok rfl ?_
              have hE := (Option.some.inj hm).symm
              refine we_join false hE [13, 12, 11, 10, 9, 7, 6, 5, 4, 3, 0, 104] rfl (fun _ _ hφ => ask [1, 2] rfl hφ) rfl
            ·
             rintro j_8_104 hE
             try dsimp only
             have hm := hLj_8
             rw [hE] at hm
             refine wc_cond rfl (fun hb104 => ?_) (fun hb104 => ?_)
             ·
              replace hm := iteT hm hb104
              refine wc_keep [13, 11, 10, 9, 7, 6, 5, 4, 3, 0] (S' := [_,_,_,_,_,_,_,_,_,_]) rfl ?_
              refine wc_region ?_
              refine wl_pure rfl rfl rfl (freshS_eq rfl) rfl ?_
              refine wl_pure rfl rfl rfl (freshS_eq rfl) rfl ?_
              refine wl_nil ?_
              refine we_block_normal ?_
              have hE := (Option.some.inj hm).symm
              refine we_join ((u2_13 : Nat) : Int) hE [13, 12, 11, 10, 9, 7, 6, 5, 4, 3, 0] rfl (fun _ _ hφ => ask [0, 1] rfl hφ) rfl
             ·
              replace hm := iteF hm hb104
              refine wc_keep [13, 12, 11, 10, 9, 7, 6, 5, 4, 3, 0] (S' := [_,_,_,_,_,_,_,_,_,_,_]) rfl ?_
              refine wc_skip ?_
              refine we_block_normal ?_
              have hE := (Option.some.inj hm).symm
              refine we_join u2_12 hE [13, 12, 11, 10, 9, 7, 6, 5, 4, 3, 0] rfl (fun _ _ hφ => ask [0, 1] rfl hφ) rfl
           ·
            rintro j_7_12 hE
            try dsimp only
            have hm := hLj_7
            rw [hE] at hm
            refine wc_region ?_
            refine wl_pure rfl rfl rfl (freshS_eq rfl) rfl ?_
            refine wl_pure rfl rfl rfl (freshS_eq rfl) rfl ?_
            obtain ⟨hg87, hm⟩ := gd_some hm
            refine wl_as (d := 87) (v' := .int .i64 ((u2_13 + 1 : Nat) : Int)) (S' := [_,_,_,_,_,_,_,_,_,_,_,_]) rfl rfl (nat_add (a := u2_13) (b := 1) hg87) ?_
            refine wl_pure (S' := [_,_,_,_,_,_,_,_,_,_,_,_]) rfl rfl rfl rfl rfl ?_
            refine wl_nil ?_
            have hE := (Option.some.inj hm).symm
            replace hE := link_inl hLu2 hE
            refine we_roundK (_, u2_13 + 1, j_7_12) (Nat.lt_succ_self _) hE [13, 12, 11, 10, 9, 7, 6, 5, 4, 3, 0] rfl (fun _ _ hφ => ask [0, 1] rfl hφ) rfl
          ·
           replace hm := iteF hm hb85
           refine wc_keep [12, 11, 10, 9, 7, 6, 5, 4, 3, 0] (S' := [_,_,_,_,_,_,_,_,_,_]) rfl ?_
           refine wc_exit ?_
           refine we_then_exit ?_
           refine we_then_exit ?_
           refine we_block_hit ?_
           have hE := (Option.some.inj hm).symm
           replace hE := link_inr hLu2 hE
           refine we_join u2_12 hE [11, 10, 9, 7, 6, 5, 4, 3, 0, 12] rfl (fun _ _ hφ => ask [0, 1] rfl hφ) rfl
         ·
          rintro j_6_12 hE
          try dsimp only
          have hm := hLj_6
          rw [hE] at hm
          refine wc_seq ?_
          obtain ⟨bj_9, hm, hLj_9⟩ := bindS_some hm
          unfold m_ropewalklaw11_MemoryKeeps_C9 at hm
          refine wc_cut (σ := Int × (List FactD) × (Option Addr) × Nat × Nat) (fun (j_9_5, j_9_4_l, j_9_4_p, j_9_4_c, j_9_4_n) => bj_9 = .inl (j_9_5, j_9_4_l)) (fun (j_9_5, j_9_4_l, j_9_4_p, j_9_4_c, j_9_4_n) => [(6, .int .i64 ((u1_6 : Nat) : Int)), (5, .int .i64 j_9_5), (4, .slice j_9_4_p j_9_4_n j_9_4_c), (3, .pointer (some ⟨c21_0, 0, none⟩)), (0, .slice qp0 l0.length qc1)]) (fun (j_9_5, j_9_4_l, j_9_4_p, j_9_4_c, j_9_4_n) => [.sli 4 R_Ropewalklaw11_DoD qp0 qc1 l0]) (fun (j_9_5, j_9_4_l, j_9_4_p, j_9_4_c, j_9_4_n) => [.own 42 3 R_FactD (.slice j_9_4_p j_9_4_n j_9_4_c) j_9_4_l, .blk c21_0 [.slice p79_0 c79_2 c79_1, .int .i64 v79_3] 60, .own 42 3 R_FactD (.slice p79_0 c79_2 c79_1) v79_2]) ?_ ?_
          ·
           refine wc_block ?_
           refine wc_seq ?_
           refine wc_region ?_
           refine wl_pure rfl rfl rfl (freshS_eq rfl) rfl ?_
           refine wl_pure rfl rfl rfl (freshS_eq rfl) rfl ?_
           refine wl_as (d := 108) (v' := .bool (v79_1 == 0)) (S' := [_,_,_,_,_,_,_,_,_,_,_]) rfl rfl (nateq (a := v79_1) (b := 0)) ?_
           refine wl_pure rfl rfl rfl (freshS_eq rfl) rfl ?_
           refine wl_nil ?_
           refine we_then ?_
           refine wc_keep [106, 11, 10, 9, 7, 6, 5, 4, 3, 0, 12] (S' := [_,_,_,_,_,_,_,_,_,_,_]) rfl ?_
           refine wc_cond rfl (fun hb106 => ?_) (fun hb106 => ?_)
           ·
            replace hm := iteT hm hb106
            refine wc_keep [10, 9, 7, 6, 5, 4, 3, 0, 12] (S' := [_,_,_,_,_,_,_,_,_]) rfl ?_
            refine wc_seq ?_
            refine wc_seq ?_
            obtain ⟨bj_10, hm, hLj_10⟩ := bindO_some hm
            refine wc_cut (σ := Bool) (fun j_10_115 => bj_10 = j_10_115) (fun j_10_115 => [(10, .int .i64 v79_0), (9, .int .i64 v73), (7, .pointer (some ⟨g7, 0, none⟩)), (6, .int .i64 ((u1_6 : Nat) : Int)), (4, .slice u1_4_p u1_4_n u1_4_c), (3, .pointer (some ⟨c21_0, 0, none⟩)), (0, .slice qp0 l0.length qc1), (115, .bool j_10_115)]) (fun j_10_115 => [.sli 3 R_V r34.1 r34.2 x34.args, .sli 4 R_Ropewalklaw11_DoD qp0 qc1 l0]) (fun j_10_115 => [.blk g7 [.int .i64 (x34.op), .int .i64 (x34.id), .int .i64 (x34.type), .slice r34.1 x34.args.length r34.2] 28, .own 42 3 R_FactD (.slice u1_4_p u1_4_n u1_4_c) u1_4_l, .blk c21_0 [.slice p79_0 c79_2 c79_1, .int .i64 v79_3] 60, .own 42 3 R_FactD (.slice p79_0 c79_2 c79_1) v79_2]) ?_ ?_
            ·
             refine wc_region ?_
             refine wl_pure rfl rfl rfl (freshS_eq rfl) rfl ?_
             refine wl_pure rfl rfl rfl (freshS_eq rfl) rfl ?_
             refine wl_pure rfl rfl rfl (freshS_eq rfl) rfl ?_
             refine wl_split (d := 111) (S' := [_,_,_,_,_,_,_,_,_,_,_]) rfl rfl (fun hs111 => ?_) (fun hs111 => ?_)
             ·
              replace hm := iteT hm hs111
              refine wl_off rfl rfl rfl (freshS_eq rfl) ?_
              refine wl_off rfl rfl rfl (freshS_eq rfl) ?_
              refine wl_off rfl rfl rfl (freshS_eq rfl) ?_
              refine wl_pure rfl rfl rfl (freshS_eq rfl) rfl ?_
              refine wl_nil ?_
              have hE := (Option.some.inj hm).symm
              refine we_join true hE [10, 9, 7, 6, 4, 3, 0, 115] rfl (fun _ _ hφ => ask [0, 1] rfl hφ) rfl
             ·
              replace hm := iteF hm hs111
              refine wl_pure rfl rfl rfl (freshS_eq rfl) rfl ?_
              refine wl_pure rfl rfl rfl (freshS_eq rfl) rfl ?_
              refine wl_pure rfl rfl rfl (freshS_eq rfl) rfl ?_
              refine wl_pure rfl rfl rfl (freshS_eq rfl) rfl ?_
              refine wl_nil ?_
              have hE := (Option.some.inj hm).symm
              refine we_join (decide (v79_0 ≤ u1_5)) hE [10, 9, 7, 6, 4, 3, 0, 115] rfl (fun _ _ hφ => ask [0, 1] rfl hφ) rfl
            ·
             rintro j_10_115 hE
             try dsimp only
             have hm := hLj_10
             rw [hE] at hm
             refine wc_cond rfl (fun hb115 => ?_) (fun hb115 => ?_)
             ·
              replace hm := iteT hm hb115
              refine wc_keep [] (S' := []) rfl ?_
              refine wc_seq ?_
              refine wc_region ?_
              refine wl_pure rfl rfl rfl (freshS_eq rfl) rfl ?_
              refine wl_nil ?_
              refine we_then ?_
              refine wc_ret ?_
              refine we_then_ret ?_
              refine we_block_ret ?_
              refine we_then_ret ?_
              refine we_block_ret ?_
              refine we_then_ret ?_
              refine we_then_ret ?_
              refine we_block_ret ?_
              refine we_then_ret ?_
              have hE := (Option.some.inj hm).symm
              replace hE := link_inr hLj_9 hE
              replace hE := link_inr hLj_3 hE
              replace hE := link_inr hLu1 hE
              replace hE := link_inr hLj_1 hE
              replace hE := hE.symm
              subst hE
              refine ret_one (Hr := []) [] Tryd.results4 (res_tmp rfl) ⟨rfl, rfl, rfl⟩ (fun _ _ hφ => ask [] rfl hφ) rfl rfl (.inl rfl)
             ·
              replace hm := iteF hm hb115
              refine wc_keep [10, 9, 7, 6, 4, 3, 0] (S' := [_,_,_,_,_,_,_]) rfl ?_
              refine wc_skip ?_
              refine we_then ?_
              refine wc_seq ?_
              refine wc_region ?_
              refine wl_pure rfl rfl rfl (freshS_eq rfl) rfl ?_
              refine wl_pure rfl rfl rfl (freshS_eq rfl) rfl ?_
              refine wl_nil ?_
              refine we_then ?_
              refine wc_keep [5, 10, 9, 7, 6, 4, 3, 0] (S' := [_,_,_,_,_,_,_,_]) rfl ?_
              refine wc_region ?_
              refine wl_pure rfl rfl rfl (freshS_eq rfl) rfl ?_
              refine wl_pure rfl rfl rfl (freshS_eq rfl) rfl ?_
              refine wl_pure rfl rfl rfl (freshS_eq rfl) rfl ?_
              refine wl_fieldAddr rfl rfl rfl (freshS_eq rfl) rfl rfl tF_28_3 ?_
              refine wl_loadH 0 3 rfl rfl rfl (freshS_eq rfl) rfl rfl rfl (cs := [_]) rfl tS_26 tA_26 rfl rfl ?_
              obtain ⟨_, hc122, hm⟩ := bindO_some hm
              try dsimp only at hm
              refine wl_call [] [0, 1, 2, 3] rfl rfl rfl (freshS_eq rfl) rfl rfl fn_17 rfl (w_ropewalkkit_CopyValues_s N r34.1 r34.2 x34.args hc122) (fun _ _ hφ => ask [0] rfl hφ) rfl (H' := [_,_,_,_]) rfl ?_
              rintro _ _ _ ⟨p122_0, c122_1, rfl, rfl, rfl⟩
              refine wl_build rfl rfl rfl (freshS_eq rfl) rfl tZ_42 tP_42 rfl (out := [_,_,_]) rfl ?_
              refine wl_buildSlice rfl rfl rfl (freshS_eq rfl) rfl tE_35 tS_42 tZ_42 rfl (zs := [.int .i64 0, .int .i64 0, .slice none 0 0]) (by kernel_rfl) rfl (out := [_,_,_]) rfl (fun g124 => ?_)
              refine wl_ownLen 1 rfl (fun hz24 _ => ?_)
              refine wl_at 1 (v' := .agg #[.int .i64 v79_0, .int .i64 v73, .slice p122_0 x34.args.length c122_1]) rfl (by rw [hz24]) ?_
              refine wl_at 2 (v' := .slice p122_0 x34.args.length c122_1) rfl (by rw [hz24]) ?_
              refine wl_hAs 0 (φ' := .blk g124 [.int .i64 v79_0, .int .i64 v73, .slice p122_0 x34.args.length c122_1] 42) rfl (by rw [hz24]) (H' := [_,_,_,_,_,_]) rfl ?_
              refine wl_hAs 1 (φ' := .own 55 3 R_V (.slice p122_0 x34.args.length c122_1) x34.args) rfl (by rw [hz24]) (H' := [_,_,_,_,_,_]) rfl ?_
              refine wl_freeze 1 rfl (H' := [_,_,_,_,_]) rfl ?_
              refine wl_fact (.sli 3 R_V p122_0 c122_1 x34.args) (fun F w hφ => own_sli (hφ _ (mem_at (k := 0) rfl))) ?_
              obtain ⟨hg125, hm⟩ := gd_some hm
              refine wl_appendH ([(⟨v79_0, v73, x34.args⟩ : FactD)]) 2 0 rfl rfl rfl (freshS_eq rfl) rfl rfl rfl rfl rfl (fun F w hφ => ⟨[.int .i64 v79_0, .int .i64 v73, .slice p122_0 x34.args.length c122_1], [], rfl, rfl, ⟨(p122_0, c122_1), rfl, (ask_cons (hφ _ (mem_at (k := 0) rfl)) ask_nil)⟩, rfl⟩) tE_35 tR_42 rfl rfl (Nat.le_trans hg125 (by decide)) (Nat.le_trans (Nat.mul_le_mul_right _ hg125) (by decide)) (H2 := fun p125 c125 => [.blk g124 [.int .i64 v79_0, .int .i64 v73, .slice p122_0 x34.args.length c122_1] 42, .blk g7 [.int .i64 (x34.op), .int .i64 (x34.id), .int .i64 (x34.type), .slice r34.1 x34.args.length r34.2] 28, .own 42 3 R_FactD (.slice p125 ((u1_4_l ++ ([(⟨v79_0, v73, x34.args⟩ : FactD)])).length) c125) (u1_4_l ++ ([(⟨v79_0, v73, x34.args⟩ : FactD)])), .blk c21_0 [.slice p79_0 c79_2 c79_1, .int .i64 v79_3] 60, .own 42 3 R_FactD (.slice p79_0 c79_2 c79_1) v79_2]) (fun _ _ => rfl) (fun p125 c125 => ?_)
              refine wl_drop 0 rfl (H' := [_,_,_,_]) rfl ?_
              refine wl_pure (S' := [_,_,_,_,_,_,_,_,_,_,_,_,_,_,_,_]) rfl rfl rfl rfl rfl ?_
              refine wl_nil ?_
              refine we_block_normal ?_
              have hE := (Option.some.inj hm).symm
              refine we_pick [1, 2, 3] rfl (H' := [_,_,_]) rfl ?_
              refine we_join (v79_0, (u1_4_l ++ ([(⟨v79_0, v73, x34.args⟩ : FactD)])), p125, c125, ((u1_4_l ++ ([(⟨v79_0, v73, x34.args⟩ : FactD)])).length)) hE [6, 5, 4, 3, 0] rfl (fun _ _ hφ => ask [3] rfl hφ) rfl
           ·
            replace hm := iteF hm hb106
            refine wc_keep [11, 10, 6, 5, 4, 3, 0, 12] (S' := [_,_,_,_,_,_,_,_]) rfl ?_
            refine wc_seq ?_
            refine wc_region ?_
            refine wl_pure rfl rfl rfl (freshS_eq rfl) rfl ?_
            refine wl_pure rfl rfl rfl (freshS_eq rfl) rfl ?_
            refine wl_as (d := 128) (v' := .bool (v79_1 == 7)) (S' := [_,_,_,_,_,_,_,_,_]) rfl rfl (nateq (a := v79_1) (b := 7)) ?_
            refine wl_pure rfl rfl rfl (freshS_eq rfl) rfl ?_
            refine wl_nil ?_
            refine we_then ?_
            refine wc_keep [126, 11, 10, 6, 5, 4, 3, 0, 12] (S' := [_,_,_,_,_,_,_,_,_]) rfl ?_
            refine wc_cond rfl (fun hb126 => ?_) (fun hb126 => ?_)
            ·
             replace hm := iteT hm hb126
             refine wc_keep [10, 6, 5, 4, 3, 0, 12] (S' := [_,_,_,_,_,_,_]) rfl ?_
             refine wc_seq ?_
             obtain ⟨bj_11, hm, hLj_11⟩ := bindO_some hm
             refine wc_cut (σ := Bool) (fun j_11_139 => bj_11 = j_11_139) (fun j_11_139 => [(6, .int .i64 ((u1_6 : Nat) : Int)), (5, .int .i64 u1_5), (4, .slice u1_4_p u1_4_n u1_4_c), (3, .pointer (some ⟨c21_0, 0, none⟩)), (0, .slice qp0 l0.length qc1), (139, .bool j_11_139)]) (fun j_11_139 => [.sli 4 R_Ropewalklaw11_DoD qp0 qc1 l0]) (fun j_11_139 => [.own 42 3 R_FactD (.slice u1_4_p u1_4_n u1_4_c) u1_4_l, .blk c21_0 [.slice p79_0 c79_2 c79_1, .int .i64 v79_3] 60, .own 42 3 R_FactD (.slice p79_0 c79_2 c79_1) v79_2]) ?_ ?_
             ·
              refine wc_region ?_
              refine wl_pure rfl rfl rfl (freshS_eq rfl) rfl ?_
              refine wl_pure rfl rfl rfl (freshS_eq rfl) rfl ?_
              refine wl_pure rfl rfl rfl (freshS_eq rfl) rfl ?_
              refine wl_split (d := 131) (S' := [_,_,_,_,_,_,_,_,_]) rfl rfl (fun hs131 => ?_) (fun hs131 => ?_)
              ·
               replace hm := iteT hm hs131
               refine wl_off rfl rfl rfl (freshS_eq rfl) ?_
               refine wl_off rfl rfl rfl (freshS_eq rfl) ?_
               refine wl_off rfl rfl rfl (freshS_eq rfl) ?_
               refine wl_off rfl rfl rfl (freshS_eq rfl) ?_
               refine wl_off rfl rfl rfl (freshS_eq rfl) ?_
               refine wl_off rfl rfl rfl (freshS_eq rfl) ?_
               refine wl_off rfl rfl rfl (freshS_eq rfl) ?_
               refine wl_pure rfl rfl rfl (freshS_eq rfl) rfl ?_
               refine wl_nil ?_
               have hE := (Option.some.inj hm).symm
               refine we_pick [1, 2, 3] rfl (H' := [_,_,_]) rfl ?_
               refine we_join true hE [6, 5, 4, 3, 0, 139] rfl (fun _ _ hφ => ask [1] rfl hφ) rfl
              ·
               replace hm := iteF hm hs131
               refine wl_pure rfl rfl rfl (freshS_eq rfl) rfl ?_
               refine wl_pure rfl rfl rfl (freshS_eq rfl) rfl ?_
               obtain ⟨hn134, hm⟩ := gd_some hm
               obtain ⟨x134, hx134, hm⟩ := bindO_some hm
               refine wl_indexH 1 j_6_12.toNat rfl rfl rfl (freshS_eq rfl) rfl rfl rfl rfl (toNat_eq hn134) (get_lt hx134) tE_35 tS_42 (fun g134 eg134 => ?_)
               subst eg134
               refine wl_fieldAddr rfl rfl rfl (freshS_eq rfl) rfl rfl tF_42_0 ?_
               refine wl_loadRow R_FactD_opens 1 j_6_12.toNat 0 rfl rfl rfl (freshS_eq rfl) rfl rfl rfl hx134 tS_3 tA_3 (v := fun r136 => .int .i64 (x134.id)) (fun _ => rfl) (fun _ => rfl) (fun r136 _ => ?_)
               refine wl_pure rfl rfl rfl (freshS_eq rfl) rfl ?_
               refine wl_pure rfl rfl rfl (freshS_eq rfl) rfl ?_
               refine wl_pure rfl rfl rfl (freshS_eq rfl) rfl ?_
               refine wl_nil ?_
               have hE := (Option.some.inj hm).symm
               refine we_pick [1, 2, 3] rfl (H' := [_,_,_]) rfl ?_
               refine we_join (x134.id != v79_0) hE [6, 5, 4, 3, 0, 139] rfl (fun _ _ hφ => ask [2] rfl hφ) rfl
             ·
              rintro j_11_139 hE
              try dsimp only
              have hm := hLj_11
              rw [hE] at hm
              refine wc_cond rfl (fun hb139 => ?_) (fun hb139 => ?_)
              ·
               replace hm := iteT hm hb139
               refine wc_keep [] (S' := []) rfl ?_
               refine wc_seq ?_
               refine wc_region ?_
               refine wl_pure rfl rfl rfl (freshS_eq rfl) rfl ?_
               refine wl_nil ?_
               refine we_then ?_
               refine wc_ret ?_
               refine we_block_ret ?_
               refine we_then_ret ?_
               refine we_block_ret ?_
               refine we_then_ret ?_
               refine we_then_ret ?_
               refine we_block_ret ?_
               refine we_then_ret ?_
               have hE := (Option.some.inj hm).symm
               replace hE := link_inr hLj_9 hE
               replace hE := link_inr hLj_3 hE
               replace hE := link_inr hLu1 hE
               replace hE := link_inr hLj_1 hE
               replace hE := hE.symm
               subst hE
               refine ret_one (Hr := []) [] Tryd.results4 (res_tmp rfl) ⟨rfl, rfl, rfl⟩ (fun _ _ hφ => ask [] rfl hφ) rfl rfl (.inl rfl)
              ·
               replace hm := iteF hm hb139
               refine wc_keep [6, 5, 4, 3, 0] (S' := [_,_,_,_,_]) rfl ?_
               refine wc_skip ?_
               refine we_block_normal ?_
               have hE := (Option.some.inj hm).symm
               refine we_join (u1_5, u1_4_l, u1_4_p, u1_4_c, u1_4_n) hE [6, 5, 4, 3, 0] rfl (fun _ _ hφ => ask [0] rfl hφ) rfl
            ·
             replace hm := iteF hm hb126
             refine wc_keep [11, 6, 5, 4, 3, 0, 12] (S' := [_,_,_,_,_,_,_]) rfl ?_
             refine wc_seq ?_
             obtain ⟨bj_12, hm, hLj_12⟩ := bindO_some hm
             refine wc_cut (σ := Bool) (fun j_12_140 => bj_12 = j_12_140) (fun j_12_140 => [(6, .int .i64 ((u1_6 : Nat) : Int)), (5, .int .i64 u1_5), (4, .slice u1_4_p u1_4_n u1_4_c), (3, .pointer (some ⟨c21_0, 0, none⟩)), (0, .slice qp0 l0.length qc1), (140, .bool j_12_140)]) (fun j_12_140 => [.sli 4 R_Ropewalklaw11_DoD qp0 qc1 l0]) (fun j_12_140 => [.own 42 3 R_FactD (.slice u1_4_p u1_4_n u1_4_c) u1_4_l, .blk c21_0 [.slice p79_0 c79_2 c79_1, .int .i64 v79_3] 60, .own 42 3 R_FactD (.slice p79_0 c79_2 c79_1) v79_2]) ?_ ?_
             ·
              refine wc_region ?_
              refine wl_pure rfl rfl rfl (freshS_eq rfl) rfl ?_
              refine wl_pure rfl rfl rfl (freshS_eq rfl) rfl ?_
              refine wl_as (d := 142) (v' := .bool (v79_1 != 2)) (S' := [_,_,_,_,_,_,_,_]) rfl rfl (natne (a := v79_1) (b := 2)) ?_
              refine wl_pure rfl rfl rfl (freshS_eq rfl) rfl ?_
              refine wl_split (d := 143) (S' := [_,_,_,_,_,_,_,_,_]) rfl rfl (fun hs143 => ?_) (fun hs143 => ?_)
              ·
               replace hm := iteT hm hs143
               refine wl_off rfl rfl rfl (freshS_eq rfl) ?_
               refine wl_off rfl rfl rfl (freshS_eq rfl) ?_
               refine wl_pure rfl rfl rfl (freshS_eq rfl) rfl ?_
               refine wl_pure rfl rfl rfl (freshS_eq rfl) rfl ?_
               refine wl_nil ?_
               have hE := (Option.some.inj hm).symm
               refine we_pick [1, 2, 3] rfl (H' := [_,_,_]) rfl ?_
               refine we_join true hE [6, 5, 4, 3, 0, 140] rfl (fun _ _ hφ => ask [1] rfl hφ) rfl
              ·
               replace hm := iteF hm hs143
               refine wl_pure rfl rfl rfl (freshS_eq rfl) rfl ?_
               refine wl_pure rfl rfl rfl (freshS_eq rfl) rfl ?_
               refine wl_pure rfl rfl rfl (freshS_eq rfl) rfl ?_
               refine wl_pure rfl rfl rfl (freshS_eq rfl) rfl ?_
               refine wl_nil ?_
               have hE := (Option.some.inj hm).symm
               refine we_pick [1, 2, 3] rfl (H' := [_,_,_]) rfl ?_
               refine we_join (decide (j_6_12 ≥ 0)) hE [6, 5, 4, 3, 0, 140] rfl (fun _ _ hφ => ask [1] rfl hφ) rfl
             ·
              rintro j_12_140 hE
              try dsimp only
              have hm := hLj_12
              rw [hE] at hm
              refine wc_cond rfl (fun hb140 => ?_) (fun hb140 => ?_)
              ·
               replace hm := iteT hm hb140
               refine wc_keep [] (S' := []) rfl ?_
               refine wc_seq ?_
               refine wc_region ?_
               refine wl_pure rfl rfl rfl (freshS_eq rfl) rfl ?_
               refine wl_nil ?_
               refine we_then ?_
               refine wc_ret ?_
               refine we_block_ret ?_
               refine we_then_ret ?_
               refine we_block_ret ?_
               refine we_then_ret ?_
               refine we_then_ret ?_
               refine we_block_ret ?_
               refine we_then_ret ?_
               have hE := (Option.some.inj hm).symm
               replace hE := link_inr hLj_9 hE
               replace hE := link_inr hLj_3 hE
               replace hE := link_inr hLu1 hE
               replace hE := link_inr hLj_1 hE
               replace hE := hE.symm
               subst hE
               refine ret_one (Hr := []) [] Tryd.results4 (res_tmp rfl) ⟨rfl, rfl, rfl⟩ (fun _ _ hφ => ask [] rfl hφ) rfl rfl (.inl rfl)
              ·
               replace hm := iteF hm hb140
               refine wc_keep [6, 5, 4, 3, 0] (S' := [_,_,_,_,_]) rfl ?_
               refine wc_skip ?_
               refine we_block_normal ?_
               have hE := (Option.some.inj hm).symm
               refine we_join (u1_5, u1_4_l, u1_4_p, u1_4_c, u1_4_n) hE [6, 5, 4, 3, 0] rfl (fun _ _ hφ => ask [0] rfl hφ) rfl
          ·
           rintro ⟨j_9_5, j_9_4_l, j_9_4_p, j_9_4_c, j_9_4_n⟩ hE
           try dsimp only
           have hm := link_inl hLj_9 hE
           try dsimp only at hm
           refine wc_seq ?_
           refine wc_region ?_
           refine wl_pure rfl rfl rfl (freshS_eq rfl) rfl ?_
           refine wl_nil ?_
           refine we_then ?_
           refine wc_block ?_
           refine wc_loop (σ := Nat × Nat) (fun (nu3, u3_14) => iter (m_ropewalklaw11_MemoryKeeps_L3 N j_9_4_l v79_2 v79_3 j_9_5) nu3 u3_14 = some bj_3) (fun (nu3, u3_14) => nu3) (fun (nu3, u3_14) => [(14, .int .i64 ((u3_14 : Nat) : Int)), (6, .int .i64 ((u1_6 : Nat) : Int)), (5, .int .i64 j_9_5), (4, .slice j_9_4_p j_9_4_n j_9_4_c), (3, .pointer (some ⟨c21_0, 0, none⟩)), (0, .slice qp0 l0.length qc1)]) (fun (nu3, u3_14) => [.sli 4 R_Ropewalklaw11_DoD qp0 qc1 l0]) (fun (nu3, u3_14) => [.own 42 3 R_FactD (.slice j_9_4_p j_9_4_n j_9_4_c) j_9_4_l, .blk c21_0 [.slice p79_0 c79_2 c79_1, .int .i64 v79_3] 60, .own 42 3 R_FactD (.slice p79_0 c79_2 c79_1) v79_2]) (N, 0) hm [14, 6, 5, 4, 3, 0] rfl (fun _ _ hφ => ask [0] rfl hφ) rfl (fun s_ hm => ?_)
           obtain ⟨nu3, u3_14⟩ := s_
           try dsimp only at hm ⊢
           obtain ⟨mu3, bu3, hnu3, hq, hLu3⟩ := iter_some hm
           clear hm
           subst hnu3
           replace hm := hq
           clear hq
           unfold m_ropewalklaw11_MemoryKeeps_L3 at hm
           try dsimp only at hm
           refine wc_seq ?_
           refine wc_seq ?_
           refine wc_region ?_
           refine wl_pure rfl rfl rfl (freshS_eq rfl) rfl ?_
           refine wl_pure rfl rfl rfl (freshS_eq rfl) rfl ?_
           refine wl_ownLen 0 rfl (fun hl149 _ => ?_)
           refine wl_len rfl rfl rfl (freshS_eq rfl) rfl rfl tE_35 ?_
           refine wl_as (d := 149) (v' := .int .i64 ((j_9_4_l.length : Nat) : Int)) (S' := [_,_,_,_,_,_,_,_]) rfl rfl (len_is hl149) ?_
           refine wl_pure rfl rfl rfl (freshS_eq rfl) rfl ?_
           refine wl_as (d := 150) (v' := .bool (decide (u3_14 < j_9_4_l.length))) (S' := [_,_,_,_,_,_,_,_,_]) rfl rfl (natlt (a := u3_14) (b := j_9_4_l.length)) ?_
           refine wl_nil ?_
           refine we_then ?_
           refine wc_keep [150, 14, 6, 5, 4, 3, 0] (S' := [_,_,_,_,_,_,_]) rfl ?_
           refine wc_cond rfl (fun hb150 => ?_) (fun hb150 => ?_)
           ·
            replace hm := iteT hm hb150
            refine wc_keep [14, 6, 5, 4, 3, 0] (S' := [_,_,_,_,_,_]) rfl ?_
            refine wc_skip ?_
            refine we_then ?_
            refine wc_seq ?_
            refine wc_block ?_
            refine wc_seq ?_
            refine wc_region ?_
            refine wl_pure rfl rfl rfl (freshS_eq rfl) rfl ?_
            refine wl_pure rfl rfl rfl (freshS_eq rfl) rfl ?_
            refine wl_pure rfl rfl rfl (freshS_eq rfl) rfl ?_
            obtain ⟨x157, hx157, hm⟩ := bindO_some hm
            refine wl_indexH 0 u3_14 rfl rfl rfl (freshS_eq rfl) rfl rfl rfl rfl rfl (get_lt hx157) tE_35 tS_42 (fun g157 eg157 => ?_)
            subst eg157
            refine wl_fieldAddr rfl rfl rfl (freshS_eq rfl) rfl rfl tF_42_0 ?_
            refine wl_loadRow R_FactD_opens 0 u3_14 0 rfl rfl rfl (freshS_eq rfl) rfl rfl rfl hx157 tS_3 tA_3 (v := fun r159 => .int .i64 (x157.id)) (fun _ => rfl) (fun _ => rfl) (fun r159 _ => ?_)
            obtain ⟨⟨v160_0, v160_1, v160_2, v160_3⟩, hc160, hm⟩ := bindO_some hm
            try dsimp only at hm
            refine wl_call [1, 2] [0] rfl rfl rfl (freshS_eq rfl) rfl rfl fn_18 rfl (w_memory_Memory_Get_s N c21_0 p79_0 c79_2 c79_1 v79_2 v79_3 x157.id _ _ _ _ hc160) (fun _ _ hφ => ask [] rfl hφ) rfl (H' := [_]) rfl ?_
            rintro _ _ _ ⟨p160_0, c160_1, c160_2, rfl, rfl, rfl⟩
            refine wl_pure rfl rfl rfl (freshS_eq rfl) rfl ?_
            refine wl_pure rfl rfl rfl (freshS_eq rfl) rfl ?_
            refine wl_pure rfl rfl rfl (freshS_eq rfl) rfl ?_
            refine wl_alloc rfl rfl rfl (freshS_eq rfl) rfl tZ_42 rfl (fun g15 => ?_)
            refine wl_store 0 0 rfl rfl rfl rfl rfl rfl rfl tS_42 rfl rfl rfl (all' := [_,_,_]) rfl (H' := [_,_,_,_,_]) rfl ?_
            refine wl_pure rfl rfl rfl (freshS_eq rfl) rfl ?_
            refine wl_nil ?_
            refine we_then ?_
            refine wc_keep [16, 15, 14, 6, 5, 4, 3, 0] (S' := [_,_,_,_,_,_,_,_]) rfl ?_
            refine wc_seq ?_
            obtain ⟨x167, hx167, hm⟩ := bindO_some hm
            obtain ⟨x172, hx172, hm⟩ := bindO_some hm
            obtain ⟨⟨v175_0, v175_1⟩, hc175, hm⟩ := bindO_some hm
            try dsimp only at hm
            refine wc_cut (σ := Unit) (fun _ => True) (fun _ => [(18, .bool v175_1), (17, .int .i64 v175_0), (16, .bool v160_3), (15, .pointer (some ⟨g15, 0, none⟩)), (14, .int .i64 ((u3_14 : Nat) : Int)), (6, .int .i64 ((u1_6 : Nat) : Int)), (5, .int .i64 j_9_5), (4, .slice (some ⟨g157, 0, none⟩) j_9_4_n j_9_4_c), (3, .pointer (some ⟨c21_0, 0, none⟩)), (0, .slice qp0 l0.length qc1)]) (fun _ => [.sli 4 R_Ropewalklaw11_DoD qp0 qc1 l0]) (fun _ => [.blk g15 [.int .i64 v160_0, .int .i64 v160_1, .slice p160_0 c160_2 c160_1] 42, .own 55 3 R_V (.slice p160_0 c160_2 c160_1) v160_2, .own 42 3 R_FactD (.slice (some ⟨g157, 0, none⟩) j_9_4_n j_9_4_c) j_9_4_l, .blk c21_0 [.slice p79_0 c79_2 c79_1, .int .i64 v79_3] 60, .own 42 3 R_FactD (.slice p79_0 c79_2 c79_1) v79_2]) ?_ ?_
            ·
             refine wc_draw [0, 1, 2, 3, 4, 6, 7, 8, 9, 12, 13, 14] rfl rfl (fun hok => ?_)
             refine wx_pure hok 0 rfl rfl rfl (freshS_eq rfl) rfl rfl ?_
             refine wx_pure hok 1 rfl rfl rfl (freshS_eq rfl) rfl rfl ?_
             refine wx_pure hok 2 rfl rfl rfl (freshS_eq rfl) rfl rfl ?_
             refine wx_indexK hok 3 4 u3_14 rfl rfl rfl (freshS_eq rfl) rfl rfl rfl rfl rfl rfl (get_lt hx167) tE_35 tS_42 ?_
             refine wx_fieldAddr hok 4 rfl rfl rfl (freshS_eq rfl) rfl rfl rfl tF_42_1 ?_
             refine wx_pure hok 6 rfl rfl rfl (freshS_eq rfl) rfl rfl ?_
             refine wx_pure hok 7 rfl rfl rfl (freshS_eq rfl) rfl rfl ?_
             refine wx_indexK hok 8 4 u3_14 rfl rfl rfl (freshS_eq rfl) rfl rfl rfl rfl rfl rfl (get_lt hx172) tE_35 tS_42 ?_
             refine wx_fieldAddr hok 9 rfl rfl rfl (freshS_eq rfl) rfl rfl rfl tF_42_2 ?_
             refine wx_step2 hok 5 10 rfl rfl rfl rfl rfl rfl ?_ ?_
             ·
              refine wl_loadRow R_FactD_opens 4 u3_14 1 rfl rfl rfl (freshS_eq rfl) rfl rfl rfl hx167 tS_3 tA_3 (v := fun r169 => .int .i64 (x167.ty)) (fun _ => rfl) (fun _ => rfl) (fun r169 _ => ?_)
              refine wl_nil ?_
              refine we_x [1, 2] [] rfl rfl ?_
              refine wx_step1 hok 10 rfl rfl rfl rfl ?_
              refine wl_loadRow R_FactD_opens 4 u3_14 2 rfl rfl rfl (freshS_eq rfl) rfl rfl rfl hx172 tS_26 tA_26 (v := fun r174 => .slice r174.1 x172.args.length r174.2) (fun _ => rfl) (fun _ => rfl) (fun r174 _ => ?_)
              refine wl_nil ?_
              refine we_x [1, 2, 3] [] rfl rfl ?_
              refine wx_step1 hok 11 rfl rfl rfl rfl ?_
              refine wl_call [2, 3] [0, 1, 4] rfl rfl rfl (freshS_eq rfl) rfl rfl fn_19 rfl (w_memory_Memory_Find_s N c21_0 p79_0 c79_2 c79_1 v79_2 v79_3 x167.ty r174.1 r174.2 x172.args _ _ hc175) (fun _ _ hφ => ask [0] rfl hφ) rfl (H' := [_,_,_]) rfl ?_
              rintro _ _ _ ⟨rfl, rfl, rfl⟩
              refine wl_nil ?_
              refine we_x [0, 1, 2, 3] [] rfl rfl ?_
              refine wx_pure hok 12 rfl rfl rfl (freshS_eq rfl) rfl rfl ?_
              refine wx_pure hok 13 rfl rfl rfl (freshS_eq rfl) rfl rfl ?_
              refine wx_pure hok 14 rfl rfl rfl (freshS_eq rfl) rfl rfl ?_
              refine wx_step1 hok 15 rfl rfl rfl rfl ?_
              refine wl_pure rfl rfl rfl (freshS_eq rfl) rfl ?_
              refine wl_nil ?_
              refine we_x [0, 1, 2, 3] [] rfl rfl ?_
              refine wx_step1 hok 16 rfl rfl rfl rfl ?_
              refine wl_pure rfl rfl rfl (freshS_eq rfl) rfl ?_
              refine wl_nil ?_
              refine we_x [0, 1, 2, 3] [] rfl rfl ?_
              refine wx_done hok rfl ?_
              refine we_pick [2, 3, 4, 0, 1] rfl (H' := [_,_,_,_,_]) rfl ?_
              refine we_join () trivial [18, 17, 16, 15, 14, 6, 5, 4, 3, 0] rfl (fun _ _ hφ => ask [3] rfl hφ) rfl
             ·
              refine wl_loadRow R_FactD_opens 4 u3_14 2 rfl rfl rfl (freshS_eq rfl) rfl rfl rfl hx172 tS_26 tA_26 (v := fun r174 => .slice r174.1 x172.args.length r174.2) (fun _ => rfl) (fun _ => rfl) (fun r174 _ => ?_)
              refine wl_nil ?_
              refine we_x [1, 2] [] rfl rfl ?_
              refine wx_step1 hok 5 rfl rfl rfl rfl ?_
              refine wl_loadRow R_FactD_opens 4 u3_14 1 rfl rfl rfl (freshS_eq rfl) rfl rfl rfl hx167 tS_3 tA_3 (v := fun r169 => .int .i64 (x167.ty)) (fun _ => rfl) (fun _ => rfl) (fun r169 _ => ?_)
              refine wl_nil ?_
              refine we_x [1, 2, 3] [] rfl rfl ?_
              refine wx_step1 hok 11 rfl rfl rfl rfl ?_
              refine wl_call [2, 3] [0, 1, 4] rfl rfl rfl (freshS_eq rfl) rfl rfl fn_19 rfl (w_memory_Memory_Find_s N c21_0 p79_0 c79_2 c79_1 v79_2 v79_3 x167.ty r174.1 r174.2 x172.args _ _ hc175) (fun _ _ hφ => ask [1] rfl hφ) rfl (H' := [_,_,_]) rfl ?_
              rintro _ _ _ ⟨rfl, rfl, rfl⟩
              refine wl_nil ?_
              refine we_x [0, 1, 2, 3] [] rfl rfl ?_
              refine wx_pure hok 12 rfl rfl rfl (freshS_eq rfl) rfl rfl ?_
              refine wx_pure hok 13 rfl rfl rfl (freshS_eq rfl) rfl rfl ?_
              refine wx_pure hok 14 rfl rfl rfl (freshS_eq rfl) rfl rfl ?_
              refine wx_step1 hok 15 rfl rfl rfl rfl ?_
              refine wl_pure rfl rfl rfl (freshS_eq rfl) rfl ?_
              refine wl_nil ?_
              refine we_x [0, 1, 2, 3] [] rfl rfl ?_
              refine wx_step1 hok 16 rfl rfl rfl rfl ?_
              refine wl_pure rfl rfl rfl (freshS_eq rfl) rfl ?_
              refine wl_nil ?_
              refine we_x [0, 1, 2, 3] [] rfl rfl ?_
              refine wx_done hok rfl ?_
              refine we_pick [2, 3, 4, 0, 1] rfl (H' := [_,_,_,_,_]) rfl ?_
              refine we_join () trivial [18, 17, 16, 15, 14, 6, 5, 4, 3, 0] rfl (fun _ _ hφ => ask [3] rfl hφ) rfl
            ·
             rintro _ _
             try dsimp only
             refine wc_seq ?_
             obtain ⟨bj_14, hm, hLj_14⟩ := bindO_some hm
             unfold m_ropewalklaw11_MemoryKeeps_C14 at hm
             refine wc_cut (σ := Bool) (fun j_14_201 => bj_14 = j_14_201) (fun j_14_201 => [(14, .int .i64 ((u3_14 : Nat) : Int)), (6, .int .i64 ((u1_6 : Nat) : Int)), (5, .int .i64 j_9_5), (4, .slice (some ⟨g157, 0, none⟩) j_9_4_n j_9_4_c), (3, .pointer (some ⟨c21_0, 0, none⟩)), (0, .slice qp0 l0.length qc1), (201, .bool j_14_201)]) (fun j_14_201 => [.sli 4 R_Ropewalklaw11_DoD qp0 qc1 l0]) (fun j_14_201 => [.own 42 3 R_FactD (.slice (some ⟨g157, 0, none⟩) j_9_4_n j_9_4_c) j_9_4_l, .blk c21_0 [.slice p79_0 c79_2 c79_1, .int .i64 v79_3] 60, .own 42 3 R_FactD (.slice p79_0 c79_2 c79_1) v79_2]) ?_ ?_
             ·
              rcases ite_some hm with ⟨hs180, hm⟩ | ⟨hs180, hm⟩
              ·
               refine wc_draw [0, 1, 2, 3, 4, 5, 6, 9, 10, 11, 12, 13, 14, 15, 16, 17, 18, 19, 20, 22, 23] rfl rfl (fun hok => ?_)
               refine wx_pure hok 0 rfl rfl rfl (freshS_eq rfl) rfl rfl ?_
               refine wx_pure hok 1 rfl rfl rfl (freshS_eq rfl) rfl rfl ?_
               refine wx_pure hok 2 rfl rfl rfl (freshS_eq rfl) rfl rfl ?_
               refine wx_as (d := 180) (v' := .bool true) (S' := [_,_,_,_,_,_,_,_,_,_,_,_]) rfl rfl (bool_is hs180) ?_
               refine wx_off hok 3 rfl rfl rfl (freshS_eq rfl) rfl ?_
               refine wx_off hok 4 rfl rfl rfl (freshS_eq rfl) rfl ?_
               refine wx_off hok 5 rfl rfl rfl (freshS_eq rfl) rfl ?_
               refine wx_off hok 6 rfl rfl rfl (freshS_eq rfl) rfl ?_
               refine wx_step1 hok 7 rfl rfl rfl rfl ?_
               refine wl_off rfl rfl rfl (freshS_eq rfl) ?_
               refine wl_nil ?_
               refine we_x [0] [] rfl rfl ?_
               refine wx_step1 hok 8 rfl rfl rfl rfl ?_
               refine wl_off rfl rfl rfl (freshS_eq rfl) ?_
               refine wl_nil ?_
               refine we_x [0] [] rfl rfl ?_
               refine wx_off hok 9 rfl rfl rfl (freshS_eq rfl) rfl ?_
               refine wx_pure hok 10 rfl rfl rfl (freshS_eq rfl) rfl rfl ?_
               refine wx_pure hok 11 rfl rfl rfl (freshS_eq rfl) rfl rfl ?_
               refine wx_off hok 12 rfl rfl rfl (freshS_eq rfl) rfl ?_
               refine wx_off hok 13 rfl rfl rfl (freshS_eq rfl) rfl ?_
               refine wx_pure hok 14 rfl rfl rfl (freshS_eq rfl) rfl rfl ?_
               refine wx_pure hok 15 rfl rfl rfl (freshS_eq rfl) rfl rfl ?_
               refine wx_off hok 16 rfl rfl rfl (freshS_eq rfl) rfl ?_
               refine wx_off hok 17 rfl rfl rfl (freshS_eq rfl) rfl ?_
               refine wx_off hok 18 rfl rfl rfl (freshS_eq rfl) rfl ?_
               refine wx_off hok 19 rfl rfl rfl (freshS_eq rfl) rfl ?_
               refine wx_off hok 20 rfl rfl rfl (freshS_eq rfl) rfl ?_
               refine wx_step1 hok 21 rfl rfl rfl rfl ?_
               refine wl_off rfl rfl rfl (freshS_eq rfl) ?_
               refine wl_nil ?_
               refine we_x [0] [] rfl rfl ?_
               refine wx_off hok 22 rfl rfl rfl (freshS_eq rfl) rfl ?_
               refine wx_pure hok 23 rfl rfl rfl (freshS_eq rfl) rfl rfl ?_
               refine wx_done hok rfl ?_
               have hE := (Option.some.inj hm).symm
               refine we_pick [2, 3, 4] rfl (H' := [_,_,_]) rfl ?_
               refine we_join true hE [14, 6, 5, 4, 3, 0, 201] rfl (fun _ _ hφ => ask [0] rfl hφ) rfl
              ·
               obtain ⟨x184, hx184, hm⟩ := bindO_some hm
               obtain ⟨v186, hc186, hm⟩ := bindO_some hm
               rcases ite_some hm with ⟨hs189, hm⟩ | ⟨hs189, hm⟩
               ·
                refine wc_draw [0, 1, 2, 3, 4, 5, 6, 9, 10, 11, 12, 13, 14, 15, 16, 17, 18, 19, 20, 22, 23] rfl rfl (fun hok => ?_)
                refine wx_pure hok 0 rfl rfl rfl (freshS_eq rfl) rfl rfl ?_
                refine wx_pure hok 1 rfl rfl rfl (freshS_eq rfl) rfl rfl ?_
                refine wx_pure hok 2 rfl rfl rfl (freshS_eq rfl) rfl rfl ?_
                refine wx_as (d := 180) (v' := .bool false) (S' := [_,_,_,_,_,_,_,_,_,_,_,_]) rfl rfl (bool_is hs180) ?_
                refine wx_loadH hok 3 0 0 rfl rfl rfl (freshS_eq rfl) rfl rfl rfl rfl (cs := [_,_,_]) rfl tS_42 tA_42 rfl rfl ?_
                refine wx_pure hok 4 rfl rfl rfl (freshS_eq rfl) rfl rfl ?_
                refine wx_pure hok 5 rfl rfl rfl (freshS_eq rfl) rfl rfl ?_
                refine wx_indexK hok 6 2 u3_14 rfl rfl rfl (freshS_eq rfl) rfl rfl rfl rfl rfl rfl (get_lt hx184) tE_35 tS_42 ?_
                refine wx_step1 hok 7 rfl rfl rfl rfl ?_
                refine wl_loadRow R_FactD_opens 2 u3_14 0 rfl rfl rfl (freshS_eq rfl) rfl rfl rfl hx184 tS_42 tA_42 (v := fun r185 => .agg #[.int .i64 (x184.id), .int .i64 (x184.ty), .slice r185.1 x184.args.length r185.2]) (fun _ => rfl) (fun _ => rfl) (fun r185 _ => ?_)
                refine wl_nil ?_
                refine we_x [1] [0] rfl rfl ?_
                refine wx_step1 hok 8 rfl rfl rfl rfl ?_
                refine wl_call [1] [0, 2, 3, 4] rfl rfl rfl (freshS_eq rfl) rfl rfl fn_20 rfl (w_ropewalkkit_SameFact_v2_s N v160_0 v160_1 p160_0 c160_2 c160_1 v160_2 x184.id x184.ty r185.1 r185.2 x184.args _ hc186) (fun _ _ hφ => ask [0] rfl hφ) rfl (H' := [_,_,_,_]) rfl ?_
                rintro _ _ _ ⟨rfl, rfl, rfl⟩
                refine wl_nil ?_
                refine we_x [0, 1] [] rfl rfl ?_
                refine wx_pure hok 9 rfl rfl rfl (freshS_eq rfl) rfl rfl ?_
                refine wx_pure hok 10 rfl rfl rfl (freshS_eq rfl) rfl rfl ?_
                refine wx_pure hok 11 rfl rfl rfl (freshS_eq rfl) rfl rfl ?_
                refine wx_as (d := 189) (v' := .bool true) (S' := [_,_,_,_,_,_,_,_,_,_,_,_,_,_,_,_,_,_,_,_,_]) rfl rfl (bool_is hs189) ?_
                refine wx_off hok 12 rfl rfl rfl (freshS_eq rfl) rfl ?_
                refine wx_off hok 13 rfl rfl rfl (freshS_eq rfl) rfl ?_
                refine wx_pure hok 14 rfl rfl rfl (freshS_eq rfl) rfl rfl ?_
                refine wx_pure hok 15 rfl rfl rfl (freshS_eq rfl) rfl rfl ?_
                refine wx_off hok 16 rfl rfl rfl (freshS_eq rfl) rfl ?_
                refine wx_off hok 17 rfl rfl rfl (freshS_eq rfl) rfl ?_
                refine wx_off hok 18 rfl rfl rfl (freshS_eq rfl) rfl ?_
                refine wx_off hok 19 rfl rfl rfl (freshS_eq rfl) rfl ?_
                refine wx_off hok 20 rfl rfl rfl (freshS_eq rfl) rfl ?_
                refine wx_step1 hok 21 rfl rfl rfl rfl ?_
                refine wl_off rfl rfl rfl (freshS_eq rfl) ?_
                refine wl_nil ?_
                refine we_x [0, 1] [1] rfl rfl ?_
                refine wx_off hok 22 rfl rfl rfl (freshS_eq rfl) rfl ?_
                refine wx_pure hok 23 rfl rfl rfl (freshS_eq rfl) rfl rfl ?_
                refine wx_done hok rfl ?_
                have hE := (Option.some.inj hm).symm
                refine we_pick [2, 3, 4] rfl (H' := [_,_,_]) rfl ?_
                refine we_join true hE [14, 6, 5, 4, 3, 0, 201] rfl (fun _ _ hφ => ask [1] rfl hφ) rfl
               ·
                rcases ite_some hm with ⟨hs193, hm⟩ | ⟨hs193, hm⟩
                ·
                 refine wc_draw [0, 1, 2, 3, 4, 5, 6, 9, 10, 11, 12, 13, 14, 15, 16, 17, 18, 19, 20, 22, 23] rfl rfl (fun hok => ?_)
                 refine wx_pure hok 0 rfl rfl rfl (freshS_eq rfl) rfl rfl ?_
                 refine wx_pure hok 1 rfl rfl rfl (freshS_eq rfl) rfl rfl ?_
                 refine wx_pure hok 2 rfl rfl rfl (freshS_eq rfl) rfl rfl ?_
                 refine wx_as (d := 180) (v' := .bool false) (S' := [_,_,_,_,_,_,_,_,_,_,_,_]) rfl rfl (bool_is hs180) ?_
                 refine wx_loadH hok 3 0 0 rfl rfl rfl (freshS_eq rfl) rfl rfl rfl rfl (cs := [_,_,_]) rfl tS_42 tA_42 rfl rfl ?_
                 refine wx_pure hok 4 rfl rfl rfl (freshS_eq rfl) rfl rfl ?_
                 refine wx_pure hok 5 rfl rfl rfl (freshS_eq rfl) rfl rfl ?_
                 refine wx_indexK hok 6 2 u3_14 rfl rfl rfl (freshS_eq rfl) rfl rfl rfl rfl rfl rfl (get_lt hx184) tE_35 tS_42 ?_
                 refine wx_step1 hok 7 rfl rfl rfl rfl ?_
                 refine wl_loadRow R_FactD_opens 2 u3_14 0 rfl rfl rfl (freshS_eq rfl) rfl rfl rfl hx184 tS_42 tA_42 (v := fun r185 => .agg #[.int .i64 (x184.id), .int .i64 (x184.ty), .slice r185.1 x184.args.length r185.2]) (fun _ => rfl) (fun _ => rfl) (fun r185 _ => ?_)
                 refine wl_nil ?_
                 refine we_x [1] [0] rfl rfl ?_
                 refine wx_step1 hok 8 rfl rfl rfl rfl ?_
                 refine wl_call [1] [0, 2, 3, 4] rfl rfl rfl (freshS_eq rfl) rfl rfl fn_20 rfl (w_ropewalkkit_SameFact_v2_s N v160_0 v160_1 p160_0 c160_2 c160_1 v160_2 x184.id x184.ty r185.1 r185.2 x184.args _ hc186) (fun _ _ hφ => ask [0] rfl hφ) rfl (H' := [_,_,_,_]) rfl ?_
                 rintro _ _ _ ⟨rfl, rfl, rfl⟩
                 refine wl_nil ?_
                 refine we_x [0, 1] [] rfl rfl ?_
                 refine wx_pure hok 9 rfl rfl rfl (freshS_eq rfl) rfl rfl ?_
                 refine wx_pure hok 10 rfl rfl rfl (freshS_eq rfl) rfl rfl ?_
                 refine wx_pure hok 11 rfl rfl rfl (freshS_eq rfl) rfl rfl ?_
                 refine wx_as (d := 189) (v' := .bool false) (S' := [_,_,_,_,_,_,_,_,_,_,_,_,_,_,_,_,_,_,_,_,_]) rfl rfl (bool_is hs189) ?_
                 refine wx_pure hok 12 rfl rfl rfl (freshS_eq rfl) rfl rfl ?_
                 refine wx_pure hok 13 rfl rfl rfl (freshS_eq rfl) rfl rfl ?_
                 refine wx_pure hok 14 rfl rfl rfl (freshS_eq rfl) rfl rfl ?_
                 refine wx_pure hok 15 rfl rfl rfl (freshS_eq rfl) rfl rfl ?_
                 refine wx_as (d := 193) (v' := .bool true) (S' := [_,_,_,_,_,_,_,_,_,_,_,_,_,_,_,_,_,_,_,_,_,_,_,_,_]) rfl rfl (bool_is hs193) ?_
                 refine wx_off hok 16 rfl rfl rfl (freshS_eq rfl) rfl ?_
                 refine wx_off hok 17 rfl rfl rfl (freshS_eq rfl) rfl ?_
                 refine wx_off hok 18 rfl rfl rfl (freshS_eq rfl) rfl ?_
                 refine wx_off hok 19 rfl rfl rfl (freshS_eq rfl) rfl ?_
                 refine wx_off hok 20 rfl rfl rfl (freshS_eq rfl) rfl ?_
                 refine wx_step1 hok 21 rfl rfl rfl rfl ?_
                 refine wl_off rfl rfl rfl (freshS_eq rfl) ?_
                 refine wl_nil ?_
                 refine we_x [0, 1] [1] rfl rfl ?_
                 refine wx_off hok 22 rfl rfl rfl (freshS_eq rfl) rfl ?_
                 refine wx_pure hok 23 rfl rfl rfl (freshS_eq rfl) rfl rfl ?_
                 refine wx_done hok rfl ?_
                 have hE := (Option.some.inj hm).symm
                 refine we_pick [2, 3, 4] rfl (H' := [_,_,_]) rfl ?_
                 refine we_join true hE [14, 6, 5, 4, 3, 0, 201] rfl (fun _ _ hφ => ask [1] rfl hφ) rfl
                ·
                 obtain ⟨x197, hx197, hm⟩ := bindO_some hm
                 refine wc_draw [0, 1, 2, 3, 4, 5, 6, 9, 10, 11, 12, 13, 14, 15, 16, 17, 18, 19, 20, 22, 23] rfl rfl (fun hok => ?_)
                 refine wx_pure hok 0 rfl rfl rfl (freshS_eq rfl) rfl rfl ?_
                 refine wx_pure hok 1 rfl rfl rfl (freshS_eq rfl) rfl rfl ?_
                 refine wx_pure hok 2 rfl rfl rfl (freshS_eq rfl) rfl rfl ?_
                 refine wx_as (d := 180) (v' := .bool false) (S' := [_,_,_,_,_,_,_,_,_,_,_,_]) rfl rfl (bool_is hs180) ?_
                 refine wx_loadH hok 3 0 0 rfl rfl rfl (freshS_eq rfl) rfl rfl rfl rfl (cs := [_,_,_]) rfl tS_42 tA_42 rfl rfl ?_
                 refine wx_pure hok 4 rfl rfl rfl (freshS_eq rfl) rfl rfl ?_
                 refine wx_pure hok 5 rfl rfl rfl (freshS_eq rfl) rfl rfl ?_
                 refine wx_indexK hok 6 2 u3_14 rfl rfl rfl (freshS_eq rfl) rfl rfl rfl rfl rfl rfl (get_lt hx184) tE_35 tS_42 ?_
                 refine wx_step1 hok 7 rfl rfl rfl rfl ?_
                 refine wl_loadRow R_FactD_opens 2 u3_14 0 rfl rfl rfl (freshS_eq rfl) rfl rfl rfl hx184 tS_42 tA_42 (v := fun r185 => .agg #[.int .i64 (x184.id), .int .i64 (x184.ty), .slice r185.1 x184.args.length r185.2]) (fun _ => rfl) (fun _ => rfl) (fun r185 _ => ?_)
                 refine wl_nil ?_
                 refine we_x [1] [0] rfl rfl ?_
                 refine wx_step1 hok 8 rfl rfl rfl rfl ?_
                 refine wl_call [1] [0, 2, 3, 4] rfl rfl rfl (freshS_eq rfl) rfl rfl fn_20 rfl (w_ropewalkkit_SameFact_v2_s N v160_0 v160_1 p160_0 c160_2 c160_1 v160_2 x184.id x184.ty r185.1 r185.2 x184.args _ hc186) (fun _ _ hφ => ask [0] rfl hφ) rfl (H' := [_,_,_,_]) rfl ?_
                 rintro _ _ _ ⟨rfl, rfl, rfl⟩
                 refine wl_nil ?_
                 refine we_x [0, 1] [] rfl rfl ?_
                 refine wx_pure hok 9 rfl rfl rfl (freshS_eq rfl) rfl rfl ?_
                 refine wx_pure hok 10 rfl rfl rfl (freshS_eq rfl) rfl rfl ?_
                 refine wx_pure hok 11 rfl rfl rfl (freshS_eq rfl) rfl rfl ?_
                 refine wx_as (d := 189) (v' := .bool false) (S' := [_,_,_,_,_,_,_,_,_,_,_,_,_,_,_,_,_,_,_,_,_]) rfl rfl (bool_is hs189) ?_
                 refine wx_pure hok 12 rfl rfl rfl (freshS_eq rfl) rfl rfl ?_
                 refine wx_pure hok 13 rfl rfl rfl (freshS_eq rfl) rfl rfl ?_
                 refine wx_pure hok 14 rfl rfl rfl (freshS_eq rfl) rfl rfl ?_
                 refine wx_pure hok 15 rfl rfl rfl (freshS_eq rfl) rfl rfl ?_
                 refine wx_as (d := 193) (v' := .bool false) (S' := [_,_,_,_,_,_,_,_,_,_,_,_,_,_,_,_,_,_,_,_,_,_,_,_,_]) rfl rfl (bool_is hs193) ?_
                 refine wx_pure hok 16 rfl rfl rfl (freshS_eq rfl) rfl rfl ?_
                 refine wx_pure hok 17 rfl rfl rfl (freshS_eq rfl) rfl rfl ?_
                 refine wx_pure hok 18 rfl rfl rfl (freshS_eq rfl) rfl rfl ?_
                 refine wx_indexK hok 19 2 u3_14 rfl rfl rfl (freshS_eq rfl) rfl rfl rfl rfl rfl rfl (get_lt hx197) tE_35 tS_42 ?_
                 refine wx_fieldAddr hok 20 rfl rfl rfl (freshS_eq rfl) rfl rfl rfl tF_42_0 ?_
                 refine wx_step1 hok 21 rfl rfl rfl rfl ?_
                 refine wl_loadRow R_FactD_opens 2 u3_14 0 rfl rfl rfl (freshS_eq rfl) rfl rfl rfl hx197 tS_3 tA_3 (v := fun r199 => .int .i64 (x197.id)) (fun _ => rfl) (fun _ => rfl) (fun r199 _ => ?_)
                 refine wl_nil ?_
                 refine we_x [1, 2] [1] rfl rfl ?_
                 refine wx_pure hok 22 rfl rfl rfl (freshS_eq rfl) rfl rfl ?_
                 refine wx_pure hok 23 rfl rfl rfl (freshS_eq rfl) rfl rfl ?_
                 refine wx_done hok rfl ?_
                 have hE := (Option.some.inj hm).symm
                 refine we_pick [2, 3, 4] rfl (H' := [_,_,_]) rfl ?_
                 refine we_join (v175_0 != x197.id) hE [14, 6, 5, 4, 3, 0, 201] rfl (fun _ _ hφ => ask [2] rfl hφ) rfl
             ·
              rintro j_14_201 hE
              try dsimp only
              have hm := hLj_14
              rw [hE] at hm
              refine wc_cond rfl (fun hb201 => ?_) (fun hb201 => ?_)
              ·
               replace hm := iteT hm hb201
               refine wc_keep [] (S' := []) rfl ?_
               refine wc_seq ?_
               refine wc_region ?_
               refine wl_pure rfl rfl rfl (freshS_eq rfl) rfl ?_
               refine wl_nil ?_
               refine we_then ?_
               refine wc_ret ?_
               refine we_block_ret ?_
               refine we_then_ret ?_
               refine we_then_ret ?_
               refine we_block_ret ?_
               refine we_block_ret ?_
               refine we_then_ret ?_
               refine we_then_ret ?_
               refine we_block_ret ?_
               refine we_then_ret ?_
               have hE := (Option.some.inj hm).symm
               replace hE := link_inr hLu3 hE
               replace hE := link_inr hLj_3 hE
               replace hE := link_inr hLu1 hE
               replace hE := link_inr hLj_1 hE
               replace hE := hE.symm
               subst hE
               refine ret_one (Hr := []) [] Tryd.results4 (res_tmp rfl) ⟨rfl, rfl, rfl⟩ (fun _ _ hφ => ask [] rfl hφ) rfl rfl (.inl rfl)
              ·
               replace hm := iteF hm hb201
               refine wc_keep [14, 6, 5, 4, 3, 0] (S' := [_,_,_,_,_,_]) rfl ?_
               refine wc_skip ?_
               refine we_block_normal ?_
               refine we_then ?_
               refine wc_region ?_
               refine wl_pure rfl rfl rfl (freshS_eq rfl) rfl ?_
               refine wl_pure rfl rfl rfl (freshS_eq rfl) rfl ?_
               obtain ⟨hg152, hm⟩ := gd_some hm
               refine wl_as (d := 152) (v' := .int .i64 ((u3_14 + 1 : Nat) : Int)) (S' := [_,_,_,_,_,_,_]) rfl rfl (nat_add (a := u3_14) (b := 1) hg152) ?_
               refine wl_pure (S' := [_,_,_,_,_,_,_]) rfl rfl rfl rfl rfl ?_
               refine wl_nil ?_
               have hE := (Option.some.inj hm).symm
               replace hE := link_inl hLu3 hE
               refine we_roundK (_, u3_14 + 1) (Nat.lt_succ_self _) hE [14, 6, 5, 4, 3, 0] rfl (fun _ _ hφ => ask [0] rfl hφ) rfl
           ·
            replace hm := iteF hm hb150
            refine wc_keep [6, 5, 4, 3, 0] (S' := [_,_,_,_,_]) rfl ?_
            refine wc_exit ?_
            refine we_then_exit ?_
            refine we_then_exit ?_
            refine we_block_hit ?_
            refine we_block_normal ?_
            have hE := (Option.some.inj hm).symm
            replace hE := link_inr hLu3 hE
            refine we_join (j_9_5, j_9_4_l, v79_2, v79_3, j_9_4_p, j_9_4_c, j_9_4_n, p79_0, c79_1, c79_2) hE [6, 5, 4, 3, 0] rfl (fun _ _ hφ => ask [0] rfl hφ) rfl
     ·
      rintro ⟨j_3_5, j_3_4_l, j_3_3_f0_l, j_3_3_f1, j_3_4_p, j_3_4_c, j_3_4_n, j_3_3_f0_p, j_3_3_f0_c, j_3_3_f0_n⟩ hE
      try dsimp only
      have hm := link_inl hLj_3 hE
      try dsimp only at hm
      refine wc_region ?_
      refine wl_pure rfl rfl rfl (freshS_eq rfl) rfl ?_
      refine wl_pure rfl rfl rfl (freshS_eq rfl) rfl ?_
      obtain ⟨hg31, hm⟩ := gd_some hm
      refine wl_as (d := 31) (v' := .int .i64 ((u1_6 + 1 : Nat) : Int)) (S' := [_,_,_,_,_,_]) rfl rfl (nat_add (a := u1_6) (b := 1) hg31) ?_
      refine wl_pure (S' := [_,_,_,_,_,_]) rfl rfl rfl rfl rfl ?_
      refine wl_nil ?_
      have hE := (Option.some.inj hm).symm
      replace hE := link_inl hLu1 hE
      refine we_roundK (_, u1_6 + 1, j_3_5, j_3_4_l, j_3_3_f0_l, j_3_3_f1, j_3_4_p, j_3_4_c, j_3_4_n, j_3_3_f0_p, j_3_3_f0_c, j_3_3_f0_n) (Nat.lt_succ_self _) hE [6, 5, 4, 3, 0] rfl (fun _ _ hφ => ask [0] rfl hφ) rfl
    ·
     replace hm := iteF hm hb29
     refine wc_keep [4, 3] (S' := [_,_]) rfl ?_
     refine wc_exit ?_
     refine we_then_exit ?_
     refine we_then_exit ?_
     refine we_block_hit ?_
     have hE := (Option.some.inj hm).symm
     replace hE := link_inr hLu1 hE
     refine we_pick [1, 2, 0] rfl (H' := [_,_,_]) rfl ?_
     refine we_join (u1_3_f0_l, u1_3_f1, u1_4_l, u1_3_f0_p, u1_3_f0_c, u1_3_f0_n, u1_4_p, u1_4_c, u1_4_n) hE [3, 4] rfl (fun _ _ hφ => ask [] rfl hφ) rfl
  ·
   rintro ⟨j_1_3_f0_l, j_1_3_f1, j_1_4_l, j_1_3_f0_p, j_1_3_f0_c, j_1_3_f0_n, j_1_4_p, j_1_4_c, j_1_4_n⟩ hE
   try dsimp only
   have hm := link_inl hLj_1 hE
   try dsimp only at hm
   refine wc_seq ?_
   refine wc_region ?_
   refine wl_pure rfl rfl rfl (freshS_eq rfl) rfl ?_
   obtain ⟨v203, hc203, hm⟩ := bindO_some hm
   refine wl_call [0, 1] [2] rfl rfl rfl (freshS_eq rfl) rfl rfl fn_10 rfl (w_memory_Memory_All_s N c21_0 j_1_3_f0_p j_1_3_f0_n j_1_3_f0_c j_1_3_f0_l j_1_3_f1 _ hc203) (fun _ _ hφ => ask [] rfl hφ) rfl (H' := [_]) rfl ?_
   rintro _ _ _ ⟨p203_0, c203_1, c203_2, rfl, rfl, rfl⟩
   refine wl_pure rfl rfl rfl (freshS_eq rfl) rfl ?_
   obtain ⟨v205, hc205, hm⟩ := bindO_some hm
   refine wl_call [0, 3] [1, 2] rfl rfl rfl (freshS_eq rfl) rfl rfl fn_11 rfl (w_ropewalkkit_SameFacts_v2_s N p203_0 c203_2 c203_1 v203 j_1_4_p j_1_4_n j_1_4_c j_1_4_l _ hc205) (fun _ _ hφ => ask [] rfl hφ) rfl (H' := [_,_]) rfl ?_
   rintro _ _ _ ⟨rfl, rfl, rfl⟩
   refine wl_pure rfl rfl rfl (freshS_eq rfl) rfl ?_
   refine wl_split (d := 206) (S' := [_,_,_,_,_,_]) rfl rfl (fun hs206 => ?_) (fun hs206 => ?_)
   ·
    replace hm := iteT hm hs206
    refine wl_pure rfl rfl rfl (freshS_eq rfl) rfl ?_
    obtain ⟨v208, hc208, hm⟩ := bindO_some hm
    refine wl_call [2, 3] [0, 1] rfl rfl rfl (freshS_eq rfl) rfl rfl fn_21 rfl (w_memory_Memory_Len_s N c21_0 j_1_3_f0_p j_1_3_f0_n j_1_3_f0_c j_1_3_f0_l j_1_3_f1 _ hc208) (fun _ _ hφ => ask [] rfl hφ) rfl (H' := [_,_]) rfl ?_
    rintro _ _ _ ⟨rfl, rfl, rfl⟩
    refine wl_pure rfl rfl rfl (freshS_eq rfl) rfl ?_
    refine wl_ownLen 3 rfl (fun hl210 _ => ?_)
    refine wl_len rfl rfl rfl (freshS_eq rfl) rfl rfl tE_35 ?_
    refine wl_as (d := 210) (v' := .int .i64 ((j_1_4_l.length : Nat) : Int)) (S' := [_,_,_,_,_,_,_,_,_,_]) rfl rfl (len_is hl210) ?_
    refine wl_pure rfl rfl rfl (freshS_eq rfl) rfl ?_
    refine wl_as (d := 211) (v' := .bool (v208 == j_1_4_l.length)) (S' := [_,_,_,_,_,_,_,_,_,_,_]) rfl rfl (nateq (a := v208) (b := j_1_4_l.length)) ?_
    refine wl_pure rfl rfl rfl (freshS_eq rfl) rfl ?_
    refine wl_pure rfl rfl rfl (freshS_eq rfl) rfl ?_
    refine wl_nil ?_
    refine we_then ?_
    refine wc_keep [2] (S' := [_]) rfl ?_
    refine wc_ret ?_
    have hE := (Option.some.inj hm).symm
    replace hE := hE.symm
    subst hE
    refine ret_one (Hr := []) [] Tryd.results4 (res_tmp rfl) ⟨rfl, rfl, rfl⟩ (fun _ _ hφ => ask [] rfl hφ) rfl rfl (.inl rfl)
   ·
    replace hm := iteF hm hs206
    refine wl_off rfl rfl rfl (freshS_eq rfl) ?_
    refine wl_off rfl rfl rfl (freshS_eq rfl) ?_
    refine wl_off rfl rfl rfl (freshS_eq rfl) ?_
    refine wl_off rfl rfl rfl (freshS_eq rfl) ?_
    refine wl_off rfl rfl rfl (freshS_eq rfl) ?_
    refine wl_pure rfl rfl rfl (freshS_eq rfl) rfl ?_
    refine wl_pure rfl rfl rfl (freshS_eq rfl) rfl ?_
    refine wl_nil ?_
    refine we_then ?_
    refine wc_keep [2] (S' := [_]) rfl ?_
    refine wc_ret ?_
    have hE := (Option.some.inj hm).symm
    replace hE := hE.symm
    subst hE
    refine ret_one (Hr := []) [] Tryd.results4 (res_tmp rfl) ⟨rfl, rfl, rfl⟩ (fun _ _ hφ => ask [] rfl hφ) rfl rfl (.inl rfl)
end Go.Proofs.YtdnolbmbmncefaaDoor
