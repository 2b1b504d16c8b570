import Derived.Test.YtalbennlmcpnmaaGreatXW2
namespace Go.Proofs.YtalbennlmcpnmaaGreat
open Go.RowKit
set_option maxRecDepth 100000
set_option maxHeartbeats 4000000
theorem w_ropewalkkit_mark_s (N : Nat) (a0 : Int) (a1 : Int)  (hm : m_ropewalkkit_mark N a0 a1 = some ()) : Spec Tryz.prog 42 [.int .i64 a0, .int .i64 a1] [] [] (fun v Φr Hr => v = .int .i64 (IntKind.wrap .i64 ((IntKind.wrap .i64 (1000003 * (IntKind.wrap .i64 (a0 + 7)))) + a1)) ∧ Φr = [] ∧ Hr = []) := by
 unfold m_ropewalkkit_mark at hm
 refine spec_of Tryz.func42 rfl Tryz.ntmps42 rfl (S := [_,_]) rfl (fun C => (wc_seq (wc_region (wP rfl (wl_nil (we_then (wc_keep [0,1] (S' := [_,_]) rfl (wc_seq (wc_region (wP rfl (wP rfl (wP rfl (wP rfl (wP rfl ?_))))))))))))))
 refine wP rfl (wl_nil (we_then (wc_keep [4] (S' := [_]) rfl (wc_ret ?_))))
 have hE := (Option.some.inj hm).symm
 refine ret_one (Hr := []) [] Tryz.results42 (res_tmp rfl) ⟨rfl, rfl, rfl⟩ (asK [] rfl) rfl rfl (.inl rfl)
theorem w_ropewalkkit_markArg_s (N : Nat) (a0 : Int) (a1 : Int)  (hm : m_ropewalkkit_markArg N a0 a1 = some ()) : Spec Tryz.prog 40 [.int .i64 a0, .int .i64 a1] [] [] (fun v Φr Hr => v = .agg #[.int .u8 0, .int .i64 (IntKind.wrap .i64 ((IntKind.wrap .i64 (1000003 * (IntKind.wrap .i64 (a0 + 7)))) + a1)), .int .u8 0, .int .i64 0, .string ((⟨#[]⟩ : ByteArray))] ∧ Φr = [] ∧ Hr = []) := by
 unfold m_ropewalkkit_markArg at hm
 refine spec_of Tryz.func40 rfl Tryz.ntmps40 rfl (S := [_,_]) rfl (fun C => (wc_seq (wc_region (wl_alloc rfl rfl rfl (freshS_eq rfl) rfl tZ_64 rfl (fun g4 => (wl_nil (we_then (wc_seq (wc_region (wP rfl (wP rfl ?_)))))))))))
 obtain ⟨_, hc7, hm⟩ := bindO_some hm
 try dsimp only at hm
 refine wC [] [0] rfl fn_42 rfl (w_ropewalkkit_mark_s N a0 a1 hc7) (asK [] rfl) rfl (H' := [_]) rfl ?_
 rintro _ _ _ ⟨rfl, rfl, rfl⟩
 refine wl_build rfl rfl rfl (freshS_eq rfl) rfl tZ_64 tP_64 rfl (out := [_,_,_,_,_]) rfl (wS 0 0 rfl tS_64 (all' := [_,_,_,_,_]) rfl (H' := [_]) rfl (wl_nil (we_then (wc_keep [4] (S' := [_]) rfl (wc_ret ?_)))))
 have hE := (Option.some.inj hm).symm
 refine ret_one (Hr := []) [] Tryz.results40 (res_cell 0 rfl rfl tS_64 tA_64 rfl rfl) ⟨rfl, rfl, rfl⟩ (asK [] rfl) rfl rfl (.inl rfl)
theorem w_ropewalkkit_LentArgs_s (N : Nat) (qp0 : Option Addr) (qc1 : Nat) (l0 : List ArgD) (o2 : List ArgD) (hm : m_ropewalkkit_LentArgs N l0 = some o2) : Spec Tryz.prog 23 [.slice qp0 l0.length qc1] [.sli 5 R_ArgD qp0 qc1 l0] [] (fun v Φr Hr => ∃ (o0 : Option Addr) (o1 : Nat) (o3 : Nat), v = .slice o0 l0.length o1 ∧ Φr = [] ∧ Hr = [.own 64 5 R_ArgD (.slice o0 o3 o1) o2]) := by
 unfold m_ropewalkkit_LentArgs at hm
 refine spec_of Tryz.func23 rfl Tryz.ntmps23 rfl (S := [_]) rfl (fun C => (wc_seq (wc_region (wP rfl (wl_nil (we_then (wc_keep [0] (S' := [_]) rfl (wc_seq (wc_region (wP rfl (wN rfl tE_23 (wP rfl ?_))))))))))))
 obtain ⟨hg7, hm⟩ := gd_some hm
 refine wl_as (d := 7) (v' := .int .i64 ((l0.length + 12 : Nat) : Int)) (S' := [_,_,_]) rfl rfl (nat_add (a := l0.length) (b := 12) hg7) ?_
 obtain ⟨hg8, hm⟩ := gd_some hm
 refine wl_makeCap (m := l0.length + 12) R_ArgD rfl rfl rfl (freshS_eq rfl) rfl rfl rfl rfl tE_23 tR_64 rfl rfl (Nat.le_trans (Nat.mul_le_mul_left _ hg8) (by decide)) (Nat.le_trans hg8 (by decide)) (fun g8 => (wP rfl (wl_nil (we_then (wc_keep [3,0] (S' := [_,_]) rfl (wc_seq (wc_region (wP rfl (wP rfl ?_)))))))))
 obtain ⟨hg11, hm⟩ := gd_some hm
 refine wl_append 0 0 rfl rfl rfl (freshS_eq rfl) rfl rfl rfl rfl rfl tE_23 tR_64 rfl rfl (Nat.le_trans hg11 (by decide)) (Nat.le_trans (Nat.mul_le_mul_right _ hg11) (by decide)) (H2 := fun p11 c11 => [.own 64 5 R_ArgD (.slice p11 (l0).length c11) l0]) (fun _ _ => rfl) (fun p11 c11 => (wl_pure (S' := [_,_,_,_]) rfl rfl rfl rfl rfl (wl_nil (we_then (wc_keep [3,0] (S' := [_,_]) rfl (wc_seq ?_))))))
 obtain ⟨bj_1, hm, hLj_1⟩ := bindO_some hm
 refine wc_cut (σ := (List ArgD) × (Option Addr) × Nat × Nat) (fun (j_1_3_l, j_1_3_p, j_1_3_c, j_1_3_n) => bj_1 = j_1_3_l) (fun (j_1_3_l, j_1_3_p, j_1_3_c, j_1_3_n) => [(3, .slice j_1_3_p j_1_3_n j_1_3_c), (0, .slice qp0 l0.length qc1)]) (fun (j_1_3_l, j_1_3_p, j_1_3_c, j_1_3_n) => [.sli 5 R_ArgD qp0 qc1 l0]) (fun (j_1_3_l, j_1_3_p, j_1_3_c, j_1_3_n) => [.own 64 5 R_ArgD (.slice j_1_3_p j_1_3_n j_1_3_c) j_1_3_l]) ?_ ?_
 ·
  refine wc_seq (wc_region (wP rfl (wl_nil (we_then (wc_block (wc_loop (σ := Nat × Nat × (List ArgD) × (Option Addr) × Nat × Nat) (fun (nu1, u1_4, u1_3_l, u1_3_p, u1_3_c, u1_3_n) => iter (m_ropewalkkit_LentArgs_L1 N) nu1 (u1_4, u1_3_l) = some bj_1) (fun (nu1, u1_4, u1_3_l, u1_3_p, u1_3_c, u1_3_n) => nu1) (fun (nu1, u1_4, u1_3_l, u1_3_p, u1_3_c, u1_3_n) => [(4, .int .i64 ((u1_4 : Nat) : Int)), (3, .slice u1_3_p u1_3_n u1_3_c), (0, .slice qp0 l0.length qc1)]) (fun (nu1, u1_4, u1_3_l, u1_3_p, u1_3_c, u1_3_n) => [.sli 5 R_ArgD qp0 qc1 l0]) (fun (nu1, u1_4, u1_3_l, u1_3_p, u1_3_c, u1_3_n) => [.own 64 5 R_ArgD (.slice u1_3_p u1_3_n u1_3_c) u1_3_l]) (N, 0, l0, p11, c11, (l0).length) hm [4,3,0] rfl (asK [0] rfl) rfl (fun s_ hm => ?_)))))))
  obtain ⟨nu1, u1_4, u1_3_l, u1_3_p, u1_3_c, u1_3_n⟩ := s_
  try dsimp only at hm ⊢
  obtain ⟨mu1, bu1, hnu1, hq, hLu1⟩ := iter_some hm
  clear hm
  subst hnu1
  replace hm := hq
  clear hq
  unfold m_ropewalkkit_LentArgs_L1 at hm
  try dsimp only at hm
  refine wc_seq (wc_seq (wc_region (wP rfl (wP rfl (wl_as (d := 13) (v' := .bool (decide (u1_4 < 12))) (S' := [_,_,_,_]) rfl rfl (natlt (a := u1_4) (b := 12)) (wl_nil (we_then (wc_keep [13,4,3,0] (S' := [_,_,_,_]) rfl ?_))))))))
  refine wc_cond rfl (fun hb13 => ?_) (fun hb13 => ?_)
  ·
   replace hm := iteT hm hb13
   refine wc_keep [4,3,0] (S' := [_,_,_]) rfl (wc_skip (we_then (wc_seq (wc_block (wc_region (wP rfl (wP rfl ?_)))))))
   obtain ⟨_, hc18, hm⟩ := bindO_some hm
   try dsimp only at hm
   refine wC [] [0] rfl fn_40 rfl (w_ropewalkkit_markArg_s N 1 ((u1_4 : Nat) : Int) hc18) (asK [] rfl) rfl (H' := [_]) rfl ?_
   rintro _ _ _ ⟨rfl, rfl, rfl⟩
   refine wl_buildSlice rfl rfl rfl (freshS_eq rfl) rfl tE_23 tS_64 tZ_64 rfl (zs := [.int .u8 0, .int .i64 0, .int .u8 0, .int .i64 0, .string ((⟨#[]⟩ : ByteArray))]) (by kernel_rfl) rfl (out := [_,_,_,_,_]) rfl (fun g19 => ?_)
   obtain ⟨hg20, hm⟩ := gd_some hm
   refine wl_appendH ([(⟨0, (IntKind.wrap .i64 ((IntKind.wrap .i64 (1000003 * (IntKind.wrap .i64 (1 + 7)))) + ((u1_4 : Nat) : Int))), (⟨0,0, (⟨#[]⟩ : ByteArray)⟩ : V)⟩ : ArgD)]) 1 0 rfl rfl rfl (freshS_eq rfl) rfl rfl rfl rfl rfl (fun F w hφ => ⟨[.int .u8 0, .int .i64 (IntKind.wrap .i64 ((IntKind.wrap .i64 (1000003 * (IntKind.wrap .i64 (1 + 7)))) + ((u1_4 : Nat) : Int))), .int .u8 0, .int .i64 0, .string ((⟨#[]⟩ : ByteArray))],[], rfl, rfl, ⟨(), rfl, ask_nil⟩, rfl⟩) tE_23 tR_64 rfl rfl (Nat.le_trans hg20 (by decide)) (Nat.le_trans (Nat.mul_le_mul_right _ hg20) (by decide)) (H2 := fun p20 c20 => [_, .own 64 5 R_ArgD (.slice p20 ((u1_3_l ++ ([(⟨0, (IntKind.wrap .i64 ((IntKind.wrap .i64 (1000003 * (IntKind.wrap .i64 (1 + 7)))) + ((u1_4 : Nat) : Int))), (⟨0,0, (⟨#[]⟩ : ByteArray)⟩ : V)⟩ : ArgD)])).length) c20) (u1_3_l ++ ([(⟨0, (IntKind.wrap .i64 ((IntKind.wrap .i64 (1000003 * (IntKind.wrap .i64 (1 + 7)))) + ((u1_4 : Nat) : Int))), (⟨0,0, (⟨#[]⟩ : ByteArray)⟩ : V)⟩ : ArgD)]))]) (fun _ _ => rfl) (fun p20 c20 => (wl_drop 0 rfl (H' := [_]) rfl (wl_pure (S' := [_,_,_,_,_,_,_]) rfl rfl rfl rfl rfl (wl_nil (we_block_normal (we_then (wc_keep [3,4,0] (S' := [_,_,_]) rfl (wc_region (wP rfl (wP rfl ?_))))))))))
   obtain ⟨hg15, hm⟩ := gd_some hm
   refine wl_as (d := 15) (v' := .int .i64 ((u1_4 + 1 : Nat) : Int)) (S' := [_,_,_,_]) rfl rfl (nat_add (a := u1_4) (b := 1) hg15) (wl_pure (S' := [_,_,_,_]) rfl rfl rfl rfl rfl (wl_nil ?_))
   have hE := (Option.some.inj hm).symm
   replace hE := link_inl hLu1 hE
   refine we_roundK (_, u1_4 + 1, (u1_3_l ++ ([(⟨0, (IntKind.wrap .i64 ((IntKind.wrap .i64 (1000003 * (IntKind.wrap .i64 (1 + 7)))) + ((u1_4 : Nat) : Int))), (⟨0,0, (⟨#[]⟩ : ByteArray)⟩ : V)⟩ : ArgD)])), p20, c20, ((u1_3_l ++ ([(⟨0, (IntKind.wrap .i64 ((IntKind.wrap .i64 (1000003 * (IntKind.wrap .i64 (1 + 7)))) + ((u1_4 : Nat) : Int))), (⟨0,0, (⟨#[]⟩ : ByteArray)⟩ : V)⟩ : ArgD)])).length)) (Nat.lt_succ_self _) hE [4,3,0] rfl (asK [0] rfl) rfl
  ·
   replace hm := iteF hm hb13
   refine wc_keep [3,0] (S' := [_,_]) rfl (wc_exit (we_then_exit (we_then_exit (we_block_hit ?_))))
   have hE := (Option.some.inj hm).symm
   replace hE := link_inr hLu1 hE
   refine we_join (u1_3_l, u1_3_p, u1_3_c, u1_3_n) hE [3,0] rfl (asK [0] rfl) rfl
 ·
  rintro ⟨j_1_3_l, j_1_3_p, j_1_3_c, j_1_3_n⟩ hE
  try dsimp only
  have hm := hLj_1
  rw [hE] at hm
  refine wc_seq (wc_region (wP rfl (wP rfl (wN rfl tE_23 ?_))))
  obtain ⟨hg24, hm⟩ := gd_some hm
  refine wl_ownSpot 0 rfl (fun hsp24 hcm24 => (wl_sliceTo rfl rfl rfl (freshS_eq rfl) rfl rfl rfl rfl tE_23 tS_64 (Nat.le_trans hg24 (by rw [← hcm24.2]; exact hcm24.1)) hsp24 (wP rfl (wl_nil (we_then (wc_keep [2] (S' := [_]) rfl (wc_ret ?_)))))))
  have hE := (Option.some.inj hm).symm
  replace hE := hE.symm
  subst hE
  refine ret_one (Hr := [_]) [0] Tryz.results23 (res_tmp rfl) ⟨j_1_3_p, j_1_3_c, j_1_3_n, rfl, rfl, rfl⟩ (asK [] rfl) rfl rfl (.inl rfl)
theorem w_ropewalkkit_markExpr_s (N : Nat) (a0 : Int) (a1 : Int)  (hm : m_ropewalkkit_markExpr N a0 a1 = some ()) : Spec Tryz.prog 53 [.int .i64 a0, .int .i64 a1] [] [] (fun v Φr Hr => v = .agg #[.int .u8 0, .int .u8 0, .int .i64 0, .string ((⟨#[]⟩ : ByteArray)), .int .i64 (IntKind.wrap .i64 ((IntKind.wrap .i64 (1000003 * (IntKind.wrap .i64 (a0 + 7)))) + a1)), .int .u8 0, .slice none 0 0] ∧ Φr = [] ∧ Hr = []) := by
 unfold m_ropewalkkit_markExpr at hm
 refine spec_of Tryz.func53 rfl Tryz.ntmps53 rfl (S := [_,_]) rfl (fun C => (wc_seq (wc_region (wl_alloc rfl rfl rfl (freshS_eq rfl) rfl tZ_31 rfl (fun g4 => (wl_nil (we_then (wc_seq (wc_region (wP rfl (wP rfl ?_)))))))))))
 obtain ⟨_, hc7, hm⟩ := bindO_some hm
 try dsimp only at hm
 refine wC [] [0] rfl fn_42 rfl (w_ropewalkkit_mark_s N a0 a1 hc7) (asK [] rfl) rfl (H' := [_]) rfl ?_
 rintro _ _ _ ⟨rfl, rfl, rfl⟩
 refine wl_build rfl rfl rfl (freshS_eq rfl) rfl tZ_31 tP_31 rfl (out := [_,_,_,_,_,_,_]) rfl (wS 0 0 rfl tS_31 (all' := [_,_,_,_,_,_,_]) rfl (H' := [_]) rfl (wl_nil (we_then (wc_keep [4] (S' := [_]) rfl (wc_ret ?_)))))
 have hE := (Option.some.inj hm).symm
 refine ret_one (Hr := []) [] Tryz.results53 (res_cell 0 rfl rfl tS_31 tA_31 rfl rfl) ⟨rfl, rfl, rfl⟩ (asK [] rfl) rfl rfl (.inl rfl)
theorem w_ropewalkkit_LentExprs_v2_s (N : Nat) (rc : Int → Int → Int → ByteArray → Int → Int → (List Api_ExprD) → Option (Int × Int × Int × ByteArray × Int × Int × (List Api_ExprDS) × Nat)) (ih : ∀ (a0 : Int) (a1 : Int) (a2 : Int) (a3 : ByteArray) (a4 : Int) (a5 : Int) (qp0 : Option Addr) (qc1 : Nat) (l6 : List Api_ExprD) (o0 : Int) (o1 : Int) (o2 : Int) (o3 : ByteArray) (o4 : Int) (o5 : Int) (o8 : List Api_ExprDS) (o10 : Nat), rc a0 a1 a2 a3 a4 a5 l6 = some (o0, o1, o2, o3, o4, o5, o8, o10) → Spec Tryz.prog 24 [.agg #[.int .u8 a0, .int .u8 a1, .int .i64 a2, .string a3, .int .i64 a4, .int .u8 a5, .slice qp0 l6.length qc1]] [.sli 7 R_Api_ExprD qp0 qc1 l6] [] (fun v Φr Hr => ∃ (o6 : Option Addr) (o7 : Nat) (o9 : Nat), v = .agg #[.int .u8 o0, .int .u8 o1, .int .i64 o2, .string o3, .int .i64 o4, .int .u8 o5, .slice o6 o10 o7] ∧ Φr = [] ∧ Hr = [.own 31 7 RS_Api_ExprD (.slice o6 o9 o7) o8])) (qp0 : Option Addr) (qc1 : Nat) (l0 : List Api_ExprD) (o2 : List Api_ExprDS) (hm : m_ropewalkkit_LentExprs_v2 N rc l0 = some o2) : Spec Tryz.prog 41 [.slice qp0 l0.length qc1] [.sli 7 R_Api_ExprD qp0 qc1 l0] [] (fun v Φr Hr => ∃ (o0 : Option Addr) (o1 : Nat) (o3 : Nat), v = .slice o0 l0.length o1 ∧ Φr = [] ∧ Hr = [.own 31 7 RS_Api_ExprD (.slice o0 o3 o1) o2]) := by
 unfold m_ropewalkkit_LentExprs_v2 at hm
 refine spec_of Tryz.func41 rfl Tryz.ntmps41 rfl (S := [_]) rfl (fun C => (wc_seq (wc_region (wP rfl (wl_nil (we_then (wc_keep [0] (S' := [_]) rfl (wc_seq (wc_region (wP rfl (wN rfl tE_29 (wP rfl ?_))))))))))))
 obtain ⟨hg9, hm⟩ := gd_some hm
 refine wl_as (d := 9) (v' := .int .i64 ((l0.length + 12 : Nat) : Int)) (S' := [_,_,_]) rfl rfl (nat_add (a := l0.length) (b := 12) hg9) ?_
 obtain ⟨hg10, hm⟩ := gd_some hm
 refine wl_makeCap (m := l0.length + 12) R_Api_ExprD rfl rfl rfl (freshS_eq rfl) rfl rfl rfl rfl tE_29 tR_31 rfl rfl (Nat.le_trans (Nat.mul_le_mul_left _ hg10) (by decide)) (Nat.le_trans hg10 (by decide)) (fun g10 => (wP rfl (wl_nil (we_then (wc_keep [3,0] (S' := [_,_]) rfl (wc_seq ?_))))))
 obtain ⟨bj_1, hm, hLj_1⟩ := bindO_some hm
 refine wc_cut (σ := (List Api_ExprDS) × (Option Addr) × Nat × Nat) (fun (j_1_3_l, j_1_3_p, j_1_3_c, j_1_3_n) => bj_1 = j_1_3_l) (fun (j_1_3_l, j_1_3_p, j_1_3_c, j_1_3_n) => [(3, .slice j_1_3_p j_1_3_n j_1_3_c), (0, .slice qp0 l0.length qc1)]) (fun (j_1_3_l, j_1_3_p, j_1_3_c, j_1_3_n) => [.sli 7 R_Api_ExprD qp0 qc1 l0]) (fun (j_1_3_l, j_1_3_p, j_1_3_c, j_1_3_n) => [.own 31 7 RS_Api_ExprD (.slice j_1_3_p j_1_3_n j_1_3_c) j_1_3_l]) ?_ ?_
 ·
  refine wc_seq (wc_region (wP rfl (wl_nil (we_then (wc_block (wc_sh [.own 31 7 RS_Api_ExprD (.slice (some ⟨g10,0, none⟩) 0 (l0.length + 12)) []] (fun _ h => h.rowKind RS_Api_ExprD 0 rfl) (wc_loop (σ := Nat × Nat × (List Api_ExprDS) × (Option Addr) × Nat × Nat) (fun (nu1, u1_4, u1_3_l, u1_3_p, u1_3_c, u1_3_n) => iter (m_ropewalkkit_LentExprs_v2_L1 N l0 rc) nu1 (u1_4, u1_3_l) = some bj_1) (fun (nu1, u1_4, u1_3_l, u1_3_p, u1_3_c, u1_3_n) => nu1) (fun (nu1, u1_4, u1_3_l, u1_3_p, u1_3_c, u1_3_n) => [(4, .int .i64 ((u1_4 : Nat) : Int)), (3, .slice u1_3_p u1_3_n u1_3_c), (0, .slice qp0 l0.length qc1)]) (fun (nu1, u1_4, u1_3_l, u1_3_p, u1_3_c, u1_3_n) => [.sli 7 R_Api_ExprD qp0 qc1 l0]) (fun (nu1, u1_4, u1_3_l, u1_3_p, u1_3_c, u1_3_n) => [.own 31 7 RS_Api_ExprD (.slice u1_3_p u1_3_n u1_3_c) u1_3_l]) (N, 0,[], some ⟨g10,0, none⟩, l0.length + 12,0) hm [4,3,0] rfl (asK [0] rfl) rfl (fun s_ hm => ?_))))))))
  obtain ⟨nu1, u1_4, u1_3_l, u1_3_p, u1_3_c, u1_3_n⟩ := s_
  try dsimp only at hm ⊢
  obtain ⟨mu1, bu1, hnu1, hq, hLu1⟩ := iter_some hm
  clear hm
  subst hnu1
  replace hm := hq
  clear hq
  unfold m_ropewalkkit_LentExprs_v2_L1 at hm
  try dsimp only at hm
  refine wc_seq (wc_seq (wc_region (wP rfl (wP rfl (wN rfl tE_29 (wP rfl (wl_as (d := 14) (v' := .bool (decide (u1_4 < l0.length))) (S' := [_,_,_,_,_,_]) rfl rfl (natlt (a := u1_4) (b := l0.length)) (wl_nil (we_then (wc_keep [14,4,3,0] (S' := [_,_,_,_]) rfl ?_))))))))))
  refine wc_cond rfl (fun hb14 => ?_) (fun hb14 => ?_)
  ·
   replace hm := iteT hm hb14
   refine wc_keep [4,3,0] (S' := [_,_,_]) rfl (wc_skip (we_then (wc_seq (wc_block (wc_seq (wc_region (wP rfl (wP rfl ?_))))))))
   obtain ⟨x19, hx19, hm⟩ := bindO_some hm
   refine wl_indexA 0 u1_4 rfl rfl rfl (freshS_eq rfl) rfl rfl rfl rfl rfl hx19 tE_29 tS_31 (fun b19 q19 cs19 hlx19 => (wl_open R_Api_ExprD_opens 1 rfl (fun r19 er19 _ => ?_)))
   subst er19
   refine wl_load 1 0 rfl rfl rfl (freshS_eq rfl) rfl rfl rfl (cs := [_,_,_,_,_,_,_]) rfl tS_31 tA_31 rfl rfl ?_
   obtain ⟨⟨v21_0, v21_1, v21_2, v21_3, v21_4, v21_5, v21_6, v21_7⟩, hc21, hm⟩ := bindO_some hm
   try dsimp only at hm
   refine wC [] [0] rfl fn_24 rfl (ih x19.kind x19.value.k x19.value.n x19.value.s x19.var x19.op r19.1 r19.2 x19.kids _ _ _ _ _ _ _ _ hc21) (asK [0] rfl) rfl (H' := [_]) rfl ?_
   rintro _ _ _ ⟨p21_0, c21_1, c21_2, rfl, rfl, rfl⟩
   refine wl_alloc rfl rfl rfl (freshS_eq rfl) rfl tZ_31 rfl (fun g5 => (wS 0 0 rfl tS_31 (all' := [_,_,_,_,_,_,_]) rfl (H' := [_,_,_]) rfl (wl_nil (we_then (wc_keep [5,4,3,0] (S' := [_,_,_,_]) rfl (wc_region (wP rfl (wl_loadH 0 0 rfl rfl rfl (freshS_eq rfl) rfl rfl rfl (cs := [_,_,_,_,_,_,_]) rfl tS_31 tA_31 rfl rfl (wl_buildSlice rfl rfl rfl (freshS_eq rfl) rfl tE_29 tS_31 tZ_31 rfl (zs := [.int .u8 0, .int .u8 0, .int .i64 0, .string ((⟨#[]⟩ : ByteArray)), .int .i64 0, .int .u8 0, .slice none 0 0]) (by kernel_rfl) rfl (out := [_,_,_,_,_,_,_]) rfl (fun g24 => ?_))))))))))
   obtain ⟨hzk12, hm⟩ := gd_some hm
   refine wl_ownLen 2 rfl (fun hzc21_2 _ => ?_)
   subst hzc21_2
   refine wl_hAs 2 (φ' := .own 31 7 RS_Api_ExprD (.slice p21_0 (((v21_6.take v21_7) ++ (v21_6.drop v21_7)).length) c21_1) ((v21_6.take v21_7) ++ (v21_6.drop v21_7))) rfl (by rw [List.take_append_drop]) (H' := [_,_,_,_]) rfl (wl_at 1 (v' := .agg #[.int .u8 v21_0, .int .u8 v21_1, .int .i64 v21_2, .string v21_3, .int .i64 v21_4, .int .u8 v21_5, .slice p21_0 ((v21_6.take v21_7).length) c21_1]) rfl (by rw [take_len hzk12]) (wl_hAs 0 (φ' := .blk g24 [.int .u8 v21_0, .int .u8 v21_1, .int .i64 v21_2, .string v21_3, .int .i64 v21_4, .int .u8 v21_5, .slice p21_0 ((v21_6.take v21_7).length) c21_1] 31) rfl (by rw [take_len hzk12]) (H' := [_,_,_,_]) rfl (wl_hAs 1 (φ' := .blk g5 [.int .u8 v21_0, .int .u8 v21_1, .int .i64 v21_2, .string v21_3, .int .i64 v21_4, .int .u8 v21_5, .slice p21_0 ((v21_6.take v21_7).length) c21_1] 31) rfl (by rw [take_len hzk12]) (H' := [_,_,_,_]) rfl (wl_freeze 2 rfl (H' := [_,_,_]) rfl (wl_fact (.sli 7 RS_Api_ExprD p21_0 c21_1 ((v21_6.take v21_7) ++ (v21_6.drop v21_7))) (fun F w hφ => own_sli (hφ _ (mem_at (k := 0) rfl))) ?_)))))
   obtain ⟨hg25, hm⟩ := gd_some hm
   refine wl_appendH ([(⟨v21_0, (⟨v21_1, v21_2, v21_3⟩ : V), v21_4, v21_5, (v21_6.take v21_7), (v21_6.drop v21_7)⟩ : Api_ExprDS)]) 2 0 rfl rfl rfl (freshS_eq rfl) rfl rfl rfl rfl rfl (fun F w hφ => ⟨[.int .u8 v21_0, .int .u8 v21_1, .int .i64 v21_2, .string v21_3, .int .i64 v21_4, .int .u8 v21_5, .slice p21_0 ((v21_6.take v21_7).length) c21_1],[], rfl, rfl, (rec_shut (p21_0, c21_1) rfl (ask_cons (hφ _ (mem_at (k := 0) rfl)) ask_nil)), rfl⟩) tE_29 tR_31 rfl rfl (Nat.le_trans hg25 (by decide)) (Nat.le_trans (Nat.mul_le_mul_right _ hg25) (by decide)) (H2 := fun p25 c25 => [_,_, .own 31 7 RS_Api_ExprD (.slice p25 ((u1_3_l ++ ([(⟨v21_0, (⟨v21_1, v21_2, v21_3⟩ : V), v21_4, v21_5, (v21_6.take v21_7), (v21_6.drop v21_7)⟩ : Api_ExprDS)])).length) c25) (u1_3_l ++ ([(⟨v21_0, (⟨v21_1, v21_2, v21_3⟩ : V), v21_4, v21_5, (v21_6.take v21_7), (v21_6.drop v21_7)⟩ : Api_ExprDS)]))]) (fun _ _ => rfl) (fun p25 c25 => (wl_drop 0 rfl (H' := [_,_]) rfl (wl_pure (S' := [_,_,_,_,_,_,_]) rfl rfl rfl rfl rfl (wl_nil (we_block_normal (we_then (wc_keep [3,4,0] (S' := [_,_,_]) rfl (wc_region (wP rfl (wP rfl ?_))))))))))
   obtain ⟨hg16, hm⟩ := gd_some hm
   refine wl_as (d := 16) (v' := .int .i64 ((u1_4 + 1 : Nat) : Int)) (S' := [_,_,_,_]) rfl rfl (nat_add (a := u1_4) (b := 1) hg16) (wl_pure (S' := [_,_,_,_]) rfl rfl rfl rfl rfl (wl_nil ?_))
   have hE := (Option.some.inj hm).symm
   replace hE := link_inl hLu1 hE
   refine we_pick [1] rfl (H' := [_]) rfl ?_
   refine we_roundK (_, u1_4 + 1, (u1_3_l ++ ([(⟨v21_0, (⟨v21_1, v21_2, v21_3⟩ : V), v21_4, v21_5, (v21_6.take v21_7), (v21_6.drop v21_7)⟩ : Api_ExprDS)])), p25, c25, ((u1_3_l ++ ([(⟨v21_0, (⟨v21_1, v21_2, v21_3⟩ : V), v21_4, v21_5, (v21_6.take v21_7), (v21_6.drop v21_7)⟩ : Api_ExprDS)])).length)) (Nat.lt_succ_self _) hE [4,3,0] rfl (asK [5] rfl) rfl
  ·
   replace hm := iteF hm hb14
   refine wc_keep [3,0] (S' := [_,_]) rfl (wc_exit (we_then_exit (we_then_exit (we_block_hit ?_))))
   have hE := (Option.some.inj hm).symm
   replace hE := link_inr hLu1 hE
   refine we_join (u1_3_l, u1_3_p, u1_3_c, u1_3_n) hE [3,0] rfl (asK [0] rfl) rfl
 ·
  rintro ⟨j_1_3_l, j_1_3_p, j_1_3_c, j_1_3_n⟩ hE
  try dsimp only
  have hm := hLj_1
  rw [hE] at hm
  refine wc_seq ?_
  obtain ⟨bj_2, hm, hLj_2⟩ := bindO_some hm
  refine wc_cut (σ := (List Api_ExprDS) × (Option Addr) × Nat × Nat) (fun (j_2_3_l, j_2_3_p, j_2_3_c, j_2_3_n) => bj_2 = j_2_3_l) (fun (j_2_3_l, j_2_3_p, j_2_3_c, j_2_3_n) => [(3, .slice j_2_3_p j_2_3_n j_2_3_c), (0, .slice qp0 l0.length qc1)]) (fun (j_2_3_l, j_2_3_p, j_2_3_c, j_2_3_n) => [.sli 7 R_Api_ExprD qp0 qc1 l0]) (fun (j_2_3_l, j_2_3_p, j_2_3_c, j_2_3_n) => [.own 31 7 RS_Api_ExprD (.slice j_2_3_p j_2_3_n j_2_3_c) j_2_3_l]) ?_ ?_
  ·
   refine wc_seq (wc_region (wP rfl (wl_nil (we_then (wc_block (wc_loop (σ := Nat × Nat × (List Api_ExprDS) × (Option Addr) × Nat × Nat) (fun (nu2, u2_6, u2_3_l, u2_3_p, u2_3_c, u2_3_n) => iter (m_ropewalkkit_LentExprs_v2_L2 N) nu2 (u2_6, u2_3_l) = some bj_2) (fun (nu2, u2_6, u2_3_l, u2_3_p, u2_3_c, u2_3_n) => nu2) (fun (nu2, u2_6, u2_3_l, u2_3_p, u2_3_c, u2_3_n) => [(6, .int .i64 ((u2_6 : Nat) : Int)), (3, .slice u2_3_p u2_3_n u2_3_c), (0, .slice qp0 l0.length qc1)]) (fun (nu2, u2_6, u2_3_l, u2_3_p, u2_3_c, u2_3_n) => [.sli 7 R_Api_ExprD qp0 qc1 l0]) (fun (nu2, u2_6, u2_3_l, u2_3_p, u2_3_c, u2_3_n) => [.own 31 7 RS_Api_ExprD (.slice u2_3_p u2_3_n u2_3_c) u2_3_l]) (N, 0, j_1_3_l, j_1_3_p, j_1_3_c, j_1_3_n) hm [6,3,0] rfl (asK [0] rfl) rfl (fun s_ hm => ?_)))))))
   obtain ⟨nu2, u2_6, u2_3_l, u2_3_p, u2_3_c, u2_3_n⟩ := s_
   try dsimp only at hm ⊢
   obtain ⟨mu2, bu2, hnu2, hq, hLu2⟩ := iter_some hm
   clear hm
   subst hnu2
   replace hm := hq
   clear hq
   unfold m_ropewalkkit_LentExprs_v2_L2 at hm
   try dsimp only at hm
   refine wc_seq (wc_seq (wc_region (wP rfl (wP rfl (wl_as (d := 27) (v' := .bool (decide (u2_6 < 12))) (S' := [_,_,_,_]) rfl rfl (natlt (a := u2_6) (b := 12)) (wl_nil (we_then (wc_keep [27,6,3,0] (S' := [_,_,_,_]) rfl ?_))))))))
   refine wc_cond rfl (fun hb27 => ?_) (fun hb27 => ?_)
   ·
    replace hm := iteT hm hb27
    refine wc_keep [6,3,0] (S' := [_,_,_]) rfl (wc_skip (we_then (wc_seq (wc_block (wc_region (wP rfl (wP rfl ?_)))))))
    obtain ⟨_, hc32, hm⟩ := bindO_some hm
    try dsimp only at hm
    refine wC [] [0] rfl fn_53 rfl (w_ropewalkkit_markExpr_s N 1 ((u2_6 : Nat) : Int) hc32) (asK [] rfl) rfl (H' := [_]) rfl ?_
    rintro _ _ _ ⟨rfl, rfl, rfl⟩
    refine wl_buildSlice rfl rfl rfl (freshS_eq rfl) rfl tE_29 tS_31 tZ_31 rfl (zs := [.int .u8 0, .int .u8 0, .int .i64 0, .string ((⟨#[]⟩ : ByteArray)), .int .i64 0, .int .u8 0, .slice none 0 0]) (by kernel_rfl) rfl (out := [_,_,_,_,_,_,_]) rfl (fun g33 => ?_)
    obtain ⟨hg34, hm⟩ := gd_some hm
    refine wl_appendH ([(⟨0, (⟨0,0, (⟨#[]⟩ : ByteArray)⟩ : V), (IntKind.wrap .i64 ((IntKind.wrap .i64 (1000003 * (IntKind.wrap .i64 (1 + 7)))) + ((u2_6 : Nat) : Int))), 0, ([] : List Api_ExprDS), ([] : List Api_ExprDS)⟩ : Api_ExprDS)]) 1 0 rfl rfl rfl (freshS_eq rfl) rfl rfl rfl rfl rfl (fun F w hφ => ⟨[.int .u8 0, .int .u8 0, .int .i64 0, .string ((⟨#[]⟩ : ByteArray)), .int .i64 (IntKind.wrap .i64 ((IntKind.wrap .i64 (1000003 * (IntKind.wrap .i64 (1 + 7)))) + ((u2_6 : Nat) : Int))), .int .u8 0, .slice none 0 0],[], rfl, rfl, (rec_shut (none, 0) rfl (ask_cons sli_none ask_nil)), rfl⟩) tE_29 tR_31 rfl rfl (Nat.le_trans hg34 (by decide)) (Nat.le_trans (Nat.mul_le_mul_right _ hg34) (by decide)) (H2 := fun p34 c34 => [_, .own 31 7 RS_Api_ExprD (.slice p34 ((u2_3_l ++ ([(⟨0, (⟨0,0, (⟨#[]⟩ : ByteArray)⟩ : V), (IntKind.wrap .i64 ((IntKind.wrap .i64 (1000003 * (IntKind.wrap .i64 (1 + 7)))) + ((u2_6 : Nat) : Int))), 0, ([] : List Api_ExprDS), ([] : List Api_ExprDS)⟩ : Api_ExprDS)])).length) c34) (u2_3_l ++ ([(⟨0, (⟨0,0, (⟨#[]⟩ : ByteArray)⟩ : V), (IntKind.wrap .i64 ((IntKind.wrap .i64 (1000003 * (IntKind.wrap .i64 (1 + 7)))) + ((u2_6 : Nat) : Int))), 0, ([] : List Api_ExprDS), ([] : List Api_ExprDS)⟩ : Api_ExprDS)]))]) (fun _ _ => rfl) (fun p34 c34 => (wl_drop 0 rfl (H' := [_]) rfl (wl_pure (S' := [_,_,_,_,_,_,_]) rfl rfl rfl rfl rfl (wl_nil (we_block_normal (we_then (wc_keep [3,6,0] (S' := [_,_,_]) rfl (wc_region (wP rfl (wP rfl ?_))))))))))
    obtain ⟨hg29, hm⟩ := gd_some hm
    refine wl_as (d := 29) (v' := .int .i64 ((u2_6 + 1 : Nat) : Int)) (S' := [_,_,_,_]) rfl rfl (nat_add (a := u2_6) (b := 1) hg29) (wl_pure (S' := [_,_,_,_]) rfl rfl rfl rfl rfl (wl_nil ?_))
    have hE := (Option.some.inj hm).symm
    replace hE := link_inl hLu2 hE
    refine we_roundK (_, u2_6 + 1, (u2_3_l ++ ([(⟨0, (⟨0,0, (⟨#[]⟩ : ByteArray)⟩ : V), (IntKind.wrap .i64 ((IntKind.wrap .i64 (1000003 * (IntKind.wrap .i64 (1 + 7)))) + ((u2_6 : Nat) : Int))), 0, ([] : List Api_ExprDS), ([] : List Api_ExprDS)⟩ : Api_ExprDS)])), p34, c34, ((u2_3_l ++ ([(⟨0, (⟨0,0, (⟨#[]⟩ : ByteArray)⟩ : V), (IntKind.wrap .i64 ((IntKind.wrap .i64 (1000003 * (IntKind.wrap .i64 (1 + 7)))) + ((u2_6 : Nat) : Int))), 0, ([] : List Api_ExprDS), ([] : List Api_ExprDS)⟩ : Api_ExprDS)])).length)) (Nat.lt_succ_self _) hE [6,3,0] rfl (asK [0] rfl) rfl
   ·
    replace hm := iteF hm hb27
    refine wc_keep [3,0] (S' := [_,_]) rfl (wc_exit (we_then_exit (we_then_exit (we_block_hit ?_))))
    have hE := (Option.some.inj hm).symm
    replace hE := link_inr hLu2 hE
    refine we_join (u2_3_l, u2_3_p, u2_3_c, u2_3_n) hE [3,0] rfl (asK [0] rfl) rfl
  ·
   rintro ⟨j_2_3_l, j_2_3_p, j_2_3_c, j_2_3_n⟩ hE
   try dsimp only
   have hm := hLj_2
   rw [hE] at hm
   refine wc_seq (wc_region (wP rfl (wP rfl (wN rfl tE_29 ?_))))
   obtain ⟨hg38, hm⟩ := gd_some hm
   refine wl_ownSpot 0 rfl (fun hsp38 hcm38 => (wl_sliceTo rfl rfl rfl (freshS_eq rfl) rfl rfl rfl rfl tE_29 tS_31 (Nat.le_trans hg38 (by rw [← hcm38.2]; exact hcm38.1)) hsp38 (wP rfl (wl_nil (we_then (wc_keep [2] (S' := [_]) rfl (wc_ret ?_)))))))
   have hE := (Option.some.inj hm).symm
   replace hE := hE.symm
   subst hE
   refine ret_one (Hr := [_]) [0] Tryz.results41 (res_tmp rfl) ⟨j_2_3_p, j_2_3_c, j_2_3_n, rfl, rfl, rfl⟩ (asK [] rfl) rfl rfl (.inl rfl)
theorem w_ropewalkkit_LentExpr_s_b (N : Nat) (rc : Int → Int → Int → ByteArray → Int → Int → (List Api_ExprD) → Option (Int × Int × Int × ByteArray × Int × Int × (List Api_ExprDS) × Nat)) (ih : ∀ (a0 : Int) (a1 : Int) (a2 : Int) (a3 : ByteArray) (a4 : Int) (a5 : Int) (qp0 : Option Addr) (qc1 : Nat) (l6 : List Api_ExprD) (o0 : Int) (o1 : Int) (o2 : Int) (o3 : ByteArray) (o4 : Int) (o5 : Int) (o8 : List Api_ExprDS) (o10 : Nat), rc a0 a1 a2 a3 a4 a5 l6 = some (o0, o1, o2, o3, o4, o5, o8, o10) → Spec Tryz.prog 24 [.agg #[.int .u8 a0, .int .u8 a1, .int .i64 a2, .string a3, .int .i64 a4, .int .u8 a5, .slice qp0 l6.length qc1]] [.sli 7 R_Api_ExprD qp0 qc1 l6] [] (fun v Φr Hr => ∃ (o6 : Option Addr) (o7 : Nat) (o9 : Nat), v = .agg #[.int .u8 o0, .int .u8 o1, .int .i64 o2, .string o3, .int .i64 o4, .int .u8 o5, .slice o6 o10 o7] ∧ Φr = [] ∧ Hr = [.own 31 7 RS_Api_ExprD (.slice o6 o9 o7) o8])) (a0 : Int) (a1 : Int) (a2 : Int) (a3 : ByteArray) (a4 : Int) (a5 : Int) (qp0 : Option Addr) (qc1 : Nat) (l6 : List Api_ExprD) (o0 : Int) (o1 : Int) (o2 : Int) (o3 : ByteArray) (o4 : Int) (o5 : Int) (o8 : List Api_ExprDS) (o10 : Nat) (hm : m_ropewalkkit_LentExpr_b N rc a0 a1 a2 a3 a4 a5 l6 = some (o0, o1, o2, o3, o4, o5, o8, o10)) : Spec Tryz.prog 24 [.agg #[.int .u8 a0, .int .u8 a1, .int .i64 a2, .string a3, .int .i64 a4, .int .u8 a5, .slice qp0 l6.length qc1]] [.sli 7 R_Api_ExprD qp0 qc1 l6] [] (fun v Φr Hr => ∃ (o6 : Option Addr) (o7 : Nat) (o9 : Nat), v = .agg #[.int .u8 o0, .int .u8 o1, .int .i64 o2, .string o3, .int .i64 o4, .int .u8 o5, .slice o6 o10 o7] ∧ Φr = [] ∧ Hr = [.own 31 7 RS_Api_ExprD (.slice o6 o9 o7) o8]) := by
 unfold m_ropewalkkit_LentExpr_b at hm
 refine spec_of Tryz.func24 rfl Tryz.ntmps24 rfl (S := [_]) rfl (fun C => (wc_seq (wc_region (wB rfl (fun g1 => (wl_alloc rfl rfl rfl (freshS_eq rfl) rfl tZ_31 rfl (fun g2 => (wl_nil (we_then (wc_keep [2,1] (S' := [_,_]) rfl (wc_seq (wc_region (wF rfl tF_31_4 (wD 1 6 rfl tS_29 tA_29 rfl ?_))))))))))))))
 obtain ⟨v5, hc5, hm⟩ := bindO_some hm
 refine wC [] [0,1] rfl fn_41 rfl (w_ropewalkkit_LentExprs_v2_s N rc ih qp0 qc1 l6 _ hc5) (asK [0] rfl) rfl (H' := [_,_]) rfl ?_
 rintro _ _ _ ⟨p5_0, c5_1, c5_2, rfl, rfl, rfl⟩
 refine wF rfl tF_31_4 (wS 2 6 rfl tS_29 (all' := [_,_,_,_,_,_,_]) rfl (H' := [_,_,_]) rfl (wl_nil (we_then (wc_keep [2,1] (S' := [_,_]) rfl (wc_seq (wc_region (wl_loadH 2 0 rfl rfl rfl (freshS_eq rfl) rfl rfl rfl (cs := [_,_,_,_,_,_,_]) rfl tS_31 tA_31 rfl rfl (wS 1 0 rfl tS_31 (all' := [_,_,_,_,_,_,_]) rfl (H' := [_,_,_]) rfl (wl_nil (we_then (wc_keep [2] (S' := [_]) rfl (wc_ret ?_))))))))))))
 have hE := (Option.some.inj hm).symm
 obtain ⟨hE0, hF1⟩ := Prod.mk.inj hE
 obtain ⟨hE1, hF2⟩ := Prod.mk.inj hF1
 obtain ⟨hE2, hF3⟩ := Prod.mk.inj hF2
 obtain ⟨hE3, hF4⟩ := Prod.mk.inj hF3
 obtain ⟨hE4, hF5⟩ := Prod.mk.inj hF4
 obtain ⟨hE5, hF6⟩ := Prod.mk.inj hF5
 obtain ⟨hE6, hE7⟩ := Prod.mk.inj hF6
 clear hE hF1 hF2 hF3 hF4 hF5 hF6
 replace hE0 := hE0.symm
 subst hE0
 replace hE1 := hE1.symm
 subst hE1
 replace hE2 := hE2.symm
 subst hE2
 replace hE3 := hE3.symm
 subst hE3
 replace hE4 := hE4.symm
 subst hE4
 replace hE5 := hE5.symm
 subst hE5
 replace hE6 := hE6.symm
 subst hE6
 replace hE7 := hE7.symm
 subst hE7
 refine ret_one (Hr := [_]) [0] Tryz.results24 (res_cell 1 rfl rfl tS_31 tA_31 rfl rfl) ⟨p5_0, c5_1, c5_2, rfl, rfl, rfl⟩ (asK [] rfl) rfl rfl (.inl rfl)
theorem w_ropewalkkit_LentExpr_s : ∀ (N : Nat), ∀ (a0 : Int) (a1 : Int) (a2 : Int) (a3 : ByteArray) (a4 : Int) (a5 : Int) (qp0 : Option Addr) (qc1 : Nat) (l6 : List Api_ExprD) (o0 : Int) (o1 : Int) (o2 : Int) (o3 : ByteArray) (o4 : Int) (o5 : Int) (o8 : List Api_ExprDS) (o10 : Nat), m_ropewalkkit_LentExpr N a0 a1 a2 a3 a4 a5 l6 = some (o0, o1, o2, o3, o4, o5, o8, o10) → Spec Tryz.prog 24 [.agg #[.int .u8 a0, .int .u8 a1, .int .i64 a2, .string a3, .int .i64 a4, .int .u8 a5, .slice qp0 l6.length qc1]] [.sli 7 R_Api_ExprD qp0 qc1 l6] [] (fun v Φr Hr => ∃ (o6 : Option Addr) (o7 : Nat) (o9 : Nat), v = .agg #[.int .u8 o0, .int .u8 o1, .int .i64 o2, .string o3, .int .i64 o4, .int .u8 o5, .slice o6 o10 o7] ∧ Φr = [] ∧ Hr = [.own 31 7 RS_Api_ExprD (.slice o6 o9 o7) o8]) := by
  intro N
  induction N with
  | zero => intro a0 a1 a2 a3 a4 a5 qp0 qc1 l6 o0 o1 o2 o3 o4 o5 o8 o10 hm; cases hm
  | succ N ih => intro a0 a1 a2 a3 a4 a5 qp0 qc1 l6 o0 o1 o2 o3 o4 o5 o8 o10 hm; exact w_ropewalkkit_LentExpr_s_b N (m_ropewalkkit_LentExpr N) ih a0 a1 a2 a3 a4 a5 qp0 qc1 l6 o0 o1 o2 o3 o4 o5 o8 o10 hm
theorem w_ropewalkkit_LentCond_s (N : Nat) (a0 : Int) (a1 : Int) (qp0 : Option Addr) (qc1 : Nat) (l2 : List ArgD) (a3 : Int) (a4 : Int) (a5 : Int) (a6 : ByteArray) (a7 : Int) (a8 : Int) (qp2 : Option Addr) (qc3 : Nat) (l9 : List Api_ExprD) (o2 : List ArgD) (o4 : Int) (o5 : Int) (o6 : Int) (o7 : ByteArray) (o8 : Int) (o9 : Int) (o12 : List Api_ExprDS) (o14 : Nat) (hm : m_ropewalkkit_LentCond N a0 a1 l2 a3 a4 a5 a6 a7 a8 l9 = some (o2, o4, o5, o6, o7, o8, o9, o12, o14)) : Spec Tryz.prog 7 [.agg #[.int .u8 a0, .int .i64 a1, .slice qp0 l2.length qc1, .int .u8 a3, .int .u8 a4, .int .i64 a5, .string a6, .int .i64 a7, .int .u8 a8, .slice qp2 l9.length qc3]] [.sli 5 R_ArgD qp0 qc1 l2, .sli 7 R_Api_ExprD qp2 qc3 l9] [] (fun v Φr Hr => ∃ (o0 : Option Addr) (o1 : Nat) (o3 : Nat) (o10 : Option Addr) (o11 : Nat) (o13 : Nat), v = .agg #[.int .u8 a0, .int .i64 a1, .slice o0 l2.length o1, .int .u8 o4, .int .u8 o5, .int .i64 o6, .string o7, .int .i64 o8, .int .u8 o9, .slice o10 o14 o11] ∧ Φr = [] ∧ Hr = [.own 64 5 R_ArgD (.slice o0 o3 o1) o2, .own 31 7 RS_Api_ExprD (.slice o10 o13 o11) o12]) := by
 unfold m_ropewalkkit_LentCond at hm
 refine spec_of Tryz.func7 rfl Tryz.ntmps7 rfl (S := [_]) rfl (fun C => (wc_seq (wc_region (wB rfl (fun g1 => (wl_alloc rfl rfl rfl (freshS_eq rfl) rfl tZ_33 rfl (fun g2 => (wl_nil (we_then (wc_keep [2,1] (S' := [_,_]) rfl (wc_seq (wc_region (wF rfl tF_33_2 (wD 1 2 rfl tS_23 tA_23 rfl ?_))))))))))))))
 obtain ⟨v5, hc5, hm⟩ := bindO_some hm
 refine wC [] [0,1] rfl fn_23 rfl (w_ropewalkkit_LentArgs_s N qp0 qc1 l2 _ hc5) (asK [0] rfl) rfl (H' := [_,_]) rfl ?_
 rintro _ _ _ ⟨p5_0, c5_1, c5_2, rfl, rfl, rfl⟩
 refine wF rfl tF_33_2 (wS 2 2 rfl tS_23 (all' := [_,_,_,_,_,_,_,_,_,_]) rfl (H' := [_,_,_]) rfl (wl_nil (we_then (wc_keep [2,1] (S' := [_,_]) rfl (wc_seq (wc_region (wF rfl tF_33_3 (wl_loadH 2 3 rfl rfl rfl (freshS_eq rfl) rfl rfl rfl (cs := [_,_,_,_,_,_,_]) rfl tS_31 tA_31 rfl rfl ?_))))))))
 obtain ⟨⟨v9_0, v9_1, v9_2, v9_3, v9_4, v9_5, v9_6, v9_7⟩, hc9, hm⟩ := bindO_some hm
 try dsimp only at hm
 refine wC [] [0,1,2] rfl fn_24 rfl (w_ropewalkkit_LentExpr_s N a3 a4 a5 a6 a7 a8 qp2 qc3 l9 _ _ _ _ _ _ _ _ hc9) (asK [1] rfl) rfl (H' := [_,_,_]) rfl ?_
 rintro _ _ _ ⟨p9_0, c9_1, c9_2, rfl, rfl, rfl⟩
 refine wF rfl tF_33_3 (wS 3 3 rfl tS_31 (all' := [_,_,_,_,_,_,_,_,_,_]) rfl (H' := [_,_,_,_]) rfl (wl_nil (we_then (wc_keep [2,1] (S' := [_,_]) rfl (wc_seq (wc_region (wl_loadH 3 0 rfl rfl rfl (freshS_eq rfl) rfl rfl rfl (cs := [_,_,_,_,_,_,_,_,_,_]) rfl tS_33 tA_33 rfl rfl (wS 2 0 rfl tS_33 (all' := [_,_,_,_,_,_,_,_,_,_]) rfl (H' := [_,_,_,_]) rfl (wl_nil (we_then (wc_keep [2] (S' := [_]) rfl (wc_ret ?_))))))))))))
 have hE := (Option.some.inj hm).symm
 obtain ⟨hE0, hF1⟩ := Prod.mk.inj hE
 obtain ⟨hE1, hF2⟩ := Prod.mk.inj hF1
 obtain ⟨hE2, hF3⟩ := Prod.mk.inj hF2
 obtain ⟨hE3, hF4⟩ := Prod.mk.inj hF3
 obtain ⟨hE4, hF5⟩ := Prod.mk.inj hF4
 obtain ⟨hE5, hF6⟩ := Prod.mk.inj hF5
 obtain ⟨hE6, hF7⟩ := Prod.mk.inj hF6
 obtain ⟨hE7, hE8⟩ := Prod.mk.inj hF7
 clear hE hF1 hF2 hF3 hF4 hF5 hF6 hF7
 replace hE0 := hE0.symm
 subst hE0
 replace hE1 := hE1.symm
 subst hE1
 replace hE2 := hE2.symm
 subst hE2
 replace hE3 := hE3.symm
 subst hE3
 replace hE4 := hE4.symm
 subst hE4
 replace hE5 := hE5.symm
 subst hE5
 replace hE6 := hE6.symm
 subst hE6
 replace hE7 := hE7.symm
 subst hE7
 replace hE8 := hE8.symm
 subst hE8
 refine ret_one (Hr := [_,_]) [1,0] Tryz.results7 (res_cell 2 rfl rfl tS_33 tA_33 rfl rfl) ⟨p5_0, c5_1, c5_2, p9_0, c9_1, c9_2, rfl, rfl, rfl⟩ (asK [] rfl) rfl rfl (.inl rfl)
theorem w_ropewalkkit_markValue_s (N : Nat) (a0 : Int) (a1 : Int)  (hm : m_ropewalkkit_markValue N a0 a1 = some ()) : Spec Tryz.prog 25 [.int .i64 a0, .int .i64 a1] [] [] (fun v Φr Hr => v = .agg #[.int .u8 0, .int .i64 (IntKind.wrap .i64 ((IntKind.wrap .i64 (1000003 * (IntKind.wrap .i64 (a0 + 7)))) + a1)), .string ((⟨#[]⟩ : ByteArray))] ∧ Φr = [] ∧ Hr = []) := by
 unfold m_ropewalkkit_markValue at hm
 refine spec_of Tryz.func25 rfl Tryz.ntmps25 rfl (S := [_,_]) rfl (fun C => (wc_seq (wc_region (wl_alloc rfl rfl rfl (freshS_eq rfl) rfl tZ_27 rfl (fun g4 => (wl_nil (we_then (wc_seq (wc_region (wP rfl (wP rfl ?_)))))))))))
 obtain ⟨_, hc7, hm⟩ := bindO_some hm
 try dsimp only at hm
 refine wC [] [0] rfl fn_42 rfl (w_ropewalkkit_mark_s N a0 a1 hc7) (asK [] rfl) rfl (H' := [_]) rfl ?_
 rintro _ _ _ ⟨rfl, rfl, rfl⟩
 refine wl_build rfl rfl rfl (freshS_eq rfl) rfl tZ_27 tP_27 rfl (out := [_,_,_]) rfl (wS 0 0 rfl tS_27 (all' := [_,_,_]) rfl (H' := [_]) rfl (wl_nil (we_then (wc_keep [4] (S' := [_]) rfl (wc_ret ?_)))))
 have hE := (Option.some.inj hm).symm
 refine ret_one (Hr := []) [] Tryz.results25 (res_cell 0 rfl rfl tS_27 tA_27 rfl rfl) ⟨rfl, rfl, rfl⟩ (asK [] rfl) rfl rfl (.inl rfl)
theorem w_ropewalkkit_LentValues_s (N : Nat) (qp0 : Option Addr) (qc1 : Nat) (l0 : List V) (o2 : List V) (hm : m_ropewalkkit_LentValues N l0 = some o2) : Spec Tryz.prog 9 [.slice qp0 l0.length qc1] [.sli 3 R_V qp0 qc1 l0] [] (fun v Φr Hr => ∃ (o0 : Option Addr) (o1 : Nat) (o3 : Nat), v = .slice o0 l0.length o1 ∧ Φr = [] ∧ Hr = [.own 27 3 R_V (.slice o0 o3 o1) o2]) := by
 unfold m_ropewalkkit_LentValues at hm
 refine spec_of Tryz.func9 rfl Tryz.ntmps9 rfl (S := [_]) rfl (fun C => (wc_seq (wc_region (wP rfl (wl_nil (we_then (wc_keep [0] (S' := [_]) rfl (wc_seq (wc_region (wP rfl (wN rfl tE_34 (wP rfl ?_))))))))))))
 obtain ⟨hg7, hm⟩ := gd_some hm
 refine wl_as (d := 7) (v' := .int .i64 ((l0.length + 12 : Nat) : Int)) (S' := [_,_,_]) rfl rfl (nat_add (a := l0.length) (b := 12) hg7) ?_
 obtain ⟨hg8, hm⟩ := gd_some hm
 refine wl_makeCap (m := l0.length + 12) R_V rfl rfl rfl (freshS_eq rfl) rfl rfl rfl rfl tE_34 tR_27 rfl rfl (Nat.le_trans (Nat.mul_le_mul_left _ hg8) (by decide)) (Nat.le_trans hg8 (by decide)) (fun g8 => (wP rfl (wl_nil (we_then (wc_keep [3,0] (S' := [_,_]) rfl (wc_seq (wc_region (wP rfl (wP rfl ?_)))))))))
 obtain ⟨hg11, hm⟩ := gd_some hm
 refine wl_append 0 0 rfl rfl rfl (freshS_eq rfl) rfl rfl rfl rfl rfl tE_34 tR_27 rfl rfl (Nat.le_trans hg11 (by decide)) (Nat.le_trans (Nat.mul_le_mul_right _ hg11) (by decide)) (H2 := fun p11 c11 => [.own 27 3 R_V (.slice p11 (l0).length c11) l0]) (fun _ _ => rfl) (fun p11 c11 => (wl_pure (S' := [_,_,_,_]) rfl rfl rfl rfl rfl (wl_nil (we_then (wc_keep [3,0] (S' := [_,_]) rfl (wc_seq ?_))))))
 obtain ⟨bj_1, hm, hLj_1⟩ := bindO_some hm
 refine wc_cut (σ := (List V) × (Option Addr) × Nat × Nat) (fun (j_1_3_l, j_1_3_p, j_1_3_c, j_1_3_n) => bj_1 = j_1_3_l) (fun (j_1_3_l, j_1_3_p, j_1_3_c, j_1_3_n) => [(3, .slice j_1_3_p j_1_3_n j_1_3_c), (0, .slice qp0 l0.length qc1)]) (fun (j_1_3_l, j_1_3_p, j_1_3_c, j_1_3_n) => [.sli 3 R_V qp0 qc1 l0]) (fun (j_1_3_l, j_1_3_p, j_1_3_c, j_1_3_n) => [.own 27 3 R_V (.slice j_1_3_p j_1_3_n j_1_3_c) j_1_3_l]) ?_ ?_
 ·
  refine wc_seq (wc_region (wP rfl (wl_nil (we_then (wc_block (wc_loop (σ := Nat × Nat × (List V) × (Option Addr) × Nat × Nat) (fun (nu1, u1_4, u1_3_l, u1_3_p, u1_3_c, u1_3_n) => iter (m_ropewalkkit_LentValues_L1 N) nu1 (u1_4, u1_3_l) = some bj_1) (fun (nu1, u1_4, u1_3_l, u1_3_p, u1_3_c, u1_3_n) => nu1) (fun (nu1, u1_4, u1_3_l, u1_3_p, u1_3_c, u1_3_n) => [(4, .int .i64 ((u1_4 : Nat) : Int)), (3, .slice u1_3_p u1_3_n u1_3_c), (0, .slice qp0 l0.length qc1)]) (fun (nu1, u1_4, u1_3_l, u1_3_p, u1_3_c, u1_3_n) => [.sli 3 R_V qp0 qc1 l0]) (fun (nu1, u1_4, u1_3_l, u1_3_p, u1_3_c, u1_3_n) => [.own 27 3 R_V (.slice u1_3_p u1_3_n u1_3_c) u1_3_l]) (N, 0, l0, p11, c11, (l0).length) hm [4,3,0] rfl (asK [0] rfl) rfl (fun s_ hm => ?_)))))))
  obtain ⟨nu1, u1_4, u1_3_l, u1_3_p, u1_3_c, u1_3_n⟩ := s_
  try dsimp only at hm ⊢
  obtain ⟨mu1, bu1, hnu1, hq, hLu1⟩ := iter_some hm
  clear hm
  subst hnu1
  replace hm := hq
  clear hq
  unfold m_ropewalkkit_LentValues_L1 at hm
  try dsimp only at hm
  refine wc_seq (wc_seq (wc_region (wP rfl (wP rfl (wl_as (d := 13) (v' := .bool (decide (u1_4 < 12))) (S' := [_,_,_,_]) rfl rfl (natlt (a := u1_4) (b := 12)) (wl_nil (we_then (wc_keep [13,4,3,0] (S' := [_,_,_,_]) rfl ?_))))))))
  refine wc_cond rfl (fun hb13 => ?_) (fun hb13 => ?_)
  ·
   replace hm := iteT hm hb13
   refine wc_keep [4,3,0] (S' := [_,_,_]) rfl (wc_skip (we_then (wc_seq (wc_block (wc_region (wP rfl (wP rfl ?_)))))))
   obtain ⟨_, hc18, hm⟩ := bindO_some hm
   try dsimp only at hm
   refine wC [] [0] rfl fn_25 rfl (w_ropewalkkit_markValue_s N 1 ((u1_4 : Nat) : Int) hc18) (asK [] rfl) rfl (H' := [_]) rfl ?_
   rintro _ _ _ ⟨rfl, rfl, rfl⟩
   refine wl_buildSlice rfl rfl rfl (freshS_eq rfl) rfl tE_34 tS_27 tZ_27 rfl (zs := [.int .u8 0, .int .i64 0, .string ((⟨#[]⟩ : ByteArray))]) (by kernel_rfl) rfl (out := [_,_,_]) rfl (fun g19 => ?_)
   obtain ⟨hg20, hm⟩ := gd_some hm
   refine wl_appendH ([(⟨0, (IntKind.wrap .i64 ((IntKind.wrap .i64 (1000003 * (IntKind.wrap .i64 (1 + 7)))) + ((u1_4 : Nat) : Int))), (⟨#[]⟩ : ByteArray)⟩ : V)]) 1 0 rfl rfl rfl (freshS_eq rfl) rfl rfl rfl rfl rfl (fun F w hφ => ⟨[.int .u8 0, .int .i64 (IntKind.wrap .i64 ((IntKind.wrap .i64 (1000003 * (IntKind.wrap .i64 (1 + 7)))) + ((u1_4 : Nat) : Int))), .string ((⟨#[]⟩ : ByteArray))],[], rfl, rfl, ⟨(), rfl, ask_nil⟩, rfl⟩) tE_34 tR_27 rfl rfl (Nat.le_trans hg20 (by decide)) (Nat.le_trans (Nat.mul_le_mul_right _ hg20) (by decide)) (H2 := fun p20 c20 => [_, .own 27 3 R_V (.slice p20 ((u1_3_l ++ ([(⟨0, (IntKind.wrap .i64 ((IntKind.wrap .i64 (1000003 * (IntKind.wrap .i64 (1 + 7)))) + ((u1_4 : Nat) : Int))), (⟨#[]⟩ : ByteArray)⟩ : V)])).length) c20) (u1_3_l ++ ([(⟨0, (IntKind.wrap .i64 ((IntKind.wrap .i64 (1000003 * (IntKind.wrap .i64 (1 + 7)))) + ((u1_4 : Nat) : Int))), (⟨#[]⟩ : ByteArray)⟩ : V)]))]) (fun _ _ => rfl) (fun p20 c20 => (wl_drop 0 rfl (H' := [_]) rfl (wl_pure (S' := [_,_,_,_,_,_,_]) rfl rfl rfl rfl rfl (wl_nil (we_block_normal (we_then (wc_keep [3,4,0] (S' := [_,_,_]) rfl (wc_region (wP rfl (wP rfl ?_))))))))))
   obtain ⟨hg15, hm⟩ := gd_some hm
   refine wl_as (d := 15) (v' := .int .i64 ((u1_4 + 1 : Nat) : Int)) (S' := [_,_,_,_]) rfl rfl (nat_add (a := u1_4) (b := 1) hg15) (wl_pure (S' := [_,_,_,_]) rfl rfl rfl rfl rfl (wl_nil ?_))
   have hE := (Option.some.inj hm).symm
   replace hE := link_inl hLu1 hE
   refine we_roundK (_, u1_4 + 1, (u1_3_l ++ ([(⟨0, (IntKind.wrap .i64 ((IntKind.wrap .i64 (1000003 * (IntKind.wrap .i64 (1 + 7)))) + ((u1_4 : Nat) : Int))), (⟨#[]⟩ : ByteArray)⟩ : V)])), p20, c20, ((u1_3_l ++ ([(⟨0, (IntKind.wrap .i64 ((IntKind.wrap .i64 (1000003 * (IntKind.wrap .i64 (1 + 7)))) + ((u1_4 : Nat) : Int))), (⟨#[]⟩ : ByteArray)⟩ : V)])).length)) (Nat.lt_succ_self _) hE [4,3,0] rfl (asK [0] rfl) rfl
  ·
   replace hm := iteF hm hb13
   refine wc_keep [3,0] (S' := [_,_]) rfl (wc_exit (we_then_exit (we_then_exit (we_block_hit ?_))))
   have hE := (Option.some.inj hm).symm
   replace hE := link_inr hLu1 hE
   refine we_join (u1_3_l, u1_3_p, u1_3_c, u1_3_n) hE [3,0] rfl (asK [0] rfl) rfl
 ·
  rintro ⟨j_1_3_l, j_1_3_p, j_1_3_c, j_1_3_n⟩ hE
  try dsimp only
  have hm := hLj_1
  rw [hE] at hm
  refine wc_seq (wc_region (wP rfl (wP rfl (wN rfl tE_34 ?_))))
  obtain ⟨hg24, hm⟩ := gd_some hm
  refine wl_ownSpot 0 rfl (fun hsp24 hcm24 => (wl_sliceTo rfl rfl rfl (freshS_eq rfl) rfl rfl rfl rfl tE_34 tS_27 (Nat.le_trans hg24 (by rw [← hcm24.2]; exact hcm24.1)) hsp24 (wP rfl (wl_nil (we_then (wc_keep [2] (S' := [_]) rfl (wc_ret ?_)))))))
  have hE := (Option.some.inj hm).symm
  replace hE := hE.symm
  subst hE
  refine ret_one (Hr := [_]) [0] Tryz.results9 (res_tmp rfl) ⟨j_1_3_p, j_1_3_c, j_1_3_n, rfl, rfl, rfl⟩ (asK [] rfl) rfl rfl (.inl rfl)
theorem w_ropewalkkit_LentFact_s (N : Nat) (a0 : Int) (a1 : Int) (qp0 : Option Addr) (qc1 : Nat) (l2 : List V) (o2 : List V) (hm : m_ropewalkkit_LentFact N a0 a1 l2 = some o2) : Spec Tryz.prog 8 [.agg #[.int .i64 a0, .int .i64 a1, .slice qp0 l2.length qc1]] [.sli 3 R_V qp0 qc1 l2] [] (fun v Φr Hr => ∃ (o0 : Option Addr) (o1 : Nat) (o3 : Nat), v = .agg #[.int .i64 a0, .int .i64 a1, .slice o0 l2.length o1] ∧ Φr = [] ∧ Hr = [.own 27 3 R_V (.slice o0 o3 o1) o2]) := by
 unfold m_ropewalkkit_LentFact at hm
 refine spec_of Tryz.func8 rfl Tryz.ntmps8 rfl (S := [_]) rfl (fun C => (wc_seq (wc_region (wB rfl (fun g1 => (wl_alloc rfl rfl rfl (freshS_eq rfl) rfl tZ_36 rfl (fun g2 => (wl_nil (we_then (wc_keep [2,1] (S' := [_,_]) rfl (wc_seq (wc_region (wF rfl tF_36_2 (wD 1 2 rfl tS_34 tA_34 rfl ?_))))))))))))))
 obtain ⟨v5, hc5, hm⟩ := bindO_some hm
 refine wC [] [0,1] rfl fn_9 rfl (w_ropewalkkit_LentValues_s N qp0 qc1 l2 _ hc5) (asK [0] rfl) rfl (H' := [_,_]) rfl ?_
 rintro _ _ _ ⟨p5_0, c5_1, c5_2, rfl, rfl, rfl⟩
 refine wF rfl tF_36_2 (wS 2 2 rfl tS_34 (all' := [_,_,_]) rfl (H' := [_,_,_]) rfl (wl_nil (we_then (wc_keep [2,1] (S' := [_,_]) rfl (wc_seq (wc_region (wl_loadH 2 0 rfl rfl rfl (freshS_eq rfl) rfl rfl rfl (cs := [_,_,_]) rfl tS_36 tA_36 rfl rfl (wS 1 0 rfl tS_36 (all' := [_,_,_]) rfl (H' := [_,_,_]) rfl (wl_nil (we_then (wc_keep [2] (S' := [_]) rfl (wc_ret ?_))))))))))))
 have hE := (Option.some.inj hm).symm
 replace hE := hE.symm
 subst hE
 refine ret_one (Hr := [_]) [0] Tryz.results8 (res_cell 1 rfl rfl tS_36 tA_36 rfl rfl) ⟨p5_0, c5_1, c5_2, rfl, rfl, rfl⟩ (asK [] rfl) rfl rfl (.inl rfl)
theorem w_ropewalkref10_Made_s (N : Nat) (qp0 : Option Addr) (qc1 : Nat) (l0 : List Bool) (qp2 : Option Addr) (qc3 : Nat) (l1 : List V) (o0 : Bool) (hm : m_ropewalkref10_Made N l0 l1 = some o0) : Spec Tryz.prog 29 [.agg #[.slice qp0 l0.length qc1, .slice qp2 l1.length qc3]] [.sli 1 R_bool qp0 qc1 l0, .sli 3 R_V qp2 qc3 l1] [] (fun v Φr Hr => v = .bool o0 ∧ Φr = [] ∧ Hr = []) := by
 unfold m_ropewalkref10_Made at hm
 refine spec_of Tryz.func29 rfl Tryz.ntmps29 rfl (S := [_]) rfl (fun C => (wc_seq (wc_region (wB rfl (fun g1 => (wP rfl (wl_nil (we_then (wc_keep [1] (S' := [_]) rfl (wc_seq (wc_seq (wc_region (wF rfl tF_47_0 (wD 0 0 rfl tS_37 tA_37 rfl (wN rfl tE_37 ?_)))))))))))))))
 refine wF rfl tF_47_1 (wD 0 1 rfl tS_34 tA_34 rfl (wN rfl tE_34 (wP rfl (wl_as (d := 10) (v' := .bool (l0.length != l1.length)) (S' := [_,_,_,_,_,_,_]) rfl rfl (natne (a := l0.length) (b := l1.length)) (wl_nil (we_then (wc_keep [10,1] (S' := [_,_]) rfl ?_)))))))
 refine wc_cond rfl (fun hb10 => ?_) (fun hb10 => ?_)
 ·
  replace hm := iteT hm hb10
  refine wc_keep [] (S' := []) rfl (wc_seq (wc_region (wP rfl (wl_nil (we_then (wc_ret (we_then_ret ?_)))))))
  have hE := (Option.some.inj hm).symm
  replace hE := hE.symm
  subst hE
  refine ret_one (Hr := []) [] Tryz.results29 (res_tmp rfl) ⟨rfl, rfl, rfl⟩ (asK [] rfl) rfl rfl (.inl rfl)
 ·
  replace hm := iteF hm hb10
  refine wc_keep [1] (S' := [_]) rfl (wc_skip (we_then (wc_seq ?_)))
  obtain ⟨bj_1, hm, hLj_1⟩ := bindS_some hm
  refine wc_cut (σ := Unit) (fun _ => bj_1 = .inl ()) (fun _ => []) (fun _ => []) (fun _ => []) ?_ ?_
  ·
   refine wc_seq (wc_region (wP rfl (wl_nil (we_then (wc_block (wc_loop (σ := Nat × Nat) (fun (nu1, u1_3) => iter (m_ropewalkref10_Made_L1 N l0 l1) nu1 u1_3 = some bj_1) (fun (nu1, u1_3) => nu1) (fun (nu1, u1_3) => [(3, .int .i64 ((u1_3 : Nat) : Int)), (1, .pointer (some ⟨g1,0, none⟩))]) (fun (nu1, u1_3) => [.sli 1 R_bool qp0 qc1 l0, .sli 3 R_V qp2 qc3 l1]) (fun (nu1, u1_3) => [.blk g1 [.slice qp0 l0.length qc1, .slice qp2 l1.length qc3] 47]) (N, 0) hm [3,1] rfl (asK [0,1] rfl) rfl (fun s_ hm => ?_)))))))
   obtain ⟨nu1, u1_3⟩ := s_
   try dsimp only at hm ⊢
   obtain ⟨mu1, bu1, hnu1, hq, hLu1⟩ := iter_some hm
   clear hm
   subst hnu1
   replace hm := hq
   clear hq
   unfold m_ropewalkref10_Made_L1 at hm
   try dsimp only at hm
   refine wc_seq (wc_seq (wc_region (wP rfl (wF rfl tF_47_0 (wD 0 0 rfl tS_37 tA_37 rfl (wN rfl tE_37 (wP rfl (wl_as (d := 15) (v' := .bool (decide (u1_3 < l0.length))) (S' := [_,_,_,_,_,_]) rfl rfl (natlt (a := u1_3) (b := l0.length)) (wl_nil (we_then (wc_keep [15,3,1] (S' := [_,_,_]) rfl ?_)))))))))))
   refine wc_cond rfl (fun hb15 => ?_) (fun hb15 => ?_)
   ·
    replace hm := iteT hm hb15
    refine wc_keep [3,1] (S' := [_,_]) rfl (wc_skip (we_then (wc_seq (wc_block (wc_seq ?_)))))
    obtain ⟨bj_2, hm, hLj_2⟩ := bindO_some hm
    refine wc_cut (σ := Bool) (fun j_2_32 => bj_2 = j_2_32) (fun j_2_32 => [(3, .int .i64 ((u1_3 : Nat) : Int)), (1, .pointer (some ⟨g1,0, none⟩)), (32, .bool j_2_32)]) (fun j_2_32 => [.sli 1 R_bool qp0 qc1 l0, .sli 3 R_V qp2 qc3 l1]) (fun j_2_32 => [.blk g1 [.slice qp0 l0.length qc1, .slice qp2 l1.length qc3] 47]) ?_ ?_
    ·
     refine wc_region (wF rfl tF_47_0 (wD 0 0 rfl tS_37 tA_37 rfl (wP rfl ?_)))
     obtain ⟨x21, hx21, hm⟩ := bindO_some hm
     refine wl_indexA 0 u1_3 rfl rfl rfl (freshS_eq rfl) rfl rfl rfl rfl rfl hx21 tE_37 tS_4 (fun b21 q21 cs21 hlx21 => (wl_open R_bool_opens 1 rfl (fun r21 er21 _ => ?_)))
     subst er21
     refine wl_load 0 0 rfl rfl rfl (freshS_eq rfl) rfl rfl rfl (cs := [_]) rfl tS_4 tA_4 rfl rfl (wP rfl (wP rfl ?_))
     refine wl_split (d := 24) (S' := [_,_,_,_,_,_,_,_]) rfl rfl (fun hs24 => ?_) (fun hs24 => ?_)
     ·
      replace hm := iteT hm hs24
      refine wF rfl tF_47_1 (wD 0 1 rfl tS_34 tA_34 rfl (wP rfl ?_))
      obtain ⟨x28, hx28, hm⟩ := bindO_some hm
      refine wl_indexA 3 u1_3 rfl rfl rfl (freshS_eq rfl) rfl rfl rfl rfl rfl hx28 tE_34 tS_27 (fun b28 q28 cs28 hlx28 => (wl_open R_V_opens 1 rfl (fun r28 er28 _ => ?_)))
      subst er28
      refine wl_load 0 0 rfl rfl rfl (freshS_eq rfl) rfl rfl rfl (cs := [_,_,_]) rfl tS_27 tA_27 rfl rfl (wl_build rfl rfl rfl (freshS_eq rfl) rfl tZ_27 tP_27 rfl (out := [_,_,_]) rfl (wl_bin rfl rfl rfl (freshS_eq rfl) rfl rfl rfl (neqV _ _ x28 (⟨0,0, (⟨#[]⟩ : ByteArray)⟩ : V)) (wP rfl (wl_nil ?_))))
      have hE := (Option.some.inj hm).symm
      refine we_join (!decide (x28 = (⟨0,0, (⟨#[]⟩ : ByteArray)⟩ : V))) hE [3,1,32] rfl (asK [4,5] rfl) rfl
     ·
      replace hm := iteF hm hs24
      refine wO rfl (wO rfl (wO rfl (wO rfl (wO rfl (wO rfl (wO rfl (wP rfl (wl_nil ?_))))))))
      have hE := (Option.some.inj hm).symm
      refine we_join false hE [3,1,32] rfl (asK [2,3] rfl) rfl
    ·
     rintro j_2_32 hE
     try dsimp only
     have hm := hLj_2
     rw [hE] at hm
     refine wc_cond rfl (fun hb32 => ?_) (fun hb32 => ?_)
     ·
      replace hm := iteT hm hb32
      refine wc_keep [] (S' := []) rfl (wc_seq (wc_region (wP rfl (wl_nil (we_then (wc_ret (we_block_ret (we_then_ret (we_then_ret (we_block_ret (we_then_ret ?_)))))))))))
      have hE := (Option.some.inj hm).symm
      replace hE := link_inr hLu1 hE
      replace hE := link_inr hLj_1 hE
      replace hE := hE.symm
      subst hE
      refine ret_one (Hr := []) [] Tryz.results29 (res_tmp rfl) ⟨rfl, rfl, rfl⟩ (asK [] rfl) rfl rfl (.inl rfl)
     ·
      replace hm := iteF hm hb32
      refine wc_keep [3,1] (S' := [_,_]) rfl (wc_skip (we_block_normal (we_then (wc_region (wP rfl (wP rfl ?_))))))
      obtain ⟨hg17, hm⟩ := gd_some hm
      refine wl_as (d := 17) (v' := .int .i64 ((u1_3 + 1 : Nat) : Int)) (S' := [_,_,_]) rfl rfl (nat_add (a := u1_3) (b := 1) hg17) (wl_pure (S' := [_,_,_]) rfl rfl rfl rfl rfl (wl_nil ?_))
      have hE := (Option.some.inj hm).symm
      replace hE := link_inl hLu1 hE
      refine we_roundK (_, u1_3 + 1) (Nat.lt_succ_self _) hE [3,1] rfl (asK [0,1] rfl) rfl
   ·
    replace hm := iteF hm hb15
    refine wc_keep [] (S' := []) rfl (wc_exit (we_then_exit (we_then_exit (we_block_hit ?_))))
    have hE := (Option.some.inj hm).symm
    replace hE := link_inr hLu1 hE
    refine we_pick [] rfl (H' := []) rfl ?_
    refine we_join () hE [] rfl (asK [] rfl) rfl
  ·
   rintro _ hE
   try dsimp only
   have hm := link_inl hLj_1 hE
   try dsimp only at hm
   refine wc_seq (wc_region (wP rfl (wl_nil (we_then (wc_ret ?_)))))
   have hE := (Option.some.inj hm).symm
   replace hE := hE.symm
   subst hE
   refine ret_one (Hr := []) [] Tryz.results29 (res_tmp rfl) ⟨rfl, rfl, rfl⟩ (asK [] rfl) rfl rfl (.inl rfl)
theorem w_ropewalkref10_Match_s (N : Nat) (a0 : Int) (a1 : Int) (qp0 : Option Addr) (qc1 : Nat) (l2 : List ArgD) (a3 : Int) (a4 : Int) (a5 : Int) (a6 : ByteArray) (a7 : Int) (a8 : Int) (qp2 : Option Addr) (qc3 : Nat) (l9 : List Api_ExprD) (a10 : Int) (a11 : Int) (qp4 : Option Addr) (qc5 : Nat) (l12 : List V) (qp6 : Option Addr) (qc7 : Nat) (l13 : List Bool) (qp8 : Option Addr) (qc9 : Nat) (l14 : List V) (o2 : List Bool) (o6 : List V) (o8 : Bool) (hm : m_ropewalkref10_Match N a0 a1 l2 a3 a4 a5 a6 a7 a8 l9 a10 a11 l12 l13 l14 = some (o2, o6, o8)) : Spec Tryz.prog 11 [.agg #[.int .u8 a0, .int .i64 a1, .slice qp0 l2.length qc1, .int .u8 a3, .int .u8 a4, .int .i64 a5, .string a6, .int .i64 a7, .int .u8 a8, .slice qp2 l9.length qc3], .agg #[.int .i64 a10, .int .i64 a11, .slice qp4 l12.length qc5], .agg #[.slice qp6 l13.length qc7, .slice qp8 l14.length qc9]] [.sli 5 R_ArgD qp0 qc1 l2, .sli 7 R_Api_ExprD qp2 qc3 l9, .sli 3 R_V qp4 qc5 l12, .sli 1 R_bool qp6 qc7 l13, .sli 3 R_V qp8 qc9 l14] [] (fun v Φr Hr => ∃ (o0 : Option Addr) (o1 : Nat) (o3 : Nat) (o4 : Option Addr) (o5 : Nat) (o7 : Nat), v = .tuple #[.agg #[.slice o0 o3 o1, .slice o4 o7 o5], .bool o8] ∧ Φr = [] ∧ Hr = [.own 4 1 R_bool (.slice o0 o3 o1) o2, .own 27 3 R_V (.slice o4 o7 o5) o6]) := by
 unfold m_ropewalkref10_Match at hm
 refine spec_of Tryz.func11 rfl Tryz.ntmps11 rfl (S := [_,_,_]) rfl (fun C => (wc_seq (wc_region (wB rfl (fun g3 => (wB rfl (fun g4 => (wB rfl (fun g5 => (wl_alloc rfl rfl rfl (freshS_eq rfl) rfl tZ_47 rfl (fun g6 => (wP rfl (wl_nil (we_then (wc_keep [6,5,4,3] (S' := [_,_,_,_]) rfl (wc_seq (wc_seq ?_)))))))))))))))))
 obtain ⟨bj_1, hm, hLj_1⟩ := bindO_some hm
 unfold m_ropewalkref10_Match_C1 at hm
 refine wc_cut (σ := Bool) (fun j_1_42 => bj_1 = j_1_42) (fun j_1_42 => [(6, .pointer (some ⟨g6,0, none⟩)), (5, .pointer (some ⟨g5,0, none⟩)), (4, .pointer (some ⟨g4,0, none⟩)), (3, .pointer (some ⟨g3,0, none⟩)), (42, .bool j_1_42)]) (fun j_1_42 => [.sli 1 R_bool qp6 qc7 l13, .sli 3 R_V qp8 qc9 l14, .sli 3 R_V qp4 qc5 l12, .sli 5 R_ArgD qp0 qc1 l2, .sli 7 R_Api_ExprD qp2 qc3 l9]) (fun j_1_42 => [.blk g6 [.slice none 0 0, .slice none 0 0] 47, .blk g5 [.slice qp6 l13.length qc7, .slice qp8 l14.length qc9] 47, .blk g4 [.int .i64 a10, .int .i64 a11, .slice qp4 l12.length qc5] 36, .blk g3 [.int .u8 a0, .int .i64 a1, .slice qp0 l2.length qc1, .int .u8 a3, .int .u8 a4, .int .i64 a5, .string a6, .int .i64 a7, .int .u8 a8, .slice qp2 l9.length qc3] 33]) ?_ ?_
 ·
  refine wc_region (wl_loadH 1 0 rfl rfl rfl (freshS_eq rfl) rfl rfl rfl (cs := [_,_]) rfl tS_47 tA_47 rfl rfl ?_)
  obtain ⟨v15, hc15, hm⟩ := bindO_some hm
  refine wC [] [0,1,2,3] rfl fn_29 rfl (w_ropewalkref10_Made_s N qp6 qc7 l13 qp8 qc9 l14 _ hc15) (asK [3,4] rfl) rfl (H' := [_,_,_,_]) rfl ?_
  rintro _ _ _ ⟨rfl, rfl, rfl⟩
  refine wP rfl (wP rfl ?_)
  refine wl_split (d := 17) (S' := [_,_,_,_,_,_,_]) rfl rfl (fun hs17 => ?_) (fun hs17 => ?_)
  ·
   replace hm := iteT hm hs17
   refine wO rfl (wO rfl (wO rfl (wO rfl (wO rfl (wO rfl (wO rfl (wO rfl (wP rfl (wP rfl (wO rfl (wO rfl (wO rfl (wO rfl ?_)))))))))))))
   refine wO rfl (wP rfl (wP rfl (wO rfl (wO rfl (wO rfl (wO rfl (wO rfl (wO rfl (wO rfl (wP rfl (wl_nil ?_)))))))))))
   have hE := (Option.some.inj hm).symm
   refine we_join true hE [6,5,4,3,42] rfl (asK [3,4,2,0,1] rfl) rfl
  ·
   replace hm := iteF hm hs17
   refine wF rfl tF_33_0 (wD 3 0 rfl tS_22 tA_22 rfl (wP rfl (wP rfl ?_)))
   refine wl_split (d := 21) (S' := [_,_,_,_,_,_,_,_,_,_,_]) rfl rfl (fun hs21 => ?_) (fun hs21 => ?_)
   ·
    replace hm := iteT hm hs21
    refine wF rfl tF_33_0 (wD 3 0 rfl tS_22 tA_22 rfl (wP rfl (wP rfl (wP rfl (wP rfl ?_)))))
    refine wl_split (d := 27) (S' := [_,_,_,_,_,_,_,_,_,_,_,_,_,_,_,_,_]) rfl rfl (fun hs27 => ?_) (fun hs27 => ?_)
    ·
     replace hm := iteT hm hs27
     refine wO rfl (wO rfl (wO rfl (wO rfl (wO rfl (wP rfl (wP rfl (wO rfl (wO rfl (wO rfl (wO rfl (wO rfl (wO rfl (wO rfl ?_)))))))))))))
     refine wP rfl (wl_nil ?_)
     have hE := (Option.some.inj hm).symm
     refine we_join true hE [6,5,4,3,42] rfl (asK [3,4,2,0,1] rfl) rfl
    ·
     replace hm := iteF hm hs27
     refine wF rfl tF_36_1 (wD 2 1 rfl tS_3 tA_3 rfl (wF rfl tF_33_1 (wD 3 1 rfl tS_3 tA_3 rfl (wP rfl (wP rfl (wP rfl ?_))))))
     refine wl_split (d := 34) (S' := [_,_,_,_,_,_,_,_,_,_,_,_,_,_,_,_,_,_,_,_,_,_,_,_]) rfl rfl (fun hs34 => ?_) (fun hs34 => ?_)
     ·
      replace hm := iteT hm hs34
      refine wO rfl (wO rfl (wO rfl (wO rfl (wO rfl (wO rfl (wO rfl (wP rfl (wl_nil ?_))))))))
      have hE := (Option.some.inj hm).symm
      refine we_join true hE [6,5,4,3,42] rfl (asK [3,4,2,0,1] rfl) rfl
     ·
      replace hm := iteF hm hs34
      refine wF rfl tF_36_2 (wD 2 2 rfl tS_34 tA_34 rfl (wN rfl tE_34 (wF rfl tF_33_2 (wD 3 2 rfl tS_23 tA_23 rfl (wN rfl tE_23 (wP rfl (wl_as (d := 41) (v' := .bool (l12.length != l2.length)) (S' := [_,_,_,_,_,_,_,_,_,_,_,_,_,_,_,_,_,_,_,_,_,_,_,_,_,_,_,_,_,_,_]) rfl rfl (natne (a := l12.length) (b := l2.length)) (wP rfl (wl_nil ?_)))))))))
      have hE := (Option.some.inj hm).symm
      refine we_join (l12.length != l2.length) hE [6,5,4,3,42] rfl (asK [3,4,2,0,1] rfl) rfl
   ·
    replace hm := iteF hm hs21
    refine wO rfl (wO rfl (wO rfl (wP rfl (wP rfl (wP rfl (wF rfl tF_36_1 (wD 2 1 rfl tS_3 tA_3 rfl (wF rfl tF_33_1 (wD 3 1 rfl tS_3 tA_3 rfl (wP rfl (wP rfl (wP rfl ?_))))))))))))
    refine wl_split (d := 34) (S' := [_,_,_,_,_,_,_,_,_,_,_,_,_,_,_,_,_,_,_,_,_,_,_,_]) rfl rfl (fun hs34 => ?_) (fun hs34 => ?_)
    ·
     replace hm := iteT hm hs34
     refine wO rfl (wO rfl (wO rfl (wO rfl (wO rfl (wO rfl (wO rfl (wP rfl (wl_nil ?_))))))))
     have hE := (Option.some.inj hm).symm
     refine we_join true hE [6,5,4,3,42] rfl (asK [3,4,2,0,1] rfl) rfl
    ·
     replace hm := iteF hm hs34
     refine wF rfl tF_36_2 (wD 2 2 rfl tS_34 tA_34 rfl (wN rfl tE_34 (wF rfl tF_33_2 (wD 3 2 rfl tS_23 tA_23 rfl (wN rfl tE_23 (wP rfl (wl_as (d := 41) (v' := .bool (l12.length != l2.length)) (S' := [_,_,_,_,_,_,_,_,_,_,_,_,_,_,_,_,_,_,_,_,_,_,_,_,_,_,_,_,_,_,_]) rfl rfl (natne (a := l12.length) (b := l2.length)) (wP rfl (wl_nil ?_)))))))))
     have hE := (Option.some.inj hm).symm
     refine we_join (l12.length != l2.length) hE [6,5,4,3,42] rfl (asK [3,4,2,0,1] rfl) rfl
 ·
  rintro j_1_42 hE
  try dsimp only
  have hm := hLj_1
  rw [hE] at hm
  refine wc_cond rfl (fun hb42 => ?_) (fun hb42 => ?_)
  ·
   replace hm := iteT hm hb42
   refine wc_keep [6] (S' := [_]) rfl (wc_seq (wc_region (wl_build rfl rfl rfl (freshS_eq rfl) rfl tZ_47 tP_47 rfl (out := [_,_]) rfl (wS 0 0 rfl tS_47 (all' := [_,_]) rfl (H' := [_,_,_,_]) rfl (wP rfl (wl_nil (we_then (wc_keep [7,6] (S' := [_,_]) rfl (wc_ret (we_then_ret ?_))))))))))
   have hE := (Option.some.inj hm).symm
   obtain ⟨hE0, hF1⟩ := Prod.mk.inj hE
   obtain ⟨hE1, hE2⟩ := Prod.mk.inj hF1
   clear hE hF1
   replace hE0 := hE0.symm
   subst hE0
   replace hE1 := hE1.symm
   subst hE1
   replace hE2 := hE2.symm
   subst hE2
   refine we_rowNil 4 1 R_bool (we_rowNil 27 3 R_V ?_)
   refine ret_two (Hr := [_,_]) [1,0] Tryz.results11 (res_cell 2 rfl rfl tS_47 tA_47 rfl rfl) (res_tmp rfl) ⟨none, 0,0, none, 0,0, rfl, rfl, rfl⟩ (asK [] rfl) rfl rfl (.inl rfl)
  ·
   replace hm := iteF hm hb42
   refine wc_keep [6,5,4,3] (S' := [_,_,_,_]) rfl (wc_skip (we_then (wc_seq ?_)))
   obtain ⟨hg47, hm⟩ := gd_some hm
   obtain ⟨hg51, hm⟩ := gd_some hm
   refine wc_cut (σ := Nat × (Option Addr) × Nat × (Option Addr) × Nat) (fun _ => True) (fun (w_2_8_g, w_2_8_f0_p, w_2_8_f0_c, w_2_8_f1_p, w_2_8_f1_c) => [(8, .pointer (some ⟨w_2_8_g, 0, none⟩)), (6, .pointer (some ⟨g6,0, none⟩)), (4, .pointer (some ⟨g4,0, none⟩)), (3, .pointer (some ⟨g3,0, none⟩))]) (fun (w_2_8_g, w_2_8_f0_p, w_2_8_f0_c, w_2_8_f1_p, w_2_8_f1_c) => [.sli 3 R_V qp4 qc5 l12, .sli 5 R_ArgD qp0 qc1 l2, .sli 7 R_Api_ExprD qp2 qc3 l9]) (fun (w_2_8_g, w_2_8_f0_p, w_2_8_f0_c, w_2_8_f1_p, w_2_8_f1_c) => [.blk w_2_8_g [.slice w_2_8_f0_p (l13).length w_2_8_f0_c, .slice w_2_8_f1_p (l14).length w_2_8_f1_c] 47, .own 4 1 R_bool (.slice w_2_8_f0_p (l13).length w_2_8_f0_c) l13, .own 27 3 R_V (.slice w_2_8_f1_p (l14).length w_2_8_f1_c) l14, .blk g6 [.slice none 0 0, .slice none 0 0] 47, .blk g4 [.int .i64 a10, .int .i64 a11, .slice qp4 l12.length qc5] 36, .blk g3 [.int .u8 a0, .int .i64 a1, .slice qp0 l2.length qc1, .int .u8 a3, .int .u8 a4, .int .i64 a5, .string a6, .int .i64 a7, .int .u8 a8, .slice qp2 l9.length qc3] 33]) ?_ ?_
   ·
    refine wc_draw [1,2,5,6,8] rfl rfl (fun hok => (wx_fieldAddr hok 1 rfl rfl rfl (freshS_eq rfl) rfl rfl rfl tF_47_0 (wx_loadH hok 2 1 0 rfl rfl rfl (freshS_eq rfl) rfl rfl rfl rfl (cs := [_]) rfl tS_37 tA_37 rfl rfl (wx_fieldAddr hok 5 rfl rfl rfl (freshS_eq rfl) rfl rfl rfl tF_47_1 (wx_loadH hok 6 1 1 rfl rfl rfl (freshS_eq rfl) rfl rfl rfl rfl (cs := [_]) rfl tS_34 tA_34 rfl rfl ?_)))))
    refine wx_step3 hok 0 4 9 rfl rfl rfl rfl rfl rfl rfl rfl ?_ ?_ ?_
    ·
     refine wl_buildSlice rfl rfl rfl (freshS_eq rfl) rfl tE_37 tS_4 tZ_4 rfl (zs := []) (by kernel_rfl) rfl (out := []) rfl (fun g44 => (wl_nil (we_x [0,1,2,3,4] [2,2] rfl rfl ?_)))
     refine wx_step3 hok 3 4 9 rfl rfl rfl rfl rfl rfl rfl rfl ?_ ?_ ?_
     ·
      refine wl_row (sz := 1) (m := 0) R_bool [] 0 rfl (fun F w hφ => rfl) rfl (by decide) (H' := [_,_,_,_,_]) rfl (wl_append 0 0 rfl rfl rfl (freshS_eq rfl) rfl rfl rfl rfl rfl tE_37 tR_4 rfl rfl (Nat.le_trans hg47 (by decide)) (Nat.le_trans (Nat.mul_le_mul_right _ hg47) (by decide)) (H2 := fun p47 c47 => [.own 4 1 R_bool (.slice p47 (l13).length c47) l13,_,_,_,_]) (fun _ _ => rfl) (fun p47 c47 => (wl_nil (we_x [0,1,2,3,4] [2] rfl rfl ?_))))
      refine wx_step2 hok 4 9 rfl rfl rfl rfl rfl rfl ?_ ?_
      ·
       refine wl_buildSlice rfl rfl rfl (freshS_eq rfl) rfl tE_34 tS_27 tZ_27 rfl (zs := []) (by kernel_rfl) rfl (out := []) rfl (fun g48 => (wl_nil (we_x [0,1,2,3,4] [3,3] rfl rfl ?_)))
       refine wx_step2 hok 7 9 rfl rfl rfl rfl rfl rfl ?_ ?_
       rotate_left
       focus
        refine wl_alloc rfl rfl rfl (freshS_eq rfl) rfl tZ_47 rfl (fun g8 => (wl_nil (we_x [0,1,2,3,4] [4,4] rfl rfl (xS hok 7 rfl (wl_row (sz := 3) (m := 0) R_V [] 1 rfl (fun F w hφ => rfl) rfl (by decide) (H' := [_,_,_,_,_,_,_]) rfl (wl_append 1 1 rfl rfl rfl (freshS_eq rfl) rfl rfl rfl rfl rfl tE_34 tR_27 rfl rfl (Nat.le_trans hg51 (by decide)) (Nat.le_trans (Nat.mul_le_mul_right _ hg51) (by decide)) (H2 := fun p51 c51 => [_, .own 27 3 R_V (.slice p51 (l14).length c51) l14,_,_,_,_,_]) (fun _ _ => rfl) (fun p51 c51 => (wl_nil (we_x [0,1,2,3,4] [4] rfl rfl (wx_build hok 8 rfl rfl rfl (freshS_eq rfl) rfl rfl tZ_47 tP_47 rfl (out := [_,_]) rfl ?_))))))))))
       rotate_right
       focus
        refine wl_row (sz := 3) (m := 0) R_V [] 0 rfl (fun F w hφ => rfl) rfl (by decide) (H' := [_,_,_,_,_,_]) rfl (wl_append 0 1 rfl rfl rfl (freshS_eq rfl) rfl rfl rfl rfl rfl tE_34 tR_27 rfl rfl (Nat.le_trans hg51 (by decide)) (Nat.le_trans (Nat.mul_le_mul_right _ hg51) (by decide)) (H2 := fun p51 c51 => [.own 27 3 R_V (.slice p51 (l14).length c51) l14,_,_,_,_,_]) (fun _ _ => rfl) (fun p51 c51 => (wl_nil (we_x [0,1,2,3,4] [3] rfl rfl (wx_build hok 8 rfl rfl rfl (freshS_eq rfl) rfl rfl tZ_47 tP_47 rfl (out := [_,_]) rfl (xS hok 9 rfl (wl_alloc rfl rfl rfl (freshS_eq rfl) rfl tZ_47 rfl (fun g8 => (wl_nil (we_x [0,1,2,3,4] [4,4] rfl rfl ?_))))))))))
       all_goals
        refine xS hok 10 rfl (wS 0 0 rfl tS_47 (all' := [_,_]) rfl (H' := [_,_,_,_,_,_,_]) rfl (wl_nil (we_x [0,1,2,3,4] [] rfl rfl (wx_done hok rfl (we_pick [0,2,1,3,5,6] rfl (H' := [_,_,_,_,_,_]) rfl ?_)))))
        refine we_join (g8, p47, c47, p51, c51) trivial [8,6,4,3] rfl (asK [2,3,4] rfl) rfl
      ·
       refine wl_alloc rfl rfl rfl (freshS_eq rfl) rfl tZ_47 rfl (fun g8 => (wl_nil (we_x [0,1,2,3,4] [3,3] rfl rfl (xS hok 4 rfl (wl_buildSlice rfl rfl rfl (freshS_eq rfl) rfl tE_34 tS_27 tZ_27 rfl (zs := []) (by kernel_rfl) rfl (out := []) rfl (fun g48 => (wl_nil (we_x [0,1,2,3,4] [4,4] rfl rfl (xS hok 7 rfl (wl_row (sz := 3) (m := 0) R_V [] 0 rfl (fun F w hφ => rfl) rfl (by decide) (H' := [_,_,_,_,_,_,_]) rfl (wl_append 0 1 rfl rfl rfl (freshS_eq rfl) rfl rfl rfl rfl rfl tE_34 tR_27 rfl rfl (Nat.le_trans hg51 (by decide)) (Nat.le_trans (Nat.mul_le_mul_right _ hg51) (by decide)) (H2 := fun p51 c51 => [.own 27 3 R_V (.slice p51 (l14).length c51) l14,_,_,_,_,_,_]) (fun _ _ => rfl) (fun p51 c51 => (wl_nil (we_x [0,1,2,3,4] [4] rfl rfl (wx_build hok 8 rfl rfl rfl (freshS_eq rfl) rfl rfl tZ_47 tP_47 rfl (out := [_,_]) rfl (xS hok 10 rfl ?_))))))))))))))))
       refine wS 1 0 rfl tS_47 (all' := [_,_]) rfl (H' := [_,_,_,_,_,_,_]) rfl (wl_nil (we_x [0,1,2,3,4] [] rfl rfl (wx_done hok rfl (we_pick [1,2,0,3,5,6] rfl (H' := [_,_,_,_,_,_]) rfl ?_))))
       refine we_join (g8, p47, c47, p51, c51) trivial [8,6,4,3] rfl (asK [2,3,4] rfl) rfl
     ·
      refine wl_buildSlice rfl rfl rfl (freshS_eq rfl) rfl tE_34 tS_27 tZ_27 rfl (zs := []) (by kernel_rfl) rfl (out := []) rfl (fun g48 => (wl_nil (we_x [0,1,2,3,4] [3,3] rfl rfl ?_)))
      refine wx_step2 hok 3 9 rfl rfl rfl rfl rfl rfl ?_ ?_
      rotate_left
      focus
       refine wl_alloc rfl rfl rfl (freshS_eq rfl) rfl tZ_47 rfl (fun g8 => (wl_nil (we_x [0,1,2,3,4] [4,4] rfl rfl (xS hok 3 rfl (wl_row (sz := 1) (m := 0) R_bool [] 2 rfl (fun F w hφ => rfl) rfl (by decide) (H' := [_,_,_,_,_,_,_]) rfl (wl_append 2 0 rfl rfl rfl (freshS_eq rfl) rfl rfl rfl rfl rfl tE_37 tR_4 rfl rfl (Nat.le_trans hg47 (by decide)) (Nat.le_trans (Nat.mul_le_mul_right _ hg47) (by decide)) (H2 := fun p47 c47 => [_,_, .own 4 1 R_bool (.slice p47 (l13).length c47) l13,_,_,_,_]) (fun _ _ => rfl) (fun p47 c47 => (wl_nil (we_x [0,1,2,3,4] [4] rfl rfl (xS hok 7 rfl (wl_row (sz := 3) (m := 0) R_V [] 1 rfl (fun F w hφ => rfl) rfl (by decide) (H' := [_,_,_,_,_,_,_]) rfl (wl_append 1 1 rfl rfl rfl (freshS_eq rfl) rfl rfl rfl rfl rfl tE_34 tR_27 rfl rfl (Nat.le_trans hg51 (by decide)) (Nat.le_trans (Nat.mul_le_mul_right _ hg51) (by decide)) (H2 := fun p51 c51 => [_, .own 27 3 R_V (.slice p51 (l14).length c51) l14,_,_,_,_,_]) (fun _ _ => rfl) (fun p51 c51 => (wl_nil (we_x [0,1,2,3,4] [4] rfl rfl (wx_build hok 8 rfl rfl rfl (freshS_eq rfl) rfl rfl tZ_47 tP_47 rfl (out := [_,_]) rfl ?_))))))))))))))))
      rotate_right
      focus
       refine wl_row (sz := 1) (m := 0) R_bool [] 1 rfl (fun F w hφ => rfl) rfl (by decide) (H' := [_,_,_,_,_,_]) rfl (wl_append 1 0 rfl rfl rfl (freshS_eq rfl) rfl rfl rfl rfl rfl tE_37 tR_4 rfl rfl (Nat.le_trans hg47 (by decide)) (Nat.le_trans (Nat.mul_le_mul_right _ hg47) (by decide)) (H2 := fun p47 c47 => [_, .own 4 1 R_bool (.slice p47 (l13).length c47) l13,_,_,_,_]) (fun _ _ => rfl) (fun p47 c47 => (wl_nil (we_x [0,1,2,3,4] [3] rfl rfl ?_))))
       refine wx_step2 hok 7 9 rfl rfl rfl rfl rfl rfl ?_ ?_
       rotate_left
       focus
        refine wl_alloc rfl rfl rfl (freshS_eq rfl) rfl tZ_47 rfl (fun g8 => (wl_nil (we_x [0,1,2,3,4] [4,4] rfl rfl (xS hok 7 rfl (wl_row (sz := 3) (m := 0) R_V [] 1 rfl (fun F w hφ => rfl) rfl (by decide) (H' := [_,_,_,_,_,_,_]) rfl (wl_append 1 1 rfl rfl rfl (freshS_eq rfl) rfl rfl rfl rfl rfl tE_34 tR_27 rfl rfl (Nat.le_trans hg51 (by decide)) (Nat.le_trans (Nat.mul_le_mul_right _ hg51) (by decide)) (H2 := fun p51 c51 => [_, .own 27 3 R_V (.slice p51 (l14).length c51) l14,_,_,_,_,_]) (fun _ _ => rfl) (fun p51 c51 => (wl_nil (we_x [0,1,2,3,4] [4] rfl rfl (wx_build hok 8 rfl rfl rfl (freshS_eq rfl) rfl rfl tZ_47 tP_47 rfl (out := [_,_]) rfl ?_))))))))))
       rotate_right
       focus
        refine wl_row (sz := 3) (m := 0) R_V [] 0 rfl (fun F w hφ => rfl) rfl (by decide) (H' := [_,_,_,_,_,_]) rfl (wl_append 0 1 rfl rfl rfl (freshS_eq rfl) rfl rfl rfl rfl rfl tE_34 tR_27 rfl rfl (Nat.le_trans hg51 (by decide)) (Nat.le_trans (Nat.mul_le_mul_right _ hg51) (by decide)) (H2 := fun p51 c51 => [.own 27 3 R_V (.slice p51 (l14).length c51) l14,_,_,_,_,_]) (fun _ _ => rfl) (fun p51 c51 => (wl_nil (we_x [0,1,2,3,4] [3] rfl rfl (wx_build hok 8 rfl rfl rfl (freshS_eq rfl) rfl rfl tZ_47 tP_47 rfl (out := [_,_]) rfl (xS hok 9 rfl (wl_alloc rfl rfl rfl (freshS_eq rfl) rfl tZ_47 rfl (fun g8 => (wl_nil (we_x [0,1,2,3,4] [4,4] rfl rfl ?_))))))))))
      all_goals
       refine xS hok 10 rfl (wS 0 0 rfl tS_47 (all' := [_,_]) rfl (H' := [_,_,_,_,_,_,_]) rfl (wl_nil (we_x [0,1,2,3,4] [] rfl rfl (wx_done hok rfl (we_pick [0,2,1,3,5,6] rfl (H' := [_,_,_,_,_,_]) rfl ?_)))))
       refine we_join (g8, p47, c47, p51, c51) trivial [8,6,4,3] rfl (asK [2,3,4] rfl) rfl
     ·
      refine wl_alloc rfl rfl rfl (freshS_eq rfl) rfl tZ_47 rfl (fun g8 => (wl_nil (we_x [0,1,2,3,4] [3,3] rfl rfl ?_)))
      refine wx_step2 hok 3 4 rfl rfl rfl rfl rfl rfl ?_ ?_
      rotate_left
      focus
       refine wl_buildSlice rfl rfl rfl (freshS_eq rfl) rfl tE_34 tS_27 tZ_27 rfl (zs := []) (by kernel_rfl) rfl (out := []) rfl (fun g48 => (wl_nil (we_x [0,1,2,3,4] [4,4] rfl rfl (xS hok 3 rfl (wl_row (sz := 1) (m := 0) R_bool [] 2 rfl (fun F w hφ => rfl) rfl (by decide) (H' := [_,_,_,_,_,_,_]) rfl (wl_append 2 0 rfl rfl rfl (freshS_eq rfl) rfl rfl rfl rfl rfl tE_37 tR_4 rfl rfl (Nat.le_trans hg47 (by decide)) (Nat.le_trans (Nat.mul_le_mul_right _ hg47) (by decide)) (H2 := fun p47 c47 => [_,_, .own 4 1 R_bool (.slice p47 (l13).length c47) l13,_,_,_,_]) (fun _ _ => rfl) (fun p47 c47 => (wl_nil (we_x [0,1,2,3,4] [4] rfl rfl ?_)))))))))
      rotate_right
      focus
       refine wl_row (sz := 1) (m := 0) R_bool [] 1 rfl (fun F w hφ => rfl) rfl (by decide) (H' := [_,_,_,_,_,_]) rfl (wl_append 1 0 rfl rfl rfl (freshS_eq rfl) rfl rfl rfl rfl rfl tE_37 tR_4 rfl rfl (Nat.le_trans hg47 (by decide)) (Nat.le_trans (Nat.mul_le_mul_right _ hg47) (by decide)) (H2 := fun p47 c47 => [_, .own 4 1 R_bool (.slice p47 (l13).length c47) l13,_,_,_,_]) (fun _ _ => rfl) (fun p47 c47 => (wl_nil (we_x [0,1,2,3,4] [3] rfl rfl (xS hok 4 rfl (wl_buildSlice rfl rfl rfl (freshS_eq rfl) rfl tE_34 tS_27 tZ_27 rfl (zs := []) (by kernel_rfl) rfl (out := []) rfl (fun g48 => (wl_nil (we_x [0,1,2,3,4] [4,4] rfl rfl ?_)))))))))
      all_goals
       refine xS hok 7 rfl (wl_row (sz := 3) (m := 0) R_V [] 0 rfl (fun F w hφ => rfl) rfl (by decide) (H' := [_,_,_,_,_,_,_]) rfl (wl_append 0 1 rfl rfl rfl (freshS_eq rfl) rfl rfl rfl rfl rfl tE_34 tR_27 rfl rfl (Nat.le_trans hg51 (by decide)) (Nat.le_trans (Nat.mul_le_mul_right _ hg51) (by decide)) (H2 := fun p51 c51 => [.own 27 3 R_V (.slice p51 (l14).length c51) l14,_,_,_,_,_,_]) (fun _ _ => rfl) (fun p51 c51 => (wl_nil (we_x [0,1,2,3,4] [4] rfl rfl (wx_build hok 8 rfl rfl rfl (freshS_eq rfl) rfl rfl tZ_47 tP_47 rfl (out := [_,_]) rfl (xS hok 10 rfl (wS 1 0 rfl tS_47 (all' := [_,_]) rfl (H' := [_,_,_,_,_,_,_]) rfl (wl_nil (we_x [0,1,2,3,4] [] rfl rfl (wx_done hok rfl (we_pick [1,2,0,3,5,6] rfl (H' := [_,_,_,_,_,_]) rfl ?_))))))))))))
       refine we_join (g8, p47, c47, p51, c51) trivial [8,6,4,3] rfl (asK [2,3,4] rfl) rfl
    ·
     refine wl_buildSlice rfl rfl rfl (freshS_eq rfl) rfl tE_34 tS_27 tZ_27 rfl (zs := []) (by kernel_rfl) rfl (out := []) rfl (fun g48 => (wl_nil (we_x [0,1,2,3,4] [2,2] rfl rfl ?_)))
     refine wx_step2 hok 0 9 rfl rfl rfl rfl rfl rfl ?_ ?_
     ·
      refine wl_buildSlice rfl rfl rfl (freshS_eq rfl) rfl tE_37 tS_4 tZ_4 rfl (zs := []) (by kernel_rfl) rfl (out := []) rfl (fun g44 => (wl_nil (we_x [0,1,2,3,4] [3,3] rfl rfl ?_)))
      refine wx_step2 hok 3 9 rfl rfl rfl rfl rfl rfl ?_ ?_
      rotate_left
      focus
       refine wl_alloc rfl rfl rfl (freshS_eq rfl) rfl tZ_47 rfl (fun g8 => (wl_nil (we_x [0,1,2,3,4] [4,4] rfl rfl (xS hok 3 rfl (wl_row (sz := 1) (m := 0) R_bool [] 1 rfl (fun F w hφ => rfl) rfl (by decide) (H' := [_,_,_,_,_,_,_]) rfl (wl_append 1 0 rfl rfl rfl (freshS_eq rfl) rfl rfl rfl rfl rfl tE_37 tR_4 rfl rfl (Nat.le_trans hg47 (by decide)) (Nat.le_trans (Nat.mul_le_mul_right _ hg47) (by decide)) (H2 := fun p47 c47 => [_, .own 4 1 R_bool (.slice p47 (l13).length c47) l13,_,_,_,_,_]) (fun _ _ => rfl) (fun p47 c47 => (wl_nil (we_x [0,1,2,3,4] [4] rfl rfl (xS hok 7 rfl (wl_row (sz := 3) (m := 0) R_V [] 2 rfl (fun F w hφ => rfl) rfl (by decide) (H' := [_,_,_,_,_,_,_]) rfl (wl_append 2 1 rfl rfl rfl (freshS_eq rfl) rfl rfl rfl rfl rfl tE_34 tR_27 rfl rfl (Nat.le_trans hg51 (by decide)) (Nat.le_trans (Nat.mul_le_mul_right _ hg51) (by decide)) (H2 := fun p51 c51 => [_,_, .own 27 3 R_V (.slice p51 (l14).length c51) l14,_,_,_,_]) (fun _ _ => rfl) (fun p51 c51 => (wl_nil (we_x [0,1,2,3,4] [4] rfl rfl (wx_build hok 8 rfl rfl rfl (freshS_eq rfl) rfl rfl tZ_47 tP_47 rfl (out := [_,_]) rfl ?_))))))))))))))))
      rotate_right
      focus
       refine wl_row (sz := 1) (m := 0) R_bool [] 0 rfl (fun F w hφ => rfl) rfl (by decide) (H' := [_,_,_,_,_,_]) rfl (wl_append 0 0 rfl rfl rfl (freshS_eq rfl) rfl rfl rfl rfl rfl tE_37 tR_4 rfl rfl (Nat.le_trans hg47 (by decide)) (Nat.le_trans (Nat.mul_le_mul_right _ hg47) (by decide)) (H2 := fun p47 c47 => [.own 4 1 R_bool (.slice p47 (l13).length c47) l13,_,_,_,_,_]) (fun _ _ => rfl) (fun p47 c47 => (wl_nil (we_x [0,1,2,3,4] [3] rfl rfl ?_))))
       refine wx_step2 hok 7 9 rfl rfl rfl rfl rfl rfl ?_ ?_
       rotate_left
       focus
        refine wl_alloc rfl rfl rfl (freshS_eq rfl) rfl tZ_47 rfl (fun g8 => (wl_nil (we_x [0,1,2,3,4] [4,4] rfl rfl (xS hok 7 rfl (wl_row (sz := 3) (m := 0) R_V [] 2 rfl (fun F w hφ => rfl) rfl (by decide) (H' := [_,_,_,_,_,_,_]) rfl (wl_append 2 1 rfl rfl rfl (freshS_eq rfl) rfl rfl rfl rfl rfl tE_34 tR_27 rfl rfl (Nat.le_trans hg51 (by decide)) (Nat.le_trans (Nat.mul_le_mul_right _ hg51) (by decide)) (H2 := fun p51 c51 => [_,_, .own 27 3 R_V (.slice p51 (l14).length c51) l14,_,_,_,_]) (fun _ _ => rfl) (fun p51 c51 => (wl_nil (we_x [0,1,2,3,4] [4] rfl rfl (wx_build hok 8 rfl rfl rfl (freshS_eq rfl) rfl rfl tZ_47 tP_47 rfl (out := [_,_]) rfl ?_))))))))))
       rotate_right
       focus
        refine wl_row (sz := 3) (m := 0) R_V [] 1 rfl (fun F w hφ => rfl) rfl (by decide) (H' := [_,_,_,_,_,_]) rfl (wl_append 1 1 rfl rfl rfl (freshS_eq rfl) rfl rfl rfl rfl rfl tE_34 tR_27 rfl rfl (Nat.le_trans hg51 (by decide)) (Nat.le_trans (Nat.mul_le_mul_right _ hg51) (by decide)) (H2 := fun p51 c51 => [_, .own 27 3 R_V (.slice p51 (l14).length c51) l14,_,_,_,_]) (fun _ _ => rfl) (fun p51 c51 => (wl_nil (we_x [0,1,2,3,4] [3] rfl rfl (wx_build hok 8 rfl rfl rfl (freshS_eq rfl) rfl rfl tZ_47 tP_47 rfl (out := [_,_]) rfl (xS hok 9 rfl (wl_alloc rfl rfl rfl (freshS_eq rfl) rfl tZ_47 rfl (fun g8 => (wl_nil (we_x [0,1,2,3,4] [4,4] rfl rfl ?_))))))))))
      all_goals
       refine xS hok 10 rfl (wS 0 0 rfl tS_47 (all' := [_,_]) rfl (H' := [_,_,_,_,_,_,_]) rfl (wl_nil (we_x [0,1,2,3,4] [] rfl rfl (wx_done hok rfl (we_pick [0,1,2,3,5,6] rfl (H' := [_,_,_,_,_,_]) rfl ?_)))))
       refine we_join (g8, p47, c47, p51, c51) trivial [8,6,4,3] rfl (asK [2,3,4] rfl) rfl
     ·
      refine wl_alloc rfl rfl rfl (freshS_eq rfl) rfl tZ_47 rfl (fun g8 => (wl_nil (we_x [0,1,2,3,4] [3,3] rfl rfl (xS hok 0 rfl (wl_buildSlice rfl rfl rfl (freshS_eq rfl) rfl tE_37 tS_4 tZ_4 rfl (zs := []) (by kernel_rfl) rfl (out := []) rfl (fun g44 => (wl_nil (we_x [0,1,2,3,4] [4,4] rfl rfl (xS hok 3 rfl (wl_row (sz := 1) (m := 0) R_bool [] 0 rfl (fun F w hφ => rfl) rfl (by decide) (H' := [_,_,_,_,_,_,_]) rfl (wl_append 0 0 rfl rfl rfl (freshS_eq rfl) rfl rfl rfl rfl rfl tE_37 tR_4 rfl rfl (Nat.le_trans hg47 (by decide)) (Nat.le_trans (Nat.mul_le_mul_right _ hg47) (by decide)) (H2 := fun p47 c47 => [.own 4 1 R_bool (.slice p47 (l13).length c47) l13,_,_,_,_,_,_]) (fun _ _ => rfl) (fun p47 c47 => (wl_nil (we_x [0,1,2,3,4] [4] rfl rfl (xS hok 7 rfl (wl_row (sz := 3) (m := 0) R_V [] 2 rfl (fun F w hφ => rfl) rfl (by decide) (H' := [_,_,_,_,_,_,_]) rfl ?_))))))))))))))))
      refine wl_append 2 1 rfl rfl rfl (freshS_eq rfl) rfl rfl rfl rfl rfl tE_34 tR_27 rfl rfl (Nat.le_trans hg51 (by decide)) (Nat.le_trans (Nat.mul_le_mul_right _ hg51) (by decide)) (H2 := fun p51 c51 => [_,_, .own 27 3 R_V (.slice p51 (l14).length c51) l14,_,_,_,_]) (fun _ _ => rfl) (fun p51 c51 => (wl_nil (we_x [0,1,2,3,4] [4] rfl rfl (wx_build hok 8 rfl rfl rfl (freshS_eq rfl) rfl rfl tZ_47 tP_47 rfl (out := [_,_]) rfl (xS hok 10 rfl (wS 1 0 rfl tS_47 (all' := [_,_]) rfl (H' := [_,_,_,_,_,_,_]) rfl (wl_nil (we_x [0,1,2,3,4] [] rfl rfl (wx_done hok rfl (we_pick [1,0,2,3,5,6] rfl (H' := [_,_,_,_,_,_]) rfl ?_))))))))))
      refine we_join (g8, p47, c47, p51, c51) trivial [8,6,4,3] rfl (asK [2,3,4] rfl) rfl
    ·
     refine wl_alloc rfl rfl rfl (freshS_eq rfl) rfl tZ_47 rfl (fun g8 => (wl_nil (we_x [0,1,2,3,4] [2,2] rfl rfl ?_)))
     refine wx_step2 hok 0 4 rfl rfl rfl rfl rfl rfl ?_ ?_
     ·
      refine wl_buildSlice rfl rfl rfl (freshS_eq rfl) rfl tE_37 tS_4 tZ_4 rfl (zs := []) (by kernel_rfl) rfl (out := []) rfl (fun g44 => (wl_nil (we_x [0,1,2,3,4] [3,3] rfl rfl ?_)))
      refine wx_step2 hok 3 4 rfl rfl rfl rfl rfl rfl ?_ ?_
      rotate_left
      focus
       refine wl_buildSlice rfl rfl rfl (freshS_eq rfl) rfl tE_34 tS_27 tZ_27 rfl (zs := []) (by kernel_rfl) rfl (out := []) rfl (fun g48 => (wl_nil (we_x [0,1,2,3,4] [4,4] rfl rfl (xS hok 3 rfl (wl_row (sz := 1) (m := 0) R_bool [] 1 rfl (fun F w hφ => rfl) rfl (by decide) (H' := [_,_,_,_,_,_,_]) rfl (wl_append 1 0 rfl rfl rfl (freshS_eq rfl) rfl rfl rfl rfl rfl tE_37 tR_4 rfl rfl (Nat.le_trans hg47 (by decide)) (Nat.le_trans (Nat.mul_le_mul_right _ hg47) (by decide)) (H2 := fun p47 c47 => [_, .own 4 1 R_bool (.slice p47 (l13).length c47) l13,_,_,_,_,_]) (fun _ _ => rfl) (fun p47 c47 => (wl_nil (we_x [0,1,2,3,4] [4] rfl rfl ?_)))))))))
      rotate_right
      focus
       refine wl_row (sz := 1) (m := 0) R_bool [] 0 rfl (fun F w hφ => rfl) rfl (by decide) (H' := [_,_,_,_,_,_]) rfl (wl_append 0 0 rfl rfl rfl (freshS_eq rfl) rfl rfl rfl rfl rfl tE_37 tR_4 rfl rfl (Nat.le_trans hg47 (by decide)) (Nat.le_trans (Nat.mul_le_mul_right _ hg47) (by decide)) (H2 := fun p47 c47 => [.own 4 1 R_bool (.slice p47 (l13).length c47) l13,_,_,_,_,_]) (fun _ _ => rfl) (fun p47 c47 => (wl_nil (we_x [0,1,2,3,4] [3] rfl rfl (xS hok 4 rfl (wl_buildSlice rfl rfl rfl (freshS_eq rfl) rfl tE_34 tS_27 tZ_27 rfl (zs := []) (by kernel_rfl) rfl (out := []) rfl (fun g48 => (wl_nil (we_x [0,1,2,3,4] [4,4] rfl rfl ?_)))))))))
      all_goals
       refine xS hok 7 rfl (wl_row (sz := 3) (m := 0) R_V [] 0 rfl (fun F w hφ => rfl) rfl (by decide) (H' := [_,_,_,_,_,_,_]) rfl (wl_append 0 1 rfl rfl rfl (freshS_eq rfl) rfl rfl rfl rfl rfl tE_34 tR_27 rfl rfl (Nat.le_trans hg51 (by decide)) (Nat.le_trans (Nat.mul_le_mul_right _ hg51) (by decide)) (H2 := fun p51 c51 => [.own 27 3 R_V (.slice p51 (l14).length c51) l14,_,_,_,_,_,_]) (fun _ _ => rfl) (fun p51 c51 => (wl_nil (we_x [0,1,2,3,4] [4] rfl rfl (wx_build hok 8 rfl rfl rfl (freshS_eq rfl) rfl rfl tZ_47 tP_47 rfl (out := [_,_]) rfl (xS hok 10 rfl (wS 2 0 rfl tS_47 (all' := [_,_]) rfl (H' := [_,_,_,_,_,_,_]) rfl (wl_nil (we_x [0,1,2,3,4] [] rfl rfl (wx_done hok rfl (we_pick [2,1,0,3,5,6] rfl (H' := [_,_,_,_,_,_]) rfl ?_))))))))))))
       refine we_join (g8, p47, c47, p51, c51) trivial [8,6,4,3] rfl (asK [2,3,4] rfl) rfl
     ·
      refine wl_buildSlice rfl rfl rfl (freshS_eq rfl) rfl tE_34 tS_27 tZ_27 rfl (zs := []) (by kernel_rfl) rfl (out := []) rfl (fun g48 => (wl_nil (we_x [0,1,2,3,4] [3,3] rfl rfl (xS hok 0 rfl (wl_buildSlice rfl rfl rfl (freshS_eq rfl) rfl tE_37 tS_4 tZ_4 rfl (zs := []) (by kernel_rfl) rfl (out := []) rfl (fun g44 => (wl_nil (we_x [0,1,2,3,4] [4,4] rfl rfl (xS hok 3 rfl (wl_row (sz := 1) (m := 0) R_bool [] 0 rfl (fun F w hφ => rfl) rfl (by decide) (H' := [_,_,_,_,_,_,_]) rfl (wl_append 0 0 rfl rfl rfl (freshS_eq rfl) rfl rfl rfl rfl rfl tE_37 tR_4 rfl rfl (Nat.le_trans hg47 (by decide)) (Nat.le_trans (Nat.mul_le_mul_right _ hg47) (by decide)) (H2 := fun p47 c47 => [.own 4 1 R_bool (.slice p47 (l13).length c47) l13,_,_,_,_,_,_]) (fun _ _ => rfl) (fun p47 c47 => (wl_nil (we_x [0,1,2,3,4] [4] rfl rfl (xS hok 7 rfl (wl_row (sz := 3) (m := 0) R_V [] 1 rfl (fun F w hφ => rfl) rfl (by decide) (H' := [_,_,_,_,_,_,_]) rfl ?_))))))))))))))))
      refine wl_append 1 1 rfl rfl rfl (freshS_eq rfl) rfl rfl rfl rfl rfl tE_34 tR_27 rfl rfl (Nat.le_trans hg51 (by decide)) (Nat.le_trans (Nat.mul_le_mul_right _ hg51) (by decide)) (H2 := fun p51 c51 => [_, .own 27 3 R_V (.slice p51 (l14).length c51) l14,_,_,_,_,_]) (fun _ _ => rfl) (fun p51 c51 => (wl_nil (we_x [0,1,2,3,4] [4] rfl rfl (wx_build hok 8 rfl rfl rfl (freshS_eq rfl) rfl rfl tZ_47 tP_47 rfl (out := [_,_]) rfl (xS hok 10 rfl (wS 2 0 rfl tS_47 (all' := [_,_]) rfl (H' := [_,_,_,_,_,_,_]) rfl (wl_nil (we_x [0,1,2,3,4] [] rfl rfl (wx_done hok rfl (we_pick [2,0,1,3,5,6] rfl (H' := [_,_,_,_,_,_]) rfl ?_))))))))))
      refine we_join (g8, p47, c47, p51, c51) trivial [8,6,4,3] rfl (asK [2,3,4] rfl) rfl
   ·
    rintro ⟨w_2_8_g, w_2_8_f0_p, w_2_8_f0_c, w_2_8_f1_p, w_2_8_f1_c⟩ _
    try dsimp only
    refine wc_seq ?_
    obtain ⟨bj_3, hm, hLj_3⟩ := bindS_some hm
    refine wc_cut (σ := (List Bool) × (List V)) (fun (j_3_8_f0_l, j_3_8_f1_l) => bj_3 = .inl (j_3_8_f0_l, j_3_8_f1_l)) (fun (j_3_8_f0_l, j_3_8_f1_l) => [(8, .pointer (some ⟨w_2_8_g, 0, none⟩)), (6, .pointer (some ⟨g6,0, none⟩))]) (fun (j_3_8_f0_l, j_3_8_f1_l) => []) (fun (j_3_8_f0_l, j_3_8_f1_l) => [.blk w_2_8_g [.slice w_2_8_f0_p (l13).length w_2_8_f0_c, .slice w_2_8_f1_p (l14).length w_2_8_f1_c] 47, .own 4 1 R_bool (.slice w_2_8_f0_p (l13).length w_2_8_f0_c) j_3_8_f0_l, .own 27 3 R_V (.slice w_2_8_f1_p (l14).length w_2_8_f1_c) j_3_8_f1_l, .blk g6 [.slice none 0 0, .slice none 0 0] 47]) ?_ ?_
    ·
     refine wc_seq (wc_region (wP rfl (wl_nil (we_then (wc_block (wc_loop (σ := Nat × Nat × (List Bool) × (List V)) (fun (nu1, u1_9, u1_8_f0_l, u1_8_f1_l) => iter (m_ropewalkref10_Match_L1 N l2 l12) nu1 (u1_9, u1_8_f0_l, u1_8_f1_l) = some bj_3) (fun (nu1, u1_9, u1_8_f0_l, u1_8_f1_l) => nu1) (fun (nu1, u1_9, u1_8_f0_l, u1_8_f1_l) => [(9, .int .i64 ((u1_9 : Nat) : Int)), (8, .pointer (some ⟨w_2_8_g, 0, none⟩)), (6, .pointer (some ⟨g6,0, none⟩)), (4, .pointer (some ⟨g4,0, none⟩)), (3, .pointer (some ⟨g3,0, none⟩))]) (fun (nu1, u1_9, u1_8_f0_l, u1_8_f1_l) => [.sli 3 R_V qp4 qc5 l12, .sli 5 R_ArgD qp0 qc1 l2, .sli 7 R_Api_ExprD qp2 qc3 l9]) (fun (nu1, u1_9, u1_8_f0_l, u1_8_f1_l) => [.blk w_2_8_g [.slice w_2_8_f0_p (l13).length w_2_8_f0_c, .slice w_2_8_f1_p (l14).length w_2_8_f1_c] 47, .own 4 1 R_bool (.slice w_2_8_f0_p (l13).length w_2_8_f0_c) u1_8_f0_l, .own 27 3 R_V (.slice w_2_8_f1_p (l14).length w_2_8_f1_c) u1_8_f1_l, .blk g6 [.slice none 0 0, .slice none 0 0] 47, .blk g4 [.int .i64 a10, .int .i64 a11, .slice qp4 l12.length qc5] 36, .blk g3 [.int .u8 a0, .int .i64 a1, .slice qp0 l2.length qc1, .int .u8 a3, .int .u8 a4, .int .i64 a5, .string a6, .int .i64 a7, .int .u8 a8, .slice qp2 l9.length qc3] 33]) (N, 0, l13, l14) hm [9,8,6,4,3] rfl (asK [0,1,2] rfl) rfl (fun s_ hm => ?_)))))))
     obtain ⟨nu1, u1_9, u1_8_f0_l, u1_8_f1_l⟩ := s_
     try dsimp only at hm ⊢
     obtain ⟨mu1, bu1, hnu1, hq, hLu1⟩ := iter_some hm
     clear hm
     subst hnu1
     replace hm := hq
     clear hq
     unfold m_ropewalkref10_Match_L1 at hm
     try dsimp only at hm
     refine wc_seq (wc_seq (wc_region (wP rfl (wF rfl tF_33_2 (wD 5 2 rfl tS_23 tA_23 rfl (wN rfl tE_23 (wP rfl (wl_as (d := 57) (v' := .bool (decide (u1_9 < l2.length))) (S' := [_,_,_,_,_,_,_,_,_]) rfl rfl (natlt (a := u1_9) (b := l2.length)) (wl_nil (we_then (wc_keep [57,9,8,6,4,3] (S' := [_,_,_,_,_,_]) rfl ?_)))))))))))
     refine wc_cond rfl (fun hb57 => ?_) (fun hb57 => ?_)
     ·
      replace hm := iteT hm hb57
      refine wc_keep [9,8,6,4,3] (S' := [_,_,_,_,_]) rfl (wc_skip (we_then (wc_seq (wc_block (wc_seq ?_)))))
      obtain ⟨x63, hx63, hm⟩ := bindO_some hm
      obtain ⟨x68, hx68, hm⟩ := bindO_some hm
      refine wc_cut (σ := Nat × Nat) (fun _ => True) (fun (w_4_11_g, w_4_10_g) => [(11, .pointer (some ⟨w_4_11_g, 0, none⟩)), (10, .pointer (some ⟨w_4_10_g, 0, none⟩)), (9, .int .i64 ((u1_9 : Nat) : Int)), (8, .pointer (some ⟨w_2_8_g, 0, none⟩)), (6, .pointer (some ⟨g6,0, none⟩)), (4, .pointer (some ⟨g4,0, none⟩)), (3, .pointer (some ⟨g3,0, none⟩))]) (fun (w_4_11_g, w_4_10_g) => [.sli 3 R_V qp4 qc5 l12, .sli 5 R_ArgD qp0 qc1 l2, .sli 7 R_Api_ExprD qp2 qc3 l9]) (fun (w_4_11_g, w_4_10_g) => [.blk w_4_11_g [.int .u8 (x68.k), .int .i64 (x68.n), .string x68.s] 27, .blk w_4_10_g [.int .u8 (x63.k), .int .i64 (x63.var), .int .u8 (x63.v.k), .int .i64 (x63.v.n), .string x63.v.s] 64, .blk w_2_8_g [.slice w_2_8_f0_p (l13).length w_2_8_f0_c, .slice w_2_8_f1_p (l14).length w_2_8_f1_c] 47, .own 4 1 R_bool (.slice w_2_8_f0_p (l13).length w_2_8_f0_c) u1_8_f0_l, .own 27 3 R_V (.slice w_2_8_f1_p (l14).length w_2_8_f1_c) u1_8_f1_l, .blk g6 [.slice none 0 0, .slice none 0 0] 47, .blk g4 [.int .i64 a10, .int .i64 a11, .slice qp4 l12.length qc5] 36, .blk g3 [.int .u8 a0, .int .i64 a1, .slice qp0 l2.length qc1, .int .u8 a3, .int .u8 a4, .int .i64 a5, .string a6, .int .i64 a7, .int .u8 a8, .slice qp2 l9.length qc3] 33]) ?_ ?_
      ·
       refine wc_draw [0,1,2,3,4,5,6,7,8,9] rfl rfl (fun hok => (wx_fieldAddr hok 0 rfl rfl rfl (freshS_eq rfl) rfl rfl rfl tF_33_2 (wx_loadH hok 1 5 2 rfl rfl rfl (freshS_eq rfl) rfl rfl rfl rfl (cs := [_]) rfl tS_23 tA_23 rfl rfl (xP hok 2 rfl (wx_indexA hok 3 1 u1_9 rfl rfl rfl (freshS_eq rfl) rfl rfl rfl rfl rfl rfl hx63 tE_23 tS_64 (fun b63 q63 cs63 hlx63 => (wx_openR R_ArgD_opens 1 rfl (fun r63 er63 _ => ?_))))))))
       subst er63
       refine wx_load hok 4 0 0 rfl rfl rfl (freshS_eq rfl) rfl rfl rfl rfl (cs := [_,_,_,_,_]) rfl tS_64 tA_64 rfl rfl (wx_fieldAddr hok 5 rfl rfl rfl (freshS_eq rfl) rfl rfl rfl tF_36_2 (wx_loadH hok 6 4 2 rfl rfl rfl (freshS_eq rfl) rfl rfl rfl rfl (cs := [_]) rfl tS_34 tA_34 rfl rfl (xP hok 7 rfl (wx_indexA hok 8 2 u1_9 rfl rfl rfl (freshS_eq rfl) rfl rfl rfl rfl rfl rfl hx68 tE_34 tS_27 (fun b68 q68 cs68 hlx68 => (wx_openR R_V_opens 1 rfl (fun r68 er68 _ => ?_)))))))
       subst er68
       refine wx_load hok 9 0 0 rfl rfl rfl (freshS_eq rfl) rfl rfl rfl rfl (cs := [_,_,_]) rfl tS_27 tA_27 rfl rfl ?_
       refine wx_step2 hok 10 11 rfl rfl rfl rfl rfl rfl ?_ ?_
       ·
        refine wl_alloc rfl rfl rfl (freshS_eq rfl) rfl tZ_64 rfl (fun g10 => (wl_nil (we_x [0,1,2,3,4,5,6] [5,6] rfl rfl (xS hok 11 rfl (wl_alloc rfl rfl rfl (freshS_eq rfl) rfl tZ_27 rfl (fun g11 => (wl_nil (we_x [0,1,2,3,4,5,6] [6,7] rfl rfl (xS hok 12 rfl (wS 1 0 rfl tS_64 (all' := [_,_,_,_,_]) rfl (H' := [_,_,_,_,_,_,_,_]) rfl (wl_nil (we_x [0,1,2,3,4,5,6] [6] rfl rfl (xS hok 13 rfl (wS 0 0 rfl tS_27 (all' := [_,_,_]) rfl (H' := [_,_,_,_,_,_,_,_]) rfl (wl_nil ?_)))))))))))))))
        refine we_x [0,1,2,3,4,5,6] [] rfl rfl (wx_done hok rfl ?_)
        refine we_join (g11, g10) trivial [11,10,9,8,6,4,3] rfl (asK [4,5,6] rfl) rfl
       ·
        refine wl_alloc rfl rfl rfl (freshS_eq rfl) rfl tZ_27 rfl (fun g11 => (wl_nil (we_x [0,1,2,3,4,5,6] [5,6] rfl rfl (xS hok 10 rfl (wl_alloc rfl rfl rfl (freshS_eq rfl) rfl tZ_64 rfl (fun g10 => (wl_nil (we_x [0,1,2,3,4,5,6] [6,7] rfl rfl (xS hok 12 rfl (wS 0 0 rfl tS_64 (all' := [_,_,_,_,_]) rfl (H' := [_,_,_,_,_,_,_,_]) rfl (wl_nil (we_x [0,1,2,3,4,5,6] [6] rfl rfl (xS hok 13 rfl (wS 1 0 rfl tS_27 (all' := [_,_,_]) rfl (H' := [_,_,_,_,_,_,_,_]) rfl (wl_nil ?_)))))))))))))))
        refine we_x [0,1,2,3,4,5,6] [] rfl rfl (wx_done hok rfl (we_pick [1,0,2,3,4,5,6,7] rfl (H' := [_,_,_,_,_,_,_,_]) rfl ?_))
        refine we_join (g11, g10) trivial [11,10,9,8,6,4,3] rfl (asK [4,5,6] rfl) rfl
      ·
       rintro ⟨w_4_11_g, w_4_10_g⟩ _
       try dsimp only
       refine wc_seq ?_
       obtain ⟨bj_5, hm, hLj_5⟩ := bindO_some hm
       refine wc_cut (σ := Bool) (fun j_5_12 => bj_5 = j_5_12) (fun j_5_12 => [(11, .pointer (some ⟨w_4_11_g, 0, none⟩)), (10, .pointer (some ⟨w_4_10_g, 0, none⟩)), (9, .int .i64 ((u1_9 : Nat) : Int)), (8, .pointer (some ⟨w_2_8_g, 0, none⟩)), (6, .pointer (some ⟨g6,0, none⟩)), (4, .pointer (some ⟨g4,0, none⟩)), (3, .pointer (some ⟨g3,0, none⟩)), (12, .bool j_5_12)]) (fun j_5_12 => [.sli 3 R_V qp4 qc5 l12, .sli 5 R_ArgD qp0 qc1 l2, .sli 7 R_Api_ExprD qp2 qc3 l9]) (fun j_5_12 => [.blk w_4_11_g [.int .u8 (x68.k), .int .i64 (x68.n), .string x68.s] 27, .blk w_4_10_g [.int .u8 (x63.k), .int .i64 (x63.var), .int .u8 (x63.v.k), .int .i64 (x63.v.n), .string x63.v.s] 64, .blk w_2_8_g [.slice w_2_8_f0_p (l13).length w_2_8_f0_c, .slice w_2_8_f1_p (l14).length w_2_8_f1_c] 47, .own 4 1 R_bool (.slice w_2_8_f0_p (l13).length w_2_8_f0_c) u1_8_f0_l, .own 27 3 R_V (.slice w_2_8_f1_p (l14).length w_2_8_f1_c) u1_8_f1_l, .blk g6 [.slice none 0 0, .slice none 0 0] 47, .blk g4 [.int .i64 a10, .int .i64 a11, .slice qp4 l12.length qc5] 36, .blk g3 [.int .u8 a0, .int .i64 a1, .slice qp0 l2.length qc1, .int .u8 a3, .int .u8 a4, .int .i64 a5, .string a6, .int .i64 a7, .int .u8 a8, .slice qp2 l9.length qc3] 33]) ?_ ?_
       ·
        refine wc_region (wF rfl tF_64_1 (wD 1 1 rfl tS_3 tA_3 rfl (wP rfl (wP rfl ?_))))
        refine wl_split (d := 73) (S' := [_,_,_,_,_,_,_,_,_,_]) rfl rfl (fun hs73 => ?_) (fun hs73 => ?_)
        ·
         replace hm := iteT hm hs73
         refine wF rfl tF_64_1 (wD 1 1 rfl tS_3 tA_3 rfl (wF rfl tF_47_0 (wD 2 0 rfl tS_37 tA_37 rfl (wl_ownLen 3 rfl (fun hl78 _ => (wN rfl tE_37 (wl_as (d := 78) (v' := .int .i64 ((u1_8_f0_l.length : Nat) : Int)) (S' := [_,_,_,_,_,_,_,_,_,_,_,_,_,_,_]) rfl rfl (len_is hl78) (wP rfl (wP rfl (wP rfl (wl_nil ?_)))))))))))
         have hE := (Option.some.inj hm).symm
         refine we_join (decide (x63.var < ((u1_8_f0_l.length : Nat) : Int))) hE [11,10,9,8,6,4,3,12] rfl (asK [0,1,2] rfl) rfl
        ·
         replace hm := iteF hm hs73
         refine wO rfl (wO rfl (wO rfl (wO rfl (wO rfl (wO rfl (wP rfl (wP rfl (wl_nil ?_))))))))
         have hE := (Option.some.inj hm).symm
         refine we_join false hE [11,10,9,8,6,4,3,12] rfl (asK [0,1,2] rfl) rfl
       ·
        rintro j_5_12 hE
        try dsimp only
        have hm := hLj_5
        rw [hE] at hm
        refine wc_seq (wc_region (wP rfl (wl_nil (we_then (wc_seq ?_)))))
        obtain ⟨bj_6, hm, hLj_6⟩ := bindO_some hm
        unfold m_ropewalkref10_Match_C6 at hm
        refine wc_cut (σ := (List Bool) × (List V) × Bool) (fun (j_6_8_f0_l, j_6_8_f1_l, j_6_13) => bj_6 = (j_6_8_f0_l, j_6_8_f1_l, j_6_13)) (fun (j_6_8_f0_l, j_6_8_f1_l, j_6_13) => [(9, .int .i64 ((u1_9 : Nat) : Int)), (8, .pointer (some ⟨w_2_8_g, 0, none⟩)), (6, .pointer (some ⟨g6,0, none⟩)), (4, .pointer (some ⟨g4,0, none⟩)), (3, .pointer (some ⟨g3,0, none⟩)), (13, .bool j_6_13)]) (fun (j_6_8_f0_l, j_6_8_f1_l, j_6_13) => [.sli 3 R_V qp4 qc5 l12, .sli 5 R_ArgD qp0 qc1 l2, .sli 7 R_Api_ExprD qp2 qc3 l9]) (fun (j_6_8_f0_l, j_6_8_f1_l, j_6_13) => [.blk w_2_8_g [.slice w_2_8_f0_p (l13).length w_2_8_f0_c, .slice w_2_8_f1_p (l14).length w_2_8_f1_c] 47, .own 4 1 R_bool (.slice w_2_8_f0_p (l13).length w_2_8_f0_c) j_6_8_f0_l, .own 27 3 R_V (.slice w_2_8_f1_p (l14).length w_2_8_f1_c) j_6_8_f1_l, .blk g6 [.slice none 0 0, .slice none 0 0] 47, .blk g4 [.int .i64 a10, .int .i64 a11, .slice qp4 l12.length qc5] 36, .blk g3 [.int .u8 a0, .int .i64 a1, .slice qp0 l2.length qc1, .int .u8 a3, .int .u8 a4, .int .i64 a5, .string a6, .int .i64 a7, .int .u8 a8, .slice qp2 l9.length qc3] 33]) ?_ ?_
        ·
         refine wc_seq (wc_region (wF rfl tF_64_0 (wD 1 0 rfl tS_62 tA_62 rfl (wl_nil (we_then (wc_keep [82,13,11,10,9,8,6,4,3,12] (S' := [_,_,_,_,_,_,_,_,_,_]) rfl (wc_block (wc_seq (wc_region (wP rfl (wP rfl (wl_nil (we_then ?_)))))))))))))
         refine wc_keep [83,82,13,11,10,9,8,6,4,3,12] (S' := [_,_,_,_,_,_,_,_,_,_,_]) rfl ?_
         refine wc_cond rfl (fun hb83 => ?_) (fun hb83 => ?_)
         ·
          replace hm := iteT hm hb83
          refine wc_keep [9,8,6,4,3] (S' := [_,_,_,_,_]) rfl (wc_region (wP rfl (wl_nil (we_block_normal ?_))))
          have hE := (Option.some.inj hm).symm
          refine we_pick [2,3,4,5,6,7] rfl (H' := [_,_,_,_,_,_]) rfl ?_
          refine we_join (u1_8_f0_l, u1_8_f1_l, true) hE [9,8,6,4,3,13] rfl (asK [0,1,2] rfl) rfl
         ·
          replace hm := iteF hm hb83
          refine wc_keep [82,13,11,10,9,8,6,4,3,12] (S' := [_,_,_,_,_,_,_,_,_,_]) rfl (wc_seq (wc_region (wP rfl (wP rfl (wl_nil (we_then (wc_keep [85,82,13,11,10,9,8,6,4,3,12] (S' := [_,_,_,_,_,_,_,_,_,_,_]) rfl ?_)))))))
          refine wc_cond rfl (fun hb85 => ?_) (fun hb85 => ?_)
          ·
           replace hm := iteT hm hb85
           refine wc_keep [11,10,9,8,6,4,3,12] (S' := [_,_,_,_,_,_,_,_]) rfl (wc_seq (wc_region (wP rfl (wP rfl (wl_nil (we_then (wc_keep [13,11,10,9,8,6,4,3,12] (S' := [_,_,_,_,_,_,_,_,_]) rfl (wc_seq (wc_region (wP rfl (wl_nil (we_then (wc_keep [88,13,11,10,9,8,6,4,3] (S' := [_,_,_,_,_,_,_,_,_]) rfl ?_)))))))))))))
           refine wc_cond rfl (fun hb88 => ?_) (fun hb88 => ?_)
           ·
            replace hm := iteT hm hb88
            refine wc_keep [13,11,10,9,8,6,4,3] (S' := [_,_,_,_,_,_,_,_]) rfl (wc_seq (wc_region (wF rfl tF_47_0 (wD 2 0 rfl tS_37 tA_37 rfl (wF rfl tF_64_1 (wD 1 1 rfl tS_3 tA_3 rfl ?_))))))
            obtain ⟨hn93, hm⟩ := gd_some hm
            obtain ⟨x93, hx93, hm⟩ := bindO_some hm
            refine wl_indexH 3 x63.var.toNat rfl rfl rfl (freshS_eq rfl) rfl rfl rfl rfl (toNat_eq hn93) (get_lt hx93) tE_37 tS_4 (fun g93 eg93 => ?_)
            subst eg93
            refine wl_storeRow (u := true) 3 x63.var.toNat rfl rfl rfl rfl rfl (get_lt hx93) rfl rfl tS_4 rfl (fun F w hφ => ⟨(), rfl, ask_nil⟩) (H' := [_,_,_,_,_,_,_,_]) rfl (wl_nil (we_then (wc_keep [13,11,10,9,8,6,4,3] (S' := [_,_,_,_,_,_,_,_]) rfl (wc_region (wF rfl tF_47_1 (wD 2 1 rfl tS_34 tA_34 rfl (wF rfl tF_64_1 (wD 1 1 rfl tS_3 tA_3 rfl (wl_loadH 0 0 rfl rfl rfl (freshS_eq rfl) rfl rfl rfl (cs := [_,_,_]) rfl tS_27 tA_27 rfl rfl ?_)))))))))
            obtain ⟨hn99, hm⟩ := gd_some hm
            obtain ⟨x99, hx99, hm⟩ := bindO_some hm
            refine wl_indexH 4 x63.var.toNat rfl rfl rfl (freshS_eq rfl) rfl rfl rfl rfl (toNat_eq hn99) (get_lt hx99) tE_34 tS_27 (fun g99 eg99 => ?_)
            subst eg99
            refine wl_storeRow (u := x68) 4 x63.var.toNat rfl rfl rfl rfl rfl (get_lt hx99) rfl rfl tS_27 rfl (fun F w hφ => ⟨(), rfl, ask_nil⟩) (H' := [_,_,_,_,_,_,_,_]) rfl (wl_nil (we_block_normal ?_))
            have hE := (Option.some.inj hm).symm
            refine we_pick [2,3,4,5,6,7] rfl (H' := [_,_,_,_,_,_]) rfl ?_
            refine we_join (u1_8_f0_l.set x63.var.toNat true, u1_8_f1_l.set x63.var.toNat x68, j_5_12) hE [9,8,6,4,3,13] rfl (asK [0,1,2] rfl) rfl
           ·
            replace hm := iteF hm hb88
            refine wc_keep [13,9,8,6,4,3] (S' := [_,_,_,_,_,_]) rfl (wc_skip (we_block_normal ?_))
            have hE := (Option.some.inj hm).symm
            refine we_pick [2,3,4,5,6,7] rfl (H' := [_,_,_,_,_,_]) rfl ?_
            refine we_join (u1_8_f0_l, u1_8_f1_l, j_5_12) hE [9,8,6,4,3,13] rfl (asK [0,1,2] rfl) rfl
          ·
           replace hm := iteF hm hb85
           refine wc_keep [82,13,11,10,9,8,6,4,3,12] (S' := [_,_,_,_,_,_,_,_,_,_]) rfl (wc_seq (wc_region (wP rfl (wP rfl (wl_nil (we_then (wc_keep [100,82,13,11,10,9,8,6,4,3,12] (S' := [_,_,_,_,_,_,_,_,_,_,_]) rfl ?_)))))))
           refine wc_cond rfl (fun hb100 => ?_) (fun hb100 => ?_)
           ·
            replace hm := iteT hm hb100
            refine wc_keep [11,10,9,8,6,4,3,12] (S' := [_,_,_,_,_,_,_,_]) rfl ?_
            rcases ite_some hm with ⟨hs103, hm⟩ | ⟨hs103, hm⟩
            ·
             obtain ⟨hn108, hm⟩ := gd_some hm
             obtain ⟨x108, hx108, hm⟩ := bindO_some hm
             rcases ite_some hm with ⟨hs111, hm⟩ | ⟨hs111, hm⟩
             ·
              obtain ⟨hn116, hm⟩ := gd_some hm
              obtain ⟨x116, hx116, hm⟩ := bindO_some hm
              refine wc_draw [0,1,2,3,4,5,6,7,8,9,10,11,12,13,14,15,16,17,18] rfl rfl (fun hok => (xP hok 0 rfl (xP hok 1 rfl (wx_as (d := 103) (v' := .bool true) (S' := [_,_,_,_,_,_,_,_,_]) rfl rfl (bool_is hs103) (wx_fieldAddr hok 2 rfl rfl rfl (freshS_eq rfl) rfl rfl rfl tF_47_0 (wx_loadH hok 3 2 0 rfl rfl rfl (freshS_eq rfl) rfl rfl rfl rfl (cs := [_]) rfl tS_37 tA_37 rfl rfl (wx_fieldAddr hok 4 rfl rfl rfl (freshS_eq rfl) rfl rfl rfl tF_64_1 (wx_loadH hok 5 1 1 rfl rfl rfl (freshS_eq rfl) rfl rfl rfl rfl (cs := [_]) rfl tS_3 tA_3 rfl rfl (wx_indexH hok 6 3 x63.var.toNat rfl rfl rfl (freshS_eq rfl) rfl rfl rfl rfl rfl (toNat_eq hn108) (get_lt hx108) tE_37 tS_4 (fun g108 eg108 => ?_))))))))))
              subst eg108
              refine wx_loadRow hok 7 R_bool_opens 3 x63.var.toNat 0 rfl rfl rfl (freshS_eq rfl) rfl rfl rfl rfl hx108 tS_4 tA_4 (v := .bool x108) rfl rfl (fun _ => (xP hok 8 rfl (xP hok 9 rfl (wx_as (d := 111) (v' := .bool true) (S' := [_,_,_,_,_,_,_,_,_,_,_,_,_,_,_,_,_]) rfl rfl (bool_is hs111) (wx_fieldAddr hok 10 rfl rfl rfl (freshS_eq rfl) rfl rfl rfl tF_47_1 (wx_loadH hok 11 2 1 rfl rfl rfl (freshS_eq rfl) rfl rfl rfl rfl (cs := [_]) rfl tS_34 tA_34 rfl rfl (wx_fieldAddr hok 12 rfl rfl rfl (freshS_eq rfl) rfl rfl rfl tF_64_1 (wx_loadH hok 13 1 1 rfl rfl rfl (freshS_eq rfl) rfl rfl rfl rfl (cs := [_]) rfl tS_3 tA_3 rfl rfl (wx_indexH hok 14 4 x63.var.toNat rfl rfl rfl (freshS_eq rfl) rfl rfl rfl rfl rfl (toNat_eq hn116) (get_lt hx116) tE_34 tS_27 (fun g116 eg116 => ?_))))))))))
              subst eg116
              refine wx_loadRow hok 15 R_V_opens 4 x63.var.toNat 0 rfl rfl rfl (freshS_eq rfl) rfl rfl rfl rfl hx116 tS_27 tA_27 (v := .agg #[.int .u8 (x116.k), .int .i64 (x116.n), .string x116.s]) rfl rfl (fun _ => (wx_loadH hok 16 0 0 rfl rfl rfl (freshS_eq rfl) rfl rfl rfl rfl (cs := [_,_,_]) rfl tS_27 tA_27 rfl rfl (wx_bin hok 17 rfl rfl rfl (freshS_eq rfl) rfl rfl rfl rfl (eqlV _ _ x116 x68) (xP hok 18 rfl (xS hok 19 rfl (wP rfl (wl_nil (we_x [0,1,2] [] rfl rfl (wx_done hok rfl (we_block_normal ?_))))))))))
              have hE := (Option.some.inj hm).symm
              refine we_pick [2,3,4,5,6,7] rfl (H' := [_,_,_,_,_,_]) rfl ?_
              refine we_join (u1_8_f0_l, u1_8_f1_l, decide (x116 = x68)) hE [9,8,6,4,3,13] rfl (asK [0,1,2] rfl) rfl
             ·
              refine wc_draw [0,1,2,3,4,5,6,7,8,9,10,11,12,13,14,15,16,17,18] rfl rfl (fun hok => (xP hok 0 rfl (xP hok 1 rfl (wx_as (d := 103) (v' := .bool true) (S' := [_,_,_,_,_,_,_,_,_]) rfl rfl (bool_is hs103) (wx_fieldAddr hok 2 rfl rfl rfl (freshS_eq rfl) rfl rfl rfl tF_47_0 (wx_loadH hok 3 2 0 rfl rfl rfl (freshS_eq rfl) rfl rfl rfl rfl (cs := [_]) rfl tS_37 tA_37 rfl rfl (wx_fieldAddr hok 4 rfl rfl rfl (freshS_eq rfl) rfl rfl rfl tF_64_1 (wx_loadH hok 5 1 1 rfl rfl rfl (freshS_eq rfl) rfl rfl rfl rfl (cs := [_]) rfl tS_3 tA_3 rfl rfl (wx_indexH hok 6 3 x63.var.toNat rfl rfl rfl (freshS_eq rfl) rfl rfl rfl rfl rfl (toNat_eq hn108) (get_lt hx108) tE_37 tS_4 (fun g108 eg108 => ?_))))))))))
              subst eg108
              refine wx_loadRow hok 7 R_bool_opens 3 x63.var.toNat 0 rfl rfl rfl (freshS_eq rfl) rfl rfl rfl rfl hx108 tS_4 tA_4 (v := .bool x108) rfl rfl (fun _ => (xP hok 8 rfl (xP hok 9 rfl (wx_as (d := 111) (v' := .bool false) (S' := [_,_,_,_,_,_,_,_,_,_,_,_,_,_,_,_,_]) rfl rfl (bool_is hs111) (xO hok 10 rfl (xO hok 11 rfl (xO hok 12 rfl (xO hok 13 rfl (xO hok 14 rfl (xO hok 15 rfl (xO hok 16 rfl (xO hok 17 rfl (xP hok 18 rfl (xS hok 19 rfl ?_))))))))))))))
              refine wP rfl (wl_nil (we_x [0,1,2] [] rfl rfl (wx_done hok rfl (we_block_normal ?_))))
              have hE := (Option.some.inj hm).symm
              refine we_pick [2,3,4,5,6,7] rfl (H' := [_,_,_,_,_,_]) rfl ?_
              refine we_join (u1_8_f0_l, u1_8_f1_l, false) hE [9,8,6,4,3,13] rfl (asK [0,1,2] rfl) rfl
            ·
             refine wc_draw [0,1,2,3,4,5,6,7,8,9,10,11,12,13,14,15,16,17,18] rfl rfl (fun hok => (xP hok 0 rfl (xP hok 1 rfl (wx_as (d := 103) (v' := .bool false) (S' := [_,_,_,_,_,_,_,_,_]) rfl rfl (bool_is hs103) (xO hok 2 rfl (xO hok 3 rfl (xO hok 4 rfl (xO hok 5 rfl (xO hok 6 rfl (xO hok 7 rfl (xP hok 8 rfl (xP hok 9 rfl (xO hok 10 rfl (xO hok 11 rfl ?_))))))))))))))
             refine xO hok 12 rfl (xO hok 13 rfl (xO hok 14 rfl (xO hok 15 rfl (xO hok 16 rfl (xO hok 17 rfl (xP hok 18 rfl (xS hok 19 rfl (wP rfl (wl_nil (we_x [0,1,2] [] rfl rfl (wx_done hok rfl (we_block_normal ?_))))))))))))
             have hE := (Option.some.inj hm).symm
             refine we_pick [2,3,4,5,6,7] rfl (H' := [_,_,_,_,_,_]) rfl ?_
             refine we_join (u1_8_f0_l, u1_8_f1_l, false) hE [9,8,6,4,3,13] rfl (asK [0,1,2] rfl) rfl
           ·
            replace hm := iteF hm hb100
            refine wc_keep [82,13,11,10,9,8,6,4,3] (S' := [_,_,_,_,_,_,_,_,_]) rfl (wc_seq (wc_region (wP rfl (wP rfl (wl_nil (we_then (wc_keep [121,13,11,10,9,8,6,4,3] (S' := [_,_,_,_,_,_,_,_,_]) rfl ?_)))))))
            refine wc_cond rfl (fun hb121 => ?_) (fun hb121 => ?_)
            ·
             replace hm := iteT hm hb121
             refine wc_keep [11,10,9,8,6,4,3] (S' := [_,_,_,_,_,_,_]) rfl (wc_region (wF rfl tF_64_2 (wl_loadH 1 2 rfl rfl rfl (freshS_eq rfl) rfl rfl rfl (cs := [_,_,_]) rfl tS_27 tA_27 rfl rfl (wl_loadH 0 0 rfl rfl rfl (freshS_eq rfl) rfl rfl rfl (cs := [_,_,_]) rfl tS_27 tA_27 rfl rfl (wl_bin rfl rfl rfl (freshS_eq rfl) rfl rfl rfl (eqlV _ _ x63.v x68) (wP rfl (wl_nil (we_block_normal ?_))))))))
             have hE := (Option.some.inj hm).symm
             refine we_pick [2,3,4,5,6,7] rfl (H' := [_,_,_,_,_,_]) rfl ?_
             refine we_join (u1_8_f0_l, u1_8_f1_l, decide (x63.v = x68)) hE [9,8,6,4,3,13] rfl (asK [0,1,2] rfl) rfl
            ·
             replace hm := iteF hm hb121
             refine wc_keep [13,9,8,6,4,3] (S' := [_,_,_,_,_,_]) rfl (wc_skip (we_block_normal ?_))
             have hE := (Option.some.inj hm).symm
             refine we_pick [2,3,4,5,6,7] rfl (H' := [_,_,_,_,_,_]) rfl ?_
             refine we_join (u1_8_f0_l, u1_8_f1_l, false) hE [9,8,6,4,3,13] rfl (asK [0,1,2] rfl) rfl
        ·
         rintro ⟨j_6_8_f0_l, j_6_8_f1_l, j_6_13⟩ hE
         try dsimp only
         have hm := hLj_6
         rw [hE] at hm
         try dsimp only at hm
         refine wc_seq (wc_region (wP rfl (wP rfl (wl_nil (we_then (wc_keep [128,9,8,6,4,3] (S' := [_,_,_,_,_,_]) rfl ?_))))))
         refine wc_cond rfl (fun hb128 => ?_) (fun hb128 => ?_)
         ·
          replace hm := iteT hm hb128
          refine wc_keep [6] (S' := [_]) rfl (wc_seq (wc_region (wl_build rfl rfl rfl (freshS_eq rfl) rfl tZ_47 tP_47 rfl (out := [_,_]) rfl (wS 3 0 rfl tS_47 (all' := [_,_]) rfl (H' := [_,_,_,_,_,_]) rfl (wP rfl (wl_nil (we_then (wc_keep [7,6] (S' := [_,_]) rfl (wc_ret (we_block_ret (we_then_ret (we_then_ret (we_block_ret ?_)))))))))))))
          refine we_then_ret ?_
          have hE := (Option.some.inj hm).symm
          replace hE := link_inr hLu1 hE
          replace hE := link_inr hLj_3 hE
          obtain ⟨hE0, hF1⟩ := Prod.mk.inj hE
          obtain ⟨hE1, hE2⟩ := Prod.mk.inj hF1
          clear hE hF1
          replace hE0 := hE0.symm
          subst hE0
          replace hE1 := hE1.symm
          subst hE1
          replace hE2 := hE2.symm
          subst hE2
          refine we_rowNil 4 1 R_bool (we_rowNil 27 3 R_V ?_)
          refine ret_two (Hr := [_,_]) [1,0] Tryz.results11 (res_cell 5 rfl rfl tS_47 tA_47 rfl rfl) (res_tmp rfl) ⟨none, 0,0, none, 0,0, rfl, rfl, rfl⟩ (asK [] rfl) rfl rfl (.inl rfl)
         ·
          replace hm := iteF hm hb128
          refine wc_keep [9,8,6,4,3] (S' := [_,_,_,_,_]) rfl (wc_skip (we_block_normal (we_then (wc_region (wP rfl (wP rfl ?_))))))
          obtain ⟨hg59, hm⟩ := gd_some hm
          refine wl_as (d := 59) (v' := .int .i64 ((u1_9 + 1 : Nat) : Int)) (S' := [_,_,_,_,_,_]) rfl rfl (nat_add (a := u1_9) (b := 1) hg59) (wl_pure (S' := [_,_,_,_,_,_]) rfl rfl rfl rfl rfl (wl_nil ?_))
          have hE := (Option.some.inj hm).symm
          replace hE := link_inl hLu1 hE
          refine we_roundK (_, u1_9 + 1, j_6_8_f0_l, j_6_8_f1_l) (Nat.lt_succ_self _) hE [9,8,6,4,3] rfl (asK [0,1,2] rfl) rfl
     ·
      replace hm := iteF hm hb57
      refine wc_keep [8,6] (S' := [_,_]) rfl (wc_exit (we_then_exit (we_then_exit (we_block_hit ?_))))
      have hE := (Option.some.inj hm).symm
      replace hE := link_inr hLu1 hE
      refine we_pick [0,1,2,3] rfl (H' := [_,_,_,_]) rfl ?_
      refine we_join (u1_8_f0_l, u1_8_f1_l) hE [8,6] rfl (asK [] rfl) rfl
    ·
     rintro ⟨j_3_8_f0_l, j_3_8_f1_l⟩ hE
     try dsimp only
     have hm := link_inl hLj_3 hE
     try dsimp only at hm
     refine wc_seq (wc_region (wl_loadH 0 0 rfl rfl rfl (freshS_eq rfl) rfl rfl rfl (cs := [_,_]) rfl tS_47 tA_47 rfl rfl (wS 3 0 rfl tS_47 (all' := [_,_]) rfl (H' := [_,_,_,_]) rfl (wP rfl (wl_nil (we_then (wc_keep [7,6] (S' := [_,_]) rfl (wc_ret ?_))))))))
     have hE := (Option.some.inj hm).symm
     obtain ⟨hE0, hF1⟩ := Prod.mk.inj hE
     obtain ⟨hE1, hE2⟩ := Prod.mk.inj hF1
     clear hE hF1
     replace hE0 := hE0.symm
     subst hE0
     replace hE1 := hE1.symm
     subst hE1
     replace hE2 := hE2.symm
     subst hE2
     refine ret_two (Hr := [_,_]) [1,2] Tryz.results11 (res_cell 3 rfl rfl tS_47 tA_47 rfl rfl) (res_tmp rfl) ⟨w_2_8_f0_p, w_2_8_f0_c, (l13).length, w_2_8_f1_p, w_2_8_f1_c, (l14).length, rfl, rfl, rfl⟩ (asK [] rfl) rfl rfl (.inl rfl)
theorem w_ropewalkkit_SameValues_s (N : Nat) (qp0 : Option Addr) (qc1 : Nat) (l0 : List V) (qp2 : Option Addr) (qc3 : Nat) (l1 : List V) (o0 : Bool) (hm : m_ropewalkkit_SameValues N l0 l1 = some o0) : Spec Tryz.prog 30 [.slice qp0 l0.length qc1, .slice qp2 l1.length qc3] [.sli 3 R_V qp0 qc1 l0, .sli 3 R_V qp2 qc3 l1] [] (fun v Φr Hr => v = .bool o0 ∧ Φr = [] ∧ Hr = []) := by
 unfold m_ropewalkkit_SameValues at hm
 refine spec_of Tryz.func30 rfl Tryz.ntmps30 rfl (S := [_,_]) rfl (fun C => (wc_seq (wc_region (wP rfl (wl_nil (we_then (wc_keep [0,1] (S' := [_,_]) rfl (wc_seq (wc_seq (wc_region (wP rfl (wN rfl tE_34 (wP rfl (wN rfl tE_34 ?_))))))))))))))
 refine wP rfl (wl_as (d := 10) (v' := .bool (l0.length != l1.length)) (S' := [_,_,_,_,_,_]) rfl rfl (natne (a := l0.length) (b := l1.length)) (wl_nil (we_then (wc_keep [10,0,1] (S' := [_,_,_]) rfl ?_))))
 refine wc_cond rfl (fun hb10 => ?_) (fun hb10 => ?_)
 ·
  replace hm := iteT hm hb10
  refine wc_keep [] (S' := []) rfl (wc_seq (wc_region (wP rfl (wl_nil (we_then (wc_ret (we_then_ret ?_)))))))
  have hE := (Option.some.inj hm).symm
  replace hE := hE.symm
  subst hE
  refine ret_one (Hr := []) [] Tryz.results30 (res_tmp rfl) ⟨rfl, rfl, rfl⟩ (asK [] rfl) rfl rfl (.inl rfl)
 ·
  replace hm := iteF hm hb10
  refine wc_keep [0,1] (S' := [_,_]) rfl (wc_skip (we_then (wc_seq ?_)))
  obtain ⟨bj_1, hm, hLj_1⟩ := bindS_some hm
  refine wc_cut (σ := Unit) (fun _ => bj_1 = .inl ()) (fun _ => []) (fun _ => []) (fun _ => []) ?_ ?_
  ·
   refine wc_seq (wc_region (wP rfl (wl_nil (we_then (wc_block (wc_loop (σ := Nat × Nat) (fun (nu1, u1_5) => iter (m_ropewalkkit_SameValues_L1 N l0 l1) nu1 u1_5 = some bj_1) (fun (nu1, u1_5) => nu1) (fun (nu1, u1_5) => [(5, .int .i64 ((u1_5 : Nat) : Int)), (0, .slice qp0 l0.length qc1), (1, .slice qp2 l1.length qc3)]) (fun (nu1, u1_5) => [.sli 3 R_V qp0 qc1 l0, .sli 3 R_V qp2 qc3 l1]) (fun (nu1, u1_5) => []) (N, 0) hm [5,0,1] rfl (asK [0,1] rfl) rfl (fun s_ hm => ?_)))))))
   obtain ⟨nu1, u1_5⟩ := s_
   try dsimp only at hm ⊢
   obtain ⟨mu1, bu1, hnu1, hq, hLu1⟩ := iter_some hm
   clear hm
   subst hnu1
   replace hm := hq
   clear hq
   unfold m_ropewalkkit_SameValues_L1 at hm
   try dsimp only at hm
   refine wc_seq (wc_seq (wc_region (wP rfl (wP rfl (wN rfl tE_34 (wP rfl (wl_as (d := 14) (v' := .bool (decide (u1_5 < l0.length))) (S' := [_,_,_,_,_,_]) rfl rfl (natlt (a := u1_5) (b := l0.length)) (wl_nil (we_then (wc_keep [14,5,0,1] (S' := [_,_,_,_]) rfl ?_))))))))))
   refine wc_cond rfl (fun hb14 => ?_) (fun hb14 => ?_)
   ·
    replace hm := iteT hm hb14
    refine wc_keep [5,0,1] (S' := [_,_,_]) rfl (wc_skip (we_then (wc_seq (wc_block (wc_seq ?_)))))
    obtain ⟨x19, hx19, hm⟩ := bindO_some hm
    obtain ⟨x23, hx23, hm⟩ := bindO_some hm
    refine wc_draw [0,1,2,3,4,5,6,7,8] rfl rfl (fun hok => (xP hok 0 rfl (xP hok 1 rfl (wx_indexA hok 2 0 u1_5 rfl rfl rfl (freshS_eq rfl) rfl rfl rfl rfl rfl rfl hx19 tE_34 tS_27 (fun b19 q19 cs19 hlx19 => (wx_openR R_V_opens 1 rfl (fun r19 er19 _ => ?_)))))))
    subst er19
    refine wx_load hok 3 0 0 rfl rfl rfl (freshS_eq rfl) rfl rfl rfl rfl (cs := [_,_,_]) rfl tS_27 tA_27 rfl rfl (xP hok 4 rfl (xP hok 5 rfl (wx_indexA hok 6 3 u1_5 rfl rfl rfl (freshS_eq rfl) rfl rfl rfl rfl rfl rfl hx23 tE_34 tS_27 (fun b23 q23 cs23 hlx23 => (wx_openR R_V_opens 1 rfl (fun r23 er23 _ => ?_))))))
    subst er23
    refine wx_load hok 7 0 0 rfl rfl rfl (freshS_eq rfl) rfl rfl rfl rfl (cs := [_,_,_]) rfl tS_27 tA_27 rfl rfl (wx_bin hok 8 rfl rfl rfl (freshS_eq rfl) rfl rfl rfl rfl (neqV _ _ x19 x23) (wx_done hok rfl (we_then (wc_keep [25,5,0,1] (S' := [_,_,_,_]) rfl ?_))))
    refine wc_cond rfl (fun hb25 => ?_) (fun hb25 => ?_)
    ·
     replace hm := iteT hm hb25
     refine wc_keep [] (S' := []) rfl (wc_seq (wc_region (wP rfl (wl_nil (we_then (wc_ret (we_block_ret (we_then_ret (we_then_ret (we_block_ret (we_then_ret ?_)))))))))))
     have hE := (Option.some.inj hm).symm
     replace hE := link_inr hLu1 hE
     replace hE := link_inr hLj_1 hE
     replace hE := hE.symm
     subst hE
     refine ret_one (Hr := []) [] Tryz.results30 (res_tmp rfl) ⟨rfl, rfl, rfl⟩ (asK [] rfl) rfl rfl (.inl rfl)
    ·
     replace hm := iteF hm hb25
     refine wc_keep [5,0,1] (S' := [_,_,_]) rfl (wc_skip (we_block_normal (we_then (wc_region (wP rfl (wP rfl ?_))))))
     obtain ⟨hg16, hm⟩ := gd_some hm
     refine wl_as (d := 16) (v' := .int .i64 ((u1_5 + 1 : Nat) : Int)) (S' := [_,_,_,_]) rfl rfl (nat_add (a := u1_5) (b := 1) hg16) (wl_pure (S' := [_,_,_,_]) rfl rfl rfl rfl rfl (wl_nil ?_))
     have hE := (Option.some.inj hm).symm
     replace hE := link_inl hLu1 hE
     refine we_roundK (_, u1_5 + 1) (Nat.lt_succ_self _) hE [5,0,1] rfl (asK [4,5] rfl) rfl
   ·
    replace hm := iteF hm hb14
    refine wc_keep [] (S' := []) rfl (wc_exit (we_then_exit (we_then_exit (we_block_hit ?_))))
    have hE := (Option.some.inj hm).symm
    replace hE := link_inr hLu1 hE
    refine we_join () hE [] rfl (asK [] rfl) rfl
  ·
   rintro _ hE
   try dsimp only
   have hm := link_inl hLj_1 hE
   try dsimp only at hm
   refine wc_seq (wc_region (wP rfl (wl_nil (we_then (wc_ret ?_)))))
   have hE := (Option.some.inj hm).symm
   replace hE := hE.symm
   subst hE
   refine ret_one (Hr := []) [] Tryz.results30 (res_tmp rfl) ⟨rfl, rfl, rfl⟩ (asK [] rfl) rfl rfl (.inl rfl)
theorem w_ropewalklaw10_same_s (N : Nat) (qp0 : Option Addr) (qc1 : Nat) (l0 : List Bool) (qp2 : Option Addr) (qc3 : Nat) (l1 : List V) (qp4 : Option Addr) (qc5 : Nat) (l2 : List Bool) (qp6 : Option Addr) (qc7 : Nat) (l3 : List V) (o0 : Bool) (hm : m_ropewalklaw10_same N l0 l1 l2 l3 = some o0) : Spec Tryz.prog 12 [.agg #[.slice qp0 l0.length qc1, .slice qp2 l1.length qc3], .agg #[.slice qp4 l2.length qc5, .slice qp6 l3.length qc7]] [.sli 1 R_bool qp0 qc1 l0, .sli 3 R_V qp2 qc3 l1, .sli 1 R_bool qp4 qc5 l2, .sli 3 R_V qp6 qc7 l3] [] (fun v Φr Hr => v = .bool o0 ∧ Φr = [] ∧ Hr = []) := by
 unfold m_ropewalklaw10_same at hm
 refine spec_of Tryz.func12 rfl Tryz.ntmps12 rfl (S := [_,_]) rfl (fun C => (wc_seq (wc_region (wB rfl (fun g2 => (wB rfl (fun g3 => (wP rfl (wl_nil (we_then (wc_keep [3,2] (S' := [_,_]) rfl (wc_seq (wc_seq ?_)))))))))))))
 obtain ⟨bj_1, hm, hLj_1⟩ := bindO_some hm
 refine wc_cut (σ := Bool) (fun j_1_20 => bj_1 = j_1_20) (fun j_1_20 => [(3, .pointer (some ⟨g3,0, none⟩)), (2, .pointer (some ⟨g2,0, none⟩)), (20, .bool j_1_20)]) (fun j_1_20 => [.sli 1 R_bool qp4 qc5 l2, .sli 3 R_V qp6 qc7 l3, .sli 1 R_bool qp0 qc1 l0, .sli 3 R_V qp2 qc3 l1]) (fun j_1_20 => [.blk g3 [.slice qp4 l2.length qc5, .slice qp6 l3.length qc7] 47, .blk g2 [.slice qp0 l0.length qc1, .slice qp2 l1.length qc3] 44]) ?_ ?_
 ·
  refine wc_region (wF rfl tF_44_0 (wD 1 0 rfl tS_37 tA_37 rfl (wN rfl tE_37 (wF rfl tF_47_0 (wD 0 0 rfl tS_37 tA_37 rfl (wN rfl tE_37 (wP rfl (wl_as (d := 12) (v' := .bool (l0.length != l2.length)) (S' := [_,_,_,_,_,_,_,_]) rfl rfl (natne (a := l0.length) (b := l2.length)) (wP rfl ?_)))))))))
  refine wl_split (d := 13) (S' := [_,_,_,_,_,_,_,_,_]) rfl rfl (fun hs13 => ?_) (fun hs13 => ?_)
  ·
   replace hm := iteT hm hs13
   refine wO rfl (wO rfl (wO rfl (wO rfl (wO rfl (wO rfl (wP rfl (wl_nil ?_)))))))
   have hE := (Option.some.inj hm).symm
   refine we_join true hE [3,2,20] rfl (asK [2,3,0,1] rfl) rfl
  ·
   replace hm := iteF hm hs13
   refine wF rfl tF_44_1 (wD 1 1 rfl tS_34 tA_34 rfl (wF rfl tF_47_1 (wD 0 1 rfl tS_34 tA_34 rfl ?_)))
   obtain ⟨v18, hc18, hm⟩ := bindO_some hm
   refine wC [] [0,1] rfl fn_30 rfl (w_ropewalkkit_SameValues_s N qp2 qc3 l1 qp6 qc7 l3 _ hc18) (asK [1,3] rfl) rfl (H' := [_,_]) rfl ?_
   rintro _ _ _ ⟨rfl, rfl, rfl⟩
   refine wP rfl (wP rfl (wl_nil ?_))
   have hE := (Option.some.inj hm).symm
   refine we_join (!v18) hE [3,2,20] rfl (asK [2,3,0,1] rfl) rfl
 ·
  rintro j_1_20 hE
  try dsimp only
  have hm := hLj_1
  rw [hE] at hm
  refine wc_cond rfl (fun hb20 => ?_) (fun hb20 => ?_)
  ·
   replace hm := iteT hm hb20
   refine wc_keep [] (S' := []) rfl (wc_seq (wc_region (wP rfl (wl_nil (we_then (wc_ret (we_then_ret ?_)))))))
   have hE := (Option.some.inj hm).symm
   replace hE := hE.symm
   subst hE
   refine ret_one (Hr := []) [] Tryz.results12 (res_tmp rfl) ⟨rfl, rfl, rfl⟩ (asK [] rfl) rfl rfl (.inl rfl)
  ·
   replace hm := iteF hm hb20
   refine wc_keep [3,2] (S' := [_,_]) rfl (wc_skip (we_then (wc_seq ?_)))
   obtain ⟨bj_2, hm, hLj_2⟩ := bindS_some hm
   refine wc_cut (σ := Unit) (fun _ => bj_2 = .inl ()) (fun _ => []) (fun _ => []) (fun _ => []) ?_ ?_
   ·
    refine wc_seq (wc_region (wP rfl (wl_nil (we_then (wc_block (wc_loop (σ := Nat × Nat) (fun (nu1, u1_5) => iter (m_ropewalklaw10_same_L1 N l0 l2) nu1 u1_5 = some bj_2) (fun (nu1, u1_5) => nu1) (fun (nu1, u1_5) => [(5, .int .i64 ((u1_5 : Nat) : Int)), (3, .pointer (some ⟨g3,0, none⟩)), (2, .pointer (some ⟨g2,0, none⟩))]) (fun (nu1, u1_5) => [.sli 1 R_bool qp4 qc5 l2, .sli 3 R_V qp6 qc7 l3, .sli 1 R_bool qp0 qc1 l0, .sli 3 R_V qp2 qc3 l1]) (fun (nu1, u1_5) => [.blk g3 [.slice qp4 l2.length qc5, .slice qp6 l3.length qc7] 47, .blk g2 [.slice qp0 l0.length qc1, .slice qp2 l1.length qc3] 44]) (N, 0) hm [5,3,2] rfl (asK [0,1,2,3] rfl) rfl (fun s_ hm => ?_)))))))
    obtain ⟨nu1, u1_5⟩ := s_
    try dsimp only at hm ⊢
    obtain ⟨mu1, bu1, hnu1, hq, hLu1⟩ := iter_some hm
    clear hm
    subst hnu1
    replace hm := hq
    clear hq
    unfold m_ropewalklaw10_same_L1 at hm
    try dsimp only at hm
    refine wc_seq (wc_seq (wc_region (wP rfl (wF rfl tF_44_0 (wD 1 0 rfl tS_37 tA_37 rfl (wN rfl tE_37 (wP rfl (wl_as (d := 25) (v' := .bool (decide (u1_5 < l0.length))) (S' := [_,_,_,_,_,_,_]) rfl rfl (natlt (a := u1_5) (b := l0.length)) (wl_nil (we_then (wc_keep [25,5,3,2] (S' := [_,_,_,_]) rfl ?_)))))))))))
    refine wc_cond rfl (fun hb25 => ?_) (fun hb25 => ?_)
    ·
     replace hm := iteT hm hb25
     refine wc_keep [5,3,2] (S' := [_,_,_]) rfl (wc_skip (we_then (wc_seq (wc_block (wc_seq ?_)))))
     obtain ⟨x31, hx31, hm⟩ := bindO_some hm
     obtain ⟨x36, hx36, hm⟩ := bindO_some hm
     refine wc_draw [0,1,2,3,4,5,6,7,8,9,10] rfl rfl (fun hok => (wx_fieldAddr hok 0 rfl rfl rfl (freshS_eq rfl) rfl rfl rfl tF_44_0 (wx_loadH hok 1 1 0 rfl rfl rfl (freshS_eq rfl) rfl rfl rfl rfl (cs := [_]) rfl tS_37 tA_37 rfl rfl (xP hok 2 rfl (wx_indexA hok 3 2 u1_5 rfl rfl rfl (freshS_eq rfl) rfl rfl rfl rfl rfl rfl hx31 tE_37 tS_4 (fun b31 q31 cs31 hlx31 => (wx_openR R_bool_opens 1 rfl (fun r31 er31 _ => ?_))))))))
     subst er31
     refine wx_load hok 4 0 0 rfl rfl rfl (freshS_eq rfl) rfl rfl rfl rfl (cs := [_]) rfl tS_4 tA_4 rfl rfl (wx_fieldAddr hok 5 rfl rfl rfl (freshS_eq rfl) rfl rfl rfl tF_47_0 (wx_loadH hok 6 0 0 rfl rfl rfl (freshS_eq rfl) rfl rfl rfl rfl (cs := [_]) rfl tS_37 tA_37 rfl rfl (xP hok 7 rfl (wx_indexA hok 8 2 u1_5 rfl rfl rfl (freshS_eq rfl) rfl rfl rfl rfl rfl rfl hx36 tE_37 tS_4 (fun b36 q36 cs36 hlx36 => (wx_openR R_bool_opens 1 rfl (fun r36 er36 _ => ?_)))))))
     subst er36
     refine wx_load hok 9 0 0 rfl rfl rfl (freshS_eq rfl) rfl rfl rfl rfl (cs := [_]) rfl tS_4 tA_4 rfl rfl (wx_bin hok 10 rfl rfl rfl (freshS_eq rfl) rfl rfl rfl rfl (neqB _ _ x31 x36) (wx_done hok rfl (we_then (wc_keep [38,5,3,2] (S' := [_,_,_,_]) rfl ?_))))
     refine wc_cond rfl (fun hb38 => ?_) (fun hb38 => ?_)
     ·
      replace hm := iteT hm hb38
      refine wc_keep [] (S' := []) rfl (wc_seq (wc_region (wP rfl (wl_nil (we_then (wc_ret (we_block_ret (we_then_ret (we_then_ret (we_block_ret (we_then_ret ?_)))))))))))
      have hE := (Option.some.inj hm).symm
      replace hE := link_inr hLu1 hE
      replace hE := link_inr hLj_2 hE
      replace hE := hE.symm
      subst hE
      refine ret_one (Hr := []) [] Tryz.results12 (res_tmp rfl) ⟨rfl, rfl, rfl⟩ (asK [] rfl) rfl rfl (.inl rfl)
     ·
      replace hm := iteF hm hb38
      refine wc_keep [5,3,2] (S' := [_,_,_]) rfl (wc_skip (we_block_normal (we_then (wc_region (wP rfl (wP rfl ?_))))))
      obtain ⟨hg27, hm⟩ := gd_some hm
      refine wl_as (d := 27) (v' := .int .i64 ((u1_5 + 1 : Nat) : Int)) (S' := [_,_,_,_]) rfl rfl (nat_add (a := u1_5) (b := 1) hg27) (wl_pure (S' := [_,_,_,_]) rfl rfl rfl rfl rfl (wl_nil ?_))
      have hE := (Option.some.inj hm).symm
      replace hE := link_inl hLu1 hE
      refine we_roundK (_, u1_5 + 1) (Nat.lt_succ_self _) hE [5,3,2] rfl (asK [4,5,6,7] rfl) rfl
    ·
     replace hm := iteF hm hb25
     refine wc_keep [] (S' := []) rfl (wc_exit (we_then_exit (we_then_exit (we_block_hit ?_))))
     have hE := (Option.some.inj hm).symm
     replace hE := link_inr hLu1 hE
     refine we_pick [] rfl (H' := []) rfl ?_
     refine we_join () hE [] rfl (asK [] rfl) rfl
   ·
    rintro _ hE
    try dsimp only
    have hm := link_inl hLj_2 hE
    try dsimp only at hm
    refine wc_seq (wc_region (wP rfl (wl_nil (we_then (wc_ret ?_)))))
    have hE := (Option.some.inj hm).symm
    replace hE := hE.symm
    subst hE
    refine ret_one (Hr := []) [] Tryz.results12 (res_tmp rfl) ⟨rfl, rfl, rfl⟩ (asK [] rfl) rfl rfl (.inl rfl)
theorem w_ropewalkkit_SameArgs_W_s (N : Nat) (qp0 : Option Addr) (qc1 : Nat) (l0 : List ArgD) (k1 : Nat) (qp2 : Option Addr) (qc3 : Nat) (l2 : List ArgD) (o0 : Bool) (hm : m_ropewalkkit_SameArgs_W N l0 k1 l2 = some o0) : Spec Tryz.prog 45 [.slice qp0 k1 qc1, .slice qp2 l2.length qc3] [.sli 5 R_ArgD qp0 qc1 l0, .sli 5 R_ArgD qp2 qc3 l2] [] (fun v Φr Hr => v = .bool o0 ∧ Φr = [] ∧ Hr = []) := by
 unfold m_ropewalkkit_SameArgs_W at hm
 refine spec_of Tryz.func45 rfl Tryz.ntmps45 rfl (S := [_,_]) rfl (fun C => (wc_seq (wc_region (wP rfl (wl_nil (we_then (wc_keep [0,1] (S' := [_,_]) rfl (wc_seq (wc_seq (wc_region (wP rfl (wN rfl tE_23 (wP rfl (wN rfl tE_23 ?_))))))))))))))
 refine wP rfl (wl_as (d := 10) (v' := .bool (k1 != l2.length)) (S' := [_,_,_,_,_,_]) rfl rfl (natne (a := k1) (b := l2.length)) (wl_nil (we_then (wc_keep [10,0,1] (S' := [_,_,_]) rfl ?_))))
 refine wc_cond rfl (fun hb10 => ?_) (fun hb10 => ?_)
 ·
  replace hm := iteT hm hb10
  refine wc_keep [] (S' := []) rfl (wc_seq (wc_region (wP rfl (wl_nil (we_then (wc_ret (we_then_ret ?_)))))))
  have hE := (Option.some.inj hm).symm
  replace hE := hE.symm
  subst hE
  refine ret_one (Hr := []) [] Tryz.results45 (res_tmp rfl) ⟨rfl, rfl, rfl⟩ (asK [] rfl) rfl rfl (.inl rfl)
 ·
  replace hm := iteF hm hb10
  refine wc_keep [0,1] (S' := [_,_]) rfl (wc_skip (we_then (wc_seq ?_)))
  obtain ⟨bj_1, hm, hLj_1⟩ := bindS_some hm
  refine wc_cut (σ := Unit) (fun _ => bj_1 = .inl ()) (fun _ => []) (fun _ => []) (fun _ => []) ?_ ?_
  ·
   refine wc_seq (wc_region (wP rfl (wl_nil (we_then (wc_block (wc_loop (σ := Nat × Nat) (fun (nu1, u1_5) => iter (m_ropewalkkit_SameArgs_W_L1 N k1 l0 l2) nu1 u1_5 = some bj_1) (fun (nu1, u1_5) => nu1) (fun (nu1, u1_5) => [(5, .int .i64 ((u1_5 : Nat) : Int)), (0, .slice qp0 k1 qc1), (1, .slice qp2 l2.length qc3)]) (fun (nu1, u1_5) => [.sli 5 R_ArgD qp0 qc1 l0, .sli 5 R_ArgD qp2 qc3 l2]) (fun (nu1, u1_5) => []) (N, 0) hm [5,0,1] rfl (asK [0,1] rfl) rfl (fun s_ hm => ?_)))))))
   obtain ⟨nu1, u1_5⟩ := s_
   try dsimp only at hm ⊢
   obtain ⟨mu1, bu1, hnu1, hq, hLu1⟩ := iter_some hm
   clear hm
   subst hnu1
   replace hm := hq
   clear hq
   unfold m_ropewalkkit_SameArgs_W_L1 at hm
   try dsimp only at hm
   refine wc_seq (wc_seq (wc_region (wP rfl (wP rfl (wN rfl tE_23 (wP rfl (wl_as (d := 14) (v' := .bool (decide (u1_5 < k1))) (S' := [_,_,_,_,_,_]) rfl rfl (natlt (a := u1_5) (b := k1)) (wl_nil (we_then (wc_keep [14,5,0,1] (S' := [_,_,_,_]) rfl ?_))))))))))
   refine wc_cond rfl (fun hb14 => ?_) (fun hb14 => ?_)
   ·
    replace hm := iteT hm hb14
    refine wc_keep [5,0,1] (S' := [_,_,_]) rfl (wc_skip (we_then (wc_seq (wc_block (wc_seq ?_)))))
    obtain ⟨hqx19, hm⟩ := gd_some hm
    obtain ⟨x19, hx19, hm⟩ := bindO_some hm
    obtain ⟨x23, hx23, hm⟩ := bindO_some hm
    refine wc_draw [0,1,2,3,4,5,6,7,8] rfl rfl (fun hok => (xP hok 0 rfl (xP hok 1 rfl (wx_indexF hok 2 0 u1_5 rfl rfl rfl (freshS_eq rfl) rfl rfl rfl rfl rfl rfl hqx19 hx19 tE_23 tS_64 (fun b19 q19 cs19 hlx19 => (wx_openR R_ArgD_opens 1 rfl (fun r19 er19 _ => ?_)))))))
    subst er19
    refine wx_load hok 3 0 0 rfl rfl rfl (freshS_eq rfl) rfl rfl rfl rfl (cs := [_,_,_,_,_]) rfl tS_64 tA_64 rfl rfl (xP hok 4 rfl (xP hok 5 rfl (wx_indexA hok 6 3 u1_5 rfl rfl rfl (freshS_eq rfl) rfl rfl rfl rfl rfl rfl hx23 tE_23 tS_64 (fun b23 q23 cs23 hlx23 => (wx_openR R_ArgD_opens 1 rfl (fun r23 er23 _ => ?_))))))
    subst er23
    refine wx_load hok 7 0 0 rfl rfl rfl (freshS_eq rfl) rfl rfl rfl rfl (cs := [_,_,_,_,_]) rfl tS_64 tA_64 rfl rfl (wx_bin hok 8 rfl rfl rfl (freshS_eq rfl) rfl rfl rfl rfl (neqA _ _ x19 x23) (wx_done hok rfl (we_then (wc_keep [25,5,0,1] (S' := [_,_,_,_]) rfl ?_))))
    refine wc_cond rfl (fun hb25 => ?_) (fun hb25 => ?_)
    ·
     replace hm := iteT hm hb25
     refine wc_keep [] (S' := []) rfl (wc_seq (wc_region (wP rfl (wl_nil (we_then (wc_ret (we_block_ret (we_then_ret (we_then_ret (we_block_ret (we_then_ret ?_)))))))))))
     have hE := (Option.some.inj hm).symm
     replace hE := link_inr hLu1 hE
     replace hE := link_inr hLj_1 hE
     replace hE := hE.symm
     subst hE
     refine ret_one (Hr := []) [] Tryz.results45 (res_tmp rfl) ⟨rfl, rfl, rfl⟩ (asK [] rfl) rfl rfl (.inl rfl)
    ·
     replace hm := iteF hm hb25
     refine wc_keep [5,0,1] (S' := [_,_,_]) rfl (wc_skip (we_block_normal (we_then (wc_region (wP rfl (wP rfl ?_))))))
     obtain ⟨hg16, hm⟩ := gd_some hm
     refine wl_as (d := 16) (v' := .int .i64 ((u1_5 + 1 : Nat) : Int)) (S' := [_,_,_,_]) rfl rfl (nat_add (a := u1_5) (b := 1) hg16) (wl_pure (S' := [_,_,_,_]) rfl rfl rfl rfl rfl (wl_nil ?_))
     have hE := (Option.some.inj hm).symm
     replace hE := link_inl hLu1 hE
     refine we_roundK (_, u1_5 + 1) (Nat.lt_succ_self _) hE [5,0,1] rfl (asK [4,5] rfl) rfl
   ·
    replace hm := iteF hm hb14
    refine wc_keep [] (S' := []) rfl (wc_exit (we_then_exit (we_then_exit (we_block_hit ?_))))
    have hE := (Option.some.inj hm).symm
    replace hE := link_inr hLu1 hE
    refine we_join () hE [] rfl (asK [] rfl) rfl
  ·
   rintro _ hE
   try dsimp only
   have hm := link_inl hLj_1 hE
   try dsimp only at hm
   refine wc_seq (wc_region (wP rfl (wl_nil (we_then (wc_ret ?_)))))
   have hE := (Option.some.inj hm).symm
   replace hE := hE.symm
   subst hE
   refine ret_one (Hr := []) [] Tryz.results45 (res_tmp rfl) ⟨rfl, rfl, rfl⟩ (asK [] rfl) rfl rfl (.inl rfl)
theorem w_ropewalkkit_SameExprs_W_v2_s (N : Nat) (rc : Int → Int → Int → ByteArray → Int → Int → (List Api_ExprDS) → Nat → Int → Int → Int → ByteArray → Int → Int → (List Api_ExprD) → Option (Bool)) (ih : ∀ (a0 : Int) (a1 : Int) (a2 : Int) (a3 : ByteArray) (a4 : Int) (a5 : Int) (qp0 : Option Addr) (qc1 : Nat) (l6 : List Api_ExprDS) (k7 : Nat) (a8 : Int) (a9 : Int) (a10 : Int) (a11 : ByteArray) (a12 : Int) (a13 : Int) (qp2 : Option Addr) (qc3 : Nat) (l14 : List Api_ExprD) (o0 : Bool), rc a0 a1 a2 a3 a4 a5 l6 k7 a8 a9 a10 a11 a12 a13 l14 = some o0 → Spec Tryz.prog 46 [.agg #[.int .u8 a0, .int .u8 a1, .int .i64 a2, .string a3, .int .i64 a4, .int .u8 a5, .slice qp0 k7 qc1], .agg #[.int .u8 a8, .int .u8 a9, .int .i64 a10, .string a11, .int .i64 a12, .int .u8 a13, .slice qp2 l14.length qc3]] [.sli 7 RS_Api_ExprD qp0 qc1 l6, .sli 7 R_Api_ExprD qp2 qc3 l14] [] (fun v Φr Hr => v = .bool o0 ∧ Φr = [] ∧ Hr = [])) (qp0 : Option Addr) (qc1 : Nat) (l0 : List Api_ExprDS) (k1 : Nat) (qp2 : Option Addr) (qc3 : Nat) (l2 : List Api_ExprD) (o0 : Bool) (hm : m_ropewalkkit_SameExprs_W_v2 N rc l0 k1 l2 = some o0) : Spec Tryz.prog 54 [.slice qp0 k1 qc1, .slice qp2 l2.length qc3] [.sli 7 RS_Api_ExprD qp0 qc1 l0, .sli 7 R_Api_ExprD qp2 qc3 l2] [] (fun v Φr Hr => v = .bool o0 ∧ Φr = [] ∧ Hr = []) := by
 unfold m_ropewalkkit_SameExprs_W_v2 at hm
 refine spec_of Tryz.func54 rfl Tryz.ntmps54 rfl (S := [_,_]) rfl (fun C => (wc_seq (wc_region (wP rfl (wl_nil (we_then (wc_keep [0,1] (S' := [_,_]) rfl (wc_seq (wc_seq (wc_region (wP rfl (wN rfl tE_29 (wP rfl (wN rfl tE_29 ?_))))))))))))))
 refine wP rfl (wl_as (d := 10) (v' := .bool (k1 != l2.length)) (S' := [_,_,_,_,_,_]) rfl rfl (natne (a := k1) (b := l2.length)) (wl_nil (we_then (wc_keep [10,0,1] (S' := [_,_,_]) rfl ?_))))
 refine wc_cond rfl (fun hb10 => ?_) (fun hb10 => ?_)
 ·
  replace hm := iteT hm hb10
  refine wc_keep [] (S' := []) rfl (wc_seq (wc_region (wP rfl (wl_nil (we_then (wc_ret (we_then_ret ?_)))))))
  have hE := (Option.some.inj hm).symm
  replace hE := hE.symm
  subst hE
  refine ret_one (Hr := []) [] Tryz.results54 (res_tmp rfl) ⟨rfl, rfl, rfl⟩ (asK [] rfl) rfl rfl (.inl rfl)
 ·
  replace hm := iteF hm hb10
  refine wc_keep [0,1] (S' := [_,_]) rfl (wc_skip (we_then (wc_seq ?_)))
  obtain ⟨bj_1, hm, hLj_1⟩ := bindS_some hm
  refine wc_cut (σ := Unit) (fun _ => bj_1 = .inl ()) (fun _ => []) (fun _ => []) (fun _ => []) ?_ ?_
  ·
   refine wc_seq (wc_region (wP rfl (wl_nil (we_then (wc_block (wc_loop (σ := Nat × Nat) (fun (nu1, u1_5) => iter (m_ropewalkkit_SameExprs_W_v2_L1 N k1 l0 l2 rc) nu1 u1_5 = some bj_1) (fun (nu1, u1_5) => nu1) (fun (nu1, u1_5) => [(5, .int .i64 ((u1_5 : Nat) : Int)), (0, .slice qp0 k1 qc1), (1, .slice qp2 l2.length qc3)]) (fun (nu1, u1_5) => [.sli 7 RS_Api_ExprD qp0 qc1 l0, .sli 7 R_Api_ExprD qp2 qc3 l2]) (fun (nu1, u1_5) => []) (N, 0) hm [5,0,1] rfl (asK [0,1] rfl) rfl (fun s_ hm => ?_)))))))
   obtain ⟨nu1, u1_5⟩ := s_
   try dsimp only at hm ⊢
   obtain ⟨mu1, bu1, hnu1, hq, hLu1⟩ := iter_some hm
   clear hm
   subst hnu1
   replace hm := hq
   clear hq
   unfold m_ropewalkkit_SameExprs_W_v2_L1 at hm
   try dsimp only at hm
   refine wc_seq (wc_seq (wc_region (wP rfl (wP rfl (wN rfl tE_29 (wP rfl (wl_as (d := 14) (v' := .bool (decide (u1_5 < k1))) (S' := [_,_,_,_,_,_]) rfl rfl (natlt (a := u1_5) (b := k1)) (wl_nil (we_then (wc_keep [14,5,0,1] (S' := [_,_,_,_]) rfl ?_))))))))))
   refine wc_cond rfl (fun hb14 => ?_) (fun hb14 => ?_)
   ·
    replace hm := iteT hm hb14
    refine wc_keep [5,0,1] (S' := [_,_,_]) rfl (wc_skip (we_then (wc_seq (wc_block (wc_seq ?_)))))
    obtain ⟨hqx19, hm⟩ := gd_some hm
    obtain ⟨x19, hx19, hm⟩ := bindO_some hm
    obtain ⟨x23, hx23, hm⟩ := bindO_some hm
    obtain ⟨v25, hc25, hm⟩ := bindO_some hm
    refine wc_draw [0,1,2,3,4,5,6,7,9] rfl rfl (fun hok => (xP hok 0 rfl (xP hok 1 rfl (wx_indexF hok 2 0 u1_5 rfl rfl rfl (freshS_eq rfl) rfl rfl rfl rfl rfl rfl hqx19 hx19 tE_29 tS_31 (fun b19 q19 cs19 hlx19 => (wx_openR RS_Api_ExprD_opens 1 rfl (fun r19 er19 _ => ?_)))))))
    subst er19
    refine wx_load hok 3 1 0 rfl rfl rfl (freshS_eq rfl) rfl rfl rfl rfl (cs := [_,_,_,_,_,_,_]) rfl tS_31 tA_31 rfl rfl (xP hok 4 rfl (xP hok 5 rfl (wx_indexA hok 6 4 u1_5 rfl rfl rfl (freshS_eq rfl) rfl rfl rfl rfl rfl rfl hx23 tE_29 tS_31 (fun b23 q23 cs23 hlx23 => (wx_openR R_Api_ExprD_opens 1 rfl (fun r23 er23 _ => ?_))))))
    subst er23
    refine wx_load hok 7 1 0 rfl rfl rfl (freshS_eq rfl) rfl rfl rfl rfl (cs := [_,_,_,_,_,_,_]) rfl tS_31 tA_31 rfl rfl (xS hok 8 rfl (wC [] [] rfl fn_46 rfl (ih x19.kind x19.value.k x19.value.n x19.value.s x19.var x19.op r19.1 r19.2 (x19.kids ++ x19.kidsT) x19.kids.length x23.kind x23.value.k x23.value.n x23.value.s x23.var x23.op r23.1 r23.2 x23.kids _ hc25) (asK [3,0] rfl) rfl (H' := []) rfl ?_))
    rintro _ _ _ ⟨rfl, rfl, rfl⟩
    refine wl_nil (we_x [0,1,2,3,4,5,6,7] [] rfl rfl (xP hok 9 rfl (wx_done hok rfl (we_then (wc_keep [26,5,0,1] (S' := [_,_,_,_]) rfl ?_)))))
    refine wc_cond rfl (fun hb26 => ?_) (fun hb26 => ?_)
    ·
     replace hm := iteT hm hb26
     refine wc_keep [] (S' := []) rfl (wc_seq (wc_region (wP rfl (wl_nil (we_then (wc_ret (we_block_ret (we_then_ret (we_then_ret (we_block_ret (we_then_ret ?_)))))))))))
     have hE := (Option.some.inj hm).symm
     replace hE := link_inr hLu1 hE
     replace hE := link_inr hLj_1 hE
     replace hE := hE.symm
     subst hE
     refine ret_one (Hr := []) [] Tryz.results54 (res_tmp rfl) ⟨rfl, rfl, rfl⟩ (asK [] rfl) rfl rfl (.inl rfl)
    ·
     replace hm := iteF hm hb26
     refine wc_keep [5,0,1] (S' := [_,_,_]) rfl (wc_skip (we_block_normal (we_then (wc_region (wP rfl (wP rfl ?_))))))
     obtain ⟨hg16, hm⟩ := gd_some hm
     refine wl_as (d := 16) (v' := .int .i64 ((u1_5 + 1 : Nat) : Int)) (S' := [_,_,_,_]) rfl rfl (nat_add (a := u1_5) (b := 1) hg16) (wl_pure (S' := [_,_,_,_]) rfl rfl rfl rfl rfl (wl_nil ?_))
     have hE := (Option.some.inj hm).symm
     replace hE := link_inl hLu1 hE
     refine we_roundK (_, u1_5 + 1) (Nat.lt_succ_self _) hE [5,0,1] rfl (asK [6,7] rfl) rfl
   ·
    replace hm := iteF hm hb14
    refine wc_keep [] (S' := []) rfl (wc_exit (we_then_exit (we_then_exit (we_block_hit ?_))))
    have hE := (Option.some.inj hm).symm
    replace hE := link_inr hLu1 hE
    refine we_join () hE [] rfl (asK [] rfl) rfl
  ·
   rintro _ hE
   try dsimp only
   have hm := link_inl hLj_1 hE
   try dsimp only at hm
   refine wc_seq (wc_region (wP rfl (wl_nil (we_then (wc_ret ?_)))))
   have hE := (Option.some.inj hm).symm
   replace hE := hE.symm
   subst hE
   refine ret_one (Hr := []) [] Tryz.results54 (res_tmp rfl) ⟨rfl, rfl, rfl⟩ (asK [] rfl) rfl rfl (.inl rfl)
theorem w_ropewalkkit_SameExpr_W_s_b (N : Nat) (rc : Int → Int → Int → ByteArray → Int → Int → (List Api_ExprDS) → Nat → Int → Int → Int → ByteArray → Int → Int → (List Api_ExprD) → Option (Bool)) (ih : ∀ (a0 : Int) (a1 : Int) (a2 : Int) (a3 : ByteArray) (a4 : Int) (a5 : Int) (qp0 : Option Addr) (qc1 : Nat) (l6 : List Api_ExprDS) (k7 : Nat) (a8 : Int) (a9 : Int) (a10 : Int) (a11 : ByteArray) (a12 : Int) (a13 : Int) (qp2 : Option Addr) (qc3 : Nat) (l14 : List Api_ExprD) (o0 : Bool), rc a0 a1 a2 a3 a4 a5 l6 k7 a8 a9 a10 a11 a12 a13 l14 = some o0 → Spec Tryz.prog 46 [.agg #[.int .u8 a0, .int .u8 a1, .int .i64 a2, .string a3, .int .i64 a4, .int .u8 a5, .slice qp0 k7 qc1], .agg #[.int .u8 a8, .int .u8 a9, .int .i64 a10, .string a11, .int .i64 a12, .int .u8 a13, .slice qp2 l14.length qc3]] [.sli 7 RS_Api_ExprD qp0 qc1 l6, .sli 7 R_Api_ExprD qp2 qc3 l14] [] (fun v Φr Hr => v = .bool o0 ∧ Φr = [] ∧ Hr = [])) (a0 : Int) (a1 : Int) (a2 : Int) (a3 : ByteArray) (a4 : Int) (a5 : Int) (qp0 : Option Addr) (qc1 : Nat) (l6 : List Api_ExprDS) (k7 : Nat) (a8 : Int) (a9 : Int) (a10 : Int) (a11 : ByteArray) (a12 : Int) (a13 : Int) (qp2 : Option Addr) (qc3 : Nat) (l14 : List Api_ExprD) (o0 : Bool) (hm : m_ropewalkkit_SameExpr_W_b N rc a0 a1 a2 a3 a4 a5 l6 k7 a8 a9 a10 a11 a12 a13 l14 = some o0) : Spec Tryz.prog 46 [.agg #[.int .u8 a0, .int .u8 a1, .int .i64 a2, .string a3, .int .i64 a4, .int .u8 a5, .slice qp0 k7 qc1], .agg #[.int .u8 a8, .int .u8 a9, .int .i64 a10, .string a11, .int .i64 a12, .int .u8 a13, .slice qp2 l14.length qc3]] [.sli 7 RS_Api_ExprD qp0 qc1 l6, .sli 7 R_Api_ExprD qp2 qc3 l14] [] (fun v Φr Hr => v = .bool o0 ∧ Φr = [] ∧ Hr = []) := by
 unfold m_ropewalkkit_SameExpr_W_b at hm
 refine spec_of Tryz.func46 rfl Tryz.ntmps46 rfl (S := [_,_]) rfl (fun C => (wc_seq (wc_region (wB rfl (fun g2 => (wB rfl (fun g3 => (wP rfl (wl_nil (we_then (wc_keep [3,2] (S' := [_,_]) rfl (wc_seq ?_))))))))))))
 obtain ⟨bj_1, hm, hLj_1⟩ := bindO_some hm
 unfold m_ropewalkkit_SameExpr_W_C1 at hm
 refine wc_cut (σ := Bool) (fun j_1_4 => bj_1 = j_1_4) (fun j_1_4 => [(4, .bool j_1_4)]) (fun j_1_4 => []) (fun j_1_4 => []) ?_ ?_
 ·
  refine wc_region (wF rfl tF_31_0 (wD 1 0 rfl tS_24 tA_24 rfl (wF rfl tF_31_0 (wD 0 0 rfl tS_24 tA_24 rfl (wP rfl (wP rfl ?_))))))
  refine wl_split (d := 10) (S' := [_,_,_,_,_,_,_]) rfl rfl (fun hs10 => ?_) (fun hs10 => ?_)
  ·
   replace hm := iteT hm hs10
   refine wF rfl tF_31_1 (wl_loadH 1 1 rfl rfl rfl (freshS_eq rfl) rfl rfl rfl (cs := [_,_,_]) rfl tS_27 tA_27 rfl rfl (wF rfl tF_31_1 (wl_loadH 0 1 rfl rfl rfl (freshS_eq rfl) rfl rfl rfl (cs := [_,_,_]) rfl tS_27 tA_27 rfl rfl (wl_bin rfl rfl rfl (freshS_eq rfl) rfl rfl rfl (eqlV _ _ (⟨a1, a2, a3⟩ : V) (⟨a9, a10, a11⟩ : V)) (wP rfl (wP rfl ?_))))))
   refine wl_split (d := 17) (S' := [_,_,_,_,_,_,_,_,_,_,_,_,_,_]) rfl rfl (fun hs17 => ?_) (fun hs17 => ?_)
   ·
    replace hm := iteT hm hs17
    refine wF rfl tF_31_2 (wD 1 4 rfl tS_3 tA_3 rfl (wF rfl tF_31_2 (wD 0 4 rfl tS_3 tA_3 rfl (wP rfl (wP rfl (wP rfl ?_))))))
    refine wl_split (d := 24) (S' := [_,_,_,_,_,_,_,_,_,_,_,_,_,_,_,_,_,_,_,_,_]) rfl rfl (fun hs24 => ?_) (fun hs24 => ?_)
    ·
     replace hm := iteT hm hs24
     refine wF rfl tF_31_3 (wD 1 5 rfl tS_28 tA_28 rfl (wF rfl tF_31_3 (wD 0 5 rfl tS_28 tA_28 rfl (wP rfl (wP rfl (wP rfl ?_))))))
     refine wl_split (d := 31) (S' := [_,_,_,_,_,_,_,_,_,_,_,_,_,_,_,_,_,_,_,_,_,_,_,_,_,_,_,_]) rfl rfl (fun hs31 => ?_) (fun hs31 => ?_)
     ·
      replace hm := iteT hm hs31
      refine wF rfl tF_31_4 (wD 1 6 rfl tS_29 tA_29 rfl (wF rfl tF_31_4 (wD 0 6 rfl tS_29 tA_29 rfl ?_)))
      obtain ⟨v36, hc36, hm⟩ := bindO_some hm
      refine wC [] [0,1] rfl fn_54 rfl (w_ropewalkkit_SameExprs_W_v2_s N rc ih qp0 qc1 l6 k7 qp2 qc3 l14 _ hc36) (asK [0,1] rfl) rfl (H' := [_,_]) rfl ?_
      rintro _ _ _ ⟨rfl, rfl, rfl⟩
      refine wP rfl (wP rfl (wl_nil ?_))
      have hE := (Option.some.inj hm).symm
      refine we_pick [] rfl (H' := []) rfl ?_
      refine we_join v36 hE [4] rfl (asK [] rfl) rfl
     ·
      replace hm := iteF hm hs31
      refine wO rfl (wO rfl (wO rfl (wO rfl (wO rfl (wP rfl (wP rfl (wl_nil ?_)))))))
      have hE := (Option.some.inj hm).symm
      refine we_pick [] rfl (H' := []) rfl ?_
      refine we_join false hE [4] rfl (asK [] rfl) rfl
    ·
     replace hm := iteF hm hs24
     refine wO rfl (wO rfl (wO rfl (wO rfl (wO rfl (wP rfl (wP rfl (wO rfl (wO rfl (wO rfl (wO rfl (wO rfl (wP rfl (wP rfl ?_)))))))))))))
     refine wl_nil ?_
     have hE := (Option.some.inj hm).symm
     refine we_pick [] rfl (H' := []) rfl ?_
     refine we_join false hE [4] rfl (asK [] rfl) rfl
   ·
    replace hm := iteF hm hs17
    refine wO rfl (wO rfl (wO rfl (wO rfl (wO rfl (wP rfl (wP rfl (wO rfl (wO rfl (wO rfl (wO rfl (wO rfl (wP rfl (wP rfl ?_)))))))))))))
    refine wO rfl (wO rfl (wO rfl (wO rfl (wO rfl (wP rfl (wP rfl (wl_nil ?_)))))))
    have hE := (Option.some.inj hm).symm
    refine we_pick [] rfl (H' := []) rfl ?_
    refine we_join false hE [4] rfl (asK [] rfl) rfl
  ·
   replace hm := iteF hm hs10
   refine wO rfl (wO rfl (wO rfl (wO rfl (wO rfl (wP rfl (wP rfl (wO rfl (wO rfl (wO rfl (wO rfl (wO rfl (wP rfl (wP rfl ?_)))))))))))))
   refine wO rfl (wO rfl (wO rfl (wO rfl (wO rfl (wP rfl (wP rfl (wO rfl (wO rfl (wO rfl (wO rfl (wO rfl (wP rfl (wP rfl ?_)))))))))))))
   refine wl_nil ?_
   have hE := (Option.some.inj hm).symm
   refine we_pick [] rfl (H' := []) rfl ?_
   refine we_join false hE [4] rfl (asK [] rfl) rfl
 ·
  rintro j_1_4 hE
  try dsimp only
  have hm := hLj_1
  rw [hE] at hm
  refine wc_ret ?_
  have hE := (Option.some.inj hm).symm
  replace hE := hE.symm
  subst hE
  refine ret_one (Hr := []) [] Tryz.results46 (res_tmp rfl) ⟨rfl, rfl, rfl⟩ (asK [] rfl) rfl rfl (.inl rfl)
theorem w_ropewalkkit_SameExpr_W_s : ∀ (N : Nat), ∀ (a0 : Int) (a1 : Int) (a2 : Int) (a3 : ByteArray) (a4 : Int) (a5 : Int) (qp0 : Option Addr) (qc1 : Nat) (l6 : List Api_ExprDS) (k7 : Nat) (a8 : Int) (a9 : Int) (a10 : Int) (a11 : ByteArray) (a12 : Int) (a13 : Int) (qp2 : Option Addr) (qc3 : Nat) (l14 : List Api_ExprD) (o0 : Bool), m_ropewalkkit_SameExpr_W N a0 a1 a2 a3 a4 a5 l6 k7 a8 a9 a10 a11 a12 a13 l14 = some o0 → Spec Tryz.prog 46 [.agg #[.int .u8 a0, .int .u8 a1, .int .i64 a2, .string a3, .int .i64 a4, .int .u8 a5, .slice qp0 k7 qc1], .agg #[.int .u8 a8, .int .u8 a9, .int .i64 a10, .string a11, .int .i64 a12, .int .u8 a13, .slice qp2 l14.length qc3]] [.sli 7 RS_Api_ExprD qp0 qc1 l6, .sli 7 R_Api_ExprD qp2 qc3 l14] [] (fun v Φr Hr => v = .bool o0 ∧ Φr = [] ∧ Hr = []) := by
  intro N
  induction N with
  | zero => intro a0 a1 a2 a3 a4 a5 qp0 qc1 l6 k7 a8 a9 a10 a11 a12 a13 qp2 qc3 l14 o0 hm; cases hm
  | succ N ih => intro a0 a1 a2 a3 a4 a5 qp0 qc1 l6 k7 a8 a9 a10 a11 a12 a13 qp2 qc3 l14 o0 hm; exact w_ropewalkkit_SameExpr_W_s_b N (m_ropewalkkit_SameExpr_W N) ih a0 a1 a2 a3 a4 a5 qp0 qc1 l6 k7 a8 a9 a10 a11 a12 a13 qp2 qc3 l14 o0 hm
theorem w_ropewalkkit_SameCond_W_s (N : Nat) (a0 : Int) (a1 : Int) (qp0 : Option Addr) (qc1 : Nat) (l2 : List ArgD) (k3 : Nat) (a4 : Int) (a5 : Int) (a6 : Int) (a7 : ByteArray) (a8 : Int) (a9 : Int) (qp2 : Option Addr) (qc3 : Nat) (l10 : List Api_ExprDS) (k11 : Nat) (a12 : Int) (a13 : Int) (qp4 : Option Addr) (qc5 : Nat) (l14 : List ArgD) (a15 : Int) (a16 : Int) (a17 : Int) (a18 : ByteArray) (a19 : Int) (a20 : Int) (qp6 : Option Addr) (qc7 : Nat) (l21 : List Api_ExprD) (o0 : Bool) (hm : m_ropewalkkit_SameCond_W N a0 a1 l2 k3 a4 a5 a6 a7 a8 a9 l10 k11 a12 a13 l14 a15 a16 a17 a18 a19 a20 l21 = some o0) : Spec Tryz.prog 31 [.agg #[.int .u8 a0, .int .i64 a1, .slice qp0 k3 qc1, .int .u8 a4, .int .u8 a5, .int .i64 a6, .string a7, .int .i64 a8, .int .u8 a9, .slice qp2 k11 qc3], .agg #[.int .u8 a12, .int .i64 a13, .slice qp4 l14.length qc5, .int .u8 a15, .int .u8 a16, .int .i64 a17, .string a18, .int .i64 a19, .int .u8 a20, .slice qp6 l21.length qc7]] [.sli 5 R_ArgD qp0 qc1 l2, .sli 7 RS_Api_ExprD qp2 qc3 l10, .sli 5 R_ArgD qp4 qc5 l14, .sli 7 R_Api_ExprD qp6 qc7 l21] [] (fun v Φr Hr => v = .bool o0 ∧ Φr = [] ∧ Hr = []) := by
 unfold m_ropewalkkit_SameCond_W at hm
 refine spec_of Tryz.func31 rfl Tryz.ntmps31 rfl (S := [_,_]) rfl (fun C => (wc_seq (wc_region (wB rfl (fun g2 => (wB rfl (fun g3 => (wP rfl (wl_nil (we_then (wc_keep [3,2] (S' := [_,_]) rfl (wc_seq ?_))))))))))))
 obtain ⟨bj_1, hm, hLj_1⟩ := bindO_some hm
 unfold m_ropewalkkit_SameCond_W_C1 at hm
 refine wc_cut (σ := Bool) (fun j_1_4 => bj_1 = j_1_4) (fun j_1_4 => [(4, .bool j_1_4)]) (fun j_1_4 => []) (fun j_1_4 => []) ?_ ?_
 ·
  refine wc_region (wF rfl tF_33_0 (wD 1 0 rfl tS_22 tA_22 rfl (wF rfl tF_33_0 (wD 0 0 rfl tS_22 tA_22 rfl (wP rfl (wP rfl ?_))))))
  refine wl_split (d := 10) (S' := [_,_,_,_,_,_,_]) rfl rfl (fun hs10 => ?_) (fun hs10 => ?_)
  ·
   replace hm := iteT hm hs10
   refine wF rfl tF_33_1 (wD 1 1 rfl tS_3 tA_3 rfl (wF rfl tF_33_1 (wD 0 1 rfl tS_3 tA_3 rfl (wP rfl (wP rfl (wP rfl ?_))))))
   refine wl_split (d := 17) (S' := [_,_,_,_,_,_,_,_,_,_,_,_,_,_]) rfl rfl (fun hs17 => ?_) (fun hs17 => ?_)
   ·
    replace hm := iteT hm hs17
    refine wF rfl tF_33_2 (wD 1 2 rfl tS_23 tA_23 rfl (wF rfl tF_33_2 (wD 0 2 rfl tS_23 tA_23 rfl ?_)))
    obtain ⟨v22, hc22, hm⟩ := bindO_some hm
    refine wC [] [0,1] rfl fn_45 rfl (w_ropewalkkit_SameArgs_W_s N qp0 qc1 l2 k3 qp4 qc5 l14 _ hc22) (asK [0,2] rfl) rfl (H' := [_,_]) rfl ?_
    rintro _ _ _ ⟨rfl, rfl, rfl⟩
    refine wP rfl (wP rfl ?_)
    refine wl_split (d := 24) (S' := [_,_,_,_,_,_,_,_,_,_,_,_,_,_,_,_,_,_,_,_,_]) rfl rfl (fun hs24 => ?_) (fun hs24 => ?_)
    ·
     replace hm := iteT hm hs24
     refine wF rfl tF_33_3 (wl_loadH 1 3 rfl rfl rfl (freshS_eq rfl) rfl rfl rfl (cs := [_,_,_,_,_,_,_]) rfl tS_31 tA_31 rfl rfl (wF rfl tF_33_3 (wl_loadH 0 3 rfl rfl rfl (freshS_eq rfl) rfl rfl rfl (cs := [_,_,_,_,_,_,_]) rfl tS_31 tA_31 rfl rfl ?_)))
     obtain ⟨v29, hc29, hm⟩ := bindO_some hm
     refine wC [] [0,1] rfl fn_46 rfl (w_ropewalkkit_SameExpr_W_s N a4 a5 a6 a7 a8 a9 qp2 qc3 l10 k11 a15 a16 a17 a18 a19 a20 qp6 qc7 l21 _ hc29) (asK [1,3] rfl) rfl (H' := [_,_]) rfl ?_
     rintro _ _ _ ⟨rfl, rfl, rfl⟩
     refine wP rfl (wP rfl (wl_nil ?_))
     have hE := (Option.some.inj hm).symm
     refine we_pick [] rfl (H' := []) rfl ?_
     refine we_join v29 hE [4] rfl (asK [] rfl) rfl
    ·
     replace hm := iteF hm hs24
     refine wO rfl (wO rfl (wO rfl (wO rfl (wO rfl (wP rfl (wP rfl (wl_nil ?_)))))))
     have hE := (Option.some.inj hm).symm
     refine we_pick [] rfl (H' := []) rfl ?_
     refine we_join false hE [4] rfl (asK [] rfl) rfl
   ·
    replace hm := iteF hm hs17
    refine wO rfl (wO rfl (wO rfl (wO rfl (wO rfl (wP rfl (wP rfl (wO rfl (wO rfl (wO rfl (wO rfl (wO rfl (wP rfl (wP rfl ?_)))))))))))))
    refine wl_nil ?_
    have hE := (Option.some.inj hm).symm
    refine we_pick [] rfl (H' := []) rfl ?_
    refine we_join false hE [4] rfl (asK [] rfl) rfl
  ·
   replace hm := iteF hm hs10
   refine wO rfl (wO rfl (wO rfl (wO rfl (wO rfl (wP rfl (wP rfl (wO rfl (wO rfl (wO rfl (wO rfl (wO rfl (wP rfl (wP rfl ?_)))))))))))))
   refine wO rfl (wO rfl (wO rfl (wO rfl (wO rfl (wP rfl (wP rfl (wl_nil ?_)))))))
   have hE := (Option.some.inj hm).symm
   refine we_pick [] rfl (H' := []) rfl ?_
   refine we_join false hE [4] rfl (asK [] rfl) rfl
 ·
  rintro j_1_4 hE
  try dsimp only
  have hm := hLj_1
  rw [hE] at hm
  refine wc_ret ?_
  have hE := (Option.some.inj hm).symm
  replace hE := hE.symm
  subst hE
  refine ret_one (Hr := []) [] Tryz.results31 (res_tmp rfl) ⟨rfl, rfl, rfl⟩ (asK [] rfl) rfl rfl (.inl rfl)
end Go.Proofs.YtalbennlmcpnmaaGreat
