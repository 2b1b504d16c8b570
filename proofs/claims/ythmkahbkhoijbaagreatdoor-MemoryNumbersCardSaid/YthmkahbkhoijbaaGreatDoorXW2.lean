import Derived.Test.YthmkahbkhoijbaaGreatDoorXW1
namespace Go.Proofs.YthmkahbkhoijbaaGreatDoor
open Go.RowKit
set_option maxRecDepth 100000
set_option maxHeartbeats 4000000
theorem w_ropewalkkit_LentFacts_s (N : Nat) (qp0 : Option Addr) (qc1 : Nat) (l0 : List FactD) (o2 : List FactDS) (hm : m_ropewalkkit_LentFacts N l0 = some o2) : Spec Tryz.prog 8 [.slice qp0 l0.length qc1] [.sli 3 R_FactD qp0 qc1 l0] [] (fun v Φr Hr => ∃ (o0 : Option Addr) (o1 : Nat) (o3 : Nat), v = .slice o0 l0.length o1 ∧ Φr = [] ∧ Hr = [treeF TS_FactD 27 3 (.slice o0 o3 o1) o2]) := by
 unfold m_ropewalkkit_LentFacts at hm
 refine spec_of Tryz.func8 rfl Tryz.ntmps8 rfl (S := [_]) rfl (fun C => (wc_seq (wc_region (wP rfl (wl_nil (we_then (wc_keep [0] (S' := [_]) rfl (wc_seq (wc_region (wP rfl (wN rfl tE_22 (wP rfl ?_))))))))))))
 obtain ⟨hg9, hm⟩ := gd_some hm
 refine wl_as (d := 9) (v' := .int .i64 ((l0.length + 12 : Nat) : Int)) (S' := [_,_,_]) rfl rfl (nat_add (a := l0.length) (b := 12) hg9) ?_
 obtain ⟨hg10, hm⟩ := gd_some hm
 refine wl_makeCap (m := l0.length + 12) T_FactD.pair rfl rfl rfl (freshS_eq rfl) rfl rfl rfl rfl tE_22 tR_27 rfl rfl (Nat.le_trans (Nat.mul_le_mul_left _ hg10) (by decide)) (Nat.le_trans hg10 (by decide)) (fun g10 => (wl_sh [bagF T_FactD [] none, _] (fun _ h => h.bagNil T_FactD) (wl_sh [treeF T_FactD 27 3 (.slice (some ⟨g10,0, none⟩) 0 (l0.length + 12)) []] (fun _ h => h.treeIn 1 0 rfl rfl rfl rfl) (wP rfl (wl_nil (we_then (wc_keep [3,0] (S' := [_,_]) rfl (wc_seq ?_))))))))
 obtain ⟨bj_1, hm, hLj_1⟩ := bindO_some hm
 refine wc_cut (σ := (List FactDS) × (Option Addr) × Nat × Nat) (fun (j_1_3_l, j_1_3_p, j_1_3_c, j_1_3_n) => bj_1 = j_1_3_l) (fun (j_1_3_l, j_1_3_p, j_1_3_c, j_1_3_n) => [(3, .slice j_1_3_p j_1_3_n j_1_3_c), (0, .slice qp0 l0.length qc1)]) (fun (j_1_3_l, j_1_3_p, j_1_3_c, j_1_3_n) => [.sli 3 R_FactD qp0 qc1 l0]) (fun (j_1_3_l, j_1_3_p, j_1_3_c, j_1_3_n) => [treeF TS_FactD 27 3 (.slice j_1_3_p j_1_3_n j_1_3_c) j_1_3_l]) ?_ ?_
 ·
  refine wc_seq (wc_region (wP rfl (wl_nil (we_then (wc_block (wc_sh [treeF TS_FactD 27 3 (.slice (some ⟨g10,0, none⟩) 0 (l0.length + 12)) []] (fun _ h => h.treeKind TS_FactD 0 rfl) (wc_loop (σ := Nat × Nat × (List FactDS) × (Option Addr) × Nat × Nat) (fun (nu1, u1_4, u1_3_l, u1_3_p, u1_3_c, u1_3_n) => iter (m_ropewalkkit_LentFacts_L1 N l0) nu1 (u1_4, u1_3_l) = some bj_1) (fun (nu1, u1_4, u1_3_l, u1_3_p, u1_3_c, u1_3_n) => nu1) (fun (nu1, u1_4, u1_3_l, u1_3_p, u1_3_c, u1_3_n) => [(4, .int .i64 ((u1_4 : Nat) : Int)), (3, .slice u1_3_p u1_3_n u1_3_c), (0, .slice qp0 l0.length qc1)]) (fun (nu1, u1_4, u1_3_l, u1_3_p, u1_3_c, u1_3_n) => [.sli 3 R_FactD qp0 qc1 l0]) (fun (nu1, u1_4, u1_3_l, u1_3_p, u1_3_c, u1_3_n) => [treeF TS_FactD 27 3 (.slice u1_3_p u1_3_n u1_3_c) u1_3_l]) (N, 0,[], some ⟨g10,0, none⟩, l0.length + 12,0) hm [4,3,0] rfl (asK [0] rfl) rfl (fun s_ hm => ?_))))))))
  obtain ⟨nu1, u1_4, u1_3_l, u1_3_p, u1_3_c, u1_3_n⟩ := s_
  try dsimp only at hm ⊢
  obtain ⟨mu1, bu1, hnu1, hq, hLu1⟩ := iter_some hm
  clear hm
  subst hnu1
  replace hm := hq
  clear hq
  unfold m_ropewalkkit_LentFacts_L1 at hm
  try dsimp only at hm
  refine wc_seq (wc_seq (wc_region (wP rfl (wP rfl (wN rfl tE_22 (wP rfl (wl_as (d := 14) (v' := .bool (decide (u1_4 < l0.length))) (S' := [_,_,_,_,_,_]) rfl rfl (natlt (a := u1_4) (b := l0.length)) (wl_nil (we_then (wc_keep [14,4,3,0] (S' := [_,_,_,_]) rfl ?_))))))))))
  refine wc_cond rfl (fun hb14 => ?_) (fun hb14 => ?_)
  ·
   replace hm := iteT hm hb14
   refine wc_keep [4,3,0] (S' := [_,_,_]) rfl (wc_skip (we_then (wc_seq (wc_block (wc_seq (wc_region (wP rfl (wP rfl ?_))))))))
   obtain ⟨x19, hx19, hm⟩ := bindO_some hm
   refine wl_indexA 0 u1_4 rfl rfl rfl (freshS_eq rfl) rfl rfl rfl rfl rfl hx19 tE_22 tS_27 (fun b19 q19 cs19 hlx19 => (wl_open R_FactD_opens 1 rfl (fun r19 er19 _ => ?_)))
   subst er19
   refine wl_load 1 0 rfl rfl rfl (freshS_eq rfl) rfl rfl rfl (cs := [_,_,_]) rfl tS_27 tA_27 rfl rfl ?_
   obtain ⟨v21, hc21, hm⟩ := bindO_some hm
   refine wC [] [0] rfl fn_24 rfl (w_ropewalkkit_LentFact_s N x19.id x19.ty r19.1 r19.2 x19.args _ hc21) (asK [0] rfl) rfl (H' := [_]) rfl ?_
   rintro _ _ _ ⟨p21_0, c21_1, c21_2, rfl, rfl, rfl⟩
   refine wl_alloc rfl rfl rfl (freshS_eq rfl) rfl tZ_27 rfl (fun g5 => (wS 0 0 rfl tS_27 (all' := [_,_,_]) rfl (H' := [_,_,_]) rfl (wl_nil (we_then (wc_keep [5,4,3,0] (S' := [_,_,_,_]) rfl (wc_region (wP rfl (wl_loadH 0 0 rfl rfl rfl (freshS_eq rfl) rfl rfl rfl (cs := [_,_,_]) rfl tS_27 tA_27 rfl rfl (wl_buildSlice rfl rfl rfl (freshS_eq rfl) rfl tE_22 tS_27 tZ_27 rfl (zs := [.int .i64 0, .int .i64 0, .slice none 0 0]) (by kernel_rfl) rfl (out := [_,_,_]) rfl (fun g24 => (wl_treeLen 3 rfl (fun hzt8 _ => ?_))))))))))))
   subst hzt8
   refine wl_ownLen 2 rfl (fun hzc21_2 _ => ?_)
   subst hzc21_2
   obtain ⟨hzk23, hm⟩ := gd_some hm
   refine wl_hAs 2 (φ' := .own 51 3 R_V (.slice p21_0 ((v21.take x19.args.length ++ v21.drop x19.args.length).length) c21_1) (v21.take x19.args.length ++ v21.drop x19.args.length)) rfl (by rw [List.take_append_drop]) (H' := [_,_,_,_]) rfl (wl_at 1 (v' := .agg #[.int .i64 (x19.id), .int .i64 (x19.ty), .slice p21_0 ((v21.take x19.args.length).length) c21_1]) rfl (by rw [take_len hzk23]) (wl_hAs 0 (φ' := .blk g24 [.int .i64 (x19.id), .int .i64 (x19.ty), .slice p21_0 ((v21.take x19.args.length).length) c21_1] 27) rfl (by rw [take_len hzk23]) (H' := [_,_,_,_]) rfl (wl_hAs 1 (φ' := .blk g5 [.int .i64 (x19.id), .int .i64 (x19.ty), .slice p21_0 ((v21.take x19.args.length).length) c21_1] 27) rfl (by rw [take_len hzk23]) (H' := [_,_,_,_]) rfl (wl_treeOut 3 rfl (fun zz25 hzz25 => ?_)))))
   obtain ⟨hg25, hm⟩ := gd_some hm
   have hzs24 : List.map (fun x : FactDS × (Option Addr × Nat) => x.1) (zz25 ++ [((⟨x19.id, x19.ty, v21.take x19.args.length, v21.drop x19.args.length⟩ : FactDS), (p21_0, c21_1))]) = u1_3_l ++ [(⟨x19.id, x19.ty, v21.take x19.args.length, v21.drop x19.args.length⟩ : FactDS)] := pair_app hzz25 (us := [(⟨x19.id, x19.ty, v21.take x19.args.length, v21.drop x19.args.length⟩ : FactDS)]) rfl
   have hgl25 : zz25.length + ([((⟨x19.id, x19.ty, v21.take x19.args.length, v21.drop x19.args.length⟩ : FactDS), (p21_0, c21_1))] : List (FactDS × (Option Addr × Nat))).length ≤ 3518437208883 := by rw [pair_len hzz25]; exact hg25
   refine wl_appendH (R := TS_FactD.pair) ([((⟨x19.id, x19.ty, v21.take x19.args.length, v21.drop x19.args.length⟩ : FactDS), (p21_0, c21_1))]) 4 1 rfl rfl rfl (freshS_eq rfl) rfl rfl rfl rfl rfl (fun F w hφ => ⟨[.int .i64 (x19.id), .int .i64 (x19.ty), .slice p21_0 ((v21.take x19.args.length).length) c21_1],[], rfl, rfl, rfl, rfl⟩) tE_22 tR_27 rfl rfl (Nat.le_trans hgl25 (by decide)) (Nat.le_trans (Nat.mul_le_mul_right _ hgl25) (by decide)) (H2 := fun p25 c25 => [_,_,_,_, .own 27 3 TS_FactD.pair (.slice p25 ((zz25 ++ [((⟨x19.id, x19.ty, v21.take x19.args.length, v21.drop x19.args.length⟩ : FactDS), (p21_0, c21_1))]).length) c25) (zz25 ++ [((⟨x19.id, x19.ty, v21.take x19.args.length, v21.drop x19.args.length⟩ : FactDS), (p21_0, c21_1))])]) (fun _ _ => rfl) (fun p25 c25 => (wl_drop 1 rfl (H' := [_,_,_,_]) rfl (wl_as (d := 25) (v' := .slice p25 ((u1_3_l ++ [(⟨x19.id, x19.ty, v21.take x19.args.length, v21.drop x19.args.length⟩ : FactDS)]).length) c25) (S' := [_,_,_,_,_,_,_]) rfl rfl (by rw [pair_len hzs24]) (wl_hAs 3 (φ' := .own 27 3 TS_FactD.pair (.slice p25 ((u1_3_l ++ [(⟨x19.id, x19.ty, v21.take x19.args.length, v21.drop x19.args.length⟩ : FactDS)]).length) c25) (zz25 ++ [((⟨x19.id, x19.ty, v21.take x19.args.length, v21.drop x19.args.length⟩ : FactDS), (p21_0, c21_1))])) rfl (by rw [pair_len hzs24]) (H' := [_,_,_,_]) rfl (wl_pick [2,0,1,3] rfl (H' := [_,_,_,_]) rfl (wl_sh [bagF TS_FactD (zz25 ++ [((⟨x19.id, x19.ty, v21.take x19.args.length, v21.drop x19.args.length⟩ : FactDS), (p21_0, c21_1))]) none, _,_] (fun _ h => Holds.bagPush (T := TS_FactD) (x := (⟨x19.id, x19.ty, v21.take x19.args.length, v21.drop x19.args.length⟩ : FactDS)) (r := (p21_0, c21_1)) (zs := zz25) (H := [_,_,_]) h 0 rfl) (wl_sh [_, treeF TS_FactD 27 3 (.slice p25 ((u1_3_l ++ [(⟨x19.id, x19.ty, v21.take x19.args.length, v21.drop x19.args.length⟩ : FactDS)]).length) c25) (u1_3_l ++ [(⟨x19.id, x19.ty, v21.take x19.args.length, v21.drop x19.args.length⟩ : FactDS)])] (fun _ h => h.treeIn 2 0 rfl rfl rfl hzs24) (wl_pure (S' := [_,_,_,_,_,_,_]) rfl rfl rfl rfl rfl (wl_nil (we_block_normal (we_then (wc_keep [3,4,0] (S' := [_,_,_]) rfl (wc_region (wP rfl ?_))))))))))))))
   refine wP rfl ?_
   obtain ⟨hg16, hm⟩ := gd_some hm
   refine wl_as (d := 16) (v' := .int .i64 ((u1_4 + 1 : Nat) : Int)) (S' := [_,_,_,_]) rfl rfl (nat_add (a := u1_4) (b := 1) hg16) (wl_pure (S' := [_,_,_,_]) rfl rfl rfl rfl rfl (wl_nil ?_))
   have hE := (Option.some.inj hm).symm
   replace hE := link_inl hLu1 hE
   refine we_pick [1] rfl (H' := [_]) rfl ?_
   refine we_roundK (_, u1_4 + 1, (u1_3_l ++ [(⟨x19.id, x19.ty, v21.take x19.args.length, v21.drop x19.args.length⟩ : FactDS)]), p25, c25, ((u1_3_l ++ [(⟨x19.id, x19.ty, v21.take x19.args.length, v21.drop x19.args.length⟩ : FactDS)]).length)) (Nat.lt_succ_self _) hE [4,3,0] rfl (asK [3] rfl) rfl
  ·
   replace hm := iteF hm hb14
   refine wc_keep [3,0] (S' := [_,_]) rfl (wc_exit (we_then_exit (we_then_exit (we_block_hit ?_))))
   have hE := (Option.some.inj hm).symm
   replace hE := link_inr hLu1 hE
   refine we_join (u1_3_l, u1_3_p, u1_3_c, u1_3_n) hE [3,0] rfl (asK [0] rfl) rfl
 ·
  rintro ⟨j_1_3_l, j_1_3_p, j_1_3_c, j_1_3_n⟩ hE
  try dsimp only
  have hm := hLj_1
  rw [hE] at hm
  refine wc_seq ?_
  obtain ⟨bj_2, hm, hLj_2⟩ := bindO_some hm
  refine wc_cut (σ := (List FactDS) × (Option Addr) × Nat × Nat) (fun (j_2_3_l, j_2_3_p, j_2_3_c, j_2_3_n) => bj_2 = j_2_3_l) (fun (j_2_3_l, j_2_3_p, j_2_3_c, j_2_3_n) => [(3, .slice j_2_3_p j_2_3_n j_2_3_c), (0, .slice qp0 l0.length qc1)]) (fun (j_2_3_l, j_2_3_p, j_2_3_c, j_2_3_n) => [.sli 3 R_FactD qp0 qc1 l0]) (fun (j_2_3_l, j_2_3_p, j_2_3_c, j_2_3_n) => [treeF TS_FactD 27 3 (.slice j_2_3_p j_2_3_n j_2_3_c) j_2_3_l]) ?_ ?_
  ·
   refine wc_seq (wc_region (wP rfl (wl_nil (we_then (wc_block (wc_loop (σ := Nat × Nat × (List FactDS) × (Option Addr) × Nat × Nat) (fun (nu2, u2_6, u2_3_l, u2_3_p, u2_3_c, u2_3_n) => iter (m_ropewalkkit_LentFacts_L2 N) nu2 (u2_6, u2_3_l) = some bj_2) (fun (nu2, u2_6, u2_3_l, u2_3_p, u2_3_c, u2_3_n) => nu2) (fun (nu2, u2_6, u2_3_l, u2_3_p, u2_3_c, u2_3_n) => [(6, .int .i64 ((u2_6 : Nat) : Int)), (3, .slice u2_3_p u2_3_n u2_3_c), (0, .slice qp0 l0.length qc1)]) (fun (nu2, u2_6, u2_3_l, u2_3_p, u2_3_c, u2_3_n) => [.sli 3 R_FactD qp0 qc1 l0]) (fun (nu2, u2_6, u2_3_l, u2_3_p, u2_3_c, u2_3_n) => [treeF TS_FactD 27 3 (.slice u2_3_p u2_3_n u2_3_c) u2_3_l]) (N, 0, j_1_3_l, j_1_3_p, j_1_3_c, j_1_3_n) hm [6,3,0] rfl (asK [0] rfl) rfl (fun s_ hm => ?_)))))))
   obtain ⟨nu2, u2_6, u2_3_l, u2_3_p, u2_3_c, u2_3_n⟩ := s_
   try dsimp only at hm ⊢
   obtain ⟨mu2, bu2, hnu2, hq, hLu2⟩ := iter_some hm
   clear hm
   subst hnu2
   replace hm := hq
   clear hq
   unfold m_ropewalkkit_LentFacts_L2 at hm
   try dsimp only at hm
   refine wc_seq (wc_seq (wc_region (wP rfl (wP rfl (wl_as (d := 27) (v' := .bool (decide (u2_6 < 12))) (S' := [_,_,_,_]) rfl rfl (natlt (a := u2_6) (b := 12)) (wl_nil (we_then (wc_keep [27,6,3,0] (S' := [_,_,_,_]) rfl ?_))))))))
   refine wc_cond rfl (fun hb27 => ?_) (fun hb27 => ?_)
   ·
    replace hm := iteT hm hb27
    refine wc_keep [6,3,0] (S' := [_,_,_]) rfl (wc_skip (we_then (wc_seq (wc_block (wc_region (wP rfl (wP rfl ?_)))))))
    obtain ⟨_, hc32, hm⟩ := bindO_some hm
    try dsimp only at hm
    refine wC [] [0] rfl fn_25 rfl (w_ropewalkkit_markFact_s N 1 ((u2_6 : Nat) : Int) hc32) (asK [] rfl) rfl (H' := [_]) rfl ?_
    rintro _ _ _ ⟨rfl, rfl, rfl⟩
    refine wl_buildSlice rfl rfl rfl (freshS_eq rfl) rfl tE_22 tS_27 tZ_27 rfl (zs := [.int .i64 0, .int .i64 0, .slice none 0 0]) (by kernel_rfl) rfl (out := [_,_,_]) rfl (fun g33 => (wl_treeLen 1 rfl (fun hzt20 _ => ?_)))
    subst hzt20
    refine wl_rowNil 51 3 R_V (wl_hAs 0 (φ' := .own 51 3 R_V (.slice none ((([] : List V) ++ []).length) 0) (([] : List V) ++ [])) rfl rfl (H' := [_,_,_]) rfl (wl_treeOut 2 rfl (fun zz34 hzz34 => ?_)))
    obtain ⟨hg34, hm⟩ := gd_some hm
    have hzs36 : List.map (fun x : FactDS × (Option Addr × Nat) => x.1) (zz34 ++ [((⟨(IntKind.wrap .i64 ((IntKind.wrap .i64 (1000003 * (IntKind.wrap .i64 (1 + 7)))) + ((u2_6 : Nat) : Int))), 0, ([] : List V), []⟩ : FactDS), (none, 0))]) = u2_3_l ++ [(⟨(IntKind.wrap .i64 ((IntKind.wrap .i64 (1000003 * (IntKind.wrap .i64 (1 + 7)))) + ((u2_6 : Nat) : Int))), 0, ([] : List V), []⟩ : FactDS)] := pair_app hzz34 (us := [(⟨(IntKind.wrap .i64 ((IntKind.wrap .i64 (1000003 * (IntKind.wrap .i64 (1 + 7)))) + ((u2_6 : Nat) : Int))), 0, ([] : List V), []⟩ : FactDS)]) rfl
    have hgl34 : zz34.length + ([((⟨(IntKind.wrap .i64 ((IntKind.wrap .i64 (1000003 * (IntKind.wrap .i64 (1 + 7)))) + ((u2_6 : Nat) : Int))), 0, ([] : List V), []⟩ : FactDS), (none, 0))] : List (FactDS × (Option Addr × Nat))).length ≤ 3518437208883 := by rw [pair_len hzz34]; exact hg34
    refine wl_appendH (R := TS_FactD.pair) ([((⟨(IntKind.wrap .i64 ((IntKind.wrap .i64 (1000003 * (IntKind.wrap .i64 (1 + 7)))) + ((u2_6 : Nat) : Int))), 0, ([] : List V), []⟩ : FactDS), (none, 0))]) 3 2 rfl rfl rfl (freshS_eq rfl) rfl rfl rfl rfl rfl (fun F w hφ => ⟨[.int .i64 (IntKind.wrap .i64 ((IntKind.wrap .i64 (1000003 * (IntKind.wrap .i64 (1 + 7)))) + ((u2_6 : Nat) : Int))), .int .i64 0, .slice none 0 0],[], rfl, rfl, rfl, rfl⟩) tE_22 tR_27 rfl rfl (Nat.le_trans hgl34 (by decide)) (Nat.le_trans (Nat.mul_le_mul_right _ hgl34) (by decide)) (H2 := fun p34 c34 => [_,_,_, .own 27 3 TS_FactD.pair (.slice p34 ((zz34 ++ [((⟨(IntKind.wrap .i64 ((IntKind.wrap .i64 (1000003 * (IntKind.wrap .i64 (1 + 7)))) + ((u2_6 : Nat) : Int))), 0, ([] : List V), []⟩ : FactDS), (none, 0))]).length) c34) (zz34 ++ [((⟨(IntKind.wrap .i64 ((IntKind.wrap .i64 (1000003 * (IntKind.wrap .i64 (1 + 7)))) + ((u2_6 : Nat) : Int))), 0, ([] : List V), []⟩ : FactDS), (none, 0))])]) (fun _ _ => rfl) (fun p34 c34 => (wl_drop 2 rfl (H' := [_,_,_]) rfl (wl_as (d := 34) (v' := .slice p34 ((u2_3_l ++ [(⟨(IntKind.wrap .i64 ((IntKind.wrap .i64 (1000003 * (IntKind.wrap .i64 (1 + 7)))) + ((u2_6 : Nat) : Int))), 0, ([] : List V), []⟩ : FactDS)]).length) c34) (S' := [_,_,_,_,_,_,_]) rfl rfl (by rw [pair_len hzs36]) (wl_hAs 2 (φ' := .own 27 3 TS_FactD.pair (.slice p34 ((u2_3_l ++ [(⟨(IntKind.wrap .i64 ((IntKind.wrap .i64 (1000003 * (IntKind.wrap .i64 (1 + 7)))) + ((u2_6 : Nat) : Int))), 0, ([] : List V), []⟩ : FactDS)]).length) c34) (zz34 ++ [((⟨(IntKind.wrap .i64 ((IntKind.wrap .i64 (1000003 * (IntKind.wrap .i64 (1 + 7)))) + ((u2_6 : Nat) : Int))), 0, ([] : List V), []⟩ : FactDS), (none, 0))])) rfl (by rw [pair_len hzs36]) (H' := [_,_,_]) rfl (wl_pick [1,0,2] rfl (H' := [_,_,_]) rfl (wl_sh [bagF TS_FactD (zz34 ++ [((⟨(IntKind.wrap .i64 ((IntKind.wrap .i64 (1000003 * (IntKind.wrap .i64 (1 + 7)))) + ((u2_6 : Nat) : Int))), 0, ([] : List V), []⟩ : FactDS), (none, 0))]) none, _] (fun _ h => Holds.bagPush (T := TS_FactD) (x := (⟨(IntKind.wrap .i64 ((IntKind.wrap .i64 (1000003 * (IntKind.wrap .i64 (1 + 7)))) + ((u2_6 : Nat) : Int))), 0, ([] : List V), []⟩ : FactDS)) (r := (none, 0)) (zs := zz34) (H := [_,_]) h 0 rfl) (wl_sh [treeF TS_FactD 27 3 (.slice p34 ((u2_3_l ++ [(⟨(IntKind.wrap .i64 ((IntKind.wrap .i64 (1000003 * (IntKind.wrap .i64 (1 + 7)))) + ((u2_6 : Nat) : Int))), 0, ([] : List V), []⟩ : FactDS)]).length) c34) (u2_3_l ++ [(⟨(IntKind.wrap .i64 ((IntKind.wrap .i64 (1000003 * (IntKind.wrap .i64 (1 + 7)))) + ((u2_6 : Nat) : Int))), 0, ([] : List V), []⟩ : FactDS)])] (fun _ h => h.treeIn 1 0 rfl rfl rfl hzs36) (wl_pure (S' := [_,_,_,_,_,_,_]) rfl rfl rfl rfl rfl (wl_nil (we_block_normal (we_then (wc_keep [3,6,0] (S' := [_,_,_]) rfl (wc_region (wP rfl ?_))))))))))))))
    refine wP rfl ?_
    obtain ⟨hg29, hm⟩ := gd_some hm
    refine wl_as (d := 29) (v' := .int .i64 ((u2_6 + 1 : Nat) : Int)) (S' := [_,_,_,_]) rfl rfl (nat_add (a := u2_6) (b := 1) hg29) (wl_pure (S' := [_,_,_,_]) rfl rfl rfl rfl rfl (wl_nil ?_))
    have hE := (Option.some.inj hm).symm
    replace hE := link_inl hLu2 hE
    refine we_roundK (_, u2_6 + 1, (u2_3_l ++ [(⟨(IntKind.wrap .i64 ((IntKind.wrap .i64 (1000003 * (IntKind.wrap .i64 (1 + 7)))) + ((u2_6 : Nat) : Int))), 0, ([] : List V), []⟩ : FactDS)]), p34, c34, ((u2_3_l ++ [(⟨(IntKind.wrap .i64 ((IntKind.wrap .i64 (1000003 * (IntKind.wrap .i64 (1 + 7)))) + ((u2_6 : Nat) : Int))), 0, ([] : List V), []⟩ : FactDS)]).length)) (Nat.lt_succ_self _) hE [6,3,0] rfl (asK [0] rfl) rfl
   ·
    replace hm := iteF hm hb27
    refine wc_keep [3,0] (S' := [_,_]) rfl (wc_exit (we_then_exit (we_then_exit (we_block_hit ?_))))
    have hE := (Option.some.inj hm).symm
    replace hE := link_inr hLu2 hE
    refine we_join (u2_3_l, u2_3_p, u2_3_c, u2_3_n) hE [3,0] rfl (asK [0] rfl) rfl
  ·
   rintro ⟨j_2_3_l, j_2_3_p, j_2_3_c, j_2_3_n⟩ hE
   try dsimp only
   have hm := hLj_2
   rw [hE] at hm
   refine wc_seq (wc_region (wP rfl (wP rfl (wN rfl tE_22 ?_))))
   obtain ⟨hg38, hm⟩ := gd_some hm
   refine wl_treeOut 0 rfl (fun zz38 hzz38 => ?_)
   have hgt38 : l0.length ≤ zz38.length := by rw [pair_len hzz38]; exact hg38
   refine wl_ownSpot 1 rfl (fun hsp38 hcm38 => (wl_sliceTo rfl rfl rfl (freshS_eq rfl) rfl rfl rfl rfl tE_22 tS_27 (Nat.le_trans hgt38 (by rw [← hcm38.2]; exact hcm38.1)) hsp38 (wP rfl (wl_nil (we_then (wc_keep [2] (S' := [_]) rfl (wc_ret ?_)))))))
   have hE := (Option.some.inj hm).symm
   replace hE := hE.symm
   subst hE
   refine we_sh [treeF TS_FactD 27 3 (.slice j_2_3_p j_2_3_n j_2_3_c) j_2_3_l] (fun _ h => h.treeIn 1 0 rfl rfl rfl hzz38) ?_
   refine ret_one (Hr := [_]) [0] Tryz.results8 (res_tmp rfl) ⟨j_2_3_p, j_2_3_c, j_2_3_n, rfl, rfl, rfl⟩ (asK [] rfl) rfl rfl (.inl rfl)
theorem w_memory_row_says_1_V_s (N : Nat) (a0 : Int) (a1 : Int) (qp0 : Option Addr) (qc1 : Nat) (l2 : List V) (qg2 : Nat) (a3 : Int) (qg3 : Nat) (qp4 : Option Addr) (qn5 : Nat) (qc6 : Nat) (l4 : List V) (k5 : Nat) (o0 : Bool) (hm : m_memory_row_says_1_V N a0 a1 l2 a3 l4 k5 = some o0) : Spec Tryz.prog 57 [.agg #[.int .i64 a0, .int .i64 a1, .slice qp0 l2.length qc1], .pointer (some ⟨qg2,0, none⟩), .pointer (some ⟨qg3,0, none⟩)] [.sli 3 R_V qp0 qc1 l2] [.blk qg2 [.int .i64 a3] 3, .blk qg3 [.slice qp4 k5 qc6] 25, .own 51 3 R_V (.slice qp4 qn5 qc6) l4] (fun v Φr Hr => v = .bool o0 ∧ Φr = [] ∧ Hr = [.blk qg2 [.int .i64 a3] 3, .blk qg3 [.slice qp4 k5 qc6] 25, .own 51 3 R_V (.slice qp4 qn5 qc6) l4]) := by
 unfold m_memory_row_says_1_V at hm
 refine spec_of Tryz.func57 rfl Tryz.ntmps57 rfl (S := [_,_,_]) rfl (fun C => (wc_seq (wc_region (wB rfl (fun g3 => (wP rfl (wl_nil (we_then (wc_keep [3,1,2] (S' := [_,_,_]) rfl (wc_seq (wc_region (wF rfl tF_27_1 (wD 0 1 rfl tS_3 tA_3 rfl (wD 1 0 rfl tS_3 tA_3 rfl (wP rfl ?_)))))))))))))))
 refine wP rfl ?_
 refine wl_split (d := 9) (S' := [_,_,_,_,_,_,_]) rfl rfl (fun hs9 => ?_) (fun hs9 => ?_)
 ·
  replace hm := iteT hm hs9
  refine wF rfl tF_27_2 (wD 0 2 rfl tS_25 tA_25 rfl (wD 2 0 rfl tS_25 tA_25 rfl (wl_ownLen 3 rfl (fun hzqn5 _ => ?_))))
  subst hzqn5
  obtain ⟨hzl2, hm⟩ := gd_some hm
  refine wl_at 0 (v' := .slice qp4 ((l4.take k5).length) qc6) rfl (by rw [take_len hzl2]) (wl_hAs 2 (φ' := .blk qg3 [.slice qp4 ((l4.take k5).length) qc6] 25) rfl (by rw [take_len hzl2]) (H' := [_,_,_,_]) rfl ?_)
  obtain ⟨v13, hc13, hm⟩ := bindO_some hm
  refine wl_lend [] [0,1,2,3] [3] rfl rfl rfl (freshS_eq rfl) rfl rfl fn_58 rfl (w_memory_same_s N qp0 qc1 l2 qp4 qc6 (l4.take k5) _ hc13) (fun F w hφ hh => (ask_cons (hφ _ (mem_at (k := 0) rfl)) (ask_cons (sli_take (own_sli (hh _ (mem_at (k := 0) rfl))) k5) ask_nil))) (fun _ _ _ hR => by obtain ⟨rfl, rfl, rfl⟩ := hR; exact ⟨rfl, (fun _ h => free_nil h)⟩) rfl rfl (H' := [_,_,_,_]) rfl ?_
  rintro _ _ _ ⟨rfl, rfl, rfl⟩
  refine wl_at 1 (v' := .slice qp4 k5 qc6) rfl (by rw [take_len hzl2]) (wl_hAs 2 (φ' := .blk qg3 [.slice qp4 k5 qc6] 25) rfl (by rw [take_len hzl2]) (H' := [_,_,_,_]) rfl (wP rfl (wP rfl (wl_nil (we_then (wc_keep [4] (S' := [_]) rfl (wc_ret ?_)))))))
  have hE := (Option.some.inj hm).symm
  replace hE := hE.symm
  subst hE
  refine ret_one (Hr := [_,_,_]) [1,2,3] Tryz.results57 (res_tmp rfl) ⟨rfl, rfl, rfl⟩ (asK [] rfl) rfl rfl (.inl rfl)
 ·
  replace hm := iteF hm hs9
  refine wO rfl (wO rfl (wO rfl (wO rfl (wP rfl (wP rfl (wl_nil (we_then (wc_keep [4] (S' := [_]) rfl (wc_ret ?_)))))))))
  have hE := (Option.some.inj hm).symm
  replace hE := hE.symm
  subst hE
  refine ret_one (Hr := [_,_,_]) [1,2,3] Tryz.results57 (res_tmp rfl) ⟨rfl, rfl, rfl⟩ (asK [] rfl) rfl rfl (.inl rfl)
theorem w_slices_IndexFunc_Fact_V_s (N : Nat) (qp0 : Option Addr) (qc1 : Nat) (l0 : List FactD) (qg2 : Nat) (a1 : Int) (qg3 : Nat) (qp4 : Option Addr) (qn5 : Nat) (qc6 : Nat) (l2 : List V) (k3 : Nat) (o0 : Int) (hm : m_slices_IndexFunc_Fact_V N l0 a1 l2 k3 = some o0) : Spec Tryz.prog 56 [.slice qp0 l0.length qc1, .func (.func 57) #[] #[.pointer (some ⟨qg2,0, none⟩), .pointer (some ⟨qg3,0, none⟩)]] [.sli 3 R_FactD qp0 qc1 l0] [.blk qg2 [.int .i64 a1] 3, .blk qg3 [.slice qp4 k3 qc6] 25, .own 51 3 R_V (.slice qp4 qn5 qc6) l2] (fun v Φr Hr => v = .int .i64 o0 ∧ Φr = [] ∧ Hr = [.blk qg2 [.int .i64 a1] 3, .blk qg3 [.slice qp4 k3 qc6] 25, .own 51 3 R_V (.slice qp4 qn5 qc6) l2]) := by
 unfold m_slices_IndexFunc_Fact_V at hm
 refine spec_of Tryz.func56 rfl Tryz.ntmps56 rfl (S := [_,_]) rfl (fun C => (wc_seq (wc_region (wP rfl (wl_nil (we_then (wc_keep [0,1] (S' := [_,_]) rfl (wc_seq ?_))))))))
 obtain ⟨bj_1, hm, hLj_1⟩ := bindS_some hm
 refine wc_cut (σ := Unit) (fun _ => bj_1 = .inl ()) (fun _ => []) (fun _ => []) (fun _ => [.blk qg2 [.int .i64 a1] 3, .blk qg3 [.slice qp4 k3 qc6] 25, .own 51 3 R_V (.slice qp4 qn5 qc6) l2]) ?_ ?_
 ·
  refine wc_seq (wc_region (wP rfl (wN rfl tE_22 (wP rfl (wl_nil (we_then (wc_keep [8,7,0,1] (S' := [_,_,_,_]) rfl (wc_block (wc_loop (σ := Nat × Nat) (fun (nu1, u1_8) => iter (m_slices_IndexFunc_Fact_V_L1 N l0 a1 l2 k3) nu1 u1_8 = some bj_1) (fun (nu1, u1_8) => nu1) (fun (nu1, u1_8) => [(8, .int .i64 ((u1_8 : Nat) : Int)), (7, .int .i64 ((l0.length : Nat) : Int)), (0, .slice qp0 l0.length qc1), (1, .func (.func 57) #[] #[.pointer (some ⟨qg2,0, none⟩), .pointer (some ⟨qg3,0, none⟩)])]) (fun (nu1, u1_8) => [.sli 3 R_FactD qp0 qc1 l0]) (fun (nu1, u1_8) => [.blk qg2 [.int .i64 a1] 3, .blk qg3 [.slice qp4 k3 qc6] 25, .own 51 3 R_V (.slice qp4 qn5 qc6) l2]) (N, 0) hm [8,7,0,1] rfl (asK [0] rfl) rfl (fun s_ hm => ?_))))))))))
  obtain ⟨nu1, u1_8⟩ := s_
  try dsimp only at hm ⊢
  obtain ⟨mu1, bu1, hnu1, hq, hLu1⟩ := iter_some hm
  clear hm
  subst hnu1
  replace hm := hq
  clear hq
  unfold m_slices_IndexFunc_Fact_V_L1 at hm
  try dsimp only at hm
  refine wc_seq (wc_region (wP rfl (wl_as (d := 9) (v' := .bool (decide (u1_8 < l0.length))) (S' := [_,_,_,_]) rfl rfl (natlt (a := u1_8) (b := l0.length)) (wl_nil (we_then (wc_seq ?_))))))
  refine wc_cond rfl (fun hb9 => ?_) (fun hb9 => ?_)
  ·
   replace hm := iteT hm hb9
   refine wc_keep [8,7,0,1] (S' := [_,_,_,_]) rfl (wc_skip (we_then (wc_seq (wc_block (wc_seq (wc_region (wP rfl (wP rfl (wl_nil (we_then (wc_keep [5,8,7,0,1] (S' := [_,_,_,_,_]) rfl (wc_seq (wc_region ?_)))))))))))))
   refine wP rfl (wP rfl (wP rfl ?_))
   obtain ⟨x14, hx14, hm⟩ := bindO_some hm
   refine wl_indexA 0 u1_8 rfl rfl rfl (freshS_eq rfl) rfl rfl rfl rfl rfl hx14 tE_22 tS_27 (fun b14 q14 cs14 hlx14 => (wl_open R_FactD_opens 1 rfl (fun r14 er14 _ => ?_)))
   subst er14
   refine wl_load 1 0 rfl rfl rfl (freshS_eq rfl) rfl rfl rfl (cs := [_,_,_]) rfl tS_27 tA_27 rfl rfl ?_
   obtain ⟨v16, hc16, hm⟩ := bindO_some hm
   refine wl_callDyn [0,1,2] [] rfl rfl rfl (freshS_eq rfl) rfl rfl rfl fn_57 rfl rfl (w_memory_row_says_1_V_s N x14.id x14.ty r14.1 r14.2 x14.args qg2 a1 qg3 qp4 qn5 qc6 l2 k3 _ hc16) (asK [0] rfl) rfl (H' := []) rfl ?_
   rintro _ _ _ ⟨rfl, rfl, rfl⟩
   refine wl_nil (we_then (wc_keep [16,5,8,7,0,1] (S' := [_,_,_,_,_,_]) rfl ?_))
   refine wc_cond rfl (fun hb16 => ?_) (fun hb16 => ?_)
   ·
    replace hm := iteT hm hb16
    refine wc_keep [5] (S' := [_]) rfl (wc_seq (wc_region (wP rfl (wP rfl (wl_nil (we_then (wc_keep [4] (S' := [_]) rfl (wc_ret (we_block_ret (we_then_ret (we_then_ret (we_block_ret (we_then_ret ?_)))))))))))))
    have hE := (Option.some.inj hm).symm
    replace hE := link_inr hLu1 hE
    replace hE := link_inr hLj_1 hE
    replace hE := hE.symm
    subst hE
    refine ret_one (Hr := [_,_,_]) [0,1,2] Tryz.results56 (res_tmp rfl) ⟨rfl, rfl, rfl⟩ (asK [] rfl) rfl rfl (.inl rfl)
   ·
    replace hm := iteF hm hb16
    refine wc_keep [8,7,0,1] (S' := [_,_,_,_]) rfl (wc_skip (we_block_normal (we_then (wc_region (wP rfl ?_)))))
    obtain ⟨hg18, hm⟩ := gd_some hm
    refine wl_as (d := 18) (v' := .int .i64 ((u1_8 + 1 : Nat) : Int)) (S' := [_,_,_,_]) rfl rfl (nat_add (a := u1_8) (b := 1) hg18) (wl_pure (S' := [_,_,_,_]) rfl rfl rfl rfl rfl (wl_nil ?_))
    have hE := (Option.some.inj hm).symm
    replace hE := link_inl hLu1 hE
    refine we_roundK (_, u1_8 + 1) (Nat.lt_succ_self _) hE [8,7,0,1] rfl (asK [3] rfl) rfl
  ·
   replace hm := iteF hm hb9
   refine wc_keep [] (S' := []) rfl (wc_exit (we_then_exit (we_then_exit (we_block_hit ?_))))
   have hE := (Option.some.inj hm).symm
   replace hE := link_inr hLu1 hE
   refine we_join () hE [] rfl (asK [] rfl) rfl
 ·
  rintro _ hE
  try dsimp only
  have hm := link_inl hLj_1 hE
  try dsimp only at hm
  refine wc_seq (wc_region (wP rfl (wl_nil (we_then (wc_ret ?_)))))
  have hE := (Option.some.inj hm).symm
  replace hE := hE.symm
  subst hE
  refine ret_one (Hr := [_,_,_]) [0,1,2] Tryz.results56 (res_tmp rfl) ⟨rfl, rfl, rfl⟩ (asK [] rfl) rfl rfl (.inl rfl)
theorem w_memory_row_says_V_s (N : Nat) (qg0 : Nat) (qp1 : Option Addr) (qn2 : Nat) (qc3 : Nat) (l0 : List FactD) (a1 : Int) (a2 : Int) (qp4 : Option Addr) (qn5 : Nat) (qc6 : Nat) (l3 : List V) (k4 : Nat) (o0 : Int) (hm : m_memory_row_says_V N l0 a1 a2 l3 k4 = some o0) : Spec Tryz.prog 27 [.pointer (some ⟨qg0,0, none⟩), .int .i64 a2, .slice qp4 k4 qc6] [] [.blk qg0 [.slice qp1 qn2 qc3, .int .i64 a1] 61, .own 27 3 R_FactD (.slice qp1 qn2 qc3) l0, .own 51 3 R_V (.slice qp4 qn5 qc6) l3] (fun v Φr Hr => v = .int .i64 o0 ∧ Φr = [] ∧ Hr = [.blk qg0 [.slice qp1 qn2 qc3, .int .i64 a1] 61, .own 27 3 R_FactD (.slice qp1 qn2 qc3) l0, .own 51 3 R_V (.slice qp4 qn5 qc6) l3]) := by
 unfold m_memory_row_says_V at hm
 refine spec_of Tryz.func27 rfl Tryz.ntmps27 rfl (S := [_,_,_]) rfl (fun C => (wc_seq (wc_region (wB rfl (fun g4 => (wB rfl (fun g5 => (wP rfl (wl_nil (we_then (wc_keep [5,4,0] (S' := [_,_,_]) rfl (wc_seq (wc_region (wP rfl (wP rfl (wF rfl tF_59_0 ?_))))))))))))))))
 refine wD 2 0 rfl tS_22 tA_22 rfl (wl_makeFunc rfl rfl rfl (freshS_eq rfl) rfl rfl (wl_ownLen 3 rfl (fun hzqn2 _ => ?_)))
 subst hzqn2
 obtain ⟨v12, hc12, hm⟩ := bindO_some hm
 refine wl_lend [1,0,4] [2,3] [3] rfl rfl rfl (freshS_eq rfl) rfl rfl fn_56 rfl (w_slices_IndexFunc_Fact_V_s N qp1 qc3 l0 g4 a2 g5 qp4 qn5 qc6 l3 k4 _ hc12) (fun F w hφ hh => (ask_cons (own_sli (hh _ (mem_at (k := 0) rfl))) ask_nil)) (fun _ _ _ hR => by obtain ⟨rfl, rfl, rfl⟩ := hR; exact ⟨rfl, (free_cons (blk_free) (free_cons (blk_free) (free_cons (own_free mkRep_free) (fun _ h => free_nil h))))⟩) rfl rfl (H' := [_,_]) rfl ?_
 rintro _ _ _ ⟨rfl, rfl, rfl⟩
 refine wP rfl (wl_nil (we_then (wc_keep [6] (S' := [_]) rfl (wc_ret ?_))))
 have hE := (Option.some.inj hm).symm
 replace hE := hE.symm
 subst hE
 refine ret_one (Hr := [_,_,_]) [3,4,2] Tryz.results27 (res_tmp rfl) ⟨rfl, rfl, rfl⟩ (asK [] rfl) rfl rfl (.inl rfl)
theorem w_memory_Of_V_s0 (N : Nat) (a0 : Int) (qp0 : Option Addr) (qn1 : Nat) (qc2 : Nat) (l1 : List FactDS) (k2 : Nat)  (hm : m_memory_Of_V N a0 l1 k2 = some (.inl ())) : Spec Tryz.prog 9 [.int .i64 a0, .slice qp0 k2 qc2] [] [treeF TS_FactD 27 3 (.slice qp0 qn1 qc2) l1] (fun v Φr Hr => v = .tuple #[.pointer none, .int .i64 4] ∧ Φr = [] ∧ Hr = [treeF TS_FactD 27 3 (.slice qp0 qn1 qc2) l1]) := by
 unfold m_memory_Of_V at hm
 refine spec_of Tryz.func9 rfl Tryz.ntmps9 rfl (S := [_,_]) rfl (fun C => (wc_seq (wc_region (wP rfl (wP rfl (wl_nil (we_then (wc_keep [0,1] (S' := [_,_]) rfl (wc_seq (wc_seq ?_))))))))))
 obtain ⟨bj_1, hm, hLj_1⟩ := bindO_some hm
 refine wc_cut (σ := Bool) (fun j_1_20 => bj_1 = j_1_20) (fun j_1_20 => [(0, .int .i64 a0), (1, .slice qp0 k2 qc2), (20, .bool j_1_20)]) (fun j_1_20 => []) (fun j_1_20 => [treeF TS_FactD 27 3 (.slice qp0 qn1 qc2) l1]) ?_ ?_
 ·
  refine wc_region (wP rfl (wP rfl (wP rfl ?_)))
  refine wl_split (d := 12) (S' := [_,_,_,_]) rfl rfl (fun hs12 => ?_) (fun hs12 => ?_)
  ·
   replace hm := iteT hm hs12
   refine wO rfl (wO rfl (wP rfl (wP rfl (wO rfl (wO rfl (wO rfl (wP rfl (wl_nil ?_))))))))
   have hE := (Option.some.inj hm).symm
   refine we_join true hE [0,1,20] rfl (asK [] rfl) rfl
  ·
   replace hm := iteF hm hs12
   refine wP rfl (wP rfl (wP rfl (wP rfl ?_)))
   refine wl_split (d := 16) (S' := [_,_,_,_,_,_,_,_]) rfl rfl (fun hs16 => ?_) (fun hs16 => ?_)
   ·
    replace hm := iteT hm hs16
    refine wO rfl (wO rfl (wO rfl (wP rfl (wl_nil ?_))))
    have hE := (Option.some.inj hm).symm
    refine we_join true hE [0,1,20] rfl (asK [] rfl) rfl
   ·
    replace hm := iteF hm hs16
    refine wP rfl (wN rfl tE_22 (wP rfl (wl_as (d := 19) (v' := .bool (decide (256 < k2))) (S' := [_,_,_,_,_,_,_,_,_,_,_]) rfl rfl (natgt (a := k2) (b := 256)) (wP rfl (wl_nil ?_)))))
    have hE := (Option.some.inj hm).symm
    refine we_join (decide (256 < k2)) hE [0,1,20] rfl (asK [] rfl) rfl
 ·
  rintro j_1_20 hE
  try dsimp only
  have hm := hLj_1
  rw [hE] at hm
  refine wc_cond rfl (fun hb20 => ?_) (fun hb20 => ?_)
  ·
   replace hm := iteT hm hb20
   refine wc_keep [] (S' := []) rfl (wc_seq (wc_region (wP rfl (wP rfl (wl_nil (we_then (wc_ret (we_then_ret ?_))))))))
   have hE := (Option.some.inj hm).symm
   replace hE := Sum.inl.inj hE
   refine ret_two (Hr := [_]) [0] Tryz.results9 (res_tmp rfl) (res_tmp rfl) ⟨rfl, rfl, rfl⟩ (asK [] rfl) rfl rfl (.inl rfl)
  ·
   replace hm := iteF hm hb20
   refine wc_keep [0,1] (S' := [_,_]) rfl (wc_skip (we_then (wc_seq (wc_region (wP rfl (wl_build rfl rfl rfl (freshS_eq rfl) rfl tZ_61 tP_61 rfl (out := [_,_]) rfl (wB rfl (fun g23 => (wP rfl (wl_nil (we_then (wc_keep [6,0,1] (S' := [_,_,_]) rfl (wc_seq (wc_region ?_))))))))))))))
   refine wP rfl (wl_nil (we_then (wc_seq ?_)))
   obtain ⟨bj_2, hm, hLj_2⟩ := bindS_some hm
   refine wc_cut (σ := (List FactD) × (Option Addr) × Nat × Nat) (fun (j_2_6_f0_l, j_2_6_f0_p, j_2_6_f0_c, j_2_6_f0_n) => bj_2 = .inl j_2_6_f0_l) (fun (j_2_6_f0_l, j_2_6_f0_p, j_2_6_f0_c, j_2_6_f0_n) => [(6, .pointer (some ⟨g23,0, none⟩))]) (fun (j_2_6_f0_l, j_2_6_f0_p, j_2_6_f0_c, j_2_6_f0_n) => []) (fun (j_2_6_f0_l, j_2_6_f0_p, j_2_6_f0_c, j_2_6_f0_n) => [.blk g23 [.slice j_2_6_f0_p j_2_6_f0_n j_2_6_f0_c, .int .i64 a0] 61, .own 27 3 R_FactD (.slice j_2_6_f0_p j_2_6_f0_n j_2_6_f0_c) j_2_6_f0_l, treeF TS_FactD 27 3 (.slice qp0 qn1 qc2) l1]) ?_ ?_
   ·
    refine wc_seq (wc_region (wP rfl (wN rfl tE_22 (wP rfl (wl_nil (we_then (wc_keep [26,25,24,7,6,0] (S' := [_,_,_,_,_,_]) rfl (wc_block (wc_rowNil 27 3 R_FactD (wc_pick [2,1,0] rfl (H' := [_,_,_]) rfl (wc_loop (σ := Nat × Nat × Int × (List FactD) × (Option Addr) × Nat × Nat) (fun (nu1, u1_26, u1_7, u1_6_f0_l, u1_6_f0_p, u1_6_f0_c, u1_6_f0_n) => iter (m_memory_Of_V_L1 N k2 l1 a0) nu1 (u1_26, u1_7, u1_6_f0_l) = some bj_2) (fun (nu1, u1_26, u1_7, u1_6_f0_l, u1_6_f0_p, u1_6_f0_c, u1_6_f0_n) => nu1) (fun (nu1, u1_26, u1_7, u1_6_f0_l, u1_6_f0_p, u1_6_f0_c, u1_6_f0_n) => [(26, .int .i64 ((u1_26 : Nat) : Int)), (25, .int .i64 ((k2 : Nat) : Int)), (24, .slice qp0 k2 qc2), (7, .int .i64 u1_7), (6, .pointer (some ⟨g23,0, none⟩)), (0, .int .i64 a0)]) (fun (nu1, u1_26, u1_7, u1_6_f0_l, u1_6_f0_p, u1_6_f0_c, u1_6_f0_n) => []) (fun (nu1, u1_26, u1_7, u1_6_f0_l, u1_6_f0_p, u1_6_f0_c, u1_6_f0_n) => [treeF TS_FactD 27 3 (.slice qp0 qn1 qc2) l1, .blk g23 [.slice u1_6_f0_p u1_6_f0_n u1_6_f0_c, .int .i64 a0] 61, .own 27 3 R_FactD (.slice u1_6_f0_p u1_6_f0_n u1_6_f0_c) u1_6_f0_l]) (N, 0,0,[], none, 0,0) hm [26,25,24,7,6,0] rfl (asK [] rfl) rfl (fun s_ hm => ?_))))))))))))
    obtain ⟨nu1, u1_26, u1_7, u1_6_f0_l, u1_6_f0_p, u1_6_f0_c, u1_6_f0_n⟩ := s_
    try dsimp only at hm ⊢
    obtain ⟨mu1, bu1, hnu1, hq, hLu1⟩ := iter_some hm
    clear hm
    subst hnu1
    replace hm := hq
    clear hq
    unfold m_memory_Of_V_L1 at hm
    try dsimp only at hm
    refine wc_seq (wc_region (wP rfl (wl_as (d := 27) (v' := .bool (decide (u1_26 < k2))) (S' := [_,_,_,_,_,_]) rfl rfl (natlt (a := u1_26) (b := k2)) (wl_nil (we_then (wc_seq ?_))))))
    refine wc_cond rfl (fun hb27 => ?_) (fun hb27 => ?_)
    ·
     replace hm := iteT hm hb27
     refine wc_keep [26,25,24,7,6,0] (S' := [_,_,_,_,_,_]) rfl (wc_skip (we_then (wc_seq (wc_block (wc_seq (wc_region (wl_treeOut 0 rfl (fun zz28 hzz28 => ?_))))))))
     obtain ⟨x28, hx28, hm⟩ := bindO_some hm
     obtain ⟨rr28, hrr28⟩ := zip_at hzz28 hx28
     obtain ⟨hq28, hm⟩ := gd_some hm
     refine wl_indexS 1 u1_26 rfl rfl rfl (freshS_eq rfl) rfl rfl rfl rfl rfl hq28 (get_lt hrr28) tE_22 tS_27 (fun g28 eg28 => ?_)
     subst eg28
     refine wl_sh [.own 51 3 R_V (.slice rr28.1 ((x28.args ++ x28.argsT).length) rr28.2) (x28.args ++ x28.argsT), bagF TS_FactD zz28 (some u1_26), _,_,_] (fun _ h => h.bagOpen 0 u1_26 rfl hrr28) (wl_loadRow pair_opens 2 u1_26 0 rfl rfl rfl (freshS_eq rfl) rfl rfl rfl hrr28 tS_27 tA_27 (v := fun _ => .agg #[.int .i64 (x28.id), .int .i64 (x28.ty), .slice rr28.1 x28.args.length rr28.2]) (fun _ => rfl) (fun _ => rfl) (fun _ _ => (wl_alloc rfl rfl rfl (freshS_eq rfl) rfl tZ_27 rfl (fun g9 => (wS 0 0 rfl tS_27 (all' := [_,_,_]) rfl (H' := [_,_,_,_,_,_]) rfl (wl_nil (we_then (wc_keep [9,26,25,24,7,6,0] (S' := [_,_,_,_,_,_,_]) rfl (wc_seq (wc_seq ?_))))))))))
     obtain ⟨bj_3, hm, hLj_3⟩ := bindO_some hm
     unfold m_memory_Of_V_C3 at hm
     refine wc_cut (σ := Bool) (fun j_3_58 => bj_3 = j_3_58) (fun j_3_58 => [(9, .pointer (some ⟨g9,0, none⟩)), (26, .int .i64 ((u1_26 : Nat) : Int)), (25, .int .i64 ((k2 : Nat) : Int)), (24, .slice (some ⟨g28,0, none⟩) k2 qc2), (6, .pointer (some ⟨g23,0, none⟩)), (0, .int .i64 a0), (58, .bool j_3_58)]) (fun j_3_58 => []) (fun j_3_58 => [.blk g9 [.int .i64 (x28.id), .int .i64 (x28.ty), .slice rr28.1 x28.args.length rr28.2] 27, .own 51 3 R_V (.slice rr28.1 ((x28.args ++ x28.argsT).length) rr28.2) (x28.args ++ x28.argsT), .own 27 3 TS_FactD.pair (.slice (some ⟨g28,0, none⟩) qn1 qc2) zz28, .blk g23 [.slice u1_6_f0_p u1_6_f0_n u1_6_f0_c, .int .i64 a0] 61, .own 27 3 R_FactD (.slice u1_6_f0_p u1_6_f0_n u1_6_f0_c) u1_6_f0_l, bagF TS_FactD zz28 (some u1_26)]) ?_ ?_
     ·
      rcases ite_some hm with ⟨hs34, hm⟩ | ⟨hs34, hm⟩
      ·
       refine wc_draw [0,1,2,3,4,5,6,7,8,9,10,11,12,13,14,16,17,18,19,20,21,22,23,24,25,27,28] rfl rfl (fun hok => (wx_fieldAddr hok 0 rfl rfl rfl (freshS_eq rfl) rfl rfl rfl tF_27_0 (wx_loadH hok 1 0 0 rfl rfl rfl (freshS_eq rfl) rfl rfl rfl rfl (cs := [_]) rfl tS_3 tA_3 rfl rfl (xP hok 2 rfl (xP hok 3 rfl (xP hok 4 rfl (wx_as (d := 34) (v' := .bool true) (S' := [_,_,_,_,_,_,_,_,_,_,_]) rfl rfl (bool_is hs34) (xO hok 5 rfl (xO hok 6 rfl (xO hok 7 rfl (xO hok 8 rfl (xP hok 9 rfl (xP hok 10 rfl (xO hok 11 rfl ?_))))))))))))))
       refine xO hok 12 rfl (xO hok 13 rfl (xO hok 14 rfl (xS hok 15 rfl (wO rfl (wl_nil (we_x [] [0] rfl rfl (xO hok 16 rfl (xP hok 17 rfl (xP hok 18 rfl (xO hok 19 rfl (xO hok 20 rfl (xO hok 21 rfl (xO hok 22 rfl ?_)))))))))))))
       refine xO hok 23 rfl (xO hok 24 rfl (xO hok 25 rfl (xS hok 26 rfl (wO rfl (wl_nil (we_x [] [0] rfl rfl (xO hok 27 rfl (xP hok 28 rfl (wx_done hok rfl ?_)))))))))
       have hE := (Option.some.inj hm).symm
       refine we_pick [0,1,3,4,5,2] rfl (H' := [_,_,_,_,_,_]) rfl ?_
       refine we_join true hE [9,26,25,24,6,0,58] rfl (asK [] rfl) rfl
      ·
       rcases ite_some hm with ⟨hs40, hm⟩ | ⟨hs40, hm⟩
       ·
        refine wc_draw [0,1,2,3,4,5,6,7,8,9,10,11,12,13,14,16,17,18,19,20,21,22,23,24,25,27,28] rfl rfl (fun hok => (wx_fieldAddr hok 0 rfl rfl rfl (freshS_eq rfl) rfl rfl rfl tF_27_0 (wx_loadH hok 1 0 0 rfl rfl rfl (freshS_eq rfl) rfl rfl rfl rfl (cs := [_]) rfl tS_3 tA_3 rfl rfl (xP hok 2 rfl (xP hok 3 rfl (xP hok 4 rfl (wx_as (d := 34) (v' := .bool false) (S' := [_,_,_,_,_,_,_,_,_,_,_]) rfl rfl (bool_is hs34) (wx_fieldAddr hok 5 rfl rfl rfl (freshS_eq rfl) rfl rfl rfl tF_27_0 (wx_loadH hok 6 0 0 rfl rfl rfl (freshS_eq rfl) rfl rfl rfl rfl (cs := [_]) rfl tS_3 tA_3 rfl rfl (xP hok 7 rfl (xP hok 8 rfl (xP hok 9 rfl (xP hok 10 rfl (wx_as (d := 40) (v' := .bool true) (S' := [_,_,_,_,_,_,_,_,_,_,_,_,_,_,_,_,_]) rfl rfl (bool_is hs40) ?_))))))))))))))
        refine xO hok 11 rfl (xO hok 12 rfl (xO hok 13 rfl (xO hok 14 rfl (xS hok 15 rfl (wO rfl (wl_nil (we_x [] [0,0] rfl rfl (xO hok 16 rfl (xP hok 17 rfl (xP hok 18 rfl (xO hok 19 rfl (xO hok 20 rfl (xO hok 21 rfl ?_)))))))))))))
        refine xO hok 22 rfl (xO hok 23 rfl (xO hok 24 rfl (xO hok 25 rfl (xS hok 26 rfl (wO rfl (wl_nil (we_x [] [0,0] rfl rfl (xO hok 27 rfl (xP hok 28 rfl (wx_done hok rfl ?_))))))))))
        have hE := (Option.some.inj hm).symm
        refine we_pick [0,1,3,4,5,2] rfl (H' := [_,_,_,_,_,_]) rfl ?_
        refine we_join true hE [9,26,25,24,6,0,58] rfl (asK [] rfl) rfl
       ·
        obtain ⟨hzl70, hm⟩ := gd_some hm
        obtain ⟨v45, hc45, hm⟩ := bindO_some hm
        rcases ite_some hm with ⟨hs48, hm⟩ | ⟨hs48, hm⟩
        ·
         refine wc_draw [0,1,2,3,4,5,6,7,8,9,10,11,12,13,14,16,17,18,19,20,21,22,23,24,25,27,28] rfl rfl (fun hok => (wx_fieldAddr hok 0 rfl rfl rfl (freshS_eq rfl) rfl rfl rfl tF_27_0 (wx_loadH hok 1 0 0 rfl rfl rfl (freshS_eq rfl) rfl rfl rfl rfl (cs := [_]) rfl tS_3 tA_3 rfl rfl (xP hok 2 rfl (xP hok 3 rfl (xP hok 4 rfl (wx_as (d := 34) (v' := .bool false) (S' := [_,_,_,_,_,_,_,_,_,_,_]) rfl rfl (bool_is hs34) (wx_fieldAddr hok 5 rfl rfl rfl (freshS_eq rfl) rfl rfl rfl tF_27_0 (wx_loadH hok 6 0 0 rfl rfl rfl (freshS_eq rfl) rfl rfl rfl rfl (cs := [_]) rfl tS_3 tA_3 rfl rfl (xP hok 7 rfl (xP hok 8 rfl (xP hok 9 rfl (xP hok 10 rfl (wx_as (d := 40) (v' := .bool false) (S' := [_,_,_,_,_,_,_,_,_,_,_,_,_,_,_,_,_]) rfl rfl (bool_is hs40) ?_))))))))))))))
         refine wx_fieldAddr hok 11 rfl rfl rfl (freshS_eq rfl) rfl rfl rfl tF_27_1 (wx_loadH hok 12 0 1 rfl rfl rfl (freshS_eq rfl) rfl rfl rfl rfl (cs := [_]) rfl tS_3 tA_3 rfl rfl (wx_fieldAddr hok 13 rfl rfl rfl (freshS_eq rfl) rfl rfl rfl tF_27_2 (wx_loadH hok 14 0 2 rfl rfl rfl (freshS_eq rfl) rfl rfl rfl rfl (cs := [_]) rfl tS_25 tA_25 rfl rfl (xS hok 15 rfl (wl_at 0 (v' := .slice rr28.1 (((x28.args ++ x28.argsT).take x28.args.length).length) rr28.2) rfl (by rw [take_len hzl70]) (wl_hAs 0 (φ' := .blk g9 [.int .i64 (x28.id), .int .i64 (x28.ty), .slice rr28.1 (((x28.args ++ x28.argsT).take x28.args.length).length) rr28.2] 27) rfl (by rw [take_len hzl70]) (H' := [_,_,_,_,_,_]) rfl (wl_lend [] [0,1,2,3,4,5] [1] rfl rfl rfl (freshS_eq rfl) rfl rfl fn_26 rfl (w_memory_may_s N x28.ty rr28.1 rr28.2 ((x28.args ++ x28.argsT).take x28.args.length) _ hc45) (fun F w hφ hh => (ask_cons (sli_take (own_sli (hh _ (mem_at (k := 0) rfl))) x28.args.length) ask_nil)) (fun _ _ _ hR => by obtain ⟨rfl, rfl, rfl⟩ := hR; exact ⟨rfl, (fun _ h => free_nil h)⟩) rfl rfl (H' := [_,_,_,_,_,_]) rfl ?_)))))))
         rintro _ _ _ ⟨rfl, rfl, rfl⟩
         refine wl_at 1 (v' := .slice rr28.1 x28.args.length rr28.2) rfl (by rw [take_len hzl70]) (wl_hAs 0 (φ' := .blk g9 [.int .i64 (x28.id), .int .i64 (x28.ty), .slice rr28.1 x28.args.length rr28.2] 27) rfl (by rw [take_len hzl70]) (H' := [_,_,_,_,_,_]) rfl (wl_nil (we_x [] [0,0] rfl rfl (xP hok 16 rfl (xP hok 17 rfl (xP hok 18 rfl (wx_as (d := 48) (v' := .bool true) (S' := [_,_,_,_,_,_,_,_,_,_,_,_,_,_,_,_,_,_,_,_,_,_,_,_,_]) rfl rfl (bool_is hs48) (xO hok 19 rfl (xO hok 20 rfl (xO hok 21 rfl (xO hok 22 rfl (xO hok 23 rfl (xO hok 24 rfl ?_)))))))))))))
         refine xO hok 25 rfl (xS hok 26 rfl (wO rfl (wl_nil (we_x [] [0,0,0,0] rfl rfl (xO hok 27 rfl (xP hok 28 rfl (wx_done hok rfl ?_)))))))
         have hE := (Option.some.inj hm).symm
         refine we_pick [0,1,3,4,5,2] rfl (H' := [_,_,_,_,_,_]) rfl ?_
         refine we_join true hE [9,26,25,24,6,0,58] rfl (asK [] rfl) rfl
        ·
         obtain ⟨v56, hc56, hm⟩ := bindO_some hm
         refine wc_draw [0,1,2,3,4,5,6,7,8,9,10,11,12,13,14,16,17,18,19,20,21,22,23,24,25,27,28] rfl rfl (fun hok => (wx_fieldAddr hok 0 rfl rfl rfl (freshS_eq rfl) rfl rfl rfl tF_27_0 (wx_loadH hok 1 0 0 rfl rfl rfl (freshS_eq rfl) rfl rfl rfl rfl (cs := [_]) rfl tS_3 tA_3 rfl rfl (xP hok 2 rfl (xP hok 3 rfl (xP hok 4 rfl (wx_as (d := 34) (v' := .bool false) (S' := [_,_,_,_,_,_,_,_,_,_,_]) rfl rfl (bool_is hs34) (wx_fieldAddr hok 5 rfl rfl rfl (freshS_eq rfl) rfl rfl rfl tF_27_0 (wx_loadH hok 6 0 0 rfl rfl rfl (freshS_eq rfl) rfl rfl rfl rfl (cs := [_]) rfl tS_3 tA_3 rfl rfl (xP hok 7 rfl (xP hok 8 rfl (xP hok 9 rfl (xP hok 10 rfl (wx_as (d := 40) (v' := .bool false) (S' := [_,_,_,_,_,_,_,_,_,_,_,_,_,_,_,_,_]) rfl rfl (bool_is hs40) ?_))))))))))))))
         refine wx_fieldAddr hok 11 rfl rfl rfl (freshS_eq rfl) rfl rfl rfl tF_27_1 (wx_loadH hok 12 0 1 rfl rfl rfl (freshS_eq rfl) rfl rfl rfl rfl (cs := [_]) rfl tS_3 tA_3 rfl rfl (wx_fieldAddr hok 13 rfl rfl rfl (freshS_eq rfl) rfl rfl rfl tF_27_2 (wx_loadH hok 14 0 2 rfl rfl rfl (freshS_eq rfl) rfl rfl rfl rfl (cs := [_]) rfl tS_25 tA_25 rfl rfl (xS hok 15 rfl (wl_at 0 (v' := .slice rr28.1 (((x28.args ++ x28.argsT).take x28.args.length).length) rr28.2) rfl (by rw [take_len hzl70]) (wl_hAs 0 (φ' := .blk g9 [.int .i64 (x28.id), .int .i64 (x28.ty), .slice rr28.1 (((x28.args ++ x28.argsT).take x28.args.length).length) rr28.2] 27) rfl (by rw [take_len hzl70]) (H' := [_,_,_,_,_,_]) rfl (wl_lend [] [0,1,2,3,4,5] [1] rfl rfl rfl (freshS_eq rfl) rfl rfl fn_26 rfl (w_memory_may_s N x28.ty rr28.1 rr28.2 ((x28.args ++ x28.argsT).take x28.args.length) _ hc45) (fun F w hφ hh => (ask_cons (sli_take (own_sli (hh _ (mem_at (k := 0) rfl))) x28.args.length) ask_nil)) (fun _ _ _ hR => by obtain ⟨rfl, rfl, rfl⟩ := hR; exact ⟨rfl, (fun _ h => free_nil h)⟩) rfl rfl (H' := [_,_,_,_,_,_]) rfl ?_)))))))
         rintro _ _ _ ⟨rfl, rfl, rfl⟩
         refine wl_at 1 (v' := .slice rr28.1 x28.args.length rr28.2) rfl (by rw [take_len hzl70]) (wl_hAs 0 (φ' := .blk g9 [.int .i64 (x28.id), .int .i64 (x28.ty), .slice rr28.1 x28.args.length rr28.2] 27) rfl (by rw [take_len hzl70]) (H' := [_,_,_,_,_,_]) rfl (wl_nil (we_x [] [0,0] rfl rfl (xP hok 16 rfl (xP hok 17 rfl (xP hok 18 rfl (wx_as (d := 48) (v' := .bool false) (S' := [_,_,_,_,_,_,_,_,_,_,_,_,_,_,_,_,_,_,_,_,_,_,_,_,_]) rfl rfl (bool_is hs48) (xP hok 19 rfl (xP hok 20 rfl (wx_fieldAddr hok 21 rfl rfl rfl (freshS_eq rfl) rfl rfl rfl tF_61_0 (wx_fieldAddr hok 22 rfl rfl rfl (freshS_eq rfl) rfl rfl rfl tF_27_1 (wx_loadH hok 23 0 1 rfl rfl rfl (freshS_eq rfl) rfl rfl rfl rfl (cs := [_]) rfl tS_3 tA_3 rfl rfl (wx_fieldAddr hok 24 rfl rfl rfl (freshS_eq rfl) rfl rfl rfl tF_27_2 ?_)))))))))))))
         refine wx_loadH hok 25 0 2 rfl rfl rfl (freshS_eq rfl) rfl rfl rfl rfl (cs := [_]) rfl tS_25 tA_25 rfl rfl (xS hok 26 rfl (wC [4,5,1] [0,2,3] rfl fn_27 rfl (w_memory_row_says_V_s N g23 u1_6_f0_p u1_6_f0_n u1_6_f0_c u1_6_f0_l a0 x28.ty rr28.1 ((x28.args ++ x28.argsT).length) rr28.2 (x28.args ++ x28.argsT) x28.args.length _ hc56) (asK [] rfl) rfl (H' := [_,_,_]) rfl ?_))
         rintro _ _ _ ⟨rfl, rfl, rfl⟩
         refine wl_nil (we_x [] [3,3,3,3] rfl rfl (xP hok 27 rfl (xP hok 28 rfl (wx_done hok rfl ?_))))
         have hE := (Option.some.inj hm).symm
         refine we_pick [3,2,5,0,1,4] rfl (H' := [_,_,_,_,_,_]) rfl ?_
         refine we_join (decide (v56 ≥ 0)) hE [9,26,25,24,6,0,58] rfl (asK [] rfl) rfl
     ·
      rintro j_3_58 hE
      try dsimp only
      have hm := hLj_3
      rw [hE] at hm
      refine wc_cond rfl (fun hb58 => ?_) (fun hb58 => ?_)
      ·
       replace hm := iteT hm hb58
       refine wc_keep [] (S' := []) rfl (wc_seq (wc_region (wP rfl (wP rfl (wl_nil (we_then (wc_ret (we_then_ret (we_block_ret (we_then_ret (we_then_ret (we_block_ret (we_then_ret ?_)))))))))))))
       have hE := (Option.some.inj hm).symm
       replace hE := link_inr hLu1 hE
       replace hE := link_inr hLj_2 hE
       replace hE := Sum.inl.inj hE
       refine we_pick [1,0,2,3,4,5] rfl (H' := [_,_,_,_,_,_]) rfl (we_sh [_,_,_,_, bagF TS_FactD (zz28.set u1_26 (x28, rr28)) none] (fun _ h => Holds.bagClose (T := TS_FactD) (x := x28) (r := rr28) (i := u1_26) (zs := zz28) (H := [_,_,_,_,_]) h 4 rfl) (we_hAs 4 (φ' := bagF TS_FactD zz28 none) rfl (by rw [set_getZ hrr28]) (H' := [.blk g9 [.int .i64 (x28.id), .int .i64 (x28.ty), .slice rr28.1 x28.args.length rr28.2] 27, .own 27 3 TS_FactD.pair (.slice (some ⟨g28,0, none⟩) qn1 qc2) zz28, .blk g23 [.slice u1_6_f0_p u1_6_f0_n u1_6_f0_c, .int .i64 a0] 61, .own 27 3 R_FactD (.slice u1_6_f0_p u1_6_f0_n u1_6_f0_c) u1_6_f0_l, bagF TS_FactD zz28 none]) rfl (we_sh [_, treeF TS_FactD 27 3 (.slice (some ⟨g28,0, none⟩) qn1 qc2) l1,_,_] (fun _ h => h.treeIn 1 4 rfl rfl rfl hzz28) ?_)))
       refine ret_two (Hr := [_]) [1] Tryz.results9 (res_tmp rfl) (res_tmp rfl) ⟨rfl, rfl, rfl⟩ (asK [] rfl) rfl rfl (.inl rfl)
      ·
       replace hm := iteF hm hb58
       refine wc_keep [9,26,25,24,6,0] (S' := [_,_,_,_,_,_]) rfl (wc_skip (we_then (wc_seq ?_)))
       obtain ⟨hzl72, hm⟩ := gd_some hm
       obtain ⟨_, hc66, hm⟩ := bindO_some hm
       try dsimp only at hm
       obtain ⟨hg68, hm⟩ := gd_some hm
       refine wc_draw [0,1,2,3,4,5,6,10,11,12] rfl rfl (fun hok => (xP hok 0 rfl (xP hok 1 rfl (xP hok 2 rfl (wx_fieldAddr hok 3 rfl rfl rfl (freshS_eq rfl) rfl rfl rfl tF_61_0 (wx_fieldAddr hok 4 rfl rfl rfl (freshS_eq rfl) rfl rfl rfl tF_59_0 (wx_loadH hok 5 3 0 rfl rfl rfl (freshS_eq rfl) rfl rfl rfl rfl (cs := [_]) rfl tS_22 tA_22 rfl rfl (wx_loadH hok 6 0 0 rfl rfl rfl (freshS_eq rfl) rfl rfl rfl rfl (cs := [_,_,_]) rfl tS_27 tA_27 rfl rfl (xS hok 7 rfl (wl_at 0 (v' := .agg #[.int .i64 (x28.id), .int .i64 (x28.ty), .slice rr28.1 (((x28.args ++ x28.argsT).take x28.args.length).length) rr28.2]) rfl (by rw [take_len hzl72]) (wl_hAs 0 (φ' := .blk g9 [.int .i64 (x28.id), .int .i64 (x28.ty), .slice rr28.1 (((x28.args ++ x28.argsT).take x28.args.length).length) rr28.2] 27) rfl (by rw [take_len hzl72]) (H' := [_,_,_,_,_,_]) rfl (wl_lend [] [0,1,2,3,4,5] [1] rfl rfl rfl (freshS_eq rfl) rfl rfl fn_28 rfl (w_memory_own_s N x28.id x28.ty rr28.1 rr28.2 ((x28.args ++ x28.argsT).take x28.args.length) hc66) (fun F w hφ hh => (ask_cons (sli_take (own_sli (hh _ (mem_at (k := 0) rfl))) x28.args.length) ask_nil)) (fun _ _ _ hR => by obtain ⟨_,_, rfl, rfl, rfl⟩ := hR; exact ⟨rfl, (free_cons (own_free mkRep_free) (fun _ h => free_nil h))⟩) rfl rfl (H' := [_,_,_,_,_,_]) rfl ?_))))))))))))
       rintro _ _ _ ⟨p66_0, c66_1, rfl, rfl, rfl⟩
       refine wl_at 1 (v' := .agg #[.int .i64 (x28.id), .int .i64 (x28.ty), .slice rr28.1 x28.args.length rr28.2]) rfl (by rw [take_len hzl72]) (wl_hAs 1 (φ' := .blk g9 [.int .i64 (x28.id), .int .i64 (x28.ty), .slice rr28.1 x28.args.length rr28.2] 27) rfl (by rw [take_len hzl72]) (H' := [_,_,_,_,_,_,_]) rfl (wl_nil (we_x [] [4] rfl rfl (xS hok 8 rfl (wl_buildSlice rfl rfl rfl (freshS_eq rfl) rfl tE_22 tS_27 tZ_27 rfl (zs := [.int .i64 0, .int .i64 0, .slice none 0 0]) (by kernel_rfl) rfl (out := [_,_,_]) rfl (fun g67 => (wl_nil (we_x [] [2,5] rfl rfl (xS hok 9 rfl (wl_freeze 1 rfl (H' := [_,_,_,_,_,_,_]) rfl (wl_fact (.sli 3 R_V p66_0 c66_1 ((x28.args ++ x28.argsT).take x28.args.length)) (fun F w hφ => own_sli (hφ _ (mem_at (k := 0) rfl))) (wl_appendH ([(⟨x28.id, x28.ty, (x28.args ++ x28.argsT).take x28.args.length⟩ : FactD)]) 5 0 rfl rfl rfl (freshS_eq rfl) rfl rfl rfl rfl rfl (fun F w hφ => ⟨[.int .i64 (x28.id), .int .i64 (x28.ty), .slice p66_0 (((x28.args ++ x28.argsT).take x28.args.length).length) c66_1],[], rfl, rfl, ⟨(p66_0, c66_1), rfl, (ask_cons (hφ _ (mem_at (k := 0) rfl)) ask_nil)⟩, rfl⟩) tE_22 tR_27 rfl rfl (Nat.le_trans hg68 (by decide)) (Nat.le_trans (Nat.mul_le_mul_right _ hg68) (by decide)) (H2 := fun p68 c68 => [_,_,_,_,_, .own 27 3 R_FactD (.slice p68 ((u1_6_f0_l ++ ([(⟨x28.id, x28.ty, (x28.args ++ x28.argsT).take x28.args.length⟩ : FactD)])).length) c68) (u1_6_f0_l ++ ([(⟨x28.id, x28.ty, (x28.args ++ x28.argsT).take x28.args.length⟩ : FactD)])), _]) (fun _ _ => rfl) (fun p68 c68 => (wl_drop 0 rfl (H' := [_,_,_,_,_,_]) rfl (wl_nil ?_)))))))))))))))
       refine we_x [] [0] rfl rfl (xP hok 10 rfl (wx_fieldAddr hok 11 rfl rfl rfl (freshS_eq rfl) rfl rfl rfl tF_61_0 (wx_fieldAddr hok 12 rfl rfl rfl (freshS_eq rfl) rfl rfl rfl tF_59_0 (xS hok 13 rfl (wS 3 0 rfl tS_22 (all' := [_,_]) rfl (H' := [_,_,_,_,_,_]) rfl (wl_nil (we_x [0,1] [] rfl rfl (wx_done hok rfl (we_then (wc_keep [9,26,25,24,6,0] (S' := [_,_,_,_,_,_]) rfl (wc_region (wF rfl tF_27_0 (wD 0 0 rfl tS_3 tA_3 rfl ?_)))))))))))))
       refine wP rfl (wl_nil (we_block_normal (we_then (wc_keep [7,26,25,24,6,0] (S' := [_,_,_,_,_,_]) rfl (wc_region (wP rfl ?_))))))
       obtain ⟨hg74, hm⟩ := gd_some hm
       refine wl_as (d := 74) (v' := .int .i64 ((u1_26 + 1 : Nat) : Int)) (S' := [_,_,_,_,_,_]) rfl rfl (nat_add (a := u1_26) (b := 1) hg74) (wl_pure (S' := [_,_,_,_,_,_]) rfl rfl rfl rfl rfl (wl_nil ?_))
       have hE := (Option.some.inj hm).symm
       replace hE := link_inl hLu1 hE
       refine we_pick [1,0,2,3,4,5] rfl (H' := [_,_,_,_,_,_]) rfl (we_sh [_,_,_,_, bagF TS_FactD (zz28.set u1_26 (x28, rr28)) none] (fun _ h => Holds.bagClose (T := TS_FactD) (x := x28) (r := rr28) (i := u1_26) (zs := zz28) (H := [_,_,_,_,_]) h 4 rfl) (we_hAs 4 (φ' := bagF TS_FactD zz28 none) rfl (by rw [set_getZ hrr28]) (H' := [.blk g9 [.int .i64 (x28.id), .int .i64 (x28.ty), .slice rr28.1 x28.args.length rr28.2] 27, .own 27 3 TS_FactD.pair (.slice (some ⟨g28,0, none⟩) qn1 qc2) zz28, .blk g23 [.slice p68 ((u1_6_f0_l ++ ([(⟨x28.id, x28.ty, (x28.args ++ x28.argsT).take x28.args.length⟩ : FactD)])).length) c68, .int .i64 a0] 61, .own 27 3 R_FactD (.slice p68 ((u1_6_f0_l ++ ([(⟨x28.id, x28.ty, (x28.args ++ x28.argsT).take x28.args.length⟩ : FactD)])).length) c68) (u1_6_f0_l ++ ([(⟨x28.id, x28.ty, (x28.args ++ x28.argsT).take x28.args.length⟩ : FactD)])), bagF TS_FactD zz28 none]) rfl (we_sh [_, treeF TS_FactD 27 3 (.slice (some ⟨g28,0, none⟩) qn1 qc2) l1,_,_] (fun _ h => h.treeIn 1 4 rfl rfl rfl hzz28) (we_pick [1,2,3] rfl (H' := [_,_,_]) rfl ?_))))
       refine we_roundK (_, u1_26 + 1, x28.id, (u1_6_f0_l ++ ([(⟨x28.id, x28.ty, (x28.args ++ x28.argsT).take x28.args.length⟩ : FactD)])), p68, c68, ((u1_6_f0_l ++ ([(⟨x28.id, x28.ty, (x28.args ++ x28.argsT).take x28.args.length⟩ : FactD)])).length)) (Nat.lt_succ_self _) hE [26,25,24,7,6,0] rfl (asK [] rfl) rfl
    ·
     replace hm := iteF hm hb27
     refine wc_keep [6] (S' := [_]) rfl (wc_exit (we_then_exit (we_then_exit (we_block_hit ?_))))
     have hE := (Option.some.inj hm).symm
     replace hE := link_inr hLu1 hE
     refine we_pick [1,2,0] rfl (H' := [_,_,_]) rfl ?_
     refine we_join (u1_6_f0_l, u1_6_f0_p, u1_6_f0_c, u1_6_f0_n) hE [6] rfl (asK [] rfl) rfl
   ·
    rintro ⟨j_2_6_f0_l, j_2_6_f0_p, j_2_6_f0_c, j_2_6_f0_n⟩ hE
    try dsimp only
    have hm := link_inl hLj_2 hE
    refine wc_seq (wc_region (wP rfl (wP rfl (wP rfl (wl_nil (we_then (wc_keep [5,4] (S' := [_,_]) rfl (wc_ret ?_))))))))
    have hE := (Option.some.inj hm).symm
    cases hE
theorem w_memory_Of_V_s1 (N : Nat) (a0 : Int) (qp0 : Option Addr) (qn1 : Nat) (qc2 : Nat) (l1 : List FactDS) (k2 : Nat) (o3 : List FactD) (hm : m_memory_Of_V N a0 l1 k2 = some (.inr o3)) : Spec Tryz.prog 9 [.int .i64 a0, .slice qp0 k2 qc2] [] [treeF TS_FactD 27 3 (.slice qp0 qn1 qc2) l1] (fun v Φr Hr => ∃ (o0 : Nat) (o1 : Option Addr) (o2 : Nat) (o4 : Nat), v = .tuple #[.pointer (some ⟨o0,0, none⟩), .int .i64 0] ∧ Φr = [] ∧ Hr = [.blk o0 [.slice o1 o4 o2, .int .i64 a0] 61, .own 27 3 R_FactD (.slice o1 o4 o2) o3, treeF TS_FactD 27 3 (.slice qp0 qn1 qc2) l1]) := by
 unfold m_memory_Of_V at hm
 refine spec_of Tryz.func9 rfl Tryz.ntmps9 rfl (S := [_,_]) rfl (fun C => (wc_seq (wc_region (wP rfl (wP rfl (wl_nil (we_then (wc_keep [0,1] (S' := [_,_]) rfl (wc_seq (wc_seq ?_))))))))))
 obtain ⟨bj_1, hm, hLj_1⟩ := bindO_some hm
 refine wc_cut (σ := Bool) (fun j_1_20 => bj_1 = j_1_20) (fun j_1_20 => [(0, .int .i64 a0), (1, .slice qp0 k2 qc2), (20, .bool j_1_20)]) (fun j_1_20 => []) (fun j_1_20 => [treeF TS_FactD 27 3 (.slice qp0 qn1 qc2) l1]) ?_ ?_
 ·
  refine wc_region (wP rfl (wP rfl (wP rfl ?_)))
  refine wl_split (d := 12) (S' := [_,_,_,_]) rfl rfl (fun hs12 => ?_) (fun hs12 => ?_)
  ·
   replace hm := iteT hm hs12
   refine wO rfl (wO rfl (wP rfl (wP rfl (wO rfl (wO rfl (wO rfl (wP rfl (wl_nil ?_))))))))
   have hE := (Option.some.inj hm).symm
   refine we_join true hE [0,1,20] rfl (asK [] rfl) rfl
  ·
   replace hm := iteF hm hs12
   refine wP rfl (wP rfl (wP rfl (wP rfl ?_)))
   refine wl_split (d := 16) (S' := [_,_,_,_,_,_,_,_]) rfl rfl (fun hs16 => ?_) (fun hs16 => ?_)
   ·
    replace hm := iteT hm hs16
    refine wO rfl (wO rfl (wO rfl (wP rfl (wl_nil ?_))))
    have hE := (Option.some.inj hm).symm
    refine we_join true hE [0,1,20] rfl (asK [] rfl) rfl
   ·
    replace hm := iteF hm hs16
    refine wP rfl (wN rfl tE_22 (wP rfl (wl_as (d := 19) (v' := .bool (decide (256 < k2))) (S' := [_,_,_,_,_,_,_,_,_,_,_]) rfl rfl (natgt (a := k2) (b := 256)) (wP rfl (wl_nil ?_)))))
    have hE := (Option.some.inj hm).symm
    refine we_join (decide (256 < k2)) hE [0,1,20] rfl (asK [] rfl) rfl
 ·
  rintro j_1_20 hE
  try dsimp only
  have hm := hLj_1
  rw [hE] at hm
  refine wc_cond rfl (fun hb20 => ?_) (fun hb20 => ?_)
  ·
   replace hm := iteT hm hb20
   refine wc_keep [] (S' := []) rfl (wc_seq (wc_region (wP rfl (wP rfl (wl_nil (we_then (wc_ret (we_then_ret ?_))))))))
   have hE := (Option.some.inj hm).symm
   cases hE
  ·
   replace hm := iteF hm hb20
   refine wc_keep [0,1] (S' := [_,_]) rfl (wc_skip (we_then (wc_seq (wc_region (wP rfl (wl_build rfl rfl rfl (freshS_eq rfl) rfl tZ_61 tP_61 rfl (out := [_,_]) rfl (wB rfl (fun g23 => (wP rfl (wl_nil (we_then (wc_keep [6,0,1] (S' := [_,_,_]) rfl (wc_seq (wc_region ?_))))))))))))))
   refine wP rfl (wl_nil (we_then (wc_seq ?_)))
   obtain ⟨bj_2, hm, hLj_2⟩ := bindS_some hm
   refine wc_cut (σ := (List FactD) × (Option Addr) × Nat × Nat) (fun (j_2_6_f0_l, j_2_6_f0_p, j_2_6_f0_c, j_2_6_f0_n) => bj_2 = .inl j_2_6_f0_l) (fun (j_2_6_f0_l, j_2_6_f0_p, j_2_6_f0_c, j_2_6_f0_n) => [(6, .pointer (some ⟨g23,0, none⟩))]) (fun (j_2_6_f0_l, j_2_6_f0_p, j_2_6_f0_c, j_2_6_f0_n) => []) (fun (j_2_6_f0_l, j_2_6_f0_p, j_2_6_f0_c, j_2_6_f0_n) => [.blk g23 [.slice j_2_6_f0_p j_2_6_f0_n j_2_6_f0_c, .int .i64 a0] 61, .own 27 3 R_FactD (.slice j_2_6_f0_p j_2_6_f0_n j_2_6_f0_c) j_2_6_f0_l, treeF TS_FactD 27 3 (.slice qp0 qn1 qc2) l1]) ?_ ?_
   ·
    refine wc_seq (wc_region (wP rfl (wN rfl tE_22 (wP rfl (wl_nil (we_then (wc_keep [26,25,24,7,6,0] (S' := [_,_,_,_,_,_]) rfl (wc_block (wc_rowNil 27 3 R_FactD (wc_pick [2,1,0] rfl (H' := [_,_,_]) rfl (wc_loop (σ := Nat × Nat × Int × (List FactD) × (Option Addr) × Nat × Nat) (fun (nu1, u1_26, u1_7, u1_6_f0_l, u1_6_f0_p, u1_6_f0_c, u1_6_f0_n) => iter (m_memory_Of_V_L1 N k2 l1 a0) nu1 (u1_26, u1_7, u1_6_f0_l) = some bj_2) (fun (nu1, u1_26, u1_7, u1_6_f0_l, u1_6_f0_p, u1_6_f0_c, u1_6_f0_n) => nu1) (fun (nu1, u1_26, u1_7, u1_6_f0_l, u1_6_f0_p, u1_6_f0_c, u1_6_f0_n) => [(26, .int .i64 ((u1_26 : Nat) : Int)), (25, .int .i64 ((k2 : Nat) : Int)), (24, .slice qp0 k2 qc2), (7, .int .i64 u1_7), (6, .pointer (some ⟨g23,0, none⟩)), (0, .int .i64 a0)]) (fun (nu1, u1_26, u1_7, u1_6_f0_l, u1_6_f0_p, u1_6_f0_c, u1_6_f0_n) => []) (fun (nu1, u1_26, u1_7, u1_6_f0_l, u1_6_f0_p, u1_6_f0_c, u1_6_f0_n) => [treeF TS_FactD 27 3 (.slice qp0 qn1 qc2) l1, .blk g23 [.slice u1_6_f0_p u1_6_f0_n u1_6_f0_c, .int .i64 a0] 61, .own 27 3 R_FactD (.slice u1_6_f0_p u1_6_f0_n u1_6_f0_c) u1_6_f0_l]) (N, 0,0,[], none, 0,0) hm [26,25,24,7,6,0] rfl (asK [] rfl) rfl (fun s_ hm => ?_))))))))))))
    obtain ⟨nu1, u1_26, u1_7, u1_6_f0_l, u1_6_f0_p, u1_6_f0_c, u1_6_f0_n⟩ := s_
    try dsimp only at hm ⊢
    obtain ⟨mu1, bu1, hnu1, hq, hLu1⟩ := iter_some hm
    clear hm
    subst hnu1
    replace hm := hq
    clear hq
    unfold m_memory_Of_V_L1 at hm
    try dsimp only at hm
    refine wc_seq (wc_region (wP rfl (wl_as (d := 27) (v' := .bool (decide (u1_26 < k2))) (S' := [_,_,_,_,_,_]) rfl rfl (natlt (a := u1_26) (b := k2)) (wl_nil (we_then (wc_seq ?_))))))
    refine wc_cond rfl (fun hb27 => ?_) (fun hb27 => ?_)
    ·
     replace hm := iteT hm hb27
     refine wc_keep [26,25,24,7,6,0] (S' := [_,_,_,_,_,_]) rfl (wc_skip (we_then (wc_seq (wc_block (wc_seq (wc_region (wl_treeOut 0 rfl (fun zz28 hzz28 => ?_))))))))
     obtain ⟨x28, hx28, hm⟩ := bindO_some hm
     obtain ⟨rr28, hrr28⟩ := zip_at hzz28 hx28
     obtain ⟨hq28, hm⟩ := gd_some hm
     refine wl_indexS 1 u1_26 rfl rfl rfl (freshS_eq rfl) rfl rfl rfl rfl rfl hq28 (get_lt hrr28) tE_22 tS_27 (fun g28 eg28 => ?_)
     subst eg28
     refine wl_sh [.own 51 3 R_V (.slice rr28.1 ((x28.args ++ x28.argsT).length) rr28.2) (x28.args ++ x28.argsT), bagF TS_FactD zz28 (some u1_26), _,_,_] (fun _ h => h.bagOpen 0 u1_26 rfl hrr28) (wl_loadRow pair_opens 2 u1_26 0 rfl rfl rfl (freshS_eq rfl) rfl rfl rfl hrr28 tS_27 tA_27 (v := fun _ => .agg #[.int .i64 (x28.id), .int .i64 (x28.ty), .slice rr28.1 x28.args.length rr28.2]) (fun _ => rfl) (fun _ => rfl) (fun _ _ => (wl_alloc rfl rfl rfl (freshS_eq rfl) rfl tZ_27 rfl (fun g9 => (wS 0 0 rfl tS_27 (all' := [_,_,_]) rfl (H' := [_,_,_,_,_,_]) rfl (wl_nil (we_then (wc_keep [9,26,25,24,7,6,0] (S' := [_,_,_,_,_,_,_]) rfl (wc_seq (wc_seq ?_))))))))))
     obtain ⟨bj_3, hm, hLj_3⟩ := bindO_some hm
     refine wc_cut (σ := Bool) (fun j_3_58 => bj_3 = j_3_58) (fun j_3_58 => [(9, .pointer (some ⟨g9,0, none⟩)), (26, .int .i64 ((u1_26 : Nat) : Int)), (25, .int .i64 ((k2 : Nat) : Int)), (24, .slice (some ⟨g28,0, none⟩) k2 qc2), (6, .pointer (some ⟨g23,0, none⟩)), (0, .int .i64 a0), (58, .bool j_3_58)]) (fun j_3_58 => []) (fun j_3_58 => [.blk g9 [.int .i64 (x28.id), .int .i64 (x28.ty), .slice rr28.1 x28.args.length rr28.2] 27, .own 51 3 R_V (.slice rr28.1 ((x28.args ++ x28.argsT).length) rr28.2) (x28.args ++ x28.argsT), .own 27 3 TS_FactD.pair (.slice (some ⟨g28,0, none⟩) qn1 qc2) zz28, .blk g23 [.slice u1_6_f0_p u1_6_f0_n u1_6_f0_c, .int .i64 a0] 61, .own 27 3 R_FactD (.slice u1_6_f0_p u1_6_f0_n u1_6_f0_c) u1_6_f0_l, bagF TS_FactD zz28 (some u1_26)]) ?_ ?_
     ·
      rcases ite_some hm with ⟨hs34, hm⟩ | ⟨hs34, hm⟩
      ·
       refine wc_draw [0,1,2,3,4,5,6,7,8,9,10,11,12,13,14,16,17,18,19,20,21,22,23,24,25,27,28] rfl rfl (fun hok => (wx_fieldAddr hok 0 rfl rfl rfl (freshS_eq rfl) rfl rfl rfl tF_27_0 (wx_loadH hok 1 0 0 rfl rfl rfl (freshS_eq rfl) rfl rfl rfl rfl (cs := [_]) rfl tS_3 tA_3 rfl rfl (xP hok 2 rfl (xP hok 3 rfl (xP hok 4 rfl (wx_as (d := 34) (v' := .bool true) (S' := [_,_,_,_,_,_,_,_,_,_,_]) rfl rfl (bool_is hs34) (xO hok 5 rfl (xO hok 6 rfl (xO hok 7 rfl (xO hok 8 rfl (xP hok 9 rfl (xP hok 10 rfl (xO hok 11 rfl ?_))))))))))))))
       refine xO hok 12 rfl (xO hok 13 rfl (xO hok 14 rfl (xS hok 15 rfl (wO rfl (wl_nil (we_x [] [0] rfl rfl (xO hok 16 rfl (xP hok 17 rfl (xP hok 18 rfl (xO hok 19 rfl (xO hok 20 rfl (xO hok 21 rfl (xO hok 22 rfl ?_)))))))))))))
       refine xO hok 23 rfl (xO hok 24 rfl (xO hok 25 rfl (xS hok 26 rfl (wO rfl (wl_nil (we_x [] [0] rfl rfl (xO hok 27 rfl (xP hok 28 rfl (wx_done hok rfl ?_)))))))))
       have hE := (Option.some.inj hm).symm
       refine we_pick [0,1,3,4,5,2] rfl (H' := [_,_,_,_,_,_]) rfl ?_
       refine we_join true hE [9,26,25,24,6,0,58] rfl (asK [] rfl) rfl
      ·
       rcases ite_some hm with ⟨hs40, hm⟩ | ⟨hs40, hm⟩
       ·
        refine wc_draw [0,1,2,3,4,5,6,7,8,9,10,11,12,13,14,16,17,18,19,20,21,22,23,24,25,27,28] rfl rfl (fun hok => (wx_fieldAddr hok 0 rfl rfl rfl (freshS_eq rfl) rfl rfl rfl tF_27_0 (wx_loadH hok 1 0 0 rfl rfl rfl (freshS_eq rfl) rfl rfl rfl rfl (cs := [_]) rfl tS_3 tA_3 rfl rfl (xP hok 2 rfl (xP hok 3 rfl (xP hok 4 rfl (wx_as (d := 34) (v' := .bool false) (S' := [_,_,_,_,_,_,_,_,_,_,_]) rfl rfl (bool_is hs34) (wx_fieldAddr hok 5 rfl rfl rfl (freshS_eq rfl) rfl rfl rfl tF_27_0 (wx_loadH hok 6 0 0 rfl rfl rfl (freshS_eq rfl) rfl rfl rfl rfl (cs := [_]) rfl tS_3 tA_3 rfl rfl (xP hok 7 rfl (xP hok 8 rfl (xP hok 9 rfl (xP hok 10 rfl (wx_as (d := 40) (v' := .bool true) (S' := [_,_,_,_,_,_,_,_,_,_,_,_,_,_,_,_,_]) rfl rfl (bool_is hs40) ?_))))))))))))))
        refine xO hok 11 rfl (xO hok 12 rfl (xO hok 13 rfl (xO hok 14 rfl (xS hok 15 rfl (wO rfl (wl_nil (we_x [] [0,0] rfl rfl (xO hok 16 rfl (xP hok 17 rfl (xP hok 18 rfl (xO hok 19 rfl (xO hok 20 rfl (xO hok 21 rfl ?_)))))))))))))
        refine xO hok 22 rfl (xO hok 23 rfl (xO hok 24 rfl (xO hok 25 rfl (xS hok 26 rfl (wO rfl (wl_nil (we_x [] [0,0] rfl rfl (xO hok 27 rfl (xP hok 28 rfl (wx_done hok rfl ?_))))))))))
        have hE := (Option.some.inj hm).symm
        refine we_pick [0,1,3,4,5,2] rfl (H' := [_,_,_,_,_,_]) rfl ?_
        refine we_join true hE [9,26,25,24,6,0,58] rfl (asK [] rfl) rfl
       ·
        obtain ⟨hzl70, hm⟩ := gd_some hm
        obtain ⟨v45, hc45, hm⟩ := bindO_some hm
        rcases ite_some hm with ⟨hs48, hm⟩ | ⟨hs48, hm⟩
        ·
         refine wc_draw [0,1,2,3,4,5,6,7,8,9,10,11,12,13,14,16,17,18,19,20,21,22,23,24,25,27,28] rfl rfl (fun hok => (wx_fieldAddr hok 0 rfl rfl rfl (freshS_eq rfl) rfl rfl rfl tF_27_0 (wx_loadH hok 1 0 0 rfl rfl rfl (freshS_eq rfl) rfl rfl rfl rfl (cs := [_]) rfl tS_3 tA_3 rfl rfl (xP hok 2 rfl (xP hok 3 rfl (xP hok 4 rfl (wx_as (d := 34) (v' := .bool false) (S' := [_,_,_,_,_,_,_,_,_,_,_]) rfl rfl (bool_is hs34) (wx_fieldAddr hok 5 rfl rfl rfl (freshS_eq rfl) rfl rfl rfl tF_27_0 (wx_loadH hok 6 0 0 rfl rfl rfl (freshS_eq rfl) rfl rfl rfl rfl (cs := [_]) rfl tS_3 tA_3 rfl rfl (xP hok 7 rfl (xP hok 8 rfl (xP hok 9 rfl (xP hok 10 rfl (wx_as (d := 40) (v' := .bool false) (S' := [_,_,_,_,_,_,_,_,_,_,_,_,_,_,_,_,_]) rfl rfl (bool_is hs40) ?_))))))))))))))
         refine wx_fieldAddr hok 11 rfl rfl rfl (freshS_eq rfl) rfl rfl rfl tF_27_1 (wx_loadH hok 12 0 1 rfl rfl rfl (freshS_eq rfl) rfl rfl rfl rfl (cs := [_]) rfl tS_3 tA_3 rfl rfl (wx_fieldAddr hok 13 rfl rfl rfl (freshS_eq rfl) rfl rfl rfl tF_27_2 (wx_loadH hok 14 0 2 rfl rfl rfl (freshS_eq rfl) rfl rfl rfl rfl (cs := [_]) rfl tS_25 tA_25 rfl rfl (xS hok 15 rfl (wl_at 0 (v' := .slice rr28.1 (((x28.args ++ x28.argsT).take x28.args.length).length) rr28.2) rfl (by rw [take_len hzl70]) (wl_hAs 0 (φ' := .blk g9 [.int .i64 (x28.id), .int .i64 (x28.ty), .slice rr28.1 (((x28.args ++ x28.argsT).take x28.args.length).length) rr28.2] 27) rfl (by rw [take_len hzl70]) (H' := [_,_,_,_,_,_]) rfl (wl_lend [] [0,1,2,3,4,5] [1] rfl rfl rfl (freshS_eq rfl) rfl rfl fn_26 rfl (w_memory_may_s N x28.ty rr28.1 rr28.2 ((x28.args ++ x28.argsT).take x28.args.length) _ hc45) (fun F w hφ hh => (ask_cons (sli_take (own_sli (hh _ (mem_at (k := 0) rfl))) x28.args.length) ask_nil)) (fun _ _ _ hR => by obtain ⟨rfl, rfl, rfl⟩ := hR; exact ⟨rfl, (fun _ h => free_nil h)⟩) rfl rfl (H' := [_,_,_,_,_,_]) rfl ?_)))))))
         rintro _ _ _ ⟨rfl, rfl, rfl⟩
         refine wl_at 1 (v' := .slice rr28.1 x28.args.length rr28.2) rfl (by rw [take_len hzl70]) (wl_hAs 0 (φ' := .blk g9 [.int .i64 (x28.id), .int .i64 (x28.ty), .slice rr28.1 x28.args.length rr28.2] 27) rfl (by rw [take_len hzl70]) (H' := [_,_,_,_,_,_]) rfl (wl_nil (we_x [] [0,0] rfl rfl (xP hok 16 rfl (xP hok 17 rfl (xP hok 18 rfl (wx_as (d := 48) (v' := .bool true) (S' := [_,_,_,_,_,_,_,_,_,_,_,_,_,_,_,_,_,_,_,_,_,_,_,_,_]) rfl rfl (bool_is hs48) (xO hok 19 rfl (xO hok 20 rfl (xO hok 21 rfl (xO hok 22 rfl (xO hok 23 rfl (xO hok 24 rfl ?_)))))))))))))
         refine xO hok 25 rfl (xS hok 26 rfl (wO rfl (wl_nil (we_x [] [0,0,0,0] rfl rfl (xO hok 27 rfl (xP hok 28 rfl (wx_done hok rfl ?_)))))))
         have hE := (Option.some.inj hm).symm
         refine we_pick [0,1,3,4,5,2] rfl (H' := [_,_,_,_,_,_]) rfl ?_
         refine we_join true hE [9,26,25,24,6,0,58] rfl (asK [] rfl) rfl
        ·
         obtain ⟨v56, hc56, hm⟩ := bindO_some hm
         refine wc_draw [0,1,2,3,4,5,6,7,8,9,10,11,12,13,14,16,17,18,19,20,21,22,23,24,25,27,28] rfl rfl (fun hok => (wx_fieldAddr hok 0 rfl rfl rfl (freshS_eq rfl) rfl rfl rfl tF_27_0 (wx_loadH hok 1 0 0 rfl rfl rfl (freshS_eq rfl) rfl rfl rfl rfl (cs := [_]) rfl tS_3 tA_3 rfl rfl (xP hok 2 rfl (xP hok 3 rfl (xP hok 4 rfl (wx_as (d := 34) (v' := .bool false) (S' := [_,_,_,_,_,_,_,_,_,_,_]) rfl rfl (bool_is hs34) (wx_fieldAddr hok 5 rfl rfl rfl (freshS_eq rfl) rfl rfl rfl tF_27_0 (wx_loadH hok 6 0 0 rfl rfl rfl (freshS_eq rfl) rfl rfl rfl rfl (cs := [_]) rfl tS_3 tA_3 rfl rfl (xP hok 7 rfl (xP hok 8 rfl (xP hok 9 rfl (xP hok 10 rfl (wx_as (d := 40) (v' := .bool false) (S' := [_,_,_,_,_,_,_,_,_,_,_,_,_,_,_,_,_]) rfl rfl (bool_is hs40) ?_))))))))))))))
         refine wx_fieldAddr hok 11 rfl rfl rfl (freshS_eq rfl) rfl rfl rfl tF_27_1 (wx_loadH hok 12 0 1 rfl rfl rfl (freshS_eq rfl) rfl rfl rfl rfl (cs := [_]) rfl tS_3 tA_3 rfl rfl (wx_fieldAddr hok 13 rfl rfl rfl (freshS_eq rfl) rfl rfl rfl tF_27_2 (wx_loadH hok 14 0 2 rfl rfl rfl (freshS_eq rfl) rfl rfl rfl rfl (cs := [_]) rfl tS_25 tA_25 rfl rfl (xS hok 15 rfl (wl_at 0 (v' := .slice rr28.1 (((x28.args ++ x28.argsT).take x28.args.length).length) rr28.2) rfl (by rw [take_len hzl70]) (wl_hAs 0 (φ' := .blk g9 [.int .i64 (x28.id), .int .i64 (x28.ty), .slice rr28.1 (((x28.args ++ x28.argsT).take x28.args.length).length) rr28.2] 27) rfl (by rw [take_len hzl70]) (H' := [_,_,_,_,_,_]) rfl (wl_lend [] [0,1,2,3,4,5] [1] rfl rfl rfl (freshS_eq rfl) rfl rfl fn_26 rfl (w_memory_may_s N x28.ty rr28.1 rr28.2 ((x28.args ++ x28.argsT).take x28.args.length) _ hc45) (fun F w hφ hh => (ask_cons (sli_take (own_sli (hh _ (mem_at (k := 0) rfl))) x28.args.length) ask_nil)) (fun _ _ _ hR => by obtain ⟨rfl, rfl, rfl⟩ := hR; exact ⟨rfl, (fun _ h => free_nil h)⟩) rfl rfl (H' := [_,_,_,_,_,_]) rfl ?_)))))))
         rintro _ _ _ ⟨rfl, rfl, rfl⟩
         refine wl_at 1 (v' := .slice rr28.1 x28.args.length rr28.2) rfl (by rw [take_len hzl70]) (wl_hAs 0 (φ' := .blk g9 [.int .i64 (x28.id), .int .i64 (x28.ty), .slice rr28.1 x28.args.length rr28.2] 27) rfl (by rw [take_len hzl70]) (H' := [_,_,_,_,_,_]) rfl (wl_nil (we_x [] [0,0] rfl rfl (xP hok 16 rfl (xP hok 17 rfl (xP hok 18 rfl (wx_as (d := 48) (v' := .bool false) (S' := [_,_,_,_,_,_,_,_,_,_,_,_,_,_,_,_,_,_,_,_,_,_,_,_,_]) rfl rfl (bool_is hs48) (xP hok 19 rfl (xP hok 20 rfl (wx_fieldAddr hok 21 rfl rfl rfl (freshS_eq rfl) rfl rfl rfl tF_61_0 (wx_fieldAddr hok 22 rfl rfl rfl (freshS_eq rfl) rfl rfl rfl tF_27_1 (wx_loadH hok 23 0 1 rfl rfl rfl (freshS_eq rfl) rfl rfl rfl rfl (cs := [_]) rfl tS_3 tA_3 rfl rfl (wx_fieldAddr hok 24 rfl rfl rfl (freshS_eq rfl) rfl rfl rfl tF_27_2 ?_)))))))))))))
         refine wx_loadH hok 25 0 2 rfl rfl rfl (freshS_eq rfl) rfl rfl rfl rfl (cs := [_]) rfl tS_25 tA_25 rfl rfl (xS hok 26 rfl (wC [4,5,1] [0,2,3] rfl fn_27 rfl (w_memory_row_says_V_s N g23 u1_6_f0_p u1_6_f0_n u1_6_f0_c u1_6_f0_l a0 x28.ty rr28.1 ((x28.args ++ x28.argsT).length) rr28.2 (x28.args ++ x28.argsT) x28.args.length _ hc56) (asK [] rfl) rfl (H' := [_,_,_]) rfl ?_))
         rintro _ _ _ ⟨rfl, rfl, rfl⟩
         refine wl_nil (we_x [] [3,3,3,3] rfl rfl (xP hok 27 rfl (xP hok 28 rfl (wx_done hok rfl ?_))))
         have hE := (Option.some.inj hm).symm
         refine we_pick [3,2,5,0,1,4] rfl (H' := [_,_,_,_,_,_]) rfl ?_
         refine we_join (decide (v56 ≥ 0)) hE [9,26,25,24,6,0,58] rfl (asK [] rfl) rfl
     ·
      rintro j_3_58 hE
      try dsimp only
      have hm := hLj_3
      rw [hE] at hm
      refine wc_cond rfl (fun hb58 => ?_) (fun hb58 => ?_)
      ·
       replace hm := iteT hm hb58
       refine wc_keep [] (S' := []) rfl (wc_seq (wc_region (wP rfl (wP rfl (wl_nil (we_then (wc_ret (we_then_ret (we_block_ret (we_then_ret (we_then_ret (we_block_ret (we_then_ret ?_)))))))))))))
       have hE := (Option.some.inj hm).symm
       replace hE := link_inr hLu1 hE
       replace hE := link_inr hLj_2 hE
       cases hE
      ·
       replace hm := iteF hm hb58
       refine wc_keep [9,26,25,24,6,0] (S' := [_,_,_,_,_,_]) rfl (wc_skip (we_then (wc_seq ?_)))
       obtain ⟨hzl72, hm⟩ := gd_some hm
       obtain ⟨_, hc66, hm⟩ := bindO_some hm
       try dsimp only at hm
       obtain ⟨hg68, hm⟩ := gd_some hm
       refine wc_draw [0,1,2,3,4,5,6,10,11,12] rfl rfl (fun hok => (xP hok 0 rfl (xP hok 1 rfl (xP hok 2 rfl (wx_fieldAddr hok 3 rfl rfl rfl (freshS_eq rfl) rfl rfl rfl tF_61_0 (wx_fieldAddr hok 4 rfl rfl rfl (freshS_eq rfl) rfl rfl rfl tF_59_0 (wx_loadH hok 5 3 0 rfl rfl rfl (freshS_eq rfl) rfl rfl rfl rfl (cs := [_]) rfl tS_22 tA_22 rfl rfl (wx_loadH hok 6 0 0 rfl rfl rfl (freshS_eq rfl) rfl rfl rfl rfl (cs := [_,_,_]) rfl tS_27 tA_27 rfl rfl (xS hok 7 rfl (wl_at 0 (v' := .agg #[.int .i64 (x28.id), .int .i64 (x28.ty), .slice rr28.1 (((x28.args ++ x28.argsT).take x28.args.length).length) rr28.2]) rfl (by rw [take_len hzl72]) (wl_hAs 0 (φ' := .blk g9 [.int .i64 (x28.id), .int .i64 (x28.ty), .slice rr28.1 (((x28.args ++ x28.argsT).take x28.args.length).length) rr28.2] 27) rfl (by rw [take_len hzl72]) (H' := [_,_,_,_,_,_]) rfl (wl_lend [] [0,1,2,3,4,5] [1] rfl rfl rfl (freshS_eq rfl) rfl rfl fn_28 rfl (w_memory_own_s N x28.id x28.ty rr28.1 rr28.2 ((x28.args ++ x28.argsT).take x28.args.length) hc66) (fun F w hφ hh => (ask_cons (sli_take (own_sli (hh _ (mem_at (k := 0) rfl))) x28.args.length) ask_nil)) (fun _ _ _ hR => by obtain ⟨_,_, rfl, rfl, rfl⟩ := hR; exact ⟨rfl, (free_cons (own_free mkRep_free) (fun _ h => free_nil h))⟩) rfl rfl (H' := [_,_,_,_,_,_]) rfl ?_))))))))))))
       rintro _ _ _ ⟨p66_0, c66_1, rfl, rfl, rfl⟩
       refine wl_at 1 (v' := .agg #[.int .i64 (x28.id), .int .i64 (x28.ty), .slice rr28.1 x28.args.length rr28.2]) rfl (by rw [take_len hzl72]) (wl_hAs 1 (φ' := .blk g9 [.int .i64 (x28.id), .int .i64 (x28.ty), .slice rr28.1 x28.args.length rr28.2] 27) rfl (by rw [take_len hzl72]) (H' := [_,_,_,_,_,_,_]) rfl (wl_nil (we_x [] [4] rfl rfl (xS hok 8 rfl (wl_buildSlice rfl rfl rfl (freshS_eq rfl) rfl tE_22 tS_27 tZ_27 rfl (zs := [.int .i64 0, .int .i64 0, .slice none 0 0]) (by kernel_rfl) rfl (out := [_,_,_]) rfl (fun g67 => (wl_nil (we_x [] [2,5] rfl rfl (xS hok 9 rfl (wl_freeze 1 rfl (H' := [_,_,_,_,_,_,_]) rfl (wl_fact (.sli 3 R_V p66_0 c66_1 ((x28.args ++ x28.argsT).take x28.args.length)) (fun F w hφ => own_sli (hφ _ (mem_at (k := 0) rfl))) (wl_appendH ([(⟨x28.id, x28.ty, (x28.args ++ x28.argsT).take x28.args.length⟩ : FactD)]) 5 0 rfl rfl rfl (freshS_eq rfl) rfl rfl rfl rfl rfl (fun F w hφ => ⟨[.int .i64 (x28.id), .int .i64 (x28.ty), .slice p66_0 (((x28.args ++ x28.argsT).take x28.args.length).length) c66_1],[], rfl, rfl, ⟨(p66_0, c66_1), rfl, (ask_cons (hφ _ (mem_at (k := 0) rfl)) ask_nil)⟩, rfl⟩) tE_22 tR_27 rfl rfl (Nat.le_trans hg68 (by decide)) (Nat.le_trans (Nat.mul_le_mul_right _ hg68) (by decide)) (H2 := fun p68 c68 => [_,_,_,_,_, .own 27 3 R_FactD (.slice p68 ((u1_6_f0_l ++ ([(⟨x28.id, x28.ty, (x28.args ++ x28.argsT).take x28.args.length⟩ : FactD)])).length) c68) (u1_6_f0_l ++ ([(⟨x28.id, x28.ty, (x28.args ++ x28.argsT).take x28.args.length⟩ : FactD)])), _]) (fun _ _ => rfl) (fun p68 c68 => (wl_drop 0 rfl (H' := [_,_,_,_,_,_]) rfl (wl_nil ?_)))))))))))))))
       refine we_x [] [0] rfl rfl (xP hok 10 rfl (wx_fieldAddr hok 11 rfl rfl rfl (freshS_eq rfl) rfl rfl rfl tF_61_0 (wx_fieldAddr hok 12 rfl rfl rfl (freshS_eq rfl) rfl rfl rfl tF_59_0 (xS hok 13 rfl (wS 3 0 rfl tS_22 (all' := [_,_]) rfl (H' := [_,_,_,_,_,_]) rfl (wl_nil (we_x [0,1] [] rfl rfl (wx_done hok rfl (we_then (wc_keep [9,26,25,24,6,0] (S' := [_,_,_,_,_,_]) rfl (wc_region (wF rfl tF_27_0 (wD 0 0 rfl tS_3 tA_3 rfl ?_)))))))))))))
       refine wP rfl (wl_nil (we_block_normal (we_then (wc_keep [7,26,25,24,6,0] (S' := [_,_,_,_,_,_]) rfl (wc_region (wP rfl ?_))))))
       obtain ⟨hg74, hm⟩ := gd_some hm
       refine wl_as (d := 74) (v' := .int .i64 ((u1_26 + 1 : Nat) : Int)) (S' := [_,_,_,_,_,_]) rfl rfl (nat_add (a := u1_26) (b := 1) hg74) (wl_pure (S' := [_,_,_,_,_,_]) rfl rfl rfl rfl rfl (wl_nil ?_))
       have hE := (Option.some.inj hm).symm
       replace hE := link_inl hLu1 hE
       refine we_pick [1,0,2,3,4,5] rfl (H' := [_,_,_,_,_,_]) rfl (we_sh [_,_,_,_, bagF TS_FactD (zz28.set u1_26 (x28, rr28)) none] (fun _ h => Holds.bagClose (T := TS_FactD) (x := x28) (r := rr28) (i := u1_26) (zs := zz28) (H := [_,_,_,_,_]) h 4 rfl) (we_hAs 4 (φ' := bagF TS_FactD zz28 none) rfl (by rw [set_getZ hrr28]) (H' := [.blk g9 [.int .i64 (x28.id), .int .i64 (x28.ty), .slice rr28.1 x28.args.length rr28.2] 27, .own 27 3 TS_FactD.pair (.slice (some ⟨g28,0, none⟩) qn1 qc2) zz28, .blk g23 [.slice p68 ((u1_6_f0_l ++ ([(⟨x28.id, x28.ty, (x28.args ++ x28.argsT).take x28.args.length⟩ : FactD)])).length) c68, .int .i64 a0] 61, .own 27 3 R_FactD (.slice p68 ((u1_6_f0_l ++ ([(⟨x28.id, x28.ty, (x28.args ++ x28.argsT).take x28.args.length⟩ : FactD)])).length) c68) (u1_6_f0_l ++ ([(⟨x28.id, x28.ty, (x28.args ++ x28.argsT).take x28.args.length⟩ : FactD)])), bagF TS_FactD zz28 none]) rfl (we_sh [_, treeF TS_FactD 27 3 (.slice (some ⟨g28,0, none⟩) qn1 qc2) l1,_,_] (fun _ h => h.treeIn 1 4 rfl rfl rfl hzz28) (we_pick [1,2,3] rfl (H' := [_,_,_]) rfl ?_))))
       refine we_roundK (_, u1_26 + 1, x28.id, (u1_6_f0_l ++ ([(⟨x28.id, x28.ty, (x28.args ++ x28.argsT).take x28.args.length⟩ : FactD)])), p68, c68, ((u1_6_f0_l ++ ([(⟨x28.id, x28.ty, (x28.args ++ x28.argsT).take x28.args.length⟩ : FactD)])).length)) (Nat.lt_succ_self _) hE [26,25,24,7,6,0] rfl (asK [] rfl) rfl
    ·
     replace hm := iteF hm hb27
     refine wc_keep [6] (S' := [_]) rfl (wc_exit (we_then_exit (we_then_exit (we_block_hit ?_))))
     have hE := (Option.some.inj hm).symm
     replace hE := link_inr hLu1 hE
     refine we_pick [1,2,0] rfl (H' := [_,_,_]) rfl ?_
     refine we_join (u1_6_f0_l, u1_6_f0_p, u1_6_f0_c, u1_6_f0_n) hE [6] rfl (asK [] rfl) rfl
   ·
    rintro ⟨j_2_6_f0_l, j_2_6_f0_p, j_2_6_f0_c, j_2_6_f0_n⟩ hE
    try dsimp only
    have hm := link_inl hLj_2 hE
    refine wc_seq (wc_region (wP rfl (wP rfl (wP rfl (wl_nil (we_then (wc_keep [5,4] (S' := [_,_]) rfl (wc_ret ?_))))))))
    have hE := (Option.some.inj hm).symm
    replace hE := Sum.inr.inj hE
    replace hE := hE.symm
    subst hE
    refine ret_two (Hr := [_,_,_]) [0,1,2] Tryz.results9 (res_tmp rfl) (res_tmp rfl) ⟨g23, j_2_6_f0_p, j_2_6_f0_c, j_2_6_f0_n, rfl, rfl, rfl⟩ (asK [] rfl) rfl rfl (.inl rfl)
theorem w_ropewalkref01_Named_s (N : Nat) (a0 : ByteArray) (o0 : Bool) (hm : m_ropewalkref01_Named N a0 = some o0) : Spec Tryz.prog 100 [.string a0] [] [] (fun v Φr Hr => v = .bool o0 ∧ Φr = [] ∧ Hr = []) := by
 unfold m_ropewalkref01_Named at hm
 refine spec_of Tryz.func100 rfl Tryz.ntmps100 rfl (S := [_]) rfl (fun C => (wc_seq (wc_region (wP rfl (wl_nil (we_then (wc_keep [0] (S' := [_]) rfl (wc_seq ?_))))))))
 obtain ⟨bj_1, hm, hLj_1⟩ := bindS_some hm
 refine wc_cut (σ := Unit) (fun _ => bj_1 = .inl ()) (fun _ => [(0, .string a0)]) (fun _ => []) (fun _ => []) ?_ ?_
 ·
  refine wc_seq (wc_region (wP rfl (wl_nil (we_then (wc_block (wc_loop (σ := Nat × Nat) (fun (nu1, u1_3) => iter (m_ropewalkref01_Named_L1 N a0) nu1 u1_3 = some bj_1) (fun (nu1, u1_3) => nu1) (fun (nu1, u1_3) => [(3, .int .i64 ((u1_3 : Nat) : Int)), (0, .string a0)]) (fun (nu1, u1_3) => []) (fun (nu1, u1_3) => []) (N, 0) hm [3,0] rfl (asK [] rfl) rfl (fun s_ hm => ?_)))))))
  obtain ⟨nu1, u1_3⟩ := s_
  try dsimp only at hm ⊢
  obtain ⟨mu1, bu1, hnu1, hq, hLu1⟩ := iter_some hm
  clear hm
  subst hnu1
  replace hm := hq
  clear hq
  unfold m_ropewalkref01_Named_L1 at hm
  try dsimp only at hm
  refine wc_seq (wc_seq (wc_region (wP rfl (wP rfl (wl_reck rfl rfl rfl (freshS_eq rfl) (rk_strLen rfl rfl tT_9) (wP rfl (wl_as (d := 9) (v' := .bool (decide (u1_3 < a0.size))) (S' := [_,_,_,_,_]) rfl rfl (natlt (a := u1_3) (b := a0.size)) (wl_nil (we_then (wc_keep [9,3,0] (S' := [_,_,_]) rfl ?_))))))))))
  refine wc_cond rfl (fun hb9 => ?_) (fun hb9 => ?_)
  ·
   replace hm := iteT hm hb9
   refine wc_keep [3,0] (S' := [_,_]) rfl (wc_skip (we_then (wc_seq (wc_block (wc_seq (wc_region (wP rfl (wP rfl ?_))))))))
   obtain ⟨x14, hx14, hm⟩ := bindO_some hm
   refine wl_reck rfl rfl rfl (freshS_eq rfl) (rk_strAt u1_3 rfl rfl rfl rfl hx14 tT_9) (wP rfl (wl_nil (we_then (wc_keep [4,3,0] (S' := [_,_,_]) rfl (wc_seq ?_)))))
   obtain ⟨bj_2, hm, hLj_2⟩ := bindO_some hm
   refine wc_cut (σ := Bool) (fun j_2_5 => bj_2 = j_2_5) (fun j_2_5 => [(4, .int .u8 ((x14.toNat : Nat) : Int)), (3, .int .i64 ((u1_3 : Nat) : Int)), (0, .string a0), (5, .bool j_2_5)]) (fun j_2_5 => []) (fun j_2_5 => []) ?_ ?_
   ·
    refine wc_region (wP rfl (wP rfl (wl_as (d := 16) (v' := .bool (decide (97 ≤ x14.toNat))) (S' := [_,_,_,_]) rfl rfl (natge (a := x14.toNat) (b := 97)) (wP rfl ?_))))
    refine wl_split (d := 17) (S' := [_,_,_,_,_]) rfl rfl (fun hs17 => ?_) (fun hs17 => ?_)
    ·
     replace hm := iteT hm hs17
     refine wP rfl (wP rfl (wl_as (d := 19) (v' := .bool (decide (x14.toNat ≤ 122))) (S' := [_,_,_,_,_,_,_]) rfl rfl (natle (a := x14.toNat) (b := 122)) (wP rfl (wP rfl (wl_nil ?_)))))
     have hE := (Option.some.inj hm).symm
     refine we_join (decide (x14.toNat ≤ 122)) hE [4,3,0,5] rfl (asK [] rfl) rfl
    ·
     replace hm := iteF hm hs17
     refine wO rfl (wO rfl (wP rfl (wP rfl (wl_nil ?_))))
     have hE := (Option.some.inj hm).symm
     refine we_join false hE [4,3,0,5] rfl (asK [] rfl) rfl
   ·
    rintro j_2_5 hE
    try dsimp only
    have hm := hLj_2
    rw [hE] at hm
    refine wc_seq ?_
    obtain ⟨bj_3, hm, hLj_3⟩ := bindO_some hm
    unfold m_ropewalkref01_Named_C3 at hm
    refine wc_cut (σ := Bool) (fun j_3_39 => bj_3 = j_3_39) (fun j_3_39 => [(3, .int .i64 ((u1_3 : Nat) : Int)), (0, .string a0), (39, .bool j_3_39)]) (fun j_3_39 => []) (fun j_3_39 => []) ?_ ?_
    ·
     refine wc_region (wP rfl (wP rfl (wP rfl ?_)))
     refine wl_split (d := 23) (S' := [_,_,_,_,_,_]) rfl rfl (fun hs23 => ?_) (fun hs23 => ?_)
     ·
      replace hm := iteT hm hs23
      refine wP rfl (wP rfl (wl_as (d := 25) (v' := .bool (u1_3 == 0)) (S' := [_,_,_,_,_,_,_,_]) rfl rfl (nateq (a := u1_3) (b := 0)) (wP rfl ?_)))
      refine wl_split (d := 26) (S' := [_,_,_,_,_,_,_,_,_]) rfl rfl (fun hs26 => ?_) (fun hs26 => ?_)
      ·
       replace hm := iteT hm hs26
       refine wO rfl (wO rfl (wO rfl (wO rfl (wO rfl (wO rfl (wO rfl (wO rfl (wO rfl (wO rfl (wO rfl (wP rfl (wP rfl (wl_nil ?_)))))))))))))
       have hE := (Option.some.inj hm).symm
       refine we_join true hE [3,0,39] rfl (asK [] rfl) rfl
      ·
       replace hm := iteF hm hs26
       refine wP rfl (wP rfl (wl_as (d := 28) (v' := .bool (decide (48 ≤ x14.toNat))) (S' := [_,_,_,_,_,_,_,_,_,_,_]) rfl rfl (natge (a := x14.toNat) (b := 48)) (wP rfl ?_)))
       refine wl_split (d := 29) (S' := [_,_,_,_,_,_,_,_,_,_,_,_]) rfl rfl (fun hs29 => ?_) (fun hs29 => ?_)
       ·
        replace hm := iteT hm hs29
        refine wP rfl (wP rfl (wl_as (d := 31) (v' := .bool (decide (x14.toNat ≤ 57))) (S' := [_,_,_,_,_,_,_,_,_,_,_,_,_,_]) rfl rfl (natle (a := x14.toNat) (b := 57)) (wP rfl (wP rfl ?_))))
        refine wl_split (d := 33) (S' := [_,_,_,_,_,_,_,_,_,_,_,_,_,_,_,_]) rfl rfl (fun hs33 => ?_) (fun hs33 => ?_)
        ·
         replace hm := iteT hm hs33
         refine wO rfl (wO rfl (wP rfl (wP rfl (wP rfl (wP rfl (wl_nil ?_))))))
         have hE := (Option.some.inj hm).symm
         refine we_join false hE [3,0,39] rfl (asK [] rfl) rfl
        ·
         replace hm := iteF hm hs33
         refine wP rfl (wP rfl (wl_as (d := 35) (v' := .bool (x14.toNat == 95)) (S' := [_,_,_,_,_,_,_,_,_,_,_,_,_,_,_,_,_,_]) rfl rfl (nateq (a := x14.toNat) (b := 95)) (wP rfl (wP rfl (wP rfl (wP rfl (wl_nil ?_)))))))
         have hE := (Option.some.inj hm).symm
         refine we_join (!(x14.toNat == 95)) hE [3,0,39] rfl (asK [] rfl) rfl
       ·
        replace hm := iteF hm hs29
        refine wO rfl (wO rfl (wP rfl (wP rfl (wP rfl (wP rfl (wl_as (d := 35) (v' := .bool (x14.toNat == 95)) (S' := [_,_,_,_,_,_,_,_,_,_,_,_,_,_,_,_,_,_]) rfl rfl (nateq (a := x14.toNat) (b := 95)) (wP rfl (wP rfl (wP rfl (wP rfl (wl_nil ?_)))))))))))
        have hE := (Option.some.inj hm).symm
        refine we_join (!(x14.toNat == 95)) hE [3,0,39] rfl (asK [] rfl) rfl
     ·
      replace hm := iteF hm hs23
      refine wO rfl (wO rfl (wO rfl (wO rfl (wO rfl (wO rfl (wO rfl (wO rfl (wO rfl (wO rfl (wO rfl (wO rfl (wO rfl (wO rfl ?_)))))))))))))
      refine wO rfl (wP rfl (wl_nil ?_))
      have hE := (Option.some.inj hm).symm
      refine we_join false hE [3,0,39] rfl (asK [] rfl) rfl
    ·
     rintro j_3_39 hE
     try dsimp only
     have hm := hLj_3
     rw [hE] at hm
     refine wc_cond rfl (fun hb39 => ?_) (fun hb39 => ?_)
     ·
      replace hm := iteT hm hb39
      refine wc_keep [] (S' := []) rfl (wc_seq (wc_region (wP rfl (wl_nil (we_then (wc_ret (we_block_ret (we_then_ret (we_then_ret (we_block_ret (we_then_ret ?_)))))))))))
      have hE := (Option.some.inj hm).symm
      replace hE := link_inr hLu1 hE
      replace hE := link_inr hLj_1 hE
      replace hE := hE.symm
      subst hE
      refine ret_one (Hr := []) [] Tryz.results100 (res_tmp rfl) ⟨rfl, rfl, rfl⟩ (asK [] rfl) rfl rfl (.inl rfl)
     ·
      replace hm := iteF hm hb39
      refine wc_keep [3,0] (S' := [_,_]) rfl (wc_skip (we_block_normal (we_then (wc_region (wP rfl (wP rfl ?_))))))
      obtain ⟨hg11, hm⟩ := gd_some hm
      refine wl_as (d := 11) (v' := .int .i64 ((u1_3 + 1 : Nat) : Int)) (S' := [_,_,_]) rfl rfl (nat_add (a := u1_3) (b := 1) hg11) (wl_pure (S' := [_,_,_]) rfl rfl rfl rfl rfl (wl_nil ?_))
      have hE := (Option.some.inj hm).symm
      replace hE := link_inl hLu1 hE
      refine we_roundK (_, u1_3 + 1) (Nat.lt_succ_self _) hE [3,0] rfl (asK [] rfl) rfl
  ·
   replace hm := iteF hm hb9
   refine wc_keep [0] (S' := [_]) rfl (wc_exit (we_then_exit (we_then_exit (we_block_hit ?_))))
   have hE := (Option.some.inj hm).symm
   replace hE := link_inr hLu1 hE
   refine we_join () hE [0] rfl (asK [] rfl) rfl
 ·
  rintro _ hE
  try dsimp only
  have hm := link_inl hLj_1 hE
  try dsimp only at hm
  refine wc_seq (wc_region (wP rfl (wl_reck rfl rfl rfl (freshS_eq rfl) (rk_strLen rfl rfl tT_9) (wP rfl (wl_as (d := 42) (v' := .bool (decide (1 ≤ a0.size))) (S' := [_,_,_]) rfl rfl (natge (a := a0.size) (b := 1)) (wP rfl ?_))))))
  refine wl_split (d := 43) (S' := [_,_,_,_]) rfl rfl (fun hs43 => ?_) (fun hs43 => ?_)
  ·
   replace hm := iteT hm hs43
   refine wP rfl (wl_reck rfl rfl rfl (freshS_eq rfl) (rk_strLen rfl rfl tT_9) (wP rfl (wl_as (d := 46) (v' := .bool (decide (a0.size ≤ 24))) (S' := [_,_,_,_,_,_,_]) rfl rfl (natle (a := a0.size) (b := 24)) (wP rfl (wP rfl (wl_nil (we_then (wc_keep [2] (S' := [_]) rfl (wc_ret ?_)))))))))
   have hE := (Option.some.inj hm).symm
   replace hE := hE.symm
   subst hE
   refine ret_one (Hr := []) [] Tryz.results100 (res_tmp rfl) ⟨rfl, rfl, rfl⟩ (asK [] rfl) rfl rfl (.inl rfl)
  ·
   replace hm := iteF hm hs43
   refine wO rfl (wO rfl (wO rfl (wP rfl (wP rfl (wl_nil (we_then (wc_keep [2] (S' := [_]) rfl (wc_ret ?_))))))))
   have hE := (Option.some.inj hm).symm
   replace hE := hE.symm
   subst hE
   refine ret_one (Hr := []) [] Tryz.results100 (res_tmp rfl) ⟨rfl, rfl, rfl⟩ (asK [] rfl) rfl rfl (.inl rfl)
theorem w_ropewalkref01_Right_s (N : Nat) (a0 : Int) (a1 : Int) (a2 : ByteArray) (o0 : Bool) (hm : m_ropewalkref01_Right N a0 a1 a2 = some o0) : Spec Tryz.prog 60 [.agg #[.int .u8 a0, .int .i64 a1, .string a2]] [] [] (fun v Φr Hr => v = .bool o0 ∧ Φr = [] ∧ Hr = []) := by
 unfold m_ropewalkref01_Right at hm
 refine spec_of Tryz.func60 rfl Tryz.ntmps60 rfl (S := [_]) rfl (fun C => (wc_seq (wc_region (wB rfl (fun g1 => (wP rfl (wl_nil (we_then (wc_keep [1] (S' := [_]) rfl (wc_seq (wc_seq (wc_region (wF rfl tF_51_0 (wD 0 0 rfl tS_49 tA_49 rfl (wP rfl ?_)))))))))))))))
 refine wl_nil (we_then (wc_keep [5,1] (S' := [_,_]) rfl ?_))
 refine wc_cond rfl (fun hb5 => ?_) (fun hb5 => ?_)
 ·
  replace hm := iteT hm hb5
  refine wc_keep [1] (S' := [_]) rfl (wc_seq (wc_region (wF rfl tF_51_2 (wD 0 2 rfl tS_9 tA_9 rfl (wP rfl (wP rfl (wl_nil (we_then (wc_keep [2] (S' := [_]) rfl (wc_ret (we_then_ret ?_)))))))))))
  have hE := (Option.some.inj hm).symm
  replace hE := hE.symm
  subst hE
  refine ret_one (Hr := []) [] Tryz.results60 (res_tmp rfl) ⟨rfl, rfl, rfl⟩ (asK [] rfl) rfl rfl (.inl rfl)
 ·
  replace hm := iteF hm hb5
  refine wc_keep [1] (S' := [_]) rfl (wc_skip (we_then (wc_seq (wc_region (wF rfl tF_51_0 (wD 0 0 rfl tS_49 tA_49 rfl (wP rfl (wP rfl ?_))))))))
  refine wl_split (d := 12) (S' := [_,_,_,_]) rfl rfl (fun hs12 => ?_) (fun hs12 => ?_)
  ·
   replace hm := iteT hm hs12
   refine wF rfl tF_51_1 (wD 0 1 rfl tS_2 tA_2 rfl (wP rfl (wP rfl (wP rfl ?_))))
   refine wl_split (d := 17) (S' := [_,_,_,_,_,_,_,_,_]) rfl rfl (fun hs17 => ?_) (fun hs17 => ?_)
   ·
    replace hm := iteT hm hs17
    refine wF rfl tF_51_2 (wD 0 2 rfl tS_9 tA_9 rfl ?_)
    obtain ⟨v20, hc20, hm⟩ := bindO_some hm
    refine wC [] [0] rfl fn_100 rfl (w_ropewalkref01_Named_s N a2 _ hc20) (asK [] rfl) rfl (H' := [_]) rfl ?_
    rintro _ _ _ ⟨rfl, rfl, rfl⟩
    refine wP rfl (wP rfl (wl_nil (we_then (wc_keep [2] (S' := [_]) rfl (wc_ret ?_)))))
    have hE := (Option.some.inj hm).symm
    replace hE := hE.symm
    subst hE
    refine ret_one (Hr := []) [] Tryz.results60 (res_tmp rfl) ⟨rfl, rfl, rfl⟩ (asK [] rfl) rfl rfl (.inl rfl)
   ·
    replace hm := iteF hm hs17
    refine wO rfl (wO rfl (wO rfl (wP rfl (wP rfl (wl_nil (we_then (wc_keep [2] (S' := [_]) rfl (wc_ret ?_))))))))
    have hE := (Option.some.inj hm).symm
    replace hE := hE.symm
    subst hE
    refine ret_one (Hr := []) [] Tryz.results60 (res_tmp rfl) ⟨rfl, rfl, rfl⟩ (asK [] rfl) rfl rfl (.inl rfl)
  ·
   replace hm := iteF hm hs12
   refine wO rfl (wO rfl (wO rfl (wP rfl (wP rfl (wO rfl (wO rfl (wO rfl (wP rfl (wP rfl (wl_nil (we_then (wc_keep [2] (S' := [_]) rfl (wc_ret ?_)))))))))))))
   have hE := (Option.some.inj hm).symm
   replace hE := hE.symm
   subst hE
   refine ret_one (Hr := []) [] Tryz.results60 (res_tmp rfl) ⟨rfl, rfl, rfl⟩ (asK [] rfl) rfl rfl (.inl rfl)
theorem w_ropewalkref11_May_s (N : Nat) (a0 : Int) (qp0 : Option Addr) (qc1 : Nat) (l1 : List V) (o0 : Bool) (hm : m_ropewalkref11_May N a0 l1 = some o0) : Spec Tryz.prog 29 [.int .i64 a0, .slice qp0 l1.length qc1] [.sli 3 R_V qp0 qc1 l1] [] (fun v Φr Hr => v = .bool o0 ∧ Φr = [] ∧ Hr = []) := by
 unfold m_ropewalkref11_May at hm
 refine spec_of Tryz.func29 rfl Tryz.ntmps29 rfl (S := [_,_]) rfl (fun C => (wc_seq (wc_region (wP rfl (wl_nil (we_then (wc_keep [0,1] (S' := [_,_]) rfl (wc_seq (wc_seq ?_)))))))))
 obtain ⟨bj_1, hm, hLj_1⟩ := bindO_some hm
 refine wc_cut (σ := Bool) (fun j_1_16 => bj_1 = j_1_16) (fun j_1_16 => [(1, .slice qp0 l1.length qc1), (16, .bool j_1_16)]) (fun j_1_16 => [.sli 3 R_V qp0 qc1 l1]) (fun j_1_16 => []) ?_ ?_
 ·
  refine wc_region (wP rfl (wP rfl (wP rfl ?_)))
  refine wl_split (d := 8) (S' := [_,_,_,_]) rfl rfl (fun hs8 => ?_) (fun hs8 => ?_)
  ·
   replace hm := iteT hm hs8
   refine wO rfl (wO rfl (wP rfl (wP rfl (wO rfl (wO rfl (wO rfl (wP rfl (wl_nil ?_))))))))
   have hE := (Option.some.inj hm).symm
   refine we_join true hE [1,16] rfl (asK [0] rfl) rfl
  ·
   replace hm := iteF hm hs8
   refine wP rfl (wP rfl (wP rfl (wP rfl ?_)))
   refine wl_split (d := 12) (S' := [_,_,_,_,_,_,_,_]) rfl rfl (fun hs12 => ?_) (fun hs12 => ?_)
   ·
    replace hm := iteT hm hs12
    refine wO rfl (wO rfl (wO rfl (wP rfl (wl_nil ?_))))
    have hE := (Option.some.inj hm).symm
    refine we_join true hE [1,16] rfl (asK [0] rfl) rfl
   ·
    replace hm := iteF hm hs12
    refine wP rfl (wN rfl tE_25 (wP rfl (wl_as (d := 15) (v' := .bool (decide (6 < l1.length))) (S' := [_,_,_,_,_,_,_,_,_,_,_]) rfl rfl (natgt (a := l1.length) (b := 6)) (wP rfl (wl_nil ?_)))))
    have hE := (Option.some.inj hm).symm
    refine we_join (decide (6 < l1.length)) hE [1,16] rfl (asK [0] rfl) rfl
 ·
  rintro j_1_16 hE
  try dsimp only
  have hm := hLj_1
  rw [hE] at hm
  refine wc_cond rfl (fun hb16 => ?_) (fun hb16 => ?_)
  ·
   replace hm := iteT hm hb16
   refine wc_keep [] (S' := []) rfl (wc_seq (wc_region (wP rfl (wl_nil (we_then (wc_ret (we_then_ret ?_)))))))
   have hE := (Option.some.inj hm).symm
   replace hE := hE.symm
   subst hE
   refine ret_one (Hr := []) [] Tryz.results29 (res_tmp rfl) ⟨rfl, rfl, rfl⟩ (asK [] rfl) rfl rfl (.inl rfl)
  ·
   replace hm := iteF hm hb16
   refine wc_keep [1] (S' := [_]) rfl (wc_skip (we_then (wc_seq ?_)))
   obtain ⟨bj_2, hm, hLj_2⟩ := bindS_some hm
   refine wc_cut (σ := Unit) (fun _ => bj_2 = .inl ()) (fun _ => []) (fun _ => []) (fun _ => []) ?_ ?_
   ·
    refine wc_seq (wc_region (wP rfl (wl_nil (we_then (wc_block (wc_loop (σ := Nat × Nat) (fun (nu1, u1_5) => iter (m_ropewalkref11_May_L1 N l1) nu1 u1_5 = some bj_2) (fun (nu1, u1_5) => nu1) (fun (nu1, u1_5) => [(5, .int .i64 ((u1_5 : Nat) : Int)), (1, .slice qp0 l1.length qc1)]) (fun (nu1, u1_5) => [.sli 3 R_V qp0 qc1 l1]) (fun (nu1, u1_5) => []) (N, 0) hm [5,1] rfl (asK [0] rfl) rfl (fun s_ hm => ?_)))))))
    obtain ⟨nu1, u1_5⟩ := s_
    try dsimp only at hm ⊢
    obtain ⟨mu1, bu1, hnu1, hq, hLu1⟩ := iter_some hm
    clear hm
    subst hnu1
    replace hm := hq
    clear hq
    unfold m_ropewalkref11_May_L1 at hm
    try dsimp only at hm
    refine wc_seq (wc_seq (wc_region (wP rfl (wP rfl (wN rfl tE_25 (wP rfl (wl_as (d := 20) (v' := .bool (decide (u1_5 < l1.length))) (S' := [_,_,_,_,_]) rfl rfl (natlt (a := u1_5) (b := l1.length)) (wl_nil (we_then (wc_keep [20,5,1] (S' := [_,_,_]) rfl ?_))))))))))
    refine wc_cond rfl (fun hb20 => ?_) (fun hb20 => ?_)
    ·
     replace hm := iteT hm hb20
     refine wc_keep [5,1] (S' := [_,_]) rfl (wc_skip (we_then (wc_seq (wc_block (wc_seq (wc_region (wP rfl (wP rfl ?_))))))))
     obtain ⟨x25, hx25, hm⟩ := bindO_some hm
     refine wl_indexA 0 u1_5 rfl rfl rfl (freshS_eq rfl) rfl rfl rfl rfl rfl hx25 tE_25 tS_51 (fun b25 q25 cs25 hlx25 => (wl_open R_V_opens 1 rfl (fun r25 er25 _ => ?_)))
     subst er25
     refine wl_load 0 0 rfl rfl rfl (freshS_eq rfl) rfl rfl rfl (cs := [_,_,_]) rfl tS_51 tA_51 rfl rfl ?_
     obtain ⟨v27, hc27, hm⟩ := bindO_some hm
     refine wC [] [] rfl fn_60 rfl (w_ropewalkref01_Right_s N x25.k x25.n x25.s _ hc27) (asK [] rfl) rfl (H' := []) rfl ?_
     rintro _ _ _ ⟨rfl, rfl, rfl⟩
     refine wP rfl (wl_nil (we_then (wc_keep [28,5,1] (S' := [_,_,_]) rfl ?_)))
     refine wc_cond rfl (fun hb28 => ?_) (fun hb28 => ?_)
     ·
      replace hm := iteT hm hb28
      refine wc_keep [] (S' := []) rfl (wc_seq (wc_region (wP rfl (wl_nil (we_then (wc_ret (we_block_ret (we_then_ret (we_then_ret (we_block_ret (we_then_ret ?_)))))))))))
      have hE := (Option.some.inj hm).symm
      replace hE := link_inr hLu1 hE
      replace hE := link_inr hLj_2 hE
      replace hE := hE.symm
      subst hE
      refine ret_one (Hr := []) [] Tryz.results29 (res_tmp rfl) ⟨rfl, rfl, rfl⟩ (asK [] rfl) rfl rfl (.inl rfl)
     ·
      replace hm := iteF hm hb28
      refine wc_keep [5,1] (S' := [_,_]) rfl (wc_skip (we_block_normal (we_then (wc_region (wP rfl (wP rfl ?_))))))
      obtain ⟨hg22, hm⟩ := gd_some hm
      refine wl_as (d := 22) (v' := .int .i64 ((u1_5 + 1 : Nat) : Int)) (S' := [_,_,_]) rfl rfl (nat_add (a := u1_5) (b := 1) hg22) (wl_pure (S' := [_,_,_]) rfl rfl rfl rfl rfl (wl_nil ?_))
      have hE := (Option.some.inj hm).symm
      replace hE := link_inl hLu1 hE
      refine we_roundK (_, u1_5 + 1) (Nat.lt_succ_self _) hE [5,1] rfl (asK [2] rfl) rfl
    ·
     replace hm := iteF hm hb20
     refine wc_keep [] (S' := []) rfl (wc_exit (we_then_exit (we_then_exit (we_block_hit ?_))))
     have hE := (Option.some.inj hm).symm
     replace hE := link_inr hLu1 hE
     refine we_join () hE [] rfl (asK [] rfl) rfl
   ·
    rintro _ hE
    try dsimp only
    have hm := link_inl hLj_2 hE
    try dsimp only at hm
    refine wc_seq (wc_region (wP rfl (wl_nil (we_then (wc_ret ?_)))))
    have hE := (Option.some.inj hm).symm
    replace hE := hE.symm
    subst hE
    refine ret_one (Hr := []) [] Tryz.results29 (res_tmp rfl) ⟨rfl, rfl, rfl⟩ (asK [] rfl) rfl rfl (.inl rfl)
theorem w_ropewalkkit_SameValues_s (N : Nat) (qp0 : Option Addr) (qc1 : Nat) (l0 : List V) (qp2 : Option Addr) (qc3 : Nat) (l1 : List V) (o0 : Bool) (hm : m_ropewalkkit_SameValues N l0 l1 = some o0) : Spec Tryz.prog 61 [.slice qp0 l0.length qc1, .slice qp2 l1.length qc3] [.sli 3 R_V qp0 qc1 l0, .sli 3 R_V qp2 qc3 l1] [] (fun v Φr Hr => v = .bool o0 ∧ Φr = [] ∧ Hr = []) := by
 unfold m_ropewalkkit_SameValues at hm
 refine spec_of Tryz.func61 rfl Tryz.ntmps61 rfl (S := [_,_]) rfl (fun C => (wc_seq (wc_region (wP rfl (wl_nil (we_then (wc_keep [0,1] (S' := [_,_]) rfl (wc_seq (wc_seq (wc_region (wP rfl (wN rfl tE_25 (wP rfl (wN rfl tE_25 ?_))))))))))))))
 refine wP rfl (wl_as (d := 10) (v' := .bool (l0.length != l1.length)) (S' := [_,_,_,_,_,_]) rfl rfl (natne (a := l0.length) (b := l1.length)) (wl_nil (we_then (wc_keep [10,0,1] (S' := [_,_,_]) rfl ?_))))
 refine wc_cond rfl (fun hb10 => ?_) (fun hb10 => ?_)
 ·
  replace hm := iteT hm hb10
  refine wc_keep [] (S' := []) rfl (wc_seq (wc_region (wP rfl (wl_nil (we_then (wc_ret (we_then_ret ?_)))))))
  have hE := (Option.some.inj hm).symm
  replace hE := hE.symm
  subst hE
  refine ret_one (Hr := []) [] Tryz.results61 (res_tmp rfl) ⟨rfl, rfl, rfl⟩ (asK [] rfl) rfl rfl (.inl rfl)
 ·
  replace hm := iteF hm hb10
  refine wc_keep [0,1] (S' := [_,_]) rfl (wc_skip (we_then (wc_seq ?_)))
  obtain ⟨bj_1, hm, hLj_1⟩ := bindS_some hm
  refine wc_cut (σ := Unit) (fun _ => bj_1 = .inl ()) (fun _ => []) (fun _ => []) (fun _ => []) ?_ ?_
  ·
   refine wc_seq (wc_region (wP rfl (wl_nil (we_then (wc_block (wc_loop (σ := Nat × Nat) (fun (nu1, u1_5) => iter (m_ropewalkkit_SameValues_L1 N l0 l1) nu1 u1_5 = some bj_1) (fun (nu1, u1_5) => nu1) (fun (nu1, u1_5) => [(5, .int .i64 ((u1_5 : Nat) : Int)), (0, .slice qp0 l0.length qc1), (1, .slice qp2 l1.length qc3)]) (fun (nu1, u1_5) => [.sli 3 R_V qp0 qc1 l0, .sli 3 R_V qp2 qc3 l1]) (fun (nu1, u1_5) => []) (N, 0) hm [5,0,1] rfl (asK [0,1] rfl) rfl (fun s_ hm => ?_)))))))
   obtain ⟨nu1, u1_5⟩ := s_
   try dsimp only at hm ⊢
   obtain ⟨mu1, bu1, hnu1, hq, hLu1⟩ := iter_some hm
   clear hm
   subst hnu1
   replace hm := hq
   clear hq
   unfold m_ropewalkkit_SameValues_L1 at hm
   try dsimp only at hm
   refine wc_seq (wc_seq (wc_region (wP rfl (wP rfl (wN rfl tE_25 (wP rfl (wl_as (d := 14) (v' := .bool (decide (u1_5 < l0.length))) (S' := [_,_,_,_,_,_]) rfl rfl (natlt (a := u1_5) (b := l0.length)) (wl_nil (we_then (wc_keep [14,5,0,1] (S' := [_,_,_,_]) rfl ?_))))))))))
   refine wc_cond rfl (fun hb14 => ?_) (fun hb14 => ?_)
   ·
    replace hm := iteT hm hb14
    refine wc_keep [5,0,1] (S' := [_,_,_]) rfl (wc_skip (we_then (wc_seq (wc_block (wc_seq ?_)))))
    obtain ⟨x19, hx19, hm⟩ := bindO_some hm
    obtain ⟨x23, hx23, hm⟩ := bindO_some hm
    refine wc_draw [0,1,2,3,4,5,6,7,8] rfl rfl (fun hok => (xP hok 0 rfl (xP hok 1 rfl (wx_indexA hok 2 0 u1_5 rfl rfl rfl (freshS_eq rfl) rfl rfl rfl rfl rfl rfl hx19 tE_25 tS_51 (fun b19 q19 cs19 hlx19 => (wx_openR R_V_opens 1 rfl (fun r19 er19 _ => ?_)))))))
    subst er19
    refine wx_load hok 3 0 0 rfl rfl rfl (freshS_eq rfl) rfl rfl rfl rfl (cs := [_,_,_]) rfl tS_51 tA_51 rfl rfl (xP hok 4 rfl (xP hok 5 rfl (wx_indexA hok 6 3 u1_5 rfl rfl rfl (freshS_eq rfl) rfl rfl rfl rfl rfl rfl hx23 tE_25 tS_51 (fun b23 q23 cs23 hlx23 => (wx_openR R_V_opens 1 rfl (fun r23 er23 _ => ?_))))))
    subst er23
    refine wx_load hok 7 0 0 rfl rfl rfl (freshS_eq rfl) rfl rfl rfl rfl (cs := [_,_,_]) rfl tS_51 tA_51 rfl rfl (wx_bin hok 8 rfl rfl rfl (freshS_eq rfl) rfl rfl rfl rfl (neqV _ _ x19 x23) (wx_done hok rfl (we_then (wc_keep [25,5,0,1] (S' := [_,_,_,_]) rfl ?_))))
    refine wc_cond rfl (fun hb25 => ?_) (fun hb25 => ?_)
    ·
     replace hm := iteT hm hb25
     refine wc_keep [] (S' := []) rfl (wc_seq (wc_region (wP rfl (wl_nil (we_then (wc_ret (we_block_ret (we_then_ret (we_then_ret (we_block_ret (we_then_ret ?_)))))))))))
     have hE := (Option.some.inj hm).symm
     replace hE := link_inr hLu1 hE
     replace hE := link_inr hLj_1 hE
     replace hE := hE.symm
     subst hE
     refine ret_one (Hr := []) [] Tryz.results61 (res_tmp rfl) ⟨rfl, rfl, rfl⟩ (asK [] rfl) rfl rfl (.inl rfl)
    ·
     replace hm := iteF hm hb25
     refine wc_keep [5,0,1] (S' := [_,_,_]) rfl (wc_skip (we_block_normal (we_then (wc_region (wP rfl (wP rfl ?_))))))
     obtain ⟨hg16, hm⟩ := gd_some hm
     refine wl_as (d := 16) (v' := .int .i64 ((u1_5 + 1 : Nat) : Int)) (S' := [_,_,_,_]) rfl rfl (nat_add (a := u1_5) (b := 1) hg16) (wl_pure (S' := [_,_,_,_]) rfl rfl rfl rfl rfl (wl_nil ?_))
     have hE := (Option.some.inj hm).symm
     replace hE := link_inl hLu1 hE
     refine we_roundK (_, u1_5 + 1) (Nat.lt_succ_self _) hE [5,0,1] rfl (asK [4,5] rfl) rfl
   ·
    replace hm := iteF hm hb14
    refine wc_keep [] (S' := []) rfl (wc_exit (we_then_exit (we_then_exit (we_block_hit ?_))))
    have hE := (Option.some.inj hm).symm
    replace hE := link_inr hLu1 hE
    refine we_join () hE [] rfl (asK [] rfl) rfl
  ·
   rintro _ hE
   try dsimp only
   have hm := link_inl hLj_1 hE
   try dsimp only at hm
   refine wc_seq (wc_region (wP rfl (wl_nil (we_then (wc_ret ?_)))))
   have hE := (Option.some.inj hm).symm
   replace hE := hE.symm
   subst hE
   refine ret_one (Hr := []) [] Tryz.results61 (res_tmp rfl) ⟨rfl, rfl, rfl⟩ (asK [] rfl) rfl rfl (.inl rfl)
theorem w_ropewalkref11_place_s (N : Nat) (qp0 : Option Addr) (qc1 : Nat) (l0 : List FactD) (a1 : Int) (qp2 : Option Addr) (qc3 : Nat) (l2 : List V) (o0 : Int) (hm : m_ropewalkref11_place N l0 a1 l2 = some o0) : Spec Tryz.prog 30 [.slice qp0 l0.length qc1, .int .i64 a1, .slice qp2 l2.length qc3] [.sli 3 R_FactD qp0 qc1 l0, .sli 3 R_V qp2 qc3 l2] [] (fun v Φr Hr => v = .int .i64 o0 ∧ Φr = [] ∧ Hr = []) := by
 unfold m_ropewalkref11_place at hm
 refine spec_of Tryz.func30 rfl Tryz.ntmps30 rfl (S := [_,_,_]) rfl (fun C => (wc_seq (wc_region (wP rfl (wl_nil (we_then (wc_keep [0,1,2] (S' := [_,_,_]) rfl (wc_seq ?_))))))))
 obtain ⟨bj_1, hm, hLj_1⟩ := bindS_some hm
 refine wc_cut (σ := Unit) (fun _ => bj_1 = .inl ()) (fun _ => []) (fun _ => []) (fun _ => []) ?_ ?_
 ·
  refine wc_seq (wc_region (wP rfl (wl_nil (we_then (wc_block (wc_loop (σ := Nat × Nat) (fun (nu1, u1_7) => iter (m_ropewalkref11_place_L1 N l0 a1 l2) nu1 u1_7 = some bj_1) (fun (nu1, u1_7) => nu1) (fun (nu1, u1_7) => [(7, .int .i64 ((u1_7 : Nat) : Int)), (0, .slice qp0 l0.length qc1), (1, .int .i64 a1), (2, .slice qp2 l2.length qc3)]) (fun (nu1, u1_7) => [.sli 3 R_FactD qp0 qc1 l0, .sli 3 R_V qp2 qc3 l2]) (fun (nu1, u1_7) => []) (N, 0) hm [7,0,1,2] rfl (asK [0,1] rfl) rfl (fun s_ hm => ?_)))))))
  obtain ⟨nu1, u1_7⟩ := s_
  try dsimp only at hm ⊢
  obtain ⟨mu1, bu1, hnu1, hq, hLu1⟩ := iter_some hm
  clear hm
  subst hnu1
  replace hm := hq
  clear hq
  unfold m_ropewalkref11_place_L1 at hm
  try dsimp only at hm
  refine wc_seq (wc_seq (wc_region (wP rfl (wP rfl (wN rfl tE_22 (wP rfl (wl_as (d := 11) (v' := .bool (decide (u1_7 < l0.length))) (S' := [_,_,_,_,_,_,_]) rfl rfl (natlt (a := u1_7) (b := l0.length)) (wl_nil (we_then (wc_keep [11,7,0,1,2] (S' := [_,_,_,_,_]) rfl ?_))))))))))
  refine wc_cond rfl (fun hb11 => ?_) (fun hb11 => ?_)
  ·
   replace hm := iteT hm hb11
   refine wc_keep [7,0,1,2] (S' := [_,_,_,_]) rfl (wc_skip (we_then (wc_seq (wc_block (wc_seq ?_)))))
   obtain ⟨bj_2, hm, hLj_2⟩ := bindO_some hm
   refine wc_cut (σ := Bool) (fun j_2_29 => bj_2 = j_2_29) (fun j_2_29 => [(7, .int .i64 ((u1_7 : Nat) : Int)), (0, .slice qp0 l0.length qc1), (1, .int .i64 a1), (2, .slice qp2 l2.length qc3), (29, .bool j_2_29)]) (fun j_2_29 => [.sli 3 R_FactD qp0 qc1 l0, .sli 3 R_V qp2 qc3 l2]) (fun j_2_29 => []) ?_ ?_
   ·
    refine wc_region (wP rfl (wP rfl ?_))
    obtain ⟨x16, hx16, hm⟩ := bindO_some hm
    refine wl_indexA 0 u1_7 rfl rfl rfl (freshS_eq rfl) rfl rfl rfl rfl rfl hx16 tE_22 tS_27 (fun b16 q16 cs16 hlx16 => (wl_open R_FactD_opens 1 rfl (fun r16 er16 _ => ?_)))
    subst er16
    refine wF rfl tF_27_1 (wl_load 1 1 rfl rfl rfl (freshS_eq rfl) rfl rfl rfl (cs := [_]) rfl tS_3 tA_3 rfl rfl (wP rfl (wP rfl (wP rfl ?_))))
    refine wl_split (d := 21) (S' := [_,_,_,_,_,_,_,_,_,_,_]) rfl rfl (fun hs21 => ?_) (fun hs21 => ?_)
    ·
     replace hm := iteT hm hs21
     refine wP rfl (wP rfl ?_)
     obtain ⟨x24, hx24, hm⟩ := bindO_some hm
     refine wl_indexA 3 u1_7 rfl rfl rfl (freshS_eq rfl) rfl rfl rfl rfl rfl hx24 tE_22 tS_27 (fun b24 q24 cs24 hlx24 => (wl_open R_FactD_opens 1 rfl (fun r24 er24 _ => ?_)))
     subst er24
     refine wF rfl tF_27_2 (wl_load 1 2 rfl rfl rfl (freshS_eq rfl) rfl rfl rfl (cs := [_]) rfl tS_25 tA_25 rfl rfl (wP rfl ?_))
     obtain ⟨v28, hc28, hm⟩ := bindO_some hm
     refine wC [] [] rfl fn_61 rfl (w_ropewalkkit_SameValues_s N r24.1 r24.2 x24.args qp2 qc3 l2 _ hc28) (asK [0,7] rfl) rfl (H' := []) rfl ?_
     rintro _ _ _ ⟨rfl, rfl, rfl⟩
     refine wP rfl (wl_nil ?_)
     have hE := (Option.some.inj hm).symm
     refine we_join v28 hE [7,0,1,2,29] rfl (asK [6,7] rfl) rfl
    ·
     replace hm := iteF hm hs21
     refine wO rfl (wO rfl (wO rfl (wO rfl (wO rfl (wO rfl (wO rfl (wP rfl (wl_nil ?_))))))))
     have hE := (Option.some.inj hm).symm
     refine we_join false hE [7,0,1,2,29] rfl (asK [3,4] rfl) rfl
   ·
    rintro j_2_29 hE
    try dsimp only
    have hm := hLj_2
    rw [hE] at hm
    refine wc_cond rfl (fun hb29 => ?_) (fun hb29 => ?_)
    ·
     replace hm := iteT hm hb29
     refine wc_keep [7] (S' := [_]) rfl (wc_seq (wc_region (wP rfl (wP rfl (wl_nil (we_then (wc_keep [6] (S' := [_]) rfl (wc_ret (we_block_ret (we_then_ret (we_then_ret (we_block_ret (we_then_ret ?_)))))))))))))
     have hE := (Option.some.inj hm).symm
     replace hE := link_inr hLu1 hE
     replace hE := link_inr hLj_1 hE
     replace hE := hE.symm
     subst hE
     refine ret_one (Hr := []) [] Tryz.results30 (res_tmp rfl) ⟨rfl, rfl, rfl⟩ (asK [] rfl) rfl rfl (.inl rfl)
    ·
     replace hm := iteF hm hb29
     refine wc_keep [7,0,1,2] (S' := [_,_,_,_]) rfl (wc_skip (we_block_normal (we_then (wc_region (wP rfl (wP rfl ?_))))))
     obtain ⟨hg13, hm⟩ := gd_some hm
     refine wl_as (d := 13) (v' := .int .i64 ((u1_7 + 1 : Nat) : Int)) (S' := [_,_,_,_,_]) rfl rfl (nat_add (a := u1_7) (b := 1) hg13) (wl_pure (S' := [_,_,_,_,_]) rfl rfl rfl rfl rfl (wl_nil ?_))
     have hE := (Option.some.inj hm).symm
     replace hE := link_inl hLu1 hE
     refine we_roundK (_, u1_7 + 1) (Nat.lt_succ_self _) hE [7,0,1,2] rfl (asK [0,1] rfl) rfl
  ·
   replace hm := iteF hm hb11
   refine wc_keep [] (S' := []) rfl (wc_exit (we_then_exit (we_then_exit (we_block_hit ?_))))
   have hE := (Option.some.inj hm).symm
   replace hE := link_inr hLu1 hE
   refine we_join () hE [] rfl (asK [] rfl) rfl
 ·
  rintro _ hE
  try dsimp only
  have hm := link_inl hLj_1 hE
  try dsimp only at hm
  refine wc_seq (wc_region (wP rfl (wl_nil (we_then (wc_ret ?_)))))
  have hE := (Option.some.inj hm).symm
  replace hE := hE.symm
  subst hE
  refine ret_one (Hr := []) [] Tryz.results30 (res_tmp rfl) ⟨rfl, rfl, rfl⟩ (asK [] rfl) rfl rfl (.inl rfl)
theorem w_ropewalkkit_CopyValues_s (N : Nat) (qp0 : Option Addr) (qc1 : Nat) (l0 : List V)  (hm : m_ropewalkkit_CopyValues N l0 = some ()) : Spec Tryz.prog 63 [.slice qp0 l0.length qc1] [.sli 3 R_V qp0 qc1 l0] [] (fun v Φr Hr => ∃ (o0 : Option Addr) (o1 : Nat), v = .slice o0 (l0).length o1 ∧ Φr = [] ∧ Hr = [.own 51 3 R_V (.slice o0 (l0).length o1) l0]) := by
 unfold m_ropewalkkit_CopyValues at hm
 refine spec_of Tryz.func63 rfl Tryz.ntmps63 rfl (S := [_]) rfl (fun C => (wc_seq (wc_region (wP rfl (wl_nil (we_then (wc_keep [0] (S' := [_]) rfl (wc_seq (wc_region (wP rfl (wl_nil (we_then (wc_seq (wc_region ?_))))))))))))))
 refine wP rfl (wP rfl (wl_rowNil 51 3 R_V ?_))
 obtain ⟨hg6, hm⟩ := gd_some hm
 refine wl_append 0 0 rfl rfl rfl (freshS_eq rfl) rfl rfl rfl rfl rfl tE_25 tR_51 rfl rfl (Nat.le_trans hg6 (by decide)) (Nat.le_trans (Nat.mul_le_mul_right _ hg6) (by decide)) (H2 := fun p6 c6 => [.own 51 3 R_V (.slice p6 (l0).length c6) l0]) (fun _ _ => rfl) (fun p6 c6 => (wP rfl (wl_nil (we_then (wc_keep [2] (S' := [_]) rfl (wc_ret ?_))))))
 have hE := (Option.some.inj hm).symm
 refine ret_one (Hr := [_]) [0] Tryz.results63 (res_tmp rfl) ⟨p6, c6, rfl, rfl, rfl⟩ (asK [] rfl) rfl rfl (.inl rfl)
theorem w_ropewalkkit_CopyFact_s (N : Nat) (a0 : Int) (a1 : Int) (qp0 : Option Addr) (qc1 : Nat) (l2 : List V)  (hm : m_ropewalkkit_CopyFact N a0 a1 l2 = some ()) : Spec Tryz.prog 49 [.agg #[.int .i64 a0, .int .i64 a1, .slice qp0 l2.length qc1]] [.sli 3 R_V qp0 qc1 l2] [] (fun v Φr Hr => ∃ (o0 : Option Addr) (o1 : Nat), v = .agg #[.int .i64 a0, .int .i64 a1, .slice o0 (l2).length o1] ∧ Φr = [] ∧ Hr = [.own 51 3 R_V (.slice o0 (l2).length o1) l2]) := by
 unfold m_ropewalkkit_CopyFact at hm
 refine spec_of Tryz.func49 rfl Tryz.ntmps49 rfl (S := [_]) rfl (fun C => (wc_seq (wc_region (wB rfl (fun g1 => (wl_alloc rfl rfl rfl (freshS_eq rfl) rfl tZ_27 rfl (fun g2 => (wl_nil (we_then (wc_keep [2,1] (S' := [_,_]) rfl (wc_seq (wc_region (wF rfl tF_27_2 (wD 1 2 rfl tS_25 tA_25 rfl ?_))))))))))))))
 obtain ⟨_, hc5, hm⟩ := bindO_some hm
 try dsimp only at hm
 refine wC [] [0,1] rfl fn_63 rfl (w_ropewalkkit_CopyValues_s N qp0 qc1 l2 hc5) (asK [0] rfl) rfl (H' := [_,_]) rfl ?_
 rintro _ _ _ ⟨p5_0, c5_1, rfl, rfl, rfl⟩
 refine wF rfl tF_27_2 (wS 2 2 rfl tS_25 (all' := [_,_,_]) rfl (H' := [_,_,_]) rfl (wl_nil (we_then (wc_keep [2,1] (S' := [_,_]) rfl (wc_seq (wc_region (wl_loadH 2 0 rfl rfl rfl (freshS_eq rfl) rfl rfl rfl (cs := [_,_,_]) rfl tS_27 tA_27 rfl rfl (wS 1 0 rfl tS_27 (all' := [_,_,_]) rfl (H' := [_,_,_]) rfl (wl_nil (we_then (wc_keep [2] (S' := [_]) rfl (wc_ret ?_))))))))))))
 have hE := (Option.some.inj hm).symm
 refine ret_one (Hr := [_]) [0] Tryz.results49 (res_cell 1 rfl rfl tS_27 tA_27 rfl rfl) ⟨p5_0, c5_1, rfl, rfl, rfl⟩ (asK [] rfl) rfl rfl (.inl rfl)
theorem w_ropewalkkit_CopyFacts_s (N : Nat) (qp0 : Option Addr) (qc1 : Nat) (l0 : List FactD) (o2 : List FactD) (hm : m_ropewalkkit_CopyFacts N l0 = some o2) : Spec Tryz.prog 19 [.slice qp0 l0.length qc1] [.sli 3 R_FactD qp0 qc1 l0] [] (fun v Φr Hr => ∃ (o0 : Option Addr) (o1 : Nat) (o3 : Nat), v = .slice o0 o3 o1 ∧ Φr = [] ∧ Hr = [treeF T_FactD 27 3 (.slice o0 o3 o1) o2]) := by
 unfold m_ropewalkkit_CopyFacts at hm
 refine spec_of Tryz.func19 rfl Tryz.ntmps19 rfl (S := [_]) rfl (fun C => (wc_seq (wc_region (wP rfl (wl_nil (we_then (wc_keep [0] (S' := [_]) rfl (wc_seq (wc_region (wP rfl (wl_nil (we_then (wc_seq ?_)))))))))))))
 obtain ⟨bj_1, hm, hLj_1⟩ := bindO_some hm
 refine wc_cut (σ := (List FactD) × (Option Addr) × Nat × Nat) (fun (j_1_3_l, j_1_3_p, j_1_3_c, j_1_3_n) => bj_1 = j_1_3_l) (fun (j_1_3_l, j_1_3_p, j_1_3_c, j_1_3_n) => [(3, .slice j_1_3_p j_1_3_n j_1_3_c)]) (fun (j_1_3_l, j_1_3_p, j_1_3_c, j_1_3_n) => []) (fun (j_1_3_l, j_1_3_p, j_1_3_c, j_1_3_n) => [treeF T_FactD 27 3 (.slice j_1_3_p j_1_3_n j_1_3_c) j_1_3_l]) ?_ ?_
 ·
  refine wc_seq (wc_region (wP rfl (wl_nil (we_then (wc_block (wc_sh [treeF T_FactD 27 3 (.slice none 0 0) []] (fun _ h => h.treeNil T_FactD 27 3) (wc_loop (σ := Nat × Nat × (List FactD) × (Option Addr) × Nat × Nat) (fun (nu1, u1_4, u1_3_l, u1_3_p, u1_3_c, u1_3_n) => iter (m_ropewalkkit_CopyFacts_L1 N l0) nu1 (u1_4, u1_3_l) = some bj_1) (fun (nu1, u1_4, u1_3_l, u1_3_p, u1_3_c, u1_3_n) => nu1) (fun (nu1, u1_4, u1_3_l, u1_3_p, u1_3_c, u1_3_n) => [(4, .int .i64 ((u1_4 : Nat) : Int)), (3, .slice u1_3_p u1_3_n u1_3_c), (0, .slice qp0 l0.length qc1)]) (fun (nu1, u1_4, u1_3_l, u1_3_p, u1_3_c, u1_3_n) => [.sli 3 R_FactD qp0 qc1 l0]) (fun (nu1, u1_4, u1_3_l, u1_3_p, u1_3_c, u1_3_n) => [treeF T_FactD 27 3 (.slice u1_3_p u1_3_n u1_3_c) u1_3_l]) (N, 0,[], none, 0,0) hm [4,3,0] rfl (asK [0] rfl) rfl (fun s_ hm => ?_))))))))
  obtain ⟨nu1, u1_4, u1_3_l, u1_3_p, u1_3_c, u1_3_n⟩ := s_
  try dsimp only at hm ⊢
  obtain ⟨mu1, bu1, hnu1, hq, hLu1⟩ := iter_some hm
  clear hm
  subst hnu1
  replace hm := hq
  clear hq
  unfold m_ropewalkkit_CopyFacts_L1 at hm
  try dsimp only at hm
  refine wc_seq (wc_seq (wc_region (wP rfl (wP rfl (wN rfl tE_22 (wP rfl (wl_as (d := 9) (v' := .bool (decide (u1_4 < l0.length))) (S' := [_,_,_,_,_,_]) rfl rfl (natlt (a := u1_4) (b := l0.length)) (wl_nil (we_then (wc_keep [9,4,3,0] (S' := [_,_,_,_]) rfl ?_))))))))))
  refine wc_cond rfl (fun hb9 => ?_) (fun hb9 => ?_)
  ·
   replace hm := iteT hm hb9
   refine wc_keep [4,3,0] (S' := [_,_,_]) rfl (wc_skip (we_then (wc_seq (wc_block (wc_seq (wc_region (wP rfl (wP rfl ?_))))))))
   obtain ⟨x14, hx14, hm⟩ := bindO_some hm
   refine wl_indexA 0 u1_4 rfl rfl rfl (freshS_eq rfl) rfl rfl rfl rfl rfl hx14 tE_22 tS_27 (fun b14 q14 cs14 hlx14 => (wl_open R_FactD_opens 1 rfl (fun r14 er14 _ => ?_)))
   subst er14
   refine wl_load 1 0 rfl rfl rfl (freshS_eq rfl) rfl rfl rfl (cs := [_,_,_]) rfl tS_27 tA_27 rfl rfl ?_
   obtain ⟨_, hc16, hm⟩ := bindO_some hm
   try dsimp only at hm
   refine wC [] [0] rfl fn_49 rfl (w_ropewalkkit_CopyFact_s N x14.id x14.ty r14.1 r14.2 x14.args hc16) (asK [0] rfl) rfl (H' := [_]) rfl ?_
   rintro _ _ _ ⟨p16_0, c16_1, rfl, rfl, rfl⟩
   refine wl_alloc rfl rfl rfl (freshS_eq rfl) rfl tZ_27 rfl (fun g5 => (wS 0 0 rfl tS_27 (all' := [_,_,_]) rfl (H' := [_,_,_]) rfl (wl_nil (we_then (wc_keep [5,4,3,0] (S' := [_,_,_,_]) rfl (wc_region (wP rfl (wl_loadH 0 0 rfl rfl rfl (freshS_eq rfl) rfl rfl rfl (cs := [_,_,_]) rfl tS_27 tA_27 rfl rfl (wl_buildSlice rfl rfl rfl (freshS_eq rfl) rfl tE_22 tS_27 tZ_27 rfl (zs := [.int .i64 0, .int .i64 0, .slice none 0 0]) (by kernel_rfl) rfl (out := [_,_,_]) rfl (fun g19 => (wl_treeLen 3 rfl (fun hzt19 _ => ?_))))))))))))
   subst hzt19
   refine wl_ownLen 2 rfl (fun hz20 _ => (wl_at 1 (v' := .agg #[.int .i64 (x14.id), .int .i64 (x14.ty), .slice p16_0 x14.args.length c16_1]) rfl (by rw [hz20]) (wl_hAs 0 (φ' := .blk g19 [.int .i64 (x14.id), .int .i64 (x14.ty), .slice p16_0 x14.args.length c16_1] 27) rfl (by rw [hz20]) (H' := [_,_,_,_]) rfl (wl_hAs 1 (φ' := .blk g5 [.int .i64 (x14.id), .int .i64 (x14.ty), .slice p16_0 x14.args.length c16_1] 27) rfl (by rw [hz20]) (H' := [_,_,_,_]) rfl (wl_hAs 2 (φ' := .own 51 3 R_V (.slice p16_0 x14.args.length c16_1) x14.args) rfl (by rw [hz20]) (H' := [_,_,_,_]) rfl (wl_treeOut 3 rfl (fun zz20 hzz20 => ?_)))))))
   obtain ⟨hg20, hm⟩ := gd_some hm
   have hzs12 : List.map (fun x : FactD × (Option Addr × Nat) => x.1) (zz20 ++ [(x14, (p16_0, c16_1))]) = u1_3_l ++ [x14] := pair_app hzz20 (us := [x14]) rfl
   have hgl20 : zz20.length + ([(x14, (p16_0, c16_1))] : List (FactD × (Option Addr × Nat))).length ≤ 3518437208883 := by rw [pair_len hzz20]; exact hg20
   refine wl_appendH (R := T_FactD.pair) ([(x14, (p16_0, c16_1))]) 4 1 rfl rfl rfl (freshS_eq rfl) rfl rfl rfl rfl rfl (fun F w hφ => ⟨[.int .i64 (x14.id), .int .i64 (x14.ty), .slice p16_0 x14.args.length c16_1],[], rfl, rfl, rfl, rfl⟩) tE_22 tR_27 rfl rfl (Nat.le_trans hgl20 (by decide)) (Nat.le_trans (Nat.mul_le_mul_right _ hgl20) (by decide)) (H2 := fun p20 c20 => [_,_,_,_, .own 27 3 T_FactD.pair (.slice p20 ((zz20 ++ [(x14, (p16_0, c16_1))]).length) c20) (zz20 ++ [(x14, (p16_0, c16_1))])]) (fun _ _ => rfl) (fun p20 c20 => (wl_drop 1 rfl (H' := [_,_,_,_]) rfl (wl_as (d := 20) (v' := .slice p20 ((u1_3_l ++ [x14]).length) c20) (S' := [_,_,_,_,_,_,_]) rfl rfl (by rw [pair_len hzs12]) (wl_hAs 3 (φ' := .own 27 3 T_FactD.pair (.slice p20 ((u1_3_l ++ [x14]).length) c20) (zz20 ++ [(x14, (p16_0, c16_1))])) rfl (by rw [pair_len hzs12]) (H' := [_,_,_,_]) rfl (wl_pick [2,0,1,3] rfl (H' := [_,_,_,_]) rfl (wl_sh [bagF T_FactD (zz20 ++ [(x14, (p16_0, c16_1))]) none, _,_] (fun _ h => Holds.bagPush (T := T_FactD) (x := x14) (r := (p16_0, c16_1)) (zs := zz20) (H := [_,_,_]) h 0 rfl) (wl_sh [_, treeF T_FactD 27 3 (.slice p20 ((u1_3_l ++ [x14]).length) c20) (u1_3_l ++ [x14])] (fun _ h => h.treeIn 2 0 rfl rfl rfl hzs12) (wl_pure (S' := [_,_,_,_,_,_,_]) rfl rfl rfl rfl rfl (wl_nil (we_block_normal (we_then (wc_keep [3,4,0] (S' := [_,_,_]) rfl (wc_region (wP rfl ?_))))))))))))))
   refine wP rfl ?_
   obtain ⟨hg11, hm⟩ := gd_some hm
   refine wl_as (d := 11) (v' := .int .i64 ((u1_4 + 1 : Nat) : Int)) (S' := [_,_,_,_]) rfl rfl (nat_add (a := u1_4) (b := 1) hg11) (wl_pure (S' := [_,_,_,_]) rfl rfl rfl rfl rfl (wl_nil ?_))
   have hE := (Option.some.inj hm).symm
   replace hE := link_inl hLu1 hE
   refine we_pick [1] rfl (H' := [_]) rfl ?_
   refine we_roundK (_, u1_4 + 1, u1_3_l ++ [x14], p20, c20, (u1_3_l ++ [x14]).length) (Nat.lt_succ_self _) hE [4,3,0] rfl (asK [3] rfl) rfl
  ·
   replace hm := iteF hm hb9
   refine wc_keep [3] (S' := [_]) rfl (wc_exit (we_then_exit (we_then_exit (we_block_hit ?_))))
   have hE := (Option.some.inj hm).symm
   replace hE := link_inr hLu1 hE
   refine we_join (u1_3_l, u1_3_p, u1_3_c, u1_3_n) hE [3] rfl (asK [] rfl) rfl
 ·
  rintro ⟨j_1_3_l, j_1_3_p, j_1_3_c, j_1_3_n⟩ hE
  try dsimp only
  have hm := hLj_1
  rw [hE] at hm
  refine wc_seq (wc_region (wP rfl (wP rfl (wl_nil (we_then (wc_keep [2] (S' := [_]) rfl (wc_ret ?_)))))))
  have hE := (Option.some.inj hm).symm
  replace hE := hE.symm
  subst hE
  refine ret_one (Hr := [_]) [0] Tryz.results19 (res_tmp rfl) ⟨j_1_3_p, j_1_3_c, j_1_3_n, rfl, rfl, rfl⟩ (asK [] rfl) rfl rfl (.inl rfl)
theorem w_ropewalkref11_Of_s0 (N : Nat) (a0 : Int) (qp0 : Option Addr) (qc1 : Nat) (l1 : List FactD)  (hm : m_ropewalkref11_Of N a0 l1 = some (.inl ())) : Spec Tryz.prog 10 [.int .i64 a0, .slice qp0 l1.length qc1] [.sli 3 R_FactD qp0 qc1 l1] [] (fun v Φr Hr => v = .tuple #[.pointer none, .int .i64 4] ∧ Φr = [] ∧ Hr = []) := by
 unfold m_ropewalkref11_Of at hm
 refine spec_of Tryz.func10 rfl Tryz.ntmps10 rfl (S := [_,_]) rfl (fun C => (wc_seq (wc_region (wP rfl (wP rfl (wl_nil (we_then (wc_keep [0,1] (S' := [_,_]) rfl (wc_seq (wc_seq ?_))))))))))
 obtain ⟨bj_1, hm, hLj_1⟩ := bindO_some hm
 refine wc_cut (σ := Bool) (fun j_1_18 => bj_1 = j_1_18) (fun j_1_18 => [(0, .int .i64 a0), (1, .slice qp0 l1.length qc1), (18, .bool j_1_18)]) (fun j_1_18 => [.sli 3 R_FactD qp0 qc1 l1]) (fun j_1_18 => []) ?_ ?_
 ·
  refine wc_region (wP rfl (wP rfl (wP rfl ?_)))
  refine wl_split (d := 10) (S' := [_,_,_,_]) rfl rfl (fun hs10 => ?_) (fun hs10 => ?_)
  ·
   replace hm := iteT hm hs10
   refine wO rfl (wO rfl (wP rfl (wP rfl (wO rfl (wO rfl (wO rfl (wP rfl (wl_nil ?_))))))))
   have hE := (Option.some.inj hm).symm
   refine we_join true hE [0,1,18] rfl (asK [0] rfl) rfl
  ·
   replace hm := iteF hm hs10
   refine wP rfl (wP rfl (wP rfl (wP rfl ?_)))
   refine wl_split (d := 14) (S' := [_,_,_,_,_,_,_,_]) rfl rfl (fun hs14 => ?_) (fun hs14 => ?_)
   ·
    replace hm := iteT hm hs14
    refine wO rfl (wO rfl (wO rfl (wP rfl (wl_nil ?_))))
    have hE := (Option.some.inj hm).symm
    refine we_join true hE [0,1,18] rfl (asK [0] rfl) rfl
   ·
    replace hm := iteF hm hs14
    refine wP rfl (wN rfl tE_22 (wP rfl (wl_as (d := 17) (v' := .bool (decide (256 < l1.length))) (S' := [_,_,_,_,_,_,_,_,_,_,_]) rfl rfl (natgt (a := l1.length) (b := 256)) (wP rfl (wl_nil ?_)))))
    have hE := (Option.some.inj hm).symm
    refine we_join (decide (256 < l1.length)) hE [0,1,18] rfl (asK [0] rfl) rfl
 ·
  rintro j_1_18 hE
  try dsimp only
  have hm := hLj_1
  rw [hE] at hm
  refine wc_cond rfl (fun hb18 => ?_) (fun hb18 => ?_)
  ·
   replace hm := iteT hm hb18
   refine wc_keep [] (S' := []) rfl (wc_seq (wc_region (wP rfl (wP rfl (wl_nil (we_then (wc_ret (we_then_ret ?_))))))))
   have hE := (Option.some.inj hm).symm
   replace hE := Sum.inl.inj hE
   refine ret_two (Hr := []) [] Tryz.results10 (res_tmp rfl) (res_tmp rfl) ⟨rfl, rfl, rfl⟩ (asK [] rfl) rfl rfl (.inl rfl)
  ·
   replace hm := iteF hm hb18
   refine wc_keep [0,1] (S' := [_,_]) rfl (wc_skip (we_then (wc_seq (wc_region (wP rfl (wl_nil (we_then (wc_seq ?_))))))))
   obtain ⟨bj_2, hm, hLj_2⟩ := bindS_some hm
   refine wc_cut (σ := Unit) (fun _ => bj_2 = .inl ()) (fun _ => [(0, .int .i64 a0), (1, .slice qp0 l1.length qc1)]) (fun _ => [.sli 3 R_FactD qp0 qc1 l1]) (fun _ => []) ?_ ?_
   ·
    refine wc_seq (wc_region (wP rfl (wl_nil (we_then (wc_block (wc_loop (σ := Nat × Nat × Int) (fun (nu1, u1_7, u1_6) => iter (m_ropewalkref11_Of_L1 N l1 a0) nu1 (u1_7, u1_6) = some bj_2) (fun (nu1, u1_7, u1_6) => nu1) (fun (nu1, u1_7, u1_6) => [(7, .int .i64 ((u1_7 : Nat) : Int)), (6, .int .i64 u1_6), (0, .int .i64 a0), (1, .slice qp0 l1.length qc1)]) (fun (nu1, u1_7, u1_6) => [.sli 3 R_FactD qp0 qc1 l1]) (fun (nu1, u1_7, u1_6) => []) (N, 0,0) hm [7,6,0,1] rfl (asK [0] rfl) rfl (fun s_ hm => ?_)))))))
    obtain ⟨nu1, u1_7, u1_6⟩ := s_
    try dsimp only at hm ⊢
    obtain ⟨mu1, bu1, hnu1, hq, hLu1⟩ := iter_some hm
    clear hm
    subst hnu1
    replace hm := hq
    clear hq
    unfold m_ropewalkref11_Of_L1 at hm
    try dsimp only at hm
    refine wc_seq (wc_seq (wc_region (wP rfl (wP rfl (wN rfl tE_22 (wP rfl (wl_as (d := 22) (v' := .bool (decide (u1_7 < l1.length))) (S' := [_,_,_,_,_,_,_]) rfl rfl (natlt (a := u1_7) (b := l1.length)) (wl_nil (we_then (wc_keep [22,7,6,0,1] (S' := [_,_,_,_,_]) rfl ?_))))))))))
    refine wc_cond rfl (fun hb22 => ?_) (fun hb22 => ?_)
    ·
     replace hm := iteT hm hb22
     refine wc_keep [7,6,0,1] (S' := [_,_,_,_]) rfl (wc_skip (we_then (wc_seq (wc_block (wc_seq (wc_seq ?_))))))
     obtain ⟨bj_3, hm, hLj_3⟩ := bindO_some hm
     unfold m_ropewalkref11_Of_C3 at hm
     refine wc_cut (σ := Bool) (fun j_3_71 => bj_3 = j_3_71) (fun j_3_71 => [(7, .int .i64 ((u1_7 : Nat) : Int)), (0, .int .i64 a0), (1, .slice qp0 l1.length qc1), (71, .bool j_3_71)]) (fun j_3_71 => [.sli 3 R_FactD qp0 qc1 l1]) (fun j_3_71 => []) ?_ ?_
     ·
      obtain ⟨x27, hx27, hm⟩ := bindO_some hm
      rcases ite_some hm with ⟨hs32, hm⟩ | ⟨hs32, hm⟩
      ·
       refine wc_draw [0,1,2,3,4,5,6,7,8,9,10,11,12,13,14,15,16,17,18,19,20,21,22,23,24,25,26,28,29,30,31,32,34,35,36,37,38,39,40,41,42,43,45,46] rfl rfl (fun hok => (xP hok 0 rfl (xP hok 1 rfl (wx_indexA hok 2 0 u1_7 rfl rfl rfl (freshS_eq rfl) rfl rfl rfl rfl rfl rfl hx27 tE_22 tS_27 (fun b27 q27 cs27 hlx27 => (wx_openR R_FactD_opens 1 rfl (fun r27 er27 _ => ?_)))))))
       subst er27
       refine wx_fieldAddr hok 3 rfl rfl rfl (freshS_eq rfl) rfl rfl rfl tF_27_0 (wx_load hok 4 1 0 rfl rfl rfl (freshS_eq rfl) rfl rfl rfl rfl (cs := [_]) rfl tS_3 tA_3 rfl rfl (xP hok 5 rfl (xP hok 6 rfl (xP hok 7 rfl (wx_as (d := 32) (v' := .bool true) (S' := [_,_,_,_,_,_,_,_,_,_,_]) rfl rfl (bool_is hs32) (xO hok 8 rfl (xO hok 9 rfl (xO hok 10 rfl (xO hok 11 rfl (xO hok 12 rfl (xO hok 13 rfl (xO hok 14 rfl (xP hok 15 rfl ?_)))))))))))))
       refine xP hok 16 rfl (xO hok 17 rfl (xO hok 18 rfl (xO hok 19 rfl (xO hok 20 rfl (xO hok 21 rfl (xO hok 22 rfl (xO hok 23 rfl (xO hok 24 rfl (xO hok 25 rfl (xO hok 26 rfl (xS hok 27 rfl (wO rfl (wl_nil ?_)))))))))))))
       refine we_x [0,1,2,3] [] rfl rfl (xO hok 28 rfl (xP hok 29 rfl (xP hok 30 rfl (xO hok 31 rfl (xO hok 32 rfl (xO hok 34 rfl (xO hok 35 rfl (xO hok 36 rfl (xO hok 37 rfl (xO hok 38 rfl (xO hok 39 rfl (xO hok 40 rfl (xO hok 41 rfl ?_)))))))))))))
       refine xO hok 42 rfl (xO hok 43 rfl (xS hok 33 rfl (wO rfl (wl_nil (we_x [0,1,2,3] [] rfl rfl (xS hok 44 rfl (wO rfl (wl_nil (we_x [0,1,2,3] [] rfl rfl (xO hok 45 rfl (xP hok 46 rfl (wx_done hok rfl ?_))))))))))))
       have hE := (Option.some.inj hm).symm
       refine we_join true hE [7,0,1,71] rfl (asK [3] rfl) rfl
      ·
       obtain ⟨x35, hx35, hm⟩ := bindO_some hm
       rcases ite_some hm with ⟨hs41, hm⟩ | ⟨hs41, hm⟩
       ·
        refine wc_draw [0,1,2,3,4,5,6,7,8,9,10,11,12,13,14,15,16,17,18,19,20,21,22,23,24,25,26,28,29,30,31,32,34,35,36,37,38,39,40,41,42,43,45,46] rfl rfl (fun hok => (xP hok 0 rfl (xP hok 1 rfl (wx_indexA hok 2 0 u1_7 rfl rfl rfl (freshS_eq rfl) rfl rfl rfl rfl rfl rfl hx27 tE_22 tS_27 (fun b27 q27 cs27 hlx27 => (wx_openR R_FactD_opens 1 rfl (fun r27 er27 _ => ?_)))))))
        subst er27
        refine wx_fieldAddr hok 3 rfl rfl rfl (freshS_eq rfl) rfl rfl rfl tF_27_0 (wx_load hok 4 1 0 rfl rfl rfl (freshS_eq rfl) rfl rfl rfl rfl (cs := [_]) rfl tS_3 tA_3 rfl rfl (xP hok 5 rfl (xP hok 6 rfl (xP hok 7 rfl (wx_as (d := 32) (v' := .bool false) (S' := [_,_,_,_,_,_,_,_,_,_,_]) rfl rfl (bool_is hs32) (xP hok 8 rfl (xP hok 9 rfl (wx_indexA hok 10 3 u1_7 rfl rfl rfl (freshS_eq rfl) rfl rfl rfl rfl rfl rfl hx35 tE_22 tS_27 (fun b35 q35 cs35 hlx35 => (wx_openR R_FactD_opens 1 rfl (fun r35 er35 _ => ?_)))))))))))
        subst er35
        refine wx_fieldAddr hok 11 rfl rfl rfl (freshS_eq rfl) rfl rfl rfl tF_27_0 (wx_load hok 12 1 0 rfl rfl rfl (freshS_eq rfl) rfl rfl rfl rfl (cs := [_]) rfl tS_3 tA_3 rfl rfl (xP hok 13 rfl (xP hok 14 rfl (xP hok 15 rfl (xP hok 16 rfl (wx_as (d := 41) (v' := .bool true) (S' := [_,_,_,_,_,_,_,_,_,_,_,_,_,_,_,_,_,_,_,_]) rfl rfl (bool_is hs41) (xO hok 17 rfl (xO hok 18 rfl (xO hok 19 rfl (xO hok 20 rfl (xO hok 21 rfl (xO hok 22 rfl (xO hok 23 rfl ?_)))))))))))))
        refine xO hok 24 rfl (xO hok 25 rfl (xO hok 26 rfl (xS hok 27 rfl (wO rfl (wl_nil (we_x [0,1,2,3,4,5,6] [] rfl rfl (xO hok 28 rfl (xP hok 29 rfl (xP hok 30 rfl (xO hok 31 rfl (xO hok 32 rfl (xO hok 34 rfl (xO hok 35 rfl ?_)))))))))))))
        refine xO hok 36 rfl (xO hok 37 rfl (xO hok 38 rfl (xO hok 39 rfl (xO hok 40 rfl (xO hok 41 rfl (xO hok 42 rfl (xO hok 43 rfl (xS hok 33 rfl (wO rfl (wl_nil (we_x [0,1,2,3,4,5,6] [] rfl rfl (xS hok 44 rfl (wO rfl ?_)))))))))))))
        refine wl_nil (we_x [0,1,2,3,4,5,6] [] rfl rfl (xO hok 45 rfl (xP hok 46 rfl (wx_done hok rfl ?_))))
        have hE := (Option.some.inj hm).symm
        refine we_join true hE [7,0,1,71] rfl (asK [6] rfl) rfl
       ·
        obtain ⟨x44, hx44, hm⟩ := bindO_some hm
        obtain ⟨x49, hx49, hm⟩ := bindO_some hm
        obtain ⟨v52, hc52, hm⟩ := bindO_some hm
        rcases ite_some hm with ⟨hs55, hm⟩ | ⟨hs55, hm⟩
        ·
         refine wc_draw [0,1,2,3,4,5,6,7,8,9,10,11,12,13,14,15,16,17,18,19,20,21,22,23,24,25,26,28,29,30,31,32,34,35,36,37,38,39,40,41,42,43,45,46] rfl rfl (fun hok => (xP hok 0 rfl (xP hok 1 rfl (wx_indexA hok 2 0 u1_7 rfl rfl rfl (freshS_eq rfl) rfl rfl rfl rfl rfl rfl hx27 tE_22 tS_27 (fun b27 q27 cs27 hlx27 => (wx_openR R_FactD_opens 1 rfl (fun r27 er27 _ => ?_)))))))
         subst er27
         refine wx_fieldAddr hok 3 rfl rfl rfl (freshS_eq rfl) rfl rfl rfl tF_27_0 (wx_load hok 4 1 0 rfl rfl rfl (freshS_eq rfl) rfl rfl rfl rfl (cs := [_]) rfl tS_3 tA_3 rfl rfl (xP hok 5 rfl (xP hok 6 rfl (xP hok 7 rfl (wx_as (d := 32) (v' := .bool false) (S' := [_,_,_,_,_,_,_,_,_,_,_]) rfl rfl (bool_is hs32) (xP hok 8 rfl (xP hok 9 rfl (wx_indexA hok 10 3 u1_7 rfl rfl rfl (freshS_eq rfl) rfl rfl rfl rfl rfl rfl hx35 tE_22 tS_27 (fun b35 q35 cs35 hlx35 => (wx_openR R_FactD_opens 1 rfl (fun r35 er35 _ => ?_)))))))))))
         subst er35
         refine wx_fieldAddr hok 11 rfl rfl rfl (freshS_eq rfl) rfl rfl rfl tF_27_0 (wx_load hok 12 1 0 rfl rfl rfl (freshS_eq rfl) rfl rfl rfl rfl (cs := [_]) rfl tS_3 tA_3 rfl rfl (xP hok 13 rfl (xP hok 14 rfl (xP hok 15 rfl (xP hok 16 rfl (wx_as (d := 41) (v' := .bool false) (S' := [_,_,_,_,_,_,_,_,_,_,_,_,_,_,_,_,_,_,_,_]) rfl rfl (bool_is hs41) (xP hok 17 rfl (xP hok 18 rfl (wx_indexA hok 19 6 u1_7 rfl rfl rfl (freshS_eq rfl) rfl rfl rfl rfl rfl rfl hx44 tE_22 tS_27 (fun b44 q44 cs44 hlx44 => (wx_openR R_FactD_opens 1 rfl (fun r44 er44 _ => ?_))))))))))))
         subst er44
         refine wx_fieldAddr hok 20 rfl rfl rfl (freshS_eq rfl) rfl rfl rfl tF_27_1 (wx_load hok 21 1 1 rfl rfl rfl (freshS_eq rfl) rfl rfl rfl rfl (cs := [_]) rfl tS_3 tA_3 rfl rfl (xP hok 22 rfl (xP hok 23 rfl (wx_indexA hok 24 9 u1_7 rfl rfl rfl (freshS_eq rfl) rfl rfl rfl rfl rfl rfl hx49 tE_22 tS_27 (fun b49 q49 cs49 hlx49 => (wx_openR R_FactD_opens 1 rfl (fun r49 er49 _ => ?_)))))))
         subst er49
         refine wx_fieldAddr hok 25 rfl rfl rfl (freshS_eq rfl) rfl rfl rfl tF_27_2 (wx_load hok 26 1 2 rfl rfl rfl (freshS_eq rfl) rfl rfl rfl rfl (cs := [_]) rfl tS_25 tA_25 rfl rfl (xS hok 27 rfl (wC [] [] rfl fn_29 rfl (w_ropewalkref11_May_s N x44.ty r49.1 r49.2 x49.args _ hc52) (asK [0] rfl) rfl (H' := []) rfl ?_)))
         rintro _ _ _ ⟨rfl, rfl, rfl⟩
         refine wl_nil (we_x [0,1,2,3,4,5,6,7,8,9,10,11,12] [] rfl rfl (xP hok 28 rfl (xP hok 29 rfl (xP hok 30 rfl (wx_as (d := 55) (v' := .bool true) (S' := [_,_,_,_,_,_,_,_,_,_,_,_,_,_,_,_,_,_,_,_,_,_,_,_,_,_,_,_,_,_,_,_,_,_]) rfl rfl (bool_is hs55) (xO hok 31 rfl (xO hok 32 rfl (xO hok 34 rfl (xO hok 35 rfl (xO hok 36 rfl (xO hok 37 rfl (xO hok 38 rfl (xO hok 39 rfl ?_)))))))))))))
         refine xO hok 40 rfl (xO hok 41 rfl (xO hok 42 rfl (xO hok 43 rfl (xS hok 33 rfl (wO rfl (wl_nil (we_x [0,1,2,3,4,5,6,7,8,9,10,11,12] [] rfl rfl (xS hok 44 rfl (wO rfl (wl_nil (we_x [0,1,2,3,4,5,6,7,8,9,10,11,12] [] rfl rfl (xO hok 45 rfl (xP hok 46 rfl ?_)))))))))))))
         refine wx_done hok rfl ?_
         have hE := (Option.some.inj hm).symm
         refine we_join true hE [7,0,1,71] rfl (asK [12] rfl) rfl
        ·
         obtain ⟨hg58, hm⟩ := gd_some hm
         obtain ⟨x61, hx61, hm⟩ := bindO_some hm
         obtain ⟨x66, hx66, hm⟩ := bindO_some hm
         obtain ⟨v69, hc69, hm⟩ := bindO_some hm
         refine wc_draw [0,1,2,3,4,5,6,7,8,9,10,11,12,13,14,15,16,17,18,19,20,21,22,23,24,25,26,28,29,30,31,32,34,35,36,37,38,39,40,41,42,43,45,46] rfl rfl (fun hok => (xP hok 0 rfl (xP hok 1 rfl (wx_indexA hok 2 0 u1_7 rfl rfl rfl (freshS_eq rfl) rfl rfl rfl rfl rfl rfl hx27 tE_22 tS_27 (fun b27 q27 cs27 hlx27 => (wx_openR R_FactD_opens 1 rfl (fun r27 er27 _ => ?_)))))))
         subst er27
         refine wx_fieldAddr hok 3 rfl rfl rfl (freshS_eq rfl) rfl rfl rfl tF_27_0 (wx_load hok 4 1 0 rfl rfl rfl (freshS_eq rfl) rfl rfl rfl rfl (cs := [_]) rfl tS_3 tA_3 rfl rfl (xP hok 5 rfl (xP hok 6 rfl (xP hok 7 rfl (wx_as (d := 32) (v' := .bool false) (S' := [_,_,_,_,_,_,_,_,_,_,_]) rfl rfl (bool_is hs32) (xP hok 8 rfl (xP hok 9 rfl (wx_indexA hok 10 3 u1_7 rfl rfl rfl (freshS_eq rfl) rfl rfl rfl rfl rfl rfl hx35 tE_22 tS_27 (fun b35 q35 cs35 hlx35 => (wx_openR R_FactD_opens 1 rfl (fun r35 er35 _ => ?_)))))))))))
         subst er35
         refine wx_fieldAddr hok 11 rfl rfl rfl (freshS_eq rfl) rfl rfl rfl tF_27_0 (wx_load hok 12 1 0 rfl rfl rfl (freshS_eq rfl) rfl rfl rfl rfl (cs := [_]) rfl tS_3 tA_3 rfl rfl (xP hok 13 rfl (xP hok 14 rfl (xP hok 15 rfl (xP hok 16 rfl (wx_as (d := 41) (v' := .bool false) (S' := [_,_,_,_,_,_,_,_,_,_,_,_,_,_,_,_,_,_,_,_]) rfl rfl (bool_is hs41) (xP hok 17 rfl (xP hok 18 rfl (wx_indexA hok 19 6 u1_7 rfl rfl rfl (freshS_eq rfl) rfl rfl rfl rfl rfl rfl hx44 tE_22 tS_27 (fun b44 q44 cs44 hlx44 => (wx_openR R_FactD_opens 1 rfl (fun r44 er44 _ => ?_))))))))))))
         subst er44
         refine wx_fieldAddr hok 20 rfl rfl rfl (freshS_eq rfl) rfl rfl rfl tF_27_1 (wx_load hok 21 1 1 rfl rfl rfl (freshS_eq rfl) rfl rfl rfl rfl (cs := [_]) rfl tS_3 tA_3 rfl rfl (xP hok 22 rfl (xP hok 23 rfl (wx_indexA hok 24 9 u1_7 rfl rfl rfl (freshS_eq rfl) rfl rfl rfl rfl rfl rfl hx49 tE_22 tS_27 (fun b49 q49 cs49 hlx49 => (wx_openR R_FactD_opens 1 rfl (fun r49 er49 _ => ?_)))))))
         subst er49
         refine wx_fieldAddr hok 25 rfl rfl rfl (freshS_eq rfl) rfl rfl rfl tF_27_2 (wx_load hok 26 1 2 rfl rfl rfl (freshS_eq rfl) rfl rfl rfl rfl (cs := [_]) rfl tS_25 tA_25 rfl rfl (xS hok 27 rfl (wC [] [] rfl fn_29 rfl (w_ropewalkref11_May_s N x44.ty r49.1 r49.2 x49.args _ hc52) (asK [0] rfl) rfl (H' := []) rfl ?_)))
         rintro _ _ _ ⟨rfl, rfl, rfl⟩
         refine wl_nil (we_x [0,1,2,3,4,5,6,7,8,9,10,11,12] [] rfl rfl (xP hok 28 rfl (xP hok 29 rfl (xP hok 30 rfl (wx_as (d := 55) (v' := .bool false) (S' := [_,_,_,_,_,_,_,_,_,_,_,_,_,_,_,_,_,_,_,_,_,_,_,_,_,_,_,_,_,_,_,_,_,_]) rfl rfl (bool_is hs55) (xP hok 31 rfl (xP hok 32 rfl (xP hok 34 rfl (xP hok 35 rfl (wx_indexA hok 36 12 u1_7 rfl rfl rfl (freshS_eq rfl) rfl rfl rfl rfl rfl rfl hx61 tE_22 tS_27 (fun b61 q61 cs61 hlx61 => (wx_openR R_FactD_opens 1 rfl (fun r61 er61 _ => ?_)))))))))))))
         subst er61
         refine wx_fieldAddr hok 37 rfl rfl rfl (freshS_eq rfl) rfl rfl rfl tF_27_1 (wx_load hok 38 1 1 rfl rfl rfl (freshS_eq rfl) rfl rfl rfl rfl (cs := [_]) rfl tS_3 tA_3 rfl rfl (xP hok 39 rfl (xP hok 40 rfl (wx_indexA hok 41 15 u1_7 rfl rfl rfl (freshS_eq rfl) rfl rfl rfl rfl rfl rfl hx66 tE_22 tS_27 (fun b66 q66 cs66 hlx66 => (wx_openR R_FactD_opens 1 rfl (fun r66 er66 _ => ?_)))))))
         subst er66
         refine wx_fieldAddr hok 42 rfl rfl rfl (freshS_eq rfl) rfl rfl rfl tF_27_2 (wx_load hok 43 1 2 rfl rfl rfl (freshS_eq rfl) rfl rfl rfl rfl (cs := [_]) rfl tS_25 tA_25 rfl rfl (xS hok 33 rfl (wl_sliTo 18 rfl rfl rfl (freshS_eq rfl) rfl rfl rfl rfl rfl tE_22 tS_27 hg58 (fun p58 => (wl_nil (we_x [1,2,3,4,5,6,7,8,9,10,11,12,13,14,15,16,17,18,19] [] rfl rfl (xS hok 44 rfl (wC [] [] rfl fn_30 rfl (w_ropewalkref11_place_s N p58 qc1 (l1.take u1_7) x61.ty r66.1 r66.2 x66.args _ hc69) (asK [0,1] rfl) rfl (H' := []) rfl ?_))))))))
         rintro _ _ _ ⟨rfl, rfl, rfl⟩
         refine wl_nil (we_x [0,1,2,3,4,5,6,7,8,9,10,11,12,13,14,15,16,17,18,19] [] rfl rfl (xP hok 45 rfl (xP hok 46 rfl (wx_done hok rfl ?_))))
         have hE := (Option.some.inj hm).symm
         refine we_join (decide (v69 ≥ 0)) hE [7,0,1,71] rfl (asK [19] rfl) rfl
     ·
      rintro j_3_71 hE
      try dsimp only
      have hm := hLj_3
      rw [hE] at hm
      refine wc_cond rfl (fun hb71 => ?_) (fun hb71 => ?_)
      ·
       replace hm := iteT hm hb71
       refine wc_keep [] (S' := []) rfl (wc_seq (wc_region (wP rfl (wP rfl (wl_nil (we_then (wc_ret (we_then_ret (we_block_ret (we_then_ret (we_then_ret (we_block_ret (we_then_ret ?_)))))))))))))
       have hE := (Option.some.inj hm).symm
       replace hE := link_inr hLu1 hE
       replace hE := link_inr hLj_2 hE
       replace hE := Sum.inl.inj hE
       refine ret_two (Hr := []) [] Tryz.results10 (res_tmp rfl) (res_tmp rfl) ⟨rfl, rfl, rfl⟩ (asK [] rfl) rfl rfl (.inl rfl)
      ·
       replace hm := iteF hm hb71
       refine wc_keep [7,0,1] (S' := [_,_,_]) rfl (wc_skip (we_then (wc_region (wP rfl (wP rfl ?_)))))
       obtain ⟨x74, hx74, hm⟩ := bindO_some hm
       refine wl_indexA 0 u1_7 rfl rfl rfl (freshS_eq rfl) rfl rfl rfl rfl rfl hx74 tE_22 tS_27 (fun b74 q74 cs74 hlx74 => (wl_open R_FactD_opens 1 rfl (fun r74 er74 _ => ?_)))
       subst er74
       refine wF rfl tF_27_0 (wl_load 1 0 rfl rfl rfl (freshS_eq rfl) rfl rfl rfl (cs := [_]) rfl tS_3 tA_3 rfl rfl (wP rfl (wl_nil (we_block_normal (we_then (wc_keep [6,7,0,1] (S' := [_,_,_,_]) rfl (wc_region (wP rfl (wP rfl ?_)))))))))
       obtain ⟨hg24, hm⟩ := gd_some hm
       refine wl_as (d := 24) (v' := .int .i64 ((u1_7 + 1 : Nat) : Int)) (S' := [_,_,_,_,_]) rfl rfl (nat_add (a := u1_7) (b := 1) hg24) (wl_pure (S' := [_,_,_,_,_]) rfl rfl rfl rfl rfl (wl_nil ?_))
       have hE := (Option.some.inj hm).symm
       replace hE := link_inl hLu1 hE
       refine we_roundK (_, u1_7 + 1, x74.id) (Nat.lt_succ_self _) hE [7,6,0,1] rfl (asK [3] rfl) rfl
    ·
     replace hm := iteF hm hb22
     refine wc_keep [0,1] (S' := [_,_]) rfl (wc_exit (we_then_exit (we_then_exit (we_block_hit ?_))))
     have hE := (Option.some.inj hm).symm
     replace hE := link_inr hLu1 hE
     refine we_join () hE [0,1] rfl (asK [0] rfl) rfl
   ·
    rintro _ hE
    try dsimp only
    have hm := link_inl hLj_2 hE
    try dsimp only at hm
    refine wc_seq (wc_region (wP rfl ?_))
    obtain ⟨v78, hc78, hm⟩ := bindO_some hm
    refine wC [] [] rfl fn_19 rfl (w_ropewalkkit_CopyFacts_s N qp0 qc1 l1 _ hc78) (asK [0] rfl) rfl (H' := []) rfl ?_
    rintro _ _ _ ⟨p78_0, c78_1, c78_2, rfl, rfl, rfl⟩
    refine wl_sh [.own 27 3 R_FactD (.slice p78_0 c78_2 c78_1) v78] (fun _ h => h.letgo T_FactD_lend 0 rfl) (wP rfl (wl_build rfl rfl rfl (freshS_eq rfl) rfl tZ_63 tP_63 rfl (out := [_,_]) rfl (wB rfl (fun g81 => (wP rfl (wP rfl (wl_nil (we_then (wc_keep [5,4] (S' := [_,_]) rfl (wc_ret ?_))))))))))
    have hE := (Option.some.inj hm).symm
    cases hE
end Go.Proofs.YthmkahbkhoijbaaGreatDoor
