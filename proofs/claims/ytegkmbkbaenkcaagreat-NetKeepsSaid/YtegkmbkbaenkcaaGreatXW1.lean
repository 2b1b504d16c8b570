import Derived.Test.YtegkmbkbaenkcaaGreatXM
import Derived.Test.YtegkmbkbaenkcaaGreatTypesP
import Derived.Test.YtegkmbkbaenkcaaGreatTypes
import Derived.Test.YtegkmbkbaenkcaaGreatLight
import Derived.Test.YtegkmbkbaenkcaaGreatAwN
import Derived.Test.YtegkmbkbaenkcaaGreatMapK
import Derived.Test.YtegkmbkbaenkcaaGreatStr
import Derived.Test.YtegkmbkbaenkcaaGreatView
import Derived.Test.YtegkmbkbaenkcaaGreatMapE
import Derived.Test.YtegkmbkbaenkcaaGreatMapP
import Derived.Test.YtegkmbkbaenkcaaGreatMapG
import Derived.Test.YtegkmbkbaenkcaaGreatMapGT
import Derived.Test.YtegkmbkbaenkcaaGreatAuto
import Derived.Laws.BytesArg
import Derived.Laws.BytesString
import Derived.Laws.IdiomStrings
import Derived.Lib.LaidTab
import Derived.Lib.ItoaNum
import Derived.LaidSub
import Derived.Test.YtegkmbkbaenkcaaGreatLent
import Derived.Lib.AppendZeros
import Derived.Test.YtegkmbkbaenkcaaGreatFlat
import Derived.Test.YtegkmbkbaenkcaaGreatApart
import Derived.Test.YtegkmbkbaenkcaaGreatRun
import Derived.Test.YtegkmbkbaenkcaaGreatShort
import Derived.Test.YtegkmbkbaenkcaaGreatBack
import Derived.Shelf.Small.Bits
import Derived.Shelf.Strconv.Itoa0
import Derived.Ground.Names2Prog
import Derived.Shelf.Slices.SearchI
import Derived.Ground.SlsfProg
import Derived.Shelf.SlSortCmp.InsertionK
import Derived.Shelf.SlSortCmp.SiftDownK
import Derived.Shelf.SlSortCmp.HeapSortK
import Derived.Shelf.SlSortCmp.MedianK
import Derived.Shelf.SlSortCmp.PivotK
import Derived.Shelf.SlSortCmp.ReverseRangeK
import Derived.Shelf.SlSortCmp.PartialInsertionK
import Derived.Shelf.SlSortCmp.PartitionEqualK
import Derived.Shelf.SlSortCmp.PartitionK
import Derived.Shelf.SlSortCmp.PdqK
import Derived.Shelf.SlSortCmp.WholeK
import Derived.Shelf.SlSortCmp.NoneTotal
import Derived.Test.YtegkmbkbaenkcaaGreatProg
import Derived.Test.YtegkmbkbaenkcaaGreatAb
namespace Go.Proofs.YtegkmbkbaenkcaaGreat
open Go.RowKit
set_option maxRecDepth 100000
set_option maxHeartbeats 4000000
def pairKey51 : MKey Tryz.prog 51 (Int × Int) where
  enc x := .agg #[.int .i64 x.1, .int .i64 x.2]
  lit x := .string (Go.keyBytes [.int .i64 x.1, .int .i64 x.2])
  ok x := inI x.1 ∧ inI x.2
  law := Maps.Keyed.of_law (Go.deep_law (m := 5) (by decide) (by kernel_rfl) (by kernel_rfl) (by kernel_rfl))
  key x h := pair_key (e := 3) (q := 300) (by kernel_rfl) (by kernel_rfl) (by kernel_rfl) (by kernel_rfl) (by kernel_rfl) (by kernel_rfl) (inI_wf h.1) (inI_wf h.2)
  inj x y h := by
    rcases x with ⟨a, b⟩
    rcases y with ⟨c, d⟩
    simp at h
    rw [h.1, h.2]
theorem tM_43 : Tryz.prog.underlying 43 = some (.map 51 35) := by kernel_rfl
theorem tZG_35 : tZero Tryz.prog 35 = some (.slice none 0 0) := by kernel_rfl
theorem w_net_New_s (N : Nat)   (hm : m_net_New N = some ()) : Spec Tryz.prog 5 [] [] [] (fun v Φr Hr => ∃ (o0 : Nat) (o1 : Nat), v = .pointer (some ⟨o0,0, none⟩) ∧ Φr = [] ∧ Hr = [.blk o0 [.map (some o1)] 47, mapG (keyOfK pairKey51) (treeF T_l_u8 22 1) none o1 ([] : List ((Int × Int) × List (List Int)))]) := by
 unfold m_net_New at hm
 refine spec_of Tryz.func5 rfl Tryz.ntmps5 rfl (S := []) rfl (fun C => (wc_seq (wc_region (wP rfl (wl_nil (we_then (wc_keep [] (S' := []) rfl (wc_seq (wc_region (wl_makeG (keyOfK pairKey51) (treeF T_l_u8 22 1) rfl rfl rfl (freshS_eq rfl) rfl (fun g1 => (wl_build rfl rfl rfl (freshS_eq rfl) rfl tZ_45 tP_45 rfl (out := [_]) rfl (wl_build rfl rfl rfl (freshS_eq rfl) rfl tZ_47 tP_47 rfl (out := [_]) rfl (wB rfl (fun g4 => (wP rfl ?_))))))))))))))))
 refine wl_nil (we_then (wc_keep [0] (S' := [_]) rfl (wc_ret ?_)))
 have hE := (Option.some.inj hm).symm
 refine ret_one (Hr := [_,_]) [0,1] Tryz.results5 (res_tmp rfl) ⟨g4, g1, rfl, rfl, rfl⟩ (asK [] rfl) rfl rfl (.inl rfl)
theorem w_ropewalkkit_mark_s (N : Nat) (a0 : Int) (a1 : Int)  (hm : m_ropewalkkit_mark N a0 a1 = some ()) : Spec Tryz.prog 27 [.int .i64 a0, .int .i64 a1] [] [] (fun v Φr Hr => v = .int .i64 (IntKind.wrap .i64 ((IntKind.wrap .i64 (1000003 * (IntKind.wrap .i64 (a0 + 7)))) + a1)) ∧ Φr = [] ∧ Hr = []) := by
 unfold m_ropewalkkit_mark at hm
 refine spec_of Tryz.func27 rfl Tryz.ntmps27 rfl (S := [_,_]) rfl (fun C => (wc_seq (wc_region (wP rfl (wl_nil (we_then (wc_keep [0,1] (S' := [_,_]) rfl (wc_seq (wc_region (wP rfl (wP rfl (wP rfl (wP rfl (wP rfl ?_))))))))))))))
 refine wP rfl (wl_nil (we_then (wc_keep [4] (S' := [_]) rfl (wc_ret ?_))))
 have hE := (Option.some.inj hm).symm
 refine ret_one (Hr := []) [] Tryz.results27 (res_tmp rfl) ⟨rfl, rfl, rfl⟩ (asK [] rfl) rfl rfl (.inl rfl)
theorem w_ropewalkkit_markByte_s (N : Nat) (a0 : Int) (a1 : Int)  (hm : m_ropewalkkit_markByte N a0 a1 = some ()) : Spec Tryz.prog 18 [.int .i64 a0, .int .i64 a1] [] [] (fun v Φr Hr => v = .int .u8 (IntKind.wrap .u8 (Int.fdiv (IntKind.wrap .u64 ((IntKind.wrap .u64 (IntKind.wrap .i64 ((IntKind.wrap .i64 (1000003 * (IntKind.wrap .i64 (a0 + 7)))) + a1))) * 11400714819323198485)) (2 ^ (56)))) ∧ Φr = [] ∧ Hr = []) := by
 unfold m_ropewalkkit_markByte at hm
 refine spec_of Tryz.func18 rfl Tryz.ntmps18 rfl (S := [_,_]) rfl (fun C => (wc_seq (wc_region (wP rfl (wl_nil (we_then (wc_keep [0,1] (S' := [_,_]) rfl (wc_seq (wc_region (wP rfl (wP rfl ?_)))))))))))
 obtain ⟨_, hc7, hm⟩ := bindO_some hm
 try dsimp only at hm
 refine wC [] [] rfl fn_27 rfl (w_ropewalkkit_mark_s N a0 a1 hc7) (asK [] rfl) rfl (H' := []) rfl ?_
 rintro _ _ _ ⟨rfl, rfl, rfl⟩
 refine wl_reck rfl rfl rfl (freshS_eq rfl) (rk_conv rfl rfl tI_3 tI_85) (wP rfl (wl_bin rfl rfl rfl (freshS_eq rfl) rfl rfl rfl (run_shr (by decide)) (wl_reck rfl rfl rfl (freshS_eq rfl) (rk_conv rfl rfl tI_85 tI_5) (wP rfl (wl_nil (we_then (wc_keep [4] (S' := [_]) rfl (wc_ret ?_))))))))
 have hE := (Option.some.inj hm).symm
 refine ret_one (Hr := []) [] Tryz.results18 (res_tmp rfl) ⟨rfl, rfl, rfl⟩ (asK [] rfl) rfl rfl (.inl rfl)
theorem w_ropewalkkit_LentBytes_s (N : Nat) (qp0 : Option Addr) (qc1 : Nat) (l0 : List Int) (o2 : List Int) (hm : m_ropewalkkit_LentBytes N l0 = some o2) : Spec Tryz.prog 6 [.slice qp0 l0.length qc1] [.sli 1 R_u8 qp0 qc1 l0] [] (fun v Φr Hr => ∃ (o0 : Option Addr) (o1 : Nat) (o3 : Nat), v = .slice o0 l0.length o1 ∧ Φr = [] ∧ Hr = [.own 5 1 R_u8 (.slice o0 o3 o1) o2]) := by
 unfold m_ropewalkkit_LentBytes at hm
 refine spec_of Tryz.func6 rfl Tryz.ntmps6 rfl (S := [_]) rfl (fun C => (wc_seq (wc_region (wP rfl (wl_nil (we_then (wc_keep [0] (S' := [_]) rfl (wc_seq (wc_region (wP rfl (wN rfl tE_22 (wP rfl ?_))))))))))))
 obtain ⟨hg7, hm⟩ := gd_some hm
 refine wl_as (d := 7) (v' := .int .i64 ((l0.length + 12 : Nat) : Int)) (S' := [_,_,_]) rfl rfl (nat_add (a := l0.length) (b := 12) hg7) ?_
 obtain ⟨hg8, hm⟩ := gd_some hm
 refine wl_makeCap (m := l0.length + 12) R_u8 rfl rfl rfl (freshS_eq rfl) rfl rfl rfl rfl tE_22 tR_5 rfl rfl (Nat.le_trans (Nat.mul_le_mul_left _ hg8) (by decide)) (Nat.le_trans hg8 (by decide)) (fun g8 => (wP rfl (wl_nil (we_then (wc_keep [3,0] (S' := [_,_]) rfl (wc_seq (wc_region (wP rfl (wP rfl ?_)))))))))
 obtain ⟨hg11, hm⟩ := gd_some hm
 refine wl_append 0 0 rfl rfl rfl (freshS_eq rfl) rfl rfl rfl rfl rfl tE_22 tR_5 rfl rfl (Nat.le_trans hg11 (by decide)) (Nat.le_trans (Nat.mul_le_mul_right _ hg11) (by decide)) (H2 := fun p11 c11 => [.own 5 1 R_u8 (.slice p11 (l0).length c11) l0]) (fun _ _ => rfl) (fun p11 c11 => (wl_pure (S' := [_,_,_,_]) rfl rfl rfl rfl rfl (wl_nil (we_then (wc_keep [3,0] (S' := [_,_]) rfl (wc_seq ?_))))))
 obtain ⟨bj_1, hm, hLj_1⟩ := bindO_some hm
 refine wc_cut (σ := (List Int) × (Option Addr) × Nat × Nat) (fun (j_1_3_l, j_1_3_p, j_1_3_c, j_1_3_n) => bj_1 = j_1_3_l) (fun (j_1_3_l, j_1_3_p, j_1_3_c, j_1_3_n) => [(3, .slice j_1_3_p j_1_3_n j_1_3_c), (0, .slice qp0 l0.length qc1)]) (fun (j_1_3_l, j_1_3_p, j_1_3_c, j_1_3_n) => [.sli 1 R_u8 qp0 qc1 l0]) (fun (j_1_3_l, j_1_3_p, j_1_3_c, j_1_3_n) => [.own 5 1 R_u8 (.slice j_1_3_p j_1_3_n j_1_3_c) j_1_3_l]) ?_ ?_
 ·
  refine wc_seq (wc_region (wP rfl (wl_nil (we_then (wc_block (wc_loop (σ := Nat × Nat × (List Int) × (Option Addr) × Nat × Nat) (fun (nu1, u1_4, u1_3_l, u1_3_p, u1_3_c, u1_3_n) => iter (m_ropewalkkit_LentBytes_L1 N) nu1 (u1_4, u1_3_l) = some bj_1) (fun (nu1, u1_4, u1_3_l, u1_3_p, u1_3_c, u1_3_n) => nu1) (fun (nu1, u1_4, u1_3_l, u1_3_p, u1_3_c, u1_3_n) => [(4, .int .i64 ((u1_4 : Nat) : Int)), (3, .slice u1_3_p u1_3_n u1_3_c), (0, .slice qp0 l0.length qc1)]) (fun (nu1, u1_4, u1_3_l, u1_3_p, u1_3_c, u1_3_n) => [.sli 1 R_u8 qp0 qc1 l0]) (fun (nu1, u1_4, u1_3_l, u1_3_p, u1_3_c, u1_3_n) => [.own 5 1 R_u8 (.slice u1_3_p u1_3_n u1_3_c) u1_3_l]) (N, 0, l0, p11, c11, (l0).length) hm [4,3,0] rfl (asK [0] rfl) rfl (fun s_ hm => ?_)))))))
  obtain ⟨nu1, u1_4, u1_3_l, u1_3_p, u1_3_c, u1_3_n⟩ := s_
  try dsimp only at hm ⊢
  obtain ⟨mu1, bu1, hnu1, hq, hLu1⟩ := iter_some hm
  clear hm
  subst hnu1
  replace hm := hq
  clear hq
  unfold m_ropewalkkit_LentBytes_L1 at hm
  try dsimp only at hm
  refine wc_seq (wc_seq (wc_region (wP rfl (wP rfl (wl_as (d := 13) (v' := .bool (decide (u1_4 < 12))) (S' := [_,_,_,_]) rfl rfl (natlt (a := u1_4) (b := 12)) (wl_nil (we_then (wc_keep [13,4,3,0] (S' := [_,_,_,_]) rfl ?_))))))))
  refine wc_cond rfl (fun hb13 => ?_) (fun hb13 => ?_)
  ·
   replace hm := iteT hm hb13
   refine wc_keep [4,3,0] (S' := [_,_,_]) rfl (wc_skip (we_then (wc_seq (wc_block (wc_region (wP rfl (wP rfl ?_)))))))
   obtain ⟨_, hc18, hm⟩ := bindO_some hm
   try dsimp only at hm
   refine wC [] [0] rfl fn_18 rfl (w_ropewalkkit_markByte_s N 1 ((u1_4 : Nat) : Int) hc18) (asK [] rfl) rfl (H' := [_]) rfl ?_
   rintro _ _ _ ⟨rfl, rfl, rfl⟩
   refine wl_buildSlice rfl rfl rfl (freshS_eq rfl) rfl tE_22 tS_5 tZ_5 rfl (zs := [.int .u8 0]) (by kernel_rfl) rfl (out := [_]) rfl (fun g19 => ?_)
   obtain ⟨hg20, hm⟩ := gd_some hm
   refine wl_appendH ([(IntKind.wrap .u8 (Int.fdiv (IntKind.wrap .u64 ((IntKind.wrap .u64 (IntKind.wrap .i64 ((IntKind.wrap .i64 (1000003 * (IntKind.wrap .i64 (1 + 7)))) + ((u1_4 : Nat) : Int)))) * 11400714819323198485)) (2 ^ (56))))]) 1 0 rfl rfl rfl (freshS_eq rfl) rfl rfl rfl rfl rfl (fun F w hφ => ⟨[.int .u8 (IntKind.wrap .u8 (Int.fdiv (IntKind.wrap .u64 ((IntKind.wrap .u64 (IntKind.wrap .i64 ((IntKind.wrap .i64 (1000003 * (IntKind.wrap .i64 (1 + 7)))) + ((u1_4 : Nat) : Int)))) * 11400714819323198485)) (2 ^ (56))))],[], rfl, rfl, ⟨(), rfl, ask_nil⟩, rfl⟩) tE_22 tR_5 rfl rfl (Nat.le_trans hg20 (by decide)) (Nat.le_trans (Nat.mul_le_mul_right _ hg20) (by decide)) (H2 := fun p20 c20 => [_, .own 5 1 R_u8 (.slice p20 ((u1_3_l ++ ([(IntKind.wrap .u8 (Int.fdiv (IntKind.wrap .u64 ((IntKind.wrap .u64 (IntKind.wrap .i64 ((IntKind.wrap .i64 (1000003 * (IntKind.wrap .i64 (1 + 7)))) + ((u1_4 : Nat) : Int)))) * 11400714819323198485)) (2 ^ (56))))])).length) c20) (u1_3_l ++ ([(IntKind.wrap .u8 (Int.fdiv (IntKind.wrap .u64 ((IntKind.wrap .u64 (IntKind.wrap .i64 ((IntKind.wrap .i64 (1000003 * (IntKind.wrap .i64 (1 + 7)))) + ((u1_4 : Nat) : Int)))) * 11400714819323198485)) (2 ^ (56))))]))]) (fun _ _ => rfl) (fun p20 c20 => (wl_drop 0 rfl (H' := [_]) rfl (wl_pure (S' := [_,_,_,_,_,_,_]) rfl rfl rfl rfl rfl (wl_nil (we_block_normal (we_then (wc_keep [3,4,0] (S' := [_,_,_]) rfl (wc_region (wP rfl (wP rfl ?_))))))))))
   obtain ⟨hg15, hm⟩ := gd_some hm
   refine wl_as (d := 15) (v' := .int .i64 ((u1_4 + 1 : Nat) : Int)) (S' := [_,_,_,_]) rfl rfl (nat_add (a := u1_4) (b := 1) hg15) (wl_pure (S' := [_,_,_,_]) rfl rfl rfl rfl rfl (wl_nil ?_))
   have hE := (Option.some.inj hm).symm
   replace hE := link_inl hLu1 hE
   refine we_roundK (_, u1_4 + 1, (u1_3_l ++ ([(IntKind.wrap .u8 (Int.fdiv (IntKind.wrap .u64 ((IntKind.wrap .u64 (IntKind.wrap .i64 ((IntKind.wrap .i64 (1000003 * (IntKind.wrap .i64 (1 + 7)))) + ((u1_4 : Nat) : Int)))) * 11400714819323198485)) (2 ^ (56))))])), p20, c20, ((u1_3_l ++ ([(IntKind.wrap .u8 (Int.fdiv (IntKind.wrap .u64 ((IntKind.wrap .u64 (IntKind.wrap .i64 ((IntKind.wrap .i64 (1000003 * (IntKind.wrap .i64 (1 + 7)))) + ((u1_4 : Nat) : Int)))) * 11400714819323198485)) (2 ^ (56))))])).length)) (Nat.lt_succ_self _) hE [4,3,0] rfl (asK [0] rfl) rfl
  ·
   replace hm := iteF hm hb13
   refine wc_keep [3,0] (S' := [_,_]) rfl (wc_exit (we_then_exit (we_then_exit (we_block_hit ?_))))
   have hE := (Option.some.inj hm).symm
   replace hE := link_inr hLu1 hE
   refine we_join (u1_3_l, u1_3_p, u1_3_c, u1_3_n) hE [3,0] rfl (asK [0] rfl) rfl
 ·
  rintro ⟨j_1_3_l, j_1_3_p, j_1_3_c, j_1_3_n⟩ hE
  try dsimp only
  have hm := hLj_1
  rw [hE] at hm
  refine wc_seq (wc_region (wP rfl (wP rfl (wN rfl tE_22 ?_))))
  obtain ⟨hg24, hm⟩ := gd_some hm
  refine wl_ownSpot 0 rfl (fun hsp24 hcm24 => (wl_sliceTo rfl rfl rfl (freshS_eq rfl) rfl rfl rfl rfl tE_22 tS_5 (Nat.le_trans hg24 (by rw [← hcm24.2]; exact hcm24.1)) hsp24 (wP rfl (wl_nil (we_then (wc_keep [2] (S' := [_]) rfl (wc_ret ?_)))))))
  have hE := (Option.some.inj hm).symm
  replace hE := hE.symm
  subst hE
  refine ret_one (Hr := [_]) [0] Tryz.results6 (res_tmp rfl) ⟨j_1_3_p, j_1_3_c, j_1_3_n, rfl, rfl, rfl⟩ (asK [] rfl) rfl rfl (.inl rfl)
theorem w_net_Net_all_s (N : Nat) (qg0 : Nat) (qb1 : Nat) (e0 : List ((Int × Int) × List (List Int)))  (hm : m_net_Net_all N e0 = some ()) : Spec Tryz.prog 19 [.pointer (some ⟨qg0,0, none⟩)] [] [.blk qg0 [.map (some qb1)] 47, mapG (keyOfK pairKey51) (treeF T_l_u8 22 1) none qb1 e0] (fun v Φr Hr => v = .map (some qb1) ∧ Φr = [] ∧ Hr = [mapG (keyOfK pairKey51) (treeF T_l_u8 22 1) none qb1 e0, .blk qg0 [.map (some qb1)] 47]) := by
 unfold m_net_Net_all at hm
 refine spec_of Tryz.func19 rfl Tryz.ntmps19 rfl (S := [_]) rfl (fun C => (wc_seq (wc_region (wP rfl (wl_nil (we_then (wc_keep [0] (S' := [_]) rfl (wc_seq (wc_seq (wc_region (wP rfl (wl_bin rfl rfl rfl (freshS_eq rfl) rfl rfl rfl (eqlP tQ_24 _ _ _) (wl_nil (we_then ?_))))))))))))))
 refine wc_keep [4,0] (S' := [_,_]) rfl (wc_false rfl (wc_keep [0] (S' := [_]) rfl (wc_skip (we_then (wc_seq (wc_region (wP rfl (wP rfl (wF rfl tF_47_0 (wF rfl tF_45_0 (wD 0 0 rfl tS_43 tA_43 rfl (wP rfl (wl_nil ?_)))))))))))))
 refine we_then (wc_keep [2] (S' := [_]) rfl (wc_ret ?_))
 have hE := (Option.some.inj hm).symm
 refine ret_one (Hr := [_,_]) [1,0] Tryz.results19 (res_tmp rfl) ⟨rfl, rfl, rfl⟩ (asK [] rfl) rfl rfl (.inl rfl)
theorem Clone28f_s (p : Option Addr) (c : Nat) (l : List Int) (hb : l.length ≤ 140737488355328) : Spec Tryz.prog 28 [.slice p l.length c] [.sli 1 R_u8 p c l] [] (fun v Φr Hr => ∃ p' c', v = .slice p' l.length c' ∧ Φr = [] ∧ Hr = [.own 5 1 R_u8 v l]) := by
 refine spec_of Tryz.func28 rfl Tryz.ntmps28 rfl (S := [_]) rfl (fun C => (wc_know (fun F w h => sli_nil (h _ (mem_at (k := 0) rfl))) (fun isnil => (wc_seq (wc_region (wP rfl (wl_nil (we_then (wc_seq (wc_seq (wc_region (wP rfl (wl_eqlNil rfl rfl rfl (freshS_eq rfl) rfl rfl rfl tE_22 (wl_nil (we_then ?_)))))))))))))))
 refine wc_keep [4,2,0] (S' := [_,_,_]) rfl ?_
 refine wc_cond rfl (fun h4 => ?_) (fun h4 => ?_)
 ·
  replace h4 := isNone_true h4
  obtain rfl := isnil h4
  subst h4
  refine wc_rowNil 5 1 R_u8 (wc_seq (wc_region (wl_pure (S' := [_,_]) rfl rfl rfl rfl rfl (wl_nil (we_then (wc_ret (we_then_ret (ret_one (Hr := [.own 5 1 R_u8 (.slice none 0 0) []]) [0] Tryz.results28 (res_tmp rfl) ?_ (asK [] rfl) rfl rfl (.inl rfl)))))))))
  exact ⟨none, 0, rfl, rfl, rfl⟩
 ·
  replace h4 := isNone_false h4
  refine wc_skip (we_then (wc_seq (wc_region (wl_buildSlice rfl rfl rfl (freshS_eq rfl) rfl tE_22 tS_5 tZ_5 rfl (zs := []) (by kernel_rfl) rfl (out := []) rfl (fun g5 => (wP rfl (wl_row (sz := 1) (m := 0) R_u8 [] 0 rfl (fun F w hφ => rfl) rfl (by decide) (H' := [_]) rfl (wl_append 0 0 rfl rfl rfl (freshS_eq rfl) rfl rfl rfl rfl rfl tE_22 tR_5 rfl rfl (by simp; omega) (by simp; omega) (H2 := fun p7 c7 => [.own 5 1 R_u8 (.slice p7 (l).length c7) l]) (fun _ _ => rfl) (fun p7 c7 => (wl_pure (S' := [_,_,_,_,_]) rfl rfl rfl rfl rfl (wl_nil (we_then (wc_keep [2,4,0] (S' := [_,_,_]) rfl (wc_ret (ret_one (Hr := [.own 5 1 R_u8 (.slice p7 (l).length c7) l]) [0] Tryz.results28 (res_tmp rfl) ?_ (asK [] rfl) rfl rfl (.inl rfl))))))))))))))))
  exact ⟨_,_, rfl, rfl, rfl⟩
theorem w_net_bags_put_s (N : Nat) (qb0 : Nat) (e0 : List ((Int × Int) × List (List Int))) (a1 : Int) (a2 : Int) (qp1 : Option Addr) (qc2 : Nat) (l3 : List Int) (o0 : Nat) (o1 : List ((Int × Int) × List (List Int))) (hm : m_net_bags_put N e0 a1 a2 l3 = some (o0, o1)) : Spec Tryz.prog 20 [.map (some qb0), .agg #[.int .i64 a1, .int .i64 a2], .slice qp1 l3.length qc2] [.sli 1 R_u8 qp1 qc2 l3] [mapG (keyOfK pairKey51) (treeF T_l_u8 22 1) none qb0 e0] (fun v Φr Hr => v = .int .i64 ((o0 : Nat) : Int) ∧ Φr = [] ∧ Hr = [mapG (keyOfK pairKey51) (treeF T_l_u8 22 1) none qb0 o1]) := by
 unfold m_net_bags_put at hm
 refine spec_of Tryz.func20 rfl Tryz.ntmps20 rfl (S := [_,_,_]) rfl (fun C => (wc_seq (wc_region (wB rfl (fun g4 => (wP rfl (wl_nil (we_then (wc_keep [4,0,2] (S' := [_,_,_]) rfl (wc_seq (wc_block (wc_seq (wc_region (wP rfl (wl_bin rfl rfl rfl (freshS_eq rfl) rfl rfl rfl (eqlM tM_43 _ _ _) ?_)))))))))))))))
 refine wP rfl (wl_nil (we_then (wc_keep [7,4,0,2] (S' := [_,_,_,_]) rfl (wc_false rfl (wc_keep [4,0,2] (S' := [_,_,_]) rfl (wc_seq (wc_region (wP rfl (wN rfl tE_22 (wP rfl (wl_as (d := 13) (v' := .bool (decide (1048576 < l3.length))) (S' := [_,_,_,_,_]) rfl rfl (natgt (a := l3.length) (b := 1048576)) (wP rfl (wl_nil ?_)))))))))))))
 refine we_then (wc_keep [10,4,0,2] (S' := [_,_,_,_]) rfl ?_)
 refine wc_cond rfl (fun hb10 => ?_) (fun hb10 => ?_)
 ·
  replace hm := iteT hm hb10
  refine wc_keep [] (S' := []) rfl (wc_seq (wc_region (wP rfl (wl_nil (we_then (wc_ret (we_block_ret (we_then_ret ?_))))))))
  have hE := (Option.some.inj hm).symm
  obtain ⟨hE0, hE1⟩ := Prod.mk.inj hE
  clear hE
  replace hE0 := hE0.symm
  subst hE0
  replace hE1 := hE1.symm
  subst hE1
  refine ret_one (Hr := [_]) [1] Tryz.results20 (res_tmp rfl) ⟨rfl, rfl, rfl⟩ (asK [] rfl) rfl rfl (.inl rfl)
 ·
  replace hm := iteF hm hb10
  refine wc_keep [4,0,2] (S' := [_,_,_]) rfl (wc_seq (wc_region (wP rfl (wl_loadH 0 0 rfl rfl rfl (freshS_eq rfl) rfl rfl rfl (cs := [_,_]) rfl tS_51 tA_51 rfl rfl ?_))))
  obtain ⟨hk17_0, hm⟩ := gd_some hm
  obtain ⟨hk17_1, hm⟩ := gd_some hm
  obtain ⟨l17, hl17, hm⟩ := bindO_some hm
  refine wl_lookG (i := (a1, a2)) (l := l17) form_tree 1 rfl rfl rfl (freshS_eq rfl) rfl rfl rfl rfl tZG_35 tM_43 ⟨hk17_0, hk17_1⟩ (Option.some.inj hl17) (fun p17 c17 => (wN rfl tE_35 (wP rfl (wl_as (d := 19) (v' := .bool (decide (64 ≤ l17.length))) (S' := [_,_,_,_,_,_,_]) rfl rfl (natge (a := l17.length) (b := 64)) (wP rfl (wl_nil (we_then (wc_keep [14,4,0,2] (S' := [_,_,_,_]) rfl ?_))))))))
  refine wc_cond rfl (fun hb14 => ?_) (fun hb14 => ?_)
  ·
   replace hm := iteT hm hb14
   refine wc_keep [] (S' := []) rfl (wc_seq (wc_region (wP rfl (wl_nil (we_then (wc_ret (we_block_ret (we_then_ret ?_))))))))
   have hE := (Option.some.inj hm).symm
   obtain ⟨hE0, hE1⟩ := Prod.mk.inj hE
   clear hE
   replace hE0 := hE0.symm
   subst hE0
   replace hE1 := hE1.symm
   subst hE1
   refine we_sh [.blk g4 [.int .i64 a1, .int .i64 a2] 51, mapG (keyOfK pairKey51) (treeF T_l_u8 22 1) none qb0 e0] (fun _ h => h.closeG 2 0 rfl rfl rfl (Option.some.inj hl17)) ?_
   skip
   refine ret_one (Hr := [_]) [1] Tryz.results20 (res_tmp rfl) ⟨rfl, rfl, rfl⟩ (asK [] rfl) rfl rfl (.inl rfl)
  ·
   replace hm := iteF hm hb14
   refine wc_keep [4,0,2] (S' := [_,_,_]) rfl (wc_skip (we_block_normal (we_then (wc_seq ?_))))
   obtain ⟨hg24, hm⟩ := gd_some hm
   skip
   obtain ⟨l26, hl26, hm⟩ := bindO_some hm
   obtain ⟨hg27, hm⟩ := gd_some hm
   refine wc_draw [0,1,2,6,8] rfl rfl (fun hok => (xP hok 0 rfl (wx_loadH hok 1 1 0 rfl rfl rfl (freshS_eq rfl) rfl rfl rfl rfl (cs := [_,_]) rfl tS_51 tA_51 rfl rfl (xP hok 2 rfl (xS hok 3 rfl (wC [] [0,1,2] rfl fn_28 rfl (Clone28f_s qp1 qc2 l3 hg24) (asK [0] rfl) rfl (H' := [_,_,_]) rfl ?_))))))
   rintro _ _ _ ⟨p24, c24, rfl, rfl, rfl⟩
   refine wl_nil (we_x [0] [2] rfl rfl (xS hok 4 rfl (wl_buildSlice rfl rfl rfl (freshS_eq rfl) rfl tE_35 tS_22 tZ_22 rfl (zs := [.slice none 0 0]) (by kernel_rfl) rfl (out := [_]) rfl (fun g25 => (wl_nil (we_x [0] [3] rfl rfl (xS hok 5 rfl (wl_sh [.blk g25 [.slice p24 l3.length c24] 22, .own 5 1 R_u8 (.slice p24 l3.length c24) l3, .blk g4 [.int .i64 a1, .int .i64 a2] 51, mapG (keyOfK pairKey51) (treeF T_l_u8 22 1) none qb0 e0] (fun _ h => h.closeG 4 2 rfl rfl rfl (Option.some.inj hl17)) ?_))))))))
   skip
   refine wl_entryG (i := (a1, a2)) (l := l26) form_tree 3 rfl rfl rfl (freshS_eq rfl) rfl rfl rfl rfl tZG_35 tM_43 ⟨hk17_0, hk17_1⟩ (Option.some.inj hl26) (fun p26 c26 g26 => (wl_nil (we_x [0] [] rfl rfl (xP hok 6 rfl (xP hok 8 rfl (xS hok 7 rfl (wl_treeOut 0 rfl (fun zz27 hzz27 => ?_))))))))
   have hzs2 : List.map (fun x : (List Int) × (Option Addr × Nat) => x.1) (zz27 ++ [(l3, (p24, c24))]) = l26 ++ [l3] := pair_app hzz27 (us := [l3]) rfl
   have hgl27 : zz27.length + ([(l3, (p24, c24))] : List ((List Int) × (Option Addr × Nat))).length ≤ 5864062014805 := by rw [pair_len hzz27]; exact hg27
   refine wl_appendH (R := T_l_u8.pair) ([(l3, (p24, c24))]) 1 2 rfl rfl rfl (freshS_eq rfl) rfl rfl rfl rfl rfl (fun F w hφ => ⟨[.slice p24 l3.length c24],[], rfl, rfl, rfl, rfl⟩) tE_35 tR_22 rfl rfl (Nat.le_trans hgl27 (by decide)) (Nat.le_trans (Nat.mul_le_mul_right _ hgl27) (by decide)) (H2 := fun p27 c27 => [_, .own 22 1 T_l_u8.pair (.slice p27 ((zz27 ++ [(l3, (p24, c24))]).length) c27) (zz27 ++ [(l3, (p24, c24))]), _,_,_,_]) (fun _ _ => rfl) (fun p27 c27 => (wl_drop 2 rfl (H' := [_,_,_,_,_]) rfl (wl_as (d := 27) (v' := .slice p27 ((l26 ++ [l3]).length) c27) (S' := [_,_,_,_,_,_,_,_,_,_,_]) rfl rfl (by rw [pair_len hzs2]) (wl_hAs 1 (φ' := .own 22 1 T_l_u8.pair (.slice p27 ((l26 ++ [l3]).length) c27) (zz27 ++ [(l3, (p24, c24))])) rfl (by rw [pair_len hzs2]) (H' := [_,_,_,_,_]) rfl (wl_pick [2,0,1,3,4] rfl (H' := [_,_,_,_,_]) rfl (wl_sh [bagF T_l_u8 (zz27 ++ [(l3, (p24, c24))]) none, _,_,_] (fun _ h => Holds.bagPush (T := T_l_u8) (x := l3) (r := (p24, c24)) (zs := zz27) (H := [_,_,_,_]) h 0 rfl) (wl_sh [treeF T_l_u8 22 1 (.slice p27 ((l26 ++ [l3]).length) c27) (l26 ++ [l3]), _,_] (fun _ h => h.treeIn 1 0 rfl rfl rfl hzs2) (wl_nil (we_x [0] [1] rfl rfl (xS hok 9 rfl (wl_entryStore (i := (a1, a2)) (u := .slice p27 ((l26 ++ [l3]).length) c27) 2 (l26 ++ [l3]) rfl rfl rfl rfl rfl rfl rfl tM_43 ⟨hk17_0, hk17_1⟩ rfl (H' := [_,_, mapG (keyOfK pairKey51) (treeF T_l_u8 22 1) (some ((a1, a2), .slice p27 ((l26 ++ [l3]).length) c27)) qb0 (mput (a1, a2) (l26 ++ [l3]) e0)]) rfl (wl_nil (we_x [0] [] rfl rfl (wx_done hok rfl ?_))))))))))))))
   refine we_then (wc_keep [] (S' := []) rfl (wc_seq (wc_region (wP rfl (wl_nil (we_then (wc_ret ?_)))))))
   have hE := (Option.some.inj hm).symm
   obtain ⟨hE0, hE1⟩ := Prod.mk.inj hE
   clear hE
   replace hE0 := hE0.symm
   subst hE0
   replace hE1 := hE1.symm
   subst hE1
   refine we_sh [.blk g4 [.int .i64 a1, .int .i64 a2] 51, mapG (keyOfK pairKey51) (treeF T_l_u8 22 1) none qb0 (mput (a1, a2) (l26 ++ [l3]) e0)] (fun _ h => h.closeG 2 0 rfl rfl rfl (by rw [mlook_mput]; rfl)) ?_
   skip
   refine ret_one (Hr := [_]) [1] Tryz.results20 (res_tmp rfl) ⟨rfl, rfl, rfl⟩ (asK [] rfl) rfl rfl (.inl rfl)
theorem w_net_Net_Send_s (N : Nat) (qg0 : Nat) (qb1 : Nat) (e0 : List ((Int × Int) × List (List Int))) (a1 : Int) (a2 : Int) (qp2 : Option Addr) (qc3 : Nat) (l3 : List Int) (o0 : Nat) (o1 : List ((Int × Int) × List (List Int))) (hm : m_net_Net_Send N e0 a1 a2 l3 = some (o0, o1)) : Spec Tryz.prog 7 [.pointer (some ⟨qg0,0, none⟩), .int .i64 a1, .int .i64 a2, .slice qp2 l3.length qc3] [.sli 1 R_u8 qp2 qc3 l3] [.blk qg0 [.map (some qb1)] 47, mapG (keyOfK pairKey51) (treeF T_l_u8 22 1) none qb1 e0] (fun v Φr Hr => v = .int .i64 ((o0 : Nat) : Int) ∧ Φr = [] ∧ Hr = [.blk qg0 [.map (some qb1)] 47, mapG (keyOfK pairKey51) (treeF T_l_u8 22 1) none qb1 o1]) := by
 unfold m_net_Net_Send at hm
 refine spec_of Tryz.func7 rfl Tryz.ntmps7 rfl (S := [_,_,_,_]) rfl (fun C => (wc_seq (wc_region (wP rfl (wl_nil (we_then (wc_keep [0,1,2,3] (S' := [_,_,_,_]) rfl (wc_seq (wc_region (wP rfl ?_))))))))))
 obtain ⟨_, hc10, hm⟩ := bindO_some hm
 try dsimp only at hm
 refine wC [0,1] [] rfl fn_19 rfl (w_net_Net_all_s N qg0 qb1 e0 hc10) (asK [] rfl) rfl (H' := []) rfl ?_
 rintro _ _ _ ⟨rfl, rfl, rfl⟩
 refine wP rfl (wP rfl (wl_buildArr rfl rfl rfl (freshS_eq rfl) rfl tZ_51 tArr_51 rfl (out := [_,_]) rfl (wP rfl ?_)))
 obtain ⟨⟨v15_0, v15_1⟩, hc15, hm⟩ := bindO_some hm
 try dsimp only at hm
 refine wC [0] [1] rfl fn_20 rfl (w_net_bags_put_s N qb1 e0 a1 a2 qp2 qc3 l3 _ _ hc15) (asK [0] rfl) rfl (H' := [_]) rfl ?_
 rintro _ _ _ ⟨rfl, rfl, rfl⟩
 refine wP rfl (wl_nil (we_then (wc_keep [8] (S' := [_]) rfl (wc_ret ?_))))
 have hE := (Option.some.inj hm).symm
 obtain ⟨hE0, hE1⟩ := Prod.mk.inj hE
 clear hE
 replace hE0 := hE0.symm
 subst hE0
 replace hE1 := hE1.symm
 subst hE1
 refine ret_one (Hr := [_,_]) [1,0] Tryz.results7 (res_tmp rfl) ⟨rfl, rfl, rfl⟩ (asK [] rfl) rfl rfl (.inl rfl)
theorem w_net_bags_at_s (N : Nat) (qb0 : Nat) (e0 : List ((Int × Int) × List (List Int))) (a1 : Int) (a2 : Int) (a3 : Int) (o0 : Nat) (hm : m_net_bags_at N e0 a1 a2 a3 = some o0) : Spec Tryz.prog 21 [.map (some qb0), .agg #[.int .i64 a1, .int .i64 a2], .int .i64 a3] [] [mapG (keyOfK pairKey51) (treeF T_l_u8 22 1) none qb0 e0] (fun v Φr Hr => v = .int .i64 ((o0 : Nat) : Int) ∧ Φr = [] ∧ Hr = [mapG (keyOfK pairKey51) (treeF T_l_u8 22 1) none qb0 e0]) := by
 unfold m_net_bags_at at hm
 refine spec_of Tryz.func21 rfl Tryz.ntmps21 rfl (S := [_,_,_]) rfl (fun C => (wc_seq (wc_region (wB rfl (fun g4 => (wP rfl (wl_nil (we_then (wc_keep [4,0,2] (S' := [_,_,_]) rfl (wc_seq (wc_block (wc_seq (wc_region (wP rfl (wl_bin rfl rfl rfl (freshS_eq rfl) rfl rfl rfl (eqlM tM_43 _ _ _) ?_)))))))))))))))
 refine wP rfl (wl_nil (we_then (wc_keep [7,4,0,2] (S' := [_,_,_,_]) rfl (wc_false rfl (wc_keep [4,0,2] (S' := [_,_,_]) rfl (wc_seq ?_))))))
 obtain ⟨bj_1, hm, hLj_1⟩ := bindO_some hm
 refine wc_cut (σ := Bool) (fun j_1_10 => bj_1 = j_1_10) (fun j_1_10 => [(10, .bool j_1_10)]) (fun j_1_10 => []) (fun j_1_10 => [mapG (keyOfK pairKey51) (treeF T_l_u8 22 1) none qb0 e0]) ?_ ?_
 ·
  refine wc_region (wP rfl (wP rfl (wP rfl ?_)))
  refine wl_split (d := 13) (S' := [_,_,_,_,_]) rfl rfl (fun hs13 => ?_) (fun hs13 => ?_)
  ·
   replace hm := iteT hm hs13
   refine wO rfl (wO rfl (wO rfl (wO rfl (wO rfl (wO rfl (wP rfl (wP rfl (wl_nil ?_))))))))
   have hE := (Option.some.inj hm).symm
   refine we_pick [1] rfl (H' := [_]) rfl ?_
   refine we_join true hE [10] rfl (asK [] rfl) rfl
  ·
   replace hm := iteF hm hs13
   refine wP rfl (wP rfl (wl_loadH 0 0 rfl rfl rfl (freshS_eq rfl) rfl rfl rfl (cs := [_,_]) rfl tS_51 tA_51 rfl rfl ?_))
   obtain ⟨hk17_0, hm⟩ := gd_some hm
   obtain ⟨hk17_1, hm⟩ := gd_some hm
   obtain ⟨l17, hl17, hm⟩ := bindO_some hm
   refine wl_lookG (i := (a1, a2)) (l := l17) form_tree 1 rfl rfl rfl (freshS_eq rfl) rfl rfl rfl rfl tZG_35 tM_43 ⟨hk17_0, hk17_1⟩ (Option.some.inj hl17) (fun p17 c17 => (wN rfl tE_35 (wP rfl (wP rfl (wP rfl (wl_nil ?_))))))
   have hE := (Option.some.inj hm).symm
   refine we_sh [.blk g4 [.int .i64 a1, .int .i64 a2] 51, mapG (keyOfK pairKey51) (treeF T_l_u8 22 1) none qb0 e0] (fun _ h => h.closeG 2 0 rfl rfl rfl (Option.some.inj hl17)) ?_
   skip
   refine we_pick [1] rfl (H' := [_]) rfl ?_
   refine we_join (decide (a3 ≥ ((l17.length : Nat) : Int))) hE [10] rfl (asK [] rfl) rfl
 ·
  rintro j_1_10 hE
  try dsimp only
  have hm := hLj_1
  rw [hE] at hm
  refine wc_cond rfl (fun hb10 => ?_) (fun hb10 => ?_)
  ·
   replace hm := iteT hm hb10
   refine wc_keep [] (S' := []) rfl (wc_seq (wc_region (wP rfl (wl_nil (we_then (wc_ret (we_block_ret (we_then_ret ?_))))))))
   have hE := (Option.some.inj hm).symm
   replace hE := hE.symm
   subst hE
   refine ret_one (Hr := [_]) [0] Tryz.results21 (res_tmp rfl) ⟨rfl, rfl, rfl⟩ (asK [] rfl) rfl rfl (.inl rfl)
  ·
   replace hm := iteF hm hb10
   refine wc_keep [] (S' := []) rfl (wc_skip (we_block_normal (we_then (wc_seq (wc_region (wP rfl (wl_nil (we_then (wc_ret ?_)))))))))
   have hE := (Option.some.inj hm).symm
   replace hE := hE.symm
   subst hE
   refine ret_one (Hr := [_]) [0] Tryz.results21 (res_tmp rfl) ⟨rfl, rfl, rfl⟩ (asK [] rfl) rfl rfl (.inl rfl)
theorem Clone28o_s (p : Option Addr) (c : Nat) (l : List Int) (hb : l.length ≤ 140737488355328) : Spec Tryz.prog 28 [.slice p l.length c] [] [.own 5 1 R_u8 (.slice p l.length c) l] (fun v Φr Hr => ∃ p' c', v = .slice p' l.length c' ∧ Φr = [] ∧ Hr = [.own 5 1 R_u8 v l, .own 5 1 R_u8 (.slice p l.length c) l]) := by
 refine spec_of Tryz.func28 rfl Tryz.ntmps28 rfl (S := [_]) rfl (fun C => (wc_ownNil 0 rfl (fun isnil => (wc_seq (wc_region (wP rfl (wl_nil (we_then (wc_seq (wc_seq (wc_region (wP rfl (wl_eqlNil rfl rfl rfl (freshS_eq rfl) rfl rfl rfl tE_22 (wl_nil (we_then ?_)))))))))))))))
 refine wc_keep [4,2,0] (S' := [_,_,_]) rfl ?_
 refine wc_cond rfl (fun h4 => ?_) (fun h4 => ?_)
 ·
  replace h4 := isNone_true h4
  obtain rfl := isnil h4
  subst h4
  refine wc_rowNil 5 1 R_u8 (wc_seq (wc_region (wl_pure (S' := [_,_]) rfl rfl rfl rfl rfl (wl_nil (we_then (wc_ret (we_then_ret (ret_one (Hr := [.own 5 1 R_u8 (.slice none 0 0) [], .own 5 1 R_u8 (.slice none ([] : List Int).length c) ([] : List Int)]) [0,1] Tryz.results28 (res_tmp rfl) ?_ (asK [] rfl) rfl rfl (.inl rfl)))))))))
  exact ⟨none, 0, rfl, rfl, rfl⟩
 ·
  replace h4 := isNone_false h4
  refine wc_skip (we_then (wc_seq (wc_region (wl_buildSlice rfl rfl rfl (freshS_eq rfl) rfl tE_22 tS_5 tZ_5 rfl (zs := []) (by kernel_rfl) rfl (out := []) rfl (fun g5 => (wP rfl (wl_row (sz := 1) (m := 0) R_u8 [] 0 rfl (fun F w hφ => rfl) rfl (by decide) (H' := [_,_]) rfl (wl_appendO 0 1 rfl rfl rfl (freshS_eq rfl) rfl rfl rfl rfl rfl tE_22 tR_5 rfl rfl (by simp; omega) (by simp; omega) (H2 := fun p7 c7 => [.own 5 1 R_u8 (.slice p7 (l).length c7) l, .own 5 1 R_u8 (.slice p l.length c) l]) (fun _ _ => rfl) (fun p7 c7 => (wl_pure (S' := [_,_,_,_,_]) rfl rfl rfl rfl rfl (wl_nil (we_then (wc_keep [2,4,0] (S' := [_,_,_]) rfl (wc_ret (ret_one (Hr := [.own 5 1 R_u8 (.slice p7 (l).length c7) l, .own 5 1 R_u8 (.slice p l.length c) l]) [0,1] Tryz.results28 (res_tmp rfl) ?_ (asK [] rfl) rfl rfl (.inl rfl))))))))))))))))
  exact ⟨_,_, rfl, rfl, rfl⟩
theorem putSelf_20 (b j : Nat) (e0 : List ((Int × Int) × List (List Int))) (a1 a2 : Int) (l : List (List Int)) (zz : List ((List Int) × (Option Addr × Nat))) (hzz : List.map (fun x : (List Int) × (Option Addr × Nat) => x.1) zz = l) (x : List Int) (r : Option Addr × Nat) (p : Option Addr) (c : Nat)
    (hk0 : -9223372036854775808 ≤ a1 ∧ a1 ≤ 9223372036854775807) (hk1 : -9223372036854775808 ≤ a2 ∧ a2 ≤ 9223372036854775807) (h1 : x.length ≤ 1048576) (h2 : l.length < 64) :
    Spec Tryz.prog 20 [.map (some b), .agg #[.int .i64 a1, .int .i64 a2], .slice r.1 x.length r.2] [] [mapG (keyOfK pairKey51) (treeF T_l_u8 22 1) (some ((a1, a2), .slice p l.length c)) b e0, .own 22 1 T_l_u8.pair (.slice p l.length c) zz, bagF T_l_u8 zz (some j), .own 5 1 R_u8 (.slice r.1 x.length r.2) x]
      (fun v Φr Hr => ∃ (p' : Option Addr) (c' : Nat) (q : Option Addr) (d : Nat), v = .int .i64 0 ∧ Φr = [] ∧ Hr = [mapG (keyOfK pairKey51) (treeF T_l_u8 22 1) (some ((a1, a2), .slice p' ((l ++ [x]).length) c')) b (mput (a1, a2) (l ++ [x]) e0), .own 22 1 T_l_u8.pair (.slice p' ((l ++ [x]).length) c') (zz ++ [(x, (q, d))]), bagF T_l_u8 zz (some j), .own 5 1 R_u8 (.slice r.1 x.length r.2) x, .own 5 1 R_u8 (.slice q x.length d) x]) := by
 refine spec_of Tryz.func20 rfl Tryz.ntmps20 rfl (S := [_,_,_]) rfl (fun C => (wc_seq (wc_region (wB rfl (fun g4 => (wP rfl (wl_nil (we_then (wc_keep [4,0,2] (S' := [_,_,_]) rfl (wc_seq (wc_block (wc_seq (wc_region (wP rfl (wl_bin rfl rfl rfl (freshS_eq rfl) rfl rfl rfl (eqlM tM_43 _ _ _) ?_)))))))))))))))
 refine wP rfl (wl_nil (we_then (wc_keep [7,4,0,2] (S' := [_,_,_,_]) rfl (wc_false rfl (wc_keep [4,0,2] (S' := [_,_,_]) rfl (wc_seq (wc_region (wP rfl (wN rfl tE_22 (wP rfl (wl_as (d := 13) (v' := .bool (decide (1048576 < x.length))) (S' := [_,_,_,_,_]) rfl rfl (natgt (a := x.length) (b := 1048576)) (wP rfl (wl_nil ?_)))))))))))))
 refine we_then (wc_keep [10,4,0,2] (S' := [_,_,_,_]) rfl ?_)
 refine wc_cond rfl (fun hb10 => ?_) (fun hb10 => ?_)
 · exfalso
   have := of_decide_eq_true hb10
   omega
 refine wc_keep [4,0,2] (S' := [_,_,_]) rfl (wc_seq (wc_region (wP rfl (wl_loadH 0 0 rfl rfl rfl (freshS_eq rfl) rfl rfl rfl (cs := [_,_]) rfl tS_51 tA_51 rfl rfl (wl_lookX (i := (a1, a2)) (v := .slice p l.length c) 1 rfl rfl rfl (freshS_eq rfl) rfl rfl rfl rfl tZG_35 tM_43 ⟨hk0, hk1⟩ (wN rfl tE_35 (wP rfl (wl_as (d := 19) (v' := .bool (decide (64 ≤ l.length))) (S' := [_,_,_,_,_,_,_]) rfl rfl (natge (a := l.length) (b := 64)) (wP rfl (wl_nil (we_then (wc_keep [14,4,0,2] (S' := [_,_,_,_]) rfl ?_))))))))))))
 refine wc_cond rfl (fun hb14 => ?_) (fun hb14 => ?_)
 · exfalso
   have := of_decide_eq_true hb14
   omega
 refine wc_keep [4,0,2] (S' := [_,_,_]) rfl (wc_skip (we_block_normal (we_then (wc_seq (wc_draw [0,1,2,6,8] rfl rfl (fun hok => (xP hok 0 rfl (wx_loadH hok 1 0 0 rfl rfl rfl (freshS_eq rfl) rfl rfl rfl rfl (cs := [_,_]) rfl tS_51 tA_51 rfl rfl (xP hok 2 rfl (xS hok 3 rfl (wC [4] [0,1,2,3] rfl fn_28 rfl (Clone28o_s r.1 r.2 x (Nat.le_trans h1 (by decide))) (asK [] rfl) rfl (H' := [_,_,_,_]) rfl ?_)))))))))))
 rintro _ _ _ ⟨p24, c24, rfl, rfl, rfl⟩
 refine wl_nil (we_x [] [2] rfl rfl (xS hok 4 rfl (wl_buildSlice rfl rfl rfl (freshS_eq rfl) rfl tE_35 tS_22 tZ_22 rfl (zs := [.slice none 0 0]) (by kernel_rfl) rfl (out := [_]) rfl (fun g25 => (wl_nil (we_x [] [3] rfl rfl (xS hok 5 rfl (wl_entryX (i := (a1, a2)) (v := .slice p l.length c) 4 rfl rfl rfl (freshS_eq rfl) rfl rfl rfl rfl tZG_35 tM_43 ⟨hk0, hk1⟩ rfl (fun g26 => (wl_nil (we_x [] [] rfl rfl (xP hok 6 rfl (xP hok 8 rfl (xS hok 7 rfl ?_))))))))))))))
 have hzs2 : List.map (fun x : (List Int) × (Option Addr × Nat) => x.1) (zz ++ [(x, (p24, c24))]) = l ++ [x] := pair_app hzz (us := [x]) rfl
 have hgl27 : zz.length + ([(x, (p24, c24))] : List ((List Int) × (Option Addr × Nat))).length ≤ 5864062014805 := by rw [pair_len hzz]; simp; omega
 refine wl_appendH (R := T_l_u8.pair) ([(x, (p24, c24))]) 5 0 rfl rfl rfl (freshS_eq rfl) rfl rfl rfl rfl rfl (fun F w hφ => ⟨[.slice p24 x.length c24],[], rfl, rfl, rfl, rfl⟩) tE_35 tR_22 rfl rfl (Nat.le_trans hgl27 (by decide)) (Nat.le_trans (Nat.mul_le_mul_right _ hgl27) (by decide)) (H2 := fun p27 c27 => [_,_,_,_,_, .own 22 1 T_l_u8.pair (.slice p27 ((zz ++ [(x, (p24, c24))]).length) c27) (zz ++ [(x, (p24, c24))]), _]) (fun _ _ => rfl) (fun p27 c27 => (wl_drop 0 rfl (H' := [_,_,_,_,_,_]) rfl (wl_as (d := 27) (v' := .slice p27 ((l ++ [x]).length) c27) (S' := [_,_,_,_,_,_,_,_,_,_,_]) rfl rfl (by rw [pair_len hzs2]) (wl_hAs 4 (φ' := .own 22 1 T_l_u8.pair (.slice p27 ((l ++ [x]).length) c27) (zz ++ [(x, (p24, c24))])) rfl (by rw [pair_len hzs2]) (H' := [_,_,_,_, .own 22 1 T_l_u8.pair (.slice p27 ((l ++ [x]).length) c27) (zz ++ [(x, (p24, c24))]), _]) rfl (wl_nil (we_x [] [2] rfl rfl (xS hok 9 rfl (wl_entryStore (i := (a1, a2)) (u := .slice p27 ((l ++ [x]).length) c27) 3 (l ++ [x]) rfl rfl rfl rfl rfl rfl rfl tM_43 ⟨hk0, hk1⟩ rfl (H' := [_,_,_, mapG (keyOfK pairKey51) (treeF T_l_u8 22 1) (some ((a1, a2), .slice p27 ((l ++ [x]).length) c27)) b (mput (a1, a2) (l ++ [x]) e0), _,_]) rfl (wl_nil (we_x [] [] rfl rfl (wx_done hok rfl (we_then (wc_keep [] (S' := []) rfl (wc_seq ?_))))))))))))))
 refine wc_region (wP rfl (wl_nil (we_then (wc_ret ?_))))
 refine ret_one (Hr := [_,_,_,_,_]) [3,4,5,1,0] Tryz.results20 (res_tmp rfl) ⟨p27, c27, p24, c24, rfl, rfl, rfl⟩ (asK [] rfl) rfl rfl (.inl rfl)
theorem w_net_Net_Double_s (N : Nat) (qg0 : Nat) (qb1 : Nat) (e0 : List ((Int × Int) × List (List Int))) (a1 : Int) (a2 : Int) (a3 : Int) (o0 : Nat) (o1 : List ((Int × Int) × List (List Int))) (hm : m_net_Net_Double N e0 a1 a2 a3 = some (o0, o1)) : Spec Tryz.prog 8 [.pointer (some ⟨qg0,0, none⟩), .int .i64 a1, .int .i64 a2, .int .i64 a3] [] [.blk qg0 [.map (some qb1)] 47, mapG (keyOfK pairKey51) (treeF T_l_u8 22 1) none qb1 e0] (fun v Φr Hr => v = .int .i64 ((o0 : Nat) : Int) ∧ Φr = [] ∧ Hr = [.blk qg0 [.map (some qb1)] 47, mapG (keyOfK pairKey51) (treeF T_l_u8 22 1) none qb1 o1]) := by
 unfold m_net_Net_Double at hm
 refine spec_of Tryz.func8 rfl Tryz.ntmps8 rfl (S := [_,_,_,_]) rfl (fun C => (wc_seq (wc_region (wP rfl (wl_nil (we_then (wc_keep [0,1,2,3] (S' := [_,_,_,_]) rfl (wc_seq (wc_region (wP rfl (wP rfl (wl_buildArr rfl rfl rfl (freshS_eq rfl) rfl tZ_51 tArr_51 rfl (out := [_,_]) rfl (wl_alloc rfl rfl rfl (freshS_eq rfl) rfl tZ_51 rfl (fun g9 => (wS 0 0 rfl tS_51 (all' := [_,_]) rfl (H' := [_,_,_]) rfl ?_)))))))))))))))
 refine wl_nil (we_then (wc_keep [9,0,3] (S' := [_,_,_]) rfl (wc_seq (wc_seq ?_))))
 obtain ⟨_, hc15, hm⟩ := bindO_some hm
 try dsimp only at hm
 obtain ⟨v18, hc18, hm⟩ := bindO_some hm
 refine wc_draw [0,2,3] rfl rfl (fun hok => (xP hok 0 rfl (wx_loadH hok 2 0 0 rfl rfl rfl (freshS_eq rfl) rfl rfl rfl rfl (cs := [_,_]) rfl tS_51 tA_51 rfl rfl (xP hok 3 rfl (xS hok 1 rfl (wC [1,2] [0] rfl fn_19 rfl (w_net_Net_all_s N qg0 qb1 e0 hc15) (asK [] rfl) rfl (H' := [_]) rfl ?_))))))
 rintro _ _ _ ⟨rfl, rfl, rfl⟩
 refine wl_nil (we_x [] [2] rfl rfl (xS hok 4 rfl (wC [0] [1,2] rfl fn_21 rfl (w_net_bags_at_s N qb1 e0 a1 a2 a3 _ hc18) (asK [] rfl) rfl (H' := [_,_]) rfl ?_)))
 rintro _ _ _ ⟨rfl, rfl, rfl⟩
 refine wl_nil (we_x [] [] rfl rfl (xS hok 5 rfl (wP rfl (wl_nil (we_x [] [] rfl rfl (wx_done hok rfl (we_then (wc_keep [10,9,0,3] (S' := [_,_,_,_]) rfl (wc_seq (wc_region (wP rfl (wP rfl (wl_as (d := 20) (v' := .bool (v18 != 0)) (S' := [_,_,_,_,_]) rfl rfl (natne (a := v18) (b := 0)) ?_)))))))))))))
 refine wl_nil (we_then (wc_keep [20,10,9,0,3] (S' := [_,_,_,_,_]) rfl ?_))
 refine wc_cond rfl (fun hb20 => ?_) (fun hb20 => ?_)
 ·
  replace hm := iteT hm hb20
  refine wc_keep [10] (S' := [_]) rfl (wc_seq (wc_region (wP rfl (wP rfl (wl_nil (we_then (wc_keep [8] (S' := [_]) rfl (wc_ret (we_then_ret ?_)))))))))
  have hE := (Option.some.inj hm).symm
  obtain ⟨hE0, hE1⟩ := Prod.mk.inj hE
  clear hE
  replace hE0 := hE0.symm
  subst hE0
  replace hE1 := hE1.symm
  subst hE1
  refine ret_one (Hr := [_,_]) [1,0] Tryz.results8 (res_tmp rfl) ⟨rfl, rfl, rfl⟩ (asK [] rfl) rfl rfl (.inl rfl)
 ·
  replace hm := iteF hm hb20
  refine wc_keep [9,0,3] (S' := [_,_,_]) rfl (wc_skip (we_then (wc_seq ?_)))
  obtain ⟨_, hc23, hm⟩ := bindO_some hm
  try dsimp only at hm
  obtain ⟨_, hc26, hm⟩ := bindO_some hm
  try dsimp only at hm
  obtain ⟨hk28_0, hm⟩ := gd_some hm
  obtain ⟨hk28_1, hm⟩ := gd_some hm
  obtain ⟨l28, hl28, hm⟩ := bindO_some hm
  obtain ⟨hn30, hm⟩ := gd_some hm
  obtain ⟨x30, hx30, hm⟩ := bindO_some hm
  obtain ⟨hga32, hm⟩ := gd_some hm
  obtain ⟨hgb32, hm⟩ := gd_some hm
  skip
  refine wc_draw [0,2,3,5,7] rfl rfl (fun hok => (xP hok 0 rfl (wx_loadH hok 2 2 0 rfl rfl rfl (freshS_eq rfl) rfl rfl rfl rfl (cs := [_,_]) rfl tS_51 tA_51 rfl rfl (xP hok 3 rfl (wx_loadH hok 5 2 0 rfl rfl rfl (freshS_eq rfl) rfl rfl rfl rfl (cs := [_,_]) rfl tS_51 tA_51 rfl rfl (xP hok 7 rfl (xS hok 1 rfl (wC [1,0] [2] rfl fn_19 rfl (w_net_Net_all_s N qg0 qb1 e0 hc23) (asK [] rfl) rfl (H' := [_]) rfl ?_))))))))
  rintro _ _ _ ⟨rfl, rfl, rfl⟩
  refine wl_nil (we_x [] [2,2] rfl rfl (xS hok 4 rfl (wC [1,0] [2] rfl fn_19 rfl (w_net_Net_all_s N qg0 qb1 e0 hc26) (asK [] rfl) rfl (H' := [_]) rfl ?_)))
  rintro _ _ _ ⟨rfl, rfl, rfl⟩
  refine wl_nil (we_x [] [2,2] rfl rfl (xS hok 6 rfl (wl_lookG (i := (a1, a2)) (l := l28) form_tree 0 rfl rfl rfl (freshS_eq rfl) rfl rfl rfl rfl tZG_35 tM_43 ⟨hk28_0, hk28_1⟩ (Option.some.inj hl28) (fun p28 c28 => (wl_nil (we_x [] [3] rfl rfl (xS hok 8 rfl (wl_treeOut 0 rfl (fun zz30 hzz30 => ?_)))))))))
  obtain ⟨rr30, hrr30⟩ := zip_at hzz30 hx30
  refine wl_indexH 1 a3.toNat rfl rfl rfl (freshS_eq rfl) rfl rfl rfl rfl (toNat_eq hn30) (get_lt hrr30) tE_35 tS_22 (fun g30 eg30 => ?_)
  subst eg30
  refine wl_nil (we_x [] [4,4] rfl rfl (xS hok 9 rfl (wl_sh [.own 5 1 R_u8 (.slice rr30.1 x30.length rr30.2) x30, bagF T_l_u8 zz30 (some a3.toNat), _,_,_,_] (fun _ h => h.bagOpen 0 a3.toNat rfl hrr30) (wl_loadRow pair_opens 2 a3.toNat 0 rfl rfl rfl (freshS_eq rfl) rfl rfl rfl hrr30 tS_22 tA_22 (v := fun _ => .slice rr30.1 x30.length rr30.2) (fun _ => rfl) (fun _ => rfl) (fun _ _ => (wl_nil (we_x [] [5,5] rfl rfl (xS hok 10 rfl (wC [3,2,1,0] [4,5] rfl fn_20 rfl (putSelf_20 qb1 a3.toNat e0 a1 a2 l28 zz30 hzz30 x30 rr30 (some ⟨g30,0, none⟩) c28 hk28_0 hk28_1 hga32 hgb32) (asK [] rfl) rfl (H' := [_,_]) rfl ?_)))))))))
  rintro _ _ _ ⟨p32, c32, p32_2, c32_2, rfl, rfl, rfl⟩
  have hzs2 : List.map (fun x : (List Int) × (Option Addr × Nat) => x.1) (zz30 ++ [(x30, (p32_2, c32_2))]) = l28 ++ [x30] := pair_app hzz30 (us := [x30]) rfl
  refine wl_pick [3,0,1,2,4,5,6] rfl (H' := [_,_,_,_,_,_,_]) rfl (wl_sh [_,_, bagF T_l_u8 (zz30.set a3.toNat (x30, rr30)) none, _,_,_] (fun _ h => Holds.bagClose (T := T_l_u8) (x := x30) (r := rr30) (i := a3.toNat) (zs := zz30) (H := [_,_,_,_,_,_]) h 2 rfl) (wl_hAs 2 (φ' := bagF T_l_u8 zz30 none) rfl (by rw [set_getZ hrr30]) (H' := [_,_,_,_,_,_]) rfl (wl_pick [3,0,1,2,4,5] rfl (H' := [_,_,_,_,_,_]) rfl (wl_sh [_,_, bagF T_l_u8 (zz30 ++ [(x30, (p32_2, c32_2))]) none, _,_] (fun _ h => Holds.bagPush (T := T_l_u8) (x := x30) (r := (p32_2, c32_2)) (zs := zz30) (H := [_,_,_,_,_]) h 2 rfl) (wl_sh [_, treeF T_l_u8 22 1 (.slice p32 ((l28 ++ [x30]).length) c32) (l28 ++ [x30]), _,_] (fun _ h => h.treeIn 1 2 rfl rfl rfl hzs2) (wl_sh [mapG (keyOfK pairKey51) (treeF T_l_u8 22 1) none qb1 (mput (a1, a2) (l28 ++ [x30]) e0), .blk qg0 [.map (some qb1)] 47, .blk g9 [.int .i64 a1, .int .i64 a2] 51] (fun _ h => h.closeG 0 1 rfl rfl rfl (by rw [mlook_mput]; rfl)) ?_))))))
  skip
  refine wl_nil (we_x [] [2] rfl rfl (xS hok 11 rfl (wP rfl (wl_nil (we_x [] [] rfl rfl (wx_done hok rfl (we_then (wc_keep [8] (S' := [_]) rfl (wc_ret ?_)))))))))
  have hE := (Option.some.inj hm).symm
  obtain ⟨hE0, hE1⟩ := Prod.mk.inj hE
  clear hE
  replace hE0 := hE0.symm
  subst hE0
  replace hE1 := hE1.symm
  subst hE1
  refine ret_one (Hr := [_,_]) [1,0] Tryz.results8 (res_tmp rfl) ⟨rfl, rfl, rfl⟩ (asK [] rfl) rfl rfl (.inl rfl)
theorem w_ropewalkkit_KeptBytes_W_s (N : Nat) (qp0 : Option Addr) (qc1 : Nat) (l0 : List Int) (k1 : Nat) (qp2 : Option Addr) (qc3 : Nat) (l2 : List Int) (o0 : Bool) (hm : m_ropewalkkit_KeptBytes_W N l0 k1 l2 = some o0) : Spec Tryz.prog 9 [.slice qp0 k1 qc1, .slice qp2 l2.length qc3] [.sli 1 R_u8 qp0 qc1 l0, .sli 1 R_u8 qp2 qc3 l2] [] (fun v Φr Hr => v = .bool o0 ∧ Φr = [] ∧ Hr = []) := by
 unfold m_ropewalkkit_KeptBytes_W at hm
 refine spec_of Tryz.func9 rfl Tryz.ntmps9 rfl (S := [_,_]) rfl (fun C => (wc_seq (wc_region (wP rfl (wl_nil (we_then (wc_keep [0,1] (S' := [_,_]) rfl (wc_seq (wc_seq (wc_region (wP rfl (wN rfl tE_22 (wP rfl (wN rfl tE_22 ?_))))))))))))))
 refine wP rfl (wl_as (d := 11) (v' := .bool (k1 != l2.length)) (S' := [_,_,_,_,_,_]) rfl rfl (natne (a := k1) (b := l2.length)) (wl_nil (we_then (wc_keep [11,0,1] (S' := [_,_,_]) rfl ?_))))
 refine wc_cond rfl (fun hb11 => ?_) (fun hb11 => ?_)
 ·
  replace hm := iteT hm hb11
  refine wc_keep [] (S' := []) rfl (wc_seq (wc_region (wP rfl (wl_nil (we_then (wc_ret (we_then_ret ?_)))))))
  have hE := (Option.some.inj hm).symm
  replace hE := hE.symm
  subst hE
  refine ret_one (Hr := []) [] Tryz.results9 (res_tmp rfl) ⟨rfl, rfl, rfl⟩ (asK [] rfl) rfl rfl (.inl rfl)
 ·
  replace hm := iteF hm hb11
  refine wc_keep [0,1] (S' := [_,_]) rfl (wc_skip (we_then (wc_seq (wc_region (wP rfl (wP rfl (wN rfl tE_22 (wP rfl ?_))))))))
  obtain ⟨hg15, hm⟩ := gd_some hm
  refine wl_as (d := 15) (v' := .int .i64 ((l2.length + 12 : Nat) : Int)) (S' := [_,_,_,_,_]) rfl rfl (nat_add (a := l2.length) (b := 12) hg15) ?_
  obtain ⟨hg16, hm⟩ := gd_some hm
  refine wl_sliToF 0 rfl rfl rfl (freshS_eq rfl) rfl rfl rfl rfl rfl tE_22 tS_5 hg16 (fun p16 => (wP rfl (wl_nil (we_then (wc_keep [5,1] (S' := [_,_]) rfl (wc_seq ?_))))))
  obtain ⟨bj_1, hm, hLj_1⟩ := bindS_some hm
  refine wc_cut (σ := Unit) (fun _ => bj_1 = .inl ()) (fun _ => []) (fun _ => []) (fun _ => []) ?_ ?_
  ·
   refine wc_seq (wc_region (wP rfl (wl_nil (we_then (wc_block (wc_loop (σ := Nat × Nat) (fun (nu1, u1_6) => iter (m_ropewalkkit_KeptBytes_W_L1 N l0 l2) nu1 u1_6 = some bj_1) (fun (nu1, u1_6) => nu1) (fun (nu1, u1_6) => [(6, .int .i64 ((u1_6 : Nat) : Int)), (5, .slice p16 ((l0.take (l2.length + 12)).length) qc1), (1, .slice qp2 l2.length qc3)]) (fun (nu1, u1_6) => [.sli 1 R_u8 p16 qc1 (l0.take (l2.length + 12)), .sli 1 R_u8 qp2 qc3 l2]) (fun (nu1, u1_6) => []) (N, 0) hm [6,5,1] rfl (asK [0,2] rfl) rfl (fun s_ hm => ?_)))))))
   obtain ⟨nu1, u1_6⟩ := s_
   try dsimp only at hm ⊢
   obtain ⟨mu1, bu1, hnu1, hq, hLu1⟩ := iter_some hm
   clear hm
   subst hnu1
   replace hm := hq
   clear hq
   unfold m_ropewalkkit_KeptBytes_W_L1 at hm
   try dsimp only at hm
   refine wc_seq (wc_seq (wc_region (wP rfl (wP rfl (wN rfl tE_22 (wP rfl (wl_as (d := 20) (v' := .bool (decide (u1_6 < ((l0.take (l2.length + 12)).length)))) (S' := [_,_,_,_,_,_]) rfl rfl (natlt (a := u1_6) (b := (l0.take (l2.length + 12)).length)) (wl_nil (we_then (wc_keep [20,6,5,1] (S' := [_,_,_,_]) rfl ?_))))))))))
   refine wc_cond rfl (fun hb20 => ?_) (fun hb20 => ?_)
   ·
    replace hm := iteT hm hb20
    refine wc_keep [6,5,1] (S' := [_,_,_]) rfl (wc_skip (we_then (wc_seq (wc_block (wc_seq ?_)))))
    obtain ⟨bj_2, hm, hLj_2⟩ := bindO_some hm
    unfold m_ropewalkkit_KeptBytes_W_C2 at hm
    refine wc_cut (σ := Bool) (fun j_2_57 => bj_2 = j_2_57) (fun j_2_57 => [(6, .int .i64 ((u1_6 : Nat) : Int)), (5, .slice p16 ((l0.take (l2.length + 12)).length) qc1), (1, .slice qp2 l2.length qc3), (57, .bool j_2_57)]) (fun j_2_57 => [.sli 1 R_u8 p16 qc1 (l0.take (l2.length + 12)), .sli 1 R_u8 qp2 qc3 l2]) (fun j_2_57 => []) ?_ ?_
    ·
     rcases ite_some hm with ⟨hs27, hm⟩ | ⟨hs27, hm⟩
     ·
      obtain ⟨x30, hx30, hm⟩ := bindO_some hm
      obtain ⟨x34, hx34, hm⟩ := bindO_some hm
      rcases ite_some hm with ⟨hs39, hm⟩ | ⟨hs39, hm⟩
      ·
       refine wc_draw [0,1,2,3,4,5,6,7,8,9,10,11,12,13,14,15,16,17,18,19,20,21,22,23,24,25,26,27,28,29,31,32,33,34] rfl rfl (fun hok => (xP hok 0 rfl (xP hok 1 rfl (wx_len hok 2 rfl rfl rfl (freshS_eq rfl) rfl rfl rfl tE_22 (xP hok 3 rfl (wx_as (d := 26) (v' := .bool (decide (u1_6 < l2.length))) (S' := [_,_,_,_,_,_]) rfl rfl (natlt (a := u1_6) (b := l2.length)) (xP hok 4 rfl (wx_as (d := 27) (v' := .bool true) (S' := [_,_,_,_,_,_,_]) rfl rfl (bool_is hs27) (xP hok 5 rfl (xP hok 6 rfl (wx_indexA hok 7 0 u1_6 rfl rfl rfl (freshS_eq rfl) rfl rfl rfl rfl rfl rfl hx30 tE_22 tS_5 (fun b30 q30 cs30 hlx30 => (wx_openR R_u8_opens 1 rfl (fun r30 er30 _ => ?_))))))))))))))
       subst er30
       refine wx_load hok 8 0 0 rfl rfl rfl (freshS_eq rfl) rfl rfl rfl rfl (cs := [_]) rfl tS_5 tA_5 rfl rfl (xP hok 9 rfl (xP hok 10 rfl (wx_indexA hok 11 3 u1_6 rfl rfl rfl (freshS_eq rfl) rfl rfl rfl rfl rfl rfl hx34 tE_22 tS_5 (fun b34 q34 cs34 hlx34 => (wx_openR R_u8_opens 1 rfl (fun r34 er34 _ => ?_))))))
       subst er34
       refine wx_load hok 12 0 0 rfl rfl rfl (freshS_eq rfl) rfl rfl rfl rfl (cs := [_]) rfl tS_5 tA_5 rfl rfl (xP hok 13 rfl (xP hok 14 rfl (xP hok 15 rfl (xP hok 16 rfl (wx_as (d := 39) (v' := .bool true) (S' := [_,_,_,_,_,_,_,_,_,_,_,_,_,_,_,_,_,_,_]) rfl rfl (bool_is hs39) (xO hok 17 rfl (xO hok 18 rfl (xO hok 19 rfl (xO hok 20 rfl (xO hok 21 rfl (xO hok 22 rfl (xO hok 23 rfl (xO hok 24 rfl ?_)))))))))))))
       refine xO hok 25 rfl (xO hok 26 rfl (xO hok 27 rfl (xO hok 28 rfl (xO hok 29 rfl (xS hok 30 rfl (wO rfl (wl_nil (we_x [0,1,2,3,4,5] [] rfl rfl (xO hok 31 rfl (xO hok 32 rfl (xO hok 33 rfl (xP hok 34 rfl (wx_done hok rfl ?_)))))))))))))
       have hE := (Option.some.inj hm).symm
       refine we_join true hE [6,5,1,57] rfl (asK [4,5] rfl) rfl
      ·
       rcases ite_some hm with ⟨hs44, hm⟩ | ⟨hs44, hm⟩
       ·
        obtain ⟨x47, hx47, hm⟩ := bindO_some hm
        obtain ⟨hg52, hm⟩ := gd_some hm
        obtain ⟨_, hc53, hm⟩ := bindO_some hm
        try dsimp only at hm
        refine wc_draw [0,1,2,3,4,5,6,7,8,9,10,11,12,13,14,15,16,17,18,19,20,21,22,23,24,25,26,27,28,29,31,32,33,34] rfl rfl (fun hok => (xP hok 0 rfl (xP hok 1 rfl (wx_len hok 2 rfl rfl rfl (freshS_eq rfl) rfl rfl rfl tE_22 (xP hok 3 rfl (wx_as (d := 26) (v' := .bool (decide (u1_6 < l2.length))) (S' := [_,_,_,_,_,_]) rfl rfl (natlt (a := u1_6) (b := l2.length)) (xP hok 4 rfl (wx_as (d := 27) (v' := .bool true) (S' := [_,_,_,_,_,_,_]) rfl rfl (bool_is hs27) (xP hok 5 rfl (xP hok 6 rfl (wx_indexA hok 7 0 u1_6 rfl rfl rfl (freshS_eq rfl) rfl rfl rfl rfl rfl rfl hx30 tE_22 tS_5 (fun b30 q30 cs30 hlx30 => (wx_openR R_u8_opens 1 rfl (fun r30 er30 _ => ?_))))))))))))))
        subst er30
        refine wx_load hok 8 0 0 rfl rfl rfl (freshS_eq rfl) rfl rfl rfl rfl (cs := [_]) rfl tS_5 tA_5 rfl rfl (xP hok 9 rfl (xP hok 10 rfl (wx_indexA hok 11 3 u1_6 rfl rfl rfl (freshS_eq rfl) rfl rfl rfl rfl rfl rfl hx34 tE_22 tS_5 (fun b34 q34 cs34 hlx34 => (wx_openR R_u8_opens 1 rfl (fun r34 er34 _ => ?_))))))
        subst er34
        refine wx_load hok 12 0 0 rfl rfl rfl (freshS_eq rfl) rfl rfl rfl rfl (cs := [_]) rfl tS_5 tA_5 rfl rfl (xP hok 13 rfl (xP hok 14 rfl (xP hok 15 rfl (xP hok 16 rfl (wx_as (d := 39) (v' := .bool false) (S' := [_,_,_,_,_,_,_,_,_,_,_,_,_,_,_,_,_,_,_]) rfl rfl (bool_is hs39) (xP hok 17 rfl (xP hok 18 rfl (wx_len hok 19 rfl rfl rfl (freshS_eq rfl) rfl rfl rfl tE_22 (xP hok 20 rfl (wx_as (d := 43) (v' := .bool (decide (l2.length ≤ u1_6))) (S' := [_,_,_,_,_,_,_,_,_,_,_,_,_,_,_,_,_,_,_,_,_,_,_]) rfl rfl (natge (a := u1_6) (b := l2.length)) (xP hok 21 rfl (wx_as (d := 44) (v' := .bool true) (S' := [_,_,_,_,_,_,_,_,_,_,_,_,_,_,_,_,_,_,_,_,_,_,_,_]) rfl rfl (bool_is hs44) (xP hok 22 rfl ?_)))))))))))))
        refine xP hok 23 rfl (wx_indexA hok 24 4 u1_6 rfl rfl rfl (freshS_eq rfl) rfl rfl rfl rfl rfl rfl hx47 tE_22 tS_5 (fun b47 q47 cs47 hlx47 => (wx_openR R_u8_opens 1 rfl (fun r47 er47 _ => ?_))))
        subst er47
        refine wx_load hok 25 0 0 rfl rfl rfl (freshS_eq rfl) rfl rfl rfl rfl (cs := [_]) rfl tS_5 tA_5 rfl rfl (xP hok 26 rfl (xP hok 27 rfl (wx_len hok 28 rfl rfl rfl (freshS_eq rfl) rfl rfl rfl tE_22 (xP hok 29 rfl (wx_as (d := 52) (v' := .int .i64 (((u1_6 : Nat) : Int) - ((l2.length : Nat) : Int))) (S' := [_,_,_,_,_,_,_,_,_,_,_,_,_,_,_,_,_,_,_,_,_,_,_,_,_,_,_,_,_,_,_,_]) rfl rfl (i64_in hg52) (xS hok 30 rfl (wC [] [] rfl fn_18 rfl (w_ropewalkkit_markByte_s N 1 (((u1_6 : Nat) : Int) - ((l2.length : Nat) : Int)) hc53) (asK [] rfl) rfl (H' := []) rfl ?_)))))))
        rintro _ _ _ ⟨rfl, rfl, rfl⟩
        refine wl_nil (we_x [0,1,2,3,4,5,6,7] [] rfl rfl (xP hok 31 rfl (xP hok 32 rfl (xP hok 33 rfl (xP hok 34 rfl (wx_done hok rfl ?_))))))
        have hE := (Option.some.inj hm).symm
        refine we_join (!(x47 == (IntKind.wrap .u8 (Int.fdiv (IntKind.wrap .u64 ((IntKind.wrap .u64 (IntKind.wrap .i64 ((IntKind.wrap .i64 (1000003 * (IntKind.wrap .i64 (1 + 7)))) + (((u1_6 : Nat) : Int) - ((l2.length : Nat) : Int))))) * 11400714819323198485)) (2 ^ (56)))))) hE [6,5,1,57] rfl (asK [6,7] rfl) rfl
       ·
        refine wc_draw [0,1,2,3,4,5,6,7,8,9,10,11,12,13,14,15,16,17,18,19,20,21,22,23,24,25,26,27,28,29,31,32,33,34] rfl rfl (fun hok => (xP hok 0 rfl (xP hok 1 rfl (wx_len hok 2 rfl rfl rfl (freshS_eq rfl) rfl rfl rfl tE_22 (xP hok 3 rfl (wx_as (d := 26) (v' := .bool (decide (u1_6 < l2.length))) (S' := [_,_,_,_,_,_]) rfl rfl (natlt (a := u1_6) (b := l2.length)) (xP hok 4 rfl (wx_as (d := 27) (v' := .bool true) (S' := [_,_,_,_,_,_,_]) rfl rfl (bool_is hs27) (xP hok 5 rfl (xP hok 6 rfl (wx_indexA hok 7 0 u1_6 rfl rfl rfl (freshS_eq rfl) rfl rfl rfl rfl rfl rfl hx30 tE_22 tS_5 (fun b30 q30 cs30 hlx30 => (wx_openR R_u8_opens 1 rfl (fun r30 er30 _ => ?_))))))))))))))
        subst er30
        refine wx_load hok 8 0 0 rfl rfl rfl (freshS_eq rfl) rfl rfl rfl rfl (cs := [_]) rfl tS_5 tA_5 rfl rfl (xP hok 9 rfl (xP hok 10 rfl (wx_indexA hok 11 3 u1_6 rfl rfl rfl (freshS_eq rfl) rfl rfl rfl rfl rfl rfl hx34 tE_22 tS_5 (fun b34 q34 cs34 hlx34 => (wx_openR R_u8_opens 1 rfl (fun r34 er34 _ => ?_))))))
        subst er34
        refine wx_load hok 12 0 0 rfl rfl rfl (freshS_eq rfl) rfl rfl rfl rfl (cs := [_]) rfl tS_5 tA_5 rfl rfl (xP hok 13 rfl (xP hok 14 rfl (xP hok 15 rfl (xP hok 16 rfl (wx_as (d := 39) (v' := .bool false) (S' := [_,_,_,_,_,_,_,_,_,_,_,_,_,_,_,_,_,_,_]) rfl rfl (bool_is hs39) (xP hok 17 rfl (xP hok 18 rfl (wx_len hok 19 rfl rfl rfl (freshS_eq rfl) rfl rfl rfl tE_22 (xP hok 20 rfl (wx_as (d := 43) (v' := .bool (decide (l2.length ≤ u1_6))) (S' := [_,_,_,_,_,_,_,_,_,_,_,_,_,_,_,_,_,_,_,_,_,_,_]) rfl rfl (natge (a := u1_6) (b := l2.length)) (xP hok 21 rfl (wx_as (d := 44) (v' := .bool false) (S' := [_,_,_,_,_,_,_,_,_,_,_,_,_,_,_,_,_,_,_,_,_,_,_,_]) rfl rfl (bool_is hs44) (xO hok 22 rfl ?_)))))))))))))
        refine xO hok 23 rfl (xO hok 24 rfl (xO hok 25 rfl (xO hok 26 rfl (xO hok 27 rfl (xO hok 28 rfl (xO hok 29 rfl (xS hok 30 rfl (wO rfl (wl_nil (we_x [0,1,2,3,4,5] [] rfl rfl (xO hok 31 rfl (xO hok 32 rfl (xP hok 33 rfl ?_)))))))))))))
        refine xP hok 34 rfl (wx_done hok rfl ?_)
        have hE := (Option.some.inj hm).symm
        refine we_join false hE [6,5,1,57] rfl (asK [4,5] rfl) rfl
     ·
      rcases ite_some hm with ⟨hs44, hm⟩ | ⟨hs44, hm⟩
      ·
       obtain ⟨x47, hx47, hm⟩ := bindO_some hm
       obtain ⟨hg52, hm⟩ := gd_some hm
       obtain ⟨_, hc53, hm⟩ := bindO_some hm
       try dsimp only at hm
       refine wc_draw [0,1,2,3,4,5,6,7,8,9,10,11,12,13,14,15,16,17,18,19,20,21,22,23,24,25,26,27,28,29,31,32,33,34] rfl rfl (fun hok => (xP hok 0 rfl (xP hok 1 rfl (wx_len hok 2 rfl rfl rfl (freshS_eq rfl) rfl rfl rfl tE_22 (xP hok 3 rfl (wx_as (d := 26) (v' := .bool (decide (u1_6 < l2.length))) (S' := [_,_,_,_,_,_]) rfl rfl (natlt (a := u1_6) (b := l2.length)) (xP hok 4 rfl (wx_as (d := 27) (v' := .bool false) (S' := [_,_,_,_,_,_,_]) rfl rfl (bool_is hs27) (xO hok 5 rfl (xO hok 6 rfl (xO hok 7 rfl (xO hok 8 rfl (xO hok 9 rfl (xO hok 10 rfl ?_))))))))))))))
       refine xO hok 11 rfl (xO hok 12 rfl (xO hok 13 rfl (xO hok 14 rfl (xP hok 15 rfl (xP hok 16 rfl (xP hok 17 rfl (xP hok 18 rfl (wx_len hok 19 rfl rfl rfl (freshS_eq rfl) rfl rfl rfl tE_22 (xP hok 20 rfl (wx_as (d := 43) (v' := .bool (decide (l2.length ≤ u1_6))) (S' := [_,_,_,_,_,_,_,_,_,_,_,_,_,_,_,_,_,_,_,_,_,_,_]) rfl rfl (natge (a := u1_6) (b := l2.length)) (xP hok 21 rfl (wx_as (d := 44) (v' := .bool true) (S' := [_,_,_,_,_,_,_,_,_,_,_,_,_,_,_,_,_,_,_,_,_,_,_,_]) rfl rfl (bool_is hs44) (xP hok 22 rfl ?_)))))))))))))
       refine xP hok 23 rfl (wx_indexA hok 24 0 u1_6 rfl rfl rfl (freshS_eq rfl) rfl rfl rfl rfl rfl rfl hx47 tE_22 tS_5 (fun b47 q47 cs47 hlx47 => (wx_openR R_u8_opens 1 rfl (fun r47 er47 _ => ?_))))
       subst er47
       refine wx_load hok 25 0 0 rfl rfl rfl (freshS_eq rfl) rfl rfl rfl rfl (cs := [_]) rfl tS_5 tA_5 rfl rfl (xP hok 26 rfl (xP hok 27 rfl (wx_len hok 28 rfl rfl rfl (freshS_eq rfl) rfl rfl rfl tE_22 (xP hok 29 rfl (wx_as (d := 52) (v' := .int .i64 (((u1_6 : Nat) : Int) - ((l2.length : Nat) : Int))) (S' := [_,_,_,_,_,_,_,_,_,_,_,_,_,_,_,_,_,_,_,_,_,_,_,_,_,_,_,_,_,_,_,_]) rfl rfl (i64_in hg52) (xS hok 30 rfl (wC [] [] rfl fn_18 rfl (w_ropewalkkit_markByte_s N 1 (((u1_6 : Nat) : Int) - ((l2.length : Nat) : Int)) hc53) (asK [] rfl) rfl (H' := []) rfl ?_)))))))
       rintro _ _ _ ⟨rfl, rfl, rfl⟩
       refine wl_nil (we_x [0,1,2,3] [] rfl rfl (xP hok 31 rfl (xP hok 32 rfl (xP hok 33 rfl (xP hok 34 rfl (wx_done hok rfl ?_))))))
       have hE := (Option.some.inj hm).symm
       refine we_join (!(x47 == (IntKind.wrap .u8 (Int.fdiv (IntKind.wrap .u64 ((IntKind.wrap .u64 (IntKind.wrap .i64 ((IntKind.wrap .i64 (1000003 * (IntKind.wrap .i64 (1 + 7)))) + (((u1_6 : Nat) : Int) - ((l2.length : Nat) : Int))))) * 11400714819323198485)) (2 ^ (56)))))) hE [6,5,1,57] rfl (asK [2,3] rfl) rfl
      ·
       refine wc_draw [0,1,2,3,4,5,6,7,8,9,10,11,12,13,14,15,16,17,18,19,20,21,22,23,24,25,26,27,28,29,31,32,33,34] rfl rfl (fun hok => (xP hok 0 rfl (xP hok 1 rfl (wx_len hok 2 rfl rfl rfl (freshS_eq rfl) rfl rfl rfl tE_22 (xP hok 3 rfl (wx_as (d := 26) (v' := .bool (decide (u1_6 < l2.length))) (S' := [_,_,_,_,_,_]) rfl rfl (natlt (a := u1_6) (b := l2.length)) (xP hok 4 rfl (wx_as (d := 27) (v' := .bool false) (S' := [_,_,_,_,_,_,_]) rfl rfl (bool_is hs27) (xO hok 5 rfl (xO hok 6 rfl (xO hok 7 rfl (xO hok 8 rfl (xO hok 9 rfl (xO hok 10 rfl ?_))))))))))))))
       refine xO hok 11 rfl (xO hok 12 rfl (xO hok 13 rfl (xO hok 14 rfl (xP hok 15 rfl (xP hok 16 rfl (xP hok 17 rfl (xP hok 18 rfl (wx_len hok 19 rfl rfl rfl (freshS_eq rfl) rfl rfl rfl tE_22 (xP hok 20 rfl (wx_as (d := 43) (v' := .bool (decide (l2.length ≤ u1_6))) (S' := [_,_,_,_,_,_,_,_,_,_,_,_,_,_,_,_,_,_,_,_,_,_,_]) rfl rfl (natge (a := u1_6) (b := l2.length)) (xP hok 21 rfl (wx_as (d := 44) (v' := .bool false) (S' := [_,_,_,_,_,_,_,_,_,_,_,_,_,_,_,_,_,_,_,_,_,_,_,_]) rfl rfl (bool_is hs44) (xO hok 22 rfl ?_)))))))))))))
       refine xO hok 23 rfl (xO hok 24 rfl (xO hok 25 rfl (xO hok 26 rfl (xO hok 27 rfl (xO hok 28 rfl (xO hok 29 rfl (xS hok 30 rfl (wO rfl (wl_nil (we_x [0,1] [] rfl rfl (xO hok 31 rfl (xO hok 32 rfl (xP hok 33 rfl ?_)))))))))))))
       refine xP hok 34 rfl (wx_done hok rfl ?_)
       have hE := (Option.some.inj hm).symm
       refine we_join false hE [6,5,1,57] rfl (asK [0,1] rfl) rfl
    ·
     rintro j_2_57 hE
     try dsimp only
     have hm := hLj_2
     rw [hE] at hm
     refine wc_cond rfl (fun hb57 => ?_) (fun hb57 => ?_)
     ·
      replace hm := iteT hm hb57
      refine wc_keep [] (S' := []) rfl (wc_seq (wc_region (wP rfl (wl_nil (we_then (wc_ret (we_block_ret (we_then_ret (we_then_ret (we_block_ret (we_then_ret ?_)))))))))))
      have hE := (Option.some.inj hm).symm
      replace hE := link_inr hLu1 hE
      replace hE := link_inr hLj_1 hE
      replace hE := hE.symm
      subst hE
      refine ret_one (Hr := []) [] Tryz.results9 (res_tmp rfl) ⟨rfl, rfl, rfl⟩ (asK [] rfl) rfl rfl (.inl rfl)
     ·
      replace hm := iteF hm hb57
      refine wc_keep [6,5,1] (S' := [_,_,_]) rfl (wc_skip (we_block_normal (we_then (wc_region (wP rfl (wP rfl ?_))))))
      obtain ⟨hg22, hm⟩ := gd_some hm
      refine wl_as (d := 22) (v' := .int .i64 ((u1_6 + 1 : Nat) : Int)) (S' := [_,_,_,_]) rfl rfl (nat_add (a := u1_6) (b := 1) hg22) (wl_pure (S' := [_,_,_,_]) rfl rfl rfl rfl rfl (wl_nil ?_))
      have hE := (Option.some.inj hm).symm
      replace hE := link_inl hLu1 hE
      refine we_roundK (_, u1_6 + 1) (Nat.lt_succ_self _) hE [6,5,1] rfl (asK [0,1] rfl) rfl
   ·
    replace hm := iteF hm hb20
    refine wc_keep [] (S' := []) rfl (wc_exit (we_then_exit (we_then_exit (we_block_hit ?_))))
    have hE := (Option.some.inj hm).symm
    replace hE := link_inr hLu1 hE
    refine we_join () hE [] rfl (asK [] rfl) rfl
  ·
   rintro _ hE
   try dsimp only
   have hm := link_inl hLj_1 hE
   try dsimp only at hm
   refine wc_seq (wc_region (wP rfl (wl_nil (we_then (wc_ret ?_)))))
   have hE := (Option.some.inj hm).symm
   replace hE := hE.symm
   subst hE
   refine ret_one (Hr := []) [] Tryz.results9 (res_tmp rfl) ⟨rfl, rfl, rfl⟩ (asK [] rfl) rfl rfl (.inl rfl)
theorem w_ropewalkkit_OverBytes_V_s (N : Nat) (qp0 : Option Addr) (qn1 : Nat) (qc2 : Nat) (l0 : List Int) (k1 : Nat) (o0 : List Int) (hm : m_ropewalkkit_OverBytes_V N l0 k1 = some o0) : Spec Tryz.prog 10 [.slice qp0 k1 qc2] [] [.own 5 1 R_u8 (.slice qp0 qn1 qc2) l0] (fun v Φr Hr => v = .tuple #[] ∧ Φr = [] ∧ Hr = [.own 5 1 R_u8 (.slice qp0 qn1 qc2) o0]) := by
 unfold m_ropewalkkit_OverBytes_V at hm
 refine spec_of Tryz.func10 rfl Tryz.ntmps10 rfl (S := [_]) rfl (fun C => (wc_seq (wc_region (wP rfl (wP rfl (wN rfl tE_22 (wP rfl ?_)))))))
 obtain ⟨hg7, hm⟩ := gd_some hm
 refine wl_as (d := 7) (v' := .int .i64 ((k1 + 12 : Nat) : Int)) (S' := [_,_,_,_]) rfl rfl (nat_add (a := k1) (b := 12) hg7) ?_
 obtain ⟨hg8, hm⟩ := gd_some hm
 refine wl_ownSpot 0 rfl (fun hsp8 hcm8 => (wl_sliceTo rfl rfl rfl (freshS_eq rfl) rfl rfl rfl rfl tE_22 tS_5 (Nat.le_trans hg8 (by rw [← hcm8.2]; exact hcm8.1)) hsp8 (wP rfl (wl_nil (we_then (wc_keep [2] (S' := [_]) rfl (wc_seq (wc_region (wP rfl (wl_nil (we_then (wc_block (wc_loop (σ := Nat × Nat × (List Int)) (fun (nu1, u1_3, u1_2_l) => iter (m_ropewalkkit_OverBytes_V_L1 N k1) nu1 (u1_3, u1_2_l) = some o0) (fun (nu1, u1_3, u1_2_l) => nu1) (fun (nu1, u1_3, u1_2_l) => [(3, .int .i64 ((u1_3 : Nat) : Int)), (2, .slice qp0 (k1 + 12) qc2)]) (fun (nu1, u1_3, u1_2_l) => []) (fun (nu1, u1_3, u1_2_l) => [.own 5 1 R_u8 (.slice qp0 qn1 qc2) u1_2_l]) (N, 0, l0) hm [3,2] rfl (asK [] rfl) rfl (fun s_ hm => ?_))))))))))))))
 obtain ⟨nu1, u1_3, u1_2_l⟩ := s_
 try dsimp only at hm ⊢
 obtain ⟨mu1, bu1, hnu1, hq, hLu1⟩ := iter_some hm
 clear hm
 subst hnu1
 replace hm := hq
 clear hq
 unfold m_ropewalkkit_OverBytes_V_L1 at hm
 try dsimp only at hm
 refine wc_seq (wc_seq (wc_region (wP rfl (wP rfl (wN rfl tE_22 (wP rfl (wl_as (d := 12) (v' := .bool (decide (u1_3 < (k1 + 12)))) (S' := [_,_,_,_,_]) rfl rfl (natlt (a := u1_3) (b := k1 + 12)) (wl_nil (we_then (wc_keep [12,3,2] (S' := [_,_,_]) rfl ?_))))))))))
 refine wc_cond rfl (fun hb12 => ?_) (fun hb12 => ?_)
 ·
  replace hm := iteT hm hb12
  refine wc_keep [3,2] (S' := [_,_]) rfl (wc_skip (we_then (wc_seq (wc_block (wc_region (wP rfl (wP rfl (wP rfl ?_))))))))
  obtain ⟨_, hc18, hm⟩ := bindO_some hm
  try dsimp only at hm
  refine wC [] [0] rfl fn_18 rfl (w_ropewalkkit_markByte_s N 2 ((u1_3 : Nat) : Int) hc18) (asK [] rfl) rfl (H' := [_]) rfl ?_
  rintro _ _ _ ⟨rfl, rfl, rfl⟩
  obtain ⟨x19, hx19, hm⟩ := bindO_some hm
  obtain ⟨hqx19, hm⟩ := gd_some hm
  refine wl_indexS 0 u1_3 rfl rfl rfl (freshS_eq rfl) rfl rfl rfl rfl rfl hqx19 (get_lt hx19) tE_22 tS_5 (fun g19 eg19 => ?_)
  subst eg19
  refine wl_storeRow (u := (IntKind.wrap .u8 (Int.fdiv (IntKind.wrap .u64 ((IntKind.wrap .u64 (IntKind.wrap .i64 ((IntKind.wrap .i64 (1000003 * (IntKind.wrap .i64 (2 + 7)))) + ((u1_3 : Nat) : Int)))) * 11400714819323198485)) (2 ^ (56))))) 0 u1_3 rfl rfl rfl rfl rfl (get_lt hx19) rfl rfl tS_5 rfl (fun F w hφ => ⟨(), rfl, ask_nil⟩) (H' := [_]) rfl (wl_nil (we_block_normal (we_then (wc_keep [3,2] (S' := [_,_]) rfl (wc_region (wP rfl (wP rfl ?_)))))))
  obtain ⟨hg14, hm⟩ := gd_some hm
  refine wl_as (d := 14) (v' := .int .i64 ((u1_3 + 1 : Nat) : Int)) (S' := [_,_,_]) rfl rfl (nat_add (a := u1_3) (b := 1) hg14) (wl_pure (S' := [_,_,_]) rfl rfl rfl rfl rfl (wl_nil ?_))
  have hE := (Option.some.inj hm).symm
  replace hE := link_inl hLu1 hE
  refine we_roundK (_, u1_3 + 1, (u1_2_l.set u1_3 (IntKind.wrap .u8 (Int.fdiv (IntKind.wrap .u64 ((IntKind.wrap .u64 (IntKind.wrap .i64 ((IntKind.wrap .i64 (1000003 * (IntKind.wrap .i64 (2 + 7)))) + ((u1_3 : Nat) : Int)))) * 11400714819323198485)) (2 ^ (56)))))) (Nat.lt_succ_self _) hE [3,2] rfl (asK [] rfl) rfl
 ·
  replace hm := iteF hm hb12
  refine wc_keep [] (S' := []) rfl (wc_exit (we_then_exit (we_then_exit (we_block_hit ?_))))
  have hE := (Option.some.inj hm).symm
  replace hE := link_inr hLu1 hE
  replace hE := hE.symm
  subst hE
  refine ret_none (Hr := [_]) [0] Tryz.results10 ⟨rfl, rfl, rfl⟩ (asK [] rfl) rfl rfl (.inr rfl)
theorem Delete29T_l_u8_n (p : Option Addr) (c k : Nat) (L : List ((List Int) × (Option Addr × Nat))) (hk : k < L.length) : Spec Tryz.prog 29 [.slice p L.length c, .int .i64 ((k : Nat) : Int), .int .i64 ((k + 1 : Nat) : Int)] [] [.own 22 1 T_l_u8.pair (.slice p L.length c) L] (fun v Φr Hr => ∃ p' c', v = .slice p' (L.take k ++ L.drop (k + 1)).length c' ∧ Φr = [] ∧ Hr = [.own 22 1 T_l_u8.pair v (L.take k ++ L.drop (k + 1))]) := by
 refine spec_of Tryz.func29 rfl Tryz.ntmps29 rfl (S := [_,_,_]) rfl (fun C => (wc_ownSome 0 rfl (by omega) (fun g0 e0 hc1 hc2 => ?_)))
 subst e0
 refine wc_seq (wc_region (wP rfl (wl_nil (we_then (wc_seq (wc_region (wP rfl (wP rfl (wP rfl (wP rfl (wN rfl tE_35 (wl_slice3 rfl rfl rfl (freshS_eq rfl) rfl rfl rfl rfl rfl rfl rfl rfl tE_35 tS_22 (by omega) (by omega) (by omega) (fun a13 => (wl_nil ?_))))))))))))))
 refine we_then (wc_keep [6,0,1,2] (S' := [_,_,_,_]) rfl (wc_seq (wc_seq (wc_region (wP rfl (wP rfl (wP rfl (wl_nil (we_then (wc_keep [16,6,0,1,2] (S' := [_,_,_,_,_]) rfl ?_))))))))))
 refine wc_cond rfl (fun h16 => ?_) (fun h16 => ?_)
 ·
  replace h16 := eq_of_beq h16
  exfalso
  omega
 ·
  replace h16 := ne_of_beq_false h16
  refine wc_skip (we_then (wc_seq (wc_region (wP rfl (wN rfl tE_35 (wP rfl (wl_nil (we_then (wc_keep [7,16,6,0,1,2] (S' := [_,_,_,_,_,_]) rfl (wc_seq ?_))))))))))
  refine wc_cut (σ := Addr) (fun a25 => k + 1 < c → a25 = ⟨g0, (k + 1) * 1, none⟩) (fun a25 => [(0, .slice (some ⟨g0,0, none⟩) ((L.take k ++ L.drop (k + 1)).length) c), (7, .int .i64 ((L.length : Nat) : Int)), (16, .bool (((k : Nat) : Int) == ((k + 1 : Nat) : Int))), (6, .slice none 0 0), (1, .int .i64 ((k : Nat) : Int)), (2, .int .i64 ((k + 1 : Nat) : Int))]) (fun a25 => []) (fun a25 => [.own 22 1 T_l_u8.pair (.slice (some ⟨g0,0, none⟩) ((L.take k ++ L.drop (k + 1)).length) c) (L.take k ++ L.drop (k + 1))]) ?_ ?_
  ·
   refine wc_draw [0,1,3,4] rfl rfl (fun hok => (xP hok 0 rfl (xP hok 1 rfl (xP hok 3 rfl (xP hok 4 rfl ?_)))))
   refine wx_step2 hok 2 5 rfl rfl rfl rfl rfl rfl ?_ ?_
   rotate_left
   focus
    refine wl_sliceFrom rfl rfl rfl (freshS_eq rfl) rfl rfl rfl rfl tE_35 tS_22 (by omega) (by omega) (fun a25 ha25 => (wl_nil (we_x [] [] rfl rfl (xS hok 2 rfl (wl_sliceTo rfl rfl rfl (freshS_eq rfl) rfl rfl rfl rfl tE_35 tS_22 (by omega) (fun _ h => by cases h; rfl) ?_)))))
   rotate_right
   focus
    refine wl_sliceTo rfl rfl rfl (freshS_eq rfl) rfl rfl rfl rfl tE_35 tS_22 (by omega) (fun _ h => by cases h; rfl) (wl_nil (we_x [] [] rfl rfl (xS hok 5 rfl (wl_sliceFrom rfl rfl rfl (freshS_eq rfl) rfl rfl rfl rfl tE_35 tS_22 (by omega) (by omega) (fun a25 ha25 => ?_)))))
   all_goals
    refine wl_nil (we_x [] [] rfl rfl (xS hok 6 rfl (wl_appendSelf 0 k (k + 1) rfl rfl rfl (freshS_eq rfl) rfl rfl rfl rfl (by omega) (by omega) (fun h => ha25 (by omega)) tE_35 tR_22 (H2 := [.own 22 1 T_l_u8.pair (.slice (some ⟨g0,0, none⟩) ((L.take k ++ L.drop (k + 1)).length) c) (L.take k ++ L.drop (k + 1))]) rfl (fun _ => (wl_nil (we_x [] [] rfl rfl (xS hok 7 rfl (wl_pure (S' := [_,_,_,_,_,_,_,_,_,_,_,_]) rfl rfl rfl rfl rfl (wl_nil (we_x [] [] rfl rfl (wx_done hok rfl ?_)))))))))))
    refine we_join (a25) ha25 [0,7,16,6,1,2] rfl (asK [] rfl) rfl
  ·
   rintro a25 ha25
   try dsimp only
   refine wc_seq (wc_region (wP rfl (wP rfl (wN rfl tE_35 (wP rfl (wl_sliceMid rfl rfl rfl (freshS_eq rfl) rfl rfl rfl rfl rfl rfl tE_35 tS_22 (by simp; omega) (by omega) (fun a31 ha31 => (wl_clearTail 0 rfl rfl rfl rfl rfl (fun h => ha31 (by simp at h ⊢; omega)) (by simp; omega) tE_35 tZ_22 rfl rfl rfl (wl_nil (we_then (wc_keep [0,7,16,6,1,2] (S' := [_,_,_,_,_,_]) rfl (wc_seq (wc_region (wP rfl ?_))))))))))))))
   refine wl_pure (S' := [_,_,_,_,_,_]) rfl rfl rfl rfl rfl (wl_nil (we_then (wc_keep [6,0,7,16,1,2] (S' := [_,_,_,_,_,_]) rfl (wc_ret (ret_one (Hr := [.own 22 1 T_l_u8.pair (.slice (some ⟨g0,0, none⟩) ((L.take k ++ L.drop (k + 1)).length) c) (L.take k ++ L.drop (k + 1))]) [0] Tryz.results29 (res_tmp rfl) ?_ (asK [] rfl) rfl rfl (.inl rfl))))))
   exact ⟨_,_, rfl, rfl, rfl⟩
theorem Delete29T_l_u8_s (p : Option Addr) (c : Nat) (i : Int) (L : List ((List Int) × (Option Addr × Nat))) (h0 : 0 ≤ i) (hk : i.toNat < L.length) : Spec Tryz.prog 29 [.slice p L.length c, .int .i64 i, .int .i64 (i + 1)] [] [.own 22 1 T_l_u8.pair (.slice p L.length c) L] (fun v Φr Hr => ∃ p' c', v = .slice p' (L.take i.toNat ++ L.drop (i.toNat + 1)).length c' ∧ Φr = [] ∧ Hr = [.own 22 1 T_l_u8.pair v (L.take i.toNat ++ L.drop (i.toNat + 1))]) := by
  obtain ⟨k, rfl⟩ := Int.eq_ofNat_of_zero_le h0
  have e1 : ((k : Int) + 1) = ((k + 1 : Nat) : Int) := by omega
  rw [e1]
  exact Delete29T_l_u8_n p c k L hk
 
theorem Delete29T_l_u8_t (p : Option Addr) (c n : Nat) (i : Int) (L : List ((List Int) × (Option Addr × Nat))) (hn : n = L.length) (h0 : 0 ≤ i) (hk : i.toNat < L.length) : Spec Tryz.prog 29 [.slice p n c, .int .i64 i, .int .i64 (i + 1)] [] [.own 22 1 T_l_u8.pair (.slice p n c) L] (fun v Φr Hr => ∃ p' c', v = .slice p' (L.take i.toNat ++ L.drop (i.toNat + 1)).length c' ∧ Φr = [] ∧ Hr = [.own 22 1 T_l_u8.pair v (L.take i.toNat ++ L.drop (i.toNat + 1))]) := by
  subst hn
  exact Delete29T_l_u8_s p c i L h0 hk
theorem w_net_bags_take_s (N : Nat) (qb0 : Nat) (e0 : List ((Int × Int) × List (List Int))) (a1 : Int) (a2 : Int) (a3 : Int) (o2 : List Int) (o4 : Nat) (o5 : List ((Int × Int) × List (List Int))) (hm : m_net_bags_take N e0 a1 a2 a3 = some (o2, o4, o5)) : Spec Tryz.prog 22 [.map (some qb0), .agg #[.int .i64 a1, .int .i64 a2], .int .i64 a3] [] [mapG (keyOfK pairKey51) (treeF T_l_u8 22 1) none qb0 e0] (fun v Φr Hr => ∃ (o0 : Option Addr) (o1 : Nat) (o3 : Nat), v = .tuple #[.slice o0 o3 o1, .int .i64 ((o4 : Nat) : Int)] ∧ Φr = [] ∧ Hr = [.own 5 1 R_u8 (.slice o0 o3 o1) o2, mapG (keyOfK pairKey51) (treeF T_l_u8 22 1) none qb0 o5]) := by
 unfold m_net_bags_take at hm
 refine spec_of Tryz.func22 rfl Tryz.ntmps22 rfl (S := [_,_,_]) rfl (fun C => (wc_seq (wc_region (wB rfl (fun g4 => (wP rfl (wP rfl (wl_nil (we_then (wc_keep [4,0,2] (S' := [_,_,_]) rfl (wc_seq (wc_seq (wc_region (wP rfl (wl_loadH 0 0 rfl rfl rfl (freshS_eq rfl) rfl rfl rfl (cs := [_,_]) rfl tS_51 tA_51 rfl rfl ?_)))))))))))))))
 refine wP rfl ?_
 obtain ⟨v13, hc13, hm⟩ := bindO_some hm
 refine wC [1] [0] rfl fn_21 rfl (w_net_bags_at_s N qb0 e0 a1 a2 a3 _ hc13) (asK [] rfl) rfl (H' := [_]) rfl ?_
 rintro _ _ _ ⟨rfl, rfl, rfl⟩
 refine wP rfl (wl_nil (we_then (wc_keep [8,4,0,2] (S' := [_,_,_,_]) rfl (wc_seq (wc_region (wP rfl (wP rfl (wl_as (d := 15) (v' := .bool (v13 != 0)) (S' := [_,_,_,_,_]) rfl rfl (natne (a := v13) (b := 0)) (wl_nil (we_then (wc_keep [15,8,4,0,2] (S' := [_,_,_,_,_]) rfl ?_)))))))))))
 refine wc_cond rfl (fun hb15 => ?_) (fun hb15 => ?_)
 ·
  replace hm := iteT hm hb15
  refine wc_keep [8] (S' := [_]) rfl (wc_seq (wc_region (wP rfl (wP rfl (wP rfl (wl_nil (we_then (wc_keep [7,6] (S' := [_,_]) rfl (wc_ret (we_then_ret ?_))))))))))
  have hE := (Option.some.inj hm).symm
  obtain ⟨hE0, hF1⟩ := Prod.mk.inj hE
  obtain ⟨hE1, hE2⟩ := Prod.mk.inj hF1
  clear hE hF1
  replace hE0 := hE0.symm
  subst hE0
  replace hE1 := hE1.symm
  subst hE1
  replace hE2 := hE2.symm
  subst hE2
  refine we_rowNil 5 1 R_u8 ?_
  refine ret_two (Hr := [_,_]) [0,1] Tryz.results22 (res_tmp rfl) (res_tmp rfl) ⟨none, 0,0, rfl, rfl, rfl⟩ (asK [] rfl) rfl rfl (.inl rfl)
 ·
  replace hm := iteF hm hb15
  refine wc_keep [4,0,2] (S' := [_,_,_]) rfl (wc_skip (we_then (wc_seq (wc_region (wP rfl (wl_loadH 1 0 rfl rfl rfl (freshS_eq rfl) rfl rfl rfl (cs := [_,_]) rfl tS_51 tA_51 rfl rfl ?_))))))
  obtain ⟨hk19_0, hm⟩ := gd_some hm
  obtain ⟨hk19_1, hm⟩ := gd_some hm
  obtain ⟨l19, hl19, hm⟩ := bindO_some hm
  refine wl_lookG (i := (a1, a2)) (l := l19) form_tree 0 rfl rfl rfl (freshS_eq rfl) rfl rfl rfl rfl tZG_35 tM_43 ⟨hk19_0, hk19_1⟩ (Option.some.inj hl19) (fun p19 c19 => (wP rfl ?_))
  obtain ⟨hn21, hm⟩ := gd_some hm
  refine wl_treeOut 0 rfl (fun zz21 hzz21 => ?_)
  obtain ⟨x21, hx21, hm⟩ := bindO_some hm
  obtain ⟨rr21, hrr21⟩ := zip_at hzz21 hx21
  refine wl_indexH 1 a3.toNat rfl rfl rfl (freshS_eq rfl) rfl rfl rfl rfl (toNat_eq hn21) (get_lt hrr21) tE_35 tS_22 (fun g21 eg21 => ?_)
  subst eg21
  refine wl_sh [.own 5 1 R_u8 (.slice rr21.1 x21.length rr21.2) x21, bagF T_l_u8 zz21 (some a3.toNat), _,_,_] (fun _ h => h.bagOpen 0 a3.toNat rfl hrr21) (wl_loadRow pair_opens 2 a3.toNat 0 rfl rfl rfl (freshS_eq rfl) rfl rfl rfl hrr21 tS_22 tA_22 (v := fun _ => .slice rr21.1 x21.length rr21.2) (fun _ => rfl) (fun _ => rfl) (fun _ _ => (wP rfl (wl_nil (we_then (wc_keep [9,4,0,2] (S' := [_,_,_,_]) rfl (wc_seq ?_)))))))
  obtain ⟨hg30, hm⟩ := gd_some hm
  obtain ⟨hg31, hm⟩ := gd_some hm
  obtain ⟨hgk31, hm⟩ := gd_some hm
  refine wc_draw [0,1,2,3,5,6,7] rfl rfl (fun hok => (xP hok 0 rfl (wx_loadH hok 1 4 0 rfl rfl rfl (freshS_eq rfl) rfl rfl rfl rfl (cs := [_,_]) rfl tS_51 tA_51 rfl rfl (xP hok 2 rfl (wx_loadH hok 3 4 0 rfl rfl rfl (freshS_eq rfl) rfl rfl rfl rfl (cs := [_,_]) rfl tS_51 tA_51 rfl rfl (xP hok 5 rfl (xP hok 6 rfl (xP hok 7 rfl (wx_as (d := 30) (v' := .int .i64 (a3 + 1)) (S' := [_,_,_,_,_,_,_,_,_,_]) rfl rfl (i64_in hg30) (xS hok 4 rfl (wl_lookX (i := (a1, a2)) (v := .slice (some ⟨g21,0, none⟩) l19.length c19) 3 rfl rfl rfl (freshS_eq rfl) rfl rfl rfl rfl tZG_35 tM_43 ⟨hk19_0, hk19_1⟩ (wl_nil (we_x [] [4] rfl rfl (xS hok 8 rfl ?_))))))))))))))
  have hzs2 : List.map (fun x : (List Int) × (Option Addr × Nat) => x.1) (zz21.take a3.toNat ++ zz21.drop (a3.toNat + 1)) = l19.take a3.toNat ++ l19.drop (a3.toNat + 1) := pair_del hzz21
  refine wC [2] [0,1,3,4] rfl fn_29 rfl (Delete29T_l_u8_t (some ⟨g21,0, none⟩) c19 l19.length a3 zz21 (by rw [pair_len hzz21]) hg31 (by rw [pair_len hzz21]; exact hgk31)) (asK [] rfl) rfl (H' := [_,_,_,_]) rfl ?_
  rintro _ _ _ ⟨p31, c31, rfl, rfl, rfl⟩
  refine wl_as (d := 31) (v' := .slice p31 ((l19.take a3.toNat ++ l19.drop (a3.toNat + 1)).length) c31) (S' := [_,_,_,_,_,_,_,_,_,_,_,_]) rfl rfl (by rw [pair_len hzs2]) (wl_hAs 0 (φ' := .own 22 1 T_l_u8.pair (.slice p31 ((l19.take a3.toNat ++ l19.drop (a3.toNat + 1)).length) c31) (zz21.take a3.toNat ++ zz21.drop (a3.toNat + 1))) rfl (by rw [pair_len hzs2]) (H' := [_,_,_,_,_]) rfl (wl_sh [.own 22 1 T_l_u8.pair (.slice p31 ((l19.take a3.toNat ++ l19.drop (a3.toNat + 1)).length) c31) (zz21.take a3.toNat ++ zz21.drop (a3.toNat + 1)), .own 5 1 R_u8 (.slice rr21.1 x21.length rr21.2) x21, bagF T_l_u8 (zz21.take a3.toNat ++ zz21.drop (a3.toNat + 1)) none, mapG (keyOfK pairKey51) (treeF T_l_u8 22 1) (some ((a1, a2), .slice (some ⟨g21,0, none⟩) l19.length c19)) qb0 e0, .blk g4 [.int .i64 a1, .int .i64 a2] 51] (fun _ h => h.bagDelHole 2 rfl) (wl_sh [treeF T_l_u8 22 1 (.slice p31 ((l19.take a3.toNat ++ l19.drop (a3.toNat + 1)).length) c31) (l19.take a3.toNat ++ l19.drop (a3.toNat + 1)), _,_,_] (fun _ h => h.treeIn 0 2 rfl rfl rfl hzs2) (wl_nil (we_x [] [3,3] rfl rfl (xS hok 9 rfl (wl_putG (i := (a1, a2)) (v := .slice p31 ((l19.take a3.toNat ++ l19.drop (a3.toNat + 1)).length) c31) 2 (l19.take a3.toNat ++ l19.drop (a3.toNat + 1)) rfl rfl (.inl rfl) (.inr ⟨_, rfl⟩) rfl rfl rfl rfl tM_43 ⟨hk19_0, hk19_1⟩ rfl (H' := [_,_, mapG (keyOfK pairKey51) (treeF T_l_u8 22 1) (some ((a1, a2), .slice p31 ((l19.take a3.toNat ++ l19.drop (a3.toNat + 1)).length) c31)) qb0 (mput (a1, a2) (l19.take a3.toNat ++ l19.drop (a3.toNat + 1)) e0), _]) rfl (wl_nil (we_x [] [] rfl rfl (wx_done hok rfl (we_then (wc_keep [9,4,0] (S' := [_,_,_]) rfl (wc_seq ?_)))))))))))))
  obtain ⟨bj_1, hm, hLj_1⟩ := bindO_some hm
  refine wc_cut (σ := List ((Int × Int) × List (List Int))) (fun j_1_r0_m => bj_1 = j_1_r0_m) (fun j_1_r0_m => [(9, .slice rr21.1 x21.length rr21.2)]) (fun j_1_r0_m => []) (fun j_1_r0_m => [.own 5 1 R_u8 (.slice rr21.1 x21.length rr21.2) x21, mapG (keyOfK pairKey51) (treeF T_l_u8 22 1) none qb0 j_1_r0_m]) ?_ ?_
  ·
   refine wc_seq (wc_region (wP rfl (wl_loadH 3 0 rfl rfl rfl (freshS_eq rfl) rfl rfl rfl (cs := [_,_]) rfl tS_51 tA_51 rfl rfl (wl_lookX (i := (a1, a2)) (v := .slice p31 ((l19.take a3.toNat ++ l19.drop (a3.toNat + 1)).length) c31) 2 rfl rfl rfl (freshS_eq rfl) rfl rfl rfl rfl tZG_35 tM_43 ⟨hk19_0, hk19_1⟩ (wN rfl tE_35 (wP rfl (wl_as (d := 36) (v' := .bool (((l19.take a3.toNat ++ l19.drop (a3.toNat + 1)).length) == 0)) (S' := [_,_,_,_,_,_,_]) rfl rfl (nateq (a := (l19.take a3.toNat ++ l19.drop (a3.toNat + 1)).length) (b := 0)) (wl_nil (we_then (wc_keep [36,9,4,0] (S' := [_,_,_,_]) rfl ?_))))))))))
   refine wc_cond rfl (fun hb36 => ?_) (fun hb36 => ?_)
   ·
    replace hm := iteT hm hb36
    refine wc_keep [9,4,0] (S' := [_,_,_]) rfl (wc_region (wP rfl (wl_loadH 3 0 rfl rfl rfl (freshS_eq rfl) rfl rfl rfl (cs := [_,_]) rfl tS_51 tA_51 rfl rfl (wl_delG (i := (a1, a2)) 2 rfl rfl rfl rfl rfl rfl tM_43 ⟨hk19_0, hk19_1⟩ (H' := [_,_, mapG (keyOfK pairKey51) (treeF T_l_u8 22 1) none qb0 (mdel (a1, a2) (mput (a1, a2) (l19.take a3.toNat ++ l19.drop (a3.toNat + 1)) e0)), _]) rfl (wl_nil ?_)))))
    have hE := (Option.some.inj hm).symm
    refine we_pick [1,2] rfl (H' := [_,_]) rfl ?_
    refine we_join (mdel (a1, a2) (mput (a1, a2) (l19.take a3.toNat ++ l19.drop (a3.toNat + 1)) e0)) hE [9] rfl (asK [] rfl) rfl
   ·
    replace hm := iteF hm hb36
    refine wc_keep [9] (S' := [_]) rfl (wc_skip ?_)
    have hE := (Option.some.inj hm).symm
    refine we_sh [.own 5 1 R_u8 (.slice rr21.1 x21.length rr21.2) x21, mapG (keyOfK pairKey51) (treeF T_l_u8 22 1) none qb0 (mput (a1, a2) (l19.take a3.toNat ++ l19.drop (a3.toNat + 1)) e0), .blk g4 [.int .i64 a1, .int .i64 a2] 51] (fun _ h => h.closeG 2 0 rfl rfl rfl (by rw [mlook_mput]; rfl)) ?_
    skip
    refine we_pick [0,1] rfl (H' := [_,_]) rfl ?_
    refine we_join (mput (a1, a2) (l19.take a3.toNat ++ l19.drop (a3.toNat + 1)) e0) hE [9] rfl (asK [] rfl) rfl
  ·
   rintro j_1_r0_m hE
   try dsimp only
   have hm := hLj_1
   rw [hE] at hm
   refine wc_seq (wc_region (wP rfl (wP rfl (wP rfl (wl_nil (we_then (wc_keep [7,6] (S' := [_,_]) rfl (wc_ret ?_))))))))
   have hE := (Option.some.inj hm).symm
   obtain ⟨hE0, hF1⟩ := Prod.mk.inj hE
   obtain ⟨hE1, hE2⟩ := Prod.mk.inj hF1
   clear hE hF1
   replace hE0 := hE0.symm
   subst hE0
   replace hE1 := hE1.symm
   subst hE1
   replace hE2 := hE2.symm
   subst hE2
   refine ret_two (Hr := [_,_]) [0,1] Tryz.results22 (res_tmp rfl) (res_tmp rfl) ⟨rr21.1, rr21.2, x21.length, rfl, rfl, rfl⟩ (asK [] rfl) rfl rfl (.inl rfl)
theorem w_net_Net_Take_s (N : Nat) (qg0 : Nat) (qb1 : Nat) (e0 : List ((Int × Int) × List (List Int))) (a1 : Int) (a2 : Int) (a3 : Int) (o2 : List Int) (o4 : Nat) (o5 : List ((Int × Int) × List (List Int))) (hm : m_net_Net_Take N e0 a1 a2 a3 = some (o2, o4, o5)) : Spec Tryz.prog 11 [.pointer (some ⟨qg0,0, none⟩), .int .i64 a1, .int .i64 a2, .int .i64 a3] [] [.blk qg0 [.map (some qb1)] 47, mapG (keyOfK pairKey51) (treeF T_l_u8 22 1) none qb1 e0] (fun v Φr Hr => ∃ (o0 : Option Addr) (o1 : Nat) (o3 : Nat), v = .tuple #[.slice o0 o3 o1, .int .i64 ((o4 : Nat) : Int)] ∧ Φr = [] ∧ Hr = [.own 5 1 R_u8 (.slice o0 o3 o1) o2, .blk qg0 [.map (some qb1)] 47, mapG (keyOfK pairKey51) (treeF T_l_u8 22 1) none qb1 o5]) := by
 unfold m_net_Net_Take at hm
 refine spec_of Tryz.func11 rfl Tryz.ntmps11 rfl (S := [_,_,_,_]) rfl (fun C => (wc_seq (wc_region (wP rfl (wP rfl (wl_nil (we_then (wc_keep [0,1,2,3] (S' := [_,_,_,_]) rfl (wc_seq (wc_region (wP rfl ?_)))))))))))
 obtain ⟨_, hc11, hm⟩ := bindO_some hm
 try dsimp only at hm
 refine wC [0,1] [] rfl fn_19 rfl (w_net_Net_all_s N qg0 qb1 e0 hc11) (asK [] rfl) rfl (H' := []) rfl ?_
 rintro _ _ _ ⟨rfl, rfl, rfl⟩
 refine wP rfl (wP rfl (wl_buildArr rfl rfl rfl (freshS_eq rfl) rfl tZ_51 tArr_51 rfl (out := [_,_]) rfl (wP rfl ?_)))
 obtain ⟨⟨v16_0, v16_1, v16_2⟩, hc16, hm⟩ := bindO_some hm
 try dsimp only at hm
 refine wC [0] [1] rfl fn_22 rfl (w_net_bags_take_s N qb1 e0 a1 a2 a3 _ _ _ hc16) (asK [] rfl) rfl (H' := [_]) rfl ?_
 rintro _ _ _ ⟨p16_0, c16_1, c16_2, rfl, rfl, rfl⟩
 refine wP rfl (wP rfl (wP rfl (wP rfl (wl_nil (we_then (wc_keep [9,8] (S' := [_,_]) rfl (wc_ret ?_)))))))
 have hE := (Option.some.inj hm).symm
 obtain ⟨hE0, hF1⟩ := Prod.mk.inj hE
 obtain ⟨hE1, hE2⟩ := Prod.mk.inj hF1
 clear hE hF1
 replace hE0 := hE0.symm
 subst hE0
 replace hE1 := hE1.symm
 subst hE1
 replace hE2 := hE2.symm
 subst hE2
 refine ret_two (Hr := [_,_,_]) [0,2,1] Tryz.results11 (res_tmp rfl) (res_tmp rfl) ⟨p16_0, c16_1, c16_2, rfl, rfl, rfl⟩ (asK [] rfl) rfl rfl (.inl rfl)
theorem w_ropewalkkit_SameBytes_s (N : Nat) (qp0 : Option Addr) (qc1 : Nat) (l0 : List Int) (qp2 : Option Addr) (qc3 : Nat) (l1 : List Int) (o0 : Bool) (hm : m_ropewalkkit_SameBytes N l0 l1 = some o0) : Spec Tryz.prog 12 [.slice qp0 l0.length qc1, .slice qp2 l1.length qc3] [.sli 1 R_u8 qp0 qc1 l0, .sli 1 R_u8 qp2 qc3 l1] [] (fun v Φr Hr => v = .bool o0 ∧ Φr = [] ∧ Hr = []) := by
 unfold m_ropewalkkit_SameBytes at hm
 refine spec_of Tryz.func12 rfl Tryz.ntmps12 rfl (S := [_,_]) rfl (fun C => (wc_seq (wc_region (wP rfl (wl_nil (we_then (wc_keep [0,1] (S' := [_,_]) rfl (wc_seq (wc_seq (wc_region (wP rfl (wN rfl tE_22 (wP rfl (wN rfl tE_22 ?_))))))))))))))
 refine wP rfl (wl_as (d := 10) (v' := .bool (l0.length != l1.length)) (S' := [_,_,_,_,_,_]) rfl rfl (natne (a := l0.length) (b := l1.length)) (wl_nil (we_then (wc_keep [10,0,1] (S' := [_,_,_]) rfl ?_))))
 refine wc_cond rfl (fun hb10 => ?_) (fun hb10 => ?_)
 ·
  replace hm := iteT hm hb10
  refine wc_keep [] (S' := []) rfl (wc_seq (wc_region (wP rfl (wl_nil (we_then (wc_ret (we_then_ret ?_)))))))
  have hE := (Option.some.inj hm).symm
  replace hE := hE.symm
  subst hE
  refine ret_one (Hr := []) [] Tryz.results12 (res_tmp rfl) ⟨rfl, rfl, rfl⟩ (asK [] rfl) rfl rfl (.inl rfl)
 ·
  replace hm := iteF hm hb10
  refine wc_keep [0,1] (S' := [_,_]) rfl (wc_skip (we_then (wc_seq ?_)))
  obtain ⟨bj_1, hm, hLj_1⟩ := bindS_some hm
  refine wc_cut (σ := Unit) (fun _ => bj_1 = .inl ()) (fun _ => []) (fun _ => []) (fun _ => []) ?_ ?_
  ·
   refine wc_seq (wc_region (wP rfl (wl_nil (we_then (wc_block (wc_loop (σ := Nat × Nat) (fun (nu1, u1_5) => iter (m_ropewalkkit_SameBytes_L1 N l0 l1) nu1 u1_5 = some bj_1) (fun (nu1, u1_5) => nu1) (fun (nu1, u1_5) => [(5, .int .i64 ((u1_5 : Nat) : Int)), (0, .slice qp0 l0.length qc1), (1, .slice qp2 l1.length qc3)]) (fun (nu1, u1_5) => [.sli 1 R_u8 qp0 qc1 l0, .sli 1 R_u8 qp2 qc3 l1]) (fun (nu1, u1_5) => []) (N, 0) hm [5,0,1] rfl (asK [0,1] rfl) rfl (fun s_ hm => ?_)))))))
   obtain ⟨nu1, u1_5⟩ := s_
   try dsimp only at hm ⊢
   obtain ⟨mu1, bu1, hnu1, hq, hLu1⟩ := iter_some hm
   clear hm
   subst hnu1
   replace hm := hq
   clear hq
   unfold m_ropewalkkit_SameBytes_L1 at hm
   try dsimp only at hm
   refine wc_seq (wc_seq (wc_region (wP rfl (wP rfl (wN rfl tE_22 (wP rfl (wl_as (d := 14) (v' := .bool (decide (u1_5 < l0.length))) (S' := [_,_,_,_,_,_]) rfl rfl (natlt (a := u1_5) (b := l0.length)) (wl_nil (we_then (wc_keep [14,5,0,1] (S' := [_,_,_,_]) rfl ?_))))))))))
   refine wc_cond rfl (fun hb14 => ?_) (fun hb14 => ?_)
   ·
    replace hm := iteT hm hb14
    refine wc_keep [5,0,1] (S' := [_,_,_]) rfl (wc_skip (we_then (wc_seq (wc_block (wc_seq ?_)))))
    obtain ⟨x19, hx19, hm⟩ := bindO_some hm
    obtain ⟨x23, hx23, hm⟩ := bindO_some hm
    refine wc_draw [0,1,2,3,4,5,6,7,8] rfl rfl (fun hok => (xP hok 0 rfl (xP hok 1 rfl (wx_indexA hok 2 0 u1_5 rfl rfl rfl (freshS_eq rfl) rfl rfl rfl rfl rfl rfl hx19 tE_22 tS_5 (fun b19 q19 cs19 hlx19 => (wx_openR R_u8_opens 1 rfl (fun r19 er19 _ => ?_)))))))
    subst er19
    refine wx_load hok 3 0 0 rfl rfl rfl (freshS_eq rfl) rfl rfl rfl rfl (cs := [_]) rfl tS_5 tA_5 rfl rfl (xP hok 4 rfl (xP hok 5 rfl (wx_indexA hok 6 3 u1_5 rfl rfl rfl (freshS_eq rfl) rfl rfl rfl rfl rfl rfl hx23 tE_22 tS_5 (fun b23 q23 cs23 hlx23 => (wx_openR R_u8_opens 1 rfl (fun r23 er23 _ => ?_))))))
    subst er23
    refine wx_load hok 7 0 0 rfl rfl rfl (freshS_eq rfl) rfl rfl rfl rfl (cs := [_]) rfl tS_5 tA_5 rfl rfl (xP hok 8 rfl (wx_done hok rfl (we_then (wc_keep [25,5,0,1] (S' := [_,_,_,_]) rfl ?_))))
    refine wc_cond rfl (fun hb25 => ?_) (fun hb25 => ?_)
    ·
     replace hm := iteT hm hb25
     refine wc_keep [] (S' := []) rfl (wc_seq (wc_region (wP rfl (wl_nil (we_then (wc_ret (we_block_ret (we_then_ret (we_then_ret (we_block_ret (we_then_ret ?_)))))))))))
     have hE := (Option.some.inj hm).symm
     replace hE := link_inr hLu1 hE
     replace hE := link_inr hLj_1 hE
     replace hE := hE.symm
     subst hE
     refine ret_one (Hr := []) [] Tryz.results12 (res_tmp rfl) ⟨rfl, rfl, rfl⟩ (asK [] rfl) rfl rfl (.inl rfl)
    ·
     replace hm := iteF hm hb25
     refine wc_keep [5,0,1] (S' := [_,_,_]) rfl (wc_skip (we_block_normal (we_then (wc_region (wP rfl (wP rfl ?_))))))
     obtain ⟨hg16, hm⟩ := gd_some hm
     refine wl_as (d := 16) (v' := .int .i64 ((u1_5 + 1 : Nat) : Int)) (S' := [_,_,_,_]) rfl rfl (nat_add (a := u1_5) (b := 1) hg16) (wl_pure (S' := [_,_,_,_]) rfl rfl rfl rfl rfl (wl_nil ?_))
     have hE := (Option.some.inj hm).symm
     replace hE := link_inl hLu1 hE
     refine we_roundK (_, u1_5 + 1) (Nat.lt_succ_self _) hE [5,0,1] rfl (asK [4,5] rfl) rfl
   ·
    replace hm := iteF hm hb14
    refine wc_keep [] (S' := []) rfl (wc_exit (we_then_exit (we_then_exit (we_block_hit ?_))))
    have hE := (Option.some.inj hm).symm
    replace hE := link_inr hLu1 hE
    refine we_join () hE [] rfl (asK [] rfl) rfl
  ·
   rintro _ hE
   try dsimp only
   have hm := link_inl hLj_1 hE
   try dsimp only at hm
   refine wc_seq (wc_region (wP rfl (wl_nil (we_then (wc_ret ?_)))))
   have hE := (Option.some.inj hm).symm
   replace hE := hE.symm
   subst hE
   refine ret_one (Hr := []) [] Tryz.results12 (res_tmp rfl) ⟨rfl, rfl, rfl⟩ (asK [] rfl) rfl rfl (.inl rfl)
theorem ap_putBytes (g : Nat) (p5 : Option Addr) (c5 : Nat) (h5 : List Hdr) (p : Option Addr) (n c : Nat) (hL5 : h5.length + 1 ≤ 1073741824) (hB5 : Bd h5) (hn : n ≤ 10000) : Spec Tryz.prog 23 [.pointer (some ⟨g, 0, none⟩), .slice p n c] [] [.blk g [.slice none 0 0, .slice none 0 0, .slice none 0 0, .slice none 0 0, .slice none 0 0, .slice p5 h5.length c5, .slice none 0 0, .slice none 0 0, .slice none 0 0, .slice none 0 0, .slice none 0 0, .slice none 0 0, .slice none 0 0, .slice none 0 0, .slice none 0 0, .slice none 0 0, .slice none 0 0, .slice none 0 0, .slice none 0 0, .slice none 0 0, .slice none 0 0, .slice none 0 0, .slice none 0 0, .slice none 0 0, .slice none 0 0, .slice none 0 0, .slice none 0 0, .slice none 0 0, .slice none 0 0] 84, .own 22 1 hdrR (.slice p5 h5.length c5) h5, flatF 5 1 (h5.map row0), flatF 5 1 ([row0 (p, n, c)])] (fun v Φr Hr => ∃ (q5 : Option Addr) (d5 : Nat) (k5 : List Hdr), k5.length ≤ h5.length + 1 ∧ Bd k5 ∧ k5 = h5 ++ ([(p, n, c)] : List Hdr) ∧ v = .tuple #[] ∧ Φr = [] ∧ Hr = [.blk g [.slice none 0 0, .slice none 0 0, .slice none 0 0, .slice none 0 0, .slice none 0 0, .slice q5 k5.length d5, .slice none 0 0, .slice none 0 0, .slice none 0 0, .slice none 0 0, .slice none 0 0, .slice none 0 0, .slice none 0 0, .slice none 0 0, .slice none 0 0, .slice none 0 0, .slice none 0 0, .slice none 0 0, .slice none 0 0, .slice none 0 0, .slice none 0 0, .slice none 0 0, .slice none 0 0, .slice none 0 0, .slice none 0 0, .slice none 0 0, .slice none 0 0, .slice none 0 0, .slice none 0 0] 84, .own 22 1 hdrR (.slice q5 k5.length d5) k5, flatF 5 1 (k5.map row0)]) := by
 refine spec_of Tryz.func23 rfl Tryz.ntmps23 rfl (S := [_,_]) rfl (fun C => (wc_region (wP rfl (wP rfl (wP rfl (wF rfl tF_84_5 (wD 0 5 rfl tS_35 tA_35 rfl (wP rfl (wl_buildSlice rfl rfl rfl (freshS_eq rfl) rfl tE_35 tS_22 tZ_22 rfl (zs := [.slice none 0 0]) (by kernel_rfl) rfl (out := [_]) rfl (fun g10 => (wl_appendH ([(p, n, c)] : List Hdr) 2 0 rfl rfl rfl (freshS_eq rfl) rfl rfl rfl rfl rfl (fun F w hφ => ⟨[_],[], rfl, rfl, rfl, rfl⟩) tE_35 tR_22 rfl rfl (by simp; omega) (by simp; omega) (H2 := fun p11 c11 => [.blk g10 [.slice p n c] 22, .blk g [.slice none 0 0, .slice none 0 0, .slice none 0 0, .slice none 0 0, .slice none 0 0, .slice p5 h5.length c5, .slice none 0 0, .slice none 0 0, .slice none 0 0, .slice none 0 0, .slice none 0 0, .slice none 0 0, .slice none 0 0, .slice none 0 0, .slice none 0 0, .slice none 0 0, .slice none 0 0, .slice none 0 0, .slice none 0 0, .slice none 0 0, .slice none 0 0, .slice none 0 0, .slice none 0 0, .slice none 0 0, .slice none 0 0, .slice none 0 0, .slice none 0 0, .slice none 0 0, .slice none 0 0] 84, .own 22 1 hdrR (.slice p11 ((h5 ++ ([(p, n, c)] : List Hdr)).length) c11) (h5 ++ ([(p, n, c)] : List Hdr)), flatF 5 1 (h5.map row0), flatF 5 1 ([row0 (p, n, c)])]) (fun _ _ => rfl) (fun p11 c11 => (wl_drop 0 rfl (H' := [_,_,_,_]) rfl (wP rfl (wF rfl tF_84_5 (wS 0 5 rfl tS_35 (all' := [_,_,_,_,_,_,_,_,_,_,_,_,_,_,_,_,_,_,_,_,_,_,_,_,_,_,_,_,_]) rfl (H' := [_,_,_,_]) rfl ?_))))))))))))))))
 refine wl_nil (we_sh [.blk g [.slice none 0 0, .slice none 0 0, .slice none 0 0, .slice none 0 0, .slice none 0 0, .slice p11 ((h5 ++ ([(p, n, c)] : List Hdr)).length) c11, .slice none 0 0, .slice none 0 0, .slice none 0 0, .slice none 0 0, .slice none 0 0, .slice none 0 0, .slice none 0 0, .slice none 0 0, .slice none 0 0, .slice none 0 0, .slice none 0 0, .slice none 0 0, .slice none 0 0, .slice none 0 0, .slice none 0 0, .slice none 0 0, .slice none 0 0, .slice none 0 0, .slice none 0 0, .slice none 0 0, .slice none 0 0, .slice none 0 0, .slice none 0 0] 84, .own 22 1 hdrR (.slice p11 ((h5 ++ ([(p, n, c)] : List Hdr)).length) c11) (h5 ++ ([(p, n, c)] : List Hdr)), flatF 5 1 ((h5 ++ [(p, n, c)]).map row0)] (fun _ h => h.flPush 2 3 rfl rfl rfl) (ret_none (Hr := [.blk g [.slice none 0 0, .slice none 0 0, .slice none 0 0, .slice none 0 0, .slice none 0 0, .slice p11 ((h5 ++ ([(p, n, c)] : List Hdr)).length) c11, .slice none 0 0, .slice none 0 0, .slice none 0 0, .slice none 0 0, .slice none 0 0, .slice none 0 0, .slice none 0 0, .slice none 0 0, .slice none 0 0, .slice none 0 0, .slice none 0 0, .slice none 0 0, .slice none 0 0, .slice none 0 0, .slice none 0 0, .slice none 0 0, .slice none 0 0, .slice none 0 0, .slice none 0 0, .slice none 0 0, .slice none 0 0, .slice none 0 0, .slice none 0 0] 84, .own 22 1 hdrR (.slice p11 ((h5 ++ ([(p, n, c)] : List Hdr)).length) c11) (h5 ++ ([(p, n, c)] : List Hdr)), flatF 5 1 ((h5 ++ [(p, n, c)]).map row0)]) [0,1,2] Tryz.results23 ?_ (asK [] rfl) rfl rfl (.inr rfl)))
 exact ⟨_,_,_, by simp, hB5.push hn, rfl, rfl, rfl, rfl⟩
theorem z_markByte_s (k i : Int) : Spec Tryz.prog 18 [.int .i64 k, .int .i64 i] [] [] (fun v Φr Hr => v = .int .u8 (z_markByte k i) ∧ Φr = [] ∧ Hr = []) := w_ropewalkkit_markByte_s 0 k i rfl
def mc_markByte (k i : Nat) : List Value := [.int .u8 (z_markByte ((k : Nat) : Int) ((i : Nat) : Int))]
theorem fl_flatBytes (p : Option Addr) (c : Nat) (hs : List Hdr) (hL : hs.length ≤ 1073741824) (hb : ∀ h ∈ hs, h.2.1 ≤ 1073741824) : Spec Tryz.prog 35 [.slice p hs.length c] [] [.own 22 1 hdrR (.slice p hs.length c) hs, flatF 5 1 (hs.map row0)] (fun v Φr Hr => ∃ rows, FlE hs mc_markByte rows ∧ v = .bool true ∧ Φr = [] ∧ Hr = [flatF 5 1 rows]) := by
 refine spec_of Tryz.func35 rfl Tryz.ntmps35 rfl (S := [_]) rfl (fun C => (wc_seq (wc_region (wP rfl (wl_nil (we_then (wc_seq (wc_seq (wc_region (wP rfl (wl_nil (we_then (wc_block (wc_loop (σ := List Twin × Nat) (fun s => s.2 ≤ hs.length ∧ FlA hs mc_markByte s.2 0 s.1) (fun s => hs.length - s.2) (fun s => [(3, .int .i64 ((s.2 : Nat) : Int)), (2, .bool false), (0, .slice p hs.length c)]) (fun s => []) (fun s => [.own 22 1 hdrR (.slice p hs.length c) hs, flatF 5 1 s.1]) (hs.map row0,0) ⟨Nat.zero_le _, FlA.start⟩ [3,2,0] rfl (asK [] rfl) rfl (fun s1 oks1 => ?_)))))))))))))))
 refine wc_seq (wc_seq (wc_region (wP rfl (wP rfl (wN rfl tE_35 (wP rfl (wl_nil (we_then (wc_keep [19,3,2,0] (S' := [_,_,_,_]) rfl ?_)))))))))
 refine wc_cond rfl (fun h19 => ?_) (fun h19 => ?_)
 ·
  replace h19 := of_decide_eq_true h19
  have hk1 : s1.2 < hs.length := by omega
  obtain ⟨y1, hy1⟩ : ∃ y, hs[s1.2]? = some y := ⟨_, List.getElem?_eq_getElem hk1⟩
  have hB1 : y1.2.1 ≤ 1073741824 := hb _ (List.mem_of_getElem? hy1)
  refine wc_skip (we_then (wc_seq (wc_block (wc_seq (wc_region (wP rfl (wl_nil (we_then (wc_block (wc_loop (σ := List Twin × Nat) (fun s => s.2 ≤ y1.2.1 ∧ FlA hs mc_markByte s1.2 s.2 s.1) (fun s => y1.2.1 - s.2) (fun s => [(4, .int .i64 ((s.2 : Nat) : Int)), (19, .bool (decide (((s1.2 : Nat) : Int) < ((hs.length : Nat) : Int)))), (3, .int .i64 ((s1.2 : Nat) : Int)), (2, .bool false), (0, .slice p hs.length c)]) (fun s => []) (fun s => [.own 22 1 hdrR (.slice p hs.length c) hs, flatF 5 1 s.1]) (s1.1,0) ⟨Nat.zero_le _, oks1.2⟩ [4,19,3,2,0] rfl (asK [] rfl) rfl (fun s2 oks2 => (wc_seq (wc_seq (wc_region ?_))))))))))))))
  refine wP rfl (wP rfl (wP rfl (wl_indexH 0 s1.2 rfl rfl rfl (freshS_eq rfl) rfl rfl rfl rfl rfl hk1 tE_35 tS_22 (fun g25 eg25 => ?_))))
  subst eg25
  refine wl_loadRow hdr_opens 0 s1.2 0 rfl rfl rfl (freshS_eq rfl) rfl rfl rfl hy1 tS_22 tA_22 (v := fun _ => .slice y1.1 y1.2.1 y1.2.2) (fun _ => rfl) (fun _ => rfl) (fun _ _ => (wN rfl tE_22 (wP rfl (wl_nil (we_then (wc_keep [28,4,19,3,2,0] (S' := [_,_,_,_,_,_]) rfl ?_))))))
  refine wc_cond rfl (fun h28 => ?_) (fun h28 => ?_)
  ·
   replace h28 := of_decide_eq_true h28
   obtain ⟨r2, hr2, hh2, hsm2, hl2⟩ := oks2.2.at_ hy1
   refine wc_skip (we_then (wc_seq (wc_block (wc_draw [0,1,2,3,4,5,6,8] rfl rfl (fun hok => (xP hok 0 rfl (xP hok 1 rfl (wx_indexK hok 2 0 s1.2 rfl rfl rfl (freshS_eq rfl) rfl rfl rfl rfl rfl rfl hk1 tE_35 tS_22 (wx_loadRow hok 3 hdr_opens 0 s1.2 0 rfl rfl rfl (freshS_eq rfl) rfl rfl rfl rfl hy1 tS_22 tA_22 (v := .slice y1.1 y1.2.1 y1.2.2) rfl rfl (fun _ => (xP hok 4 rfl (xP hok 5 rfl (xP hok 6 rfl (xS hok 7 rfl (wC [] [0,1] rfl fn_18 rfl (z_markByte_s ((s1.2 : Nat) : Int) ((s2.2 : Nat) : Int)) (asK [] rfl) rfl (H' := [_,_]) rfl ?_)))))))))))))))
   rintro _ _ _ ⟨rfl, rfl, rfl⟩
   refine wl_nil (we_x [] [0] rfl rfl (wx_flIdxH hok 8 (p := y1.1) (m := y1.2.1) (cp := y1.2.2) 1 s1.2 s2.2 rfl rfl rfl (freshS_eq rfl) rfl rfl rfl hr2 hh2 rfl rfl rfl (by omega) hl2 tE_22 tS_5 (fun g39 eg39 => (xS hok 9 rfl (wl_flStore (cs := mc_markByte s1.2 s2.2) 1 s1.2 s2.2 rfl rfl rfl rfl hr2 hsm2 (hdr_eq hh2 eg39) rfl (by omega) rfl rfl tS_5 rfl (one_of rfl) (H' := [_,_]) rfl (wl_nil (we_x [] [] rfl rfl (wx_done hok rfl (we_block_normal (we_then (wc_region (wP rfl (wP rfl (wl_as (d := 30) (v' := .int .i64 ((s2.2 + 1 : Nat) : Int)) (S' := [_,_,_,_,_,_,_,_,_,_,_,_,_,_,_,_]) rfl rfl (nat_add (a := s2.2) (b := 1) (by omega)) ?_))))))))))))))
   refine wl_pure (S' := [_,_,_,_,_,_,_,_,_,_,_,_,_,_,_,_]) rfl rfl rfl rfl rfl (wl_nil ?_)
   refine we_round (s2.1.set s1.2 ⟨r2.h, (r2.l.set s2.2 (some (mc_markByte s1.2 s2.2))), r2.h, (r2.l.set s2.2 (some (mc_markByte s1.2 s2.2)))⟩, s2.2 + 1) (by show y1.2.1 - (s2.2 + 1) < _; omega) ⟨by show s2.2 + 1 ≤ _; omega, oks2.2.store hy1 hr2 (by omega)⟩ [4,19,3,2,0] rfl (asK [] rfl) rfl
  ·
   replace h28 := of_decide_eq_false h28
   refine wc_exit (we_then_exit (we_then_exit (we_block_hit (we_block_normal (we_then (wc_region (wP rfl (wP rfl (wl_as (d := 21) (v' := .int .i64 ((s1.2 + 1 : Nat) : Int)) (S' := [_,_,_,_,_,_,_]) rfl rfl (nat_add (a := s1.2) (b := 1) (by omega)) (wl_pure (S' := [_,_,_,_,_,_,_]) rfl rfl rfl rfl rfl (wl_nil ?_)))))))))))
   refine we_round (s2.1, s1.2 + 1) (by show hs.length - (s1.2 + 1) < _; omega) ⟨by show s1.2 + 1 ≤ _; omega, oks2.2.next hy1 (by omega)⟩ [3,2,0] rfl (asK [] rfl) rfl
 ·
  replace h19 := of_decide_eq_false h19
  refine wc_exit (we_then_exit (we_then_exit (we_block_hit (we_then (wc_seq (wc_region (wP rfl (wN rfl tE_35 (wl_makeSlice (m := hs.length) hdrR (none, 0,0) rfl rfl rfl (freshS_eq rfl) rfl rfl rfl rfl rfl tE_35 tR_22 rfl rfl (fun _ _ => rfl) (by omega) (by omega) (fun g42 => (wP rfl (wl_nil (we_then (wc_keep [5,19,3,2,0] (S' := [_,_,_,_,_]) rfl ?_))))))))))))))
  refine wc_seq (wc_seq (wc_region (wP rfl (wl_nil (we_then (wc_block (wc_loop (σ := List Hdr × List Twin × Nat) (fun s => s.2.2 ≤ hs.length ∧ FlB hs mc_markByte s.1 s.2.2 s.2.1) (fun s => hs.length - s.2.2) (fun s => [(6, .int .i64 ((s.2.2 : Nat) : Int)), (5, .slice (some ⟨g42,0, none⟩) hs.length hs.length), (19, .bool (decide (((s1.2 : Nat) : Int) < ((hs.length : Nat) : Int)))), (3, .int .i64 ((s1.2 : Nat) : Int)), (2, .bool false), (0, .slice p hs.length c)]) (fun s => []) (fun s => [.own 22 1 hdrR (.slice (some ⟨g42,0, none⟩) hs.length hs.length) s.1, .own 22 1 hdrR (.slice p hs.length c) hs, flatF 5 1 s.2.1]) (List.replicate hs.length (none, 0,0), s1.1,0) ⟨Nat.zero_le _, oks1.2.grow (by omega) (by simp)⟩ [6,5,19,3,2,0] rfl (asK [] rfl) rfl (fun s3 oks3 => (wc_seq (wc_seq (wc_region (wP rfl (wP rfl (wN rfl tE_35 ?_))))))))))))))
  refine wP rfl (wl_nil (we_then (wc_keep [46,6,5,19,3,2,0] (S' := [_,_,_,_,_,_,_]) rfl ?_)))
  refine wc_cond rfl (fun h46 => ?_) (fun h46 => ?_)
  ·
   replace h46 := of_decide_eq_true h46
   have hk3 : s3.2.2 < hs.length := by omega
   obtain ⟨y3, hy3⟩ : ∃ y, hs[s3.2.2]? = some y := ⟨_, List.getElem?_eq_getElem hk3⟩
   have hB3 : y3.2.1 ≤ 1073741824 := hb _ (List.mem_of_getElem? hy3)
   refine wc_skip (we_then (wc_seq (wc_block (wc_seq (wc_region (wP rfl (wP rfl (wl_indexH 1 s3.2.2 rfl rfl rfl (freshS_eq rfl) rfl rfl rfl rfl rfl hk3 tE_35 tS_22 (fun g51 eg51 => ?_)))))))))
   subst eg51
   refine wl_loadRow hdr_opens 1 s3.2.2 0 rfl rfl rfl (freshS_eq rfl) rfl rfl rfl hy3 tS_22 tA_22 (v := fun _ => .slice y3.1 y3.2.1 y3.2.2) (fun _ => rfl) (fun _ => rfl) (fun _ _ => (wP rfl (wl_nil (we_then (wc_keep [7,46,6,5,19,3,2,0] (S' := [_,_,_,_,_,_,_,_]) rfl (wc_seq (wc_seq (wc_region (wP rfl (wl_nil (we_then (wc_block (wc_loop (σ := List Twin × Hdr × Nat) (fun s => s.2.2 ≤ 64 ∧ FlC hs mc_markByte s3.1 s3.2.2 s.2.2 s.2.1 s.1) (fun s => 64 - s.2.2) (fun s => [(8, .int .i64 ((s.2.2 : Nat) : Int)), (7, .slice s.2.1.1 s.2.1.2.1 s.2.1.2.2), (46, .bool (decide (((s3.2.2 : Nat) : Int) < ((hs.length : Nat) : Int)))), (6, .int .i64 ((s3.2.2 : Nat) : Int)), (5, .slice (some ⟨g42,0, none⟩) hs.length hs.length), (19, .bool (decide (((s1.2 : Nat) : Int) < ((hs.length : Nat) : Int)))), (3, .int .i64 ((s1.2 : Nat) : Int)), (2, .bool false), (0, .slice (some ⟨g51,0, none⟩) hs.length c)]) (fun s => []) (fun s => [.own 22 1 hdrR (.slice (some ⟨g42,0, none⟩) hs.length hs.length) s3.1, .own 22 1 hdrR (.slice (some ⟨g51,0, none⟩) hs.length c) hs, flatF 5 1 s.1]) (s3.2.1, y3,0) ⟨Nat.zero_le _, oks3.2.begin hy3⟩ [8,7,46,6,5,19,3,2,0] rfl (asK [] rfl) rfl (fun s4 oks4 => (wc_seq ?_)))))))))))))))
   refine wc_seq (wc_region (wP rfl (wP rfl (wl_nil (we_then (wc_keep [54,8,7,46,6,5,19,3,2,0] (S' := [_,_,_,_,_,_,_,_,_,_]) rfl ?_))))))
   refine wc_cond rfl (fun h54 => ?_) (fun h54 => ?_)
   ·
    replace h54 := of_decide_eq_true h54
    obtain ⟨r4, hr4, hh4, hl4, hg4, hm4⟩ := oks4.2.at_ hy3
    refine wc_skip (we_then (wc_seq (wc_block (wc_region (wP rfl (wP rfl (wP rfl (wP rfl (wl_indexK 1 s3.2.2 rfl rfl rfl (freshS_eq rfl) rfl rfl rfl rfl rfl hk3 tE_35 tS_22 (wl_loadRow hdr_opens 1 s3.2.2 0 rfl rfl rfl (freshS_eq rfl) rfl rfl rfl hy3 tS_22 tA_22 (v := fun _ => .slice y3.1 y3.2.1 y3.2.2) (fun _ => rfl) (fun _ => rfl) (fun _ _ => (wN rfl tE_22 (wP rfl (wP rfl ?_))))))))))))))
    refine wl_as (d := 65) (v' := .int .i64 ((y3.2.1 + s4.2.2 : Nat) : Int)) (S' := [_,_,_,_,_,_,_,_,_,_,_,_,_,_,_,_,_,_]) rfl rfl (nat_add (a := y3.2.1) (b := s4.2.2) (by omega)) (wC [] [0,1,2] rfl fn_18 rfl (z_markByte_s ((s3.2.2 : Nat) : Int) ((y3.2.1 + s4.2.2 : Nat) : Int)) (asK [] rfl) rfl (H' := [_,_,_]) rfl ?_)
    rintro _ _ _ ⟨rfl, rfl, rfl⟩
    refine wl_buildSlice rfl rfl rfl (freshS_eq rfl) rfl tE_22 tS_5 tZ_5 rfl (zs := [.int .u8 0]) (by kernel_rfl) rfl (out := [_]) rfl (fun g67 => (wl_flAppB (cs := mc_markByte s3.2.2 (y3.2.1 + s4.2.2)) 3 s3.2.2 0 rfl rfl rfl (freshS_eq rfl) rfl rfl hr4 (by rw [hg4]; rfl) rfl rfl rfl (one_of rfl) tE_22 tR_5 rfl rfl (by rw [hm4]; simp only [marks_len, List.length_append, List.length_cons, List.length_nil]; omega) (by rw [hm4]; simp only [marks_len, List.length_append, List.length_cons, List.length_nil]; omega) (H2 := fun gh68 => [_,_,_, flatF 5 1 (s4.1.set s3.2.2 ⟨r4.h, r4.l, gh68, r4.m ++ [some (mc_markByte s3.2.2 (y3.2.1 + s4.2.2))]⟩)]) (fun _ => rfl) (fun gh68 => (wl_drop 0 rfl (H' := [_,_,_]) rfl (wl_pure (S' := [_,_,_,_,_,_,_,_,_,_,_,_,_,_,_,_,_,_,_,_,_]) rfl rfl rfl rfl rfl (wl_nil (we_block_normal (we_then (wc_region (wP rfl (wP rfl (wl_as (d := 56) (v' := .int .i64 ((s4.2.2 + 1 : Nat) : Int)) (S' := [_,_,_,_,_,_,_,_,_,_,_,_,_,_,_,_,_,_,_,_,_,_,_]) rfl rfl (nat_add (a := s4.2.2) (b := 1) (by omega)) (wl_pure (S' := [_,_,_,_,_,_,_,_,_,_,_,_,_,_,_,_,_,_,_,_,_,_,_]) rfl rfl rfl rfl rfl (wl_nil ?_))))))))))))))
    refine we_round (s4.1.set s3.2.2 ⟨r4.h, r4.l, gh68, r4.m ++ [some (mc_markByte s3.2.2 (y3.2.1 + s4.2.2))]⟩, gh68, s4.2.2 + 1) (by show 64 - (s4.2.2 + 1) < _; omega) ⟨by show s4.2.2 + 1 ≤ 64; omega, oks4.2.app hy3 hr4 _⟩ [8,7,46,6,5,19,3,2,0] rfl (asK [] rfl) rfl
   ·
    replace h54 := of_decide_eq_false h54
    refine wc_exit (we_then_exit (we_then_exit (we_block_hit (we_then (wc_region (wP rfl (wP rfl (wP rfl (wl_indexK 0 s3.2.2 rfl rfl rfl (freshS_eq rfl) rfl rfl rfl rfl rfl (by rw [oks3.2.2.1]; exact hk3) tE_35 tS_22 (wl_storeRow (u := s4.2.1) 0 s3.2.2 rfl rfl rfl rfl rfl (by rw [oks3.2.2.1]; exact hk3) rfl rfl tS_22 rfl (fun _ _ _ => rfl) (H' := [_,_,_]) rfl (wl_nil (we_block_normal (we_then ?_)))))))))))))
    refine wc_region (wP rfl (wP rfl (wl_as (d := 48) (v' := .int .i64 ((s3.2.2 + 1 : Nat) : Int)) (S' := [_,_,_,_,_,_,_,_,_,_,_,_,_,_,_]) rfl rfl (nat_add (a := s3.2.2) (b := 1) (by omega)) (wl_pure (S' := [_,_,_,_,_,_,_,_,_,_,_,_,_,_,_]) rfl rfl rfl rfl rfl (wl_nil ?_)))))
    have hc3 := oks4.2
    rw [show s4.2.2 = 64 from by omega] at hc3
    refine we_round (s3.1.set s3.2.2 s4.2.1, s4.1, s3.2.2 + 1) (by show hs.length - (s3.2.2 + 1) < _; omega) ⟨by show s3.2.2 + 1 ≤ _; omega, hc3.done hk3⟩ [6,5,19,3,2,0] rfl (asK [] rfl) rfl
  ·
   replace h46 := of_decide_eq_false h46
   refine wc_exit (we_then_exit (we_then_exit (we_block_hit (we_then (wc_seq (wc_seq (wc_region (wP rfl (wl_nil (we_then (wc_block (wc_loop (σ := Nat) (fun s => s ≤ hs.length) (fun s => hs.length - s) (fun s => [(9, .int .i64 ((s : Nat) : Int)), (46, .bool (decide (((s3.2.2 : Nat) : Int) < ((hs.length : Nat) : Int)))), (6, .int .i64 ((s3.2.2 : Nat) : Int)), (5, .slice (some ⟨g42,0, none⟩) hs.length hs.length), (19, .bool (decide (((s1.2 : Nat) : Int) < ((hs.length : Nat) : Int)))), (3, .int .i64 ((s1.2 : Nat) : Int)), (2, .bool false), (0, .slice p hs.length c)]) (fun s => []) (fun s => [.own 22 1 hdrR (.slice (some ⟨g42,0, none⟩) hs.length hs.length) s3.1, .own 22 1 hdrR (.slice p hs.length c) hs, flatF 5 1 s3.2.1]) 0 (Nat.zero_le _) [9,46,6,5,19,3,2,0] rfl (asK [] rfl) rfl (fun s5 oks5 => (wc_seq ?_))))))))))))))
   refine wc_seq (wc_region (wP rfl (wP rfl (wN rfl tE_35 (wP rfl (wl_nil (we_then (wc_keep [76,9,46,6,5,19,3,2,0] (S' := [_,_,_,_,_,_,_,_,_]) rfl ?_))))))))
   refine wc_cond rfl (fun h76 => ?_) (fun h76 => ?_)
   ·
    replace h76 := of_decide_eq_true h76
    have hk5 : s5 < hs.length := by omega
    obtain ⟨y5, hy5⟩ : ∃ y, hs[s5]? = some y := ⟨_, List.getElem?_eq_getElem hk5⟩
    have hB5 : y5.2.1 ≤ 1073741824 := hb _ (List.mem_of_getElem? hy5)
    obtain ⟨r5, hr5, hh5, hl5, hg5, hm5⟩ := oks3.2.look (by omega) hy5
    refine wc_flLen 2 rfl hr5 (fun hA5 hC5 => ?_)
    rw [hl5, marks_len] at hA5
    rw [hm5, marks_len] at hC5
    refine wc_skip (we_then (wc_seq (wc_block (wc_seq (wc_region (wP rfl (wl_nil (we_then (wc_block (wc_loop (σ := Nat) (fun s => s ≤ y5.2.1 + 64) (fun s => y5.2.1 + 64 - s) (fun s => [(10, .int .i64 ((s : Nat) : Int)), (76, .bool (decide (((s5 : Nat) : Int) < ((hs.length : Nat) : Int)))), (9, .int .i64 ((s5 : Nat) : Int)), (46, .bool (decide (((s3.2.2 : Nat) : Int) < ((hs.length : Nat) : Int)))), (6, .int .i64 ((s3.2.2 : Nat) : Int)), (5, .slice (some ⟨g42,0, none⟩) hs.length hs.length), (19, .bool (decide (((s1.2 : Nat) : Int) < ((hs.length : Nat) : Int)))), (3, .int .i64 ((s1.2 : Nat) : Int)), (2, .bool false), (0, .slice p hs.length c)]) (fun s => []) (fun s => [.own 22 1 hdrR (.slice (some ⟨g42,0, none⟩) hs.length hs.length) s3.1, .own 22 1 hdrR (.slice p hs.length c) hs, flatF 5 1 s3.2.1]) 0 (Nat.zero_le _) [10,76,9,46,6,5,19,3,2,0] rfl (asK [] rfl) rfl (fun s6 oks6 => (wc_seq (wc_seq (wc_region ?_))))))))))))))
    refine wP rfl (wP rfl (wP rfl (wl_indexK 0 s5 rfl rfl rfl (freshS_eq rfl) rfl rfl rfl rfl rfl (by rw [oks3.2.2.1]; exact hk5) tE_35 tS_22 (wl_loadRow hdr_opens 0 s5 0 rfl rfl rfl (freshS_eq rfl) rfl rfl rfl hg5 tS_22 tA_22 (v := fun _ => .slice r5.g.1 r5.g.2.1 r5.g.2.2) (fun _ => rfl) (fun _ => rfl) (fun _ _ => (wN rfl tE_22 (wP rfl (wl_nil (we_then (wc_keep [85,10,76,9,46,6,5,19,3,2,0] (S' := [_,_,_,_,_,_,_,_,_,_,_]) rfl ?_))))))))))
    refine wc_cond rfl (fun h85 => ?_) (fun h85 => ?_)
    ·
     replace h85 := of_decide_eq_true h85
     refine wc_skip (we_then (wc_seq (wc_block (wc_seq (wc_draw [0,1,2,3,4,5,6,7,8,10,11,12,13,14,15,16,17,18,19,20,21,22,23,24,25,26,27,28,29,31,32,33,34] rfl rfl (fun hok => (xP hok 0 rfl (xP hok 1 rfl (wx_indexK hok 2 0 s5 rfl rfl rfl (freshS_eq rfl) rfl rfl rfl rfl rfl rfl (by rw [oks3.2.2.1]; exact hk5) tE_35 tS_22 (wx_loadRow hok 3 hdr_opens 0 s5 0 rfl rfl rfl (freshS_eq rfl) rfl rfl rfl rfl hg5 tS_22 tA_22 (v := .slice r5.g.1 r5.g.2.1 r5.g.2.2) rfl rfl (fun _ => (xP hok 4 rfl (wx_flIdxG hok 5 (p := r5.g.1) (m := r5.g.2.1) (cp := r5.g.2.2) 2 s5 s6 rfl rfl rfl (freshS_eq rfl) rfl rfl rfl hr5 rfl rfl rfl rfl (by omega) (by rw [hm5, marks_len]; omega) tE_22 tS_5 (fun g93 eg93 => (wx_flLoadG hok 6 2 s5 s6 rfl rfl rfl (freshS_eq rfl) rfl rfl rfl hr5 (hdr_eqG eg93) rfl (cs := mc_markByte s5 s6) (by rw [hm5]; exact marks_at (by omega)) tS_5 tA_5 rfl (v := .int .u8 (z_markByte ((s5 : Nat) : Int) ((s6 : Nat) : Int))) rfl (xP hok 7 rfl ?_))))))))))))))))
     refine xP hok 8 rfl (xS hok 9 rfl (wC [] [0,1,2] rfl fn_18 rfl (z_markByte_s ((s5 : Nat) : Int) ((s6 : Nat) : Int)) (asK [] rfl) rfl (H' := [_,_,_]) rfl ?_))
     rintro _ _ _ ⟨rfl, rfl, rfl⟩
     refine wl_nil (we_x [] [2,0] rfl rfl (xP hok 10 rfl (wx_as (d := 98) (v' := .bool true) (S' := [_,_,_,_,_,_,_,_,_,_,_,_,_,_,_,_,_,_,_,_,_]) rfl rfl (congrArg Value.bool (by simp)) (xP hok 11 rfl (xP hok 12 rfl (xP hok 13 rfl (xP hok 14 rfl (xP hok 15 rfl (wx_indexH hok 16 1 s5 rfl rfl rfl (freshS_eq rfl) rfl rfl rfl rfl rfl rfl hk5 tE_35 tS_22 (fun g104 eg104 => ?_))))))))))
     subst eg104
     refine wx_loadRow hok 17 hdr_opens 1 s5 0 rfl rfl rfl (freshS_eq rfl) rfl rfl rfl rfl hy5 tS_22 tA_22 (v := .slice y5.1 y5.2.1 y5.2.2) rfl rfl (fun _ => (wx_len hok 18 rfl rfl rfl (freshS_eq rfl) rfl rfl rfl tE_22 (xP hok 19 rfl (xP hok 20 rfl ?_))))
     refine wx_split (d := 108) (S' := [_,_,_,_,_,_,_,_,_,_,_,_,_,_,_,_,_,_,_,_,_,_,_,_,_,_,_,_,_,_,_]) rfl rfl (fun h108 => ?_) (fun h108 => ?_)
     ·
      replace h108 := of_decide_eq_true h108
      refine xP hok 21 rfl (xP hok 22 rfl (wx_indexK hok 23 1 s5 rfl rfl rfl (freshS_eq rfl) rfl rfl rfl rfl rfl rfl hk5 tE_35 tS_22 (wx_loadRow hok 24 hdr_opens 1 s5 0 rfl rfl rfl (freshS_eq rfl) rfl rfl rfl rfl hy5 tS_22 tA_22 (v := .slice y5.1 y5.2.1 y5.2.2) rfl rfl (fun _ => (xP hok 25 rfl (wx_flIdxH hok 26 (p := y5.1) (m := y5.2.1) (cp := y5.2.2) 2 s5 s6 rfl rfl rfl (freshS_eq rfl) rfl rfl rfl hr5 hh5 rfl rfl rfl (by omega) (by rw [hl5, marks_len]) tE_22 tS_5 (fun g114 eg114 => (wx_flLoadH hok 27 2 s5 s6 rfl rfl rfl (freshS_eq rfl) rfl rfl rfl hr5 (hdr_eq hh5 eg114) rfl (cs := mc_markByte s5 s6) (by rw [hl5]; exact marks_at (by omega)) tS_5 tA_5 rfl (v := .int .u8 (z_markByte ((s5 : Nat) : Int) ((s6 : Nat) : Int))) rfl (xP hok 28 rfl (xP hok 29 rfl (xS hok 30 rfl (wC [] [0,1,2] rfl fn_18 rfl (z_markByte_s ((s5 : Nat) : Int) ((s6 : Nat) : Int)) (asK [] rfl) rfl (H' := [_,_,_]) rfl ?_))))))))))))
      rintro _ _ _ ⟨rfl, rfl, rfl⟩
      refine wl_nil (we_x [] [2,1,1,2,0] rfl rfl (xP hok 31 rfl (wx_as (d := 119) (v' := .bool true) (S' := [_,_,_,_,_,_,_,_,_,_,_,_,_,_,_,_,_,_,_,_,_,_,_,_,_,_,_,_,_,_,_,_,_,_,_,_,_,_,_,_,_,_]) rfl rfl (congrArg Value.bool (by simp)) (xP hok 32 rfl (xP hok 33 rfl (xP hok 34 rfl (wx_done hok rfl (we_then (wc_keep [122,85,10,76,9,46,6,5,19,3,2,0] (S' := [_,_,_,_,_,_,_,_,_,_,_,_]) rfl (wc_false rfl (wc_skip (we_block_normal (we_then ?_)))))))))))))
      refine wc_region (wP rfl (wP rfl (wl_as (d := 87) (v' := .int .i64 ((s6 + 1 : Nat) : Int)) (S' := [_,_,_,_,_,_,_,_,_,_,_,_,_]) rfl rfl (nat_add (a := s6) (b := 1) (by omega)) (wl_pure (S' := [_,_,_,_,_,_,_,_,_,_,_,_,_]) rfl rfl rfl rfl rfl (wl_nil ?_)))))
      refine we_round (s6 + 1) (by omega) (by omega) [10,76,9,46,6,5,19,3,2,0] rfl (asK [] rfl) rfl
     ·
      replace h108 := of_decide_eq_false h108
      refine xO hok 21 rfl (xO hok 22 rfl (xO hok 23 rfl (xO hok 24 rfl (xO hok 25 rfl (xO hok 26 rfl (xO hok 27 rfl (xO hok 28 rfl (xO hok 29 rfl (xS hok 30 rfl (wO rfl (wl_nil (we_x [] [1,2,0] rfl rfl (xO hok 31 rfl ?_)))))))))))))
      refine xO hok 32 rfl (xP hok 33 rfl (xP hok 34 rfl (wx_done hok rfl (we_then (wc_keep [122,85,10,76,9,46,6,5,19,3,2,0] (S' := [_,_,_,_,_,_,_,_,_,_,_,_]) rfl (wc_false rfl (wc_skip (we_block_normal (we_then (wc_region (wP rfl (wP rfl (wl_as (d := 87) (v' := .int .i64 ((s6 + 1 : Nat) : Int)) (S' := [_,_,_,_,_,_,_,_,_,_,_,_,_]) rfl rfl (nat_add (a := s6) (b := 1) (by omega)) ?_)))))))))))))
      refine wl_pure (S' := [_,_,_,_,_,_,_,_,_,_,_,_,_]) rfl rfl rfl rfl rfl (wl_nil ?_)
      refine we_round (s6 + 1) (by omega) (by omega) [10,76,9,46,6,5,19,3,2,0] rfl (asK [] rfl) rfl
    ·
     replace h85 := of_decide_eq_false h85
     refine wc_exit (we_then_exit (we_then_exit (we_block_hit (we_block_normal (we_then (wc_region (wP rfl (wP rfl (wl_as (d := 78) (v' := .int .i64 ((s5 + 1 : Nat) : Int)) (S' := [_,_,_,_,_,_,_,_,_,_,_,_]) rfl rfl (nat_add (a := s5) (b := 1) (by omega)) (wl_pure (S' := [_,_,_,_,_,_,_,_,_,_,_,_]) rfl rfl rfl rfl rfl (wl_nil ?_)))))))))))
     refine we_round (s5 + 1) (by omega) (by omega) [9,46,6,5,19,3,2,0] rfl (asK [] rfl) rfl
   ·
    replace h76 := of_decide_eq_false h76
    refine wc_exit (we_then_exit (we_then_exit (we_block_hit (we_then (wc_seq (wc_seq (wc_region (wP rfl (wl_nil (we_then (wc_block (wc_loop (σ := List Hdr × List Twin × Nat) (fun s => s.2.2 ≤ hs.length ∧ FlD hs mc_markByte s.1 s.2.2 s.2.1) (fun s => hs.length - s.2.2) (fun s => [(11, .int .i64 ((s.2.2 : Nat) : Int)), (76, .bool (decide (((s5 : Nat) : Int) < ((hs.length : Nat) : Int)))), (9, .int .i64 ((s5 : Nat) : Int)), (46, .bool (decide (((s3.2.2 : Nat) : Int) < ((hs.length : Nat) : Int)))), (6, .int .i64 ((s3.2.2 : Nat) : Int)), (5, .slice (some ⟨g42,0, none⟩) hs.length hs.length), (19, .bool (decide (((s1.2 : Nat) : Int) < ((hs.length : Nat) : Int)))), (3, .int .i64 ((s1.2 : Nat) : Int)), (2, .bool false), (0, .slice p hs.length c)]) (fun s => []) (fun s => [.own 22 1 hdrR (.slice (some ⟨g42,0, none⟩) hs.length hs.length) s.1, .own 22 1 hdrR (.slice p hs.length c) hs, flatF 5 1 s.2.1]) (s3.1, s3.2.1,0) ⟨Nat.zero_le _, oks3.2.again⟩ [11,76,9,46,6,5,19,3,2,0] rfl (asK [] rfl) rfl (fun s7 oks7 => (wc_seq ?_))))))))))))))
    refine wc_seq (wc_region (wP rfl (wP rfl (wN rfl tE_35 (wP rfl (wl_nil (we_then (wc_keep [126,11,76,9,46,6,5,19,3,2,0] (S' := [_,_,_,_,_,_,_,_,_,_,_]) rfl ?_))))))))
    refine wc_cond rfl (fun h126 => ?_) (fun h126 => ?_)
    ·
     replace h126 := of_decide_eq_true h126
     have hk7 : s7.2.2 < hs.length := by omega
     obtain ⟨y7, hy7⟩ : ∃ y, hs[s7.2.2]? = some y := ⟨_, List.getElem?_eq_getElem hk7⟩
     have hB7 : y7.2.1 ≤ 1073741824 := hb _ (List.mem_of_getElem? hy7)
     obtain ⟨r7, hr7, hh7, hl7⟩ := oks7.2.at_ hy7
     refine wc_skip (we_then (wc_seq (wc_block (wc_seq (wc_region (wl_makeSlice (m := 64) celR (none : Cel) rfl rfl rfl (freshS_eq rfl) rfl rfl rfl rfl rfl tE_22 tR_5 rfl rfl (fun _ _ => cel_any rfl) (by omega) (by omega) (fun g129 => (wP rfl (wl_nil (we_then (wc_keep [12,126,11,76,9,46,6,5,19,3,2,0] (S' := [_,_,_,_,_,_,_,_,_,_,_,_]) rfl (wc_seq (wc_seq (wc_region ?_))))))))))))))
     refine wP rfl (wl_nil (we_then (wc_block (wc_loop (σ := List Cel × Nat) (fun s => s.2 ≤ 64 ∧ s.1.length = 64) (fun s => 64 - s.2) (fun s => [(13, .int .i64 ((s.2 : Nat) : Int)), (12, .slice (some ⟨g129,0, none⟩) 64 64), (126, .bool (decide (((s7.2.2 : Nat) : Int) < ((hs.length : Nat) : Int)))), (11, .int .i64 ((s7.2.2 : Nat) : Int)), (76, .bool (decide (((s5 : Nat) : Int) < ((hs.length : Nat) : Int)))), (9, .int .i64 ((s5 : Nat) : Int)), (46, .bool (decide (((s3.2.2 : Nat) : Int) < ((hs.length : Nat) : Int)))), (6, .int .i64 ((s3.2.2 : Nat) : Int)), (5, .slice (some ⟨g42,0, none⟩) hs.length hs.length), (19, .bool (decide (((s1.2 : Nat) : Int) < ((hs.length : Nat) : Int)))), (3, .int .i64 ((s1.2 : Nat) : Int)), (2, .bool false), (0, .slice p hs.length c)]) (fun s => []) (fun s => [.own 5 1 celR (.slice (some ⟨g129,0, none⟩) 64 64) s.1, .own 22 1 hdrR (.slice (some ⟨g42,0, none⟩) hs.length hs.length) s7.1, .own 22 1 hdrR (.slice p hs.length c) hs, flatF 5 1 s7.2.1]) (List.replicate 64 (none : Cel), 0) ⟨Nat.zero_le _, by simp⟩ [13,12,126,11,76,9,46,6,5,19,3,2,0] rfl (asK [] rfl) rfl (fun s8 oks8 => (wc_seq (wc_seq (wc_region (wP rfl (wP rfl (wl_nil (we_then (wc_keep [131,13,12,126,11,76,9,46,6,5,19,3,2,0] (S' := [_,_,_,_,_,_,_,_,_,_,_,_,_,_]) rfl ?_)))))))))))))
     refine wc_cond rfl (fun h131 => ?_) (fun h131 => ?_)
     ·
      replace h131 := of_decide_eq_true h131
      refine wc_skip (we_then (wc_seq (wc_block (wc_region (wP rfl (wP rfl (wP rfl (wP rfl (wN rfl tE_35 (wP rfl (wl_as (d := 139) (v' := .int .i64 ((s7.2.2 + hs.length : Nat) : Int)) (S' := [_,_,_,_,_,_,_,_,_,_,_,_,_,_,_,_,_,_,_]) rfl rfl (nat_add (a := s7.2.2) (b := hs.length) (by omega)) (wP rfl (wC [] [0,1,2,3] rfl fn_18 rfl (z_markByte_s ((s7.2.2 + hs.length : Nat) : Int) ((s8.2 : Nat) : Int)) (asK [] rfl) rfl (H' := [_,_,_,_]) rfl ?_)))))))))))))
      rintro _ _ _ ⟨rfl, rfl, rfl⟩
      refine wl_indexK 0 s8.2 rfl rfl rfl (freshS_eq rfl) rfl rfl rfl rfl rfl (by rw [oks8.2]; omega) tE_22 tS_5 (wl_storeRow (u := some ([.int .u8 (z_markByte ((s7.2.2 + hs.length : Nat) : Int) ((s8.2 : Nat) : Int))] : List Value)) 0 s8.2 rfl rfl rfl rfl rfl (by rw [oks8.2]; omega) rfl rfl tS_5 rfl (fun _ _ _ => cel_some rfl) (H' := [_,_,_,_]) rfl (wl_nil (we_block_normal (we_then (wc_region (wP rfl (wP rfl (wl_as (d := 133) (v' := .int .i64 ((s8.2 + 1 : Nat) : Int)) (S' := [_,_,_,_,_,_,_,_,_,_,_,_,_,_,_,_,_,_,_,_,_,_,_,_]) rfl rfl (nat_add (a := s8.2) (b := 1) (by omega)) (wl_pure (S' := [_,_,_,_,_,_,_,_,_,_,_,_,_,_,_,_,_,_,_,_,_,_,_,_]) rfl rfl rfl rfl rfl (wl_nil ?_))))))))))
      refine we_round (s8.1.set s8.2 (some ([.int .u8 (z_markByte ((s7.2.2 + hs.length : Nat) : Int) ((s8.2 : Nat) : Int))] : List Value)), s8.2 + 1) (by show 64 - (s8.2 + 1) < _; omega) ⟨by show s8.2 + 1 ≤ 64; omega, by show (List.set _ _ _).length = 64; rw [List.length_set]; exact oks8.2⟩ [13,12,126,11,76,9,46,6,5,19,3,2,0] rfl (asK [] rfl) rfl
     ·
      replace h131 := of_decide_eq_false h131
      refine wc_exit (we_then_exit (we_then_exit (we_block_hit (we_then (wc_region (wP rfl (wP rfl (wP rfl (wP rfl (wl_indexH 2 s7.2.2 rfl rfl rfl (freshS_eq rfl) rfl rfl rfl rfl rfl hk7 tE_35 tS_22 (fun g147 eg147 => ?_)))))))))))
      subst eg147
      refine wl_loadRow hdr_opens 2 s7.2.2 0 rfl rfl rfl (freshS_eq rfl) rfl rfl rfl hy7 tS_22 tA_22 (v := fun _ => .slice y7.1 y7.2.1 y7.2.2) (fun _ => rfl) (fun _ => rfl) (fun _ _ => (wP rfl (wl_sh [_,_,_, flatF 5 1 (s7.2.1.set s7.2.2 ⟨r7.h, r7.l, r7.h, r7.l⟩)] (fun _ h => h.flReset 3 s7.2.2 rfl hr7) (wl_flAppO 3 s7.2.2 0 rfl rfl rfl (freshS_eq rfl) rfl rfl (set_eqT _ hr7) (by show _ = some (hdv r7.h); rw [hh7]; rfl) rfl rfl oks8.2 (by decide) tE_22 tR_5 rfl rfl (by show r7.l.length + _ ≤ _; rw [hl7, marks_len]; omega) (by show (r7.l.length + _) * _ ≤ _; rw [hl7, marks_len]; omega) (H2 := fun gh150 => [_,_,_, flatF 5 1 ((s7.2.1.set s7.2.2 ⟨r7.h, r7.l, r7.h, r7.l⟩).set s7.2.2 ⟨r7.h, r7.l, gh150, r7.l ++ s8.1⟩)]) (fun _ => rfl) (fun gh150 => (wl_drop 0 rfl (H' := [_,_,_]) rfl (wl_indexK 0 s7.2.2 rfl rfl rfl (freshS_eq rfl) rfl rfl rfl rfl rfl (by rw [oks7.2.2.1]; exact hk7) tE_35 tS_22 (wl_storeRow (u := gh150) 0 s7.2.2 rfl rfl rfl rfl rfl (by rw [oks7.2.2.1]; exact hk7) rfl rfl tS_22 rfl (fun _ _ _ => rfl) (H' := [_,_,_]) rfl (wl_nil (we_block_normal (we_then (wc_region (wP rfl (wP rfl (wl_as (d := 128) (v' := .int .i64 ((s7.2.2 + 1 : Nat) : Int)) (S' := [_,_,_,_,_,_,_,_,_,_,_,_,_,_,_,_,_,_,_,_,_,_,_,_]) rfl rfl (nat_add (a := s7.2.2) (b := 1) (by omega)) ?_)))))))))))))))
      refine wl_pure (S' := [_,_,_,_,_,_,_,_,_,_,_,_,_,_,_,_,_,_,_,_,_,_,_,_]) rfl rfl rfl rfl rfl (wl_nil ?_)
      refine we_round (s7.1.set s7.2.2 gh150, (s7.2.1.set s7.2.2 ⟨r7.h, r7.l, r7.h, r7.l⟩).set s7.2.2 ⟨r7.h, r7.l, gh150, r7.l ++ s8.1⟩, s7.2.2 + 1) (by show hs.length - (s7.2.2 + 1) < _; omega) ⟨by show s7.2.2 + 1 ≤ _; omega, oks7.2.app hy7 hr7 _ _⟩ [11,76,9,46,6,5,19,3,2,0] rfl (asK [] rfl) rfl
    ·
     replace h126 := of_decide_eq_false h126
     refine wc_exit (we_then_exit (we_then_exit (we_block_hit (we_then (wc_seq (wc_seq (wc_region (wP rfl (wl_nil (we_then (wc_block (wc_loop (σ := Nat) (fun s => s ≤ hs.length) (fun s => hs.length - s) (fun s => [(14, .int .i64 ((s : Nat) : Int)), (126, .bool (decide (((s7.2.2 : Nat) : Int) < ((hs.length : Nat) : Int)))), (11, .int .i64 ((s7.2.2 : Nat) : Int)), (76, .bool (decide (((s5 : Nat) : Int) < ((hs.length : Nat) : Int)))), (9, .int .i64 ((s5 : Nat) : Int)), (46, .bool (decide (((s3.2.2 : Nat) : Int) < ((hs.length : Nat) : Int)))), (6, .int .i64 ((s3.2.2 : Nat) : Int)), (5, .slice (some ⟨g42,0, none⟩) hs.length hs.length), (19, .bool (decide (((s1.2 : Nat) : Int) < ((hs.length : Nat) : Int)))), (3, .int .i64 ((s1.2 : Nat) : Int)), (2, .bool false), (0, .slice p hs.length c)]) (fun s => []) (fun s => [.own 22 1 hdrR (.slice (some ⟨g42,0, none⟩) hs.length hs.length) s7.1, .own 22 1 hdrR (.slice p hs.length c) hs, flatF 5 1 s7.2.1]) 0 (Nat.zero_le _) [14,126,11,76,9,46,6,5,19,3,2,0] rfl (asK [] rfl) rfl (fun s9 oks9 => (wc_seq ?_))))))))))))))
     refine wc_seq (wc_region (wP rfl (wP rfl (wN rfl tE_35 (wP rfl (wl_nil (we_then (wc_keep [155,14,126,11,76,9,46,6,5,19,3,2,0] (S' := [_,_,_,_,_,_,_,_,_,_,_,_,_]) rfl ?_))))))))
     refine wc_cond rfl (fun h155 => ?_) (fun h155 => ?_)
     ·
      replace h155 := of_decide_eq_true h155
      have hk9 : s9 < hs.length := by omega
      obtain ⟨y9, hy9⟩ : ∃ y, hs[s9]? = some y := ⟨_, List.getElem?_eq_getElem hk9⟩
      have hB9 : y9.2.1 ≤ 1073741824 := hb _ (List.mem_of_getElem? hy9)
      obtain ⟨r9, hr9, hh9, hl9, hg9, t9, hm9⟩ := oks7.2.look (by omega) hy9
      refine wc_flLen 2 rfl hr9 (fun hA9 hC9 => ?_)
      rw [hl9, marks_len] at hA9
      have hE9 := hC9
      rw [hm9, List.length_append, marks_len] at hE9
      refine wc_skip (we_then (wc_seq (wc_block (wc_seq (wc_region (wP rfl (wl_nil (we_then (wc_block (wc_loop (σ := Nat) (fun s => s ≤ y9.2.1) (fun s => y9.2.1 - s) (fun s => [(15, .int .i64 ((s : Nat) : Int)), (155, .bool (decide (((s9 : Nat) : Int) < ((hs.length : Nat) : Int)))), (14, .int .i64 ((s9 : Nat) : Int)), (126, .bool (decide (((s7.2.2 : Nat) : Int) < ((hs.length : Nat) : Int)))), (11, .int .i64 ((s7.2.2 : Nat) : Int)), (76, .bool (decide (((s5 : Nat) : Int) < ((hs.length : Nat) : Int)))), (9, .int .i64 ((s5 : Nat) : Int)), (46, .bool (decide (((s3.2.2 : Nat) : Int) < ((hs.length : Nat) : Int)))), (6, .int .i64 ((s3.2.2 : Nat) : Int)), (5, .slice (some ⟨g42,0, none⟩) hs.length hs.length), (19, .bool (decide (((s1.2 : Nat) : Int) < ((hs.length : Nat) : Int)))), (3, .int .i64 ((s1.2 : Nat) : Int)), (2, .bool false), (0, .slice p hs.length c)]) (fun s => []) (fun s => [.own 22 1 hdrR (.slice (some ⟨g42,0, none⟩) hs.length hs.length) s7.1, .own 22 1 hdrR (.slice p hs.length c) hs, flatF 5 1 s7.2.1]) 0 (Nat.zero_le _) [15,155,14,126,11,76,9,46,6,5,19,3,2,0] rfl (asK [] rfl) rfl (fun s10 oks10 => (wc_seq (wc_seq (wc_region ?_))))))))))))))
      refine wP rfl (wP rfl (wP rfl (wl_indexH 1 s9 rfl rfl rfl (freshS_eq rfl) rfl rfl rfl rfl rfl hk9 tE_35 tS_22 (fun g161 eg161 => ?_))))
      subst eg161
      refine wl_loadRow hdr_opens 1 s9 0 rfl rfl rfl (freshS_eq rfl) rfl rfl rfl hy9 tS_22 tA_22 (v := fun _ => .slice y9.1 y9.2.1 y9.2.2) (fun _ => rfl) (fun _ => rfl) (fun _ _ => (wN rfl tE_22 (wP rfl (wl_nil (we_then (wc_keep [164,15,155,14,126,11,76,9,46,6,5,19,3,2,0] (S' := [_,_,_,_,_,_,_,_,_,_,_,_,_,_,_]) rfl ?_))))))
      refine wc_cond rfl (fun h164 => ?_) (fun h164 => ?_)
      ·
       replace h164 := of_decide_eq_true h164
       refine wc_skip (we_then (wc_seq (wc_block (wc_seq (wc_draw [0,1,2,3,4,5,6,7,8,10,11,12,13,14,15,16,17,18,19,20,21,23,24,25] rfl rfl (fun hok => (xP hok 0 rfl (xP hok 1 rfl (wx_indexK hok 2 1 s9 rfl rfl rfl (freshS_eq rfl) rfl rfl rfl rfl rfl rfl hk9 tE_35 tS_22 (wx_loadRow hok 3 hdr_opens 1 s9 0 rfl rfl rfl (freshS_eq rfl) rfl rfl rfl rfl hy9 tS_22 tA_22 (v := .slice y9.1 y9.2.1 y9.2.2) rfl rfl (fun _ => (xP hok 4 rfl (wx_flIdxH hok 5 (p := y9.1) (m := y9.2.1) (cp := y9.2.2) 2 s9 s10 rfl rfl rfl (freshS_eq rfl) rfl rfl rfl hr9 hh9 rfl rfl rfl (by omega) (by rw [hl9, marks_len]) tE_22 tS_5 (fun g172 eg172 => (wx_flLoadH hok 6 2 s9 s10 rfl rfl rfl (freshS_eq rfl) rfl rfl rfl hr9 (hdr_eq hh9 eg172) rfl (cs := mc_markByte s9 s10) (by rw [hl9]; exact marks_at (by omega)) tS_5 tA_5 rfl (v := .int .u8 (z_markByte ((s9 : Nat) : Int) ((s10 : Nat) : Int))) rfl (xP hok 7 rfl ?_))))))))))))))))
       refine xP hok 8 rfl (xS hok 9 rfl (wC [] [0,1,2] rfl fn_18 rfl (z_markByte_s ((s9 : Nat) : Int) ((s10 : Nat) : Int)) (asK [] rfl) rfl (H' := [_,_,_]) rfl ?_))
       rintro _ _ _ ⟨rfl, rfl, rfl⟩
       refine wl_nil (we_x [] [2,1] rfl rfl (xP hok 10 rfl (wx_as (d := 177) (v' := .bool true) (S' := [_,_,_,_,_,_,_,_,_,_,_,_,_,_,_,_,_,_,_,_,_,_,_,_,_]) rfl rfl (congrArg Value.bool (by simp)) (xP hok 11 rfl (xP hok 12 rfl (xP hok 13 rfl (xP hok 14 rfl (wx_indexK hok 15 0 s9 rfl rfl rfl (freshS_eq rfl) rfl rfl rfl rfl rfl rfl (by rw [oks7.2.2.1]; exact hk9) tE_35 tS_22 (wx_loadRow hok 16 hdr_opens 0 s9 0 rfl rfl rfl (freshS_eq rfl) rfl rfl rfl rfl hg9 tS_22 tA_22 (v := .slice r9.g.1 r9.g.2.1 r9.g.2.2) rfl rfl (fun _ => (xP hok 17 rfl (wx_flIdxG hok 18 (p := r9.g.1) (m := r9.g.2.1) (cp := r9.g.2.2) 2 s9 s10 rfl rfl rfl (freshS_eq rfl) rfl rfl rfl hr9 rfl rfl rfl rfl (by omega) hC9.symm tE_22 tS_5 (fun g185 eg185 => (wx_flLoadG hok 19 2 s9 s10 rfl rfl rfl (freshS_eq rfl) rfl rfl rfl hr9 (hdr_eqG eg185) rfl (cs := mc_markByte s9 s10) (by rw [hm9]; exact app_at (by omega)) tS_5 tA_5 rfl (v := .int .u8 (z_markByte ((s9 : Nat) : Int) ((s10 : Nat) : Int))) rfl (xP hok 20 rfl ?_)))))))))))))))
       refine xP hok 21 rfl (xS hok 22 rfl (wC [] [0,1,2] rfl fn_18 rfl (z_markByte_s ((s9 : Nat) : Int) ((s10 : Nat) : Int)) (asK [] rfl) rfl (H' := [_,_,_]) rfl ?_))
       rintro _ _ _ ⟨rfl, rfl, rfl⟩
       refine wl_nil (we_x [] [2,0,2,1] rfl rfl (xP hok 23 rfl (wx_as (d := 190) (v' := .bool true) (S' := [_,_,_,_,_,_,_,_,_,_,_,_,_,_,_,_,_,_,_,_,_,_,_,_,_,_,_,_,_,_,_,_,_,_,_,_,_,_]) rfl rfl (congrArg Value.bool (by simp)) (xP hok 24 rfl (xP hok 25 rfl (wx_done hok rfl (we_then (wc_keep [192,164,15,155,14,126,11,76,9,46,6,5,19,3,2,0] (S' := [_,_,_,_,_,_,_,_,_,_,_,_,_,_,_,_]) rfl (wc_false rfl (wc_skip (we_block_normal (we_then (wc_region ?_)))))))))))))
       refine wP rfl (wP rfl (wl_as (d := 166) (v' := .int .i64 ((s10 + 1 : Nat) : Int)) (S' := [_,_,_,_,_,_,_,_,_,_,_,_,_,_,_,_,_]) rfl rfl (nat_add (a := s10) (b := 1) (by omega)) (wl_pure (S' := [_,_,_,_,_,_,_,_,_,_,_,_,_,_,_,_,_]) rfl rfl rfl rfl rfl (wl_nil ?_))))
       refine we_round (s10 + 1) (by omega) (by omega) [15,155,14,126,11,76,9,46,6,5,19,3,2,0] rfl (asK [] rfl) rfl
      ·
       replace h164 := of_decide_eq_false h164
       refine wc_exit (we_then_exit (we_then_exit (we_block_hit (we_block_normal (we_then (wc_region (wP rfl (wP rfl (wl_as (d := 157) (v' := .int .i64 ((s9 + 1 : Nat) : Int)) (S' := [_,_,_,_,_,_,_,_,_,_,_,_,_,_,_,_]) rfl rfl (nat_add (a := s9) (b := 1) (by omega)) (wl_pure (S' := [_,_,_,_,_,_,_,_,_,_,_,_,_,_,_,_]) rfl rfl rfl rfl rfl (wl_nil ?_)))))))))))
       refine we_round (s9 + 1) (by omega) (by omega) [14,126,11,76,9,46,6,5,19,3,2,0] rfl (asK [] rfl) rfl
     ·
      replace h155 := of_decide_eq_false h155
      refine wc_exit (we_then_exit (we_then_exit (we_block_hit (we_then (wc_seq (wc_region (wl_pure (S' := [_,_,_,_,_,_,_,_,_,_,_,_]) rfl rfl rfl rfl rfl (wl_nil (we_then (wc_ret (ret_one (Hr := [flatF 5 1 s7.2.1]) [2] Tryz.results35 (res_tmp rfl) ?_ (asK [] rfl) rfl rfl (.inl rfl))))))))))))
      exact ⟨_, oks7.2.left, rfl, rfl, rfl⟩
theorem ap_apart (g : Nat) (p5 : Option Addr) (c5 : Nat) (h5 : List Hdr) (hL5 : h5.length ≤ 1073741824) (hB5 : Bd h5) : Spec Tryz.prog 24 [.pointer (some ⟨g, 0, none⟩)] [] [.blk g [.slice none 0 0, .slice none 0 0, .slice none 0 0, .slice none 0 0, .slice none 0 0, .slice p5 h5.length c5, .slice none 0 0, .slice none 0 0, .slice none 0 0, .slice none 0 0, .slice none 0 0, .slice none 0 0, .slice none 0 0, .slice none 0 0, .slice none 0 0, .slice none 0 0, .slice none 0 0, .slice none 0 0, .slice none 0 0, .slice none 0 0, .slice none 0 0, .slice none 0 0, .slice none 0 0, .slice none 0 0, .slice none 0 0, .slice none 0 0, .slice none 0 0, .slice none 0 0, .slice none 0 0] 84, .own 22 1 hdrR (.slice p5 h5.length c5) h5, flatF 5 1 (h5.map row0)] (fun v Φr Hr => ∃ (r5 : List Twin), FlE h5 mc_markByte r5 ∧ v = .bool true ∧ Φr = [] ∧ Hr = [flatF 5 1 r5]) := by
 refine spec_of Tryz.func24 rfl Tryz.ntmps24 rfl (S := [_]) rfl (fun C => (wc_seq (wc_region (wP rfl (wl_nil (we_then (wc_seq (wc_region (wP rfl (wP rfl (wF rfl tF_84_0 (wD 0 0 rfl tS_55 tA_55 rfl (wC [] [0,1,2] rfl fn_30 rfl (nil_flat Tryz.func30 rfl Tryz.ntmps30 Tryz.results30 rfl (by kernel_rfl)) (asK [] rfl) rfl (H' := [_,_,_]) rfl ?_)))))))))))))
 rintro _ _ _ ⟨rfl, rfl, rfl⟩
 refine wP rfl (wP rfl (wP rfl (wF rfl tF_84_1 (wD 0 1 rfl tS_56 tA_56 rfl (wC [] [0,1,2] rfl fn_31 rfl (nil_flat Tryz.func31 rfl Tryz.ntmps31 Tryz.results31 rfl (by kernel_rfl)) (asK [] rfl) rfl (H' := [_,_,_]) rfl ?_)))))
 rintro _ _ _ ⟨rfl, rfl, rfl⟩
 refine wP rfl (wP rfl (wP rfl (wP rfl (wF rfl tF_84_2 (wD 0 2 rfl tS_57 tA_57 rfl (wC [] [0,1,2] rfl fn_32 rfl (nil_flat Tryz.func32 rfl Tryz.ntmps32 Tryz.results32 rfl (by kernel_rfl)) (asK [] rfl) rfl (H' := [_,_,_]) rfl ?_))))))
 rintro _ _ _ ⟨rfl, rfl, rfl⟩
 refine wP rfl (wP rfl (wP rfl (wP rfl (wF rfl tF_84_3 (wD 0 3 rfl tS_58 tA_58 rfl (wC [] [0,1,2] rfl fn_33 rfl (nil_flat Tryz.func33 rfl Tryz.ntmps33 Tryz.results33 rfl (by kernel_rfl)) (asK [] rfl) rfl (H' := [_,_,_]) rfl ?_))))))
 rintro _ _ _ ⟨rfl, rfl, rfl⟩
 refine wP rfl (wP rfl (wP rfl (wP rfl (wF rfl tF_84_4 (wD 0 4 rfl tS_59 tA_59 rfl (wC [] [0,1,2] rfl fn_34 rfl (nil_flat Tryz.func34 rfl Tryz.ntmps34 Tryz.results34 rfl (by kernel_rfl)) (asK [] rfl) rfl (H' := [_,_,_]) rfl ?_))))))
 rintro _ _ _ ⟨rfl, rfl, rfl⟩
 refine wP rfl (wP rfl (wP rfl (wP rfl (wF rfl tF_84_5 (wD 0 5 rfl tS_35 tA_35 rfl (wC [1,2] [0] rfl fn_35 rfl (fl_flatBytes p5 c5 h5 hL5 hB5) (asK [] rfl) rfl (H' := [_]) rfl ?_))))))
 rintro _ _ _ ⟨r5, hE5, rfl, rfl, rfl⟩
 refine wP rfl (wP rfl (wP rfl (wP rfl (wF rfl tF_84_6 (wD 1 6 rfl tS_60 tA_60 rfl (wC [] [0,1] rfl fn_36 rfl (nil_flat Tryz.func36 rfl Tryz.ntmps36 Tryz.results36 rfl (by kernel_rfl)) (asK [] rfl) rfl (H' := [_,_]) rfl ?_))))))
 rintro _ _ _ ⟨rfl, rfl, rfl⟩
 refine wP rfl (wP rfl (wP rfl (wP rfl (wF rfl tF_84_7 (wD 1 7 rfl tS_61 tA_61 rfl (wC [] [0,1] rfl fn_37 rfl (nil_flat Tryz.func37 rfl Tryz.ntmps37 Tryz.results37 rfl (by kernel_rfl)) (asK [] rfl) rfl (H' := [_,_]) rfl ?_))))))
 rintro _ _ _ ⟨rfl, rfl, rfl⟩
 refine wP rfl (wP rfl (wP rfl (wP rfl (wF rfl tF_84_8 (wD 1 8 rfl tS_62 tA_62 rfl (wC [] [0,1] rfl fn_38 rfl (nil_flat Tryz.func38 rfl Tryz.ntmps38 Tryz.results38 rfl (by kernel_rfl)) (asK [] rfl) rfl (H' := [_,_]) rfl ?_))))))
 rintro _ _ _ ⟨rfl, rfl, rfl⟩
 refine wP rfl (wP rfl (wP rfl (wP rfl (wF rfl tF_84_9 (wD 1 9 rfl tS_63 tA_63 rfl (wC [] [0,1] rfl fn_39 rfl (nil_flat Tryz.func39 rfl Tryz.ntmps39 Tryz.results39 rfl (by kernel_rfl)) (asK [] rfl) rfl (H' := [_,_]) rfl ?_))))))
 rintro _ _ _ ⟨rfl, rfl, rfl⟩
 refine wP rfl (wP rfl (wP rfl (wP rfl (wF rfl tF_84_10 (wD 1 10 rfl tS_64 tA_64 rfl (wC [] [0,1] rfl fn_40 rfl (nil_flat Tryz.func40 rfl Tryz.ntmps40 Tryz.results40 rfl (by kernel_rfl)) (asK [] rfl) rfl (H' := [_,_]) rfl ?_))))))
 rintro _ _ _ ⟨rfl, rfl, rfl⟩
 refine wP rfl (wP rfl (wP rfl (wP rfl (wF rfl tF_84_11 (wD 1 11 rfl tS_65 tA_65 rfl (wC [] [0,1] rfl fn_41 rfl (nil_flat Tryz.func41 rfl Tryz.ntmps41 Tryz.results41 rfl (by kernel_rfl)) (asK [] rfl) rfl (H' := [_,_]) rfl ?_))))))
 rintro _ _ _ ⟨rfl, rfl, rfl⟩
 refine wP rfl (wP rfl (wP rfl (wP rfl (wF rfl tF_84_12 (wD 1 12 rfl tS_66 tA_66 rfl (wC [] [0,1] rfl fn_42 rfl (nil_flat Tryz.func42 rfl Tryz.ntmps42 Tryz.results42 rfl (by kernel_rfl)) (asK [] rfl) rfl (H' := [_,_]) rfl ?_))))))
 rintro _ _ _ ⟨rfl, rfl, rfl⟩
 refine wP rfl (wP rfl (wP rfl (wP rfl (wF rfl tF_84_13 (wD 1 13 rfl tS_67 tA_67 rfl (wC [] [0,1] rfl fn_43 rfl (nil_flat Tryz.func43 rfl Tryz.ntmps43 Tryz.results43 rfl (by kernel_rfl)) (asK [] rfl) rfl (H' := [_,_]) rfl ?_))))))
 rintro _ _ _ ⟨rfl, rfl, rfl⟩
 refine wP rfl (wP rfl (wP rfl (wP rfl (wF rfl tF_84_14 (wD 1 14 rfl tS_68 tA_68 rfl (wC [] [0,1] rfl fn_44 rfl (nil_flat Tryz.func44 rfl Tryz.ntmps44 Tryz.results44 rfl (by kernel_rfl)) (asK [] rfl) rfl (H' := [_,_]) rfl ?_))))))
 rintro _ _ _ ⟨rfl, rfl, rfl⟩
 refine wP rfl (wP rfl (wP rfl (wP rfl (wF rfl tF_84_15 (wD 1 15 rfl tS_69 tA_69 rfl (wC [] [0,1] rfl fn_45 rfl (nil_flat Tryz.func45 rfl Tryz.ntmps45 Tryz.results45 rfl (by kernel_rfl)) (asK [] rfl) rfl (H' := [_,_]) rfl ?_))))))
 rintro _ _ _ ⟨rfl, rfl, rfl⟩
 refine wP rfl (wP rfl (wP rfl (wP rfl (wF rfl tF_84_16 (wD 1 16 rfl tS_70 tA_70 rfl (wC [] [0,1] rfl fn_46 rfl (nil_flat Tryz.func46 rfl Tryz.ntmps46 Tryz.results46 rfl (by kernel_rfl)) (asK [] rfl) rfl (H' := [_,_]) rfl ?_))))))
 rintro _ _ _ ⟨rfl, rfl, rfl⟩
 refine wP rfl (wP rfl (wP rfl (wP rfl (wF rfl tF_84_17 (wD 1 17 rfl tS_71 tA_71 rfl (wC [] [0,1] rfl fn_47 rfl (nil_flat Tryz.func47 rfl Tryz.ntmps47 Tryz.results47 rfl (by kernel_rfl)) (asK [] rfl) rfl (H' := [_,_]) rfl ?_))))))
 rintro _ _ _ ⟨rfl, rfl, rfl⟩
 refine wP rfl (wP rfl (wP rfl (wP rfl (wF rfl tF_84_18 (wD 1 18 rfl tS_72 tA_72 rfl (wC [] [0,1] rfl fn_48 rfl (nil_flat Tryz.func48 rfl Tryz.ntmps48 Tryz.results48 rfl (by kernel_rfl)) (asK [] rfl) rfl (H' := [_,_]) rfl ?_))))))
 rintro _ _ _ ⟨rfl, rfl, rfl⟩
 refine wP rfl (wP rfl (wP rfl (wP rfl (wF rfl tF_84_19 (wD 1 19 rfl tS_73 tA_73 rfl (wC [] [0,1] rfl fn_49 rfl (nil_flat Tryz.func49 rfl Tryz.ntmps49 Tryz.results49 rfl (by kernel_rfl)) (asK [] rfl) rfl (H' := [_,_]) rfl ?_))))))
 rintro _ _ _ ⟨rfl, rfl, rfl⟩
 refine wP rfl (wP rfl (wP rfl (wP rfl (wF rfl tF_84_20 (wD 1 20 rfl tS_74 tA_74 rfl (wC [] [0,1] rfl fn_50 rfl (nil_flat Tryz.func50 rfl Tryz.ntmps50 Tryz.results50 rfl (by kernel_rfl)) (asK [] rfl) rfl (H' := [_,_]) rfl ?_))))))
 rintro _ _ _ ⟨rfl, rfl, rfl⟩
 refine wP rfl (wP rfl (wP rfl (wP rfl (wF rfl tF_84_21 (wD 1 21 rfl tS_75 tA_75 rfl (wC [] [0,1] rfl fn_51 rfl (nil_flat Tryz.func51 rfl Tryz.ntmps51 Tryz.results51 rfl (by kernel_rfl)) (asK [] rfl) rfl (H' := [_,_]) rfl ?_))))))
 rintro _ _ _ ⟨rfl, rfl, rfl⟩
 refine wP rfl (wP rfl (wP rfl (wP rfl (wF rfl tF_84_22 (wD 1 22 rfl tS_76 tA_76 rfl (wC [] [0,1] rfl fn_52 rfl (nil_flat Tryz.func52 rfl Tryz.ntmps52 Tryz.results52 rfl (by kernel_rfl)) (asK [] rfl) rfl (H' := [_,_]) rfl ?_))))))
 rintro _ _ _ ⟨rfl, rfl, rfl⟩
 refine wP rfl (wP rfl (wP rfl (wP rfl (wF rfl tF_84_23 (wD 1 23 rfl tS_77 tA_77 rfl (wC [] [0,1] rfl fn_53 rfl (nil_flat Tryz.func53 rfl Tryz.ntmps53 Tryz.results53 rfl (by kernel_rfl)) (asK [] rfl) rfl (H' := [_,_]) rfl ?_))))))
 rintro _ _ _ ⟨rfl, rfl, rfl⟩
 refine wP rfl (wP rfl (wP rfl (wP rfl (wF rfl tF_84_24 (wD 1 24 rfl tS_78 tA_78 rfl (wC [] [0,1] rfl fn_54 rfl (nil_flat Tryz.func54 rfl Tryz.ntmps54 Tryz.results54 rfl (by kernel_rfl)) (asK [] rfl) rfl (H' := [_,_]) rfl ?_))))))
 rintro _ _ _ ⟨rfl, rfl, rfl⟩
 refine wP rfl (wP rfl (wP rfl (wP rfl (wF rfl tF_84_25 (wD 1 25 rfl tS_79 tA_79 rfl (wC [] [0,1] rfl fn_55 rfl (nil_flat Tryz.func55 rfl Tryz.ntmps55 Tryz.results55 rfl (by kernel_rfl)) (asK [] rfl) rfl (H' := [_,_]) rfl ?_))))))
 rintro _ _ _ ⟨rfl, rfl, rfl⟩
 refine wP rfl (wP rfl (wP rfl (wP rfl (wF rfl tF_84_26 (wD 1 26 rfl tS_80 tA_80 rfl (wC [] [0,1] rfl fn_56 rfl (nil_flat Tryz.func56 rfl Tryz.ntmps56 Tryz.results56 rfl (by kernel_rfl)) (asK [] rfl) rfl (H' := [_,_]) rfl ?_))))))
 rintro _ _ _ ⟨rfl, rfl, rfl⟩
 refine wP rfl (wP rfl (wP rfl (wP rfl (wF rfl tF_84_27 (wD 1 27 rfl tS_81 tA_81 rfl (wC [] [0,1] rfl fn_57 rfl (nil_flat Tryz.func57 rfl Tryz.ntmps57 Tryz.results57 rfl (by kernel_rfl)) (asK [] rfl) rfl (H' := [_,_]) rfl ?_))))))
 rintro _ _ _ ⟨rfl, rfl, rfl⟩
 refine wP rfl (wP rfl (wP rfl (wP rfl (wF rfl tF_84_28 (wD 1 28 rfl tS_82 tA_82 rfl (wC [] [0,1] rfl fn_58 rfl (nil_flat Tryz.func58 rfl Tryz.ntmps58 Tryz.results58 rfl (by kernel_rfl)) (asK [] rfl) rfl (H' := [_,_]) rfl ?_))))))
 rintro _ _ _ ⟨rfl, rfl, rfl⟩
 refine wP rfl (wl_pure (S' := [_,_,_,_,_,_,_,_,_,_,_,_,_,_,_,_,_,_,_,_,_,_,_,_,_,_,_,_,_,_,_,_,_,_,_,_,_,_,_,_,_,_,_,_,_,_,_,_,_,_,_,_,_,_,_,_,_,_,_,_,_,_,_,_,_,_,_,_,_,_,_,_,_,_,_,_,_,_,_,_,_,_,_,_,_,_,_,_,_,_,_,_,_,_,_,_,_,_,_,_,_,_,_,_,_,_,_,_,_,_,_,_,_,_,_,_,_,_,_,_,_,_,_,_,_,_,_,_,_,_,_,_,_,_,_,_,_,_,_,_,_,_,_,_,_,_,_,_,_,_,_,_,_,_,_,_,_,_,_,_,_,_,_,_,_,_,_,_,_,_,_,_,_,_,_,_,_,_,_,_,_,_,_,_,_,_,_,_,_,_,_,_,_,_,_,_,_,_,_,_,_,_]) rfl rfl rfl rfl rfl (wl_nil (we_then (wc_keep [2,0] (S' := [_,_]) rfl (wc_ret (ret_one (Hr := [flatF 5 1 r5]) [0] Tryz.results24 (res_tmp rfl) ?_ (asK [] rfl) rfl rfl (.inl rfl)))))))
 exact ⟨_, hE5, rfl, rfl, rfl⟩
theorem ap_ApartBytes (p : Option Addr) (n c : Nat) (zs : List ((List Int) × (Option Addr × Nat))) (hzn : n = zs.length) (hz8 : zs.length ≤ 8) (hx : ∀ z ∈ zs, z.1.length ≤ 10000) : Spec Tryz.prog 13 [.slice p n c] [] [.own 22 1 T_l_u8.pair (.slice p n c) zs, bagF T_l_u8 (zs.drop 0) none] (fun v Φr Hr => ∃ (r5 : List Twin), FlE (zs.map hzd) mc_markByte r5 ∧ v = .bool true ∧ Φr = [] ∧ Hr = [flatF 5 1 r5]) := by
 subst hzn
 refine spec_of Tryz.func13 rfl Tryz.ntmps13 rfl (S := [_]) rfl (fun C => (wc_seq (wc_region (wP rfl (wl_nil (we_then (wc_seq (wc_region (wl_build rfl rfl rfl (freshS_eq rfl) rfl tZ_84 tP_84 rfl (out := [_,_,_,_,_,_,_,_,_,_,_,_,_,_,_,_,_,_,_,_,_,_,_,_,_,_,_,_,_]) rfl (wB rfl (fun g6 => (wP rfl (wl_nil (we_then (wc_keep [3,2,0] (S' := [_,_,_]) rfl ?_)))))))))))))))
 refine wc_seq (wc_seq (wc_region (wP rfl (wl_nil (we_then (wc_block (wc_sh [flatF 5 1 [], .blk g6 [.slice none 0 0, .slice none 0 0, .slice none 0 0, .slice none 0 0, .slice none 0 0, .slice none 0 0, .slice none 0 0, .slice none 0 0, .slice none 0 0, .slice none 0 0, .slice none 0 0, .slice none 0 0, .slice none 0 0, .slice none 0 0, .slice none 0 0, .slice none 0 0, .slice none 0 0, .slice none 0 0, .slice none 0 0, .slice none 0 0, .slice none 0 0, .slice none 0 0, .slice none 0 0, .slice none 0 0, .slice none 0 0, .slice none 0 0, .slice none 0 0, .slice none 0 0, .slice none 0 0] 84, .own 22 1 T_l_u8.pair (.slice p zs.length c) zs, bagF T_l_u8 (zs.drop 0) none] (fun _ h => h.flNil 5 1) (wc_rowNil 22 1 hdrR (wc_loop (σ := Option Addr × Nat × List Hdr × Nat) (fun s => s.2.2.2 ≤ zs.length ∧ s.2.2.1.length ≤ s.2.2.2 * 1 ∧ Bd s.2.2.1 ∧ s.2.2.1 = (zs.take s.2.2.2).map hzd) (fun s => zs.length - s.2.2.2) (fun s => [(4, .int .i64 ((s.2.2.2 : Nat) : Int)), (3, .pointer (some ⟨g6,0, none⟩)), (2, .bool false), (0, .slice p zs.length c)]) (fun s => []) (fun s => [.own 22 1 hdrR (.slice s.1 s.2.2.1.length s.2.1) s.2.2.1, flatF 5 1 (s.2.2.1.map row0), .blk g6 [.slice none 0 0, .slice none 0 0, .slice none 0 0, .slice none 0 0, .slice none 0 0, .slice s.1 s.2.2.1.length s.2.1, .slice none 0 0, .slice none 0 0, .slice none 0 0, .slice none 0 0, .slice none 0 0, .slice none 0 0, .slice none 0 0, .slice none 0 0, .slice none 0 0, .slice none 0 0, .slice none 0 0, .slice none 0 0, .slice none 0 0, .slice none 0 0, .slice none 0 0, .slice none 0 0, .slice none 0 0, .slice none 0 0, .slice none 0 0, .slice none 0 0, .slice none 0 0, .slice none 0 0, .slice none 0 0] 84, .own 22 1 T_l_u8.pair (.slice p zs.length c) zs, bagF T_l_u8 (zs.drop s.2.2.2) none]) (none, 0,[],0) ⟨Nat.zero_le _, Nat.zero_le _, Bd.nil, rfl⟩ [4,3,2,0] rfl (asK [] rfl) rfl (fun s1 oks1 => (wc_seq (wc_seq (wc_region (wP rfl ?_))))))))))))))
 refine wP rfl (wN rfl tE_35 (wP rfl (wl_nil (we_then (wc_keep [10,4,3,2,0] (S' := [_,_,_,_,_]) rfl ?_)))))
 refine wc_cond rfl (fun h10 => ?_) (fun h10 => ?_)
 ·
  replace h10 := of_decide_eq_true h10
  obtain ⟨hi2, hl5, hb5, hxe⟩ := oks1
  have hi1 : s1.2.2.2 < zs.length := by omega
  obtain ⟨z1, hz1⟩ : ∃ z, zs[s1.2.2.2]? = some z := ⟨_, List.getElem?_eq_getElem hi1⟩
  have hxs := hx z1 (List.mem_of_getElem? hz1)
  refine wc_skip (we_then (wc_seq (wc_block (wc_region (wP rfl (wP rfl (wP rfl (wl_indexH 3 s1.2.2.2 rfl rfl rfl (freshS_eq rfl) rfl rfl rfl rfl rfl hi1 tE_35 tS_22 (fun g16 eg16 => ?_)))))))))
  subst eg16
  refine wl_loadRow pair_opens 3 s1.2.2.2 0 rfl rfl rfl (freshS_eq rfl) rfl rfl rfl hz1 tS_22 tA_22 (v := fun _ => .slice z1.2.1 z1.1.length z1.2.2) (fun _ => rfl) (fun _ => rfl) (fun _ _ => (wl_sh [.own 5 1 R_u8 (.slice z1.2.1 z1.1.length z1.2.2) z1.1, .own 22 1 hdrR (.slice s1.1 s1.2.2.1.length s1.2.1) s1.2.2.1, flatF 5 1 (s1.2.2.1.map row0), .blk g6 [.slice none 0 0, .slice none 0 0, .slice none 0 0, .slice none 0 0, .slice none 0 0, .slice s1.1 s1.2.2.1.length s1.2.1, .slice none 0 0, .slice none 0 0, .slice none 0 0, .slice none 0 0, .slice none 0 0, .slice none 0 0, .slice none 0 0, .slice none 0 0, .slice none 0 0, .slice none 0 0, .slice none 0 0, .slice none 0 0, .slice none 0 0, .slice none 0 0, .slice none 0 0, .slice none 0 0, .slice none 0 0, .slice none 0 0, .slice none 0 0, .slice none 0 0, .slice none 0 0, .slice none 0 0, .slice none 0 0] 84, .own 22 1 T_l_u8.pair (.slice (some ⟨g16,0, none⟩) zs.length c) zs, bagF T_l_u8 (zs.drop (s1.2.2.2 + 1)) none] (fun _ h => h.bagUncons 4 rfl hz1) (wl_sh [flatF 5 1 ([row0 (z1.2.1, z1.1.length, z1.2.2)]), .own 22 1 hdrR (.slice s1.1 s1.2.2.1.length s1.2.1) s1.2.2.1, flatF 5 1 (s1.2.2.1.map row0), .blk g6 [.slice none 0 0, .slice none 0 0, .slice none 0 0, .slice none 0 0, .slice none 0 0, .slice s1.1 s1.2.2.1.length s1.2.1, .slice none 0 0, .slice none 0 0, .slice none 0 0, .slice none 0 0, .slice none 0 0, .slice none 0 0, .slice none 0 0, .slice none 0 0, .slice none 0 0, .slice none 0 0, .slice none 0 0, .slice none 0 0, .slice none 0 0, .slice none 0 0, .slice none 0 0, .slice none 0 0, .slice none 0 0, .slice none 0 0, .slice none 0 0, .slice none 0 0, .slice none 0 0, .slice none 0 0, .slice none 0 0] 84, .own 22 1 T_l_u8.pair (.slice (some ⟨g16,0, none⟩) zs.length c) zs, bagF T_l_u8 (zs.drop (s1.2.2.2 + 1)) none] (fun _ h => h.flOne 0 rfl) (wC [3,1,2,0] [4,5] rfl fn_23 rfl (ap_putBytes _ s1.1 s1.2.1 s1.2.2.1 z1.2.1 z1.1.length z1.2.2 (by omega) hb5 hxs) (asK [] rfl) rfl (H' := [_,_]) rfl ?_))))
  rintro _ _ _ ⟨q5_1, d5_1, k5_1, hl5_1, hb5_1, hx_1, rfl, rfl, rfl⟩
  refine wl_nil (we_block_normal (we_then (wc_region (wP rfl (wP rfl (wl_as (d := 12) (v' := .int .i64 ((s1.2.2.2 + 1 : Nat) : Int)) (S' := [_,_,_,_,_,_,_,_,_,_,_,_]) rfl rfl (nat_add (a := s1.2.2.2) (b := 1) (by omega)) (wl_pure (S' := [_,_,_,_,_,_,_,_,_,_,_,_]) rfl rfl rfl rfl rfl (wl_nil (we_pick [1,2,0,3,4] rfl (H' := [_,_,_,_,_]) rfl ?_)))))))))
  refine we_round (q5_1, d5_1, k5_1, s1.2.2.2 + 1) (by show zs.length - (s1.2.2.2 + 1) < zs.length - s1.2.2.2; omega) ⟨by show s1.2.2.2 + 1 ≤ _; omega, by have := hl5_1; show List.length (k5_1) ≤ (s1.2.2.2 + 1) * _; omega, hb5_1, (by show _ = (zs.take (s1.2.2.2 + 1)).map hzd; rw [hx_1, hxe]; exact take_hzd hz1)⟩ [4,3,2,0] rfl (asK [] rfl) rfl
 ·
  replace h10 := of_decide_eq_false h10
  obtain ⟨hi2, hl5, hb5, hxe⟩ := oks1
  refine wc_exit (we_then_exit (we_then_exit (we_block_hit (we_then (wc_seq (wc_region (wP rfl (wC [2,0,1] [3,4] rfl fn_24 rfl (ap_apart _ s1.1 s1.2.1 s1.2.2.1 (by omega) hb5) (asK [] rfl) rfl (H' := [_,_]) rfl ?_))))))))
  rintro _ _ _ ⟨r5, hE5, rfl, rfl, rfl⟩
  refine wl_pure (S' := [_,_,_,_,_,_]) rfl rfl rfl rfl rfl (wl_nil (we_then (wc_keep [2,10,4,3,0] (S' := [_,_,_,_,_]) rfl (wc_ret (ret_one (Hr := [flatF 5 1 r5]) [0] Tryz.results13 (res_tmp rfl) ?_ (asK [] rfl) rfl rfl (.inl rfl))))))
  rw [hxe, List.take_of_length_le (by omega)] at hE5
  exact ⟨_, hE5, rfl, rfl, rfl⟩
theorem w_ropewalkkit_TurnBytes_v2_s (N : Nat) (qp0 : Option Addr) (qn1 : Nat) (qc2 : Nat) (l0 : List Int) (o0 : List Int) (hm : m_ropewalkkit_TurnBytes_v2 N l0 = some o0) : Spec Tryz.prog 14 [.slice qp0 qn1 qc2] [] [.own 5 1 R_u8 (.slice qp0 qn1 qc2) l0] (fun v Φr Hr => v = .tuple #[] ∧ Φr = [] ∧ Hr = [.own 5 1 R_u8 (.slice qp0 qn1 qc2) o0]) := by
 unfold m_ropewalkkit_TurnBytes_v2 at hm
 refine spec_of Tryz.func14 rfl Tryz.ntmps14 rfl (S := [_]) rfl (fun C => (wc_seq (wc_region (wP rfl (wl_nil (we_then (wc_block (wc_loop (σ := Nat × Nat × (List Int)) (fun (nu1, u1_2, u1_0_l) => iter (m_ropewalkkit_TurnBytes_v2_L1 N) nu1 (u1_2, u1_0_l) = some o0) (fun (nu1, u1_2, u1_0_l) => nu1) (fun (nu1, u1_2, u1_0_l) => [(2, .int .i64 ((u1_2 : Nat) : Int)), (0, .slice qp0 qn1 qc2)]) (fun (nu1, u1_2, u1_0_l) => []) (fun (nu1, u1_2, u1_0_l) => [.own 5 1 R_u8 (.slice qp0 qn1 qc2) u1_0_l]) (N, 0, l0) hm [2,0] rfl (asK [] rfl) rfl (fun s_ hm => ?_)))))))))
 obtain ⟨nu1, u1_2, u1_0_l⟩ := s_
 try dsimp only at hm ⊢
 obtain ⟨mu1, bu1, hnu1, hq, hLu1⟩ := iter_some hm
 clear hm
 subst hnu1
 replace hm := hq
 clear hq
 unfold m_ropewalkkit_TurnBytes_v2_L1 at hm
 try dsimp only at hm
 refine wc_seq (wc_seq (wc_region (wP rfl (wP rfl (wl_ownLen 0 rfl (fun hl5 _ => (wN rfl tE_22 (wl_as (d := 5) (v' := .int .i64 ((u1_0_l.length : Nat) : Int)) (S' := [_,_,_,_]) rfl rfl (len_is hl5) (wP rfl (wl_as (d := 6) (v' := .bool (decide (u1_2 < u1_0_l.length))) (S' := [_,_,_,_,_]) rfl rfl (natlt (a := u1_2) (b := u1_0_l.length)) (wl_nil (we_then (wc_keep [6,2,0] (S' := [_,_,_]) rfl ?_)))))))))))))
 refine wc_cond rfl (fun hb6 => ?_) (fun hb6 => ?_)
 ·
  replace hm := iteT hm hb6
  refine wc_keep [2,0] (S' := [_,_]) rfl (wc_skip (we_then (wc_seq (wc_block (wc_region (wP rfl (wP rfl (wP rfl (wP rfl ?_)))))))))
  obtain ⟨x13, hx13, hm⟩ := bindO_some hm
  refine wl_indexH 0 u1_2 rfl rfl rfl (freshS_eq rfl) rfl rfl rfl rfl rfl (get_lt hx13) tE_22 tS_5 (fun g13 eg13 => ?_)
  subst eg13
  refine wl_loadRow R_u8_opens 0 u1_2 0 rfl rfl rfl (freshS_eq rfl) rfl rfl rfl hx13 tS_5 tA_5 (v := fun _ => .int .u8 x13) (fun _ => rfl) (fun _ => rfl) (fun _ _ => (wl_bin rfl rfl rfl (freshS_eq rfl) rfl rfl rfl run_xor ?_))
  obtain ⟨x16, hx16, hm⟩ := bindO_some hm
  refine wl_indexK 0 u1_2 rfl rfl rfl (freshS_eq rfl) rfl rfl rfl rfl rfl (get_lt hx16) tE_22 tS_5 (wl_storeRow (u := bitsI .xor .u8 x13 255) 0 u1_2 rfl rfl rfl rfl rfl (get_lt hx16) rfl rfl tS_5 rfl (fun F w hφ => ⟨(), rfl, ask_nil⟩) (H' := [_]) rfl (wl_nil (we_block_normal (we_then (wc_keep [2,0] (S' := [_,_]) rfl (wc_region (wP rfl (wP rfl ?_))))))))
  obtain ⟨hg8, hm⟩ := gd_some hm
  refine wl_as (d := 8) (v' := .int .i64 ((u1_2 + 1 : Nat) : Int)) (S' := [_,_,_]) rfl rfl (nat_add (a := u1_2) (b := 1) hg8) (wl_pure (S' := [_,_,_]) rfl rfl rfl rfl rfl (wl_nil ?_))
  have hE := (Option.some.inj hm).symm
  replace hE := link_inl hLu1 hE
  refine we_roundK (_, u1_2 + 1, u1_0_l.set u1_2 (bitsI .xor .u8 x13 255)) (Nat.lt_succ_self _) hE [2,0] rfl (asK [] rfl) rfl
 ·
  replace hm := iteF hm hb6
  refine wc_keep [] (S' := []) rfl (wc_exit (we_then_exit (we_then_exit (we_block_hit ?_))))
  have hE := (Option.some.inj hm).symm
  replace hE := link_inr hLu1 hE
  replace hE := hE.symm
  subst hE
  refine ret_none (Hr := [_]) [0] Tryz.results14 ⟨rfl, rfl, rfl⟩ (asK [] rfl) rfl rfl (.inr rfl)
end Go.Proofs.YtegkmbkbaenkcaaGreat
