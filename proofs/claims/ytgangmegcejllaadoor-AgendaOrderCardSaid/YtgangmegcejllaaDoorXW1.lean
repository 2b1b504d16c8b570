import Derived.Test.YtgangmegcejllaaDoorXM
import Derived.Test.YtgangmegcejllaaDoorDynF
import Derived.Test.YtgangmegcejllaaDoorEqA
import Derived.Test.YtgangmegcejllaaDoorLight
import Derived.Test.YtgangmegcejllaaDoorProg
import Derived.Test.YtgangmegcejllaaDoorSrtA
import Derived.Test.YtgangmegcejllaaDoorShelf
import Derived.Test.YtgangmegcejllaaDoorStr
import Derived.Test.YtgangmegcejllaaDoorMapE
import Derived.Test.YtgangmegcejllaaDoorMapP
import Derived.Test.YtgangmegcejllaaDoorFlat
import Derived.Test.YtgangmegcejllaaDoorTree
import Derived.Test.YtgangmegcejllaaDoorAb
namespace Go.Proofs.YtgangmegcejllaaDoor
open Go.RowKit
set_option maxRecDepth 100000
set_option maxHeartbeats 4000000
theorem tM_55 : Tryd.prog.underlying 55 = some (.map 9 4) := by kernel_rfl
theorem w_ropewalklaw14_great_s (N : Nat) (qp0 : Option Addr) (qc1 : Nat) (l0 : List Api_TokenD) (o0 : Bool) (hm : m_ropewalklaw14_great N l0 = some o0) : Spec Tryd.prog 5 [.slice qp0 l0.length qc1] [.sli 2 R_Api_TokenD qp0 qc1 l0, tabF Tryd.prog "internal/strconv.uint64pow10" .u64 Lib.pow10Tab 0 pow10_g] [] (fun v Φr Hr => v = .bool o0 ∧ Φr = [] ∧ Hr = []) := by
 unfold m_ropewalklaw14_great at hm
 refine spec_of Tryd.func5 rfl Tryd.ntmps5 rfl (S := [_]) rfl (fun C => (wc_seq (wc_region (wP rfl (wl_nil (we_then (wc_keep [0] (S' := [_]) rfl (wc_seq (wc_region (wP rfl (wN rfl tE_23 (wP rfl (wl_nil (we_then ?_))))))))))))))
 refine wc_keep [3,0] (S' := [_,_]) rfl (wc_seq ?_)
 obtain ⟨bj_1, hm, hLj_1⟩ := bindO_some hm
 refine wc_cut (σ := Nat) (fun j_1_3 => bj_1 = j_1_3) (fun j_1_3 => [(3, .int .i64 ((j_1_3 : Nat) : Int))]) (fun j_1_3 => [tabF Tryd.prog "internal/strconv.uint64pow10" .u64 Lib.pow10Tab 0 pow10_g]) (fun j_1_3 => []) ?_ ?_
 ·
  refine wc_seq (wc_region (wP rfl (wl_nil (we_then (wc_block (wc_loop (σ := Nat × Nat × Nat) (fun (nu1, u1_4, u1_3) => iter (m_ropewalklaw14_great_L1 N l0) nu1 (u1_4, u1_3) = some bj_1) (fun (nu1, u1_4, u1_3) => nu1) (fun (nu1, u1_4, u1_3) => [(4, .int .i64 ((u1_4 : Nat) : Int)), (3, .int .i64 ((u1_3 : Nat) : Int)), (0, .slice qp0 l0.length qc1)]) (fun (nu1, u1_4, u1_3) => [.sli 2 R_Api_TokenD qp0 qc1 l0, tabF Tryd.prog "internal/strconv.uint64pow10" .u64 Lib.pow10Tab 0 pow10_g]) (fun (nu1, u1_4, u1_3) => []) (N, 0, l0.length) hm [4,3,0] rfl (asK [0,1] rfl) rfl (fun s_ hm => ?_)))))))
  obtain ⟨nu1, u1_4, u1_3⟩ := s_
  try dsimp only at hm ⊢
  obtain ⟨mu1, bu1, hnu1, hq, hLu1⟩ := iter_some hm
  clear hm
  subst hnu1
  replace hm := hq
  clear hq
  unfold m_ropewalklaw14_great_L1 at hm
  try dsimp only at hm
  refine wc_seq (wc_seq ?_)
  obtain ⟨bj_2, hm, hLj_2⟩ := bindO_some hm
  refine wc_cut (σ := Bool) (fun j_2_14 => bj_2 = j_2_14) (fun j_2_14 => [(4, .int .i64 ((u1_4 : Nat) : Int)), (3, .int .i64 ((u1_3 : Nat) : Int)), (0, .slice qp0 l0.length qc1), (14, .bool j_2_14)]) (fun j_2_14 => [.sli 2 R_Api_TokenD qp0 qc1 l0, tabF Tryd.prog "internal/strconv.uint64pow10" .u64 Lib.pow10Tab 0 pow10_g]) (fun j_2_14 => []) ?_ ?_
  ·
   refine wc_region (wP rfl (wP rfl (wN rfl tE_23 (wP rfl (wl_as (d := 10) (v' := .bool (decide (u1_4 < l0.length))) (S' := [_,_,_,_,_,_]) rfl rfl (natlt (a := u1_4) (b := l0.length)) (wP rfl ?_))))))
   refine wl_split (d := 11) (S' := [_,_,_,_,_,_,_]) rfl rfl (fun hs11 => ?_) (fun hs11 => ?_)
   ·
    replace hm := iteT hm hs11
    refine wP rfl (wP rfl (wl_as (d := 13) (v' := .bool (decide (u1_3 ≤ 400))) (S' := [_,_,_,_,_,_,_,_,_]) rfl rfl (natle (a := u1_3) (b := 400)) (wP rfl (wl_nil ?_))))
    have hE := (Option.some.inj hm).symm
    refine we_join (decide (u1_3 ≤ 400)) hE [4,3,0,14] rfl (asK [0,1] rfl) rfl
   ·
    replace hm := iteF hm hs11
    refine wO rfl (wO rfl (wP rfl (wl_nil ?_)))
    have hE := (Option.some.inj hm).symm
    refine we_join false hE [4,3,0,14] rfl (asK [0,1] rfl) rfl
  ·
   rintro j_2_14 hE
   try dsimp only
   have hm := hLj_2
   rw [hE] at hm
   refine wc_cond rfl (fun hb14 => ?_) (fun hb14 => ?_)
   ·
    replace hm := iteT hm hb14
    refine wc_keep [4,3,0] (S' := [_,_,_]) rfl (wc_skip (we_then (wc_seq (wc_block (wc_region (wP rfl (wP rfl (wP rfl ?_))))))))
    obtain ⟨x20, hx20, hm⟩ := bindO_some hm
    refine wl_indexA 0 u1_4 rfl rfl rfl (freshS_eq rfl) rfl rfl rfl rfl rfl hx20 tE_23 tS_33 (fun b20 q20 cs20 hlx20 => (wl_open R_Api_TokenD_opens 1 rfl (fun r20 er20 _ => ?_)))
    subst er20
    refine wF rfl tF_33_1 (wl_load 1 1 rfl rfl rfl (freshS_eq rfl) rfl rfl rfl (cs := [_]) rfl tS_22 tA_22 rfl rfl (wN rfl tE_22 (wP rfl ?_)))
    obtain ⟨hg24, hm⟩ := gd_some hm
    refine wl_as (d := 24) (v' := .int .i64 ((u1_3 + x20.ids.length : Nat) : Int)) (S' := [_,_,_,_,_,_,_,_,_,_]) rfl rfl (nat_add (a := u1_3) (b := x20.ids.length) hg24) (wl_pure (S' := [_,_,_,_,_,_,_,_,_,_]) rfl rfl rfl rfl rfl (wl_nil (we_block_normal (we_then (wc_keep [3,4,0] (S' := [_,_,_]) rfl (wc_region (wP rfl (wP rfl ?_))))))))
    obtain ⟨hg16, hm⟩ := gd_some hm
    refine wl_as (d := 16) (v' := .int .i64 ((u1_4 + 1 : Nat) : Int)) (S' := [_,_,_,_]) rfl rfl (nat_add (a := u1_4) (b := 1) hg16) (wl_pure (S' := [_,_,_,_]) rfl rfl rfl rfl rfl (wl_nil ?_))
    have hE := (Option.some.inj hm).symm
    replace hE := link_inl hLu1 hE
    refine we_roundK (_, u1_4 + 1, u1_3 + x20.ids.length) (Nat.lt_succ_self _) hE [4,3,0] rfl (asK [3,4] rfl) rfl
   ·
    replace hm := iteF hm hb14
    refine wc_keep [3] (S' := [_]) rfl (wc_exit (we_then_exit (we_then_exit (we_block_hit ?_))))
    have hE := (Option.some.inj hm).symm
    replace hE := link_inr hLu1 hE
    refine we_join u1_3 hE [3] rfl (asK [1] rfl) rfl
 ·
  rintro j_1_3 hE
  try dsimp only
  have hm := hLj_1
  rw [hE] at hm
  refine wc_seq (wc_region (wP rfl (wP rfl (wl_as (d := 26) (v' := .bool (decide (400 < j_1_3))) (S' := [_,_]) rfl rfl (natgt (a := j_1_3) (b := 400)) (wP rfl (wl_nil (we_then (wc_keep [2] (S' := [_]) rfl (wc_ret ?_)))))))))
  have hE := (Option.some.inj hm).symm
  replace hE := hE.symm
  subst hE
  refine ret_one (Hr := []) [] Tryd.results5 (res_tmp rfl) ⟨rfl, rfl, rfl⟩ (asK [] rfl) rfl rfl (.inl rfl)
theorem w_ropewalklaw14_of_s (N : Nat) (qp0 : Option Addr) (qc1 : Nat) (l0 : List Int) (o2 : List Api_RuleD) (hm : m_ropewalklaw14_of N l0 = some o2) : Spec Tryd.prog 6 [.slice qp0 l0.length qc1] [.sli 1 R_i64 qp0 qc1 l0, tabF Tryd.prog "internal/strconv.uint64pow10" .u64 Lib.pow10Tab 0 pow10_g] [] (fun v Φr Hr => ∃ (o0 : Option Addr) (o1 : Nat) (o3 : Nat), v = .agg #[.slice none 0 0, .slice o0 o3 o1] ∧ Φr = [] ∧ Hr = [.own 50 5 R_Api_RuleD (.slice o0 o3 o1) o2]) := by
 unfold m_ropewalklaw14_of at hm
 refine spec_of Tryd.func6 rfl Tryd.ntmps6 rfl (S := [_]) rfl (fun C => (wc_seq (wc_region (wl_alloc rfl rfl rfl (freshS_eq rfl) rfl tZ_29 rfl (fun g2 => (wl_nil (we_then (wc_seq (wc_region (wl_alloc rfl rfl rfl (freshS_eq rfl) rfl tZ_29 rfl (fun g3 => (wl_nil (we_then (wc_seq ?_))))))))))))))
 obtain ⟨bj_1, hm, hLj_1⟩ := bindO_some hm
 refine wc_cut (σ := (List Api_RuleD) × (Option Addr) × Nat × Nat) (fun (j_1_3_f1_l, j_1_3_f1_p, j_1_3_f1_c, j_1_3_f1_n) => bj_1 = j_1_3_f1_l) (fun (j_1_3_f1_l, j_1_3_f1_p, j_1_3_f1_c, j_1_3_f1_n) => [(2, .pointer (some ⟨g2,0, none⟩)), (3, .pointer (some ⟨g3,0, none⟩))]) (fun (j_1_3_f1_l, j_1_3_f1_p, j_1_3_f1_c, j_1_3_f1_n) => [tabF Tryd.prog "internal/strconv.uint64pow10" .u64 Lib.pow10Tab 0 pow10_g]) (fun (j_1_3_f1_l, j_1_3_f1_p, j_1_3_f1_c, j_1_3_f1_n) => [.blk g2 [.slice none 0 0, .slice none 0 0] 29, .blk g3 [.slice none 0 0, .slice j_1_3_f1_p j_1_3_f1_n j_1_3_f1_c] 29, .own 50 5 R_Api_RuleD (.slice j_1_3_f1_p j_1_3_f1_n j_1_3_f1_c) j_1_3_f1_l]) ?_ ?_
 ·
  refine wc_seq (wc_region (wP rfl (wl_nil (we_then (wc_block (wc_rowNil 50 5 R_Api_RuleD (wc_pick [1,0,2] rfl (H' := [_,_,_]) rfl (wc_loop (σ := Nat × Nat × (List Api_RuleD) × (Option Addr) × Nat × Nat) (fun (nu1, u1_4, u1_3_f1_l, u1_3_f1_p, u1_3_f1_c, u1_3_f1_n) => iter (m_ropewalklaw14_of_L1 N l0) nu1 (u1_4, u1_3_f1_l) = some bj_1) (fun (nu1, u1_4, u1_3_f1_l, u1_3_f1_p, u1_3_f1_c, u1_3_f1_n) => nu1) (fun (nu1, u1_4, u1_3_f1_l, u1_3_f1_p, u1_3_f1_c, u1_3_f1_n) => [(4, .int .i64 ((u1_4 : Nat) : Int)), (3, .pointer (some ⟨g3,0, none⟩)), (2, .pointer (some ⟨g2,0, none⟩)), (0, .slice qp0 l0.length qc1)]) (fun (nu1, u1_4, u1_3_f1_l, u1_3_f1_p, u1_3_f1_c, u1_3_f1_n) => [.sli 1 R_i64 qp0 qc1 l0, tabF Tryd.prog "internal/strconv.uint64pow10" .u64 Lib.pow10Tab 0 pow10_g]) (fun (nu1, u1_4, u1_3_f1_l, u1_3_f1_p, u1_3_f1_c, u1_3_f1_n) => [.blk g3 [.slice none 0 0, .slice u1_3_f1_p u1_3_f1_n u1_3_f1_c] 29, .own 50 5 R_Api_RuleD (.slice u1_3_f1_p u1_3_f1_n u1_3_f1_c) u1_3_f1_l, .blk g2 [.slice none 0 0, .slice none 0 0] 29]) (N, 0,[], none, 0,0) hm [4,3,2,0] rfl (asK [0,1] rfl) rfl (fun s_ hm => ?_)))))))))
  obtain ⟨nu1, u1_4, u1_3_f1_l, u1_3_f1_p, u1_3_f1_c, u1_3_f1_n⟩ := s_
  try dsimp only at hm ⊢
  obtain ⟨mu1, bu1, hnu1, hq, hLu1⟩ := iter_some hm
  clear hm
  subst hnu1
  replace hm := hq
  clear hq
  unfold m_ropewalklaw14_of_L1 at hm
  try dsimp only at hm
  refine wc_seq (wc_seq (wc_region (wP rfl (wP rfl (wN rfl tE_22 (wP rfl (wl_as (d := 8) (v' := .bool (decide (u1_4 < l0.length))) (S' := [_,_,_,_,_,_,_]) rfl rfl (natlt (a := u1_4) (b := l0.length)) (wl_nil (we_then (wc_keep [8,4,3,2,0] (S' := [_,_,_,_,_]) rfl ?_))))))))))
  refine wc_cond rfl (fun hb8 => ?_) (fun hb8 => ?_)
  ·
   replace hm := iteT hm hb8
   refine wc_keep [4,3,2,0] (S' := [_,_,_,_]) rfl (wc_skip (we_then (wc_seq (wc_block ?_))))
   obtain ⟨x15, hx15, hm⟩ := bindO_some hm
   obtain ⟨hg19, hm⟩ := gd_some hm
   refine wc_draw [0,1,2,3,4,5,6,9] rfl rfl (fun hok => (wx_fieldAddr hok 0 rfl rfl rfl (freshS_eq rfl) rfl rfl rfl tF_29_1 (wx_loadH hok 1 0 1 rfl rfl rfl (freshS_eq rfl) rfl rfl rfl rfl (cs := [_]) rfl tS_27 tA_27 rfl rfl (xP hok 2 rfl (xP hok 3 rfl (wx_indexA hok 4 0 u1_4 rfl rfl rfl (freshS_eq rfl) rfl rfl rfl rfl rfl rfl hx15 tE_22 tS_3 (fun b15 q15 cs15 hlx15 => (wx_openR R_i64_opens 1 rfl (fun r15 er15 _ => ?_)))))))))
   subst er15
   refine wx_load hok 5 0 0 rfl rfl rfl (freshS_eq rfl) rfl rfl rfl rfl (cs := [_]) rfl tS_3 tA_3 rfl rfl (wx_build hok 6 rfl rfl rfl (freshS_eq rfl) rfl rfl tZ_50 tP_50 rfl (out := [_,_,_,_,_]) rfl (xS hok 7 rfl (wl_buildSlice rfl rfl rfl (freshS_eq rfl) rfl tE_27 tS_50 tZ_50 rfl (zs := [.string ((⟨#[]⟩ : ByteArray)), .int .i64 0, .int .i64 0, .slice none 0 0, .slice none 0 0]) (by kernel_rfl) rfl (out := [_,_,_,_,_]) rfl (fun g18 => (wl_nil (we_x [0,1,2,3] [1] rfl rfl (xS hok 8 rfl (wl_appendH ([(⟨(⟨#[]⟩ : ByteArray), x15,0,[],[]⟩ : Api_RuleD)]) 2 0 rfl rfl rfl (freshS_eq rfl) rfl rfl rfl rfl rfl (fun F w hφ => ⟨[.string ((⟨#[]⟩ : ByteArray)), .int .i64 x15, .int .i64 0, .slice none 0 0, .slice none 0 0],[], rfl, rfl, ⟨((none, 0), (none, 0)), rfl, (ask_cons sli_none (ask_cons sli_none ask_nil))⟩, rfl⟩) tE_27 tR_50 rfl rfl (Nat.le_trans hg19 (by decide)) (Nat.le_trans (Nat.mul_le_mul_right _ hg19) (by decide)) (H2 := fun p19 c19 => [_,_, .own 50 5 R_Api_RuleD (.slice p19 ((u1_3_f1_l ++ ([(⟨(⟨#[]⟩ : ByteArray), x15,0,[],[]⟩ : Api_RuleD)])).length) c19) (u1_3_f1_l ++ ([(⟨(⟨#[]⟩ : ByteArray), x15,0,[],[]⟩ : Api_RuleD)])), _]) (fun _ _ => rfl) (fun p19 c19 => (wl_drop 0 rfl (H' := [_,_,_]) rfl (wl_nil (we_x [0,1,2,3] [] rfl rfl (wx_fieldAddr hok 9 rfl rfl rfl (freshS_eq rfl) rfl rfl rfl tF_29_1 (xS hok 10 rfl (wS 0 1 rfl tS_27 (all' := [_,_]) rfl (H' := [_,_,_]) rfl ?_)))))))))))))))
   refine wl_nil (we_x [0,1,2,3] [] rfl rfl (wx_done hok rfl (we_block_normal (we_then (wc_keep [4,3,2,0] (S' := [_,_,_,_]) rfl (wc_region (wP rfl (wP rfl ?_))))))))
   obtain ⟨hg10, hm⟩ := gd_some hm
   refine wl_as (d := 10) (v' := .int .i64 ((u1_4 + 1 : Nat) : Int)) (S' := [_,_,_,_,_]) rfl rfl (nat_add (a := u1_4) (b := 1) hg10) (wl_pure (S' := [_,_,_,_,_]) rfl rfl rfl rfl rfl (wl_nil ?_))
   have hE := (Option.some.inj hm).symm
   replace hE := link_inl hLu1 hE
   refine we_roundK (_, u1_4 + 1, (u1_3_f1_l ++ ([(⟨(⟨#[]⟩ : ByteArray), x15,0,[],[]⟩ : Api_RuleD)])), p19, c19, ((u1_3_f1_l ++ ([(⟨(⟨#[]⟩ : ByteArray), x15,0,[],[]⟩ : Api_RuleD)])).length)) (Nat.lt_succ_self _) hE [4,3,2,0] rfl (asK [2,3] rfl) rfl
  ·
   replace hm := iteF hm hb8
   refine wc_keep [3,2] (S' := [_,_]) rfl (wc_exit (we_then_exit (we_then_exit (we_block_hit ?_))))
   have hE := (Option.some.inj hm).symm
   replace hE := link_inr hLu1 hE
   refine we_pick [2,0,1] rfl (H' := [_,_,_]) rfl ?_
   refine we_join (u1_3_f1_l, u1_3_f1_p, u1_3_f1_c, u1_3_f1_n) hE [2,3] rfl (asK [1] rfl) rfl
 ·
  rintro ⟨j_1_3_f1_l, j_1_3_f1_p, j_1_3_f1_c, j_1_3_f1_n⟩ hE
  try dsimp only
  have hm := hLj_1
  rw [hE] at hm
  refine wc_seq (wc_region (wl_loadH 1 0 rfl rfl rfl (freshS_eq rfl) rfl rfl rfl (cs := [_,_]) rfl tS_29 tA_29 rfl rfl (wS 0 0 rfl tS_29 (all' := [_,_]) rfl (H' := [_,_,_]) rfl (wl_nil (we_then (wc_keep [2] (S' := [_]) rfl (wc_ret ?_)))))))
  have hE := (Option.some.inj hm).symm
  replace hE := hE.symm
  subst hE
  refine ret_one (Hr := [_]) [2] Tryd.results6 (res_cell 0 rfl rfl tS_29 tA_29 rfl rfl) ⟨j_1_3_f1_p, j_1_3_f1_c, j_1_3_f1_n, rfl, rfl, rfl⟩ (asK [] rfl) rfl rfl (.inl rfl)
theorem w_ropewalkkit_SameInts_s (N : Nat) (qp0 : Option Addr) (qc1 : Nat) (l0 : List Int) (qp2 : Option Addr) (qc3 : Nat) (l1 : List Int) (o0 : Bool) (hm : m_ropewalkkit_SameInts N l0 l1 = some o0) : Spec Tryd.prog 17 [.slice qp0 l0.length qc1, .slice qp2 l1.length qc3] [.sli 1 R_i64 qp0 qc1 l0, .sli 1 R_i64 qp2 qc3 l1, tabF Tryd.prog "internal/strconv.uint64pow10" .u64 Lib.pow10Tab 0 pow10_g] [] (fun v Φr Hr => v = .bool o0 ∧ Φr = [] ∧ Hr = []) := by
 unfold m_ropewalkkit_SameInts at hm
 refine spec_of Tryd.func17 rfl Tryd.ntmps17 rfl (S := [_,_]) rfl (fun C => (wc_seq (wc_region (wP rfl (wl_nil (we_then (wc_keep [0,1] (S' := [_,_]) rfl (wc_seq (wc_seq (wc_region (wP rfl (wN rfl tE_22 (wP rfl (wN rfl tE_22 ?_))))))))))))))
 refine wP rfl (wl_as (d := 10) (v' := .bool (l0.length != l1.length)) (S' := [_,_,_,_,_,_]) rfl rfl (natne (a := l0.length) (b := l1.length)) (wl_nil (we_then (wc_keep [10,0,1] (S' := [_,_,_]) rfl ?_))))
 refine wc_cond rfl (fun hb10 => ?_) (fun hb10 => ?_)
 ·
  replace hm := iteT hm hb10
  refine wc_keep [] (S' := []) rfl (wc_seq (wc_region (wP rfl (wl_nil (we_then (wc_ret (we_then_ret ?_)))))))
  have hE := (Option.some.inj hm).symm
  replace hE := hE.symm
  subst hE
  refine ret_one (Hr := []) [] Tryd.results17 (res_tmp rfl) ⟨rfl, rfl, rfl⟩ (asK [] rfl) rfl rfl (.inl rfl)
 ·
  replace hm := iteF hm hb10
  refine wc_keep [0,1] (S' := [_,_]) rfl (wc_skip (we_then (wc_seq ?_)))
  obtain ⟨bj_1, hm, hLj_1⟩ := bindS_some hm
  refine wc_cut (σ := Unit) (fun _ => bj_1 = .inl ()) (fun _ => []) (fun _ => [tabF Tryd.prog "internal/strconv.uint64pow10" .u64 Lib.pow10Tab 0 pow10_g]) (fun _ => []) ?_ ?_
  ·
   refine wc_seq (wc_region (wP rfl (wl_nil (we_then (wc_block (wc_loop (σ := Nat × Nat) (fun (nu1, u1_5) => iter (m_ropewalkkit_SameInts_L1 N l0 l1) nu1 u1_5 = some bj_1) (fun (nu1, u1_5) => nu1) (fun (nu1, u1_5) => [(5, .int .i64 ((u1_5 : Nat) : Int)), (0, .slice qp0 l0.length qc1), (1, .slice qp2 l1.length qc3)]) (fun (nu1, u1_5) => [.sli 1 R_i64 qp0 qc1 l0, .sli 1 R_i64 qp2 qc3 l1, tabF Tryd.prog "internal/strconv.uint64pow10" .u64 Lib.pow10Tab 0 pow10_g]) (fun (nu1, u1_5) => []) (N, 0) hm [5,0,1] rfl (asK [0,1,2] rfl) rfl (fun s_ hm => ?_)))))))
   obtain ⟨nu1, u1_5⟩ := s_
   try dsimp only at hm ⊢
   obtain ⟨mu1, bu1, hnu1, hq, hLu1⟩ := iter_some hm
   clear hm
   subst hnu1
   replace hm := hq
   clear hq
   unfold m_ropewalkkit_SameInts_L1 at hm
   try dsimp only at hm
   refine wc_seq (wc_seq (wc_region (wP rfl (wP rfl (wN rfl tE_22 (wP rfl (wl_as (d := 14) (v' := .bool (decide (u1_5 < l0.length))) (S' := [_,_,_,_,_,_]) rfl rfl (natlt (a := u1_5) (b := l0.length)) (wl_nil (we_then (wc_keep [14,5,0,1] (S' := [_,_,_,_]) rfl ?_))))))))))
   refine wc_cond rfl (fun hb14 => ?_) (fun hb14 => ?_)
   ·
    replace hm := iteT hm hb14
    refine wc_keep [5,0,1] (S' := [_,_,_]) rfl (wc_skip (we_then (wc_seq (wc_block (wc_seq ?_)))))
    obtain ⟨x19, hx19, hm⟩ := bindO_some hm
    obtain ⟨x23, hx23, hm⟩ := bindO_some hm
    refine wc_draw [0,1,2,3,4,5,6,7,8] rfl rfl (fun hok => (xP hok 0 rfl (xP hok 1 rfl (wx_indexA hok 2 0 u1_5 rfl rfl rfl (freshS_eq rfl) rfl rfl rfl rfl rfl rfl hx19 tE_22 tS_3 (fun b19 q19 cs19 hlx19 => (wx_openR R_i64_opens 1 rfl (fun r19 er19 _ => ?_)))))))
    subst er19
    refine wx_load hok 3 0 0 rfl rfl rfl (freshS_eq rfl) rfl rfl rfl rfl (cs := [_]) rfl tS_3 tA_3 rfl rfl (xP hok 4 rfl (xP hok 5 rfl (wx_indexA hok 6 3 u1_5 rfl rfl rfl (freshS_eq rfl) rfl rfl rfl rfl rfl rfl hx23 tE_22 tS_3 (fun b23 q23 cs23 hlx23 => (wx_openR R_i64_opens 1 rfl (fun r23 er23 _ => ?_))))))
    subst er23
    refine wx_load hok 7 0 0 rfl rfl rfl (freshS_eq rfl) rfl rfl rfl rfl (cs := [_]) rfl tS_3 tA_3 rfl rfl (xP hok 8 rfl (wx_done hok rfl (we_then (wc_keep [25,5,0,1] (S' := [_,_,_,_]) rfl ?_))))
    refine wc_cond rfl (fun hb25 => ?_) (fun hb25 => ?_)
    ·
     replace hm := iteT hm hb25
     refine wc_keep [] (S' := []) rfl (wc_seq (wc_region (wP rfl (wl_nil (we_then (wc_ret (we_block_ret (we_then_ret (we_then_ret (we_block_ret (we_then_ret ?_)))))))))))
     have hE := (Option.some.inj hm).symm
     replace hE := link_inr hLu1 hE
     replace hE := link_inr hLj_1 hE
     replace hE := hE.symm
     subst hE
     refine ret_one (Hr := []) [] Tryd.results17 (res_tmp rfl) ⟨rfl, rfl, rfl⟩ (asK [] rfl) rfl rfl (.inl rfl)
    ·
     replace hm := iteF hm hb25
     refine wc_keep [5,0,1] (S' := [_,_,_]) rfl (wc_skip (we_block_normal (we_then (wc_region (wP rfl (wP rfl ?_))))))
     obtain ⟨hg16, hm⟩ := gd_some hm
     refine wl_as (d := 16) (v' := .int .i64 ((u1_5 + 1 : Nat) : Int)) (S' := [_,_,_,_]) rfl rfl (nat_add (a := u1_5) (b := 1) hg16) (wl_pure (S' := [_,_,_,_]) rfl rfl rfl rfl rfl (wl_nil ?_))
     have hE := (Option.some.inj hm).symm
     replace hE := link_inl hLu1 hE
     refine we_roundK (_, u1_5 + 1) (Nat.lt_succ_self _) hE [5,0,1] rfl (asK [4,5,6] rfl) rfl
   ·
    replace hm := iteF hm hb14
    refine wc_keep [] (S' := []) rfl (wc_exit (we_then_exit (we_then_exit (we_block_hit ?_))))
    have hE := (Option.some.inj hm).symm
    replace hE := link_inr hLu1 hE
    refine we_join () hE [] rfl (asK [2] rfl) rfl
  ·
   rintro _ hE
   try dsimp only
   have hm := link_inl hLj_1 hE
   try dsimp only at hm
   refine wc_seq (wc_region (wP rfl (wl_nil (we_then (wc_ret ?_)))))
   have hE := (Option.some.inj hm).symm
   replace hE := hE.symm
   subst hE
   refine ret_one (Hr := []) [] Tryd.results17 (res_tmp rfl) ⟨rfl, rfl, rfl⟩ (asK [] rfl) rfl rfl (.inl rfl)
theorem w_ropewalkkit_SameToken_s (N : Nat) (a0 : Int) (qp0 : Option Addr) (qc1 : Nat) (l1 : List Int) (a2 : Int) (qp2 : Option Addr) (qc3 : Nat) (l3 : List Int) (o0 : Bool) (hm : m_ropewalkkit_SameToken N a0 l1 a2 l3 = some o0) : Spec Tryd.prog 7 [.agg #[.int .i64 a0, .slice qp0 l1.length qc1], .agg #[.int .i64 a2, .slice qp2 l3.length qc3]] [.sli 1 R_i64 qp0 qc1 l1, .sli 1 R_i64 qp2 qc3 l3, tabF Tryd.prog "internal/strconv.uint64pow10" .u64 Lib.pow10Tab 0 pow10_g] [] (fun v Φr Hr => v = .bool o0 ∧ Φr = [] ∧ Hr = []) := by
 unfold m_ropewalkkit_SameToken at hm
 refine spec_of Tryd.func7 rfl Tryd.ntmps7 rfl (S := [_,_]) rfl (fun C => (wc_seq (wc_region (wB rfl (fun g2 => (wB rfl (fun g3 => (wP rfl (wl_nil (we_then (wc_keep [3,2] (S' := [_,_]) rfl (wc_seq (wc_region (wF rfl tF_33_0 (wD 1 0 rfl tS_3 tA_3 rfl (wF rfl tF_33_0 ?_))))))))))))))))
 refine wD 0 0 rfl tS_3 tA_3 rfl (wP rfl (wP rfl ?_))
 refine wl_split (d := 10) (S' := [_,_,_,_,_,_,_]) rfl rfl (fun hs10 => ?_) (fun hs10 => ?_)
 ·
  replace hm := iteT hm hs10
  refine wF rfl tF_33_1 (wD 1 1 rfl tS_22 tA_22 rfl (wF rfl tF_33_1 (wD 0 1 rfl tS_22 tA_22 rfl ?_)))
  obtain ⟨v15, hc15, hm⟩ := bindO_some hm
  refine wC [] [0,1] rfl fn_17 rfl (w_ropewalkkit_SameInts_s N qp0 qc1 l1 qp2 qc3 l3 _ hc15) (asK [0,1,2] rfl) rfl (H' := [_,_]) rfl ?_
  rintro _ _ _ ⟨rfl, rfl, rfl⟩
  refine wP rfl (wP rfl (wl_nil (we_then (wc_keep [4] (S' := [_]) rfl (wc_ret ?_)))))
  have hE := (Option.some.inj hm).symm
  replace hE := hE.symm
  subst hE
  refine ret_one (Hr := []) [] Tryd.results7 (res_tmp rfl) ⟨rfl, rfl, rfl⟩ (asK [] rfl) rfl rfl (.inl rfl)
 ·
  replace hm := iteF hm hs10
  refine wO rfl (wO rfl (wO rfl (wO rfl (wO rfl (wP rfl (wP rfl (wl_nil (we_then (wc_keep [4] (S' := [_]) rfl (wc_ret ?_))))))))))
  have hE := (Option.some.inj hm).symm
  replace hE := hE.symm
  subst hE
  refine ret_one (Hr := []) [] Tryd.results7 (res_tmp rfl) ⟨rfl, rfl, rfl⟩ (asK [] rfl) rfl rfl (.inl rfl)
theorem w_agenda_by_s (N : Nat) (qp0 : Option Addr) (qc1 : Nat) (l0 : List Api_TypeD) (qp2 : Option Addr) (qc3 : Nat) (l1 : List Api_RuleD) (o2 : List Int) (hm : m_agenda_by N l0 l1 = some o2) : Spec Tryd.prog 18 [.agg #[.slice qp0 l0.length qc1, .slice qp2 l1.length qc3]] [.sli 2 R_Api_TypeD qp0 qc1 l0, .sli 5 R_Api_RuleD qp2 qc3 l1, tabF Tryd.prog "internal/strconv.uint64pow10" .u64 Lib.pow10Tab 0 pow10_g] [] (fun v Φr Hr => ∃ (o0 : Addr) (o1 : Nat) (o3 : Nat), v = .slice (some o0) o3 o1 ∧ Φr = [] ∧ Hr = [.own 3 1 R_i64 (.slice (some o0) o3 o1) o2]) := by
 unfold m_agenda_by at hm
 refine spec_of Tryd.func18 rfl Tryd.ntmps18 rfl (S := [_]) rfl (fun C => (wc_seq (wc_region (wB rfl (fun g1 => (wP rfl (wl_nil (we_then (wc_keep [1] (S' := [_]) rfl (wc_seq (wc_region (wl_buildSlice rfl rfl rfl (freshS_eq rfl) rfl tE_52 tS_3 tZ_3 rfl (zs := []) (by kernel_rfl) rfl (out := []) rfl (fun g6 => (wP rfl (wl_nil (we_then ?_))))))))))))))))
 refine wc_keep [3,1] (S' := [_,_]) rfl (wc_seq ?_)
 obtain ⟨bj_1, hm, hLj_1⟩ := bindO_some hm
 refine wc_cut (σ := (List Int) × Addr × Nat × Nat) (fun (j_1_3_l, j_1_3_p, j_1_3_c, j_1_3_n) => bj_1 = j_1_3_l) (fun (j_1_3_l, j_1_3_p, j_1_3_c, j_1_3_n) => [(3, .slice (some j_1_3_p) j_1_3_n j_1_3_c)]) (fun (j_1_3_l, j_1_3_p, j_1_3_c, j_1_3_n) => [tabF Tryd.prog "internal/strconv.uint64pow10" .u64 Lib.pow10Tab 0 pow10_g]) (fun (j_1_3_l, j_1_3_p, j_1_3_c, j_1_3_n) => [.own 3 1 R_i64 (.slice (some j_1_3_p) j_1_3_n j_1_3_c) j_1_3_l]) ?_ ?_
 ·
  refine wc_seq (wc_region (wF rfl tF_29_1 (wD 1 1 rfl tS_27 tA_27 rfl (wN rfl tE_27 (wP rfl (wl_nil (we_then (wc_keep [10,9,8,3] (S' := [_,_,_,_]) rfl (wc_block (wc_row (sz := 1) (m := 0) R_i64 [] 0 rfl (fun F w hφ => rfl) rfl (by decide) (H' := [_,_]) rfl (wc_pick [0] rfl (H' := [_]) rfl (wc_loop (σ := Nat × Nat × (List Int) × Addr × Nat × Nat) (fun (nu1, u1_10, u1_3_l, u1_3_p, u1_3_c, u1_3_n) => iter (m_agenda_by_L1 N l1) nu1 (u1_10, u1_3_l) = some bj_1) (fun (nu1, u1_10, u1_3_l, u1_3_p, u1_3_c, u1_3_n) => nu1) (fun (nu1, u1_10, u1_3_l, u1_3_p, u1_3_c, u1_3_n) => [(10, .int .i64 ((u1_10 : Nat) : Int)), (9, .int .i64 ((l1.length : Nat) : Int)), (8, .slice qp2 l1.length qc3), (3, .slice (some u1_3_p) u1_3_n u1_3_c)]) (fun (nu1, u1_10, u1_3_l, u1_3_p, u1_3_c, u1_3_n) => [.sli 5 R_Api_RuleD qp2 qc3 l1, tabF Tryd.prog "internal/strconv.uint64pow10" .u64 Lib.pow10Tab 0 pow10_g]) (fun (nu1, u1_10, u1_3_l, u1_3_p, u1_3_c, u1_3_n) => [.own 3 1 R_i64 (.slice (some u1_3_p) u1_3_n u1_3_c) u1_3_l]) (N, 0,[], ⟨g6,0, none⟩, 0,0) hm [10,9,8,3] rfl (asK [1,2] rfl) rfl (fun s_ hm => ?_)))))))))))))
  obtain ⟨nu1, u1_10, u1_3_l, u1_3_p, u1_3_c, u1_3_n⟩ := s_
  try dsimp only at hm ⊢
  obtain ⟨mu1, bu1, hnu1, hq, hLu1⟩ := iter_some hm
  clear hm
  subst hnu1
  replace hm := hq
  clear hq
  unfold m_agenda_by_L1 at hm
  try dsimp only at hm
  refine wc_seq (wc_region (wP rfl (wl_as (d := 11) (v' := .bool (decide (u1_10 < l1.length))) (S' := [_,_,_,_]) rfl rfl (natlt (a := u1_10) (b := l1.length)) (wl_nil (we_then (wc_seq ?_))))))
  refine wc_cond rfl (fun hb11 => ?_) (fun hb11 => ?_)
  ·
   replace hm := iteT hm hb11
   refine wc_keep [10,9,8,3] (S' := [_,_,_,_]) rfl (wc_skip (we_then (wc_seq (wc_block (wc_seq (wc_region ?_))))))
   obtain ⟨x12, hx12, hm⟩ := bindO_some hm
   refine wl_indexA 0 u1_10 rfl rfl rfl (freshS_eq rfl) rfl rfl rfl rfl rfl hx12 tE_27 tS_50 (fun b12 q12 cs12 hlx12 => (wl_open R_Api_RuleD_opens 1 rfl (fun r12 er12 _ => ?_)))
   subst er12
   refine wl_load 2 0 rfl rfl rfl (freshS_eq rfl) rfl rfl rfl (cs := [_,_,_,_,_]) rfl tS_50 tA_50 rfl rfl (wl_alloc rfl rfl rfl (freshS_eq rfl) rfl tZ_50 rfl (fun g5 => (wS 0 0 rfl tS_50 (all' := [_,_,_,_,_]) rfl (H' := [_,_]) rfl (wl_nil (we_then (wc_keep [5,10,9,8,3] (S' := [_,_,_,_,_]) rfl (wc_region (wP rfl (wF rfl tF_50_1 (wD 0 1 rfl tS_3 tA_3 rfl (wl_buildSlice rfl rfl rfl (freshS_eq rfl) rfl tE_52 tS_3 tZ_3 rfl (zs := [.int .i64 0]) (by kernel_rfl) rfl (out := [_]) rfl (fun g17 => ?_))))))))))))
   obtain ⟨hg18, hm⟩ := gd_some hm
   refine wl_appendH [x12.salience] 2 0 rfl rfl rfl (freshS_eq rfl) rfl rfl rfl rfl rfl (fun F w hφ => ⟨[.int .i64 (x12.salience)],[], rfl, rfl, ⟨(), rfl, ask_nil⟩, rfl⟩) tE_52 tR_3 rfl rfl (Nat.le_trans hg18 (by decide)) (Nat.le_trans (Nat.mul_le_mul_right _ hg18) (by decide)) (H2 := fun p18 c18 => [_,_, .own 3 1 R_i64 (.slice p18 ((u1_3_l ++ [x12.salience]).length) c18) (u1_3_l ++ [x12.salience])]) (fun _ _ => rfl) (fun p18 c18 => (wl_drop 0 rfl (H' := [_,_]) rfl (wl_nn 1 rfl (by simp) (fun u18 hu18 => ?_))))
   subst hu18
   refine wl_pure (S' := [_,_,_,_,_,_,_,_,_]) rfl rfl rfl rfl rfl (wl_nil (we_block_normal (we_then (wc_keep [3,10,9,8] (S' := [_,_,_,_]) rfl (wc_region (wP rfl ?_))))))
   obtain ⟨hg19, hm⟩ := gd_some hm
   refine wl_as (d := 19) (v' := .int .i64 ((u1_10 + 1 : Nat) : Int)) (S' := [_,_,_,_]) rfl rfl (nat_add (a := u1_10) (b := 1) hg19) (wl_pure (S' := [_,_,_,_]) rfl rfl rfl rfl rfl (wl_nil ?_))
   have hE := (Option.some.inj hm).symm
   replace hE := link_inl hLu1 hE
   refine we_pick [1] rfl (H' := [_]) rfl ?_
   refine we_roundK (_, u1_10 + 1, u1_3_l ++ [x12.salience], u18, c18, (u1_3_l ++ [x12.salience]).length) (Nat.lt_succ_self _) hE [10,9,8,3] rfl (asK [4,5] rfl) rfl
  ·
   replace hm := iteF hm hb11
   refine wc_keep [3] (S' := [_]) rfl (wc_exit (we_then_exit (we_then_exit (we_block_hit ?_))))
   have hE := (Option.some.inj hm).symm
   replace hE := link_inr hLu1 hE
   refine we_join (u1_3_l, u1_3_p, u1_3_c, u1_3_n) hE [3] rfl (asK [1] rfl) rfl
 ·
  rintro ⟨j_1_3_l, j_1_3_p, j_1_3_c, j_1_3_n⟩ hE
  try dsimp only
  have hm := hLj_1
  rw [hE] at hm
  refine wc_seq (wc_region (wP rfl (wP rfl (wl_nil (we_then (wc_keep [2] (S' := [_]) rfl (wc_ret ?_)))))))
  have hE := (Option.some.inj hm).symm
  replace hE := hE.symm
  subst hE
  refine ret_one (Hr := [_]) [0] Tryd.results18 (res_tmp rfl) ⟨j_1_3_p, j_1_3_c, j_1_3_n, rfl, rfl, rfl⟩ (asK [] rfl) rfl rfl (.inl rfl)
theorem w_agenda_order_of_s (N : Nat) (qp0 : Option Addr) (qc1 : Nat) (l0 : List Int) (a1 : Int) (qp2 : Option Addr) (qc3 : Nat) (l2 : List Int) (o0 : Int) (hm : m_agenda_order_of N l0 a1 l2 = some o0) : Spec Tryd.prog 29 [.slice qp0 l0.length qc1, .agg #[.int .i64 a1, .slice qp2 l2.length qc3]] [.sli 1 R_i64 qp0 qc1 l0, .sli 1 R_i64 qp2 qc3 l2, tabF Tryd.prog "internal/strconv.uint64pow10" .u64 Lib.pow10Tab 0 pow10_g] [] (fun v Φr Hr => v = .int .i64 o0 ∧ Φr = [] ∧ Hr = []) := by
 unfold m_agenda_order_of at hm
 refine spec_of Tryd.func29 rfl Tryd.ntmps29 rfl (S := [_,_]) rfl (fun C => (wc_seq (wc_region (wB rfl (fun g3 => (wP rfl (wl_nil (we_then (wc_keep [3,0] (S' := [_,_]) rfl (wc_seq (wc_seq ?_)))))))))))
 obtain ⟨bj_1, hm, hLj_1⟩ := bindO_some hm
 refine wc_cut (σ := Bool) (fun j_1_14 => bj_1 = j_1_14) (fun j_1_14 => [(3, .pointer (some ⟨g3,0, none⟩)), (0, .slice qp0 l0.length qc1), (14, .bool j_1_14)]) (fun j_1_14 => [.sli 1 R_i64 qp2 qc3 l2, .sli 1 R_i64 qp0 qc1 l0, tabF Tryd.prog "internal/strconv.uint64pow10" .u64 Lib.pow10Tab 0 pow10_g]) (fun j_1_14 => [.blk g3 [.int .i64 a1, .slice qp2 l2.length qc3] 33]) ?_ ?_
 ·
  refine wc_region (wF rfl tF_33_0 (wD 0 0 rfl tS_3 tA_3 rfl (wP rfl (wP rfl ?_))))
  refine wl_split (d := 8) (S' := [_,_,_,_,_]) rfl rfl (fun hs8 => ?_) (fun hs8 => ?_)
  ·
   replace hm := iteT hm hs8
   refine wO rfl (wO rfl (wO rfl (wO rfl (wO rfl (wP rfl (wl_nil ?_))))))
   have hE := (Option.some.inj hm).symm
   refine we_join true hE [3,0,14] rfl (asK [1,0,2] rfl) rfl
  ·
   replace hm := iteF hm hs8
   refine wF rfl tF_33_0 (wD 0 0 rfl tS_3 tA_3 rfl (wP rfl (wN rfl tE_52 (wP rfl (wP rfl (wl_nil ?_))))))
   have hE := (Option.some.inj hm).symm
   refine we_join (decide (a1 ≥ ((l0.length : Nat) : Int))) hE [3,0,14] rfl (asK [1,0,2] rfl) rfl
 ·
  rintro j_1_14 hE
  try dsimp only
  have hm := hLj_1
  rw [hE] at hm
  refine wc_cond rfl (fun hb14 => ?_) (fun hb14 => ?_)
  ·
   replace hm := iteT hm hb14
   refine wc_keep [] (S' := []) rfl (wc_seq (wc_region (wP rfl (wl_nil (we_then (wc_ret (we_then_ret ?_)))))))
   have hE := (Option.some.inj hm).symm
   replace hE := hE.symm
   subst hE
   refine ret_one (Hr := []) [] Tryd.results29 (res_tmp rfl) ⟨rfl, rfl, rfl⟩ (asK [] rfl) rfl rfl (.inl rfl)
  ·
   replace hm := iteF hm hb14
   refine wc_keep [3,0] (S' := [_,_]) rfl (wc_skip (we_then (wc_seq (wc_region (wP rfl (wF rfl tF_33_0 (wD 0 0 rfl tS_3 tA_3 rfl ?_)))))))
   obtain ⟨hn18, hm⟩ := gd_some hm
   obtain ⟨x18, hx18, hm⟩ := bindO_some hm
   refine wl_indexA 1 a1.toNat rfl rfl rfl (freshS_eq rfl) rfl rfl rfl rfl (toNat_eq hn18) hx18 tE_52 tS_3 (fun b18 q18 cs18 hlx18 => (wl_open R_i64_opens 1 rfl (fun r18 er18 _ => ?_)))
   subst er18
   refine wl_load 0 0 rfl rfl rfl (freshS_eq rfl) rfl rfl rfl (cs := [_]) rfl tS_3 tA_3 rfl rfl (wP rfl (wl_nil (we_then (wc_keep [4] (S' := [_]) rfl (wc_ret ?_)))))
   have hE := (Option.some.inj hm).symm
   replace hE := hE.symm
   subst hE
   refine ret_one (Hr := []) [] Tryd.results29 (res_tmp rfl) ⟨rfl, rfl, rfl⟩ (asK [] rfl) rfl rfl (.inl rfl)
theorem w_cmp_isNaN_int_s (N : Nat) (a0 : Int)  (hm : m_cmp_isNaN_int N a0 = some ()) : Spec Tryd.prog 36 [.int .i64 a0] [] [] (fun v Φr Hr => v = .bool (a0 != a0) ∧ Φr = [] ∧ Hr = []) := by
 unfold m_cmp_isNaN_int at hm
 refine spec_of Tryd.func36 rfl Tryd.ntmps36 rfl (S := [_]) rfl (fun C => (wc_seq (wc_region (wP rfl (wl_nil (we_then (wc_keep [0] (S' := [_]) rfl (wc_seq (wc_region (wP rfl (wP rfl (wP rfl (wP rfl (wl_nil ?_))))))))))))))
 refine we_then (wc_keep [2] (S' := [_]) rfl (wc_ret ?_))
 have hE := (Option.some.inj hm).symm
 refine ret_one (Hr := []) [] Tryd.results36 (res_tmp rfl) ⟨rfl, rfl, rfl⟩ (asK [] rfl) rfl rfl (.inl rfl)
theorem w_cmp_Compare_int_s (N : Nat) (a0 : Int) (a1 : Int) (o0 : Int) (hm : m_cmp_Compare_int N a0 a1 = some o0) : Spec Tryd.prog 28 [.int .i64 a0, .int .i64 a1] [] [] (fun v Φr Hr => v = .int .i64 o0 ∧ Φr = [] ∧ Hr = []) := by
 unfold m_cmp_Compare_int at hm
 refine spec_of Tryd.func28 rfl Tryd.ntmps28 rfl (S := [_,_]) rfl (fun C => (wc_seq (wc_region (wP rfl (wl_nil (we_then (wc_keep [0,1] (S' := [_,_]) rfl (wc_seq (wc_region (wP rfl ?_))))))))))
 obtain ⟨_, hc8, hm⟩ := bindO_some hm
 try dsimp only at hm
 refine wC [] [] rfl fn_36 rfl (w_cmp_isNaN_int_s N a0 hc8) (asK [] rfl) rfl (H' := []) rfl ?_
 rintro _ _ _ ⟨rfl, rfl, rfl⟩
 refine wP rfl (wl_nil (we_then (wc_keep [5,0,1] (S' := [_,_,_]) rfl (wc_seq (wc_region (wP rfl ?_))))))
 obtain ⟨_, hc10, hm⟩ := bindO_some hm
 try dsimp only at hm
 refine wC [] [] rfl fn_36 rfl (w_cmp_isNaN_int_s N a1 hc10) (asK [] rfl) rfl (H' := []) rfl ?_
 rintro _ _ _ ⟨rfl, rfl, rfl⟩
 refine wP rfl (wl_nil (we_then (wc_keep [6,5,0,1] (S' := [_,_,_,_]) rfl (wc_seq (wc_seq (wc_region (wP rfl (wl_nil (we_then (wc_keep [11,6,0,1] (S' := [_,_,_,_]) rfl ?_))))))))))
 refine wc_cond rfl (fun hb11 => ?_) (fun hb11 => ?_)
 ·
  replace hm := iteT hm hb11
  refine wc_keep [6] (S' := [_]) rfl (wc_seq (wc_seq (wc_region (wP rfl (wl_nil (we_then (wc_keep [12] (S' := [_]) rfl ?_)))))))
  refine wc_cond rfl (fun hb12 => ?_) (fun hb12 => ?_)
  ·
   replace hm := iteT hm hb12
   refine wc_keep [] (S' := []) rfl (wc_seq (wc_region (wP rfl (wl_nil (we_then (wc_ret (we_then_ret (we_then_ret ?_))))))))
   have hE := (Option.some.inj hm).symm
   replace hE := hE.symm
   subst hE
   refine ret_one (Hr := []) [] Tryd.results28 (res_tmp rfl) ⟨rfl, rfl, rfl⟩ (asK [] rfl) rfl rfl (.inl rfl)
  ·
   replace hm := iteF hm hb12
   refine wc_keep [] (S' := []) rfl (wc_skip (we_then (wc_seq (wc_region (wP rfl (wl_nil (we_then (wc_ret (we_then_ret ?_)))))))))
   have hE := (Option.some.inj hm).symm
   replace hE := hE.symm
   subst hE
   refine ret_one (Hr := []) [] Tryd.results28 (res_tmp rfl) ⟨rfl, rfl, rfl⟩ (asK [] rfl) rfl rfl (.inl rfl)
 ·
  replace hm := iteF hm hb11
  refine wc_keep [6,0,1] (S' := [_,_,_]) rfl (wc_skip (we_then (wc_seq (wc_seq (wc_region (wP rfl (wl_nil (we_then (wc_keep [13,0,1] (S' := [_,_,_]) rfl ?_)))))))))
  refine wc_cond rfl (fun hb13 => ?_) (fun hb13 => ?_)
  ·
   replace hm := iteT hm hb13
   refine wc_keep [] (S' := []) rfl (wc_seq (wc_region (wP rfl (wl_nil (we_then (wc_ret (we_then_ret ?_)))))))
   have hE := (Option.some.inj hm).symm
   replace hE := hE.symm
   subst hE
   refine ret_one (Hr := []) [] Tryd.results28 (res_tmp rfl) ⟨rfl, rfl, rfl⟩ (asK [] rfl) rfl rfl (.inl rfl)
  ·
   replace hm := iteF hm hb13
   refine wc_keep [0,1] (S' := [_,_]) rfl (wc_skip (we_then (wc_seq (wc_seq (wc_region (wP rfl (wP rfl (wP rfl (wl_nil (we_then (wc_keep [16,0,1] (S' := [_,_,_]) rfl ?_)))))))))))
   refine wc_cond rfl (fun hb16 => ?_) (fun hb16 => ?_)
   ·
    replace hm := iteT hm hb16
    refine wc_keep [] (S' := []) rfl (wc_seq (wc_region (wP rfl (wl_nil (we_then (wc_ret (we_then_ret ?_)))))))
    have hE := (Option.some.inj hm).symm
    replace hE := hE.symm
    subst hE
    refine ret_one (Hr := []) [] Tryd.results28 (res_tmp rfl) ⟨rfl, rfl, rfl⟩ (asK [] rfl) rfl rfl (.inl rfl)
   ·
    replace hm := iteF hm hb16
    refine wc_keep [0,1] (S' := [_,_]) rfl (wc_skip (we_then (wc_seq (wc_seq (wc_region (wP rfl (wP rfl (wP rfl (wl_nil (we_then (wc_keep [19] (S' := [_]) rfl ?_)))))))))))
    refine wc_cond rfl (fun hb19 => ?_) (fun hb19 => ?_)
    ·
     replace hm := iteT hm hb19
     refine wc_keep [] (S' := []) rfl (wc_seq (wc_region (wP rfl (wl_nil (we_then (wc_ret (we_then_ret ?_)))))))
     have hE := (Option.some.inj hm).symm
     replace hE := hE.symm
     subst hE
     refine ret_one (Hr := []) [] Tryd.results28 (res_tmp rfl) ⟨rfl, rfl, rfl⟩ (asK [] rfl) rfl rfl (.inl rfl)
    ·
     replace hm := iteF hm hb19
     refine wc_keep [] (S' := []) rfl (wc_skip (we_then (wc_seq (wc_region (wP rfl (wl_nil (we_then (wc_ret ?_))))))))
     have hE := (Option.some.inj hm).symm
     replace hE := hE.symm
     subst hE
     refine ret_one (Hr := []) [] Tryd.results28 (res_tmp rfl) ⟨rfl, rfl, rfl⟩ (asK [] rfl) rfl rfl (.inl rfl)
theorem Clone33f_s (p : Option Addr) (c : Nat) (l : List Int) (hb : l.length ≤ 17592186044416) : Spec Tryd.prog 33 [.slice p l.length c] [.sli 1 R_i64 p c l] [] (fun v Φr Hr => ∃ p' c', v = .slice p' l.length c' ∧ Φr = [] ∧ Hr = [.own 3 1 R_i64 v l]) := by
 refine spec_of Tryd.func33 rfl Tryd.ntmps33 rfl (S := [_]) rfl (fun C => (wc_know (fun F w h => sli_nil (h _ (mem_at (k := 0) rfl))) (fun isnil => (wc_seq (wc_region (wP rfl (wl_nil (we_then (wc_seq (wc_seq (wc_region (wP rfl (wl_eqlNil rfl rfl rfl (freshS_eq rfl) rfl rfl rfl tE_22 (wl_nil (we_then ?_)))))))))))))))
 refine wc_keep [4,2,0] (S' := [_,_,_]) rfl ?_
 refine wc_cond rfl (fun h4 => ?_) (fun h4 => ?_)
 ·
  replace h4 := isNone_true h4
  obtain rfl := isnil h4
  subst h4
  refine wc_rowNil 3 1 R_i64 (wc_seq (wc_region (wl_pure (S' := [_,_]) rfl rfl rfl rfl rfl (wl_nil (we_then (wc_ret (we_then_ret (ret_one (Hr := [.own 3 1 R_i64 (.slice none 0 0) []]) [0] Tryd.results33 (res_tmp rfl) ?_ (asK [] rfl) rfl rfl (.inl rfl)))))))))
  exact ⟨none, 0, rfl, rfl, rfl⟩
 ·
  replace h4 := isNone_false h4
  refine wc_skip (we_then (wc_seq (wc_region (wl_buildSlice rfl rfl rfl (freshS_eq rfl) rfl tE_22 tS_3 tZ_3 rfl (zs := []) (by kernel_rfl) rfl (out := []) rfl (fun g5 => (wP rfl (wl_row (sz := 1) (m := 0) R_i64 [] 0 rfl (fun F w hφ => rfl) rfl (by decide) (H' := [_]) rfl (wl_append 0 0 rfl rfl rfl (freshS_eq rfl) rfl rfl rfl rfl rfl tE_22 tR_3 rfl rfl (by simp; omega) (by simp; omega) (H2 := fun p7 c7 => [.own 3 1 R_i64 (.slice p7 (l).length c7) l]) (fun _ _ => rfl) (fun p7 c7 => (wl_pure (S' := [_,_,_,_,_]) rfl rfl rfl rfl rfl (wl_nil (we_then (wc_keep [2,4,0] (S' := [_,_,_]) rfl (wc_ret (ret_one (Hr := [.own 3 1 R_i64 (.slice p7 (l).length c7) l]) [0] Tryd.results33 (res_tmp rfl) ?_ (asK [] rfl) rfl rfl (.inl rfl))))))))))))))))
  exact ⟨_,_, rfl, rfl, rfl⟩
theorem w_agenda_falling_1_s (N : Nat) (a0 : Int) (a1 : Int) (o0 : Int) (hm : m_agenda_falling_1 N a0 a1 = some o0) : Spec Tryd.prog 38 [.int .i64 a0, .int .i64 a1] [] [] (fun v Φr Hr => v = .int .i64 o0 ∧ Φr = [] ∧ Hr = []) := by
 unfold m_agenda_falling_1 at hm
 refine spec_of Tryd.func38 rfl Tryd.ntmps38 rfl (S := [_,_]) rfl (fun C => (wc_seq (wc_region (wP rfl (wl_nil (we_then (wc_keep [0,1] (S' := [_,_]) rfl (wc_seq (wc_region (wP rfl (wP rfl ?_)))))))))))
 obtain ⟨v7, hc7, hm⟩ := bindO_some hm
 refine wC [] [] rfl fn_28 rfl (w_cmp_Compare_int_s N a1 a0 _ hc7) (asK [] rfl) rfl (H' := []) rfl ?_
 rintro _ _ _ ⟨rfl, rfl, rfl⟩
 refine wP rfl (wl_nil (we_then (wc_keep [4] (S' := [_]) rfl (wc_ret ?_))))
 have hE := (Option.some.inj hm).symm
 replace hE := hE.symm
 subst hE
 refine ret_one (Hr := []) [] Tryd.results38 (res_tmp rfl) ⟨rfl, rfl, rfl⟩ (asK [] rfl) rfl rfl (.inl rfl)
theorem w_agenda_falling_s (N : Nat) (qp0 : Option Addr) (qc1 : Nat) (l0 : List Int) (o2 : List Int) (hm : m_agenda_falling N l0 = some o2) : Spec Tryd.prog 31 [.slice qp0 l0.length qc1] [.sli 1 R_i64 qp0 qc1 l0, tabF Tryd.prog "internal/strconv.uint64pow10" .u64 Lib.pow10Tab 0 pow10_g] [] (fun v Φr Hr => ∃ (o0 : Option Addr) (o1 : Nat), v = .slice o0 l0.length o1 ∧ Φr = [] ∧ Hr = [.own 3 1 R_i64 (.slice o0 l0.length o1) o2]) := by
 unfold m_agenda_falling at hm
 refine spec_of Tryd.func31 rfl Tryd.ntmps31 rfl (S := [_]) rfl (fun C => (wc_seq (wc_region (wP rfl (wl_nil (we_then (wc_keep [0] (S' := [_]) rfl (wc_seq (wc_region (wP rfl ?_))))))))))
 obtain ⟨hg4, hm⟩ := gd_some hm
 refine wC [] [] rfl fn_33 rfl (Clone33f_s qp0 qc1 l0 hg4) (asK [0] rfl) rfl (H' := []) rfl ?_
 rintro _ _ _ ⟨p4, c4, rfl, rfl, rfl⟩
 refine wl_pure (S' := [_,_]) rfl rfl rfl rfl rfl (wl_nil (we_then (wc_keep [0] (S' := [_]) rfl (wc_seq (wc_region (wP rfl ?_))))))
 obtain ⟨v6, hc6, hm⟩ := bindO_some hm
 refine wC [0] [] rfl fn_37 rfl (spec_sortF srt_37 srtnil_37 (enters_of Tryd.func38 (by kernel_rfl) rfl) (fun x_ y_ z_ h_ => w_agenda_falling_1_s N x_ y_ z_ h_) hc6) (asK [] rfl) rfl (H' := []) rfl ?_
 rintro _ _ _ ⟨rfl, rfl, rfl⟩
 refine wl_nil (we_then (wc_keep [0] (S' := [_]) rfl (wc_seq (wc_region (wP rfl (wP rfl (wl_nil (we_then (wc_keep [2] (S' := [_]) rfl (wc_ret ?_))))))))))
 have hE := (Option.some.inj hm).symm
 replace hE := hE.symm
 subst hE
 refine ret_one (Hr := [_]) [0] Tryd.results31 (res_tmp rfl) ⟨p4, c4, rfl, rfl, rfl⟩ (asK [] rfl) rfl rfl (.inl rfl)
theorem w_slices_Compare_int_s (N : Nat) (qp0 : Option Addr) (qc1 : Nat) (l0 : List Int) (qp2 : Option Addr) (qc3 : Nat) (l1 : List Int) (o0 : Int) (hm : m_slices_Compare_int N l0 l1 = some o0) : Spec Tryd.prog 30 [.slice qp0 l0.length qc1, .slice qp2 l1.length qc3] [.sli 1 R_i64 qp0 qc1 l0, .sli 1 R_i64 qp2 qc3 l1, tabF Tryd.prog "internal/strconv.uint64pow10" .u64 Lib.pow10Tab 0 pow10_g] [] (fun v Φr Hr => v = .int .i64 o0 ∧ Φr = [] ∧ Hr = []) := by
 unfold m_slices_Compare_int at hm
 refine spec_of Tryd.func30 rfl Tryd.ntmps30 rfl (S := [_,_]) rfl (fun C => (wc_seq (wc_region (wP rfl (wl_nil (we_then (wc_keep [0,1] (S' := [_,_]) rfl (wc_seq ?_))))))))
 obtain ⟨bj_1, hm, hLj_1⟩ := bindS_some hm
 refine wc_cut (σ := Unit) (fun _ => bj_1 = .inl ()) (fun _ => [(0, .slice qp0 l0.length qc1), (1, .slice qp2 l1.length qc3)]) (fun _ => [.sli 1 R_i64 qp0 qc1 l0, .sli 1 R_i64 qp2 qc3 l1, tabF Tryd.prog "internal/strconv.uint64pow10" .u64 Lib.pow10Tab 0 pow10_g]) (fun _ => []) ?_ ?_
 ·
  refine wc_seq (wc_region (wP rfl (wN rfl tE_22 (wP rfl (wl_nil (we_then (wc_block (wc_loop (σ := Nat × Nat) (fun (nu1, u1_11) => iter (m_slices_Compare_int_L1 N l0 l1) nu1 u1_11 = some bj_1) (fun (nu1, u1_11) => nu1) (fun (nu1, u1_11) => [(11, .int .i64 ((u1_11 : Nat) : Int)), (10, .int .i64 ((l0.length : Nat) : Int)), (9, .slice qp0 l0.length qc1), (0, .slice qp0 l0.length qc1), (1, .slice qp2 l1.length qc3)]) (fun (nu1, u1_11) => [.sli 1 R_i64 qp0 qc1 l0, .sli 1 R_i64 qp2 qc3 l1, tabF Tryd.prog "internal/strconv.uint64pow10" .u64 Lib.pow10Tab 0 pow10_g]) (fun (nu1, u1_11) => []) (N, 0) hm [11,10,9,0,1] rfl (asK [0,1,2] rfl) rfl (fun s_ hm => ?_)))))))))
  obtain ⟨nu1, u1_11⟩ := s_
  try dsimp only at hm ⊢
  obtain ⟨mu1, bu1, hnu1, hq, hLu1⟩ := iter_some hm
  clear hm
  subst hnu1
  replace hm := hq
  clear hq
  unfold m_slices_Compare_int_L1 at hm
  try dsimp only at hm
  refine wc_seq (wc_region (wP rfl (wl_as (d := 12) (v' := .bool (decide (u1_11 < l0.length))) (S' := [_,_,_,_,_]) rfl rfl (natlt (a := u1_11) (b := l0.length)) (wl_nil (we_then (wc_seq ?_))))))
  refine wc_cond rfl (fun hb12 => ?_) (fun hb12 => ?_)
  ·
   replace hm := iteT hm hb12
   refine wc_keep [11,10,9,0,1] (S' := [_,_,_,_,_]) rfl (wc_skip (we_then (wc_seq (wc_block (wc_seq (wc_region (wP rfl ?_)))))))
   obtain ⟨x14, hx14, hm⟩ := bindO_some hm
   refine wl_indexA 0 u1_11 rfl rfl rfl (freshS_eq rfl) rfl rfl rfl rfl rfl hx14 tE_22 tS_3 (fun b14 q14 cs14 hlx14 => (wl_open R_i64_opens 1 rfl (fun r14 er14 _ => ?_)))
   subst er14
   refine wl_load 0 0 rfl rfl rfl (freshS_eq rfl) rfl rfl rfl (cs := [_]) rfl tS_3 tA_3 rfl rfl (wP rfl (wP rfl (wl_nil (we_then (wc_keep [6,5,11,10,9,0,1] (S' := [_,_,_,_,_,_,_]) rfl (wc_seq (wc_seq (wc_region (wP rfl (wP rfl (wN rfl tE_22 (wP rfl (wl_as (d := 19) (v' := .bool (decide (l1.length ≤ u1_11))) (S' := [_,_,_,_,_,_,_,_,_,_]) rfl rfl (natge (a := u1_11) (b := l1.length)) ?_)))))))))))))
   refine wl_nil (we_then (wc_keep [19,6,5,11,10,9,0,1] (S' := [_,_,_,_,_,_,_,_]) rfl ?_))
   refine wc_cond rfl (fun hb19 => ?_) (fun hb19 => ?_)
   ·
    replace hm := iteT hm hb19
    refine wc_keep [] (S' := []) rfl (wc_seq (wc_region (wP rfl (wl_nil (we_then (wc_ret (we_then_ret (we_block_ret (we_then_ret (we_then_ret (we_block_ret (we_then_ret ?_))))))))))))
    have hE := (Option.some.inj hm).symm
    replace hE := link_inr hLu1 hE
    replace hE := link_inr hLj_1 hE
    replace hE := hE.symm
    subst hE
    refine ret_one (Hr := []) [] Tryd.results30 (res_tmp rfl) ⟨rfl, rfl, rfl⟩ (asK [] rfl) rfl rfl (.inl rfl)
   ·
    replace hm := iteF hm hb19
    refine wc_keep [6,5,11,10,9,0,1] (S' := [_,_,_,_,_,_,_]) rfl (wc_skip (we_then (wc_seq (wc_region (wP rfl (wP rfl ?_))))))
    obtain ⟨x22, hx22, hm⟩ := bindO_some hm
    refine wl_indexA 3 u1_11 rfl rfl rfl (freshS_eq rfl) rfl rfl rfl rfl rfl hx22 tE_22 tS_3 (fun b22 q22 cs22 hlx22 => (wl_open R_i64_opens 1 rfl (fun r22 er22 _ => ?_)))
    subst er22
    refine wl_load 0 0 rfl rfl rfl (freshS_eq rfl) rfl rfl rfl (cs := [_]) rfl tS_3 tA_3 rfl rfl (wP rfl (wl_nil (we_then (wc_keep [7,6,11,10,9,0,1] (S' := [_,_,_,_,_,_,_]) rfl (wc_seq (wc_region (wP rfl (wP rfl ?_))))))))
    obtain ⟨v26, hc26, hm⟩ := bindO_some hm
    refine wC [] [] rfl fn_28 rfl (w_cmp_Compare_int_s N x14 x22 _ hc26) (asK [] rfl) rfl (H' := []) rfl ?_
    rintro _ _ _ ⟨rfl, rfl, rfl⟩
    refine wP rfl (wl_nil (we_then (wc_keep [8,11,10,9,0,1] (S' := [_,_,_,_,_,_]) rfl (wc_seq (wc_region (wP rfl (wP rfl (wl_nil (we_then (wc_keep [28,8,11,10,9,0,1] (S' := [_,_,_,_,_,_,_]) rfl ?_))))))))))
    refine wc_cond rfl (fun hb28 => ?_) (fun hb28 => ?_)
    ·
     replace hm := iteT hm hb28
     refine wc_keep [8] (S' := [_]) rfl (wc_seq (wc_region (wP rfl (wP rfl (wl_nil (we_then (wc_keep [4] (S' := [_]) rfl (wc_ret (we_block_ret (we_then_ret (we_then_ret (we_block_ret (we_then_ret ?_)))))))))))))
     have hE := (Option.some.inj hm).symm
     replace hE := link_inr hLu1 hE
     replace hE := link_inr hLj_1 hE
     replace hE := hE.symm
     subst hE
     refine ret_one (Hr := []) [] Tryd.results30 (res_tmp rfl) ⟨rfl, rfl, rfl⟩ (asK [] rfl) rfl rfl (.inl rfl)
    ·
     replace hm := iteF hm hb28
     refine wc_keep [11,10,9,0,1] (S' := [_,_,_,_,_]) rfl (wc_skip (we_block_normal (we_then (wc_region (wP rfl ?_)))))
     obtain ⟨hg30, hm⟩ := gd_some hm
     refine wl_as (d := 30) (v' := .int .i64 ((u1_11 + 1 : Nat) : Int)) (S' := [_,_,_,_,_]) rfl rfl (nat_add (a := u1_11) (b := 1) hg30) (wl_pure (S' := [_,_,_,_,_]) rfl rfl rfl rfl rfl (wl_nil ?_))
     have hE := (Option.some.inj hm).symm
     replace hE := link_inl hLu1 hE
     refine we_roundK (_, u1_11 + 1) (Nat.lt_succ_self _) hE [11,10,9,0,1] rfl (asK [4,5,6] rfl) rfl
  ·
   replace hm := iteF hm hb12
   refine wc_keep [0,1] (S' := [_,_]) rfl (wc_exit (we_then_exit (we_then_exit (we_block_hit ?_))))
   have hE := (Option.some.inj hm).symm
   replace hE := link_inr hLu1 hE
   refine we_join () hE [0,1] rfl (asK [0,1,2] rfl) rfl
 ·
  rintro _ hE
  try dsimp only
  have hm := link_inl hLj_1 hE
  try dsimp only at hm
  refine wc_seq (wc_seq (wc_region (wP rfl (wN rfl tE_22 (wP rfl (wN rfl tE_22 (wP rfl (wl_as (d := 35) (v' := .bool (decide (l0.length < l1.length))) (S' := [_,_,_,_,_,_]) rfl rfl (natlt (a := l0.length) (b := l1.length)) (wl_nil (we_then (wc_keep [35] (S' := [_]) rfl ?_)))))))))))
  refine wc_cond rfl (fun hb35 => ?_) (fun hb35 => ?_)
  ·
   replace hm := iteT hm hb35
   refine wc_keep [] (S' := []) rfl (wc_seq (wc_region (wP rfl (wl_nil (we_then (wc_ret (we_then_ret ?_)))))))
   have hE := (Option.some.inj hm).symm
   replace hE := hE.symm
   subst hE
   refine ret_one (Hr := []) [] Tryd.results30 (res_tmp rfl) ⟨rfl, rfl, rfl⟩ (asK [] rfl) rfl rfl (.inl rfl)
  ·
   replace hm := iteF hm hb35
   refine wc_keep [] (S' := []) rfl (wc_skip (we_then (wc_seq (wc_region (wP rfl (wl_nil (we_then (wc_ret ?_))))))))
   have hE := (Option.some.inj hm).symm
   replace hE := hE.symm
   subst hE
   refine ret_one (Hr := []) [] Tryd.results30 (res_tmp rfl) ⟨rfl, rfl, rfl⟩ (asK [] rfl) rfl rfl (.inl rfl)
theorem w_cmp_Or_int_s (N : Nat) (qp0 : Option Addr) (qc1 : Nat) (l0 : List Int) (o0 : Int) (hm : m_cmp_Or_int N l0 = some o0) : Spec Tryd.prog 27 [.slice qp0 l0.length qc1] [.sli 1 R_i64 qp0 qc1 l0, tabF Tryd.prog "internal/strconv.uint64pow10" .u64 Lib.pow10Tab 0 pow10_g] [] (fun v Φr Hr => v = .int .i64 o0 ∧ Φr = [] ∧ Hr = []) := by
 unfold m_cmp_Or_int at hm
 refine spec_of Tryd.func27 rfl Tryd.ntmps27 rfl (S := [_]) rfl (fun C => (wc_seq (wc_region (wP rfl (wl_nil (we_then (wc_keep [0] (S' := [_]) rfl (wc_seq (wc_region (wP rfl (wl_nil (we_then (wc_seq ?_)))))))))))))
 obtain ⟨bj_1, hm, hLj_1⟩ := bindS_some hm
 refine wc_cut (σ := Unit) (fun _ => bj_1 = .inl ()) (fun _ => [(3, .int .i64 0)]) (fun _ => [tabF Tryd.prog "internal/strconv.uint64pow10" .u64 Lib.pow10Tab 0 pow10_g]) (fun _ => []) ?_ ?_
 ·
  refine wc_seq (wc_region (wP rfl (wN rfl tE_22 (wP rfl (wl_nil (we_then (wc_keep [8,7,6,3] (S' := [_,_,_,_]) rfl (wc_block (wc_loop (σ := Nat × Nat) (fun (nu1, u1_8) => iter (m_cmp_Or_int_L1 N l0) nu1 u1_8 = some bj_1) (fun (nu1, u1_8) => nu1) (fun (nu1, u1_8) => [(8, .int .i64 ((u1_8 : Nat) : Int)), (7, .int .i64 ((l0.length : Nat) : Int)), (6, .slice qp0 l0.length qc1), (3, .int .i64 0)]) (fun (nu1, u1_8) => [.sli 1 R_i64 qp0 qc1 l0, tabF Tryd.prog "internal/strconv.uint64pow10" .u64 Lib.pow10Tab 0 pow10_g]) (fun (nu1, u1_8) => []) (N, 0) hm [8,7,6,3] rfl (asK [0,1] rfl) rfl (fun s_ hm => ?_))))))))))
  obtain ⟨nu1, u1_8⟩ := s_
  try dsimp only at hm ⊢
  obtain ⟨mu1, bu1, hnu1, hq, hLu1⟩ := iter_some hm
  clear hm
  subst hnu1
  replace hm := hq
  clear hq
  unfold m_cmp_Or_int_L1 at hm
  try dsimp only at hm
  refine wc_seq (wc_region (wP rfl (wl_as (d := 9) (v' := .bool (decide (u1_8 < l0.length))) (S' := [_,_,_,_]) rfl rfl (natlt (a := u1_8) (b := l0.length)) (wl_nil (we_then (wc_seq ?_))))))
  refine wc_cond rfl (fun hb9 => ?_) (fun hb9 => ?_)
  ·
   replace hm := iteT hm hb9
   refine wc_keep [8,7,6,3] (S' := [_,_,_,_]) rfl (wc_skip (we_then (wc_seq (wc_block (wc_seq (wc_region ?_))))))
   obtain ⟨x10, hx10, hm⟩ := bindO_some hm
   refine wl_indexA 0 u1_8 rfl rfl rfl (freshS_eq rfl) rfl rfl rfl rfl rfl hx10 tE_22 tS_3 (fun b10 q10 cs10 hlx10 => (wl_open R_i64_opens 1 rfl (fun r10 er10 _ => ?_)))
   subst er10
   refine wl_load 0 0 rfl rfl rfl (freshS_eq rfl) rfl rfl rfl (cs := [_]) rfl tS_3 tA_3 rfl rfl (wP rfl (wl_nil (we_then (wc_keep [5,8,7,6,3] (S' := [_,_,_,_,_]) rfl (wc_seq (wc_region (wP rfl (wP rfl (wP rfl (wl_nil (we_then (wc_keep [14,5,8,7,6,3] (S' := [_,_,_,_,_,_]) rfl ?_))))))))))))
   refine wc_cond rfl (fun hb14 => ?_) (fun hb14 => ?_)
   ·
    replace hm := iteT hm hb14
    refine wc_keep [5] (S' := [_]) rfl (wc_seq (wc_region (wP rfl (wP rfl (wl_nil (we_then (wc_keep [2] (S' := [_]) rfl (wc_ret (we_block_ret (we_then_ret (we_then_ret (we_block_ret (we_then_ret ?_)))))))))))))
    have hE := (Option.some.inj hm).symm
    replace hE := link_inr hLu1 hE
    replace hE := link_inr hLj_1 hE
    replace hE := hE.symm
    subst hE
    refine ret_one (Hr := []) [] Tryd.results27 (res_tmp rfl) ⟨rfl, rfl, rfl⟩ (asK [] rfl) rfl rfl (.inl rfl)
   ·
    replace hm := iteF hm hb14
    refine wc_keep [8,7,6,3] (S' := [_,_,_,_]) rfl (wc_skip (we_block_normal (we_then (wc_region (wP rfl ?_)))))
    obtain ⟨hg16, hm⟩ := gd_some hm
    refine wl_as (d := 16) (v' := .int .i64 ((u1_8 + 1 : Nat) : Int)) (S' := [_,_,_,_]) rfl rfl (nat_add (a := u1_8) (b := 1) hg16) (wl_pure (S' := [_,_,_,_]) rfl rfl rfl rfl rfl (wl_nil ?_))
    have hE := (Option.some.inj hm).symm
    replace hE := link_inl hLu1 hE
    refine we_roundK (_, u1_8 + 1) (Nat.lt_succ_self _) hE [8,7,6,3] rfl (asK [2,3] rfl) rfl
  ·
   replace hm := iteF hm hb9
   refine wc_keep [3] (S' := [_]) rfl (wc_exit (we_then_exit (we_then_exit (we_block_hit ?_))))
   have hE := (Option.some.inj hm).symm
   replace hE := link_inr hLu1 hE
   refine we_join () hE [3] rfl (asK [1] rfl) rfl
 ·
  rintro _ hE
  try dsimp only
  have hm := link_inl hLj_1 hE
  try dsimp only at hm
  refine wc_seq (wc_region (wP rfl (wP rfl (wl_nil (we_then (wc_keep [2] (S' := [_]) rfl (wc_ret ?_)))))))
  have hE := (Option.some.inj hm).symm
  replace hE := hE.symm
  subst hE
  refine ret_one (Hr := []) [] Tryd.results27 (res_tmp rfl) ⟨rfl, rfl, rfl⟩ (asK [] rfl) rfl rfl (.inl rfl)
theorem w_agenda_order_compare_s (N : Nat) (qp0 : Option Addr) (qc1 : Nat) (l0 : List Int) (a1 : Int) (qp2 : Option Addr) (qc3 : Nat) (l2 : List Int) (a3 : Int) (qp4 : Option Addr) (qc5 : Nat) (l4 : List Int) (o0 : Int) (hm : m_agenda_order_compare N l0 a1 l2 a3 l4 = some o0) : Spec Tryd.prog 19 [.slice qp0 l0.length qc1, .agg #[.int .i64 a1, .slice qp2 l2.length qc3], .agg #[.int .i64 a3, .slice qp4 l4.length qc5]] [.sli 1 R_i64 qp0 qc1 l0, .sli 1 R_i64 qp2 qc3 l2, .sli 1 R_i64 qp4 qc5 l4, tabF Tryd.prog "internal/strconv.uint64pow10" .u64 Lib.pow10Tab 0 pow10_g] [] (fun v Φr Hr => v = .int .i64 o0 ∧ Φr = [] ∧ Hr = []) := by
 unfold m_agenda_order_compare at hm
 refine spec_of Tryd.func19 rfl Tryd.ntmps19 rfl (S := [_,_,_]) rfl (fun C => (wc_seq (wc_region (wB rfl (fun g4 => (wB rfl (fun g5 => (wP rfl (wl_nil (we_then (wc_keep [5,4,0] (S' := [_,_,_]) rfl (wc_seq ?_))))))))))))
 obtain ⟨v9, hc9, hm⟩ := bindO_some hm
 obtain ⟨v12, hc12, hm⟩ := bindO_some hm
 obtain ⟨v13, hc13, hm⟩ := bindO_some hm
 obtain ⟨v16, hc16, hm⟩ := bindO_some hm
 obtain ⟨v19, hc19, hm⟩ := bindO_some hm
 obtain ⟨v20, hc20, hm⟩ := bindO_some hm
 obtain ⟨v25, hc25, hm⟩ := bindO_some hm
 obtain ⟨v30, hc30, hm⟩ := bindO_some hm
 obtain ⟨v32, hc32, hm⟩ := bindO_some hm
 refine wc_draw [0,1,3,4,7,8,10,11,14,15,16,17,19,20,21,22] rfl rfl (fun hok => (xP hok 0 rfl (wx_loadH hok 1 0 0 rfl rfl rfl (freshS_eq rfl) rfl rfl rfl rfl (cs := [_,_]) rfl tS_33 tA_33 rfl rfl (xP hok 3 rfl (wx_loadH hok 4 1 0 rfl rfl rfl (freshS_eq rfl) rfl rfl rfl rfl (cs := [_,_]) rfl tS_33 tA_33 rfl rfl (wx_fieldAddr hok 7 rfl rfl rfl (freshS_eq rfl) rfl rfl rfl tF_33_1 (wx_loadH hok 8 0 1 rfl rfl rfl (freshS_eq rfl) rfl rfl rfl rfl (cs := [_]) rfl tS_22 tA_22 rfl rfl (wx_fieldAddr hok 10 rfl rfl rfl (freshS_eq rfl) rfl rfl rfl tF_33_1 (wx_loadH hok 11 1 1 rfl rfl rfl (freshS_eq rfl) rfl rfl rfl rfl (cs := [_]) rfl tS_22 tA_22 rfl rfl (wx_fieldAddr hok 14 rfl rfl rfl (freshS_eq rfl) rfl rfl rfl tF_33_0 (wx_loadH hok 15 1 0 rfl rfl rfl (freshS_eq rfl) rfl rfl rfl rfl (cs := [_]) rfl tS_3 tA_3 rfl rfl (wx_fieldAddr hok 16 rfl rfl rfl (freshS_eq rfl) rfl rfl rfl tF_33_0 (wx_loadH hok 17 0 0 rfl rfl rfl (freshS_eq rfl) rfl rfl rfl rfl (cs := [_]) rfl tS_3 tA_3 rfl rfl (wx_fieldAddr hok 19 rfl rfl rfl (freshS_eq rfl) rfl rfl rfl tF_33_1 ?_))))))))))))))
 refine wx_loadH hok 20 1 1 rfl rfl rfl (freshS_eq rfl) rfl rfl rfl rfl (cs := [_]) rfl tS_22 tA_22 rfl rfl (wx_fieldAddr hok 21 rfl rfl rfl (freshS_eq rfl) rfl rfl rfl tF_33_1 (wx_loadH hok 22 0 1 rfl rfl rfl (freshS_eq rfl) rfl rfl rfl rfl (cs := [_]) rfl tS_22 tA_22 rfl rfl (xS hok 2 rfl (wC [] [0,1] rfl fn_29 rfl (w_agenda_order_of_s N qp0 qc1 l0 a3 qp4 qc5 l4 _ hc9) (asK [0,2,3] rfl) rfl (H' := [_,_]) rfl ?_))))
 rintro _ _ _ ⟨rfl, rfl, rfl⟩
 refine wl_nil (we_x [0,1,2,3] [0,1,0,1,1,0,1] rfl rfl (xS hok 5 rfl (wC [] [0,1] rfl fn_29 rfl (w_agenda_order_of_s N qp0 qc1 l0 a1 qp2 qc3 l2 _ hc12) (asK [0,1,3] rfl) rfl (H' := [_,_]) rfl ?_)))
 rintro _ _ _ ⟨rfl, rfl, rfl⟩
 refine wl_nil (we_x [0,1,2,3] [0,1,0,1,1,0,0] rfl rfl (xS hok 6 rfl (wC [] [0,1] rfl fn_28 rfl (w_cmp_Compare_int_s N v9 v12 _ hc13) (asK [] rfl) rfl (H' := [_,_]) rfl ?_)))
 rintro _ _ _ ⟨rfl, rfl, rfl⟩
 refine wl_nil (we_x [0,1,2,3] [0,1,0,1,1,0,1,0] rfl rfl (xS hok 9 rfl (wC [] [0,1] rfl fn_31 rfl (w_agenda_falling_s N qp4 qc5 l4 _ hc16) (asK [2,3] rfl) rfl (H' := [_,_]) rfl ?_)))
 rintro _ _ _ ⟨p16_0, c16_1, rfl, rfl, rfl⟩
 refine wl_nil (we_x [0,1,2,3] [1,2,1,2,2,2,1] rfl rfl (xS hok 12 rfl (wC [] [0,1,2] rfl fn_31 rfl (w_agenda_falling_s N qp2 qc3 l2 _ hc19) (asK [1,3] rfl) rfl (H' := [_,_,_]) rfl ?_)))
 rintro _ _ _ ⟨p19_0, c19_1, rfl, rfl, rfl⟩
 refine wl_nil (we_x [0,1,2,3] [2,3,2,3,2,3,2] rfl rfl (xS hok 13 rfl (wl_ownLen 1 rfl (fun hz7 _ => (wl_at 1 (v' := .slice p16_0 v16.length c16_1) rfl (by first | rfl | rw [hz7]) (wl_hAs 1 (φ' := .own 3 1 R_i64 (.slice p16_0 v16.length c16_1) v16) rfl (by first | rfl | rw [hz7]) (H' := [_,_,_,_]) rfl (wl_ownLen 0 rfl (fun hz8 _ => (wl_at 0 (v' := .slice p19_0 v19.length c19_1) rfl (by first | rfl | rw [hz8]) (wl_hAs 0 (φ' := .own 3 1 R_i64 (.slice p19_0 v19.length c19_1) v19) rfl (by first | rfl | rw [hz8]) (H' := [_,_,_,_]) rfl (wl_lend [] [0,1,2,3] [1,0] rfl rfl rfl (freshS_eq rfl) rfl rfl fn_30 rfl (w_slices_Compare_int_s N p16_0 c16_1 v16 p19_0 c19_1 v19 _ hc20) (fun F w hφ hh => (ask_cons (own_sli (hh _ (mem_at (k := 0) rfl))) (ask_cons (own_sli (hh _ (mem_at (k := 1) rfl))) (ask_cons (hφ _ (mem_at (k := 3) rfl)) ask_nil)))) (fun _ _ _ hR => by obtain ⟨rfl, rfl, rfl⟩ := hR; exact ⟨rfl, (fun _ h => free_nil h)⟩) rfl rfl (H' := [_,_,_,_]) rfl ?_)))))))))))
 rintro _ _ _ ⟨rfl, rfl, rfl⟩
 refine wl_nil (we_x [0,1,2,3] [2,3,2,3,3,2,3,2] rfl rfl (xS hok 18 rfl (wC [] [0,1,2,3] rfl fn_28 rfl (w_cmp_Compare_int_s N a1 a3 _ hc25) (asK [] rfl) rfl (H' := [_,_,_,_]) rfl ?_)))
 rintro _ _ _ ⟨rfl, rfl, rfl⟩
 refine wl_nil (we_x [0,1,2,3] [2,3,3,2,3,2] rfl rfl (xS hok 23 rfl (wC [] [0,1,2,3] rfl fn_30 rfl (w_slices_Compare_int_s N qp2 qc3 l2 qp4 qc5 l4 _ hc30) (asK [1,2,3] rfl) rfl (H' := [_,_,_,_]) rfl ?_)))
 rintro _ _ _ ⟨rfl, rfl, rfl⟩
 refine wl_nil (we_x [0,1,2,3] [2,3,3,2,3,2] rfl rfl (xS hok 24 rfl (wl_buildSlice rfl rfl rfl (freshS_eq rfl) rfl tE_22 tS_3 tZ_3 rfl (zs := [.int .i64 0, .int .i64 0, .int .i64 0, .int .i64 0]) (by kernel_rfl) rfl (out := [_,_,_,_]) rfl (fun g31 => (wl_nil (we_x [0,1,2,3] [3,4,3,4,4,3,4,3] rfl rfl (xS hok 25 rfl (wl_row (sz := 1) (m := 4) R_i64 ([v13, v20, v25, v30]) 0 rfl (fun F w hφ => ⟨[.int .i64 v13],[.int .i64 v20, .int .i64 v25, .int .i64 v30], rfl, rfl, ⟨(), rfl, ask_nil⟩, ⟨[.int .i64 v20],[.int .i64 v25, .int .i64 v30], rfl, rfl, ⟨(), rfl, ask_nil⟩, ⟨[.int .i64 v25],[.int .i64 v30], rfl, rfl, ⟨(), rfl, ask_nil⟩, ⟨[.int .i64 v30],[], rfl, rfl, ⟨(), rfl, ask_nil⟩, rfl⟩⟩⟩⟩) rfl (by decide) (H' := [_,_,_,_,_]) rfl (wl_lend [] [0,1,2,3,4] [0] rfl rfl rfl (freshS_eq rfl) rfl rfl fn_27 rfl (w_cmp_Or_int_s N (some ⟨g31,0, none⟩) 4 [v13, v20, v25, v30] _ hc32) (fun F w hφ hh => (ask_cons (own_sli (hh _ (mem_at (k := 0) rfl))) (ask_cons (hφ _ (mem_at (k := 3) rfl)) ask_nil))) (fun _ _ _ hR => by obtain ⟨rfl, rfl, rfl⟩ := hR; exact ⟨rfl, (fun _ h => free_nil h)⟩) rfl rfl (H' := [_,_,_,_,_]) rfl ?_)))))))))
 rintro _ _ _ ⟨rfl, rfl, rfl⟩
 refine wl_nil (we_x [0,1,2,3] [3,4,3,4,4,3,4,3] rfl rfl (xS hok 26 rfl (wP rfl (wl_nil (we_x [0,1,2,3] [] rfl rfl (wx_done hok rfl (we_then (wc_keep [6] (S' := [_]) rfl (wc_ret ?_)))))))))
 have hE := (Option.some.inj hm).symm
 replace hE := hE.symm
 subst hE
 refine ret_one (Hr := []) [] Tryd.results19 (res_tmp rfl) ⟨rfl, rfl, rfl⟩ (asK [] rfl) rfl rfl (.inl rfl)
theorem w_agenda_Better_s (N : Nat) (qp0 : Option Addr) (qc1 : Nat) (l0 : List Api_TypeD) (qp2 : Option Addr) (qc3 : Nat) (l1 : List Api_RuleD) (a2 : Int) (qp4 : Option Addr) (qc5 : Nat) (l3 : List Int) (a4 : Int) (qp6 : Option Addr) (qc7 : Nat) (l5 : List Int) (o0 : Bool) (hm : m_agenda_Better N l0 l1 a2 l3 a4 l5 = some o0) : Spec Tryd.prog 8 [.agg #[.slice qp0 l0.length qc1, .slice qp2 l1.length qc3], .agg #[.int .i64 a2, .slice qp4 l3.length qc5], .agg #[.int .i64 a4, .slice qp6 l5.length qc7]] [.sli 2 R_Api_TypeD qp0 qc1 l0, .sli 5 R_Api_RuleD qp2 qc3 l1, .sli 1 R_i64 qp4 qc5 l3, .sli 1 R_i64 qp6 qc7 l5, tabF Tryd.prog "internal/strconv.uint64pow10" .u64 Lib.pow10Tab 0 pow10_g] [] (fun v Φr Hr => v = .bool o0 ∧ Φr = [] ∧ Hr = []) := by
 unfold m_agenda_Better at hm
 refine spec_of Tryd.func8 rfl Tryd.ntmps8 rfl (S := [_,_,_]) rfl (fun C => (wc_seq (wc_region (wB rfl (fun g3 => (wB rfl (fun g4 => (wB rfl (fun g5 => (wP rfl (wl_nil (we_then (wc_keep [5,4,3] (S' := [_,_,_]) rfl (wc_seq ?_))))))))))))))
 obtain ⟨v8, hc8, hm⟩ := bindO_some hm
 obtain ⟨v11, hc11, hm⟩ := bindO_some hm
 refine wc_draw [0,2,3,5] rfl rfl (fun hok => (wx_loadH hok 0 2 0 rfl rfl rfl (freshS_eq rfl) rfl rfl rfl rfl (cs := [_,_]) rfl tS_29 tA_29 rfl rfl (wx_loadH hok 2 1 0 rfl rfl rfl (freshS_eq rfl) rfl rfl rfl rfl (cs := [_,_]) rfl tS_33 tA_33 rfl rfl (wx_loadH hok 3 0 0 rfl rfl rfl (freshS_eq rfl) rfl rfl rfl rfl (cs := [_,_]) rfl tS_33 tA_33 rfl rfl (xS hok 1 rfl (wC [] [0,1,2] rfl fn_18 rfl (w_agenda_by_s N qp0 qc1 l0 qp2 qc3 l1 _ hc8) (asK [0,1,4] rfl) rfl (H' := [_,_,_]) rfl ?_))))))
 rintro _ _ _ ⟨r8_0, c8_1, c8_2, rfl, rfl, rfl⟩
 refine wl_nil (we_x [0,1,2,3,4] [1,2] rfl rfl (xS hok 4 rfl (wl_ownLen 0 rfl (fun hzc8_2 _ => ?_))))
 subst hzc8_2
 refine wl_lend [] [0,1,2,3] [0] rfl rfl rfl (freshS_eq rfl) rfl rfl fn_19 rfl (w_agenda_order_compare_s N (some r8_0) c8_1 v8 a2 qp4 qc5 l3 a4 qp6 qc7 l5 _ hc11) (fun F w hφ hh => (ask_cons (own_sli (hh _ (mem_at (k := 0) rfl))) (ask_cons (hφ _ (mem_at (k := 2) rfl)) (ask_cons (hφ _ (mem_at (k := 3) rfl)) (ask_cons (hφ _ (mem_at (k := 4) rfl)) ask_nil))))) (fun _ _ _ hR => by obtain ⟨rfl, rfl, rfl⟩ := hR; exact ⟨rfl, (fun _ h => free_nil h)⟩) rfl rfl (H' := [_,_,_,_]) rfl ?_
 rintro _ _ _ ⟨rfl, rfl, rfl⟩
 refine wl_nil (we_x [0,1,2,3,4] [3] rfl rfl (xP hok 5 rfl (xS hok 6 rfl (wP rfl (wl_nil (we_x [0,1,2,3,4] [] rfl rfl (wx_done hok rfl (we_then (wc_keep [6] (S' := [_]) rfl (wc_ret ?_))))))))))
 have hE := (Option.some.inj hm).symm
 replace hE := hE.symm
 subst hE
 refine ret_one (Hr := []) [] Tryd.results8 (res_tmp rfl) ⟨rfl, rfl, rfl⟩ (asK [] rfl) rfl rfl (.inl rfl)
theorem w_agenda_New_v2_s0 (N : Nat) (qp0 : Option Addr) (qc1 : Nat) (l0 : List Api_TypeD) (qp2 : Option Addr) (qn3 : Nat) (qc4 : Nat) (l1 : List Api_RuleD)  (hm : m_agenda_New N l0 l1 = some (.inl ())) : Spec Tryd.prog 9 [.agg #[.slice qp0 l0.length qc1, .slice qp2 qn3 qc4]] [.sli 2 R_Api_TypeD qp0 qc1 l0, tabF Tryd.prog "internal/strconv.uint64pow10" .u64 Lib.pow10Tab 0 pow10_g] [.own 50 5 R_Api_RuleD (.slice qp2 qn3 qc4) l1] (fun v Φr Hr => v = .pointer none ∧ Φr = [] ∧ Hr = [.own 50 5 R_Api_RuleD (.slice qp2 qn3 qc4) l1]) := by
 unfold m_agenda_New at hm
 refine spec_of Tryd.func9 rfl Tryd.ntmps9 rfl (S := [_]) rfl (fun C => (wc_seq (wc_region (wB rfl (fun g1 => (wP rfl (wl_nil (we_then (wc_keep [1] (S' := [_]) rfl (wc_seq (wc_seq (wc_region (wF rfl tF_29_1 (wD 0 1 rfl tS_27 tA_27 rfl (wl_ownLen 1 rfl (fun hl5 _ => ?_))))))))))))))))
 refine wN rfl tE_27 (wl_as (d := 5) (v' := .int .i64 ((l1.length : Nat) : Int)) (S' := [_,_,_]) rfl rfl (len_is hl5) (wP rfl (wl_as (d := 6) (v' := .bool (decide (64 < l1.length))) (S' := [_,_,_,_]) rfl rfl (natgt (a := l1.length) (b := 64)) (wl_nil (we_then (wc_keep [6,1] (S' := [_,_]) rfl ?_))))))
 refine wc_cond rfl (fun hb6 => ?_) (fun hb6 => ?_)
 ·
  replace hm := iteT hm hb6
  refine wc_keep [] (S' := []) rfl (wc_seq (wc_region (wP rfl (wl_nil (we_then (wc_ret (we_then_ret ?_)))))))
  have hE := (Option.some.inj hm).symm
  replace hE := Sum.inl.inj hE
  refine ret_one (Hr := [_]) [1] Tryd.results9 (res_tmp rfl) ⟨rfl, rfl, rfl⟩ (asK [] rfl) rfl rfl (.inl rfl)
 ·
  replace hm := iteF hm hb6
  refine wc_keep [1] (S' := [_]) rfl (wc_skip (we_then (wc_seq (wc_region (wl_loadH 0 0 rfl rfl rfl (freshS_eq rfl) rfl rfl rfl (cs := [_,_]) rfl tS_29 tA_29 rfl rfl (wl_ownLen 1 rfl (fun hzqn3 _ => ?_)))))))
  subst hzqn3
  obtain ⟨v8, hc8, hm⟩ := bindO_some hm
  refine wl_lend [] [0,1] [1] rfl rfl rfl (freshS_eq rfl) rfl rfl fn_18 rfl (w_agenda_by_s N qp0 qc1 l0 qp2 qc4 l1 _ hc8) (fun F w hφ hh => (ask_cons (hφ _ (mem_at (k := 0) rfl)) (ask_cons (own_sli (hh _ (mem_at (k := 0) rfl))) (ask_cons (hφ _ (mem_at (k := 1) rfl)) ask_nil)))) (fun _ _ _ hR => by obtain ⟨_,_,_, rfl, rfl, rfl⟩ := hR; exact ⟨rfl, (free_cons (own_free mkRep_free) (fun _ h => free_nil h))⟩) rfl rfl (H' := [_,_]) rfl ?_
  rintro _ _ _ ⟨r8_0, c8_1, c8_2, rfl, rfl, rfl⟩
  refine wl_makeMapP (keyStr (tStr_run tT_9)) false R_bool rfl rfl rfl (freshS_eq rfl) rfl (fun g9 => (wl_build rfl rfl rfl (freshS_eq rfl) rfl tZ_57 tP_57 rfl (out := [_,_,_,_]) rfl (wB rfl (fun g11 => (wP rfl (wl_nil (we_then (wc_keep [2] (S' := [_]) rfl (wc_ret ?_)))))))))
  have hE := (Option.some.inj hm).symm
  cases hE
theorem w_agenda_New_v2_s1 (N : Nat) (qp0 : Option Addr) (qc1 : Nat) (l0 : List Api_TypeD) (qp2 : Option Addr) (qn3 : Nat) (qc4 : Nat) (l1 : List Api_RuleD) (o3 : List Int) (hm : m_agenda_New N l0 l1 = some (.inr o3)) : Spec Tryd.prog 9 [.agg #[.slice qp0 l0.length qc1, .slice qp2 qn3 qc4]] [.sli 2 R_Api_TypeD qp0 qc1 l0, tabF Tryd.prog "internal/strconv.uint64pow10" .u64 Lib.pow10Tab 0 pow10_g] [.own 50 5 R_Api_RuleD (.slice qp2 qn3 qc4) l1] (fun v Φr Hr => ∃ (o0 : Nat) (o1 : Addr) (o2 : Nat) (o4 : Nat) (o5 : Nat), v = .pointer (some ⟨o0,0, none⟩) ∧ Φr = [] ∧ Hr = [.blk o0 [.slice (some o1) o4 o2, .slice none 0 0, .slice none 0 0, .map (some o5)] 57, .own 3 1 R_i64 (.slice (some o1) o4 o2) o3, mapP (keyStr (tStr_run tT_9)) false R_bool o5 ([] : List (ByteArray × Bool)), .own 50 5 R_Api_RuleD (.slice qp2 qn3 qc4) l1]) := by
 unfold m_agenda_New at hm
 refine spec_of Tryd.func9 rfl Tryd.ntmps9 rfl (S := [_]) rfl (fun C => (wc_seq (wc_region (wB rfl (fun g1 => (wP rfl (wl_nil (we_then (wc_keep [1] (S' := [_]) rfl (wc_seq (wc_seq (wc_region (wF rfl tF_29_1 (wD 0 1 rfl tS_27 tA_27 rfl (wl_ownLen 1 rfl (fun hl5 _ => ?_))))))))))))))))
 refine wN rfl tE_27 (wl_as (d := 5) (v' := .int .i64 ((l1.length : Nat) : Int)) (S' := [_,_,_]) rfl rfl (len_is hl5) (wP rfl (wl_as (d := 6) (v' := .bool (decide (64 < l1.length))) (S' := [_,_,_,_]) rfl rfl (natgt (a := l1.length) (b := 64)) (wl_nil (we_then (wc_keep [6,1] (S' := [_,_]) rfl ?_))))))
 refine wc_cond rfl (fun hb6 => ?_) (fun hb6 => ?_)
 ·
  replace hm := iteT hm hb6
  refine wc_keep [] (S' := []) rfl (wc_seq (wc_region (wP rfl (wl_nil (we_then (wc_ret (we_then_ret ?_)))))))
  have hE := (Option.some.inj hm).symm
  cases hE
 ·
  replace hm := iteF hm hb6
  refine wc_keep [1] (S' := [_]) rfl (wc_skip (we_then (wc_seq (wc_region (wl_loadH 0 0 rfl rfl rfl (freshS_eq rfl) rfl rfl rfl (cs := [_,_]) rfl tS_29 tA_29 rfl rfl (wl_ownLen 1 rfl (fun hzqn3 _ => ?_)))))))
  subst hzqn3
  obtain ⟨v8, hc8, hm⟩ := bindO_some hm
  refine wl_lend [] [0,1] [1] rfl rfl rfl (freshS_eq rfl) rfl rfl fn_18 rfl (w_agenda_by_s N qp0 qc1 l0 qp2 qc4 l1 _ hc8) (fun F w hφ hh => (ask_cons (hφ _ (mem_at (k := 0) rfl)) (ask_cons (own_sli (hh _ (mem_at (k := 0) rfl))) (ask_cons (hφ _ (mem_at (k := 1) rfl)) ask_nil)))) (fun _ _ _ hR => by obtain ⟨_,_,_, rfl, rfl, rfl⟩ := hR; exact ⟨rfl, (free_cons (own_free mkRep_free) (fun _ h => free_nil h))⟩) rfl rfl (H' := [_,_]) rfl ?_
  rintro _ _ _ ⟨r8_0, c8_1, c8_2, rfl, rfl, rfl⟩
  refine wl_makeMapP (keyStr (tStr_run tT_9)) false R_bool rfl rfl rfl (freshS_eq rfl) rfl (fun g9 => (wl_build rfl rfl rfl (freshS_eq rfl) rfl tZ_57 tP_57 rfl (out := [_,_,_,_]) rfl (wB rfl (fun g11 => (wP rfl (wl_nil (we_then (wc_keep [2] (S' := [_]) rfl (wc_ret ?_)))))))))
  have hE := (Option.some.inj hm).symm
  replace hE := Sum.inr.inj hE
  replace hE := hE.symm
  subst hE
  refine ret_one (Hr := [_,_,_,_]) [0,2,1,4] Tryd.results9 (res_tmp rfl) ⟨g11, r8_0, c8_1, c8_2, g9, rfl, rfl, rfl⟩ (asK [] rfl) rfl rfl (.inl rfl)
theorem w_agenda_Agenda_known_s (N : Nat)   (hm : m_agenda_Agenda_known N = some ()) : Spec Tryd.prog 20 [.pointer none] [tabF Tryd.prog "internal/strconv.uint64pow10" .u64 Lib.pow10Tab 0 pow10_g] [] (fun v Φr Hr => v = .bool false ∧ Φr = [] ∧ Hr = []) := by
 unfold m_agenda_Agenda_known at hm
 refine spec_of Tryd.func20 rfl Tryd.ntmps20 rfl (S := [_]) rfl (fun C => (wc_seq (wc_region (wP rfl (wl_nil (we_then (wc_keep [0] (S' := [_]) rfl (wc_seq (wc_region (wP rfl (wl_bin rfl rfl rfl (freshS_eq rfl) rfl rfl rfl (neqP tQ_35 _ _ _) (wP rfl (wO rfl (wO rfl ?_))))))))))))))
 refine wO rfl (wO rfl (wO rfl (wP rfl (wP rfl (wl_nil (we_then (wc_keep [2] (S' := [_]) rfl (wc_ret ?_))))))))
 have hE := (Option.some.inj hm).symm
 refine ret_one (Hr := []) [] Tryd.results20 (res_tmp rfl) ⟨rfl, rfl, rfl⟩ (asK [] rfl) rfl rfl (.inl rfl)
theorem w_agenda_Agenda_Set_s (N : Nat) (qp0 : Option Addr) (qc1 : Nat) (l0 : List Api_TokenD)  (hm : m_agenda_Agenda_Set N l0 = some ()) : Spec Tryd.prog 10 [.pointer none, .slice qp0 l0.length qc1] [.sli 2 R_Api_TokenD qp0 qc1 l0, tabF Tryd.prog "internal/strconv.uint64pow10" .u64 Lib.pow10Tab 0 pow10_g] [] (fun v Φr Hr => v = .int .i64 1 ∧ Φr = [] ∧ Hr = []) := by
 unfold m_agenda_Agenda_Set at hm
 refine spec_of Tryd.func10 rfl Tryd.ntmps10 rfl (S := [_,_]) rfl (fun C => (wc_seq (wc_region (wP rfl (wl_nil (we_then (wc_keep [0,1] (S' := [_,_]) rfl (wc_seq (wc_seq (wc_region (wP rfl ?_)))))))))))
 obtain ⟨_, hc13, hm⟩ := bindO_some hm
 try dsimp only at hm
 refine wC [] [] rfl fn_20 rfl (w_agenda_Agenda_known_s N  hc13) (asK [1] rfl) rfl (H' := []) rfl ?_
 rintro _ _ _ ⟨rfl, rfl, rfl⟩
 refine wP rfl (wl_nil (we_then (wc_keep [14,0,1] (S' := [_,_,_]) rfl (wc_true rfl (wc_keep [] (S' := []) rfl (wc_seq (wc_region (wP rfl (wl_nil (we_then (wc_ret (we_then_ret ?_))))))))))))
 have hE := (Option.some.inj hm).symm
 refine ret_one (Hr := []) [] Tryd.results10 (res_tmp rfl) ⟨rfl, rfl, rfl⟩ (asK [] rfl) rfl rfl (.inl rfl)
theorem w_agenda_Agenda_known_v2_s (N : Nat) (qg0 : Nat) (qp1 : Addr) (qn2 : Nat) (qc3 : Nat) (l0 : List Int) (qp4 : Option Addr) (qn5 : Nat) (qc6 : Nat) (l1 : List Api_TokenD) (qp7 : Option Addr) (qn8 : Nat) (qc9 : Nat) (l2 : List Api_TokenD) (qb10 : Nat) (e3 : List (ByteArray × Bool))  (hm : m_agenda_Agenda_known_v2 N l0 l1 l2 e3 = some ()) : Spec Tryd.prog 20 [.pointer (some ⟨qg0,0, none⟩)] [tabF Tryd.prog "internal/strconv.uint64pow10" .u64 Lib.pow10Tab 0 pow10_g] [.blk qg0 [.slice (some qp1) qn2 qc3, .slice qp4 qn5 qc6, .slice qp7 qn8 qc9, .map (some qb10)] 57, .own 3 1 R_i64 (.slice (some qp1) qn2 qc3) l0, .own 33 2 R_Api_TokenD (.slice qp4 qn5 qc6) l1, .own 33 2 R_Api_TokenD (.slice qp7 qn8 qc9) l2, mapP (keyStr (tStr_run tT_9)) false R_bool qb10 e3] (fun v Φr Hr => v = .bool true ∧ Φr = [] ∧ Hr = [.blk qg0 [.slice (some qp1) qn2 qc3, .slice qp4 qn5 qc6, .slice qp7 qn8 qc9, .map (some qb10)] 57, .own 3 1 R_i64 (.slice (some qp1) qn2 qc3) l0, .own 33 2 R_Api_TokenD (.slice qp4 qn5 qc6) l1, .own 33 2 R_Api_TokenD (.slice qp7 qn8 qc9) l2, mapP (keyStr (tStr_run tT_9)) false R_bool qb10 e3]) := by
 unfold m_agenda_Agenda_known_v2 at hm
 refine spec_of Tryd.func20 rfl Tryd.ntmps20 rfl (S := [_]) rfl (fun C => (wc_seq (wc_region (wP rfl (wl_nil (we_then (wc_keep [0] (S' := [_]) rfl (wc_seq (wc_region (wP rfl (wl_bin rfl rfl rfl (freshS_eq rfl) rfl rfl rfl (neqP tQ_35 _ _ _) (wP rfl (wP rfl (wP rfl ?_))))))))))))))
 refine wF rfl tF_57_0 (wD 0 0 rfl tS_52 tA_52 rfl (wl_neqNil rfl rfl rfl (freshS_eq rfl) rfl rfl rfl tE_52 (wl_as (d := 10) (v' := .bool true) (S' := [_,_,_,_,_,_,_,_]) rfl rfl rfl (wP rfl (wP rfl (wl_nil (we_then (wc_keep [2] (S' := [_]) rfl (wc_ret ?_)))))))))
 have hE := (Option.some.inj hm).symm
 refine ret_one (Hr := [_,_,_,_,_]) [0,1,2,3,4] Tryd.results20 (res_tmp rfl) ⟨rfl, rfl, rfl⟩ (asK [] rfl) rfl rfl (.inl rfl)
theorem w_agenda_name_s (N : Nat) (a0 : Int) (qp0 : Option Addr) (qc1 : Nat) (l1 : List Int) (o0 : ByteArray) (hm : m_agenda_name N a0 l1 = some o0) : Spec Tryd.prog 21 [.agg #[.int .i64 a0, .slice qp0 l1.length qc1]] [.sli 1 R_i64 qp0 qc1 l1, tabF Tryd.prog "internal/strconv.uint64pow10" .u64 Lib.pow10Tab 0 pow10_g] [] (fun v Φr Hr => v = .string o0 ∧ Φr = [] ∧ Hr = []) := by
 unfold m_agenda_name at hm
 refine spec_of Tryd.func21 rfl Tryd.ntmps21 rfl (S := [_]) rfl (fun C => (wc_seq (wc_region (wB rfl (fun g1 => (wP rfl (wl_nil (we_then (wc_keep [1] (S' := [_]) rfl (wc_seq (wc_region (wF rfl tF_33_0 (wD 0 0 rfl tS_3 tA_3 rfl ?_)))))))))))))
 obtain ⟨hs8, hm⟩ := gd_some hm
 refine wC [] [0] rfl fn_32 rfl (sh_Itoa a0 hs8) (asK [1] rfl) rfl (H' := [_]) rfl ?_
 rintro _ _ _ ⟨rfl, rfl, rfl⟩
 refine wP rfl (wl_nil (we_then (wc_keep [3,1] (S' := [_,_]) rfl (wc_seq ?_))))
 obtain ⟨bj_1, hm, hLj_1⟩ := bindO_some hm
 refine wc_cut (σ := ByteArray) (fun j_1_3 => bj_1 = j_1_3) (fun j_1_3 => [(3, .string j_1_3)]) (fun j_1_3 => [tabF Tryd.prog "internal/strconv.uint64pow10" .u64 Lib.pow10Tab 0 pow10_g]) (fun j_1_3 => []) ?_ ?_
 ·
  refine wc_seq (wc_region (wF rfl tF_33_1 (wD 0 1 rfl tS_22 tA_22 rfl (wN rfl tE_22 (wP rfl (wl_nil (we_then (wc_keep [12,11,10,3] (S' := [_,_,_,_]) rfl (wc_block (wc_pick [] rfl (H' := []) rfl (wc_loop (σ := Nat × Nat × ByteArray) (fun (nu1, u1_12, u1_3) => iter (m_agenda_name_L1 N l1) nu1 (u1_12, u1_3) = some bj_1) (fun (nu1, u1_12, u1_3) => nu1) (fun (nu1, u1_12, u1_3) => [(12, .int .i64 ((u1_12 : Nat) : Int)), (11, .int .i64 ((l1.length : Nat) : Int)), (10, .slice qp0 l1.length qc1), (3, .string u1_3)]) (fun (nu1, u1_12, u1_3) => [.sli 1 R_i64 qp0 qc1 l1, tabF Tryd.prog "internal/strconv.uint64pow10" .u64 Lib.pow10Tab 0 pow10_g]) (fun (nu1, u1_12, u1_3) => []) (N, 0, itoaF a0) hm [12,11,10,3] rfl (asK [0,1] rfl) rfl (fun s_ hm => ?_))))))))))))
  obtain ⟨nu1, u1_12, u1_3⟩ := s_
  try dsimp only at hm ⊢
  obtain ⟨mu1, bu1, hnu1, hq, hLu1⟩ := iter_some hm
  clear hm
  subst hnu1
  replace hm := hq
  clear hq
  unfold m_agenda_name_L1 at hm
  try dsimp only at hm
  refine wc_seq (wc_region (wP rfl (wl_as (d := 13) (v' := .bool (decide (u1_12 < l1.length))) (S' := [_,_,_,_]) rfl rfl (natlt (a := u1_12) (b := l1.length)) (wl_nil (we_then (wc_seq ?_))))))
  refine wc_cond rfl (fun hb13 => ?_) (fun hb13 => ?_)
  ·
   replace hm := iteT hm hb13
   refine wc_keep [12,11,10,3] (S' := [_,_,_,_]) rfl (wc_skip (we_then (wc_seq (wc_block (wc_seq (wc_region ?_))))))
   obtain ⟨x14, hx14, hm⟩ := bindO_some hm
   refine wl_indexA 0 u1_12 rfl rfl rfl (freshS_eq rfl) rfl rfl rfl rfl rfl hx14 tE_22 tS_3 (fun b14 q14 cs14 hlx14 => (wl_open R_i64_opens 1 rfl (fun r14 er14 _ => ?_)))
   subst er14
   refine wl_load 0 0 rfl rfl rfl (freshS_eq rfl) rfl rfl rfl (cs := [_]) rfl tS_3 tA_3 rfl rfl (wP rfl (wl_nil (we_then (wc_keep [5,12,11,10,3] (S' := [_,_,_,_,_]) rfl (wc_region (wP rfl (wP rfl ?_)))))))
   obtain ⟨hs18, hm⟩ := gd_some hm
   refine wC [] [] rfl fn_32 rfl (sh_Itoa x14 hs18) (asK [3] rfl) rfl (H' := []) rfl ?_
   rintro _ _ _ ⟨rfl, rfl, rfl⟩
   obtain ⟨hg19, hm⟩ := gd_some hm
   refine wl_bin rfl rfl rfl (freshS_eq rfl) rfl rfl rfl (run_strAdd hg19) ?_
   obtain ⟨hg20, hm⟩ := gd_some hm
   refine wl_bin rfl rfl rfl (freshS_eq rfl) rfl rfl rfl (run_strAdd hg20) (wl_pure (S' := [_,_,_,_,_,_,_,_,_]) rfl rfl rfl rfl rfl (wl_nil (we_block_normal (we_then (wc_keep [3,12,11,10] (S' := [_,_,_,_]) rfl (wc_region (wP rfl ?_)))))))
   obtain ⟨hg21, hm⟩ := gd_some hm
   refine wl_as (d := 21) (v' := .int .i64 ((u1_12 + 1 : Nat) : Int)) (S' := [_,_,_,_]) rfl rfl (nat_add (a := u1_12) (b := 1) hg21) (wl_pure (S' := [_,_,_,_]) rfl rfl rfl rfl rfl (wl_nil ?_))
   have hE := (Option.some.inj hm).symm
   replace hE := link_inl hLu1 hE
   refine we_roundK (_, u1_12 + 1, (u1_3 ++ ((⟨#[32]⟩ : ByteArray) ++ (itoaF x14)))) (Nat.lt_succ_self _) hE [12,11,10,3] rfl (asK [2,3] rfl) rfl
  ·
   replace hm := iteF hm hb13
   refine wc_keep [3] (S' := [_]) rfl (wc_exit (we_then_exit (we_then_exit (we_block_hit ?_))))
   have hE := (Option.some.inj hm).symm
   replace hE := link_inr hLu1 hE
   refine we_join u1_3 hE [3] rfl (asK [1] rfl) rfl
 ·
  rintro j_1_3 hE
  try dsimp only
  have hm := hLj_1
  rw [hE] at hm
  refine wc_seq (wc_region (wP rfl (wP rfl (wl_nil (we_then (wc_keep [2] (S' := [_]) rfl (wc_ret ?_)))))))
  have hE := (Option.some.inj hm).symm
  replace hE := hE.symm
  subst hE
  refine ret_one (Hr := []) [] Tryd.results21 (res_tmp rfl) ⟨rfl, rfl, rfl⟩ (asK [] rfl) rfl rfl (.inl rfl)
theorem w_agenda_own_s (N : Nat) (a0 : Int) (qp0 : Option Addr) (qc1 : Nat) (l1 : List Int)  (hm : m_agenda_own N a0 l1 = some ()) : Spec Tryd.prog 22 [.agg #[.int .i64 a0, .slice qp0 l1.length qc1]] [.sli 1 R_i64 qp0 qc1 l1, tabF Tryd.prog "internal/strconv.uint64pow10" .u64 Lib.pow10Tab 0 pow10_g] [] (fun v Φr Hr => ∃ (o0 : Option Addr) (o1 : Nat), v = .agg #[.int .i64 a0, .slice o0 l1.length o1] ∧ Φr = [] ∧ Hr = [.own 3 1 R_i64 (.slice o0 l1.length o1) l1]) := by
 unfold m_agenda_own at hm
 refine spec_of Tryd.func22 rfl Tryd.ntmps22 rfl (S := [_]) rfl (fun C => (wc_seq (wc_region (wB rfl (fun g1 => (wl_alloc rfl rfl rfl (freshS_eq rfl) rfl tZ_33 rfl (fun g2 => (wl_nil (we_then (wc_keep [2,1] (S' := [_,_]) rfl (wc_seq (wc_region (wF rfl tF_33_1 (wD 1 1 rfl tS_22 tA_22 rfl ?_))))))))))))))
 obtain ⟨hg5, hm⟩ := gd_some hm
 refine wC [] [0,1] rfl fn_33 rfl (Clone33f_s qp0 qc1 l1 hg5) (asK [0] rfl) rfl (H' := [_,_]) rfl ?_
 rintro _ _ _ ⟨p5, c5, rfl, rfl, rfl⟩
 refine wF rfl tF_33_1 (wS 2 1 rfl tS_22 (all' := [_,_]) rfl (H' := [_,_,_]) rfl (wl_nil (we_then (wc_keep [2,1] (S' := [_,_]) rfl (wc_seq (wc_region (wl_loadH 2 0 rfl rfl rfl (freshS_eq rfl) rfl rfl rfl (cs := [_,_]) rfl tS_33 tA_33 rfl rfl (wS 1 0 rfl tS_33 (all' := [_,_]) rfl (H' := [_,_,_]) rfl (wl_nil (we_then (wc_keep [2] (S' := [_]) rfl (wc_ret ?_))))))))))))
 have hE := (Option.some.inj hm).symm
 refine ret_one (Hr := [_]) [0] Tryd.results22 (res_cell 1 rfl rfl tS_33 tA_33 rfl rfl) ⟨p5, c5, rfl, rfl, rfl⟩ (asK [] rfl) rfl rfl (.inl rfl)
theorem w_bits_Len64_s (N : Nat) (a0 : Int) (o0 : Int) (hm : m_bits_Len64 N a0 = some o0) : Spec Tryd.prog 49 [.int .u64 a0] [tabF Tryd.prog "internal/strconv.uint64pow10" .u64 Lib.pow10Tab 0 pow10_g] [] (fun v Φr Hr => v = .int .i64 o0 ∧ Φr = [] ∧ Hr = []) := by
 unfold m_bits_Len64 at hm
 refine spec_of Tryd.func49 rfl Tryd.ntmps49 rfl (S := [_]) rfl (fun C => (wc_seq (wc_region (wP rfl (wl_nil (we_then (wc_seq ?_)))))))
 obtain ⟨bj_1, hm, hLj_1⟩ := bindO_some hm
 refine wc_cut (σ := Int × Nat) (fun (j_1_0, j_1_2) => bj_1 = (j_1_0, j_1_2)) (fun (j_1_0, j_1_2) => [(0, .int .u64 j_1_0), (2, .int .i64 ((j_1_2 : Nat) : Int))]) (fun (j_1_0, j_1_2) => [tabF Tryd.prog "internal/strconv.uint64pow10" .u64 Lib.pow10Tab 0 pow10_g]) (fun (j_1_0, j_1_2) => []) ?_ ?_
 ·
  refine wc_seq (wc_region (wP rfl (wP rfl (wl_nil (we_then (wc_keep [4,2,0] (S' := [_,_,_]) rfl ?_))))))
  refine wc_cond rfl (fun hb4 => ?_) (fun hb4 => ?_)
  ·
   replace hm := iteT hm hb4
   refine wc_keep [0] (S' := [_]) rfl (wc_seq (wc_region (wP rfl (wl_bin rfl rfl rfl (freshS_eq rfl) rfl rfl rfl (run_shr (by decide)) (wl_pure (S' := [_,_]) rfl rfl rfl rfl rfl (wl_nil (we_then (wc_keep [0] (S' := [_]) rfl (wc_region (wP rfl (wl_nil ?_)))))))))))
   have hE := (Option.some.inj hm).symm
   refine we_join (Int.fdiv a0 (2 ^ (32)), 32) hE [0,2] rfl (asK [0] rfl) rfl
  ·
   replace hm := iteF hm hb4
   refine wc_keep [2,0] (S' := [_,_]) rfl (wc_skip ?_)
   have hE := (Option.some.inj hm).symm
   refine we_join (a0,0) hE [0,2] rfl (asK [0] rfl) rfl
 ·
  rintro ⟨j_1_0, j_1_2⟩ hE
  try dsimp only
  have hm := hLj_1
  rw [hE] at hm
  try dsimp only at hm
  refine wc_seq ?_
  obtain ⟨bj_2, hm, hLj_2⟩ := bindO_some hm
  refine wc_cut (σ := Int × Nat) (fun (j_2_0, j_2_2) => bj_2 = (j_2_0, j_2_2)) (fun (j_2_0, j_2_2) => [(0, .int .u64 j_2_0), (2, .int .i64 ((j_2_2 : Nat) : Int))]) (fun (j_2_0, j_2_2) => [tabF Tryd.prog "internal/strconv.uint64pow10" .u64 Lib.pow10Tab 0 pow10_g]) (fun (j_2_0, j_2_2) => []) ?_ ?_
  ·
   refine wc_seq (wc_region (wP rfl (wP rfl (wl_nil (we_then (wc_keep [8,0,2] (S' := [_,_,_]) rfl ?_))))))
   refine wc_cond rfl (fun hb8 => ?_) (fun hb8 => ?_)
   ·
    replace hm := iteT hm hb8
    refine wc_keep [0,2] (S' := [_,_]) rfl (wc_seq (wc_region (wP rfl (wl_bin rfl rfl rfl (freshS_eq rfl) rfl rfl rfl (run_shr (by decide)) (wl_pure (S' := [_,_,_]) rfl rfl rfl rfl rfl (wl_nil (we_then (wc_keep [0,2] (S' := [_,_]) rfl (wc_region (wP rfl (wP rfl ?_)))))))))))
    obtain ⟨hg12, hm⟩ := gd_some hm
    refine wl_as (d := 12) (v' := .int .i64 ((j_1_2 + 16 : Nat) : Int)) (S' := [_,_,_]) rfl rfl (nat_add (a := j_1_2) (b := 16) hg12) (wl_pure (S' := [_,_,_]) rfl rfl rfl rfl rfl (wl_nil ?_))
    have hE := (Option.some.inj hm).symm
    refine we_join (Int.fdiv j_1_0 (2 ^ (16)), j_1_2 + 16) hE [0,2] rfl (asK [0] rfl) rfl
   ·
    replace hm := iteF hm hb8
    refine wc_keep [0,2] (S' := [_,_]) rfl (wc_skip ?_)
    have hE := (Option.some.inj hm).symm
    refine we_join (j_1_0, j_1_2) hE [0,2] rfl (asK [0] rfl) rfl
  ·
   rintro ⟨j_2_0, j_2_2⟩ hE
   try dsimp only
   have hm := hLj_2
   rw [hE] at hm
   try dsimp only at hm
   refine wc_seq ?_
   obtain ⟨bj_3, hm, hLj_3⟩ := bindO_some hm
   refine wc_cut (σ := Int × Nat) (fun (j_3_0, j_3_2) => bj_3 = (j_3_0, j_3_2)) (fun (j_3_0, j_3_2) => [(0, .int .u64 j_3_0), (2, .int .i64 ((j_3_2 : Nat) : Int))]) (fun (j_3_0, j_3_2) => [tabF Tryd.prog "internal/strconv.uint64pow10" .u64 Lib.pow10Tab 0 pow10_g]) (fun (j_3_0, j_3_2) => []) ?_ ?_
   ·
    refine wc_seq (wc_region (wP rfl (wP rfl (wl_nil (we_then (wc_keep [14,0,2] (S' := [_,_,_]) rfl ?_))))))
    refine wc_cond rfl (fun hb14 => ?_) (fun hb14 => ?_)
    ·
     replace hm := iteT hm hb14
     refine wc_keep [0,2] (S' := [_,_]) rfl (wc_seq (wc_region (wP rfl (wl_bin rfl rfl rfl (freshS_eq rfl) rfl rfl rfl (run_shr (by decide)) (wl_pure (S' := [_,_,_]) rfl rfl rfl rfl rfl (wl_nil (we_then (wc_keep [0,2] (S' := [_,_]) rfl (wc_region (wP rfl (wP rfl ?_)))))))))))
     obtain ⟨hg18, hm⟩ := gd_some hm
     refine wl_as (d := 18) (v' := .int .i64 ((j_2_2 + 8 : Nat) : Int)) (S' := [_,_,_]) rfl rfl (nat_add (a := j_2_2) (b := 8) hg18) (wl_pure (S' := [_,_,_]) rfl rfl rfl rfl rfl (wl_nil ?_))
     have hE := (Option.some.inj hm).symm
     refine we_join (Int.fdiv j_2_0 (2 ^ (8)), j_2_2 + 8) hE [0,2] rfl (asK [0] rfl) rfl
    ·
     replace hm := iteF hm hb14
     refine wc_keep [0,2] (S' := [_,_]) rfl (wc_skip ?_)
     have hE := (Option.some.inj hm).symm
     refine we_join (j_2_0, j_2_2) hE [0,2] rfl (asK [0] rfl) rfl
   ·
    rintro ⟨j_3_0, j_3_2⟩ hE
    try dsimp only
    have hm := hLj_3
    rw [hE] at hm
    try dsimp only at hm
    refine wc_seq (wc_region (wP rfl (wP rfl (wl_reck rfl rfl rfl (freshS_eq rfl) (rk_conv rfl rfl tI_86 tI_5) ?_))))
    obtain ⟨hn22, hm⟩ := gd_some hm
    obtain ⟨x22, hx22, hm⟩ := bindO_some hm
    refine wl_reck rfl rfl rfl (freshS_eq rfl) (rk_strAt ((IntKind.wrap .u8 j_3_0).toNat) rfl rfl rfl (toNat_eq hn22) hx22 tT_9) (wl_reck rfl rfl rfl (freshS_eq rfl) (rk_conv rfl rfl tI_5 tI_3) (wP rfl ?_))
    obtain ⟨hg24, hm⟩ := gd_some hm
    refine wl_as (d := 24) (v' := .int .i64 (((j_3_2 : Nat) : Int) + (IntKind.wrap .i64 ((x22.toNat : Nat) : Int)))) (S' := [_,_,_,_,_,_,_]) rfl rfl (i64_in hg24) (wl_pure (S' := [_,_,_,_,_,_,_]) rfl rfl rfl rfl rfl (wl_nil (we_then (wc_keep [2] (S' := [_]) rfl (wc_ret ?_)))))
    have hE := (Option.some.inj hm).symm
    replace hE := hE.symm
    subst hE
    refine ret_one (Hr := []) [] Tryd.results49 (res_tmp rfl) ⟨rfl, rfl, rfl⟩ (asK [] rfl) rfl rfl (.inl rfl)
theorem w_bits_Len_s (N : Nat) (a0 : Int) (o0 : Int) (hm : m_bits_Len N a0 = some o0) : Spec Tryd.prog 35 [.int .u64 a0] [tabF Tryd.prog "internal/strconv.uint64pow10" .u64 Lib.pow10Tab 0 pow10_g] [] (fun v Φr Hr => v = .int .i64 o0 ∧ Φr = [] ∧ Hr = []) := by
 unfold m_bits_Len at hm
 refine spec_of Tryd.func35 rfl Tryd.ntmps35 rfl (S := [_]) rfl (fun C => (wc_seq (wc_region (wP rfl (wl_nil (we_then (wc_keep [0] (S' := [_]) rfl (wc_seq (wc_false rfl (wc_skip (we_then (wc_seq (wc_region (wP rfl ?_))))))))))))))
 obtain ⟨v7, hc7, hm⟩ := bindO_some hm
 refine wC [] [] rfl fn_49 rfl (w_bits_Len64_s N a0 _ hc7) (asK [0] rfl) rfl (H' := []) rfl ?_
 rintro _ _ _ ⟨rfl, rfl, rfl⟩
 refine wP rfl (wl_nil (we_then (wc_keep [2] (S' := [_]) rfl (wc_ret ?_))))
 have hE := (Option.some.inj hm).symm
 replace hE := hE.symm
 subst hE
 refine ret_one (Hr := []) [] Tryd.results35 (res_tmp rfl) ⟨rfl, rfl, rfl⟩ (asK [] rfl) rfl rfl (.inl rfl)
theorem w_agenda_order_compare_v2_s (N : Nat) (qp0 : Addr) (qn1 : Nat) (qc2 : Nat) (l0 : List Int) (a1 : Int) (qp3 : Option Addr) (qc4 : Nat) (l2 : List Int) (a3 : Int) (qp5 : Option Addr) (qc6 : Nat) (l4 : List Int) (o0 : Int) (hm : m_agenda_order_compare N l0 a1 l2 a3 l4 = some o0) : Spec Tryd.prog 19 [.slice (some qp0) qn1 qc2, .agg #[.int .i64 a1, .slice qp3 l2.length qc4], .agg #[.int .i64 a3, .slice qp5 l4.length qc6]] [.sli 1 R_i64 qp3 qc4 l2, .sli 1 R_i64 qp5 qc6 l4, tabF Tryd.prog "internal/strconv.uint64pow10" .u64 Lib.pow10Tab 0 pow10_g] [.own 3 1 R_i64 (.slice (some qp0) qn1 qc2) l0] (fun v Φr Hr => v = .int .i64 o0 ∧ Φr = [] ∧ Hr = [.own 3 1 R_i64 (.slice (some qp0) qn1 qc2) l0]) := by
 unfold m_agenda_order_compare at hm
 refine spec_of Tryd.func19 rfl Tryd.ntmps19 rfl (S := [_,_,_]) rfl (fun C => (wc_seq (wc_region (wB rfl (fun g4 => (wB rfl (fun g5 => (wP rfl (wl_nil (we_then (wc_keep [5,4,0] (S' := [_,_,_]) rfl (wc_seq ?_))))))))))))
 obtain ⟨v9, hc9, hm⟩ := bindO_some hm
 obtain ⟨v12, hc12, hm⟩ := bindO_some hm
 obtain ⟨v13, hc13, hm⟩ := bindO_some hm
 obtain ⟨v16, hc16, hm⟩ := bindO_some hm
 obtain ⟨v19, hc19, hm⟩ := bindO_some hm
 obtain ⟨v20, hc20, hm⟩ := bindO_some hm
 obtain ⟨v25, hc25, hm⟩ := bindO_some hm
 obtain ⟨v30, hc30, hm⟩ := bindO_some hm
 obtain ⟨v32, hc32, hm⟩ := bindO_some hm
 refine wc_draw [0,1,3,4,7,8,10,11,14,15,16,17,19,20,21,22] rfl rfl (fun hok => (xP hok 0 rfl (wx_loadH hok 1 0 0 rfl rfl rfl (freshS_eq rfl) rfl rfl rfl rfl (cs := [_,_]) rfl tS_33 tA_33 rfl rfl (xP hok 3 rfl (wx_loadH hok 4 1 0 rfl rfl rfl (freshS_eq rfl) rfl rfl rfl rfl (cs := [_,_]) rfl tS_33 tA_33 rfl rfl (wx_fieldAddr hok 7 rfl rfl rfl (freshS_eq rfl) rfl rfl rfl tF_33_1 (wx_loadH hok 8 0 1 rfl rfl rfl (freshS_eq rfl) rfl rfl rfl rfl (cs := [_]) rfl tS_22 tA_22 rfl rfl (wx_fieldAddr hok 10 rfl rfl rfl (freshS_eq rfl) rfl rfl rfl tF_33_1 (wx_loadH hok 11 1 1 rfl rfl rfl (freshS_eq rfl) rfl rfl rfl rfl (cs := [_]) rfl tS_22 tA_22 rfl rfl (wx_fieldAddr hok 14 rfl rfl rfl (freshS_eq rfl) rfl rfl rfl tF_33_0 (wx_loadH hok 15 1 0 rfl rfl rfl (freshS_eq rfl) rfl rfl rfl rfl (cs := [_]) rfl tS_3 tA_3 rfl rfl (wx_fieldAddr hok 16 rfl rfl rfl (freshS_eq rfl) rfl rfl rfl tF_33_0 (wx_loadH hok 17 0 0 rfl rfl rfl (freshS_eq rfl) rfl rfl rfl rfl (cs := [_]) rfl tS_3 tA_3 rfl rfl (wx_fieldAddr hok 19 rfl rfl rfl (freshS_eq rfl) rfl rfl rfl tF_33_1 ?_))))))))))))))
 refine wx_loadH hok 20 1 1 rfl rfl rfl (freshS_eq rfl) rfl rfl rfl rfl (cs := [_]) rfl tS_22 tA_22 rfl rfl (wx_fieldAddr hok 21 rfl rfl rfl (freshS_eq rfl) rfl rfl rfl tF_33_1 (wx_loadH hok 22 0 1 rfl rfl rfl (freshS_eq rfl) rfl rfl rfl rfl (cs := [_]) rfl tS_22 tA_22 rfl rfl (xS hok 2 rfl (wl_ownLen 2 rfl (fun hzqn1 _ => ?_)))))
 subst hzqn1
 refine wl_lend [] [0,1,2] [2] rfl rfl rfl (freshS_eq rfl) rfl rfl fn_29 rfl (w_agenda_order_of_s N (some qp0) qc2 l0 a3 qp5 qc6 l4 _ hc9) (fun F w hφ hh => (ask_cons (own_sli (hh _ (mem_at (k := 0) rfl))) (ask_cons (hφ _ (mem_at (k := 1) rfl)) (ask_cons (hφ _ (mem_at (k := 2) rfl)) ask_nil)))) (fun _ _ _ hR => by obtain ⟨rfl, rfl, rfl⟩ := hR; exact ⟨rfl, (fun _ h => free_nil h)⟩) rfl rfl (H' := [_,_,_]) rfl ?_
 rintro _ _ _ ⟨rfl, rfl, rfl⟩
 refine wl_nil (we_x [0,1,2] [0,1,0,1,1,0,1] rfl rfl (xS hok 5 rfl (wl_lend [] [0,1,2] [2] rfl rfl rfl (freshS_eq rfl) rfl rfl fn_29 rfl (w_agenda_order_of_s N (some qp0) qc2 l0 a1 qp3 qc4 l2 _ hc12) (fun F w hφ hh => (ask_cons (own_sli (hh _ (mem_at (k := 0) rfl))) (ask_cons (hφ _ (mem_at (k := 0) rfl)) (ask_cons (hφ _ (mem_at (k := 2) rfl)) ask_nil)))) (fun _ _ _ hR => by obtain ⟨rfl, rfl, rfl⟩ := hR; exact ⟨rfl, (fun _ h => free_nil h)⟩) rfl rfl (H' := [_,_,_]) rfl ?_)))
 rintro _ _ _ ⟨rfl, rfl, rfl⟩
 refine wl_nil (we_x [0,1,2] [0,1,0,1,1,0,0] rfl rfl (xS hok 6 rfl (wC [] [0,1,2] rfl fn_28 rfl (w_cmp_Compare_int_s N v9 v12 _ hc13) (asK [] rfl) rfl (H' := [_,_,_]) rfl ?_)))
 rintro _ _ _ ⟨rfl, rfl, rfl⟩
 refine wl_nil (we_x [0,1,2] [0,1,0,1,1,0,1,0] rfl rfl (xS hok 9 rfl (wC [] [0,1,2] rfl fn_31 rfl (w_agenda_falling_s N qp5 qc6 l4 _ hc16) (asK [1,2] rfl) rfl (H' := [_,_,_]) rfl ?_)))
 rintro _ _ _ ⟨p16_0, c16_1, rfl, rfl, rfl⟩
 refine wl_nil (we_x [0,1,2] [1,2,1,2,2,2,1] rfl rfl (xS hok 12 rfl (wC [] [0,1,2,3] rfl fn_31 rfl (w_agenda_falling_s N qp3 qc4 l2 _ hc19) (asK [0,2] rfl) rfl (H' := [_,_,_,_]) rfl ?_)))
 rintro _ _ _ ⟨p19_0, c19_1, rfl, rfl, rfl⟩
 refine wl_nil (we_x [0,1,2] [2,3,2,3,2,3,2] rfl rfl (xS hok 13 rfl (wl_ownLen 1 rfl (fun hz7 _ => (wl_at 1 (v' := .slice p16_0 v16.length c16_1) rfl (by first | rfl | rw [hz7]) (wl_hAs 1 (φ' := .own 3 1 R_i64 (.slice p16_0 v16.length c16_1) v16) rfl (by first | rfl | rw [hz7]) (H' := [_,_,_,_,_]) rfl (wl_ownLen 0 rfl (fun hz8 _ => (wl_at 0 (v' := .slice p19_0 v19.length c19_1) rfl (by first | rfl | rw [hz8]) (wl_hAs 0 (φ' := .own 3 1 R_i64 (.slice p19_0 v19.length c19_1) v19) rfl (by first | rfl | rw [hz8]) (H' := [_,_,_,_,_]) rfl (wl_lend [] [0,1,2,3,4] [1,0] rfl rfl rfl (freshS_eq rfl) rfl rfl fn_30 rfl (w_slices_Compare_int_s N p16_0 c16_1 v16 p19_0 c19_1 v19 _ hc20) (fun F w hφ hh => (ask_cons (own_sli (hh _ (mem_at (k := 0) rfl))) (ask_cons (own_sli (hh _ (mem_at (k := 1) rfl))) (ask_cons (hφ _ (mem_at (k := 2) rfl)) ask_nil)))) (fun _ _ _ hR => by obtain ⟨rfl, rfl, rfl⟩ := hR; exact ⟨rfl, (fun _ h => free_nil h)⟩) rfl rfl (H' := [_,_,_,_,_]) rfl ?_)))))))))))
 rintro _ _ _ ⟨rfl, rfl, rfl⟩
 refine wl_nil (we_x [0,1,2] [2,3,2,3,3,2,3,2] rfl rfl (xS hok 18 rfl (wC [] [0,1,2,3,4] rfl fn_28 rfl (w_cmp_Compare_int_s N a1 a3 _ hc25) (asK [] rfl) rfl (H' := [_,_,_,_,_]) rfl ?_)))
 rintro _ _ _ ⟨rfl, rfl, rfl⟩
 refine wl_nil (we_x [0,1,2] [2,3,3,2,3,2] rfl rfl (xS hok 23 rfl (wC [] [0,1,2,3,4] rfl fn_30 rfl (w_slices_Compare_int_s N qp3 qc4 l2 qp5 qc6 l4 _ hc30) (asK [0,1,2] rfl) rfl (H' := [_,_,_,_,_]) rfl ?_)))
 rintro _ _ _ ⟨rfl, rfl, rfl⟩
 refine wl_nil (we_x [0,1,2] [2,3,3,2,3,2] rfl rfl (xS hok 24 rfl (wl_buildSlice rfl rfl rfl (freshS_eq rfl) rfl tE_22 tS_3 tZ_3 rfl (zs := [.int .i64 0, .int .i64 0, .int .i64 0, .int .i64 0]) (by kernel_rfl) rfl (out := [_,_,_,_]) rfl (fun g31 => (wl_nil (we_x [0,1,2] [3,4,3,4,4,3,4,3] rfl rfl (xS hok 25 rfl (wl_row (sz := 1) (m := 4) R_i64 ([v13, v20, v25, v30]) 0 rfl (fun F w hφ => ⟨[.int .i64 v13],[.int .i64 v20, .int .i64 v25, .int .i64 v30], rfl, rfl, ⟨(), rfl, ask_nil⟩, ⟨[.int .i64 v20],[.int .i64 v25, .int .i64 v30], rfl, rfl, ⟨(), rfl, ask_nil⟩, ⟨[.int .i64 v25],[.int .i64 v30], rfl, rfl, ⟨(), rfl, ask_nil⟩, ⟨[.int .i64 v30],[], rfl, rfl, ⟨(), rfl, ask_nil⟩, rfl⟩⟩⟩⟩) rfl (by decide) (H' := [_,_,_,_,_,_]) rfl (wl_lend [] [0,1,2,3,4,5] [0] rfl rfl rfl (freshS_eq rfl) rfl rfl fn_27 rfl (w_cmp_Or_int_s N (some ⟨g31,0, none⟩) 4 [v13, v20, v25, v30] _ hc32) (fun F w hφ hh => (ask_cons (own_sli (hh _ (mem_at (k := 0) rfl))) (ask_cons (hφ _ (mem_at (k := 2) rfl)) ask_nil))) (fun _ _ _ hR => by obtain ⟨rfl, rfl, rfl⟩ := hR; exact ⟨rfl, (fun _ h => free_nil h)⟩) rfl rfl (H' := [_,_,_,_,_,_]) rfl ?_)))))))))
 rintro _ _ _ ⟨rfl, rfl, rfl⟩
 refine wl_nil (we_x [0,1,2] [3,4,3,4,4,3,4,3] rfl rfl (xS hok 26 rfl (wP rfl (wl_nil (we_x [0,1,2] [] rfl rfl (wx_done hok rfl (we_then (wc_keep [6] (S' := [_]) rfl (wc_ret ?_)))))))))
 have hE := (Option.some.inj hm).symm
 replace hE := hE.symm
 subst hE
 refine ret_one (Hr := [_]) [5] Tryd.results19 (res_tmp rfl) ⟨rfl, rfl, rfl⟩ (asK [] rfl) rfl rfl (.inl rfl)
theorem w_slices_order2CmpFunc_Token_s (N : Nat) (qp0 : Option Addr) (qc1 : Nat) (l0 : List Api_TokenD) (a1 : Int) (a2 : Int) (qg2 : Nat) (a3 : Int) (qp3 : Addr) (qn4 : Nat) (qc5 : Nat) (l4 : List Int) (o0 : Int) (o1 : Int) (o2 : Int) (hm : m_slices_order2CmpFunc_Token N l0 a1 a2 a3 l4 = some (o0, o1, o2)) : Spec Tryd.prog 69 [.slice qp0 l0.length qc1, .int .i64 a1, .int .i64 a2, .pointer (some ⟨qg2,0, none⟩), .func (.func 19) #[.slice (some qp3) qn4 qc5] #[]] [.sli 2 R_Api_TokenD qp0 qc1 l0, tabF Tryd.prog "internal/strconv.uint64pow10" .u64 Lib.pow10Tab 0 pow10_g] [.blk qg2 [.int .i64 a3] 3, .own 3 1 R_i64 (.slice (some qp3) qn4 qc5) l4] (fun v Φr Hr => v = .tuple #[.int .i64 o0, .int .i64 o1] ∧ Φr = [] ∧ Hr = [.blk qg2 [.int .i64 o2] 3, .own 3 1 R_i64 (.slice (some qp3) qn4 qc5) l4]) := by
 unfold m_slices_order2CmpFunc_Token at hm
 refine spec_of Tryd.func69 rfl Tryd.ntmps69 rfl (S := [_,_,_,_,_]) rfl (fun C => (wc_seq (wc_region (wP rfl (wP rfl (wl_nil (we_then (wc_keep [0,1,2,3,4] (S' := [_,_,_,_,_]) rfl (wc_seq (wc_seq ?_))))))))))
 obtain ⟨hn15, hm⟩ := gd_some hm
 obtain ⟨x15, hx15, hm⟩ := bindO_some hm
 obtain ⟨hn19, hm⟩ := gd_some hm
 obtain ⟨x19, hx19, hm⟩ := bindO_some hm
 obtain ⟨v21, hc21, hm⟩ := bindO_some hm
 refine wc_draw [0,1,2,3,4,5,6,7,8,10] rfl rfl (fun hok => (xP hok 0 rfl (xP hok 1 rfl (xP hok 2 rfl (wx_indexA hok 3 0 a2.toNat rfl rfl rfl (freshS_eq rfl) rfl rfl rfl rfl rfl (toNat_eq hn15) hx15 tE_23 tS_33 (fun b15 q15 cs15 hlx15 => (wx_openR R_Api_TokenD_opens 1 rfl (fun r15 er15 _ => ?_))))))))
 subst er15
 refine wx_load hok 4 1 0 rfl rfl rfl (freshS_eq rfl) rfl rfl rfl rfl (cs := [_,_]) rfl tS_33 tA_33 rfl rfl (xP hok 5 rfl (xP hok 6 rfl (wx_indexA hok 7 3 a1.toNat rfl rfl rfl (freshS_eq rfl) rfl rfl rfl rfl rfl (toNat_eq hn19) hx19 tE_23 tS_33 (fun b19 q19 cs19 hlx19 => (wx_openR R_Api_TokenD_opens 1 rfl (fun r19 er19 _ => ?_))))))
 subst er19
 refine wx_load hok 8 1 0 rfl rfl rfl (freshS_eq rfl) rfl rfl rfl rfl (cs := [_,_]) rfl tS_33 tA_33 rfl rfl (xS hok 9 rfl (wl_callDynF (args := [.slice (some qp3) qn4 qc5, .agg #[.int .i64 (x15.rule), .slice r15.1 x15.ids.length r15.2], .agg #[.int .i64 (x19.rule), .slice r19.1 x19.ids.length r19.2]]) [1] [0] rfl rfl rfl (freshS_eq rfl) rfl rfl rfl fn_19 rfl rfl (w_agenda_order_compare_v2_s N qp3 qn4 qc5 l4 x15.rule r15.1 r15.2 x15.ids x19.rule r19.1 r19.2 x19.ids _ hc21) (asK [3,0,7] rfl) rfl (H' := [_]) rfl ?_))
 rintro _ _ _ ⟨rfl, rfl, rfl⟩
 refine wl_nil (we_x [0,1,2,3,4,5,6,7] [] rfl rfl (xP hok 10 rfl (wx_done hok rfl (we_then (wc_keep [22,1,2,3] (S' := [_,_,_,_]) rfl ?_)))))
 refine wc_cond rfl (fun hb22 => ?_) (fun hb22 => ?_)
 ·
  replace hm := iteT hm hb22
  refine wc_keep [1,2,3] (S' := [_,_,_]) rfl (wc_seq (wc_region (wP rfl (wP rfl (wD 1 0 rfl tS_3 tA_3 rfl (wP rfl ?_))))))
  obtain ⟨hg26, hm⟩ := gd_some hm
  refine wl_as (d := 26) (v' := .int .i64 (a3 + 1)) (S' := [_,_,_,_,_,_]) rfl rfl (i64_in hg26) (wP rfl (wS 1 0 rfl tS_3 (all' := [_]) rfl (H' := [_,_]) rfl (wl_nil (we_then (wc_keep [1,2] (S' := [_,_]) rfl (wc_seq (wc_region (wP rfl (wP rfl (wP rfl (wP rfl (wl_nil (we_then ?_)))))))))))))
  refine wc_keep [11,10] (S' := [_,_]) rfl (wc_ret (we_then_ret ?_))
  have hE := (Option.some.inj hm).symm
  obtain ⟨hE0, hF1⟩ := Prod.mk.inj hE
  obtain ⟨hE1, hE2⟩ := Prod.mk.inj hF1
  clear hE hF1
  replace hE0 := hE0.symm
  subst hE0
  replace hE1 := hE1.symm
  subst hE1
  replace hE2 := hE2.symm
  subst hE2
  refine ret_two (Hr := [_,_]) [1,0] Tryd.results69 (res_tmp rfl) (res_tmp rfl) ⟨rfl, rfl, rfl⟩ (asK [] rfl) rfl rfl (.inl rfl)
 ·
  replace hm := iteF hm hb22
  refine wc_keep [1,2] (S' := [_,_]) rfl (wc_skip (we_then (wc_seq (wc_region (wP rfl (wP rfl (wP rfl (wP rfl (wl_nil (we_then (wc_keep [11,10] (S' := [_,_]) rfl (wc_ret ?_))))))))))))
  have hE := (Option.some.inj hm).symm
  obtain ⟨hE0, hF1⟩ := Prod.mk.inj hE
  obtain ⟨hE1, hE2⟩ := Prod.mk.inj hF1
  clear hE hF1
  replace hE0 := hE0.symm
  subst hE0
  replace hE1 := hE1.symm
  subst hE1
  replace hE2 := hE2.symm
  subst hE2
  refine ret_two (Hr := [_,_]) [1,0] Tryd.results69 (res_tmp rfl) (res_tmp rfl) ⟨rfl, rfl, rfl⟩ (asK [] rfl) rfl rfl (.inl rfl)
theorem w_slices_medianCmpFunc_Token_s (N : Nat) (qp0 : Option Addr) (qc1 : Nat) (l0 : List Api_TokenD) (a1 : Int) (a2 : Int) (a3 : Int) (qg2 : Nat) (a4 : Int) (qp3 : Addr) (qn4 : Nat) (qc5 : Nat) (l5 : List Int) (o0 : Int) (o1 : Int) (hm : m_slices_medianCmpFunc_Token N l0 a1 a2 a3 a4 l5 = some (o0, o1)) : Spec Tryd.prog 56 [.slice qp0 l0.length qc1, .int .i64 a1, .int .i64 a2, .int .i64 a3, .pointer (some ⟨qg2,0, none⟩), .func (.func 19) #[.slice (some qp3) qn4 qc5] #[]] [.sli 2 R_Api_TokenD qp0 qc1 l0, tabF Tryd.prog "internal/strconv.uint64pow10" .u64 Lib.pow10Tab 0 pow10_g] [.blk qg2 [.int .i64 a4] 3, .own 3 1 R_i64 (.slice (some qp3) qn4 qc5) l5] (fun v Φr Hr => v = .int .i64 o0 ∧ Φr = [] ∧ Hr = [.blk qg2 [.int .i64 o1] 3, .own 3 1 R_i64 (.slice (some qp3) qn4 qc5) l5]) := by
 unfold m_slices_medianCmpFunc_Token at hm
 refine spec_of Tryd.func56 rfl Tryd.ntmps56 rfl (S := [_,_,_,_,_,_]) rfl (fun C => (wc_seq (wc_region (wP rfl (wl_nil (we_then (wc_keep [0,1,2,3,4,5] (S' := [_,_,_,_,_,_]) rfl (wc_seq (wc_region (wP rfl (wP rfl (wP rfl (wP rfl (wP rfl ?_))))))))))))))
 obtain ⟨⟨v19_0, v19_1, v19_2⟩, hc19, hm⟩ := bindO_some hm
 try dsimp only at hm
 refine wC [0,1] [] rfl fn_69 rfl (w_slices_order2CmpFunc_Token_s N qp0 qc1 l0 a1 a2 qg2 a4 qp3 qn4 qc5 l5 _ _ _ hc19) (asK [0,1] rfl) rfl (H' := []) rfl ?_
 rintro _ _ _ ⟨rfl, rfl, rfl⟩
 refine wP rfl (wP rfl (wP rfl (wl_pure (S' := [_,_,_,_,_,_,_,_,_,_,_,_,_,_]) rfl rfl rfl rfl rfl (wl_pure (S' := [_,_,_,_,_,_,_,_,_,_,_,_,_,_]) rfl rfl rfl rfl rfl (wl_nil (we_then (wc_keep [2,1,0,3,4,5] (S' := [_,_,_,_,_,_]) rfl (wc_seq (wc_region (wP rfl (wP rfl (wP rfl (wP rfl ?_)))))))))))))
 refine wP rfl ?_
 obtain ⟨⟨v28_0, v28_1, v28_2⟩, hc28, hm⟩ := bindO_some hm
 try dsimp only at hm
 refine wC [0,1] [] rfl fn_69 rfl (w_slices_order2CmpFunc_Token_s N qp0 qc1 l0 v19_1 a3 qg2 v19_2 qp3 qn4 qc5 l5 _ _ _ hc28) (asK [0,1] rfl) rfl (H' := []) rfl ?_
 rintro _ _ _ ⟨rfl, rfl, rfl⟩
 refine wP rfl (wP rfl (wP rfl (wl_pure (S' := [_,_,_,_,_,_,_,_,_,_,_,_,_,_]) rfl rfl rfl rfl rfl (wl_pure (S' := [_,_,_,_,_,_,_,_,_,_,_,_,_,_]) rfl rfl rfl rfl rfl (wl_nil (we_then (wc_keep [2,1,0,4,5] (S' := [_,_,_,_,_]) rfl (wc_seq (wc_region (wP rfl (wP rfl (wP rfl (wP rfl ?_)))))))))))))
 refine wP rfl ?_
 obtain ⟨⟨v37_0, v37_1, v37_2⟩, hc37, hm⟩ := bindO_some hm
 try dsimp only at hm
 refine wC [0,1] [] rfl fn_69 rfl (w_slices_order2CmpFunc_Token_s N qp0 qc1 l0 v19_0 v28_0 qg2 v28_2 qp3 qn4 qc5 l5 _ _ _ hc37) (asK [0,1] rfl) rfl (H' := []) rfl ?_
 rintro _ _ _ ⟨rfl, rfl, rfl⟩
 refine wP rfl (wP rfl (wP rfl (wl_pure (S' := [_,_,_,_,_,_,_,_,_,_,_,_,_]) rfl rfl rfl rfl rfl (wl_pure (S' := [_,_,_,_,_,_,_,_,_,_,_,_,_]) rfl rfl rfl rfl rfl (wl_nil (we_then (wc_keep [2] (S' := [_]) rfl (wc_seq (wc_region (wP rfl (wP rfl (wl_nil (we_then ?_)))))))))))))
 refine wc_keep [12] (S' := [_]) rfl (wc_ret ?_)
 have hE := (Option.some.inj hm).symm
 obtain ⟨hE0, hE1⟩ := Prod.mk.inj hE
 clear hE
 replace hE0 := hE0.symm
 subst hE0
 replace hE1 := hE1.symm
 subst hE1
 refine ret_one (Hr := [_,_]) [0,1] Tryd.results56 (res_tmp rfl) ⟨rfl, rfl, rfl⟩ (asK [] rfl) rfl rfl (.inl rfl)
theorem w_slices_medianAdjacentCmpFunc_Token_s (N : Nat) (qp0 : Option Addr) (qc1 : Nat) (l0 : List Api_TokenD) (a1 : Int) (qg2 : Nat) (a2 : Int) (qp3 : Addr) (qn4 : Nat) (qc5 : Nat) (l3 : List Int) (o0 : Int) (o1 : Int) (hm : m_slices_medianAdjacentCmpFunc_Token N l0 a1 a2 l3 = some (o0, o1)) : Spec Tryd.prog 55 [.slice qp0 l0.length qc1, .int .i64 a1, .pointer (some ⟨qg2,0, none⟩), .func (.func 19) #[.slice (some qp3) qn4 qc5] #[]] [.sli 2 R_Api_TokenD qp0 qc1 l0, tabF Tryd.prog "internal/strconv.uint64pow10" .u64 Lib.pow10Tab 0 pow10_g] [.blk qg2 [.int .i64 a2] 3, .own 3 1 R_i64 (.slice (some qp3) qn4 qc5) l3] (fun v Φr Hr => v = .int .i64 o0 ∧ Φr = [] ∧ Hr = [.blk qg2 [.int .i64 o1] 3, .own 3 1 R_i64 (.slice (some qp3) qn4 qc5) l3]) := by
 unfold m_slices_medianAdjacentCmpFunc_Token at hm
 refine spec_of Tryd.func55 rfl Tryd.ntmps55 rfl (S := [_,_,_,_]) rfl (fun C => (wc_seq (wc_region (wP rfl (wl_nil (we_then (wc_keep [0,1,2,3] (S' := [_,_,_,_]) rfl (wc_seq (wc_region (wP rfl (wP rfl (wP rfl ?_))))))))))))
 obtain ⟨hg11, hm⟩ := gd_some hm
 refine wl_as (d := 11) (v' := .int .i64 (a1 - 1)) (S' := [_,_,_,_,_,_]) rfl rfl (i64_in hg11) (wP rfl (wP rfl (wP rfl ?_)))
 obtain ⟨hg14, hm⟩ := gd_some hm
 refine wl_as (d := 14) (v' := .int .i64 (a1 + 1)) (S' := [_,_,_,_,_,_,_,_,_]) rfl rfl (i64_in hg14) (wP rfl (wP rfl ?_))
 obtain ⟨⟨v17_0, v17_1⟩, hc17, hm⟩ := bindO_some hm
 try dsimp only at hm
 refine wC [0,1] [] rfl fn_56 rfl (w_slices_medianCmpFunc_Token_s N qp0 qc1 l0 (a1 - 1) a1 (a1 + 1) qg2 a2 qp3 qn4 qc5 l3 _ _ hc17) (asK [0,1] rfl) rfl (H' := []) rfl ?_
 rintro _ _ _ ⟨rfl, rfl, rfl⟩
 refine wP rfl (wl_nil (we_then (wc_keep [8] (S' := [_]) rfl (wc_ret ?_))))
 have hE := (Option.some.inj hm).symm
 obtain ⟨hE0, hE1⟩ := Prod.mk.inj hE
 clear hE
 replace hE0 := hE0.symm
 subst hE0
 replace hE1 := hE1.symm
 subst hE1
 refine ret_one (Hr := [_,_]) [0,1] Tryd.results55 (res_tmp rfl) ⟨rfl, rfl, rfl⟩ (asK [] rfl) rfl rfl (.inl rfl)
theorem w_slices_choosePivotCmpFunc_Token_s (N : Nat) (qp0 : Option Addr) (qc1 : Nat) (l0 : List Api_TokenD) (a1 : Int) (a2 : Int) (qp2 : Addr) (qn3 : Nat) (qc4 : Nat) (l3 : List Int) (o0 : Int) (o1 : Nat) (hm : m_slices_choosePivotCmpFunc_Token N l0 a1 a2 l3 = some (o0, o1)) : Spec Tryd.prog 43 [.slice qp0 l0.length qc1, .int .i64 a1, .int .i64 a2, .func (.func 19) #[.slice (some qp2) qn3 qc4] #[]] [.sli 2 R_Api_TokenD qp0 qc1 l0, tabF Tryd.prog "internal/strconv.uint64pow10" .u64 Lib.pow10Tab 0 pow10_g] [.own 3 1 R_i64 (.slice (some qp2) qn3 qc4) l3] (fun v Φr Hr => v = .tuple #[.int .i64 o0, .int .i64 ((o1 : Nat) : Int)] ∧ Φr = [] ∧ Hr = [.own 3 1 R_i64 (.slice (some qp2) qn3 qc4) l3]) := by
 unfold m_slices_choosePivotCmpFunc_Token at hm
 refine spec_of Tryd.func43 rfl Tryd.ntmps43 rfl (S := [_,_,_,_]) rfl (fun C => (wc_seq (wc_region (wP rfl (wP rfl (wl_nil (we_then (wc_keep [0,1,2,3] (S' := [_,_,_,_]) rfl (wc_seq (wc_region (wP rfl (wP rfl (wP rfl ?_)))))))))))))
 obtain ⟨hg17, hm⟩ := gd_some hm
 refine wl_as (d := 17) (v' := .int .i64 (a2 - a1)) (S' := [_,_,_,_,_,_]) rfl rfl (i64_in hg17) (wP rfl (wl_nil (we_then (wc_keep [10,0,1,3] (S' := [_,_,_,_]) rfl (wc_seq (wc_region (wl_alloc rfl rfl rfl (freshS_eq rfl) rfl tZ_3 rfl (fun g11 => (wl_nil (we_then (wc_seq (wc_region (wP rfl (wP rfl ?_))))))))))))))
 refine wl_bin rfl rfl rfl (freshS_eq rfl) rfl rfl rfl (run_quo (by decide)) (wP rfl ?_)
 obtain ⟨hg21, hm⟩ := gd_some hm
 refine wl_as (d := 21) (v' := .int .i64 ((IntKind.wrap .i64 (Int.tdiv (a2 - a1) 4)) * 1)) (S' := [_,_,_,_,_,_,_,_]) rfl rfl (i64_in hg21) (wP rfl ?_)
 obtain ⟨hg22, hm⟩ := gd_some hm
 refine wl_as (d := 22) (v' := .int .i64 (a1 + ((IntKind.wrap .i64 (Int.tdiv (a2 - a1) 4)) * 1))) (S' := [_,_,_,_,_,_,_,_,_]) rfl rfl (i64_in hg22) (wP rfl (wl_nil (we_then (wc_keep [12,11,10,0,1,3] (S' := [_,_,_,_,_,_]) rfl (wc_seq (wc_region (wP rfl (wP rfl (wl_bin rfl rfl rfl (freshS_eq rfl) rfl rfl rfl (run_quo (by decide)) (wP rfl ?_))))))))))
 obtain ⟨hg26, hm⟩ := gd_some hm
 refine wl_as (d := 26) (v' := .int .i64 ((IntKind.wrap .i64 (Int.tdiv (a2 - a1) 4)) * 2)) (S' := [_,_,_,_,_,_,_,_,_]) rfl rfl (i64_in hg26) (wP rfl ?_)
 obtain ⟨hg27, hm⟩ := gd_some hm
 refine wl_as (d := 27) (v' := .int .i64 (a1 + ((IntKind.wrap .i64 (Int.tdiv (a2 - a1) 4)) * 2))) (S' := [_,_,_,_,_,_,_,_,_,_]) rfl rfl (i64_in hg27) (wP rfl (wl_nil (we_then (wc_keep [13,12,11,10,0,1,3] (S' := [_,_,_,_,_,_,_]) rfl (wc_seq (wc_region (wP rfl (wP rfl (wl_bin rfl rfl rfl (freshS_eq rfl) rfl rfl rfl (run_quo (by decide)) (wP rfl ?_))))))))))
 obtain ⟨hg31, hm⟩ := gd_some hm
 refine wl_as (d := 31) (v' := .int .i64 ((IntKind.wrap .i64 (Int.tdiv (a2 - a1) 4)) * 3)) (S' := [_,_,_,_,_,_,_,_,_,_]) rfl rfl (i64_in hg31) (wP rfl ?_)
 obtain ⟨hg32, hm⟩ := gd_some hm
 refine wl_as (d := 32) (v' := .int .i64 (a1 + ((IntKind.wrap .i64 (Int.tdiv (a2 - a1) 4)) * 3))) (S' := [_,_,_,_,_,_,_,_,_,_,_]) rfl rfl (i64_in hg32) (wP rfl (wl_nil (we_then (wc_keep [14,13,12,11,10,0,3] (S' := [_,_,_,_,_,_,_]) rfl (wc_seq ?_)))))
 obtain ⟨bj_1, hm, hLj_1⟩ := bindO_some hm
 unfold m_slices_choosePivotCmpFunc_Token_C1 at hm
 refine wc_cut (σ := Int × Int) (fun (j_1_13, j_1_11_f0) => bj_1 = (j_1_13, j_1_11_f0)) (fun (j_1_13, j_1_11_f0) => [(13, .int .i64 j_1_13), (11, .pointer (some ⟨g11,0, none⟩))]) (fun (j_1_13, j_1_11_f0) => [tabF Tryd.prog "internal/strconv.uint64pow10" .u64 Lib.pow10Tab 0 pow10_g]) (fun (j_1_13, j_1_11_f0) => [.blk g11 [.int .i64 j_1_11_f0] 3, .own 3 1 R_i64 (.slice (some qp2) qn3 qc4) l3]) ?_ ?_
 ·
  refine wc_seq (wc_region (wP rfl (wP rfl (wl_nil (we_then (wc_keep [34,14,13,12,11,10,0,3] (S' := [_,_,_,_,_,_,_,_]) rfl ?_))))))
  refine wc_cond rfl (fun hb34 => ?_) (fun hb34 => ?_)
  ·
   replace hm := iteT hm hb34
   refine wc_keep [14,13,12,11,10,0,3] (S' := [_,_,_,_,_,_,_]) rfl (wc_seq ?_)
   obtain ⟨bj_2, hm, hLj_2⟩ := bindO_some hm
   refine wc_cut (σ := Int × Int × Int × Int) (fun (j_2_14, j_2_13, j_2_12, j_2_11_f0) => bj_2 = (j_2_14, j_2_13, j_2_12, j_2_11_f0)) (fun (j_2_14, j_2_13, j_2_12, j_2_11_f0) => [(14, .int .i64 j_2_14), (13, .int .i64 j_2_13), (12, .int .i64 j_2_12), (11, .pointer (some ⟨g11,0, none⟩)), (0, .slice qp0 l0.length qc1), (3, .func (.func 19) #[.slice (some qp2) qn3 qc4] #[])]) (fun (j_2_14, j_2_13, j_2_12, j_2_11_f0) => [.sli 2 R_Api_TokenD qp0 qc1 l0, tabF Tryd.prog "internal/strconv.uint64pow10" .u64 Lib.pow10Tab 0 pow10_g]) (fun (j_2_14, j_2_13, j_2_12, j_2_11_f0) => [.blk g11 [.int .i64 j_2_11_f0] 3, .own 3 1 R_i64 (.slice (some qp2) qn3 qc4) l3]) ?_ ?_
   ·
    refine wc_seq (wc_region (wP rfl (wP rfl (wl_nil (we_then (wc_keep [36,14,13,12,11,0,3] (S' := [_,_,_,_,_,_,_]) rfl ?_))))))
    refine wc_cond rfl (fun hb36 => ?_) (fun hb36 => ?_)
    ·
     replace hm := iteT hm hb36
     refine wc_keep [14,13,12,11,0,3] (S' := [_,_,_,_,_,_]) rfl (wc_seq (wc_region (wP rfl (wP rfl (wP rfl ?_)))))
     obtain ⟨⟨v40_0, v40_1⟩, hc40, hm⟩ := bindO_some hm
     try dsimp only at hm
     refine wC [0,1] [] rfl fn_55 rfl (w_slices_medianAdjacentCmpFunc_Token_s N qp0 qc1 l0 (a1 + ((IntKind.wrap .i64 (Int.tdiv (a2 - a1) 4)) * 1)) g11 0 qp2 qn3 qc4 l3 _ _ hc40) (asK [0,1] rfl) rfl (H' := []) rfl ?_
     rintro _ _ _ ⟨rfl, rfl, rfl⟩
     refine wl_pure (S' := [_,_,_,_,_,_,_,_,_]) rfl rfl rfl rfl rfl (wl_nil (we_then (wc_keep [12,14,13,11,0,3] (S' := [_,_,_,_,_,_]) rfl (wc_seq (wc_region (wP rfl (wP rfl (wP rfl ?_))))))))
     obtain ⟨⟨v44_0, v44_1⟩, hc44, hm⟩ := bindO_some hm
     try dsimp only at hm
     refine wC [0,1] [] rfl fn_55 rfl (w_slices_medianAdjacentCmpFunc_Token_s N qp0 qc1 l0 (a1 + ((IntKind.wrap .i64 (Int.tdiv (a2 - a1) 4)) * 2)) g11 v40_1 qp2 qn3 qc4 l3 _ _ hc44) (asK [0,1] rfl) rfl (H' := []) rfl ?_
     rintro _ _ _ ⟨rfl, rfl, rfl⟩
     refine wl_pure (S' := [_,_,_,_,_,_,_,_,_]) rfl rfl rfl rfl rfl (wl_nil (we_then (wc_keep [13,12,14,11,0,3] (S' := [_,_,_,_,_,_]) rfl (wc_region (wP rfl (wP rfl (wP rfl ?_)))))))
     obtain ⟨⟨v48_0, v48_1⟩, hc48, hm⟩ := bindO_some hm
     try dsimp only at hm
     refine wC [0,1] [] rfl fn_55 rfl (w_slices_medianAdjacentCmpFunc_Token_s N qp0 qc1 l0 (a1 + ((IntKind.wrap .i64 (Int.tdiv (a2 - a1) 4)) * 3)) g11 v44_1 qp2 qn3 qc4 l3 _ _ hc48) (asK [0,1] rfl) rfl (H' := []) rfl ?_
     rintro _ _ _ ⟨rfl, rfl, rfl⟩
     refine wl_pure (S' := [_,_,_,_,_,_,_,_,_]) rfl rfl rfl rfl rfl (wl_nil ?_)
     have hE := (Option.some.inj hm).symm
     refine we_join (v48_0, v44_0, v40_0, v48_1) hE [14,13,12,11,0,3] rfl (asK [0,1] rfl) rfl
    ·
     replace hm := iteF hm hb36
     refine wc_keep [14,13,12,11,0,3] (S' := [_,_,_,_,_,_]) rfl (wc_skip ?_)
     have hE := (Option.some.inj hm).symm
     refine we_join (a1 + ((IntKind.wrap .i64 (Int.tdiv (a2 - a1) 4)) * 3), a1 + ((IntKind.wrap .i64 (Int.tdiv (a2 - a1) 4)) * 2), a1 + ((IntKind.wrap .i64 (Int.tdiv (a2 - a1) 4)) * 1), 0) hE [14,13,12,11,0,3] rfl (asK [0,1] rfl) rfl
   ·
    rintro ⟨j_2_14, j_2_13, j_2_12, j_2_11_f0⟩ hE
    try dsimp only
    have hm := hLj_2
    rw [hE] at hm
    try dsimp only at hm
    refine wc_region (wP rfl (wP rfl (wP rfl (wP rfl (wP rfl ?_)))))
    obtain ⟨⟨v54_0, v54_1⟩, hc54, hm⟩ := bindO_some hm
    try dsimp only at hm
    refine wC [0,1] [] rfl fn_56 rfl (w_slices_medianCmpFunc_Token_s N qp0 qc1 l0 j_2_12 j_2_13 j_2_14 g11 j_2_11_f0 qp2 qn3 qc4 l3 _ _ hc54) (asK [0,1] rfl) rfl (H' := []) rfl ?_
    rintro _ _ _ ⟨rfl, rfl, rfl⟩
    refine wl_pure (S' := [_,_,_,_,_,_,_,_,_,_,_]) rfl rfl rfl rfl rfl (wl_nil ?_)
    have hE := (Option.some.inj hm).symm
    refine we_join (v54_0, v54_1) hE [13,11] rfl (asK [1] rfl) rfl
  ·
   replace hm := iteF hm hb34
   refine wc_keep [13,11] (S' := [_,_]) rfl (wc_skip ?_)
   have hE := (Option.some.inj hm).symm
   refine we_join (a1 + ((IntKind.wrap .i64 (Int.tdiv (a2 - a1) 4)) * 2), 0) hE [13,11] rfl (asK [1] rfl) rfl
 ·
  rintro ⟨j_1_13, j_1_11_f0⟩ hE
  try dsimp only
  have hm := hLj_1
  rw [hE] at hm
  try dsimp only at hm
  refine wc_seq (wc_region (wD 0 0 rfl tS_3 tA_3 rfl (wl_nil (we_then (wc_keep [55,13] (S' := [_,_]) rfl (wc_block (wc_seq (wc_region (wP rfl (wP rfl (wl_nil (we_then (wc_keep [57,55,13] (S' := [_,_,_]) rfl ?_)))))))))))))
  refine wc_cond rfl (fun hb57 => ?_) (fun hb57 => ?_)
  ·
   replace hm := iteT hm hb57
   refine wc_keep [13] (S' := [_]) rfl (wc_seq (wc_region (wP rfl (wP rfl (wP rfl (wl_nil (we_then (wc_keep [9,8] (S' := [_,_]) rfl (wc_ret (we_block_ret ?_))))))))))
   have hE := (Option.some.inj hm).symm
   obtain ⟨hE0, hE1⟩ := Prod.mk.inj hE
   clear hE
   replace hE0 := hE0.symm
   subst hE0
   replace hE1 := hE1.symm
   subst hE1
   refine ret_two (Hr := [_]) [1] Tryd.results43 (res_tmp rfl) (res_tmp rfl) ⟨rfl, rfl, rfl⟩ (asK [] rfl) rfl rfl (.inl rfl)
  ·
   replace hm := iteF hm hb57
   refine wc_keep [55,13] (S' := [_,_]) rfl (wc_seq (wc_region (wP rfl (wP rfl (wl_nil (we_then (wc_keep [60,13] (S' := [_,_]) rfl ?_)))))))
   refine wc_cond rfl (fun hb60 => ?_) (fun hb60 => ?_)
   ·
    replace hm := iteT hm hb60
    refine wc_keep [13] (S' := [_]) rfl (wc_seq (wc_region (wP rfl (wP rfl (wP rfl (wl_nil (we_then (wc_keep [9,8] (S' := [_,_]) rfl (wc_ret (we_block_ret ?_))))))))))
    have hE := (Option.some.inj hm).symm
    obtain ⟨hE0, hE1⟩ := Prod.mk.inj hE
    clear hE
    replace hE0 := hE0.symm
    subst hE0
    replace hE1 := hE1.symm
    subst hE1
    refine ret_two (Hr := [_]) [1] Tryd.results43 (res_tmp rfl) (res_tmp rfl) ⟨rfl, rfl, rfl⟩ (asK [] rfl) rfl rfl (.inl rfl)
   ·
    replace hm := iteF hm hb60
    refine wc_keep [13] (S' := [_]) rfl (wc_seq (wc_region (wP rfl (wP rfl (wP rfl (wl_nil (we_then (wc_keep [9,8] (S' := [_,_]) rfl (wc_ret (we_block_ret ?_))))))))))
    have hE := (Option.some.inj hm).symm
    obtain ⟨hE0, hE1⟩ := Prod.mk.inj hE
    clear hE
    replace hE0 := hE0.symm
    subst hE0
    replace hE1 := hE1.symm
    subst hE1
    refine ret_two (Hr := [_]) [1] Tryd.results43 (res_tmp rfl) (res_tmp rfl) ⟨rfl, rfl, rfl⟩ (asK [] rfl) rfl rfl (.inl rfl)
theorem w_slices_insertionSortCmpFunc_Token_v2_s (N : Nat) (qp0 : Option Addr) (qn1 : Nat) (qc2 : Nat) (l0 : List Api_TokenD) (a1 : Int) (a2 : Int) (qp3 : Addr) (qn4 : Nat) (qc5 : Nat) (l3 : List Int) (o0 : List Api_TokenD) (hm : m_slices_insertionSortCmpFunc_Token_v2 N l0 a1 a2 l3 = some o0) : Spec Tryd.prog 40 [.slice qp0 qn1 qc2, .int .i64 a1, .int .i64 a2, .func (.func 19) #[.slice (some qp3) qn4 qc5] #[]] [tabF Tryd.prog "internal/strconv.uint64pow10" .u64 Lib.pow10Tab 0 pow10_g] [.own 33 2 R_Api_TokenD (.slice qp0 qn1 qc2) l0, .own 3 1 R_i64 (.slice (some qp3) qn4 qc5) l3] (fun v Φr Hr => v = .tuple #[] ∧ Φr = [] ∧ Hr = [.own 33 2 R_Api_TokenD (.slice qp0 qn1 qc2) o0, .own 3 1 R_i64 (.slice (some qp3) qn4 qc5) l3]) := by
 unfold m_slices_insertionSortCmpFunc_Token_v2 at hm
 refine spec_of Tryd.func40 rfl Tryd.ntmps40 rfl (S := [_,_,_,_]) rfl (fun C => (wc_seq (wc_region (wP rfl (wP rfl ?_)))))
 obtain ⟨hg11, hm⟩ := gd_some hm
 refine wl_as (d := 11) (v' := .int .i64 (a1 + 1)) (S' := [_,_,_,_,_]) rfl rfl (i64_in hg11) (wP rfl (wl_nil (we_then (wc_keep [8,0,1,2,3] (S' := [_,_,_,_,_]) rfl (wc_block (wc_loop (σ := Nat × Int × (List Api_TokenD)) (fun (nu1, u1_8, u1_0_l) => iter (m_slices_insertionSortCmpFunc_Token_v2_L1 N a2 a1 l3) nu1 (u1_8, u1_0_l) = some o0) (fun (nu1, u1_8, u1_0_l) => nu1) (fun (nu1, u1_8, u1_0_l) => [(8, .int .i64 u1_8), (0, .slice qp0 qn1 qc2), (1, .int .i64 a1), (2, .int .i64 a2), (3, .func (.func 19) #[.slice (some qp3) qn4 qc5] #[])]) (fun (nu1, u1_8, u1_0_l) => [tabF Tryd.prog "internal/strconv.uint64pow10" .u64 Lib.pow10Tab 0 pow10_g]) (fun (nu1, u1_8, u1_0_l) => [.own 33 2 R_Api_TokenD (.slice qp0 qn1 qc2) u1_0_l, .own 3 1 R_i64 (.slice (some qp3) qn4 qc5) l3]) (N, a1 + 1, l0) hm [8,0,1,2,3] rfl (asK [0] rfl) rfl (fun s_ hm => ?_)))))))
 obtain ⟨nu1, u1_8, u1_0_l⟩ := s_
 try dsimp only at hm ⊢
 obtain ⟨mu1, bu1, hnu1, hq, hLu1⟩ := iter_some hm
 clear hm
 subst hnu1
 replace hm := hq
 clear hq
 unfold m_slices_insertionSortCmpFunc_Token_v2_L1 at hm
 try dsimp only at hm
 refine wc_seq (wc_seq (wc_region (wP rfl (wP rfl (wP rfl (wl_nil (we_then (wc_keep [14,8,0,1,2,3] (S' := [_,_,_,_,_,_]) rfl ?_))))))))
 refine wc_cond rfl (fun hb14 => ?_) (fun hb14 => ?_)
 ·
  replace hm := iteT hm hb14
  refine wc_keep [8,0,1,2,3] (S' := [_,_,_,_,_]) rfl (wc_skip (we_then (wc_seq ?_)))
  obtain ⟨bj_1, hm, hLj_1⟩ := bindO_some hm
  refine wc_cut (σ := List Api_TokenD) (fun j_1_0_l => bj_1 = j_1_0_l) (fun j_1_0_l => [(8, .int .i64 u1_8), (0, .slice qp0 qn1 qc2), (1, .int .i64 a1), (2, .int .i64 a2), (3, .func (.func 19) #[.slice (some qp3) qn4 qc5] #[])]) (fun j_1_0_l => [tabF Tryd.prog "internal/strconv.uint64pow10" .u64 Lib.pow10Tab 0 pow10_g]) (fun j_1_0_l => [.own 33 2 R_Api_TokenD (.slice qp0 qn1 qc2) j_1_0_l, .own 3 1 R_i64 (.slice (some qp3) qn4 qc5) l3]) ?_ ?_
  ·
   refine wc_block (wc_seq (wc_region (wP rfl (wP rfl (wl_nil (we_then (wc_keep [9,8,0,1,2,3] (S' := [_,_,_,_,_,_]) rfl (wc_block (wc_loop (σ := Nat × Int × (List Api_TokenD)) (fun (nu2, u2_9, u2_0_l) => iter (m_slices_insertionSortCmpFunc_Token_v2_L2 N a1 l3) nu2 (u2_9, u2_0_l) = some bj_1) (fun (nu2, u2_9, u2_0_l) => nu2) (fun (nu2, u2_9, u2_0_l) => [(9, .int .i64 u2_9), (8, .int .i64 u1_8), (0, .slice qp0 qn1 qc2), (1, .int .i64 a1), (2, .int .i64 a2), (3, .func (.func 19) #[.slice (some qp3) qn4 qc5] #[])]) (fun (nu2, u2_9, u2_0_l) => [tabF Tryd.prog "internal/strconv.uint64pow10" .u64 Lib.pow10Tab 0 pow10_g]) (fun (nu2, u2_9, u2_0_l) => [.own 33 2 R_Api_TokenD (.slice qp0 qn1 qc2) u2_0_l, .own 3 1 R_i64 (.slice (some qp3) qn4 qc5) l3]) (N, u1_8, u1_0_l) hm [9,8,0,1,2,3] rfl (asK [0] rfl) rfl (fun s_ hm => ?_))))))))))
   obtain ⟨nu2, u2_9, u2_0_l⟩ := s_
   try dsimp only at hm ⊢
   obtain ⟨mu2, bu2, hnu2, hq, hLu2⟩ := iter_some hm
   clear hm
   subst hnu2
   replace hm := hq
   clear hq
   unfold m_slices_insertionSortCmpFunc_Token_v2_L2 at hm
   try dsimp only at hm
   refine wc_seq (wc_seq ?_)
   obtain ⟨bj_2, hm, hLj_2⟩ := bindO_some hm
   unfold m_slices_insertionSortCmpFunc_Token_v2_C2 at hm
   refine wc_cut (σ := Bool) (fun j_2_34 => bj_2 = j_2_34) (fun j_2_34 => [(9, .int .i64 u2_9), (8, .int .i64 u1_8), (0, .slice qp0 qn1 qc2), (1, .int .i64 a1), (2, .int .i64 a2), (3, .func (.func 19) #[.slice (some qp3) qn4 qc5] #[]), (34, .bool j_2_34)]) (fun j_2_34 => [tabF Tryd.prog "internal/strconv.uint64pow10" .u64 Lib.pow10Tab 0 pow10_g]) (fun j_2_34 => [.own 33 2 R_Api_TokenD (.slice qp0 qn1 qc2) u2_0_l, .own 3 1 R_i64 (.slice (some qp3) qn4 qc5) l3]) ?_ ?_
   ·
    rcases ite_some hm with ⟨hs21, hm⟩ | ⟨hs21, hm⟩
    ·
     obtain ⟨hn25, hm⟩ := gd_some hm
     obtain ⟨x25, hx25, hm⟩ := bindO_some hm
     obtain ⟨hg29, hm⟩ := gd_some hm
     obtain ⟨hn30, hm⟩ := gd_some hm
     obtain ⟨x30, hx30, hm⟩ := bindO_some hm
     obtain ⟨v32, hc32, hm⟩ := bindO_some hm
     refine wc_draw [0,1,2,3,4,5,6,7,9,10,11,12,15,16] rfl rfl (fun hok => (xP hok 0 rfl (xP hok 1 rfl (xP hok 2 rfl (xP hok 3 rfl (wx_as (d := 21) (v' := .bool true) (S' := [_,_,_,_,_,_,_,_,_]) rfl rfl (bool_is hs21) (xP hok 4 rfl (xP hok 5 rfl (xP hok 6 rfl (wx_indexH hok 7 0 u2_9.toNat rfl rfl rfl (freshS_eq rfl) rfl rfl rfl rfl rfl (toNat_eq hn25) (get_lt hx25) tE_23 tS_33 (fun g25 eg25 => ?_)))))))))))
     subst eg25
     refine xP hok 9 rfl (xP hok 10 rfl (xP hok 11 rfl (wx_as (d := 29) (v' := .int .i64 (u2_9 - 1)) (S' := [_,_,_,_,_,_,_,_,_,_,_,_,_,_,_,_]) rfl rfl (i64_in hg29) (wx_indexK hok 12 0 ((u2_9 - 1).toNat) rfl rfl rfl (freshS_eq rfl) rfl rfl rfl rfl rfl (toNat_eq hn30) (get_lt hx30) tE_23 tS_33 ?_))))
     refine wx_step2 hok 8 13 rfl rfl rfl rfl rfl rfl ?_ ?_
     rotate_left
     focus
      refine wl_loadRow R_Api_TokenD_opens 0 ((u2_9 - 1).toNat) 0 rfl rfl rfl (freshS_eq rfl) rfl rfl rfl hx30 tS_33 tA_33 (v := fun r31 => .agg #[.int .i64 (x30.rule), .slice r31.1 x30.ids.length r31.2]) (fun _ => rfl) (fun _ => rfl) (fun r31 _ => (wl_nil (we_x [1] [] rfl rfl (xS hok 8 rfl (wl_loadRow R_Api_TokenD_opens 0 u2_9.toNat 0 rfl rfl rfl (freshS_eq rfl) rfl rfl rfl hx25 tS_33 tA_33 (v := fun r26 => .agg #[.int .i64 (x25.rule), .slice r26.1 x25.ids.length r26.2]) (fun _ => rfl) (fun _ => rfl) (fun r26 _ => (wl_nil (we_x [1,2] [] rfl rfl (xS hok 14 rfl (wl_callDynF (args := [.slice (some qp3) qn4 qc5, .agg #[.int .i64 (x25.rule), .slice r26.1 x25.ids.length r26.2], .agg #[.int .i64 (x30.rule), .slice r31.1 x30.ids.length r31.2]]) [1] [0] rfl rfl rfl (freshS_eq rfl) rfl rfl rfl fn_19 rfl rfl (w_agenda_order_compare_v2_s N qp3 qn4 qc5 l3 x25.rule r26.1 r26.2 x25.ids x30.rule r31.1 r31.2 x30.ids _ hc32) (asK [0,1,2] rfl) rfl (H' := [_]) rfl ?_))))))))))
     rotate_right
     focus
      refine wl_loadRow R_Api_TokenD_opens 0 u2_9.toNat 0 rfl rfl rfl (freshS_eq rfl) rfl rfl rfl hx25 tS_33 tA_33 (v := fun r26 => .agg #[.int .i64 (x25.rule), .slice r26.1 x25.ids.length r26.2]) (fun _ => rfl) (fun _ => rfl) (fun r26 _ => (wl_nil (we_x [1] [] rfl rfl (xS hok 13 rfl (wl_loadRow R_Api_TokenD_opens 0 ((u2_9 - 1).toNat) 0 rfl rfl rfl (freshS_eq rfl) rfl rfl rfl hx30 tS_33 tA_33 (v := fun r31 => .agg #[.int .i64 (x30.rule), .slice r31.1 x30.ids.length r31.2]) (fun _ => rfl) (fun _ => rfl) (fun r31 _ => (wl_nil (we_x [1,2] [] rfl rfl (xS hok 14 rfl (wl_callDynF (args := [.slice (some qp3) qn4 qc5, .agg #[.int .i64 (x25.rule), .slice r26.1 x25.ids.length r26.2], .agg #[.int .i64 (x30.rule), .slice r31.1 x30.ids.length r31.2]]) [1] [0] rfl rfl rfl (freshS_eq rfl) rfl rfl rfl fn_19 rfl rfl (w_agenda_order_compare_v2_s N qp3 qn4 qc5 l3 x25.rule r26.1 r26.2 x25.ids x30.rule r31.1 r31.2 x30.ids _ hc32) (asK [1,0,2] rfl) rfl (H' := [_]) rfl ?_))))))))))
     all_goals
      rintro _ _ _ ⟨rfl, rfl, rfl⟩
      refine wl_nil (we_x [0,1,2] [] rfl rfl (xP hok 15 rfl (xP hok 16 rfl (wx_done hok rfl ?_))))
      have hE := (Option.some.inj hm).symm
      refine we_pick [1,0] rfl (H' := [_,_]) rfl ?_
      refine we_join (decide (v32 < 0)) hE [9,8,0,1,2,3,34] rfl (asK [2] rfl) rfl
    ·
     refine wc_draw [0,1,2,3,4,5,6,7,9,10,11,12,15,16] rfl rfl (fun hok => (xP hok 0 rfl (xP hok 1 rfl (xP hok 2 rfl (xP hok 3 rfl (wx_as (d := 21) (v' := .bool false) (S' := [_,_,_,_,_,_,_,_,_]) rfl rfl (bool_is hs21) (xO hok 4 rfl (xO hok 5 rfl (xO hok 6 rfl (xO hok 7 rfl (xO hok 9 rfl (xO hok 10 rfl (xO hok 11 rfl (xO hok 12 rfl ?_))))))))))))))
     refine wx_step2 hok 8 13 rfl rfl rfl rfl rfl rfl ?_ ?_
     rotate_left
     focus
      refine wO rfl (wl_nil (we_x [0] [] rfl rfl (xS hok 8 rfl ?_)))
     rotate_right
     focus
      refine wO rfl (wl_nil (we_x [0] [] rfl rfl (xS hok 13 rfl ?_)))
     all_goals
      refine wO rfl (wl_nil (we_x [0] [] rfl rfl (xS hok 14 rfl (wO rfl (wl_nil (we_x [0] [] rfl rfl (xO hok 15 rfl (xP hok 16 rfl (wx_done hok rfl ?_)))))))))
      have hE := (Option.some.inj hm).symm
      refine we_join false hE [9,8,0,1,2,3,34] rfl (asK [0] rfl) rfl
   ·
    rintro j_2_34 hE
    try dsimp only
    have hm := hLj_2
    rw [hE] at hm
    refine wc_cond rfl (fun hb34 => ?_) (fun hb34 => ?_)
    ·
     replace hm := iteT hm hb34
     refine wc_keep [9,8,0,1,2,3] (S' := [_,_,_,_,_,_]) rfl (wc_skip (we_then (wc_seq (wc_block ?_))))
     obtain ⟨hg41, hm⟩ := gd_some hm
     obtain ⟨hg44, hm⟩ := gd_some hm
     obtain ⟨hn45, hm⟩ := gd_some hm
     obtain ⟨x45, hx45, hm⟩ := bindO_some hm
     obtain ⟨hn49, hm⟩ := gd_some hm
     obtain ⟨x49, hx49, hm⟩ := bindO_some hm
     obtain ⟨hn51, hm⟩ := gd_some hm
     obtain ⟨x51, hx51, hm⟩ := bindO_some hm
     obtain ⟨hn52, hm⟩ := gd_some hm
     obtain ⟨x52, hx52, hm⟩ := bindO_some hm
     refine wc_draw [0,1,2,3,4,5,6,7,8,10,11,12,14,16] rfl rfl (fun hok => (xP hok 0 rfl (xP hok 1 rfl (xP hok 2 rfl (xP hok 3 rfl (xP hok 4 rfl (wx_as (d := 41) (v' := .int .i64 (u2_9 - 1)) (S' := [_,_,_,_,_,_,_,_,_,_]) rfl rfl (i64_in hg41) (xP hok 5 rfl (xP hok 6 rfl (xP hok 7 rfl (wx_as (d := 44) (v' := .int .i64 (u2_9 - 1)) (S' := [_,_,_,_,_,_,_,_,_,_,_,_,_]) rfl rfl (i64_in hg44) (wx_indexH hok 8 0 ((u2_9 - 1).toNat) rfl rfl rfl (freshS_eq rfl) rfl rfl rfl rfl rfl (toNat_eq hn45) (get_lt hx45) tE_23 tS_33 (fun g45 eg45 => ?_)))))))))))))
     subst eg45
     refine xP hok 10 rfl (xP hok 11 rfl (wx_indexK hok 12 0 u2_9.toNat rfl rfl rfl (freshS_eq rfl) rfl rfl rfl rfl rfl (toNat_eq hn49) (get_lt hx49) tE_23 tS_33 ?_))
     refine wx_step2 hok 9 13 rfl rfl rfl rfl rfl rfl ?_ ?_
     rotate_left
     focus
      refine wl_loadRow R_Api_TokenD_opens 0 u2_9.toNat 0 rfl rfl rfl (freshS_eq rfl) rfl rfl rfl hx49 tS_33 tA_33 (v := fun r50 => .agg #[.int .i64 (x49.rule), .slice r50.1 x49.ids.length r50.2]) (fun _ => rfl) (fun _ => rfl) (fun r50 _ => (wl_nil (we_x [1] [] rfl rfl (xS hok 9 rfl (wl_loadRow R_Api_TokenD_opens 0 ((u2_9 - 1).toNat) 0 rfl rfl rfl (freshS_eq rfl) rfl rfl rfl hx45 tS_33 tA_33 (v := fun r46 => .agg #[.int .i64 (x45.rule), .slice r46.1 x45.ids.length r46.2]) (fun _ => rfl) (fun _ => rfl) (fun r46 _ => (wl_nil (we_x [1,2] [] rfl rfl (wx_indexK hok 14 0 u2_9.toNat rfl rfl rfl (freshS_eq rfl) rfl rfl rfl rfl rfl (toNat_eq hn51) (get_lt hx51) tE_23 tS_33 (xS hok 15 rfl (wl_storeRow (u := x45) 0 u2_9.toNat rfl rfl rfl rfl rfl (get_lt hx51) rfl rfl tS_33 rfl (fun F w hφ => ⟨(r46.1, r46.2), rfl, (ask_cons (hφ _ (mem_at (k := 0) rfl)) ask_nil)⟩) (H' := [_,_]) rfl (wl_nil (we_x [0,1,2] [] rfl rfl (wx_indexK hok 16 0 ((u2_9 - 1).toNat) rfl rfl rfl (freshS_eq rfl) rfl rfl rfl rfl rfl (toNat_eq hn52) (get_lt hx52) tE_23 tS_33 (xS hok 17 rfl ?_)))))))))))))))
      refine wl_storeRow (u := x49) 0 ((u2_9 - 1).toNat) rfl rfl rfl rfl rfl (get_lt hx52) rfl rfl tS_33 rfl (fun F w hφ => ⟨(r50.1, r50.2), rfl, (ask_cons (hφ _ (mem_at (k := 1) rfl)) ask_nil)⟩) (H' := [_,_]) rfl ?_
     rotate_right
     focus
      refine wl_loadRow R_Api_TokenD_opens 0 ((u2_9 - 1).toNat) 0 rfl rfl rfl (freshS_eq rfl) rfl rfl rfl hx45 tS_33 tA_33 (v := fun r46 => .agg #[.int .i64 (x45.rule), .slice r46.1 x45.ids.length r46.2]) (fun _ => rfl) (fun _ => rfl) (fun r46 _ => (wl_nil (we_x [1] [] rfl rfl (xS hok 13 rfl (wl_loadRow R_Api_TokenD_opens 0 u2_9.toNat 0 rfl rfl rfl (freshS_eq rfl) rfl rfl rfl hx49 tS_33 tA_33 (v := fun r50 => .agg #[.int .i64 (x49.rule), .slice r50.1 x49.ids.length r50.2]) (fun _ => rfl) (fun _ => rfl) (fun r50 _ => (wl_nil (we_x [1,2] [] rfl rfl (wx_indexK hok 14 0 u2_9.toNat rfl rfl rfl (freshS_eq rfl) rfl rfl rfl rfl rfl (toNat_eq hn51) (get_lt hx51) tE_23 tS_33 (xS hok 15 rfl (wl_storeRow (u := x45) 0 u2_9.toNat rfl rfl rfl rfl rfl (get_lt hx51) rfl rfl tS_33 rfl (fun F w hφ => ⟨(r46.1, r46.2), rfl, (ask_cons (hφ _ (mem_at (k := 1) rfl)) ask_nil)⟩) (H' := [_,_]) rfl (wl_nil (we_x [0,1,2] [] rfl rfl (wx_indexK hok 16 0 ((u2_9 - 1).toNat) rfl rfl rfl (freshS_eq rfl) rfl rfl rfl rfl rfl (toNat_eq hn52) (get_lt hx52) tE_23 tS_33 (xS hok 17 rfl ?_)))))))))))))))
      refine wl_storeRow (u := x49) 0 ((u2_9 - 1).toNat) rfl rfl rfl rfl rfl (get_lt hx52) rfl rfl tS_33 rfl (fun F w hφ => ⟨(r50.1, r50.2), rfl, (ask_cons (hφ _ (mem_at (k := 0) rfl)) ask_nil)⟩) (H' := [_,_]) rfl ?_
     all_goals
      refine wl_nil (we_x [0,1,2] [] rfl rfl (wx_done hok rfl (we_block_normal (we_then (wc_keep [9,8,0,1,2,3] (S' := [_,_,_,_,_,_]) rfl (wc_region (wP rfl (wP rfl ?_))))))))
      obtain ⟨hg36, hm⟩ := gd_some hm
      refine wl_as (d := 36) (v' := .int .i64 (u2_9 - 1)) (S' := [_,_,_,_,_,_,_]) rfl rfl (i64_in hg36) (wl_pure (S' := [_,_,_,_,_,_,_]) rfl rfl rfl rfl rfl (wl_nil ?_))
      have hE := (Option.some.inj hm).symm
      replace hE := link_inl hLu2 hE
      refine we_roundK (_, u2_9 - 1, (u2_0_l.set u2_9.toNat x45).set ((u2_9 - 1).toNat) x49) (Nat.lt_succ_self _) hE [9,8,0,1,2,3] rfl (asK [2] rfl) rfl
    ·
     replace hm := iteF hm hb34
     refine wc_keep [8,0,1,2,3] (S' := [_,_,_,_,_]) rfl (wc_exit (we_then_exit (we_then_exit (we_block_hit (we_block_normal ?_)))))
     have hE := (Option.some.inj hm).symm
     replace hE := link_inr hLu2 hE
     refine we_join u2_0_l hE [8,0,1,2,3] rfl (asK [0] rfl) rfl
  ·
   rintro j_1_0_l hE
   try dsimp only
   have hm := hLj_1
   rw [hE] at hm
   refine wc_region (wP rfl (wP rfl ?_))
   obtain ⟨hg16, hm⟩ := gd_some hm
   refine wl_as (d := 16) (v' := .int .i64 (u1_8 + 1)) (S' := [_,_,_,_,_,_]) rfl rfl (i64_in hg16) (wl_pure (S' := [_,_,_,_,_,_]) rfl rfl rfl rfl rfl (wl_nil ?_))
   have hE := (Option.some.inj hm).symm
   replace hE := link_inl hLu1 hE
   refine we_roundK (_, u1_8 + 1, j_1_0_l) (Nat.lt_succ_self _) hE [8,0,1,2,3] rfl (asK [0] rfl) rfl
 ·
  replace hm := iteF hm hb14
  refine wc_keep [] (S' := []) rfl (wc_exit (we_then_exit (we_then_exit (we_block_hit ?_))))
  have hE := (Option.some.inj hm).symm
  replace hE := link_inr hLu1 hE
  replace hE := hE.symm
  subst hE
  refine ret_none (Hr := [_,_]) [0,1] Tryd.results40 ⟨rfl, rfl, rfl⟩ (asK [] rfl) rfl rfl (.inr rfl)
theorem w_slices_siftDownCmpFunc_Token_v2_s (N : Nat) (qp0 : Option Addr) (qn1 : Nat) (qc2 : Nat) (l0 : List Api_TokenD) (a1 : Int) (a2 : Int) (a3 : Int) (qp3 : Addr) (qn4 : Nat) (qc5 : Nat) (l4 : List Int) (o0 : List Api_TokenD) (hm : m_slices_siftDownCmpFunc_Token_v2 N l0 a1 a2 a3 l4 = some o0) : Spec Tryd.prog 52 [.slice qp0 qn1 qc2, .int .i64 a1, .int .i64 a2, .int .i64 a3, .func (.func 19) #[.slice (some qp3) qn4 qc5] #[]] [tabF Tryd.prog "internal/strconv.uint64pow10" .u64 Lib.pow10Tab 0 pow10_g] [.own 33 2 R_Api_TokenD (.slice qp0 qn1 qc2) l0, .own 3 1 R_i64 (.slice (some qp3) qn4 qc5) l4] (fun v Φr Hr => v = .tuple #[] ∧ Φr = [] ∧ Hr = [.own 33 2 R_Api_TokenD (.slice qp0 qn1 qc2) o0, .own 3 1 R_i64 (.slice (some qp3) qn4 qc5) l4]) := by
 unfold m_slices_siftDownCmpFunc_Token_v2 at hm
 refine spec_of Tryd.func52 rfl Tryd.ntmps52 rfl (S := [_,_,_,_,_]) rfl (fun C => (wc_seq (wc_region (wP rfl (wP rfl (wl_nil (we_then (wc_keep [10,0,2,3,4] (S' := [_,_,_,_,_]) rfl (wc_block (wc_loop (σ := Nat × Int × (List Api_TokenD)) (fun (nu1, u1_10, u1_0_l) => iter (m_slices_siftDownCmpFunc_Token_v2_L1 N a2 a3 l4) nu1 (u1_10, u1_0_l) = some o0) (fun (nu1, u1_10, u1_0_l) => nu1) (fun (nu1, u1_10, u1_0_l) => [(10, .int .i64 u1_10), (0, .slice qp0 qn1 qc2), (2, .int .i64 a2), (3, .int .i64 a3), (4, .func (.func 19) #[.slice (some qp3) qn4 qc5] #[])]) (fun (nu1, u1_10, u1_0_l) => [tabF Tryd.prog "internal/strconv.uint64pow10" .u64 Lib.pow10Tab 0 pow10_g]) (fun (nu1, u1_10, u1_0_l) => [.own 33 2 R_Api_TokenD (.slice qp0 qn1 qc2) u1_0_l, .own 3 1 R_i64 (.slice (some qp3) qn4 qc5) l4]) (N, a1, l0) hm [10,0,2,3,4] rfl (asK [0] rfl) rfl (fun s_ hm => ?_)))))))))))
 obtain ⟨nu1, u1_10, u1_0_l⟩ := s_
 try dsimp only at hm ⊢
 obtain ⟨mu1, bu1, hnu1, hq, hLu1⟩ := iter_some hm
 clear hm
 subst hnu1
 replace hm := hq
 clear hq
 unfold m_slices_siftDownCmpFunc_Token_v2_L1 at hm
 try dsimp only at hm
 refine wc_block (wc_seq (wc_region (wP rfl (wP rfl ?_))))
 obtain ⟨hg14, hm⟩ := gd_some hm
 refine wl_as (d := 14) (v' := .int .i64 (2 * u1_10)) (S' := [_,_,_,_,_,_]) rfl rfl (i64_in hg14) (wP rfl ?_)
 obtain ⟨hg15, hm⟩ := gd_some hm
 refine wl_as (d := 15) (v' := .int .i64 ((2 * u1_10) + 1)) (S' := [_,_,_,_,_,_,_]) rfl rfl (i64_in hg15) (wP rfl (wl_nil (we_then (wc_keep [11,10,0,2,3,4] (S' := [_,_,_,_,_,_]) rfl (wc_seq (wc_seq (wc_region (wP rfl (wP rfl (wP rfl (wl_nil (we_then (wc_keep [18,11,10,0,2,3,4] (S' := [_,_,_,_,_,_,_]) rfl ?_)))))))))))))
 refine wc_cond rfl (fun hb18 => ?_) (fun hb18 => ?_)
 ·
  replace hm := iteT hm hb18
  refine wc_keep [] (S' := []) rfl (wc_exit (we_then_exit (we_block_miss (by decide) (we_then_exit (we_block_hit ?_)))))
  have hE := (Option.some.inj hm).symm
  replace hE := link_inr hLu1 hE
  replace hE := hE.symm
  subst hE
  refine ret_none (Hr := [_,_]) [0,1] Tryd.results52 ⟨rfl, rfl, rfl⟩ (asK [] rfl) rfl rfl (.inr rfl)
 ·
  replace hm := iteF hm hb18
  refine wc_keep [11,10,0,2,3,4] (S' := [_,_,_,_,_,_]) rfl (wc_skip (we_then (wc_seq ?_)))
  obtain ⟨bj_1, hm, hLj_1⟩ := bindO_some hm
  refine wc_cut (σ := Int) (fun j_1_11 => bj_1 = j_1_11) (fun j_1_11 => [(11, .int .i64 j_1_11), (10, .int .i64 u1_10), (0, .slice qp0 qn1 qc2), (2, .int .i64 a2), (3, .int .i64 a3), (4, .func (.func 19) #[.slice (some qp3) qn4 qc5] #[])]) (fun j_1_11 => [tabF Tryd.prog "internal/strconv.uint64pow10" .u64 Lib.pow10Tab 0 pow10_g]) (fun j_1_11 => [.own 33 2 R_Api_TokenD (.slice qp0 qn1 qc2) u1_0_l, .own 3 1 R_i64 (.slice (some qp3) qn4 qc5) l4]) ?_ ?_
  ·
   refine wc_seq ?_
   obtain ⟨bj_2, hm, hLj_2⟩ := bindO_some hm
   unfold m_slices_siftDownCmpFunc_Token_v2_C2 at hm
   refine wc_cut (σ := Bool) (fun j_2_40 => bj_2 = j_2_40) (fun j_2_40 => [(11, .int .i64 ((2 * u1_10) + 1)), (10, .int .i64 u1_10), (0, .slice qp0 qn1 qc2), (2, .int .i64 a2), (3, .int .i64 a3), (4, .func (.func 19) #[.slice (some qp3) qn4 qc5] #[]), (40, .bool j_2_40)]) (fun j_2_40 => [tabF Tryd.prog "internal/strconv.uint64pow10" .u64 Lib.pow10Tab 0 pow10_g]) (fun j_2_40 => [.own 33 2 R_Api_TokenD (.slice qp0 qn1 qc2) u1_0_l, .own 3 1 R_i64 (.slice (some qp3) qn4 qc5) l4]) ?_ ?_
   ·
    obtain ⟨hg20, hm⟩ := gd_some hm
    rcases ite_some hm with ⟨hs23, hm⟩ | ⟨hs23, hm⟩
    ·
     obtain ⟨hg28, hm⟩ := gd_some hm
     obtain ⟨hn29, hm⟩ := gd_some hm
     obtain ⟨x29, hx29, hm⟩ := bindO_some hm
     obtain ⟨hg34, hm⟩ := gd_some hm
     obtain ⟨hg35, hm⟩ := gd_some hm
     obtain ⟨hn36, hm⟩ := gd_some hm
     obtain ⟨x36, hx36, hm⟩ := bindO_some hm
     obtain ⟨v38, hc38, hm⟩ := bindO_some hm
     refine wc_draw [0,1,2,3,4,5,6,7,8,9,10,12,13,14,15,16,17,20,21] rfl rfl (fun hok => (xP hok 0 rfl (xP hok 1 rfl (wx_as (d := 20) (v' := .int .i64 (((2 * u1_10) + 1) + 1)) (S' := [_,_,_,_,_,_,_]) rfl rfl (i64_in hg20) (xP hok 2 rfl (xP hok 3 rfl (xP hok 4 rfl (wx_as (d := 23) (v' := .bool true) (S' := [_,_,_,_,_,_,_,_,_,_]) rfl rfl (bool_is hs23) (xP hok 5 rfl (xP hok 6 rfl (xP hok 7 rfl (xP hok 8 rfl (xP hok 9 rfl (wx_as (d := 28) (v' := .int .i64 (a3 + ((2 * u1_10) + 1))) (S' := [_,_,_,_,_,_,_,_,_,_,_,_,_,_,_]) rfl rfl (i64_in hg28) ?_))))))))))))))
     refine wx_indexH hok 10 0 ((a3 + ((2 * u1_10) + 1)).toNat) rfl rfl rfl (freshS_eq rfl) rfl rfl rfl rfl rfl (toNat_eq hn29) (get_lt hx29) tE_23 tS_33 (fun g29 eg29 => ?_)
     subst eg29
     refine xP hok 12 rfl (xP hok 13 rfl (xP hok 14 rfl (xP hok 15 rfl (wx_as (d := 34) (v' := .int .i64 (a3 + ((2 * u1_10) + 1))) (S' := [_,_,_,_,_,_,_,_,_,_,_,_,_,_,_,_,_,_,_,_]) rfl rfl (i64_in hg34) (xP hok 16 rfl (wx_as (d := 35) (v' := .int .i64 ((a3 + ((2 * u1_10) + 1)) + 1)) (S' := [_,_,_,_,_,_,_,_,_,_,_,_,_,_,_,_,_,_,_,_,_]) rfl rfl (i64_in hg35) (wx_indexK hok 17 0 (((a3 + ((2 * u1_10) + 1)) + 1).toNat) rfl rfl rfl (freshS_eq rfl) rfl rfl rfl rfl rfl (toNat_eq hn36) (get_lt hx36) tE_23 tS_33 ?_)))))))
     refine wx_step2 hok 11 18 rfl rfl rfl rfl rfl rfl ?_ ?_
     rotate_left
     focus
      refine wl_loadRow R_Api_TokenD_opens 0 (((a3 + ((2 * u1_10) + 1)) + 1).toNat) 0 rfl rfl rfl (freshS_eq rfl) rfl rfl rfl hx36 tS_33 tA_33 (v := fun r37 => .agg #[.int .i64 (x36.rule), .slice r37.1 x36.ids.length r37.2]) (fun _ => rfl) (fun _ => rfl) (fun r37 _ => (wl_nil (we_x [1] [] rfl rfl (xS hok 11 rfl (wl_loadRow R_Api_TokenD_opens 0 ((a3 + ((2 * u1_10) + 1)).toNat) 0 rfl rfl rfl (freshS_eq rfl) rfl rfl rfl hx29 tS_33 tA_33 (v := fun r30 => .agg #[.int .i64 (x29.rule), .slice r30.1 x29.ids.length r30.2]) (fun _ => rfl) (fun _ => rfl) (fun r30 _ => (wl_nil (we_x [1,2] [] rfl rfl (xS hok 19 rfl (wl_callDynF (args := [.slice (some qp3) qn4 qc5, .agg #[.int .i64 (x29.rule), .slice r30.1 x29.ids.length r30.2], .agg #[.int .i64 (x36.rule), .slice r37.1 x36.ids.length r37.2]]) [1] [0] rfl rfl rfl (freshS_eq rfl) rfl rfl rfl fn_19 rfl rfl (w_agenda_order_compare_v2_s N qp3 qn4 qc5 l4 x29.rule r30.1 r30.2 x29.ids x36.rule r37.1 r37.2 x36.ids _ hc38) (asK [0,1,2] rfl) rfl (H' := [_]) rfl ?_))))))))))
     rotate_right
     focus
      refine wl_loadRow R_Api_TokenD_opens 0 ((a3 + ((2 * u1_10) + 1)).toNat) 0 rfl rfl rfl (freshS_eq rfl) rfl rfl rfl hx29 tS_33 tA_33 (v := fun r30 => .agg #[.int .i64 (x29.rule), .slice r30.1 x29.ids.length r30.2]) (fun _ => rfl) (fun _ => rfl) (fun r30 _ => (wl_nil (we_x [1] [] rfl rfl (xS hok 18 rfl (wl_loadRow R_Api_TokenD_opens 0 (((a3 + ((2 * u1_10) + 1)) + 1).toNat) 0 rfl rfl rfl (freshS_eq rfl) rfl rfl rfl hx36 tS_33 tA_33 (v := fun r37 => .agg #[.int .i64 (x36.rule), .slice r37.1 x36.ids.length r37.2]) (fun _ => rfl) (fun _ => rfl) (fun r37 _ => (wl_nil (we_x [1,2] [] rfl rfl (xS hok 19 rfl (wl_callDynF (args := [.slice (some qp3) qn4 qc5, .agg #[.int .i64 (x29.rule), .slice r30.1 x29.ids.length r30.2], .agg #[.int .i64 (x36.rule), .slice r37.1 x36.ids.length r37.2]]) [1] [0] rfl rfl rfl (freshS_eq rfl) rfl rfl rfl fn_19 rfl rfl (w_agenda_order_compare_v2_s N qp3 qn4 qc5 l4 x29.rule r30.1 r30.2 x29.ids x36.rule r37.1 r37.2 x36.ids _ hc38) (asK [1,0,2] rfl) rfl (H' := [_]) rfl ?_))))))))))
     all_goals
      rintro _ _ _ ⟨rfl, rfl, rfl⟩
      refine wl_nil (we_x [0,1,2] [] rfl rfl (xP hok 20 rfl (xP hok 21 rfl (wx_done hok rfl ?_))))
      have hE := (Option.some.inj hm).symm
      refine we_pick [1,0] rfl (H' := [_,_]) rfl ?_
      refine we_join (decide (v38 < 0)) hE [11,10,0,2,3,4,40] rfl (asK [2] rfl) rfl
    ·
     refine wc_draw [0,1,2,3,4,5,6,7,8,9,10,12,13,14,15,16,17,20,21] rfl rfl (fun hok => (xP hok 0 rfl (xP hok 1 rfl (wx_as (d := 20) (v' := .int .i64 (((2 * u1_10) + 1) + 1)) (S' := [_,_,_,_,_,_,_]) rfl rfl (i64_in hg20) (xP hok 2 rfl (xP hok 3 rfl (xP hok 4 rfl (wx_as (d := 23) (v' := .bool false) (S' := [_,_,_,_,_,_,_,_,_,_]) rfl rfl (bool_is hs23) (xO hok 5 rfl (xO hok 6 rfl (xO hok 7 rfl (xO hok 8 rfl (xO hok 9 rfl (xO hok 10 rfl ?_))))))))))))))
     refine xO hok 12 rfl (xO hok 13 rfl (xO hok 14 rfl (xO hok 15 rfl (xO hok 16 rfl (xO hok 17 rfl ?_)))))
     refine wx_step2 hok 11 18 rfl rfl rfl rfl rfl rfl ?_ ?_
     rotate_left
     focus
      refine wO rfl (wl_nil (we_x [0] [] rfl rfl (xS hok 11 rfl ?_)))
     rotate_right
     focus
      refine wO rfl (wl_nil (we_x [0] [] rfl rfl (xS hok 18 rfl ?_)))
     all_goals
      refine wO rfl (wl_nil (we_x [0] [] rfl rfl (xS hok 19 rfl (wO rfl (wl_nil (we_x [0] [] rfl rfl (xO hok 20 rfl (xP hok 21 rfl (wx_done hok rfl ?_)))))))))
      have hE := (Option.some.inj hm).symm
      refine we_join false hE [11,10,0,2,3,4,40] rfl (asK [0] rfl) rfl
   ·
    rintro j_2_40 hE
    try dsimp only
    have hm := hLj_2
    rw [hE] at hm
    refine wc_cond rfl (fun hb40 => ?_) (fun hb40 => ?_)
    ·
     replace hm := iteT hm hb40
     refine wc_keep [11,10,0,2,3,4] (S' := [_,_,_,_,_,_]) rfl (wc_region (wP rfl (wP rfl ?_)))
     obtain ⟨hg42, hm⟩ := gd_some hm
     refine wl_as (d := 42) (v' := .int .i64 (((2 * u1_10) + 1) + 1)) (S' := [_,_,_,_,_,_,_]) rfl rfl (i64_in hg42) (wl_pure (S' := [_,_,_,_,_,_,_]) rfl rfl rfl rfl rfl (wl_nil ?_))
     have hE := (Option.some.inj hm).symm
     refine we_join (((2 * u1_10) + 1) + 1) hE [11,10,0,2,3,4] rfl (asK [0] rfl) rfl
    ·
     replace hm := iteF hm hb40
     refine wc_keep [11,10,0,2,3,4] (S' := [_,_,_,_,_,_]) rfl (wc_skip ?_)
     have hE := (Option.some.inj hm).symm
     refine we_join ((2 * u1_10) + 1) hE [11,10,0,2,3,4] rfl (asK [0] rfl) rfl
  ·
   rintro j_1_11 hE
   try dsimp only
   have hm := hLj_1
   rw [hE] at hm
   refine wc_seq (wc_seq ?_)
   obtain ⟨hg47, hm⟩ := gd_some hm
   obtain ⟨hn48, hm⟩ := gd_some hm
   obtain ⟨x48, hx48, hm⟩ := bindO_some hm
   obtain ⟨hg53, hm⟩ := gd_some hm
   obtain ⟨hn54, hm⟩ := gd_some hm
   obtain ⟨x54, hx54, hm⟩ := bindO_some hm
   obtain ⟨v56, hc56, hm⟩ := bindO_some hm
   refine wc_cut (σ := Unit) (fun _ => True) (fun _ => [(58, .bool (!(decide (v56 < 0)))), (11, .int .i64 j_1_11), (10, .int .i64 u1_10), (0, .slice qp0 qn1 qc2), (2, .int .i64 a2), (3, .int .i64 a3), (4, .func (.func 19) #[.slice (some qp3) qn4 qc5] #[])]) (fun _ => [tabF Tryd.prog "internal/strconv.uint64pow10" .u64 Lib.pow10Tab 0 pow10_g]) (fun _ => [.own 33 2 R_Api_TokenD (.slice qp0 qn1 qc2) u1_0_l, .own 3 1 R_i64 (.slice (some qp3) qn4 qc5) l4]) ?_ ?_
   ·
    refine wc_draw [0,1,2,3,4,5,7,8,9,10,11,14,15] rfl rfl (fun hok => (xP hok 0 rfl (xP hok 1 rfl (xP hok 2 rfl (xP hok 3 rfl (xP hok 4 rfl (wx_as (d := 47) (v' := .int .i64 (a3 + u1_10)) (S' := [_,_,_,_,_,_,_,_,_,_]) rfl rfl (i64_in hg47) (wx_indexH hok 5 0 ((a3 + u1_10).toNat) rfl rfl rfl (freshS_eq rfl) rfl rfl rfl rfl rfl (toNat_eq hn48) (get_lt hx48) tE_23 tS_33 (fun g48 eg48 => ?_)))))))))
    subst eg48
    refine xP hok 7 rfl (xP hok 8 rfl (xP hok 9 rfl (xP hok 10 rfl (wx_as (d := 53) (v' := .int .i64 (a3 + j_1_11)) (S' := [_,_,_,_,_,_,_,_,_,_,_,_,_,_,_]) rfl rfl (i64_in hg53) (wx_indexK hok 11 0 ((a3 + j_1_11).toNat) rfl rfl rfl (freshS_eq rfl) rfl rfl rfl rfl rfl (toNat_eq hn54) (get_lt hx54) tE_23 tS_33 ?_)))))
    refine wx_step2 hok 6 12 rfl rfl rfl rfl rfl rfl ?_ ?_
    rotate_left
    focus
     refine wl_loadRow R_Api_TokenD_opens 0 ((a3 + j_1_11).toNat) 0 rfl rfl rfl (freshS_eq rfl) rfl rfl rfl hx54 tS_33 tA_33 (v := fun r55 => .agg #[.int .i64 (x54.rule), .slice r55.1 x54.ids.length r55.2]) (fun _ => rfl) (fun _ => rfl) (fun r55 _ => (wl_nil (we_x [1] [] rfl rfl (xS hok 6 rfl (wl_loadRow R_Api_TokenD_opens 0 ((a3 + u1_10).toNat) 0 rfl rfl rfl (freshS_eq rfl) rfl rfl rfl hx48 tS_33 tA_33 (v := fun r49 => .agg #[.int .i64 (x48.rule), .slice r49.1 x48.ids.length r49.2]) (fun _ => rfl) (fun _ => rfl) (fun r49 _ => (wl_nil (we_x [1,2] [] rfl rfl (xS hok 13 rfl (wl_callDynF (args := [.slice (some qp3) qn4 qc5, .agg #[.int .i64 (x48.rule), .slice r49.1 x48.ids.length r49.2], .agg #[.int .i64 (x54.rule), .slice r55.1 x54.ids.length r55.2]]) [1] [0] rfl rfl rfl (freshS_eq rfl) rfl rfl rfl fn_19 rfl rfl (w_agenda_order_compare_v2_s N qp3 qn4 qc5 l4 x48.rule r49.1 r49.2 x48.ids x54.rule r55.1 r55.2 x54.ids _ hc56) (asK [0,1,2] rfl) rfl (H' := [_]) rfl ?_))))))))))
    rotate_right
    focus
     refine wl_loadRow R_Api_TokenD_opens 0 ((a3 + u1_10).toNat) 0 rfl rfl rfl (freshS_eq rfl) rfl rfl rfl hx48 tS_33 tA_33 (v := fun r49 => .agg #[.int .i64 (x48.rule), .slice r49.1 x48.ids.length r49.2]) (fun _ => rfl) (fun _ => rfl) (fun r49 _ => (wl_nil (we_x [1] [] rfl rfl (xS hok 12 rfl (wl_loadRow R_Api_TokenD_opens 0 ((a3 + j_1_11).toNat) 0 rfl rfl rfl (freshS_eq rfl) rfl rfl rfl hx54 tS_33 tA_33 (v := fun r55 => .agg #[.int .i64 (x54.rule), .slice r55.1 x54.ids.length r55.2]) (fun _ => rfl) (fun _ => rfl) (fun r55 _ => (wl_nil (we_x [1,2] [] rfl rfl (xS hok 13 rfl (wl_callDynF (args := [.slice (some qp3) qn4 qc5, .agg #[.int .i64 (x48.rule), .slice r49.1 x48.ids.length r49.2], .agg #[.int .i64 (x54.rule), .slice r55.1 x54.ids.length r55.2]]) [1] [0] rfl rfl rfl (freshS_eq rfl) rfl rfl rfl fn_19 rfl rfl (w_agenda_order_compare_v2_s N qp3 qn4 qc5 l4 x48.rule r49.1 r49.2 x48.ids x54.rule r55.1 r55.2 x54.ids _ hc56) (asK [1,0,2] rfl) rfl (H' := [_]) rfl ?_))))))))))
    all_goals
     rintro _ _ _ ⟨rfl, rfl, rfl⟩
     refine wl_nil (we_x [0,1,2] [] rfl rfl (xP hok 14 rfl (xP hok 15 rfl (wx_done hok rfl (we_pick [1,0] rfl (H' := [_,_]) rfl ?_)))))
     refine we_join () trivial [58,11,10,0,2,3,4] rfl (asK [2] rfl) rfl
   ·
    rintro _ _
    try dsimp only
    refine wc_cond rfl (fun hb58 => ?_) (fun hb58 => ?_)
    ·
     replace hm := iteT hm hb58
     refine wc_keep [] (S' := []) rfl (wc_ret (we_then_ret (we_block_ret (we_then_ret (we_block_ret ?_)))))
     have hE := (Option.some.inj hm).symm
     replace hE := link_inr hLu1 hE
     replace hE := hE.symm
     subst hE
     refine ret_none (Hr := [_,_]) [0,1] Tryd.results52 ⟨rfl, rfl, rfl⟩ (asK [] rfl) rfl rfl (.inl rfl)
    ·
     replace hm := iteF hm hb58
     refine wc_keep [11,10,0,2,3,4] (S' := [_,_,_,_,_,_]) rfl (wc_skip (we_then (wc_seq ?_)))
     obtain ⟨hg62, hm⟩ := gd_some hm
     obtain ⟨hg66, hm⟩ := gd_some hm
     obtain ⟨hg70, hm⟩ := gd_some hm
     obtain ⟨hn71, hm⟩ := gd_some hm
     obtain ⟨x71, hx71, hm⟩ := bindO_some hm
     obtain ⟨hg76, hm⟩ := gd_some hm
     obtain ⟨hn77, hm⟩ := gd_some hm
     obtain ⟨x77, hx77, hm⟩ := bindO_some hm
     obtain ⟨hn79, hm⟩ := gd_some hm
     obtain ⟨x79, hx79, hm⟩ := bindO_some hm
     obtain ⟨hn80, hm⟩ := gd_some hm
     obtain ⟨x80, hx80, hm⟩ := bindO_some hm
     refine wc_cut (σ := Unit) (fun _ => True) (fun _ => [(11, .int .i64 j_1_11), (0, .slice qp0 qn1 qc2), (2, .int .i64 a2), (3, .int .i64 a3), (4, .func (.func 19) #[.slice (some qp3) qn4 qc5] #[])]) (fun _ => [tabF Tryd.prog "internal/strconv.uint64pow10" .u64 Lib.pow10Tab 0 pow10_g]) (fun _ => [.own 33 2 R_Api_TokenD (.slice qp0 qn1 qc2) ((u1_0_l.set ((a3 + u1_10).toNat) x71).set ((a3 + j_1_11).toNat) x77), .own 3 1 R_i64 (.slice (some qp3) qn4 qc5) l4]) ?_ ?_
     ·
      refine wc_draw [0,1,2,3,4,5,6,7,8,9,10,11,12,14,15,16,17,18,20,22] rfl rfl (fun hok => (xP hok 0 rfl (xP hok 1 rfl (xP hok 2 rfl (xP hok 3 rfl (wx_as (d := 62) (v' := .int .i64 (a3 + u1_10)) (S' := [_,_,_,_,_,_,_,_,_]) rfl rfl (i64_in hg62) (xP hok 4 rfl (xP hok 5 rfl (xP hok 6 rfl (xP hok 7 rfl (wx_as (d := 66) (v' := .int .i64 (a3 + j_1_11)) (S' := [_,_,_,_,_,_,_,_,_,_,_,_,_]) rfl rfl (i64_in hg66) (xP hok 8 rfl (xP hok 9 rfl (xP hok 10 rfl ?_))))))))))))))
      refine xP hok 11 rfl (wx_as (d := 70) (v' := .int .i64 (a3 + j_1_11)) (S' := [_,_,_,_,_,_,_,_,_,_,_,_,_,_,_,_,_]) rfl rfl (i64_in hg70) (wx_indexH hok 12 0 ((a3 + j_1_11).toNat) rfl rfl rfl (freshS_eq rfl) rfl rfl rfl rfl rfl (toNat_eq hn71) (get_lt hx71) tE_23 tS_33 (fun g71 eg71 => ?_)))
      subst eg71
      refine xP hok 14 rfl (xP hok 15 rfl (xP hok 16 rfl (xP hok 17 rfl (wx_as (d := 76) (v' := .int .i64 (a3 + u1_10)) (S' := [_,_,_,_,_,_,_,_,_,_,_,_,_,_,_,_,_,_,_,_,_,_]) rfl rfl (i64_in hg76) (wx_indexK hok 18 0 ((a3 + u1_10).toNat) rfl rfl rfl (freshS_eq rfl) rfl rfl rfl rfl rfl (toNat_eq hn77) (get_lt hx77) tE_23 tS_33 ?_)))))
      refine wx_step2 hok 13 19 rfl rfl rfl rfl rfl rfl ?_ ?_
      ·
       refine wl_loadRow R_Api_TokenD_opens 0 ((a3 + j_1_11).toNat) 0 rfl rfl rfl (freshS_eq rfl) rfl rfl rfl hx71 tS_33 tA_33 (v := fun r72 => .agg #[.int .i64 (x71.rule), .slice r72.1 x71.ids.length r72.2]) (fun _ => rfl) (fun _ => rfl) (fun r72 _ => (wl_nil (we_x [1] [] rfl rfl (xS hok 19 rfl (wl_loadRow R_Api_TokenD_opens 0 ((a3 + u1_10).toNat) 0 rfl rfl rfl (freshS_eq rfl) rfl rfl rfl hx77 tS_33 tA_33 (v := fun r78 => .agg #[.int .i64 (x77.rule), .slice r78.1 x77.ids.length r78.2]) (fun _ => rfl) (fun _ => rfl) (fun r78 _ => (wl_nil (we_x [1,2] [] rfl rfl (wx_indexK hok 20 0 ((a3 + u1_10).toNat) rfl rfl rfl (freshS_eq rfl) rfl rfl rfl rfl rfl (toNat_eq hn79) (get_lt hx79) tE_23 tS_33 (xS hok 21 rfl (wl_storeRow (u := x71) 0 ((a3 + u1_10).toNat) rfl rfl rfl rfl rfl (get_lt hx79) rfl rfl tS_33 rfl (fun F w hφ => ⟨(r72.1, r72.2), rfl, (ask_cons (hφ _ (mem_at (k := 1) rfl)) ask_nil)⟩) (H' := [_,_]) rfl (wl_nil (we_x [0,1,2] [] rfl rfl (wx_indexK hok 22 0 ((a3 + j_1_11).toNat) rfl rfl rfl (freshS_eq rfl) rfl rfl rfl rfl rfl (toNat_eq hn80) (get_lt hx80) tE_23 tS_33 (xS hok 23 rfl ?_)))))))))))))))
       refine wl_storeRow (u := x77) 0 ((a3 + j_1_11).toNat) rfl rfl rfl rfl rfl (get_lt hx80) rfl rfl tS_33 rfl (fun F w hφ => ⟨(r78.1, r78.2), rfl, (ask_cons (hφ _ (mem_at (k := 0) rfl)) ask_nil)⟩) (H' := [_,_]) rfl (wl_nil (we_x [0,1,2] [] rfl rfl (wx_done hok rfl ?_)))
       refine we_join () trivial [11,0,2,3,4] rfl (asK [2] rfl) rfl
      ·
       refine wl_loadRow R_Api_TokenD_opens 0 ((a3 + u1_10).toNat) 0 rfl rfl rfl (freshS_eq rfl) rfl rfl rfl hx77 tS_33 tA_33 (v := fun r78 => .agg #[.int .i64 (x77.rule), .slice r78.1 x77.ids.length r78.2]) (fun _ => rfl) (fun _ => rfl) (fun r78 _ => (wl_nil (we_x [1] [] rfl rfl (xS hok 13 rfl (wl_loadRow R_Api_TokenD_opens 0 ((a3 + j_1_11).toNat) 0 rfl rfl rfl (freshS_eq rfl) rfl rfl rfl hx71 tS_33 tA_33 (v := fun r72 => .agg #[.int .i64 (x71.rule), .slice r72.1 x71.ids.length r72.2]) (fun _ => rfl) (fun _ => rfl) (fun r72 _ => (wl_nil (we_x [1,2] [] rfl rfl (wx_indexK hok 20 0 ((a3 + u1_10).toNat) rfl rfl rfl (freshS_eq rfl) rfl rfl rfl rfl rfl (toNat_eq hn79) (get_lt hx79) tE_23 tS_33 (xS hok 21 rfl (wl_storeRow (u := x71) 0 ((a3 + u1_10).toNat) rfl rfl rfl rfl rfl (get_lt hx79) rfl rfl tS_33 rfl (fun F w hφ => ⟨(r72.1, r72.2), rfl, (ask_cons (hφ _ (mem_at (k := 0) rfl)) ask_nil)⟩) (H' := [_,_]) rfl (wl_nil (we_x [0,1,2] [] rfl rfl (wx_indexK hok 22 0 ((a3 + j_1_11).toNat) rfl rfl rfl (freshS_eq rfl) rfl rfl rfl rfl rfl (toNat_eq hn80) (get_lt hx80) tE_23 tS_33 (xS hok 23 rfl ?_)))))))))))))))
       refine wl_storeRow (u := x77) 0 ((a3 + j_1_11).toNat) rfl rfl rfl rfl rfl (get_lt hx80) rfl rfl tS_33 rfl (fun F w hφ => ⟨(r78.1, r78.2), rfl, (ask_cons (hφ _ (mem_at (k := 1) rfl)) ask_nil)⟩) (H' := [_,_]) rfl (wl_nil (we_x [0,1,2] [] rfl rfl (wx_done hok rfl ?_)))
       refine we_join () trivial [11,0,2,3,4] rfl (asK [2] rfl) rfl
     ·
      rintro _ _
      try dsimp only
      refine wc_region (wP rfl (wP rfl (wl_nil (we_block_normal ?_))))
      have hE := (Option.some.inj hm).symm
      replace hE := link_inl hLu1 hE
      refine we_roundK (_, j_1_11, (u1_0_l.set ((a3 + u1_10).toNat) x71).set ((a3 + j_1_11).toNat) x77) (Nat.lt_succ_self _) hE [10,0,2,3,4] rfl (asK [0] rfl) rfl
end Go.Proofs.YtgangmegcejllaaDoor
