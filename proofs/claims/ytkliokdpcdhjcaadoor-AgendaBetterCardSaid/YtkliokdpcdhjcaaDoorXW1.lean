import Derived.Test.YtkliokdpcdhjcaaDoorXM
import Derived.Test.YtkliokdpcdhjcaaDoorTypes
import Derived.Test.YtkliokdpcdhjcaaDoorAuto
import Derived.Test.YtkliokdpcdhjcaaDoorEqT
import Derived.Test.YtkliokdpcdhjcaaDoorSortM
import Derived.Test.YtkliokdpcdhjcaaDoorSrtA
import Derived.Test.YtkliokdpcdhjcaaDoorAw
import Derived.Test.YtkliokdpcdhjcaaDoorMapK
import Derived.Test.YtkliokdpcdhjcaaDoorStar
import Derived.Test.YtkliokdpcdhjcaaDoorMapE
import Derived.Laws.BytesArg
import Derived.Laws.BytesString
import Derived.Laws.IdiomStrings
import Derived.Lib.LaidTab
import Derived.Lib.ItoaNum
import Derived.LaidSub
import Derived.Test.YtkliokdpcdhjcaaDoorFlat
import Derived.Test.YtkliokdpcdhjcaaDoorShort
import Derived.Test.YtkliokdpcdhjcaaDoorShelf
import Derived.Test.YtkliokdpcdhjcaaDoorAb
namespace Go.Proofs.YtkliokdpcdhjcaaDoor
open Go.RowKit
set_option maxRecDepth 100000
set_option maxHeartbeats 4000000
theorem w_ropewalklaw14_great_s (N : Nat) (qp0 : Option Addr) (qc1 : Nat) (l0 : List Api_TokenD) (o0 : Bool) (hm : m_ropewalklaw14_great N l0 = some o0) : Spec Tryd.prog 4 [.slice qp0 l0.length qc1] [.sli 2 R_Api_TokenD qp0 qc1 l0] [] (fun v Φr Hr => v = .bool o0 ∧ Φr = [] ∧ Hr = []) := by
 unfold m_ropewalklaw14_great at hm
 refine spec_of Tryd.func4 rfl Tryd.ntmps4 rfl (S := [_]) rfl (fun C => (wc_seq (wc_region (wP rfl (wl_nil (we_then (wc_keep [0] (S' := [_]) rfl (wc_seq (wc_region (wP rfl (wN rfl tE_26 (wP rfl (wl_nil (we_then ?_))))))))))))))
 refine wc_keep [3,0] (S' := [_,_]) rfl (wc_seq ?_)
 obtain ⟨bj_1, hm, hLj_1⟩ := bindO_some hm
 refine wc_cut (σ := Nat) (fun j_1_3 => bj_1 = j_1_3) (fun j_1_3 => [(3, .int .i64 ((j_1_3 : Nat) : Int))]) (fun j_1_3 => []) (fun j_1_3 => []) ?_ ?_
 ·
  refine wc_seq (wc_region (wP rfl (wl_nil (we_then (wc_block (wc_loop (σ := Nat × Nat × Nat) (fun (nu1, u1_4, u1_3) => iter (m_ropewalklaw14_great_L1 N l0) nu1 (u1_4, u1_3) = some bj_1) (fun (nu1, u1_4, u1_3) => nu1) (fun (nu1, u1_4, u1_3) => [(4, .int .i64 ((u1_4 : Nat) : Int)), (3, .int .i64 ((u1_3 : Nat) : Int)), (0, .slice qp0 l0.length qc1)]) (fun (nu1, u1_4, u1_3) => [.sli 2 R_Api_TokenD qp0 qc1 l0]) (fun (nu1, u1_4, u1_3) => []) (N, 0, l0.length) hm [4,3,0] rfl (asK [0] rfl) rfl (fun s_ hm => ?_)))))))
  obtain ⟨nu1, u1_4, u1_3⟩ := s_
  try dsimp only at hm ⊢
  obtain ⟨mu1, bu1, hnu1, hq, hLu1⟩ := iter_some hm
  clear hm
  subst hnu1
  replace hm := hq
  clear hq
  unfold m_ropewalklaw14_great_L1 at hm
  try dsimp only at hm
  refine wc_seq (wc_seq ?_)
  obtain ⟨bj_2, hm, hLj_2⟩ := bindO_some hm
  refine wc_cut (σ := Bool) (fun j_2_14 => bj_2 = j_2_14) (fun j_2_14 => [(4, .int .i64 ((u1_4 : Nat) : Int)), (3, .int .i64 ((u1_3 : Nat) : Int)), (0, .slice qp0 l0.length qc1), (14, .bool j_2_14)]) (fun j_2_14 => [.sli 2 R_Api_TokenD qp0 qc1 l0]) (fun j_2_14 => []) ?_ ?_
  ·
   refine wc_region (wP rfl (wP rfl (wN rfl tE_26 (wP rfl (wl_as (d := 10) (v' := .bool (decide (u1_4 < l0.length))) (S' := [_,_,_,_,_,_]) rfl rfl (natlt (a := u1_4) (b := l0.length)) (wP rfl ?_))))))
   refine wl_split (d := 11) (S' := [_,_,_,_,_,_,_]) rfl rfl (fun hs11 => ?_) (fun hs11 => ?_)
   ·
    replace hm := iteT hm hs11
    refine wP rfl (wP rfl (wl_as (d := 13) (v' := .bool (decide (u1_3 ≤ 400))) (S' := [_,_,_,_,_,_,_,_,_]) rfl rfl (natle (a := u1_3) (b := 400)) (wP rfl (wl_nil ?_))))
    have hE := (Option.some.inj hm).symm
    refine we_join (decide (u1_3 ≤ 400)) hE [4,3,0,14] rfl (asK [0] rfl) rfl
   ·
    replace hm := iteF hm hs11
    refine wO rfl (wO rfl (wP rfl (wl_nil ?_)))
    have hE := (Option.some.inj hm).symm
    refine we_join false hE [4,3,0,14] rfl (asK [0] rfl) rfl
  ·
   rintro j_2_14 hE
   try dsimp only
   have hm := hLj_2
   rw [hE] at hm
   refine wc_cond rfl (fun hb14 => ?_) (fun hb14 => ?_)
   ·
    replace hm := iteT hm hb14
    refine wc_keep [4,3,0] (S' := [_,_,_]) rfl (wc_skip (we_then (wc_seq (wc_block (wc_region (wP rfl (wP rfl (wP rfl ?_))))))))
    obtain ⟨x20, hx20, hm⟩ := bindO_some hm
    refine wl_indexA 0 u1_4 rfl rfl rfl (freshS_eq rfl) rfl rfl rfl rfl rfl hx20 tE_26 tS_24 (fun b20 q20 cs20 hlx20 => (wl_open R_Api_TokenD_opens 1 rfl (fun r20 er20 _ => ?_)))
    subst er20
    refine wF rfl tF_24_1 (wl_load 1 1 rfl rfl rfl (freshS_eq rfl) rfl rfl rfl (cs := [_]) rfl tS_22 tA_22 rfl rfl (wN rfl tE_22 (wP rfl ?_)))
    obtain ⟨hg24, hm⟩ := gd_some hm
    refine wl_as (d := 24) (v' := .int .i64 ((u1_3 + x20.ids.length : Nat) : Int)) (S' := [_,_,_,_,_,_,_,_,_,_]) rfl rfl (nat_add (a := u1_3) (b := x20.ids.length) hg24) (wl_pure (S' := [_,_,_,_,_,_,_,_,_,_]) rfl rfl rfl rfl rfl (wl_nil (we_block_normal (we_then (wc_keep [3,4,0] (S' := [_,_,_]) rfl (wc_region (wP rfl (wP rfl ?_))))))))
    obtain ⟨hg16, hm⟩ := gd_some hm
    refine wl_as (d := 16) (v' := .int .i64 ((u1_4 + 1 : Nat) : Int)) (S' := [_,_,_,_]) rfl rfl (nat_add (a := u1_4) (b := 1) hg16) (wl_pure (S' := [_,_,_,_]) rfl rfl rfl rfl rfl (wl_nil ?_))
    have hE := (Option.some.inj hm).symm
    replace hE := link_inl hLu1 hE
    refine we_roundK (_, u1_4 + 1, u1_3 + x20.ids.length) (Nat.lt_succ_self _) hE [4,3,0] rfl (asK [3] rfl) rfl
   ·
    replace hm := iteF hm hb14
    refine wc_keep [3] (S' := [_]) rfl (wc_exit (we_then_exit (we_then_exit (we_block_hit ?_))))
    have hE := (Option.some.inj hm).symm
    replace hE := link_inr hLu1 hE
    refine we_join u1_3 hE [3] rfl (asK [] rfl) rfl
 ·
  rintro j_1_3 hE
  try dsimp only
  have hm := hLj_1
  rw [hE] at hm
  refine wc_seq (wc_region (wP rfl (wP rfl (wl_as (d := 26) (v' := .bool (decide (400 < j_1_3))) (S' := [_,_]) rfl rfl (natgt (a := j_1_3) (b := 400)) (wP rfl (wl_nil (we_then (wc_keep [2] (S' := [_]) rfl (wc_ret ?_)))))))))
  have hE := (Option.some.inj hm).symm
  replace hE := hE.symm
  subst hE
  refine ret_one (Hr := []) [] Tryd.results4 (res_tmp rfl) ⟨rfl, rfl, rfl⟩ (asK [] rfl) rfl rfl (.inl rfl)
theorem w_ropewalklaw14_of_s (N : Nat) (qp0 : Option Addr) (qc1 : Nat) (l0 : List Int) (o2 : List Api_RuleD) (hm : m_ropewalklaw14_of N l0 = some o2) : Spec Tryd.prog 6 [.slice qp0 l0.length qc1] [.sli 1 R_i64 qp0 qc1 l0] [] (fun v Φr Hr => ∃ (o0 : Option Addr) (o1 : Nat) (o3 : Nat), v = .agg #[.slice none 0 0, .slice o0 o3 o1] ∧ Φr = [] ∧ Hr = [.own 49 5 R_Api_RuleD (.slice o0 o3 o1) o2]) := by
 unfold m_ropewalklaw14_of at hm
 refine spec_of Tryd.func6 rfl Tryd.ntmps6 rfl (S := [_]) rfl (fun C => (wc_seq (wc_region (wl_alloc rfl rfl rfl (freshS_eq rfl) rfl tZ_31 rfl (fun g2 => (wl_nil (we_then (wc_seq (wc_region (wl_alloc rfl rfl rfl (freshS_eq rfl) rfl tZ_31 rfl (fun g3 => (wl_nil (we_then (wc_seq ?_))))))))))))))
 obtain ⟨bj_1, hm, hLj_1⟩ := bindO_some hm
 refine wc_cut (σ := (List Api_RuleD) × (Option Addr) × Nat × Nat) (fun (j_1_3_f1_l, j_1_3_f1_p, j_1_3_f1_c, j_1_3_f1_n) => bj_1 = j_1_3_f1_l) (fun (j_1_3_f1_l, j_1_3_f1_p, j_1_3_f1_c, j_1_3_f1_n) => [(2, .pointer (some ⟨g2,0, none⟩)), (3, .pointer (some ⟨g3,0, none⟩))]) (fun (j_1_3_f1_l, j_1_3_f1_p, j_1_3_f1_c, j_1_3_f1_n) => []) (fun (j_1_3_f1_l, j_1_3_f1_p, j_1_3_f1_c, j_1_3_f1_n) => [.blk g2 [.slice none 0 0, .slice none 0 0] 31, .blk g3 [.slice none 0 0, .slice j_1_3_f1_p j_1_3_f1_n j_1_3_f1_c] 31, .own 49 5 R_Api_RuleD (.slice j_1_3_f1_p j_1_3_f1_n j_1_3_f1_c) j_1_3_f1_l]) ?_ ?_
 ·
  refine wc_seq (wc_region (wP rfl (wl_nil (we_then (wc_block (wc_rowNil 49 5 R_Api_RuleD (wc_pick [1,0,2] rfl (H' := [_,_,_]) rfl (wc_loop (σ := Nat × Nat × (List Api_RuleD) × (Option Addr) × Nat × Nat) (fun (nu1, u1_4, u1_3_f1_l, u1_3_f1_p, u1_3_f1_c, u1_3_f1_n) => iter (m_ropewalklaw14_of_L1 N l0) nu1 (u1_4, u1_3_f1_l) = some bj_1) (fun (nu1, u1_4, u1_3_f1_l, u1_3_f1_p, u1_3_f1_c, u1_3_f1_n) => nu1) (fun (nu1, u1_4, u1_3_f1_l, u1_3_f1_p, u1_3_f1_c, u1_3_f1_n) => [(4, .int .i64 ((u1_4 : Nat) : Int)), (3, .pointer (some ⟨g3,0, none⟩)), (2, .pointer (some ⟨g2,0, none⟩)), (0, .slice qp0 l0.length qc1)]) (fun (nu1, u1_4, u1_3_f1_l, u1_3_f1_p, u1_3_f1_c, u1_3_f1_n) => [.sli 1 R_i64 qp0 qc1 l0]) (fun (nu1, u1_4, u1_3_f1_l, u1_3_f1_p, u1_3_f1_c, u1_3_f1_n) => [.blk g3 [.slice none 0 0, .slice u1_3_f1_p u1_3_f1_n u1_3_f1_c] 31, .own 49 5 R_Api_RuleD (.slice u1_3_f1_p u1_3_f1_n u1_3_f1_c) u1_3_f1_l, .blk g2 [.slice none 0 0, .slice none 0 0] 31]) (N, 0,[], none, 0,0) hm [4,3,2,0] rfl (asK [0] rfl) rfl (fun s_ hm => ?_)))))))))
  obtain ⟨nu1, u1_4, u1_3_f1_l, u1_3_f1_p, u1_3_f1_c, u1_3_f1_n⟩ := s_
  try dsimp only at hm ⊢
  obtain ⟨mu1, bu1, hnu1, hq, hLu1⟩ := iter_some hm
  clear hm
  subst hnu1
  replace hm := hq
  clear hq
  unfold m_ropewalklaw14_of_L1 at hm
  try dsimp only at hm
  refine wc_seq (wc_seq (wc_region (wP rfl (wP rfl (wN rfl tE_22 (wP rfl (wl_as (d := 8) (v' := .bool (decide (u1_4 < l0.length))) (S' := [_,_,_,_,_,_,_]) rfl rfl (natlt (a := u1_4) (b := l0.length)) (wl_nil (we_then (wc_keep [8,4,3,2,0] (S' := [_,_,_,_,_]) rfl ?_))))))))))
  refine wc_cond rfl (fun hb8 => ?_) (fun hb8 => ?_)
  ·
   replace hm := iteT hm hb8
   refine wc_keep [4,3,2,0] (S' := [_,_,_,_]) rfl (wc_skip (we_then (wc_seq (wc_block ?_))))
   obtain ⟨x15, hx15, hm⟩ := bindO_some hm
   obtain ⟨hg19, hm⟩ := gd_some hm
   refine wc_draw [0,1,2,3,4,5,6,9] rfl rfl (fun hok => (wx_fieldAddr hok 0 rfl rfl rfl (freshS_eq rfl) rfl rfl rfl tF_31_1 (wx_loadH hok 1 0 1 rfl rfl rfl (freshS_eq rfl) rfl rfl rfl rfl (cs := [_]) rfl tS_29 tA_29 rfl rfl (xP hok 2 rfl (xP hok 3 rfl (wx_indexA hok 4 0 u1_4 rfl rfl rfl (freshS_eq rfl) rfl rfl rfl rfl rfl rfl hx15 tE_22 tS_3 (fun b15 q15 cs15 hlx15 => (wx_openR R_i64_opens 1 rfl (fun r15 er15 _ => ?_)))))))))
   subst er15
   refine wx_load hok 5 0 0 rfl rfl rfl (freshS_eq rfl) rfl rfl rfl rfl (cs := [_]) rfl tS_3 tA_3 rfl rfl (wx_build hok 6 rfl rfl rfl (freshS_eq rfl) rfl rfl tZ_49 tP_49 rfl (out := [_,_,_,_,_]) rfl (xS hok 7 rfl (wl_buildSlice rfl rfl rfl (freshS_eq rfl) rfl tE_29 tS_49 tZ_49 rfl (zs := [.string ((⟨#[]⟩ : ByteArray)), .int .i64 0, .int .i64 0, .slice none 0 0, .slice none 0 0]) (by kernel_rfl) rfl (out := [_,_,_,_,_]) rfl (fun g18 => (wl_nil (we_x [0,1,2] [1] rfl rfl (xS hok 8 rfl (wl_appendH ([(⟨(⟨#[]⟩ : ByteArray), x15,0,[],[]⟩ : Api_RuleD)]) 2 0 rfl rfl rfl (freshS_eq rfl) rfl rfl rfl rfl rfl (fun F w hφ => ⟨[.string ((⟨#[]⟩ : ByteArray)), .int .i64 x15, .int .i64 0, .slice none 0 0, .slice none 0 0],[], rfl, rfl, ⟨((none, 0), (none, 0)), rfl, (ask_cons sli_none (ask_cons sli_none ask_nil))⟩, rfl⟩) tE_29 tR_49 rfl rfl (Nat.le_trans hg19 (by decide)) (Nat.le_trans (Nat.mul_le_mul_right _ hg19) (by decide)) (H2 := fun p19 c19 => [_,_, .own 49 5 R_Api_RuleD (.slice p19 ((u1_3_f1_l ++ ([(⟨(⟨#[]⟩ : ByteArray), x15,0,[],[]⟩ : Api_RuleD)])).length) c19) (u1_3_f1_l ++ ([(⟨(⟨#[]⟩ : ByteArray), x15,0,[],[]⟩ : Api_RuleD)])), _]) (fun _ _ => rfl) (fun p19 c19 => (wl_drop 0 rfl (H' := [_,_,_]) rfl (wl_nil (we_x [0,1,2] [] rfl rfl (wx_fieldAddr hok 9 rfl rfl rfl (freshS_eq rfl) rfl rfl rfl tF_31_1 (xS hok 10 rfl (wS 0 1 rfl tS_29 (all' := [_,_]) rfl (H' := [_,_,_]) rfl ?_)))))))))))))))
   refine wl_nil (we_x [0,1,2] [] rfl rfl (wx_done hok rfl (we_block_normal (we_then (wc_keep [4,3,2,0] (S' := [_,_,_,_]) rfl (wc_region (wP rfl (wP rfl ?_))))))))
   obtain ⟨hg10, hm⟩ := gd_some hm
   refine wl_as (d := 10) (v' := .int .i64 ((u1_4 + 1 : Nat) : Int)) (S' := [_,_,_,_,_]) rfl rfl (nat_add (a := u1_4) (b := 1) hg10) (wl_pure (S' := [_,_,_,_,_]) rfl rfl rfl rfl rfl (wl_nil ?_))
   have hE := (Option.some.inj hm).symm
   replace hE := link_inl hLu1 hE
   refine we_roundK (_, u1_4 + 1, (u1_3_f1_l ++ ([(⟨(⟨#[]⟩ : ByteArray), x15,0,[],[]⟩ : Api_RuleD)])), p19, c19, ((u1_3_f1_l ++ ([(⟨(⟨#[]⟩ : ByteArray), x15,0,[],[]⟩ : Api_RuleD)])).length)) (Nat.lt_succ_self _) hE [4,3,2,0] rfl (asK [2] rfl) rfl
  ·
   replace hm := iteF hm hb8
   refine wc_keep [3,2] (S' := [_,_]) rfl (wc_exit (we_then_exit (we_then_exit (we_block_hit ?_))))
   have hE := (Option.some.inj hm).symm
   replace hE := link_inr hLu1 hE
   refine we_pick [2,0,1] rfl (H' := [_,_,_]) rfl ?_
   refine we_join (u1_3_f1_l, u1_3_f1_p, u1_3_f1_c, u1_3_f1_n) hE [2,3] rfl (asK [] rfl) rfl
 ·
  rintro ⟨j_1_3_f1_l, j_1_3_f1_p, j_1_3_f1_c, j_1_3_f1_n⟩ hE
  try dsimp only
  have hm := hLj_1
  rw [hE] at hm
  refine wc_seq (wc_region (wl_loadH 1 0 rfl rfl rfl (freshS_eq rfl) rfl rfl rfl (cs := [_,_]) rfl tS_31 tA_31 rfl rfl (wS 0 0 rfl tS_31 (all' := [_,_]) rfl (H' := [_,_,_]) rfl (wl_nil (we_then (wc_keep [2] (S' := [_]) rfl (wc_ret ?_)))))))
  have hE := (Option.some.inj hm).symm
  replace hE := hE.symm
  subst hE
  refine ret_one (Hr := [_]) [2] Tryd.results6 (res_cell 0 rfl rfl tS_31 tA_31 rfl rfl) ⟨j_1_3_f1_p, j_1_3_f1_c, j_1_3_f1_n, rfl, rfl, rfl⟩ (asK [] rfl) rfl rfl (.inl rfl)
theorem w_ropewalkkit_mark_s (N : Nat) (a0 : Int) (a1 : Int)  (hm : m_ropewalkkit_mark N a0 a1 = some ()) : Spec Tryd.prog 35 [.int .i64 a0, .int .i64 a1] [] [] (fun v Φr Hr => v = .int .i64 (IntKind.wrap .i64 ((IntKind.wrap .i64 (1000003 * (IntKind.wrap .i64 (a0 + 7)))) + a1)) ∧ Φr = [] ∧ Hr = []) := by
 unfold m_ropewalkkit_mark at hm
 refine spec_of Tryd.func35 rfl Tryd.ntmps35 rfl (S := [_,_]) rfl (fun C => (wc_seq (wc_region (wP rfl (wl_nil (we_then (wc_keep [0,1] (S' := [_,_]) rfl (wc_seq (wc_region (wP rfl (wP rfl (wP rfl (wP rfl (wP rfl ?_))))))))))))))
 refine wP rfl (wl_nil (we_then (wc_keep [4] (S' := [_]) rfl (wc_ret ?_))))
 have hE := (Option.some.inj hm).symm
 refine ret_one (Hr := []) [] Tryd.results35 (res_tmp rfl) ⟨rfl, rfl, rfl⟩ (asK [] rfl) rfl rfl (.inl rfl)
theorem w_ropewalkkit_LentInts_s (N : Nat) (qp0 : Option Addr) (qc1 : Nat) (l0 : List Int) (o2 : List Int) (hm : m_ropewalkkit_LentInts N l0 = some o2) : Spec Tryd.prog 18 [.slice qp0 l0.length qc1] [.sli 1 R_i64 qp0 qc1 l0] [] (fun v Φr Hr => ∃ (o0 : Option Addr) (o1 : Nat) (o3 : Nat), v = .slice o0 l0.length o1 ∧ Φr = [] ∧ Hr = [.own 3 1 R_i64 (.slice o0 o3 o1) o2]) := by
 unfold m_ropewalkkit_LentInts at hm
 refine spec_of Tryd.func18 rfl Tryd.ntmps18 rfl (S := [_]) rfl (fun C => (wc_seq (wc_region (wP rfl (wl_nil (we_then (wc_keep [0] (S' := [_]) rfl (wc_seq (wc_region (wP rfl (wN rfl tE_22 (wP rfl ?_))))))))))))
 obtain ⟨hg7, hm⟩ := gd_some hm
 refine wl_as (d := 7) (v' := .int .i64 ((l0.length + 12 : Nat) : Int)) (S' := [_,_,_]) rfl rfl (nat_add (a := l0.length) (b := 12) hg7) ?_
 obtain ⟨hg8, hm⟩ := gd_some hm
 refine wl_makeCap (m := l0.length + 12) R_i64 rfl rfl rfl (freshS_eq rfl) rfl rfl rfl rfl tE_22 tR_3 rfl rfl (Nat.le_trans (Nat.mul_le_mul_left _ hg8) (by decide)) (Nat.le_trans hg8 (by decide)) (fun g8 => (wP rfl (wl_nil (we_then (wc_keep [3,0] (S' := [_,_]) rfl (wc_seq (wc_region (wP rfl (wP rfl ?_)))))))))
 obtain ⟨hg11, hm⟩ := gd_some hm
 refine wl_append 0 0 rfl rfl rfl (freshS_eq rfl) rfl rfl rfl rfl rfl tE_22 tR_3 rfl rfl (Nat.le_trans hg11 (by decide)) (Nat.le_trans (Nat.mul_le_mul_right _ hg11) (by decide)) (H2 := fun p11 c11 => [.own 3 1 R_i64 (.slice p11 (l0).length c11) l0]) (fun _ _ => rfl) (fun p11 c11 => (wl_pure (S' := [_,_,_,_]) rfl rfl rfl rfl rfl (wl_nil (we_then (wc_keep [3,0] (S' := [_,_]) rfl (wc_seq ?_))))))
 obtain ⟨bj_1, hm, hLj_1⟩ := bindO_some hm
 refine wc_cut (σ := (List Int) × (Option Addr) × Nat × Nat) (fun (j_1_3_l, j_1_3_p, j_1_3_c, j_1_3_n) => bj_1 = j_1_3_l) (fun (j_1_3_l, j_1_3_p, j_1_3_c, j_1_3_n) => [(3, .slice j_1_3_p j_1_3_n j_1_3_c), (0, .slice qp0 l0.length qc1)]) (fun (j_1_3_l, j_1_3_p, j_1_3_c, j_1_3_n) => [.sli 1 R_i64 qp0 qc1 l0]) (fun (j_1_3_l, j_1_3_p, j_1_3_c, j_1_3_n) => [.own 3 1 R_i64 (.slice j_1_3_p j_1_3_n j_1_3_c) j_1_3_l]) ?_ ?_
 ·
  refine wc_seq (wc_region (wP rfl (wl_nil (we_then (wc_block (wc_loop (σ := Nat × Nat × (List Int) × (Option Addr) × Nat × Nat) (fun (nu1, u1_4, u1_3_l, u1_3_p, u1_3_c, u1_3_n) => iter (m_ropewalkkit_LentInts_L1 N) nu1 (u1_4, u1_3_l) = some bj_1) (fun (nu1, u1_4, u1_3_l, u1_3_p, u1_3_c, u1_3_n) => nu1) (fun (nu1, u1_4, u1_3_l, u1_3_p, u1_3_c, u1_3_n) => [(4, .int .i64 ((u1_4 : Nat) : Int)), (3, .slice u1_3_p u1_3_n u1_3_c), (0, .slice qp0 l0.length qc1)]) (fun (nu1, u1_4, u1_3_l, u1_3_p, u1_3_c, u1_3_n) => [.sli 1 R_i64 qp0 qc1 l0]) (fun (nu1, u1_4, u1_3_l, u1_3_p, u1_3_c, u1_3_n) => [.own 3 1 R_i64 (.slice u1_3_p u1_3_n u1_3_c) u1_3_l]) (N, 0, l0, p11, c11, (l0).length) hm [4,3,0] rfl (asK [0] rfl) rfl (fun s_ hm => ?_)))))))
  obtain ⟨nu1, u1_4, u1_3_l, u1_3_p, u1_3_c, u1_3_n⟩ := s_
  try dsimp only at hm ⊢
  obtain ⟨mu1, bu1, hnu1, hq, hLu1⟩ := iter_some hm
  clear hm
  subst hnu1
  replace hm := hq
  clear hq
  unfold m_ropewalkkit_LentInts_L1 at hm
  try dsimp only at hm
  refine wc_seq (wc_seq (wc_region (wP rfl (wP rfl (wl_as (d := 13) (v' := .bool (decide (u1_4 < 12))) (S' := [_,_,_,_]) rfl rfl (natlt (a := u1_4) (b := 12)) (wl_nil (we_then (wc_keep [13,4,3,0] (S' := [_,_,_,_]) rfl ?_))))))))
  refine wc_cond rfl (fun hb13 => ?_) (fun hb13 => ?_)
  ·
   replace hm := iteT hm hb13
   refine wc_keep [4,3,0] (S' := [_,_,_]) rfl (wc_skip (we_then (wc_seq (wc_block (wc_region (wP rfl (wP rfl ?_)))))))
   obtain ⟨_, hc18, hm⟩ := bindO_some hm
   try dsimp only at hm
   refine wC [] [0] rfl fn_35 rfl (w_ropewalkkit_mark_s N 1 ((u1_4 : Nat) : Int) hc18) (asK [] rfl) rfl (H' := [_]) rfl ?_
   rintro _ _ _ ⟨rfl, rfl, rfl⟩
   refine wl_buildSlice rfl rfl rfl (freshS_eq rfl) rfl tE_22 tS_3 tZ_3 rfl (zs := [.int .i64 0]) (by kernel_rfl) rfl (out := [_]) rfl (fun g19 => ?_)
   obtain ⟨hg20, hm⟩ := gd_some hm
   refine wl_appendH ([(IntKind.wrap .i64 ((IntKind.wrap .i64 (1000003 * (IntKind.wrap .i64 (1 + 7)))) + ((u1_4 : Nat) : Int)))]) 1 0 rfl rfl rfl (freshS_eq rfl) rfl rfl rfl rfl rfl (fun F w hφ => ⟨[.int .i64 (IntKind.wrap .i64 ((IntKind.wrap .i64 (1000003 * (IntKind.wrap .i64 (1 + 7)))) + ((u1_4 : Nat) : Int)))],[], rfl, rfl, ⟨(), rfl, ask_nil⟩, rfl⟩) tE_22 tR_3 rfl rfl (Nat.le_trans hg20 (by decide)) (Nat.le_trans (Nat.mul_le_mul_right _ hg20) (by decide)) (H2 := fun p20 c20 => [_, .own 3 1 R_i64 (.slice p20 ((u1_3_l ++ ([(IntKind.wrap .i64 ((IntKind.wrap .i64 (1000003 * (IntKind.wrap .i64 (1 + 7)))) + ((u1_4 : Nat) : Int)))])).length) c20) (u1_3_l ++ ([(IntKind.wrap .i64 ((IntKind.wrap .i64 (1000003 * (IntKind.wrap .i64 (1 + 7)))) + ((u1_4 : Nat) : Int)))]))]) (fun _ _ => rfl) (fun p20 c20 => (wl_drop 0 rfl (H' := [_]) rfl (wl_pure (S' := [_,_,_,_,_,_,_]) rfl rfl rfl rfl rfl (wl_nil (we_block_normal (we_then (wc_keep [3,4,0] (S' := [_,_,_]) rfl (wc_region (wP rfl (wP rfl ?_))))))))))
   obtain ⟨hg15, hm⟩ := gd_some hm
   refine wl_as (d := 15) (v' := .int .i64 ((u1_4 + 1 : Nat) : Int)) (S' := [_,_,_,_]) rfl rfl (nat_add (a := u1_4) (b := 1) hg15) (wl_pure (S' := [_,_,_,_]) rfl rfl rfl rfl rfl (wl_nil ?_))
   have hE := (Option.some.inj hm).symm
   replace hE := link_inl hLu1 hE
   refine we_roundK (_, u1_4 + 1, (u1_3_l ++ ([(IntKind.wrap .i64 ((IntKind.wrap .i64 (1000003 * (IntKind.wrap .i64 (1 + 7)))) + ((u1_4 : Nat) : Int)))])), p20, c20, ((u1_3_l ++ ([(IntKind.wrap .i64 ((IntKind.wrap .i64 (1000003 * (IntKind.wrap .i64 (1 + 7)))) + ((u1_4 : Nat) : Int)))])).length)) (Nat.lt_succ_self _) hE [4,3,0] rfl (asK [0] rfl) rfl
  ·
   replace hm := iteF hm hb13
   refine wc_keep [3,0] (S' := [_,_]) rfl (wc_exit (we_then_exit (we_then_exit (we_block_hit ?_))))
   have hE := (Option.some.inj hm).symm
   replace hE := link_inr hLu1 hE
   refine we_join (u1_3_l, u1_3_p, u1_3_c, u1_3_n) hE [3,0] rfl (asK [0] rfl) rfl
 ·
  rintro ⟨j_1_3_l, j_1_3_p, j_1_3_c, j_1_3_n⟩ hE
  try dsimp only
  have hm := hLj_1
  rw [hE] at hm
  refine wc_seq (wc_region (wP rfl (wP rfl (wN rfl tE_22 ?_))))
  obtain ⟨hg24, hm⟩ := gd_some hm
  refine wl_ownSpot 0 rfl (fun hsp24 hcm24 => (wl_sliceTo rfl rfl rfl (freshS_eq rfl) rfl rfl rfl rfl tE_22 tS_3 (Nat.le_trans hg24 (by rw [← hcm24.2]; exact hcm24.1)) hsp24 (wP rfl (wl_nil (we_then (wc_keep [2] (S' := [_]) rfl (wc_ret ?_)))))))
  have hE := (Option.some.inj hm).symm
  replace hE := hE.symm
  subst hE
  refine ret_one (Hr := [_]) [0] Tryd.results18 (res_tmp rfl) ⟨j_1_3_p, j_1_3_c, j_1_3_n, rfl, rfl, rfl⟩ (asK [] rfl) rfl rfl (.inl rfl)
theorem w_ropewalkkit_LentToken_s (N : Nat) (a0 : Int) (qp0 : Option Addr) (qc1 : Nat) (l1 : List Int) (o2 : List Int) (hm : m_ropewalkkit_LentToken N a0 l1 = some o2) : Spec Tryd.prog 7 [.agg #[.int .i64 a0, .slice qp0 l1.length qc1]] [.sli 1 R_i64 qp0 qc1 l1] [] (fun v Φr Hr => ∃ (o0 : Option Addr) (o1 : Nat) (o3 : Nat), v = .agg #[.int .i64 a0, .slice o0 l1.length o1] ∧ Φr = [] ∧ Hr = [.own 3 1 R_i64 (.slice o0 o3 o1) o2]) := by
 unfold m_ropewalkkit_LentToken at hm
 refine spec_of Tryd.func7 rfl Tryd.ntmps7 rfl (S := [_]) rfl (fun C => (wc_seq (wc_region (wB rfl (fun g1 => (wl_alloc rfl rfl rfl (freshS_eq rfl) rfl tZ_24 rfl (fun g2 => (wl_nil (we_then (wc_keep [2,1] (S' := [_,_]) rfl (wc_seq (wc_region (wF rfl tF_24_1 (wD 1 1 rfl tS_22 tA_22 rfl ?_))))))))))))))
 obtain ⟨v5, hc5, hm⟩ := bindO_some hm
 refine wC [] [0,1] rfl fn_18 rfl (w_ropewalkkit_LentInts_s N qp0 qc1 l1 _ hc5) (asK [0] rfl) rfl (H' := [_,_]) rfl ?_
 rintro _ _ _ ⟨p5_0, c5_1, c5_2, rfl, rfl, rfl⟩
 refine wF rfl tF_24_1 (wS 2 1 rfl tS_22 (all' := [_,_]) rfl (H' := [_,_,_]) rfl (wl_nil (we_then (wc_keep [2,1] (S' := [_,_]) rfl (wc_seq (wc_region (wl_loadH 2 0 rfl rfl rfl (freshS_eq rfl) rfl rfl rfl (cs := [_,_]) rfl tS_24 tA_24 rfl rfl (wS 1 0 rfl tS_24 (all' := [_,_]) rfl (H' := [_,_,_]) rfl (wl_nil (we_then (wc_keep [2] (S' := [_]) rfl (wc_ret ?_))))))))))))
 have hE := (Option.some.inj hm).symm
 replace hE := hE.symm
 subst hE
 refine ret_one (Hr := [_]) [0] Tryd.results7 (res_cell 1 rfl rfl tS_24 tA_24 rfl rfl) ⟨p5_0, c5_1, c5_2, rfl, rfl, rfl⟩ (asK [] rfl) rfl rfl (.inl rfl)
theorem w_agenda_by_s (N : Nat) (qp0 : Option Addr) (qc1 : Nat) (l0 : List Api_TypeD) (qp2 : Option Addr) (qc3 : Nat) (l1 : List Api_RuleD) (o2 : List Int) (hm : m_agenda_by N l0 l1 = some o2) : Spec Tryd.prog 19 [.agg #[.slice qp0 l0.length qc1, .slice qp2 l1.length qc3]] [.sli 2 R_Api_TypeD qp0 qc1 l0, .sli 5 R_Api_RuleD qp2 qc3 l1] [] (fun v Φr Hr => ∃ (o0 : Option Addr) (o1 : Nat) (o3 : Nat), v = .slice o0 o3 o1 ∧ Φr = [] ∧ Hr = [.own 3 1 R_i64 (.slice o0 o3 o1) o2]) := by
 unfold m_agenda_by at hm
 refine spec_of Tryd.func19 rfl Tryd.ntmps19 rfl (S := [_]) rfl (fun C => (wc_seq (wc_region (wB rfl (fun g1 => (wP rfl (wl_nil (we_then (wc_keep [1] (S' := [_]) rfl (wc_seq (wc_region (wl_buildSlice rfl rfl rfl (freshS_eq rfl) rfl tE_51 tS_3 tZ_3 rfl (zs := []) (by kernel_rfl) rfl (out := []) rfl (fun g6 => (wP rfl (wl_nil (we_then ?_))))))))))))))))
 refine wc_keep [3,1] (S' := [_,_]) rfl (wc_seq ?_)
 obtain ⟨bj_1, hm, hLj_1⟩ := bindO_some hm
 refine wc_cut (σ := (List Int) × (Option Addr) × Nat × Nat) (fun (j_1_3_l, j_1_3_p, j_1_3_c, j_1_3_n) => bj_1 = j_1_3_l) (fun (j_1_3_l, j_1_3_p, j_1_3_c, j_1_3_n) => [(3, .slice j_1_3_p j_1_3_n j_1_3_c)]) (fun (j_1_3_l, j_1_3_p, j_1_3_c, j_1_3_n) => []) (fun (j_1_3_l, j_1_3_p, j_1_3_c, j_1_3_n) => [.own 3 1 R_i64 (.slice j_1_3_p j_1_3_n j_1_3_c) j_1_3_l]) ?_ ?_
 ·
  refine wc_seq (wc_region (wF rfl tF_31_1 (wD 1 1 rfl tS_29 tA_29 rfl (wN rfl tE_29 (wP rfl (wl_nil (we_then (wc_keep [10,9,8,3] (S' := [_,_,_,_]) rfl (wc_block (wc_row (sz := 1) (m := 0) R_i64 [] 0 rfl (fun F w hφ => rfl) rfl (by decide) (H' := [_,_]) rfl (wc_pick [0] rfl (H' := [_]) rfl (wc_loop (σ := Nat × Nat × (List Int) × (Option Addr) × Nat × Nat) (fun (nu1, u1_10, u1_3_l, u1_3_p, u1_3_c, u1_3_n) => iter (m_agenda_by_L1 N l1) nu1 (u1_10, u1_3_l) = some bj_1) (fun (nu1, u1_10, u1_3_l, u1_3_p, u1_3_c, u1_3_n) => nu1) (fun (nu1, u1_10, u1_3_l, u1_3_p, u1_3_c, u1_3_n) => [(10, .int .i64 ((u1_10 : Nat) : Int)), (9, .int .i64 ((l1.length : Nat) : Int)), (8, .slice qp2 l1.length qc3), (3, .slice u1_3_p u1_3_n u1_3_c)]) (fun (nu1, u1_10, u1_3_l, u1_3_p, u1_3_c, u1_3_n) => [.sli 5 R_Api_RuleD qp2 qc3 l1]) (fun (nu1, u1_10, u1_3_l, u1_3_p, u1_3_c, u1_3_n) => [.own 3 1 R_i64 (.slice u1_3_p u1_3_n u1_3_c) u1_3_l]) (N, 0,[], some ⟨g6,0, none⟩, 0,0) hm [10,9,8,3] rfl (asK [1] rfl) rfl (fun s_ hm => ?_)))))))))))))
  obtain ⟨nu1, u1_10, u1_3_l, u1_3_p, u1_3_c, u1_3_n⟩ := s_
  try dsimp only at hm ⊢
  obtain ⟨mu1, bu1, hnu1, hq, hLu1⟩ := iter_some hm
  clear hm
  subst hnu1
  replace hm := hq
  clear hq
  unfold m_agenda_by_L1 at hm
  try dsimp only at hm
  refine wc_seq (wc_region (wP rfl (wl_as (d := 11) (v' := .bool (decide (u1_10 < l1.length))) (S' := [_,_,_,_]) rfl rfl (natlt (a := u1_10) (b := l1.length)) (wl_nil (we_then (wc_seq ?_))))))
  refine wc_cond rfl (fun hb11 => ?_) (fun hb11 => ?_)
  ·
   replace hm := iteT hm hb11
   refine wc_keep [10,9,8,3] (S' := [_,_,_,_]) rfl (wc_skip (we_then (wc_seq (wc_block (wc_seq (wc_region ?_))))))
   obtain ⟨x12, hx12, hm⟩ := bindO_some hm
   refine wl_indexA 0 u1_10 rfl rfl rfl (freshS_eq rfl) rfl rfl rfl rfl rfl hx12 tE_29 tS_49 (fun b12 q12 cs12 hlx12 => (wl_open R_Api_RuleD_opens 1 rfl (fun r12 er12 _ => ?_)))
   subst er12
   refine wl_load 2 0 rfl rfl rfl (freshS_eq rfl) rfl rfl rfl (cs := [_,_,_,_,_]) rfl tS_49 tA_49 rfl rfl (wl_alloc rfl rfl rfl (freshS_eq rfl) rfl tZ_49 rfl (fun g5 => (wS 0 0 rfl tS_49 (all' := [_,_,_,_,_]) rfl (H' := [_,_]) rfl (wl_nil (we_then (wc_keep [5,10,9,8,3] (S' := [_,_,_,_,_]) rfl (wc_region (wP rfl (wF rfl tF_49_1 (wD 0 1 rfl tS_3 tA_3 rfl (wl_buildSlice rfl rfl rfl (freshS_eq rfl) rfl tE_51 tS_3 tZ_3 rfl (zs := [.int .i64 0]) (by kernel_rfl) rfl (out := [_]) rfl (fun g17 => ?_))))))))))))
   obtain ⟨hg18, hm⟩ := gd_some hm
   refine wl_appendH [x12.salience] 2 0 rfl rfl rfl (freshS_eq rfl) rfl rfl rfl rfl rfl (fun F w hφ => ⟨[.int .i64 (x12.salience)],[], rfl, rfl, ⟨(), rfl, ask_nil⟩, rfl⟩) tE_51 tR_3 rfl rfl (Nat.le_trans hg18 (by decide)) (Nat.le_trans (Nat.mul_le_mul_right _ hg18) (by decide)) (H2 := fun p18 c18 => [_,_, .own 3 1 R_i64 (.slice p18 ((u1_3_l ++ [x12.salience]).length) c18) (u1_3_l ++ [x12.salience])]) (fun _ _ => rfl) (fun p18 c18 => (wl_drop 0 rfl (H' := [_,_]) rfl (wl_pure (S' := [_,_,_,_,_,_,_,_,_]) rfl rfl rfl rfl rfl (wl_nil (we_block_normal (we_then (wc_keep [3,10,9,8] (S' := [_,_,_,_]) rfl (wc_region (wP rfl ?_)))))))))
   obtain ⟨hg19, hm⟩ := gd_some hm
   refine wl_as (d := 19) (v' := .int .i64 ((u1_10 + 1 : Nat) : Int)) (S' := [_,_,_,_]) rfl rfl (nat_add (a := u1_10) (b := 1) hg19) (wl_pure (S' := [_,_,_,_]) rfl rfl rfl rfl rfl (wl_nil ?_))
   have hE := (Option.some.inj hm).symm
   replace hE := link_inl hLu1 hE
   refine we_pick [1] rfl (H' := [_]) rfl ?_
   refine we_roundK (_, u1_10 + 1, u1_3_l ++ [x12.salience], p18, c18, (u1_3_l ++ [x12.salience]).length) (Nat.lt_succ_self _) hE [10,9,8,3] rfl (asK [4] rfl) rfl
  ·
   replace hm := iteF hm hb11
   refine wc_keep [3] (S' := [_]) rfl (wc_exit (we_then_exit (we_then_exit (we_block_hit ?_))))
   have hE := (Option.some.inj hm).symm
   replace hE := link_inr hLu1 hE
   refine we_join (u1_3_l, u1_3_p, u1_3_c, u1_3_n) hE [3] rfl (asK [] rfl) rfl
 ·
  rintro ⟨j_1_3_l, j_1_3_p, j_1_3_c, j_1_3_n⟩ hE
  try dsimp only
  have hm := hLj_1
  rw [hE] at hm
  refine wc_seq (wc_region (wP rfl (wP rfl (wl_nil (we_then (wc_keep [2] (S' := [_]) rfl (wc_ret ?_)))))))
  have hE := (Option.some.inj hm).symm
  replace hE := hE.symm
  subst hE
  refine ret_one (Hr := [_]) [0] Tryd.results19 (res_tmp rfl) ⟨j_1_3_p, j_1_3_c, j_1_3_n, rfl, rfl, rfl⟩ (asK [] rfl) rfl rfl (.inl rfl)
theorem w_agenda_order_of_s (N : Nat) (qp0 : Option Addr) (qc1 : Nat) (l0 : List Int) (a1 : Int) (qp2 : Option Addr) (qc3 : Nat) (l2 : List Int) (o0 : Int) (hm : m_agenda_order_of N l0 a1 l2 = some o0) : Spec Tryd.prog 38 [.slice qp0 l0.length qc1, .agg #[.int .i64 a1, .slice qp2 l2.length qc3]] [.sli 1 R_i64 qp0 qc1 l0, .sli 1 R_i64 qp2 qc3 l2] [] (fun v Φr Hr => v = .int .i64 o0 ∧ Φr = [] ∧ Hr = []) := by
 unfold m_agenda_order_of at hm
 refine spec_of Tryd.func38 rfl Tryd.ntmps38 rfl (S := [_,_]) rfl (fun C => (wc_seq (wc_region (wB rfl (fun g3 => (wP rfl (wl_nil (we_then (wc_keep [3,0] (S' := [_,_]) rfl (wc_seq (wc_seq ?_)))))))))))
 obtain ⟨bj_1, hm, hLj_1⟩ := bindO_some hm
 refine wc_cut (σ := Bool) (fun j_1_14 => bj_1 = j_1_14) (fun j_1_14 => [(3, .pointer (some ⟨g3,0, none⟩)), (0, .slice qp0 l0.length qc1), (14, .bool j_1_14)]) (fun j_1_14 => [.sli 1 R_i64 qp2 qc3 l2, .sli 1 R_i64 qp0 qc1 l0]) (fun j_1_14 => [.blk g3 [.int .i64 a1, .slice qp2 l2.length qc3] 24]) ?_ ?_
 ·
  refine wc_region (wF rfl tF_24_0 (wD 0 0 rfl tS_3 tA_3 rfl (wP rfl (wP rfl ?_))))
  refine wl_split (d := 8) (S' := [_,_,_,_,_]) rfl rfl (fun hs8 => ?_) (fun hs8 => ?_)
  ·
   replace hm := iteT hm hs8
   refine wO rfl (wO rfl (wO rfl (wO rfl (wO rfl (wP rfl (wl_nil ?_))))))
   have hE := (Option.some.inj hm).symm
   refine we_join true hE [3,0,14] rfl (asK [1,0] rfl) rfl
  ·
   replace hm := iteF hm hs8
   refine wF rfl tF_24_0 (wD 0 0 rfl tS_3 tA_3 rfl (wP rfl (wN rfl tE_51 (wP rfl (wP rfl (wl_nil ?_))))))
   have hE := (Option.some.inj hm).symm
   refine we_join (decide (a1 ≥ ((l0.length : Nat) : Int))) hE [3,0,14] rfl (asK [1,0] rfl) rfl
 ·
  rintro j_1_14 hE
  try dsimp only
  have hm := hLj_1
  rw [hE] at hm
  refine wc_cond rfl (fun hb14 => ?_) (fun hb14 => ?_)
  ·
   replace hm := iteT hm hb14
   refine wc_keep [] (S' := []) rfl (wc_seq (wc_region (wP rfl (wl_nil (we_then (wc_ret (we_then_ret ?_)))))))
   have hE := (Option.some.inj hm).symm
   replace hE := hE.symm
   subst hE
   refine ret_one (Hr := []) [] Tryd.results38 (res_tmp rfl) ⟨rfl, rfl, rfl⟩ (asK [] rfl) rfl rfl (.inl rfl)
  ·
   replace hm := iteF hm hb14
   refine wc_keep [3,0] (S' := [_,_]) rfl (wc_skip (we_then (wc_seq (wc_region (wP rfl (wF rfl tF_24_0 (wD 0 0 rfl tS_3 tA_3 rfl ?_)))))))
   obtain ⟨hn18, hm⟩ := gd_some hm
   obtain ⟨x18, hx18, hm⟩ := bindO_some hm
   refine wl_indexA 1 a1.toNat rfl rfl rfl (freshS_eq rfl) rfl rfl rfl rfl (toNat_eq hn18) hx18 tE_51 tS_3 (fun b18 q18 cs18 hlx18 => (wl_open R_i64_opens 1 rfl (fun r18 er18 _ => ?_)))
   subst er18
   refine wl_load 0 0 rfl rfl rfl (freshS_eq rfl) rfl rfl rfl (cs := [_]) rfl tS_3 tA_3 rfl rfl (wP rfl (wl_nil (we_then (wc_keep [4] (S' := [_]) rfl (wc_ret ?_)))))
   have hE := (Option.some.inj hm).symm
   replace hE := hE.symm
   subst hE
   refine ret_one (Hr := []) [] Tryd.results38 (res_tmp rfl) ⟨rfl, rfl, rfl⟩ (asK [] rfl) rfl rfl (.inl rfl)
theorem w_cmp_isNaN_int_s (N : Nat) (a0 : Int)  (hm : m_cmp_isNaN_int N a0 = some ()) : Spec Tryd.prog 47 [.int .i64 a0] [] [] (fun v Φr Hr => v = .bool (a0 != a0) ∧ Φr = [] ∧ Hr = []) := by
 unfold m_cmp_isNaN_int at hm
 refine spec_of Tryd.func47 rfl Tryd.ntmps47 rfl (S := [_]) rfl (fun C => (wc_seq (wc_region (wP rfl (wl_nil (we_then (wc_keep [0] (S' := [_]) rfl (wc_seq (wc_region (wP rfl (wP rfl (wP rfl (wP rfl (wl_nil ?_))))))))))))))
 refine we_then (wc_keep [2] (S' := [_]) rfl (wc_ret ?_))
 have hE := (Option.some.inj hm).symm
 refine ret_one (Hr := []) [] Tryd.results47 (res_tmp rfl) ⟨rfl, rfl, rfl⟩ (asK [] rfl) rfl rfl (.inl rfl)
theorem w_cmp_Compare_int_s (N : Nat) (a0 : Int) (a1 : Int) (o0 : Int) (hm : m_cmp_Compare_int N a0 a1 = some o0) : Spec Tryd.prog 37 [.int .i64 a0, .int .i64 a1] [] [] (fun v Φr Hr => v = .int .i64 o0 ∧ Φr = [] ∧ Hr = []) := by
 unfold m_cmp_Compare_int at hm
 refine spec_of Tryd.func37 rfl Tryd.ntmps37 rfl (S := [_,_]) rfl (fun C => (wc_seq (wc_region (wP rfl (wl_nil (we_then (wc_keep [0,1] (S' := [_,_]) rfl (wc_seq (wc_region (wP rfl ?_))))))))))
 obtain ⟨_, hc8, hm⟩ := bindO_some hm
 try dsimp only at hm
 refine wC [] [] rfl fn_47 rfl (w_cmp_isNaN_int_s N a0 hc8) (asK [] rfl) rfl (H' := []) rfl ?_
 rintro _ _ _ ⟨rfl, rfl, rfl⟩
 refine wP rfl (wl_nil (we_then (wc_keep [5,0,1] (S' := [_,_,_]) rfl (wc_seq (wc_region (wP rfl ?_))))))
 obtain ⟨_, hc10, hm⟩ := bindO_some hm
 try dsimp only at hm
 refine wC [] [] rfl fn_47 rfl (w_cmp_isNaN_int_s N a1 hc10) (asK [] rfl) rfl (H' := []) rfl ?_
 rintro _ _ _ ⟨rfl, rfl, rfl⟩
 refine wP rfl (wl_nil (we_then (wc_keep [6,5,0,1] (S' := [_,_,_,_]) rfl (wc_seq (wc_seq (wc_region (wP rfl (wl_nil (we_then (wc_keep [11,6,0,1] (S' := [_,_,_,_]) rfl ?_))))))))))
 refine wc_cond rfl (fun hb11 => ?_) (fun hb11 => ?_)
 ·
  replace hm := iteT hm hb11
  refine wc_keep [6] (S' := [_]) rfl (wc_seq (wc_seq (wc_region (wP rfl (wl_nil (we_then (wc_keep [12] (S' := [_]) rfl ?_)))))))
  refine wc_cond rfl (fun hb12 => ?_) (fun hb12 => ?_)
  ·
   replace hm := iteT hm hb12
   refine wc_keep [] (S' := []) rfl (wc_seq (wc_region (wP rfl (wl_nil (we_then (wc_ret (we_then_ret (we_then_ret ?_))))))))
   have hE := (Option.some.inj hm).symm
   replace hE := hE.symm
   subst hE
   refine ret_one (Hr := []) [] Tryd.results37 (res_tmp rfl) ⟨rfl, rfl, rfl⟩ (asK [] rfl) rfl rfl (.inl rfl)
  ·
   replace hm := iteF hm hb12
   refine wc_keep [] (S' := []) rfl (wc_skip (we_then (wc_seq (wc_region (wP rfl (wl_nil (we_then (wc_ret (we_then_ret ?_)))))))))
   have hE := (Option.some.inj hm).symm
   replace hE := hE.symm
   subst hE
   refine ret_one (Hr := []) [] Tryd.results37 (res_tmp rfl) ⟨rfl, rfl, rfl⟩ (asK [] rfl) rfl rfl (.inl rfl)
 ·
  replace hm := iteF hm hb11
  refine wc_keep [6,0,1] (S' := [_,_,_]) rfl (wc_skip (we_then (wc_seq (wc_seq (wc_region (wP rfl (wl_nil (we_then (wc_keep [13,0,1] (S' := [_,_,_]) rfl ?_)))))))))
  refine wc_cond rfl (fun hb13 => ?_) (fun hb13 => ?_)
  ·
   replace hm := iteT hm hb13
   refine wc_keep [] (S' := []) rfl (wc_seq (wc_region (wP rfl (wl_nil (we_then (wc_ret (we_then_ret ?_)))))))
   have hE := (Option.some.inj hm).symm
   replace hE := hE.symm
   subst hE
   refine ret_one (Hr := []) [] Tryd.results37 (res_tmp rfl) ⟨rfl, rfl, rfl⟩ (asK [] rfl) rfl rfl (.inl rfl)
  ·
   replace hm := iteF hm hb13
   refine wc_keep [0,1] (S' := [_,_]) rfl (wc_skip (we_then (wc_seq (wc_seq (wc_region (wP rfl (wP rfl (wP rfl (wl_nil (we_then (wc_keep [16,0,1] (S' := [_,_,_]) rfl ?_)))))))))))
   refine wc_cond rfl (fun hb16 => ?_) (fun hb16 => ?_)
   ·
    replace hm := iteT hm hb16
    refine wc_keep [] (S' := []) rfl (wc_seq (wc_region (wP rfl (wl_nil (we_then (wc_ret (we_then_ret ?_)))))))
    have hE := (Option.some.inj hm).symm
    replace hE := hE.symm
    subst hE
    refine ret_one (Hr := []) [] Tryd.results37 (res_tmp rfl) ⟨rfl, rfl, rfl⟩ (asK [] rfl) rfl rfl (.inl rfl)
   ·
    replace hm := iteF hm hb16
    refine wc_keep [0,1] (S' := [_,_]) rfl (wc_skip (we_then (wc_seq (wc_seq (wc_region (wP rfl (wP rfl (wP rfl (wl_nil (we_then (wc_keep [19] (S' := [_]) rfl ?_)))))))))))
    refine wc_cond rfl (fun hb19 => ?_) (fun hb19 => ?_)
    ·
     replace hm := iteT hm hb19
     refine wc_keep [] (S' := []) rfl (wc_seq (wc_region (wP rfl (wl_nil (we_then (wc_ret (we_then_ret ?_)))))))
     have hE := (Option.some.inj hm).symm
     replace hE := hE.symm
     subst hE
     refine ret_one (Hr := []) [] Tryd.results37 (res_tmp rfl) ⟨rfl, rfl, rfl⟩ (asK [] rfl) rfl rfl (.inl rfl)
    ·
     replace hm := iteF hm hb19
     refine wc_keep [] (S' := []) rfl (wc_skip (we_then (wc_seq (wc_region (wP rfl (wl_nil (we_then (wc_ret ?_))))))))
     have hE := (Option.some.inj hm).symm
     replace hE := hE.symm
     subst hE
     refine ret_one (Hr := []) [] Tryd.results37 (res_tmp rfl) ⟨rfl, rfl, rfl⟩ (asK [] rfl) rfl rfl (.inl rfl)
theorem Clone44f_s (p : Option Addr) (c : Nat) (l : List Int) (hb : l.length ≤ 17592186044416) : Spec Tryd.prog 44 [.slice p l.length c] [.sli 1 R_i64 p c l] [] (fun v Φr Hr => ∃ p' c', v = .slice p' l.length c' ∧ Φr = [] ∧ Hr = [.own 3 1 R_i64 v l]) := by
 refine spec_of Tryd.func44 rfl Tryd.ntmps44 rfl (S := [_]) rfl (fun C => (wc_know (fun F w h => sli_nil (h _ (mem_at (k := 0) rfl))) (fun isnil => (wc_seq (wc_region (wP rfl (wl_nil (we_then (wc_seq (wc_seq (wc_region (wP rfl (wl_eqlNil rfl rfl rfl (freshS_eq rfl) rfl rfl rfl tE_22 (wl_nil (we_then ?_)))))))))))))))
 refine wc_keep [4,2,0] (S' := [_,_,_]) rfl ?_
 refine wc_cond rfl (fun h4 => ?_) (fun h4 => ?_)
 ·
  replace h4 := isNone_true h4
  obtain rfl := isnil h4
  subst h4
  refine wc_rowNil 3 1 R_i64 (wc_seq (wc_region (wl_pure (S' := [_,_]) rfl rfl rfl rfl rfl (wl_nil (we_then (wc_ret (we_then_ret (ret_one (Hr := [.own 3 1 R_i64 (.slice none 0 0) []]) [0] Tryd.results44 (res_tmp rfl) ?_ (asK [] rfl) rfl rfl (.inl rfl)))))))))
  exact ⟨none, 0, rfl, rfl, rfl⟩
 ·
  replace h4 := isNone_false h4
  refine wc_skip (we_then (wc_seq (wc_region (wl_buildSlice rfl rfl rfl (freshS_eq rfl) rfl tE_22 tS_3 tZ_3 rfl (zs := []) (by kernel_rfl) rfl (out := []) rfl (fun g5 => (wP rfl (wl_row (sz := 1) (m := 0) R_i64 [] 0 rfl (fun F w hφ => rfl) rfl (by decide) (H' := [_]) rfl (wl_append 0 0 rfl rfl rfl (freshS_eq rfl) rfl rfl rfl rfl rfl tE_22 tR_3 rfl rfl (by simp; omega) (by simp; omega) (H2 := fun p7 c7 => [.own 3 1 R_i64 (.slice p7 (l).length c7) l]) (fun _ _ => rfl) (fun p7 c7 => (wl_pure (S' := [_,_,_,_,_]) rfl rfl rfl rfl rfl (wl_nil (we_then (wc_keep [2,4,0] (S' := [_,_,_]) rfl (wc_ret (ret_one (Hr := [.own 3 1 R_i64 (.slice p7 (l).length c7) l]) [0] Tryd.results44 (res_tmp rfl) ?_ (asK [] rfl) rfl rfl (.inl rfl))))))))))))))))
  exact ⟨_,_, rfl, rfl, rfl⟩
theorem w_agenda_falling_1_s (N : Nat) (a0 : Int) (a1 : Int) (o0 : Int) (hm : m_agenda_falling_1 N a0 a1 = some o0) : Spec Tryd.prog 49 [.int .i64 a0, .int .i64 a1] [] [] (fun v Φr Hr => v = .int .i64 o0 ∧ Φr = [] ∧ Hr = []) := by
 unfold m_agenda_falling_1 at hm
 refine spec_of Tryd.func49 rfl Tryd.ntmps49 rfl (S := [_,_]) rfl (fun C => (wc_seq (wc_region (wP rfl (wl_nil (we_then (wc_keep [0,1] (S' := [_,_]) rfl (wc_seq (wc_region (wP rfl (wP rfl ?_)))))))))))
 obtain ⟨v7, hc7, hm⟩ := bindO_some hm
 refine wC [] [] rfl fn_37 rfl (w_cmp_Compare_int_s N a1 a0 _ hc7) (asK [] rfl) rfl (H' := []) rfl ?_
 rintro _ _ _ ⟨rfl, rfl, rfl⟩
 refine wP rfl (wl_nil (we_then (wc_keep [4] (S' := [_]) rfl (wc_ret ?_))))
 have hE := (Option.some.inj hm).symm
 replace hE := hE.symm
 subst hE
 refine ret_one (Hr := []) [] Tryd.results49 (res_tmp rfl) ⟨rfl, rfl, rfl⟩ (asK [] rfl) rfl rfl (.inl rfl)
theorem w_agenda_falling_s (N : Nat) (qp0 : Option Addr) (qc1 : Nat) (l0 : List Int) (o2 : List Int) (hm : m_agenda_falling N l0 = some o2) : Spec Tryd.prog 40 [.slice qp0 l0.length qc1] [.sli 1 R_i64 qp0 qc1 l0] [] (fun v Φr Hr => ∃ (o0 : Option Addr) (o1 : Nat), v = .slice o0 l0.length o1 ∧ Φr = [] ∧ Hr = [.own 3 1 R_i64 (.slice o0 l0.length o1) o2]) := by
 unfold m_agenda_falling at hm
 refine spec_of Tryd.func40 rfl Tryd.ntmps40 rfl (S := [_]) rfl (fun C => (wc_seq (wc_region (wP rfl (wl_nil (we_then (wc_keep [0] (S' := [_]) rfl (wc_seq (wc_region (wP rfl ?_))))))))))
 obtain ⟨hg4, hm⟩ := gd_some hm
 refine wC [] [] rfl fn_44 rfl (Clone44f_s qp0 qc1 l0 hg4) (asK [0] rfl) rfl (H' := []) rfl ?_
 rintro _ _ _ ⟨p4, c4, rfl, rfl, rfl⟩
 refine wl_pure (S' := [_,_]) rfl rfl rfl rfl rfl (wl_nil (we_then (wc_keep [0] (S' := [_]) rfl (wc_seq (wc_region (wP rfl ?_))))))
 obtain ⟨v6, hc6, hm⟩ := bindO_some hm
 refine wC [0] [] rfl fn_48 rfl (spec_sortF srt_48 srtnil_48 (enters_of Tryd.func49 (by kernel_rfl) rfl) (fun x_ y_ z_ h_ => w_agenda_falling_1_s N x_ y_ z_ h_) hc6) (asK [] rfl) rfl (H' := []) rfl ?_
 rintro _ _ _ ⟨rfl, rfl, rfl⟩
 refine wl_nil (we_then (wc_keep [0] (S' := [_]) rfl (wc_seq (wc_region (wP rfl (wP rfl (wl_nil (we_then (wc_keep [2] (S' := [_]) rfl (wc_ret ?_))))))))))
 have hE := (Option.some.inj hm).symm
 replace hE := hE.symm
 subst hE
 refine ret_one (Hr := [_]) [0] Tryd.results40 (res_tmp rfl) ⟨p4, c4, rfl, rfl, rfl⟩ (asK [] rfl) rfl rfl (.inl rfl)
theorem w_slices_Compare_int_s (N : Nat) (qp0 : Option Addr) (qc1 : Nat) (l0 : List Int) (qp2 : Option Addr) (qc3 : Nat) (l1 : List Int) (o0 : Int) (hm : m_slices_Compare_int N l0 l1 = some o0) : Spec Tryd.prog 39 [.slice qp0 l0.length qc1, .slice qp2 l1.length qc3] [.sli 1 R_i64 qp0 qc1 l0, .sli 1 R_i64 qp2 qc3 l1] [] (fun v Φr Hr => v = .int .i64 o0 ∧ Φr = [] ∧ Hr = []) := by
 unfold m_slices_Compare_int at hm
 refine spec_of Tryd.func39 rfl Tryd.ntmps39 rfl (S := [_,_]) rfl (fun C => (wc_seq (wc_region (wP rfl (wl_nil (we_then (wc_keep [0,1] (S' := [_,_]) rfl (wc_seq ?_))))))))
 obtain ⟨bj_1, hm, hLj_1⟩ := bindS_some hm
 refine wc_cut (σ := Unit) (fun _ => bj_1 = .inl ()) (fun _ => [(0, .slice qp0 l0.length qc1), (1, .slice qp2 l1.length qc3)]) (fun _ => [.sli 1 R_i64 qp0 qc1 l0, .sli 1 R_i64 qp2 qc3 l1]) (fun _ => []) ?_ ?_
 ·
  refine wc_seq (wc_region (wP rfl (wN rfl tE_22 (wP rfl (wl_nil (we_then (wc_block (wc_loop (σ := Nat × Nat) (fun (nu1, u1_11) => iter (m_slices_Compare_int_L1 N l0 l1) nu1 u1_11 = some bj_1) (fun (nu1, u1_11) => nu1) (fun (nu1, u1_11) => [(11, .int .i64 ((u1_11 : Nat) : Int)), (10, .int .i64 ((l0.length : Nat) : Int)), (9, .slice qp0 l0.length qc1), (0, .slice qp0 l0.length qc1), (1, .slice qp2 l1.length qc3)]) (fun (nu1, u1_11) => [.sli 1 R_i64 qp0 qc1 l0, .sli 1 R_i64 qp2 qc3 l1]) (fun (nu1, u1_11) => []) (N, 0) hm [11,10,9,0,1] rfl (asK [0,1] rfl) rfl (fun s_ hm => ?_)))))))))
  obtain ⟨nu1, u1_11⟩ := s_
  try dsimp only at hm ⊢
  obtain ⟨mu1, bu1, hnu1, hq, hLu1⟩ := iter_some hm
  clear hm
  subst hnu1
  replace hm := hq
  clear hq
  unfold m_slices_Compare_int_L1 at hm
  try dsimp only at hm
  refine wc_seq (wc_region (wP rfl (wl_as (d := 12) (v' := .bool (decide (u1_11 < l0.length))) (S' := [_,_,_,_,_]) rfl rfl (natlt (a := u1_11) (b := l0.length)) (wl_nil (we_then (wc_seq ?_))))))
  refine wc_cond rfl (fun hb12 => ?_) (fun hb12 => ?_)
  ·
   replace hm := iteT hm hb12
   refine wc_keep [11,10,9,0,1] (S' := [_,_,_,_,_]) rfl (wc_skip (we_then (wc_seq (wc_block (wc_seq (wc_region (wP rfl ?_)))))))
   obtain ⟨x14, hx14, hm⟩ := bindO_some hm
   refine wl_indexA 0 u1_11 rfl rfl rfl (freshS_eq rfl) rfl rfl rfl rfl rfl hx14 tE_22 tS_3 (fun b14 q14 cs14 hlx14 => (wl_open R_i64_opens 1 rfl (fun r14 er14 _ => ?_)))
   subst er14
   refine wl_load 0 0 rfl rfl rfl (freshS_eq rfl) rfl rfl rfl (cs := [_]) rfl tS_3 tA_3 rfl rfl (wP rfl (wP rfl (wl_nil (we_then (wc_keep [6,5,11,10,9,0,1] (S' := [_,_,_,_,_,_,_]) rfl (wc_seq (wc_seq (wc_region (wP rfl (wP rfl (wN rfl tE_22 (wP rfl (wl_as (d := 19) (v' := .bool (decide (l1.length ≤ u1_11))) (S' := [_,_,_,_,_,_,_,_,_,_]) rfl rfl (natge (a := u1_11) (b := l1.length)) ?_)))))))))))))
   refine wl_nil (we_then (wc_keep [19,6,5,11,10,9,0,1] (S' := [_,_,_,_,_,_,_,_]) rfl ?_))
   refine wc_cond rfl (fun hb19 => ?_) (fun hb19 => ?_)
   ·
    replace hm := iteT hm hb19
    refine wc_keep [] (S' := []) rfl (wc_seq (wc_region (wP rfl (wl_nil (we_then (wc_ret (we_then_ret (we_block_ret (we_then_ret (we_then_ret (we_block_ret (we_then_ret ?_))))))))))))
    have hE := (Option.some.inj hm).symm
    replace hE := link_inr hLu1 hE
    replace hE := link_inr hLj_1 hE
    replace hE := hE.symm
    subst hE
    refine ret_one (Hr := []) [] Tryd.results39 (res_tmp rfl) ⟨rfl, rfl, rfl⟩ (asK [] rfl) rfl rfl (.inl rfl)
   ·
    replace hm := iteF hm hb19
    refine wc_keep [6,5,11,10,9,0,1] (S' := [_,_,_,_,_,_,_]) rfl (wc_skip (we_then (wc_seq (wc_region (wP rfl (wP rfl ?_))))))
    obtain ⟨x22, hx22, hm⟩ := bindO_some hm
    refine wl_indexA 3 u1_11 rfl rfl rfl (freshS_eq rfl) rfl rfl rfl rfl rfl hx22 tE_22 tS_3 (fun b22 q22 cs22 hlx22 => (wl_open R_i64_opens 1 rfl (fun r22 er22 _ => ?_)))
    subst er22
    refine wl_load 0 0 rfl rfl rfl (freshS_eq rfl) rfl rfl rfl (cs := [_]) rfl tS_3 tA_3 rfl rfl (wP rfl (wl_nil (we_then (wc_keep [7,6,11,10,9,0,1] (S' := [_,_,_,_,_,_,_]) rfl (wc_seq (wc_region (wP rfl (wP rfl ?_))))))))
    obtain ⟨v26, hc26, hm⟩ := bindO_some hm
    refine wC [] [] rfl fn_37 rfl (w_cmp_Compare_int_s N x14 x22 _ hc26) (asK [] rfl) rfl (H' := []) rfl ?_
    rintro _ _ _ ⟨rfl, rfl, rfl⟩
    refine wP rfl (wl_nil (we_then (wc_keep [8,11,10,9,0,1] (S' := [_,_,_,_,_,_]) rfl (wc_seq (wc_region (wP rfl (wP rfl (wl_nil (we_then (wc_keep [28,8,11,10,9,0,1] (S' := [_,_,_,_,_,_,_]) rfl ?_))))))))))
    refine wc_cond rfl (fun hb28 => ?_) (fun hb28 => ?_)
    ·
     replace hm := iteT hm hb28
     refine wc_keep [8] (S' := [_]) rfl (wc_seq (wc_region (wP rfl (wP rfl (wl_nil (we_then (wc_keep [4] (S' := [_]) rfl (wc_ret (we_block_ret (we_then_ret (we_then_ret (we_block_ret (we_then_ret ?_)))))))))))))
     have hE := (Option.some.inj hm).symm
     replace hE := link_inr hLu1 hE
     replace hE := link_inr hLj_1 hE
     replace hE := hE.symm
     subst hE
     refine ret_one (Hr := []) [] Tryd.results39 (res_tmp rfl) ⟨rfl, rfl, rfl⟩ (asK [] rfl) rfl rfl (.inl rfl)
    ·
     replace hm := iteF hm hb28
     refine wc_keep [11,10,9,0,1] (S' := [_,_,_,_,_]) rfl (wc_skip (we_block_normal (we_then (wc_region (wP rfl ?_)))))
     obtain ⟨hg30, hm⟩ := gd_some hm
     refine wl_as (d := 30) (v' := .int .i64 ((u1_11 + 1 : Nat) : Int)) (S' := [_,_,_,_,_]) rfl rfl (nat_add (a := u1_11) (b := 1) hg30) (wl_pure (S' := [_,_,_,_,_]) rfl rfl rfl rfl rfl (wl_nil ?_))
     have hE := (Option.some.inj hm).symm
     replace hE := link_inl hLu1 hE
     refine we_roundK (_, u1_11 + 1) (Nat.lt_succ_self _) hE [11,10,9,0,1] rfl (asK [4,5] rfl) rfl
  ·
   replace hm := iteF hm hb12
   refine wc_keep [0,1] (S' := [_,_]) rfl (wc_exit (we_then_exit (we_then_exit (we_block_hit ?_))))
   have hE := (Option.some.inj hm).symm
   replace hE := link_inr hLu1 hE
   refine we_join () hE [0,1] rfl (asK [0,1] rfl) rfl
 ·
  rintro _ hE
  try dsimp only
  have hm := link_inl hLj_1 hE
  try dsimp only at hm
  refine wc_seq (wc_seq (wc_region (wP rfl (wN rfl tE_22 (wP rfl (wN rfl tE_22 (wP rfl (wl_as (d := 35) (v' := .bool (decide (l0.length < l1.length))) (S' := [_,_,_,_,_,_]) rfl rfl (natlt (a := l0.length) (b := l1.length)) (wl_nil (we_then (wc_keep [35] (S' := [_]) rfl ?_)))))))))))
  refine wc_cond rfl (fun hb35 => ?_) (fun hb35 => ?_)
  ·
   replace hm := iteT hm hb35
   refine wc_keep [] (S' := []) rfl (wc_seq (wc_region (wP rfl (wl_nil (we_then (wc_ret (we_then_ret ?_)))))))
   have hE := (Option.some.inj hm).symm
   replace hE := hE.symm
   subst hE
   refine ret_one (Hr := []) [] Tryd.results39 (res_tmp rfl) ⟨rfl, rfl, rfl⟩ (asK [] rfl) rfl rfl (.inl rfl)
  ·
   replace hm := iteF hm hb35
   refine wc_keep [] (S' := []) rfl (wc_skip (we_then (wc_seq (wc_region (wP rfl (wl_nil (we_then (wc_ret ?_))))))))
   have hE := (Option.some.inj hm).symm
   replace hE := hE.symm
   subst hE
   refine ret_one (Hr := []) [] Tryd.results39 (res_tmp rfl) ⟨rfl, rfl, rfl⟩ (asK [] rfl) rfl rfl (.inl rfl)
theorem w_cmp_Or_int_s (N : Nat) (qp0 : Option Addr) (qc1 : Nat) (l0 : List Int) (o0 : Int) (hm : m_cmp_Or_int N l0 = some o0) : Spec Tryd.prog 36 [.slice qp0 l0.length qc1] [.sli 1 R_i64 qp0 qc1 l0] [] (fun v Φr Hr => v = .int .i64 o0 ∧ Φr = [] ∧ Hr = []) := by
 unfold m_cmp_Or_int at hm
 refine spec_of Tryd.func36 rfl Tryd.ntmps36 rfl (S := [_]) rfl (fun C => (wc_seq (wc_region (wP rfl (wl_nil (we_then (wc_keep [0] (S' := [_]) rfl (wc_seq (wc_region (wP rfl (wl_nil (we_then (wc_seq ?_)))))))))))))
 obtain ⟨bj_1, hm, hLj_1⟩ := bindS_some hm
 refine wc_cut (σ := Unit) (fun _ => bj_1 = .inl ()) (fun _ => [(3, .int .i64 0)]) (fun _ => []) (fun _ => []) ?_ ?_
 ·
  refine wc_seq (wc_region (wP rfl (wN rfl tE_22 (wP rfl (wl_nil (we_then (wc_keep [8,7,6,3] (S' := [_,_,_,_]) rfl (wc_block (wc_loop (σ := Nat × Nat) (fun (nu1, u1_8) => iter (m_cmp_Or_int_L1 N l0) nu1 u1_8 = some bj_1) (fun (nu1, u1_8) => nu1) (fun (nu1, u1_8) => [(8, .int .i64 ((u1_8 : Nat) : Int)), (7, .int .i64 ((l0.length : Nat) : Int)), (6, .slice qp0 l0.length qc1), (3, .int .i64 0)]) (fun (nu1, u1_8) => [.sli 1 R_i64 qp0 qc1 l0]) (fun (nu1, u1_8) => []) (N, 0) hm [8,7,6,3] rfl (asK [0] rfl) rfl (fun s_ hm => ?_))))))))))
  obtain ⟨nu1, u1_8⟩ := s_
  try dsimp only at hm ⊢
  obtain ⟨mu1, bu1, hnu1, hq, hLu1⟩ := iter_some hm
  clear hm
  subst hnu1
  replace hm := hq
  clear hq
  unfold m_cmp_Or_int_L1 at hm
  try dsimp only at hm
  refine wc_seq (wc_region (wP rfl (wl_as (d := 9) (v' := .bool (decide (u1_8 < l0.length))) (S' := [_,_,_,_]) rfl rfl (natlt (a := u1_8) (b := l0.length)) (wl_nil (we_then (wc_seq ?_))))))
  refine wc_cond rfl (fun hb9 => ?_) (fun hb9 => ?_)
  ·
   replace hm := iteT hm hb9
   refine wc_keep [8,7,6,3] (S' := [_,_,_,_]) rfl (wc_skip (we_then (wc_seq (wc_block (wc_seq (wc_region ?_))))))
   obtain ⟨x10, hx10, hm⟩ := bindO_some hm
   refine wl_indexA 0 u1_8 rfl rfl rfl (freshS_eq rfl) rfl rfl rfl rfl rfl hx10 tE_22 tS_3 (fun b10 q10 cs10 hlx10 => (wl_open R_i64_opens 1 rfl (fun r10 er10 _ => ?_)))
   subst er10
   refine wl_load 0 0 rfl rfl rfl (freshS_eq rfl) rfl rfl rfl (cs := [_]) rfl tS_3 tA_3 rfl rfl (wP rfl (wl_nil (we_then (wc_keep [5,8,7,6,3] (S' := [_,_,_,_,_]) rfl (wc_seq (wc_region (wP rfl (wP rfl (wP rfl (wl_nil (we_then (wc_keep [14,5,8,7,6,3] (S' := [_,_,_,_,_,_]) rfl ?_))))))))))))
   refine wc_cond rfl (fun hb14 => ?_) (fun hb14 => ?_)
   ·
    replace hm := iteT hm hb14
    refine wc_keep [5] (S' := [_]) rfl (wc_seq (wc_region (wP rfl (wP rfl (wl_nil (we_then (wc_keep [2] (S' := [_]) rfl (wc_ret (we_block_ret (we_then_ret (we_then_ret (we_block_ret (we_then_ret ?_)))))))))))))
    have hE := (Option.some.inj hm).symm
    replace hE := link_inr hLu1 hE
    replace hE := link_inr hLj_1 hE
    replace hE := hE.symm
    subst hE
    refine ret_one (Hr := []) [] Tryd.results36 (res_tmp rfl) ⟨rfl, rfl, rfl⟩ (asK [] rfl) rfl rfl (.inl rfl)
   ·
    replace hm := iteF hm hb14
    refine wc_keep [8,7,6,3] (S' := [_,_,_,_]) rfl (wc_skip (we_block_normal (we_then (wc_region (wP rfl ?_)))))
    obtain ⟨hg16, hm⟩ := gd_some hm
    refine wl_as (d := 16) (v' := .int .i64 ((u1_8 + 1 : Nat) : Int)) (S' := [_,_,_,_]) rfl rfl (nat_add (a := u1_8) (b := 1) hg16) (wl_pure (S' := [_,_,_,_]) rfl rfl rfl rfl rfl (wl_nil ?_))
    have hE := (Option.some.inj hm).symm
    replace hE := link_inl hLu1 hE
    refine we_roundK (_, u1_8 + 1) (Nat.lt_succ_self _) hE [8,7,6,3] rfl (asK [2] rfl) rfl
  ·
   replace hm := iteF hm hb9
   refine wc_keep [3] (S' := [_]) rfl (wc_exit (we_then_exit (we_then_exit (we_block_hit ?_))))
   have hE := (Option.some.inj hm).symm
   replace hE := link_inr hLu1 hE
   refine we_join () hE [3] rfl (asK [] rfl) rfl
 ·
  rintro _ hE
  try dsimp only
  have hm := link_inl hLj_1 hE
  try dsimp only at hm
  refine wc_seq (wc_region (wP rfl (wP rfl (wl_nil (we_then (wc_keep [2] (S' := [_]) rfl (wc_ret ?_)))))))
  have hE := (Option.some.inj hm).symm
  replace hE := hE.symm
  subst hE
  refine ret_one (Hr := []) [] Tryd.results36 (res_tmp rfl) ⟨rfl, rfl, rfl⟩ (asK [] rfl) rfl rfl (.inl rfl)
theorem w_agenda_order_compare_s (N : Nat) (qp0 : Option Addr) (qc1 : Nat) (l0 : List Int) (a1 : Int) (qp2 : Option Addr) (qc3 : Nat) (l2 : List Int) (a3 : Int) (qp4 : Option Addr) (qc5 : Nat) (l4 : List Int) (o0 : Int) (hm : m_agenda_order_compare N l0 a1 l2 a3 l4 = some o0) : Spec Tryd.prog 20 [.slice qp0 l0.length qc1, .agg #[.int .i64 a1, .slice qp2 l2.length qc3], .agg #[.int .i64 a3, .slice qp4 l4.length qc5]] [.sli 1 R_i64 qp0 qc1 l0, .sli 1 R_i64 qp2 qc3 l2, .sli 1 R_i64 qp4 qc5 l4] [] (fun v Φr Hr => v = .int .i64 o0 ∧ Φr = [] ∧ Hr = []) := by
 unfold m_agenda_order_compare at hm
 refine spec_of Tryd.func20 rfl Tryd.ntmps20 rfl (S := [_,_,_]) rfl (fun C => (wc_seq (wc_region (wB rfl (fun g4 => (wB rfl (fun g5 => (wP rfl (wl_nil (we_then (wc_keep [5,4,0] (S' := [_,_,_]) rfl (wc_seq ?_))))))))))))
 obtain ⟨v9, hc9, hm⟩ := bindO_some hm
 obtain ⟨v12, hc12, hm⟩ := bindO_some hm
 obtain ⟨v13, hc13, hm⟩ := bindO_some hm
 obtain ⟨v16, hc16, hm⟩ := bindO_some hm
 obtain ⟨v19, hc19, hm⟩ := bindO_some hm
 obtain ⟨v20, hc20, hm⟩ := bindO_some hm
 obtain ⟨v25, hc25, hm⟩ := bindO_some hm
 obtain ⟨v30, hc30, hm⟩ := bindO_some hm
 obtain ⟨v32, hc32, hm⟩ := bindO_some hm
 refine wc_draw [0,1,3,4,7,8,10,11,14,15,16,17,19,20,21,22] rfl rfl (fun hok => (xP hok 0 rfl (wx_loadH hok 1 0 0 rfl rfl rfl (freshS_eq rfl) rfl rfl rfl rfl (cs := [_,_]) rfl tS_24 tA_24 rfl rfl (xP hok 3 rfl (wx_loadH hok 4 1 0 rfl rfl rfl (freshS_eq rfl) rfl rfl rfl rfl (cs := [_,_]) rfl tS_24 tA_24 rfl rfl (wx_fieldAddr hok 7 rfl rfl rfl (freshS_eq rfl) rfl rfl rfl tF_24_1 (wx_loadH hok 8 0 1 rfl rfl rfl (freshS_eq rfl) rfl rfl rfl rfl (cs := [_]) rfl tS_22 tA_22 rfl rfl (wx_fieldAddr hok 10 rfl rfl rfl (freshS_eq rfl) rfl rfl rfl tF_24_1 (wx_loadH hok 11 1 1 rfl rfl rfl (freshS_eq rfl) rfl rfl rfl rfl (cs := [_]) rfl tS_22 tA_22 rfl rfl (wx_fieldAddr hok 14 rfl rfl rfl (freshS_eq rfl) rfl rfl rfl tF_24_0 (wx_loadH hok 15 1 0 rfl rfl rfl (freshS_eq rfl) rfl rfl rfl rfl (cs := [_]) rfl tS_3 tA_3 rfl rfl (wx_fieldAddr hok 16 rfl rfl rfl (freshS_eq rfl) rfl rfl rfl tF_24_0 (wx_loadH hok 17 0 0 rfl rfl rfl (freshS_eq rfl) rfl rfl rfl rfl (cs := [_]) rfl tS_3 tA_3 rfl rfl (wx_fieldAddr hok 19 rfl rfl rfl (freshS_eq rfl) rfl rfl rfl tF_24_1 ?_))))))))))))))
 refine wx_loadH hok 20 1 1 rfl rfl rfl (freshS_eq rfl) rfl rfl rfl rfl (cs := [_]) rfl tS_22 tA_22 rfl rfl (wx_fieldAddr hok 21 rfl rfl rfl (freshS_eq rfl) rfl rfl rfl tF_24_1 (wx_loadH hok 22 0 1 rfl rfl rfl (freshS_eq rfl) rfl rfl rfl rfl (cs := [_]) rfl tS_22 tA_22 rfl rfl (xS hok 2 rfl (wC [] [0,1] rfl fn_38 rfl (w_agenda_order_of_s N qp0 qc1 l0 a3 qp4 qc5 l4 _ hc9) (asK [0,2] rfl) rfl (H' := [_,_]) rfl ?_))))
 rintro _ _ _ ⟨rfl, rfl, rfl⟩
 refine wl_nil (we_x [0,1,2] [0,1,0,1,1,0,1] rfl rfl (xS hok 5 rfl (wC [] [0,1] rfl fn_38 rfl (w_agenda_order_of_s N qp0 qc1 l0 a1 qp2 qc3 l2 _ hc12) (asK [0,1] rfl) rfl (H' := [_,_]) rfl ?_)))
 rintro _ _ _ ⟨rfl, rfl, rfl⟩
 refine wl_nil (we_x [0,1,2] [0,1,0,1,1,0,0] rfl rfl (xS hok 6 rfl (wC [] [0,1] rfl fn_37 rfl (w_cmp_Compare_int_s N v9 v12 _ hc13) (asK [] rfl) rfl (H' := [_,_]) rfl ?_)))
 rintro _ _ _ ⟨rfl, rfl, rfl⟩
 refine wl_nil (we_x [0,1,2] [0,1,0,1,1,0,1,0] rfl rfl (xS hok 9 rfl (wC [] [0,1] rfl fn_40 rfl (w_agenda_falling_s N qp4 qc5 l4 _ hc16) (asK [2] rfl) rfl (H' := [_,_]) rfl ?_)))
 rintro _ _ _ ⟨p16_0, c16_1, rfl, rfl, rfl⟩
 refine wl_nil (we_x [0,1,2] [1,2,1,2,2,2,1] rfl rfl (xS hok 12 rfl (wC [] [0,1,2] rfl fn_40 rfl (w_agenda_falling_s N qp2 qc3 l2 _ hc19) (asK [1] rfl) rfl (H' := [_,_,_]) rfl ?_)))
 rintro _ _ _ ⟨p19_0, c19_1, rfl, rfl, rfl⟩
 refine wl_nil (we_x [0,1,2] [2,3,2,3,2,3,2] rfl rfl (xS hok 13 rfl (wl_ownLen 1 rfl (fun hz7 _ => (wl_at 1 (v' := .slice p16_0 v16.length c16_1) rfl (by first | rfl | rw [hz7]) (wl_hAs 1 (φ' := .own 3 1 R_i64 (.slice p16_0 v16.length c16_1) v16) rfl (by first | rfl | rw [hz7]) (H' := [_,_,_,_]) rfl (wl_ownLen 0 rfl (fun hz8 _ => (wl_at 0 (v' := .slice p19_0 v19.length c19_1) rfl (by first | rfl | rw [hz8]) (wl_hAs 0 (φ' := .own 3 1 R_i64 (.slice p19_0 v19.length c19_1) v19) rfl (by first | rfl | rw [hz8]) (H' := [_,_,_,_]) rfl (wl_lend [] [0,1,2,3] [1,0] rfl rfl rfl (freshS_eq rfl) rfl rfl fn_39 rfl (w_slices_Compare_int_s N p16_0 c16_1 v16 p19_0 c19_1 v19 _ hc20) (fun F w hφ hh => (ask_cons (own_sli (hh _ (mem_at (k := 0) rfl))) (ask_cons (own_sli (hh _ (mem_at (k := 1) rfl))) ask_nil))) (fun _ _ _ hR => by obtain ⟨rfl, rfl, rfl⟩ := hR; exact ⟨rfl, (fun _ h => free_nil h)⟩) rfl rfl (H' := [_,_,_,_]) rfl ?_)))))))))))
 rintro _ _ _ ⟨rfl, rfl, rfl⟩
 refine wl_nil (we_x [0,1,2] [2,3,2,3,3,2,3,2] rfl rfl (xS hok 18 rfl (wC [] [0,1,2,3] rfl fn_37 rfl (w_cmp_Compare_int_s N a1 a3 _ hc25) (asK [] rfl) rfl (H' := [_,_,_,_]) rfl ?_)))
 rintro _ _ _ ⟨rfl, rfl, rfl⟩
 refine wl_nil (we_x [0,1,2] [2,3,3,2,3,2] rfl rfl (xS hok 23 rfl (wC [] [0,1,2,3] rfl fn_39 rfl (w_slices_Compare_int_s N qp2 qc3 l2 qp4 qc5 l4 _ hc30) (asK [1,2] rfl) rfl (H' := [_,_,_,_]) rfl ?_)))
 rintro _ _ _ ⟨rfl, rfl, rfl⟩
 refine wl_nil (we_x [0,1,2] [2,3,3,2,3,2] rfl rfl (xS hok 24 rfl (wl_buildSlice rfl rfl rfl (freshS_eq rfl) rfl tE_22 tS_3 tZ_3 rfl (zs := [.int .i64 0, .int .i64 0, .int .i64 0, .int .i64 0]) (by kernel_rfl) rfl (out := [_,_,_,_]) rfl (fun g31 => (wl_nil (we_x [0,1,2] [3,4,3,4,4,3,4,3] rfl rfl (xS hok 25 rfl (wl_row (sz := 1) (m := 4) R_i64 ([v13, v20, v25, v30]) 0 rfl (fun F w hφ => ⟨[.int .i64 v13],[.int .i64 v20, .int .i64 v25, .int .i64 v30], rfl, rfl, ⟨(), rfl, ask_nil⟩, ⟨[.int .i64 v20],[.int .i64 v25, .int .i64 v30], rfl, rfl, ⟨(), rfl, ask_nil⟩, ⟨[.int .i64 v25],[.int .i64 v30], rfl, rfl, ⟨(), rfl, ask_nil⟩, ⟨[.int .i64 v30],[], rfl, rfl, ⟨(), rfl, ask_nil⟩, rfl⟩⟩⟩⟩) rfl (by decide) (H' := [_,_,_,_,_]) rfl (wl_lend [] [0,1,2,3,4] [0] rfl rfl rfl (freshS_eq rfl) rfl rfl fn_36 rfl (w_cmp_Or_int_s N (some ⟨g31,0, none⟩) 4 [v13, v20, v25, v30] _ hc32) (fun F w hφ hh => (ask_cons (own_sli (hh _ (mem_at (k := 0) rfl))) ask_nil)) (fun _ _ _ hR => by obtain ⟨rfl, rfl, rfl⟩ := hR; exact ⟨rfl, (fun _ h => free_nil h)⟩) rfl rfl (H' := [_,_,_,_,_]) rfl ?_)))))))))
 rintro _ _ _ ⟨rfl, rfl, rfl⟩
 refine wl_nil (we_x [0,1,2] [3,4,3,4,4,3,4,3] rfl rfl (xS hok 26 rfl (wP rfl (wl_nil (we_x [0,1,2] [] rfl rfl (wx_done hok rfl (we_then (wc_keep [6] (S' := [_]) rfl (wc_ret ?_)))))))))
 have hE := (Option.some.inj hm).symm
 replace hE := hE.symm
 subst hE
 refine ret_one (Hr := []) [] Tryd.results20 (res_tmp rfl) ⟨rfl, rfl, rfl⟩ (asK [] rfl) rfl rfl (.inl rfl)
theorem w_agenda_Better_s (N : Nat) (qp0 : Option Addr) (qc1 : Nat) (l0 : List Api_TypeD) (qp2 : Option Addr) (qc3 : Nat) (l1 : List Api_RuleD) (a2 : Int) (qp4 : Option Addr) (qc5 : Nat) (l3 : List Int) (a4 : Int) (qp6 : Option Addr) (qc7 : Nat) (l5 : List Int) (o0 : Bool) (hm : m_agenda_Better N l0 l1 a2 l3 a4 l5 = some o0) : Spec Tryd.prog 8 [.agg #[.slice qp0 l0.length qc1, .slice qp2 l1.length qc3], .agg #[.int .i64 a2, .slice qp4 l3.length qc5], .agg #[.int .i64 a4, .slice qp6 l5.length qc7]] [.sli 2 R_Api_TypeD qp0 qc1 l0, .sli 5 R_Api_RuleD qp2 qc3 l1, .sli 1 R_i64 qp4 qc5 l3, .sli 1 R_i64 qp6 qc7 l5] [] (fun v Φr Hr => v = .bool o0 ∧ Φr = [] ∧ Hr = []) := by
 unfold m_agenda_Better at hm
 refine spec_of Tryd.func8 rfl Tryd.ntmps8 rfl (S := [_,_,_]) rfl (fun C => (wc_seq (wc_region (wB rfl (fun g3 => (wB rfl (fun g4 => (wB rfl (fun g5 => (wP rfl (wl_nil (we_then (wc_keep [5,4,3] (S' := [_,_,_]) rfl (wc_seq ?_))))))))))))))
 obtain ⟨v8, hc8, hm⟩ := bindO_some hm
 obtain ⟨v11, hc11, hm⟩ := bindO_some hm
 refine wc_draw [0,2,3,5] rfl rfl (fun hok => (wx_loadH hok 0 2 0 rfl rfl rfl (freshS_eq rfl) rfl rfl rfl rfl (cs := [_,_]) rfl tS_31 tA_31 rfl rfl (wx_loadH hok 2 1 0 rfl rfl rfl (freshS_eq rfl) rfl rfl rfl rfl (cs := [_,_]) rfl tS_24 tA_24 rfl rfl (wx_loadH hok 3 0 0 rfl rfl rfl (freshS_eq rfl) rfl rfl rfl rfl (cs := [_,_]) rfl tS_24 tA_24 rfl rfl (xS hok 1 rfl (wC [] [0,1,2] rfl fn_19 rfl (w_agenda_by_s N qp0 qc1 l0 qp2 qc3 l1 _ hc8) (asK [0,1] rfl) rfl (H' := [_,_,_]) rfl ?_))))))
 rintro _ _ _ ⟨p8_0, c8_1, c8_2, rfl, rfl, rfl⟩
 refine wl_nil (we_x [0,1,2,3] [1,2] rfl rfl (xS hok 4 rfl (wl_ownLen 0 rfl (fun hzc8_2 _ => ?_))))
 subst hzc8_2
 refine wl_lend [] [0,1,2,3] [0] rfl rfl rfl (freshS_eq rfl) rfl rfl fn_20 rfl (w_agenda_order_compare_s N p8_0 c8_1 v8 a2 qp4 qc5 l3 a4 qp6 qc7 l5 _ hc11) (fun F w hφ hh => (ask_cons (own_sli (hh _ (mem_at (k := 0) rfl))) (ask_cons (hφ _ (mem_at (k := 2) rfl)) (ask_cons (hφ _ (mem_at (k := 3) rfl)) ask_nil)))) (fun _ _ _ hR => by obtain ⟨rfl, rfl, rfl⟩ := hR; exact ⟨rfl, (fun _ h => free_nil h)⟩) rfl rfl (H' := [_,_,_,_]) rfl ?_
 rintro _ _ _ ⟨rfl, rfl, rfl⟩
 refine wl_nil (we_x [0,1,2,3] [3] rfl rfl (xP hok 5 rfl (xS hok 6 rfl (wP rfl (wl_nil (we_x [0,1,2,3] [] rfl rfl (wx_done hok rfl (we_then (wc_keep [6] (S' := [_]) rfl (wc_ret ?_))))))))))
 have hE := (Option.some.inj hm).symm
 replace hE := hE.symm
 subst hE
 refine ret_one (Hr := []) [] Tryd.results8 (res_tmp rfl) ⟨rfl, rfl, rfl⟩ (asK [] rfl) rfl rfl (.inl rfl)
theorem w_ropewalkref14_salience_s (N : Nat) (qp0 : Option Addr) (qc1 : Nat) (l0 : List Api_TypeD) (qp2 : Option Addr) (qc3 : Nat) (l1 : List Api_RuleD) (a2 : Int) (qp4 : Option Addr) (qc5 : Nat) (l3 : List Int) (o0 : Int) (hm : m_ropewalkref14_salience N l0 l1 a2 l3 = some o0) : Spec Tryd.prog 21 [.agg #[.slice qp0 l0.length qc1, .slice qp2 l1.length qc3], .agg #[.int .i64 a2, .slice qp4 l3.length qc5]] [.sli 2 R_Api_TypeD qp0 qc1 l0, .sli 5 R_Api_RuleD qp2 qc3 l1, .sli 1 R_i64 qp4 qc5 l3] [] (fun v Φr Hr => v = .int .i64 o0 ∧ Φr = [] ∧ Hr = []) := by
 unfold m_ropewalkref14_salience at hm
 refine spec_of Tryd.func21 rfl Tryd.ntmps21 rfl (S := [_,_]) rfl (fun C => (wc_seq (wc_region (wB rfl (fun g2 => (wB rfl (fun g3 => (wP rfl (wl_nil (we_then (wc_keep [3,2] (S' := [_,_]) rfl (wc_seq (wc_seq ?_)))))))))))))
 obtain ⟨bj_1, hm, hLj_1⟩ := bindO_some hm
 refine wc_cut (σ := Bool) (fun j_1_15 => bj_1 = j_1_15) (fun j_1_15 => [(3, .pointer (some ⟨g3,0, none⟩)), (2, .pointer (some ⟨g2,0, none⟩)), (15, .bool j_1_15)]) (fun j_1_15 => [.sli 1 R_i64 qp4 qc5 l3, .sli 2 R_Api_TypeD qp0 qc1 l0, .sli 5 R_Api_RuleD qp2 qc3 l1]) (fun j_1_15 => [.blk g3 [.int .i64 a2, .slice qp4 l3.length qc5] 24, .blk g2 [.slice qp0 l0.length qc1, .slice qp2 l1.length qc3] 31]) ?_ ?_
 ·
  refine wc_region (wF rfl tF_24_0 (wD 0 0 rfl tS_3 tA_3 rfl (wP rfl (wP rfl ?_))))
  refine wl_split (d := 8) (S' := [_,_,_,_,_]) rfl rfl (fun hs8 => ?_) (fun hs8 => ?_)
  ·
   replace hm := iteT hm hs8
   refine wO rfl (wO rfl (wO rfl (wO rfl (wO rfl (wO rfl (wP rfl (wl_nil ?_)))))))
   have hE := (Option.some.inj hm).symm
   refine we_join true hE [3,2,15] rfl (asK [2,0,1] rfl) rfl
  ·
   replace hm := iteF hm hs8
   refine wF rfl tF_24_0 (wD 0 0 rfl tS_3 tA_3 rfl (wF rfl tF_31_1 (wD 1 1 rfl tS_29 tA_29 rfl (wN rfl tE_29 (wP rfl (wP rfl (wl_nil ?_)))))))
   have hE := (Option.some.inj hm).symm
   refine we_join (decide (a2 ≥ ((l1.length : Nat) : Int))) hE [3,2,15] rfl (asK [2,0,1] rfl) rfl
 ·
  rintro j_1_15 hE
  try dsimp only
  have hm := hLj_1
  rw [hE] at hm
  refine wc_cond rfl (fun hb15 => ?_) (fun hb15 => ?_)
  ·
   replace hm := iteT hm hb15
   refine wc_keep [] (S' := []) rfl (wc_seq (wc_region (wP rfl (wl_nil (we_then (wc_ret (we_then_ret ?_)))))))
   have hE := (Option.some.inj hm).symm
   replace hE := hE.symm
   subst hE
   refine ret_one (Hr := []) [] Tryd.results21 (res_tmp rfl) ⟨rfl, rfl, rfl⟩ (asK [] rfl) rfl rfl (.inl rfl)
  ·
   replace hm := iteF hm hb15
   refine wc_keep [3,2] (S' := [_,_]) rfl (wc_skip (we_then (wc_seq (wc_region (wF rfl tF_31_1 (wD 1 1 rfl tS_29 tA_29 rfl (wF rfl tF_24_0 (wD 0 0 rfl tS_3 tA_3 rfl ?_))))))))
   obtain ⟨hn20, hm⟩ := gd_some hm
   obtain ⟨x20, hx20, hm⟩ := bindO_some hm
   refine wl_indexA 2 a2.toNat rfl rfl rfl (freshS_eq rfl) rfl rfl rfl rfl (toNat_eq hn20) hx20 tE_29 tS_49 (fun b20 q20 cs20 hlx20 => (wl_open R_Api_RuleD_opens 1 rfl (fun r20 er20 _ => ?_)))
   subst er20
   refine wF rfl tF_49_1 (wl_load 2 1 rfl rfl rfl (freshS_eq rfl) rfl rfl rfl (cs := [_]) rfl tS_3 tA_3 rfl rfl (wP rfl (wl_nil (we_then (wc_keep [4] (S' := [_]) rfl (wc_ret ?_))))))
   have hE := (Option.some.inj hm).symm
   replace hE := hE.symm
   subst hE
   refine ret_one (Hr := []) [] Tryd.results21 (res_tmp rfl) ⟨rfl, rfl, rfl⟩ (asK [] rfl) rfl rfl (.inl rfl)
theorem w_ropewalkref14_falling_s (N : Nat) (qp0 : Option Addr) (qc1 : Nat) (l0 : List Int) (o2 : List Int) (hm : m_ropewalkref14_falling N l0 = some o2) : Spec Tryd.prog 22 [.slice qp0 l0.length qc1] [.sli 1 R_i64 qp0 qc1 l0] [] (fun v Φr Hr => ∃ (o0 : Option Addr) (o1 : Nat) (o3 : Nat), v = .slice o0 o3 o1 ∧ Φr = [] ∧ Hr = [.own 3 1 R_i64 (.slice o0 o3 o1) o2]) := by
 unfold m_ropewalkref14_falling at hm
 refine spec_of Tryd.func22 rfl Tryd.ntmps22 rfl (S := [_]) rfl (fun C => (wc_seq (wc_region (wP rfl (wl_nil (we_then (wc_keep [0] (S' := [_]) rfl (wc_seq (wc_region (wP rfl (wl_nil (we_then (wc_seq ?_)))))))))))))
 obtain ⟨bj_1, hm, hLj_1⟩ := bindO_some hm
 refine wc_cut (σ := (List Int) × (Option Addr) × Nat × Nat) (fun (j_1_3_l, j_1_3_p, j_1_3_c, j_1_3_n) => bj_1 = j_1_3_l) (fun (j_1_3_l, j_1_3_p, j_1_3_c, j_1_3_n) => [(3, .slice j_1_3_p j_1_3_n j_1_3_c)]) (fun (j_1_3_l, j_1_3_p, j_1_3_c, j_1_3_n) => []) (fun (j_1_3_l, j_1_3_p, j_1_3_c, j_1_3_n) => [.own 3 1 R_i64 (.slice j_1_3_p j_1_3_n j_1_3_c) j_1_3_l]) ?_ ?_
 ·
  refine wc_seq (wc_region (wP rfl (wl_nil (we_then (wc_block (wc_rowNil 3 1 R_i64 (wc_loop (σ := Nat × Nat × (List Int) × (Option Addr) × Nat × Nat) (fun (nu1, u1_4, u1_3_l, u1_3_p, u1_3_c, u1_3_n) => iter (m_ropewalkref14_falling_L1 N l0) nu1 (u1_4, u1_3_l) = some bj_1) (fun (nu1, u1_4, u1_3_l, u1_3_p, u1_3_c, u1_3_n) => nu1) (fun (nu1, u1_4, u1_3_l, u1_3_p, u1_3_c, u1_3_n) => [(4, .int .i64 ((u1_4 : Nat) : Int)), (3, .slice u1_3_p u1_3_n u1_3_c), (0, .slice qp0 l0.length qc1)]) (fun (nu1, u1_4, u1_3_l, u1_3_p, u1_3_c, u1_3_n) => [.sli 1 R_i64 qp0 qc1 l0]) (fun (nu1, u1_4, u1_3_l, u1_3_p, u1_3_c, u1_3_n) => [.own 3 1 R_i64 (.slice u1_3_p u1_3_n u1_3_c) u1_3_l]) (N, 0,[], none, 0,0) hm [4,3,0] rfl (asK [0] rfl) rfl (fun s_ hm => ?_))))))))
  obtain ⟨nu1, u1_4, u1_3_l, u1_3_p, u1_3_c, u1_3_n⟩ := s_
  try dsimp only at hm ⊢
  obtain ⟨mu1, bu1, hnu1, hq, hLu1⟩ := iter_some hm
  clear hm
  subst hnu1
  replace hm := hq
  clear hq
  unfold m_ropewalkref14_falling_L1 at hm
  try dsimp only at hm
  refine wc_seq (wc_seq (wc_region (wP rfl (wP rfl (wN rfl tE_22 (wP rfl (wl_as (d := 9) (v' := .bool (decide (u1_4 < l0.length))) (S' := [_,_,_,_,_,_]) rfl rfl (natlt (a := u1_4) (b := l0.length)) (wl_nil (we_then (wc_keep [9,4,3,0] (S' := [_,_,_,_]) rfl ?_))))))))))
  refine wc_cond rfl (fun hb9 => ?_) (fun hb9 => ?_)
  ·
   replace hm := iteT hm hb9
   refine wc_keep [4,3,0] (S' := [_,_,_]) rfl (wc_skip (we_then (wc_seq (wc_block (wc_seq (wc_region (wP rfl (wl_ownLen 0 rfl (fun hl13 _ => (wN rfl tE_22 (wl_as (d := 13) (v' := .int .i64 ((u1_3_l.length : Nat) : Int)) (S' := [_,_,_,_]) rfl rfl (len_is hl13) (wP rfl (wl_nil (we_then ?_))))))))))))))
   refine wc_keep [5,4,3,0] (S' := [_,_,_,_]) rfl (wc_seq (wc_region (wP rfl (wl_buildSlice rfl rfl rfl (freshS_eq rfl) rfl tE_22 tS_3 tZ_3 rfl (zs := [.int .i64 0]) (by kernel_rfl) rfl (out := [_]) rfl (fun g15 => ?_)))))
   obtain ⟨hg16, hm⟩ := gd_some hm
   refine wl_appendH [0] 1 0 rfl rfl rfl (freshS_eq rfl) rfl rfl rfl rfl rfl (fun F w hφ => ⟨[.int .i64 0],[], rfl, rfl, ⟨(), rfl, ask_nil⟩, rfl⟩) tE_22 tR_3 rfl rfl (Nat.le_trans hg16 (by decide)) (Nat.le_trans (Nat.mul_le_mul_right _ hg16) (by decide)) (H2 := fun p16 c16 => [_, .own 3 1 R_i64 (.slice p16 ((u1_3_l ++ [0]).length) c16) (u1_3_l ++ [0])]) (fun _ _ => rfl) (fun p16 c16 => (wl_drop 0 rfl (H' := [_]) rfl (wl_pure (S' := [_,_,_,_,_,_]) rfl rfl rfl rfl rfl (wl_nil (we_then (wc_keep [3,5,4,0] (S' := [_,_,_,_]) rfl (wc_seq ?_)))))))
   obtain ⟨bj_2, hm, hLj_2⟩ := bindO_some hm
   refine wc_cut (σ := (List Int) × Int) (fun (j_2_3_l, j_2_5) => bj_2 = (j_2_3_l, j_2_5)) (fun (j_2_3_l, j_2_5) => [(3, .slice p16 ((u1_3_l ++ [0]).length) c16), (5, .int .i64 j_2_5), (4, .int .i64 ((u1_4 : Nat) : Int)), (0, .slice qp0 l0.length qc1)]) (fun (j_2_3_l, j_2_5) => [.sli 1 R_i64 qp0 qc1 l0]) (fun (j_2_3_l, j_2_5) => [.own 3 1 R_i64 (.slice p16 ((u1_3_l ++ [0]).length) c16) j_2_3_l]) ?_ ?_
   ·
    refine wc_block (wc_loop (σ := Nat × (List Int) × Int) (fun (nu2, u2_3_l, u2_5) => iter (m_ropewalkref14_falling_L2 N l0 u1_4) nu2 (u2_3_l, u2_5) = some bj_2) (fun (nu2, u2_3_l, u2_5) => nu2) (fun (nu2, u2_3_l, u2_5) => [(3, .slice p16 ((u1_3_l ++ [0]).length) c16), (5, .int .i64 u2_5), (4, .int .i64 ((u1_4 : Nat) : Int)), (0, .slice qp0 l0.length qc1)]) (fun (nu2, u2_3_l, u2_5) => [.sli 1 R_i64 qp0 qc1 l0]) (fun (nu2, u2_3_l, u2_5) => [.own 3 1 R_i64 (.slice p16 ((u1_3_l ++ [0]).length) c16) u2_3_l]) (N, u1_3_l ++ [0], ((u1_3_l.length : Nat) : Int)) hm [3,5,4,0] rfl (asK [0] rfl) rfl (fun s_ hm => ?_))
    obtain ⟨nu2, u2_3_l, u2_5⟩ := s_
    try dsimp only at hm ⊢
    obtain ⟨mu2, bu2, hnu2, hq, hLu2⟩ := iter_some hm
    clear hm
    subst hnu2
    replace hm := hq
    clear hq
    unfold m_ropewalkref14_falling_L2 at hm
    try dsimp only at hm
    refine wc_seq (wc_seq ?_)
    obtain ⟨bj_3, hm, hLj_3⟩ := bindO_some hm
    unfold m_ropewalkref14_falling_C3 at hm
    refine wc_cut (σ := Bool) (fun j_3_30 => bj_3 = j_3_30) (fun j_3_30 => [(3, .slice p16 ((u1_3_l ++ [0]).length) c16), (5, .int .i64 u2_5), (4, .int .i64 ((u1_4 : Nat) : Int)), (0, .slice qp0 l0.length qc1), (30, .bool j_3_30)]) (fun j_3_30 => [.sli 1 R_i64 qp0 qc1 l0]) (fun j_3_30 => [.own 3 1 R_i64 (.slice p16 ((u1_3_l ++ [0]).length) c16) u2_3_l]) ?_ ?_
    ·
     rcases ite_some hm with ⟨hs19, hm⟩ | ⟨hs19, hm⟩
     ·
      obtain ⟨hg22, hm⟩ := gd_some hm
      obtain ⟨hn23, hm⟩ := gd_some hm
      obtain ⟨x23, hx23, hm⟩ := bindO_some hm
      obtain ⟨x27, hx27, hm⟩ := bindO_some hm
      refine wc_draw [0,1,2,3,4,5,6,7,8,9,10,11,12,13] rfl rfl (fun hok => (xP hok 0 rfl (xP hok 1 rfl (xP hok 2 rfl (wx_as (d := 19) (v' := .bool true) (S' := [_,_,_,_,_,_]) rfl rfl (bool_is hs19) (xP hok 3 rfl (xP hok 4 rfl (xP hok 5 rfl (wx_as (d := 22) (v' := .int .i64 (u2_5 - 1)) (S' := [_,_,_,_,_,_,_,_,_]) rfl rfl (i64_in hg22) (wx_indexH hok 6 0 ((u2_5 - 1).toNat) rfl rfl rfl (freshS_eq rfl) rfl rfl rfl rfl rfl (toNat_eq hn23) (get_lt hx23) tE_22 tS_3 (fun g23 eg23 => ?_)))))))))))
      subst eg23
      refine wx_loadRow hok 7 R_i64_opens 0 ((u2_5 - 1).toNat) 0 rfl rfl rfl (freshS_eq rfl) rfl rfl rfl rfl hx23 tS_3 tA_3 (v := .int .i64 x23) rfl rfl (fun _ => (xP hok 8 rfl (xP hok 9 rfl (wx_indexA hok 10 0 u1_4 rfl rfl rfl (freshS_eq rfl) rfl rfl rfl rfl rfl rfl hx27 tE_22 tS_3 (fun b27 q27 cs27 hlx27 => (wx_openR R_i64_opens 1 rfl (fun r27 er27 _ => ?_)))))))
      subst er27
      refine wx_load hok 11 0 0 rfl rfl rfl (freshS_eq rfl) rfl rfl rfl rfl (cs := [_]) rfl tS_3 tA_3 rfl rfl (xP hok 12 rfl (xP hok 13 rfl (wx_done hok rfl ?_)))
      have hE := (Option.some.inj hm).symm
      refine we_join (decide (x23 < x27)) hE [3,5,4,0,30] rfl (asK [2] rfl) rfl
     ·
      refine wc_draw [0,1,2,3,4,5,6,7,8,9,10,11,12,13] rfl rfl (fun hok => (xP hok 0 rfl (xP hok 1 rfl (xP hok 2 rfl (wx_as (d := 19) (v' := .bool false) (S' := [_,_,_,_,_,_]) rfl rfl (bool_is hs19) (xO hok 3 rfl (xO hok 4 rfl (xO hok 5 rfl (xO hok 6 rfl (xO hok 7 rfl (xO hok 8 rfl (xO hok 9 rfl (xO hok 10 rfl (xO hok 11 rfl ?_))))))))))))))
      refine xO hok 12 rfl (xP hok 13 rfl (wx_done hok rfl ?_))
      have hE := (Option.some.inj hm).symm
      refine we_join false hE [3,5,4,0,30] rfl (asK [0] rfl) rfl
    ·
     rintro j_3_30 hE
     try dsimp only
     have hm := hLj_3
     rw [hE] at hm
     refine wc_cond rfl (fun hb30 => ?_) (fun hb30 => ?_)
     ·
      replace hm := iteT hm hb30
      refine wc_keep [3,5,4,0] (S' := [_,_,_,_]) rfl (wc_skip (we_then (wc_block (wc_seq (wc_region (wP rfl (wP rfl (wP rfl (wP rfl (wP rfl ?_))))))))))
      obtain ⟨hg35, hm⟩ := gd_some hm
      refine wl_as (d := 35) (v' := .int .i64 (u2_5 - 1)) (S' := [_,_,_,_,_,_,_,_]) rfl rfl (i64_in hg35) ?_
      obtain ⟨hn36, hm⟩ := gd_some hm
      obtain ⟨x36, hx36, hm⟩ := bindO_some hm
      refine wl_indexH 0 ((u2_5 - 1).toNat) rfl rfl rfl (freshS_eq rfl) rfl rfl rfl rfl (toNat_eq hn36) (get_lt hx36) tE_22 tS_3 (fun g36 eg36 => ?_)
      subst eg36
      refine wl_loadRow R_i64_opens 0 ((u2_5 - 1).toNat) 0 rfl rfl rfl (freshS_eq rfl) rfl rfl rfl hx36 tS_3 tA_3 (v := fun _ => .int .i64 x36) (fun _ => rfl) (fun _ => rfl) (fun _ _ => ?_)
      obtain ⟨hn38, hm⟩ := gd_some hm
      obtain ⟨x38, hx38, hm⟩ := bindO_some hm
      refine wl_indexK 0 u2_5.toNat rfl rfl rfl (freshS_eq rfl) rfl rfl rfl rfl (toNat_eq hn38) (get_lt hx38) tE_22 tS_3 (wl_storeRow (u := x36) 0 u2_5.toNat rfl rfl rfl rfl rfl (get_lt hx38) rfl rfl tS_3 rfl (fun F w hφ => ⟨(), rfl, ask_nil⟩) (H' := [_]) rfl (wl_nil (we_then (wc_keep [3,5,4,0] (S' := [_,_,_,_]) rfl (wc_region (wP rfl (wP rfl ?_)))))))
      obtain ⟨hg40, hm⟩ := gd_some hm
      refine wl_as (d := 40) (v' := .int .i64 (u2_5 - 1)) (S' := [_,_,_,_,_]) rfl rfl (i64_in hg40) (wl_pure (S' := [_,_,_,_,_]) rfl rfl rfl rfl rfl (wl_nil (we_block_normal ?_)))
      have hE := (Option.some.inj hm).symm
      replace hE := link_inl hLu2 hE
      refine we_roundK (_, u2_3_l.set u2_5.toNat x36, u2_5 - 1) (Nat.lt_succ_self _) hE [3,5,4,0] rfl (asK [0] rfl) rfl
     ·
      replace hm := iteF hm hb30
      refine wc_keep [3,5,4,0] (S' := [_,_,_,_]) rfl (wc_exit (we_then_exit (we_then_exit (we_block_hit ?_))))
      have hE := (Option.some.inj hm).symm
      replace hE := link_inr hLu2 hE
      refine we_join (u2_3_l, u2_5) hE [3,5,4,0] rfl (asK [0] rfl) rfl
   ·
    rintro ⟨j_2_3_l, j_2_5⟩ hE
    try dsimp only
    have hm := hLj_2
    rw [hE] at hm
    try dsimp only at hm
    refine wc_region (wP rfl (wP rfl (wP rfl (wP rfl ?_))))
    obtain ⟨x45, hx45, hm⟩ := bindO_some hm
    refine wl_indexA 0 u1_4 rfl rfl rfl (freshS_eq rfl) rfl rfl rfl rfl rfl hx45 tE_22 tS_3 (fun b45 q45 cs45 hlx45 => (wl_open R_i64_opens 1 rfl (fun r45 er45 _ => ?_)))
    subst er45
    refine wl_load 0 0 rfl rfl rfl (freshS_eq rfl) rfl rfl rfl (cs := [_]) rfl tS_3 tA_3 rfl rfl ?_
    obtain ⟨hn47, hm⟩ := gd_some hm
    obtain ⟨x47, hx47, hm⟩ := bindO_some hm
    refine wl_indexH 0 j_2_5.toNat rfl rfl rfl (freshS_eq rfl) rfl rfl rfl rfl (toNat_eq hn47) (get_lt hx47) tE_22 tS_3 (fun g47 eg47 => ?_)
    subst eg47
    refine wl_storeRow (u := x45) 0 j_2_5.toNat rfl rfl rfl rfl rfl (get_lt hx47) rfl rfl tS_3 rfl (fun F w hφ => ⟨(), rfl, ask_nil⟩) (H' := [_]) rfl (wl_nil (we_block_normal (we_then (wc_keep [3,4,0] (S' := [_,_,_]) rfl (wc_region (wP rfl (wP rfl ?_)))))))
    obtain ⟨hg11, hm⟩ := gd_some hm
    refine wl_as (d := 11) (v' := .int .i64 ((u1_4 + 1 : Nat) : Int)) (S' := [_,_,_,_]) rfl rfl (nat_add (a := u1_4) (b := 1) hg11) (wl_pure (S' := [_,_,_,_]) rfl rfl rfl rfl rfl (wl_nil ?_))
    have hE := (Option.some.inj hm).symm
    replace hE := link_inl hLu1 hE
    refine we_roundK (_, u1_4 + 1, j_2_3_l.set j_2_5.toNat x45, some ⟨g47,0, none⟩, c16, (u1_3_l ++ [0]).length) (Nat.lt_succ_self _) hE [4,3,0] rfl (asK [2] rfl) rfl
  ·
   replace hm := iteF hm hb9
   refine wc_keep [3] (S' := [_]) rfl (wc_exit (we_then_exit (we_then_exit (we_block_hit ?_))))
   have hE := (Option.some.inj hm).symm
   replace hE := link_inr hLu1 hE
   refine we_join (u1_3_l, u1_3_p, u1_3_c, u1_3_n) hE [3] rfl (asK [] rfl) rfl
 ·
  rintro ⟨j_1_3_l, j_1_3_p, j_1_3_c, j_1_3_n⟩ hE
  try dsimp only
  have hm := hLj_1
  rw [hE] at hm
  refine wc_seq (wc_region (wP rfl (wP rfl (wl_nil (we_then (wc_keep [2] (S' := [_]) rfl (wc_ret ?_)))))))
  have hE := (Option.some.inj hm).symm
  replace hE := hE.symm
  subst hE
  refine ret_one (Hr := [_]) [0] Tryd.results22 (res_tmp rfl) ⟨j_1_3_p, j_1_3_c, j_1_3_n, rfl, rfl, rfl⟩ (asK [] rfl) rfl rfl (.inl rfl)
theorem w_ropewalkref14_Better_s (N : Nat) (qp0 : Option Addr) (qc1 : Nat) (l0 : List Api_TypeD) (qp2 : Option Addr) (qc3 : Nat) (l1 : List Api_RuleD) (a2 : Int) (qp4 : Option Addr) (qc5 : Nat) (l3 : List Int) (a4 : Int) (qp6 : Option Addr) (qc7 : Nat) (l5 : List Int) (o0 : Bool) (hm : m_ropewalkref14_Better N l0 l1 a2 l3 a4 l5 = some o0) : Spec Tryd.prog 9 [.agg #[.slice qp0 l0.length qc1, .slice qp2 l1.length qc3], .agg #[.int .i64 a2, .slice qp4 l3.length qc5], .agg #[.int .i64 a4, .slice qp6 l5.length qc7]] [.sli 2 R_Api_TypeD qp0 qc1 l0, .sli 5 R_Api_RuleD qp2 qc3 l1, .sli 1 R_i64 qp4 qc5 l3, .sli 1 R_i64 qp6 qc7 l5] [] (fun v Φr Hr => v = .bool o0 ∧ Φr = [] ∧ Hr = []) := by
 unfold m_ropewalkref14_Better at hm
 refine spec_of Tryd.func9 rfl Tryd.ntmps9 rfl (S := [_,_,_]) rfl (fun C => (wc_seq (wc_region (wB rfl (fun g3 => (wB rfl (fun g4 => (wB rfl (fun g5 => (wP rfl (wl_nil (we_then (wc_keep [5,4,3] (S' := [_,_,_]) rfl (wc_seq ?_))))))))))))))
 obtain ⟨v15, hc15, hm⟩ := bindO_some hm
 obtain ⟨v18, hc18, hm⟩ := bindO_some hm
 refine wc_draw [0,1,3,4] rfl rfl (fun hok => (wx_loadH hok 0 2 0 rfl rfl rfl (freshS_eq rfl) rfl rfl rfl rfl (cs := [_,_]) rfl tS_31 tA_31 rfl rfl (wx_loadH hok 1 1 0 rfl rfl rfl (freshS_eq rfl) rfl rfl rfl rfl (cs := [_,_]) rfl tS_24 tA_24 rfl rfl (wx_loadH hok 3 2 0 rfl rfl rfl (freshS_eq rfl) rfl rfl rfl rfl (cs := [_,_]) rfl tS_31 tA_31 rfl rfl (wx_loadH hok 4 0 0 rfl rfl rfl (freshS_eq rfl) rfl rfl rfl rfl (cs := [_,_]) rfl tS_24 tA_24 rfl rfl (xS hok 2 rfl (wC [] [0,1,2] rfl fn_21 rfl (w_ropewalkref14_salience_s N qp0 qc1 l0 qp2 qc3 l1 a2 qp4 qc5 l3 _ hc15) (asK [0,1,2] rfl) rfl (H' := [_,_,_]) rfl ?_)))))))
 rintro _ _ _ ⟨rfl, rfl, rfl⟩
 refine wl_nil (we_x [0,1,2,3] [0,2] rfl rfl (xS hok 5 rfl (wC [] [0,1,2] rfl fn_21 rfl (w_ropewalkref14_salience_s N qp0 qc1 l0 qp2 qc3 l1 a4 qp6 qc7 l5 _ hc18) (asK [0,1,3] rfl) rfl (H' := [_,_,_]) rfl ?_)))
 rintro _ _ _ ⟨rfl, rfl, rfl⟩
 refine wl_nil (we_x [0,1,2,3] [1,2] rfl rfl (xS hok 6 rfl (wP rfl (wl_nil (we_x [0,1,2,3] [0,2] rfl rfl (xS hok 7 rfl (wP rfl (wl_nil (we_x [0,1,2,3] [] rfl rfl (wx_done hok rfl (we_then (wc_keep [8,7,5,4] (S' := [_,_,_,_]) rfl (wc_seq ?_)))))))))))))
 refine wc_seq (wc_region (wP rfl (wP rfl (wP rfl (wl_nil (we_then (wc_keep [21,8,7,5,4] (S' := [_,_,_,_,_]) rfl ?_)))))))
 refine wc_cond rfl (fun hb21 => ?_) (fun hb21 => ?_)
 ·
  replace hm := iteT hm hb21
  refine wc_keep [8,7] (S' := [_,_]) rfl (wc_seq (wc_region (wP rfl (wP rfl (wP rfl (wP rfl (wl_nil (we_then (wc_keep [6] (S' := [_]) rfl (wc_ret (we_then_ret ?_)))))))))))
  have hE := (Option.some.inj hm).symm
  replace hE := hE.symm
  subst hE
  refine ret_one (Hr := []) [] Tryd.results9 (res_tmp rfl) ⟨rfl, rfl, rfl⟩ (asK [] rfl) rfl rfl (.inl rfl)
 ·
  replace hm := iteF hm hb21
  refine wc_keep [5,4] (S' := [_,_]) rfl (wc_skip (we_then (wc_seq ?_)))
  obtain ⟨v27, hc27, hm⟩ := bindO_some hm
  obtain ⟨v30, hc30, hm⟩ := bindO_some hm
  refine wc_draw [0,1,3,4] rfl rfl (fun hok => (wx_fieldAddr hok 0 rfl rfl rfl (freshS_eq rfl) rfl rfl rfl tF_24_1 (wx_loadH hok 1 1 1 rfl rfl rfl (freshS_eq rfl) rfl rfl rfl rfl (cs := [_]) rfl tS_22 tA_22 rfl rfl (wx_fieldAddr hok 3 rfl rfl rfl (freshS_eq rfl) rfl rfl rfl tF_24_1 (wx_loadH hok 4 0 1 rfl rfl rfl (freshS_eq rfl) rfl rfl rfl rfl (cs := [_]) rfl tS_22 tA_22 rfl rfl (xS hok 2 rfl (wC [] [0,1,2] rfl fn_22 rfl (w_ropewalkref14_falling_s N qp4 qc5 l3 _ hc27) (asK [2] rfl) rfl (H' := [_,_,_]) rfl ?_)))))))
  rintro _ _ _ ⟨p27_0, c27_1, c27_2, rfl, rfl, rfl⟩
  refine wl_nil (we_x [0,1,2,3] [1] rfl rfl (xS hok 5 rfl (wC [] [0,1,2,3] rfl fn_22 rfl (w_ropewalkref14_falling_s N qp6 qc7 l5 _ hc30) (asK [3] rfl) rfl (H' := [_,_,_,_]) rfl ?_)))
  rintro _ _ _ ⟨p30_0, c30_1, c30_2, rfl, rfl, rfl⟩
  refine wl_nil (we_x [0,1,2,3] [3] rfl rfl (xS hok 6 rfl (wP rfl (wl_nil (we_x [0,1,2,3] [2] rfl rfl (xS hok 7 rfl (wP rfl (wl_nil (we_x [0,1,2,3] [] rfl rfl (wx_done hok rfl (we_then (wc_keep [10,9,5,4] (S' := [_,_,_,_]) rfl (wc_seq ?_)))))))))))))
  obtain ⟨bj_1, hm, hLj_1⟩ := bindS_some hm
  refine wc_cut (σ := Unit) (fun _ => bj_1 = .inl ()) (fun _ => [(10, .slice p30_0 c30_2 c30_1), (9, .slice p27_0 c27_2 c27_1), (5, .pointer (some ⟨g5,0, none⟩)), (4, .pointer (some ⟨g4,0, none⟩))]) (fun _ => [.sli 1 R_i64 qp6 qc7 l5, .sli 1 R_i64 qp4 qc5 l3]) (fun _ => [.own 3 1 R_i64 (.slice p30_0 c30_2 c30_1) v30, .own 3 1 R_i64 (.slice p27_0 c27_2 c27_1) v27, .blk g5 [.int .i64 a4, .slice qp6 l5.length qc7] 24, .blk g4 [.int .i64 a2, .slice qp4 l3.length qc5] 24]) ?_ ?_
  ·
   refine wc_seq (wc_region (wP rfl (wl_nil (we_then (wc_block (wc_pick [0,1,2,3] rfl (H' := [_,_,_,_]) rfl (wc_loop (σ := Nat × Nat) (fun (nu1, u1_11) => iter (m_ropewalkref14_Better_L1 N v27 v30) nu1 u1_11 = some bj_1) (fun (nu1, u1_11) => nu1) (fun (nu1, u1_11) => [(11, .int .i64 ((u1_11 : Nat) : Int)), (10, .slice p30_0 c30_2 c30_1), (9, .slice p27_0 c27_2 c27_1), (5, .pointer (some ⟨g5,0, none⟩)), (4, .pointer (some ⟨g4,0, none⟩))]) (fun (nu1, u1_11) => [.sli 1 R_i64 qp6 qc7 l5, .sli 1 R_i64 qp4 qc5 l3]) (fun (nu1, u1_11) => [.own 3 1 R_i64 (.slice p30_0 c30_2 c30_1) v30, .own 3 1 R_i64 (.slice p27_0 c27_2 c27_1) v27, .blk g5 [.int .i64 a4, .slice qp6 l5.length qc7] 24, .blk g4 [.int .i64 a2, .slice qp4 l3.length qc5] 24]) (N, 0) hm [11,10,9,5,4] rfl (asK [3,2] rfl) rfl (fun s_ hm => ?_))))))))
   obtain ⟨nu1, u1_11⟩ := s_
   try dsimp only at hm ⊢
   obtain ⟨mu1, bu1, hnu1, hq, hLu1⟩ := iter_some hm
   clear hm
   subst hnu1
   replace hm := hq
   clear hq
   unfold m_ropewalkref14_Better_L1 at hm
   try dsimp only at hm
   refine wc_seq (wc_seq ?_)
   obtain ⟨bj_2, hm, hLj_2⟩ := bindO_some hm
   refine wc_cut (σ := Bool) (fun j_2_40 => bj_2 = j_2_40) (fun j_2_40 => [(11, .int .i64 ((u1_11 : Nat) : Int)), (10, .slice p30_0 c30_2 c30_1), (9, .slice p27_0 c27_2 c27_1), (5, .pointer (some ⟨g5,0, none⟩)), (4, .pointer (some ⟨g4,0, none⟩)), (40, .bool j_2_40)]) (fun j_2_40 => [.sli 1 R_i64 qp6 qc7 l5, .sli 1 R_i64 qp4 qc5 l3]) (fun j_2_40 => [.own 3 1 R_i64 (.slice p30_0 c30_2 c30_1) v30, .own 3 1 R_i64 (.slice p27_0 c27_2 c27_1) v27, .blk g5 [.int .i64 a4, .slice qp6 l5.length qc7] 24, .blk g4 [.int .i64 a2, .slice qp4 l3.length qc5] 24]) ?_ ?_
   ·
    refine wc_region (wP rfl (wP rfl (wl_ownLen 1 rfl (fun hl33 _ => (wN rfl tE_22 (wl_as (d := 33) (v' := .int .i64 ((v27.length : Nat) : Int)) (S' := [_,_,_,_,_,_,_]) rfl rfl (len_is hl33) (wP rfl (wl_as (d := 34) (v' := .bool (decide (u1_11 < v27.length))) (S' := [_,_,_,_,_,_,_,_]) rfl rfl (natlt (a := u1_11) (b := v27.length)) (wP rfl ?_)))))))))
    refine wl_split (d := 35) (S' := [_,_,_,_,_,_,_,_,_]) rfl rfl (fun hs35 => ?_) (fun hs35 => ?_)
    ·
     replace hm := iteT hm hs35
     refine wP rfl (wP rfl (wl_ownLen 0 rfl (fun hl38 _ => (wN rfl tE_22 (wl_as (d := 38) (v' := .int .i64 ((v30.length : Nat) : Int)) (S' := [_,_,_,_,_,_,_,_,_,_,_,_]) rfl rfl (len_is hl38) (wP rfl (wl_as (d := 39) (v' := .bool (decide (u1_11 < v30.length))) (S' := [_,_,_,_,_,_,_,_,_,_,_,_,_]) rfl rfl (natlt (a := u1_11) (b := v30.length)) (wP rfl (wl_nil ?_)))))))))
     have hE := (Option.some.inj hm).symm
     refine we_join (decide (u1_11 < v30.length)) hE [11,10,9,5,4,40] rfl (asK [0,1] rfl) rfl
    ·
     replace hm := iteF hm hs35
     refine wO rfl (wO rfl (wO rfl (wO rfl (wP rfl (wl_nil ?_)))))
     have hE := (Option.some.inj hm).symm
     refine we_join false hE [11,10,9,5,4,40] rfl (asK [0,1] rfl) rfl
   ·
    rintro j_2_40 hE
    try dsimp only
    have hm := hLj_2
    rw [hE] at hm
    refine wc_cond rfl (fun hb40 => ?_) (fun hb40 => ?_)
    ·
     replace hm := iteT hm hb40
     refine wc_keep [11,10,9,5,4] (S' := [_,_,_,_,_]) rfl (wc_skip (we_then (wc_seq (wc_block (wc_seq ?_)))))
     obtain ⟨x45, hx45, hm⟩ := bindO_some hm
     obtain ⟨x49, hx49, hm⟩ := bindO_some hm
     refine wc_draw [0,1,2,3,4,5,6,7,8] rfl rfl (fun hok => (xP hok 0 rfl (xP hok 1 rfl (wx_indexH hok 2 1 u1_11 rfl rfl rfl (freshS_eq rfl) rfl rfl rfl rfl rfl rfl (get_lt hx45) tE_22 tS_3 (fun g45 eg45 => ?_)))))
     subst eg45
     refine wx_loadRow hok 3 R_i64_opens 1 u1_11 0 rfl rfl rfl (freshS_eq rfl) rfl rfl rfl rfl hx45 tS_3 tA_3 (v := .int .i64 x45) rfl rfl (fun _ => (xP hok 4 rfl (xP hok 5 rfl (wx_indexH hok 6 0 u1_11 rfl rfl rfl (freshS_eq rfl) rfl rfl rfl rfl rfl rfl (get_lt hx49) tE_22 tS_3 (fun g49 eg49 => ?_)))))
     subst eg49
     refine wx_loadRow hok 7 R_i64_opens 0 u1_11 0 rfl rfl rfl (freshS_eq rfl) rfl rfl rfl rfl hx49 tS_3 tA_3 (v := .int .i64 x49) rfl rfl (fun _ => (xP hok 8 rfl (wx_done hok rfl (we_then (wc_keep [51,11,10,9,5,4] (S' := [_,_,_,_,_,_]) rfl ?_)))))
     refine wc_cond rfl (fun hb51 => ?_) (fun hb51 => ?_)
     ·
      replace hm := iteT hm hb51
      refine wc_keep [11,10,9] (S' := [_,_,_]) rfl (wc_seq ?_)
      obtain ⟨x54, hx54, hm⟩ := bindO_some hm
      obtain ⟨x58, hx58, hm⟩ := bindO_some hm
      refine wc_draw [0,1,2,3,4,5,6,7,8] rfl rfl (fun hok => (xP hok 0 rfl (xP hok 1 rfl (wx_indexK hok 2 1 u1_11 rfl rfl rfl (freshS_eq rfl) rfl rfl rfl rfl rfl rfl (get_lt hx54) tE_22 tS_3 (wx_loadRow hok 3 R_i64_opens 1 u1_11 0 rfl rfl rfl (freshS_eq rfl) rfl rfl rfl rfl hx54 tS_3 tA_3 (v := .int .i64 x54) rfl rfl (fun _ => (xP hok 4 rfl (xP hok 5 rfl (wx_indexK hok 6 0 u1_11 rfl rfl rfl (freshS_eq rfl) rfl rfl rfl rfl rfl rfl (get_lt hx58) tE_22 tS_3 (wx_loadRow hok 7 R_i64_opens 0 u1_11 0 rfl rfl rfl (freshS_eq rfl) rfl rfl rfl rfl hx58 tS_3 tA_3 (v := .int .i64 x58) rfl rfl (fun _ => (xP hok 8 rfl (xS hok 9 rfl (wP rfl (wl_nil (we_x [0,1] [] rfl rfl ?_))))))))))))))))
      refine wx_done hok rfl (we_then (wc_keep [6] (S' := [_]) rfl (wc_ret (we_block_ret (we_then_ret (we_then_ret (we_block_ret (we_then_ret ?_))))))))
      have hE := (Option.some.inj hm).symm
      replace hE := link_inr hLu1 hE
      replace hE := link_inr hLj_1 hE
      replace hE := hE.symm
      subst hE
      refine ret_one (Hr := []) [] Tryd.results9 (res_tmp rfl) ⟨rfl, rfl, rfl⟩ (asK [] rfl) rfl rfl (.inl rfl)
     ·
      replace hm := iteF hm hb51
      refine wc_keep [11,10,9,5,4] (S' := [_,_,_,_,_]) rfl (wc_skip (we_block_normal (we_then (wc_region (wP rfl (wP rfl ?_))))))
      obtain ⟨hg42, hm⟩ := gd_some hm
      refine wl_as (d := 42) (v' := .int .i64 ((u1_11 + 1 : Nat) : Int)) (S' := [_,_,_,_,_,_]) rfl rfl (nat_add (a := u1_11) (b := 1) hg42) (wl_pure (S' := [_,_,_,_,_,_]) rfl rfl rfl rfl rfl (wl_nil ?_))
      have hE := (Option.some.inj hm).symm
      replace hE := link_inl hLu1 hE
      refine we_roundK (_, u1_11 + 1) (Nat.lt_succ_self _) hE [11,10,9,5,4] rfl (asK [0,1] rfl) rfl
    ·
     replace hm := iteF hm hb40
     refine wc_keep [10,9,5,4] (S' := [_,_,_,_]) rfl (wc_exit (we_then_exit (we_then_exit (we_block_hit ?_))))
     have hE := (Option.some.inj hm).symm
     replace hE := link_inr hLu1 hE
     refine we_join () hE [10,9,5,4] rfl (asK [0,1] rfl) rfl
  ·
   rintro _ hE
   try dsimp only
   have hm := link_inl hLj_1 hE
   try dsimp only at hm
   refine wc_seq (wc_seq (wc_region (wP rfl (wl_ownLen 1 rfl (fun hl62 _ => (wN rfl tE_22 (wl_as (d := 62) (v' := .int .i64 ((v27.length : Nat) : Int)) (S' := [_,_,_,_,_]) rfl rfl (len_is hl62) (wP rfl (wl_ownLen 0 rfl (fun hl64 _ => (wN rfl tE_22 (wl_as (d := 64) (v' := .int .i64 ((v30.length : Nat) : Int)) (S' := [_,_,_,_,_,_,_]) rfl rfl (len_is hl64) (wP rfl (wl_as (d := 65) (v' := .bool (v27.length != v30.length)) (S' := [_,_,_,_,_,_,_,_]) rfl rfl (natne (a := v27.length) (b := v30.length)) (wl_nil ?_)))))))))))))))
   refine we_then (wc_keep [65,10,9,5,4] (S' := [_,_,_,_,_]) rfl ?_)
   refine wc_cond rfl (fun hb65 => ?_) (fun hb65 => ?_)
   ·
    replace hm := iteT hm hb65
    refine wc_keep [10,9] (S' := [_,_]) rfl (wc_seq (wc_region (wP rfl (wl_ownLen 1 rfl (fun hl67 _ => (wN rfl tE_22 (wl_as (d := 67) (v' := .int .i64 ((v27.length : Nat) : Int)) (S' := [_,_,_]) rfl rfl (len_is hl67) (wP rfl (wl_ownLen 0 rfl (fun hl69 _ => (wN rfl tE_22 (wl_as (d := 69) (v' := .int .i64 ((v30.length : Nat) : Int)) (S' := [_,_,_,_,_]) rfl rfl (len_is hl69) (wP rfl (wl_as (d := 70) (v' := .bool (decide (v30.length < v27.length))) (S' := [_,_,_,_,_,_]) rfl rfl (natgt (a := v27.length) (b := v30.length)) (wP rfl ?_)))))))))))))))
    refine wl_nil (we_then (wc_keep [6] (S' := [_]) rfl (wc_ret (we_then_ret ?_))))
    have hE := (Option.some.inj hm).symm
    replace hE := hE.symm
    subst hE
    refine ret_one (Hr := []) [] Tryd.results9 (res_tmp rfl) ⟨rfl, rfl, rfl⟩ (asK [] rfl) rfl rfl (.inl rfl)
   ·
    replace hm := iteF hm hb65
    refine wc_keep [5,4] (S' := [_,_]) rfl (wc_skip (we_then (wc_seq (wc_seq (wc_region (wF rfl tF_24_0 (wD 3 0 rfl tS_3 tA_3 rfl (wF rfl tF_24_0 (wD 2 0 rfl tS_3 tA_3 rfl (wP rfl (wl_nil (we_then (wc_keep [75,5,4] (S' := [_,_,_]) rfl ?_)))))))))))))
    refine wc_cond rfl (fun hb75 => ?_) (fun hb75 => ?_)
    ·
     replace hm := iteT hm hb75
     refine wc_keep [5,4] (S' := [_,_]) rfl (wc_seq (wc_region (wF rfl tF_24_0 (wD 3 0 rfl tS_3 tA_3 rfl (wF rfl tF_24_0 (wD 2 0 rfl tS_3 tA_3 rfl (wP rfl (wP rfl (wl_nil (we_then (wc_keep [6] (S' := [_]) rfl (wc_ret (we_then_ret ?_)))))))))))))
     have hE := (Option.some.inj hm).symm
     replace hE := hE.symm
     subst hE
     refine ret_one (Hr := []) [] Tryd.results9 (res_tmp rfl) ⟨rfl, rfl, rfl⟩ (asK [] rfl) rfl rfl (.inl rfl)
    ·
     replace hm := iteF hm hb75
     refine wc_keep [5,4] (S' := [_,_]) rfl (wc_skip (we_then (wc_seq ?_)))
     obtain ⟨bj_3, hm, hLj_3⟩ := bindS_some hm
     refine wc_cut (σ := Unit) (fun _ => bj_3 = .inl ()) (fun _ => []) (fun _ => []) (fun _ => []) ?_ ?_
     ·
      refine wc_seq (wc_region (wP rfl (wl_nil (we_then (wc_block (wc_pick [2,3] rfl (H' := [_,_]) rfl (wc_loop (σ := Nat × Nat) (fun (nu2, u2_12) => iter (m_ropewalkref14_Better_L2 N l3 l5) nu2 u2_12 = some bj_3) (fun (nu2, u2_12) => nu2) (fun (nu2, u2_12) => [(12, .int .i64 ((u2_12 : Nat) : Int)), (5, .pointer (some ⟨g5,0, none⟩)), (4, .pointer (some ⟨g4,0, none⟩))]) (fun (nu2, u2_12) => [.sli 1 R_i64 qp6 qc7 l5, .sli 1 R_i64 qp4 qc5 l3]) (fun (nu2, u2_12) => [.blk g5 [.int .i64 a4, .slice qp6 l5.length qc7] 24, .blk g4 [.int .i64 a2, .slice qp4 l3.length qc5] 24]) (N, 0) hm [12,5,4] rfl (asK [0,1] rfl) rfl (fun s_ hm => ?_))))))))
      obtain ⟨nu2, u2_12⟩ := s_
      try dsimp only at hm ⊢
      obtain ⟨mu2, bu2, hnu2, hq, hLu2⟩ := iter_some hm
      clear hm
      subst hnu2
      replace hm := hq
      clear hq
      unfold m_ropewalkref14_Better_L2 at hm
      try dsimp only at hm
      refine wc_seq (wc_seq (wc_region (wP rfl (wF rfl tF_24_1 (wD 1 1 rfl tS_22 tA_22 rfl (wN rfl tE_22 (wP rfl (wl_as (d := 85) (v' := .bool (decide (u2_12 < l3.length))) (S' := [_,_,_,_,_,_,_]) rfl rfl (natlt (a := u2_12) (b := l3.length)) (wl_nil (we_then (wc_keep [85,12,5,4] (S' := [_,_,_,_]) rfl ?_)))))))))))
      refine wc_cond rfl (fun hb85 => ?_) (fun hb85 => ?_)
      ·
       replace hm := iteT hm hb85
       refine wc_keep [12,5,4] (S' := [_,_,_]) rfl (wc_skip (we_then (wc_seq (wc_block (wc_seq ?_)))))
       obtain ⟨x91, hx91, hm⟩ := bindO_some hm
       obtain ⟨x96, hx96, hm⟩ := bindO_some hm
       refine wc_draw [0,1,2,3,4,5,6,7,8,9,10] rfl rfl (fun hok => (wx_fieldAddr hok 0 rfl rfl rfl (freshS_eq rfl) rfl rfl rfl tF_24_1 (wx_loadH hok 1 1 1 rfl rfl rfl (freshS_eq rfl) rfl rfl rfl rfl (cs := [_]) rfl tS_22 tA_22 rfl rfl (xP hok 2 rfl (wx_indexA hok 3 1 u2_12 rfl rfl rfl (freshS_eq rfl) rfl rfl rfl rfl rfl rfl hx91 tE_22 tS_3 (fun b91 q91 cs91 hlx91 => (wx_openR R_i64_opens 1 rfl (fun r91 er91 _ => ?_))))))))
       subst er91
       refine wx_load hok 4 0 0 rfl rfl rfl (freshS_eq rfl) rfl rfl rfl rfl (cs := [_]) rfl tS_3 tA_3 rfl rfl (wx_fieldAddr hok 5 rfl rfl rfl (freshS_eq rfl) rfl rfl rfl tF_24_1 (wx_loadH hok 6 0 1 rfl rfl rfl (freshS_eq rfl) rfl rfl rfl rfl (cs := [_]) rfl tS_22 tA_22 rfl rfl (xP hok 7 rfl (wx_indexA hok 8 2 u2_12 rfl rfl rfl (freshS_eq rfl) rfl rfl rfl rfl rfl rfl hx96 tE_22 tS_3 (fun b96 q96 cs96 hlx96 => (wx_openR R_i64_opens 1 rfl (fun r96 er96 _ => ?_)))))))
       subst er96
       refine wx_load hok 9 0 0 rfl rfl rfl (freshS_eq rfl) rfl rfl rfl rfl (cs := [_]) rfl tS_3 tA_3 rfl rfl (xP hok 10 rfl (wx_done hok rfl (we_then (wc_keep [98,12,5,4] (S' := [_,_,_,_]) rfl ?_))))
       refine wc_cond rfl (fun hb98 => ?_) (fun hb98 => ?_)
       ·
        replace hm := iteT hm hb98
        refine wc_keep [12,5,4] (S' := [_,_,_]) rfl (wc_seq ?_)
        obtain ⟨x102, hx102, hm⟩ := bindO_some hm
        obtain ⟨x107, hx107, hm⟩ := bindO_some hm
        refine wc_draw [0,1,2,3,4,5,6,7,8,9,10] rfl rfl (fun hok => (wx_fieldAddr hok 0 rfl rfl rfl (freshS_eq rfl) rfl rfl rfl tF_24_1 (wx_loadH hok 1 1 1 rfl rfl rfl (freshS_eq rfl) rfl rfl rfl rfl (cs := [_]) rfl tS_22 tA_22 rfl rfl (xP hok 2 rfl (wx_indexA hok 3 5 u2_12 rfl rfl rfl (freshS_eq rfl) rfl rfl rfl rfl rfl rfl hx102 tE_22 tS_3 (fun b102 q102 cs102 hlx102 => (wx_openR R_i64_opens 1 rfl (fun r102 er102 _ => ?_))))))))
        subst er102
        refine wx_load hok 4 0 0 rfl rfl rfl (freshS_eq rfl) rfl rfl rfl rfl (cs := [_]) rfl tS_3 tA_3 rfl rfl (wx_fieldAddr hok 5 rfl rfl rfl (freshS_eq rfl) rfl rfl rfl tF_24_1 (wx_loadH hok 6 0 1 rfl rfl rfl (freshS_eq rfl) rfl rfl rfl rfl (cs := [_]) rfl tS_22 tA_22 rfl rfl (xP hok 7 rfl (wx_indexA hok 8 6 u2_12 rfl rfl rfl (freshS_eq rfl) rfl rfl rfl rfl rfl rfl hx107 tE_22 tS_3 (fun b107 q107 cs107 hlx107 => (wx_openR R_i64_opens 1 rfl (fun r107 er107 _ => ?_)))))))
        subst er107
        refine wx_load hok 9 0 0 rfl rfl rfl (freshS_eq rfl) rfl rfl rfl rfl (cs := [_]) rfl tS_3 tA_3 rfl rfl (xP hok 10 rfl (xS hok 11 rfl (wP rfl (wl_nil (we_x [0,1,2,3,4,5,6,7,8,9] [] rfl rfl (wx_done hok rfl (we_then (wc_keep [6] (S' := [_]) rfl (wc_ret (we_block_ret (we_then_ret (we_then_ret (we_block_ret ?_)))))))))))))
        refine we_then_ret ?_
        have hE := (Option.some.inj hm).symm
        replace hE := link_inr hLu2 hE
        replace hE := link_inr hLj_3 hE
        replace hE := hE.symm
        subst hE
        refine ret_one (Hr := []) [] Tryd.results9 (res_tmp rfl) ⟨rfl, rfl, rfl⟩ (asK [] rfl) rfl rfl (.inl rfl)
       ·
        replace hm := iteF hm hb98
        refine wc_keep [12,5,4] (S' := [_,_,_]) rfl (wc_skip (we_block_normal (we_then (wc_region (wP rfl (wP rfl ?_))))))
        obtain ⟨hg87, hm⟩ := gd_some hm
        refine wl_as (d := 87) (v' := .int .i64 ((u2_12 + 1 : Nat) : Int)) (S' := [_,_,_,_]) rfl rfl (nat_add (a := u2_12) (b := 1) hg87) (wl_pure (S' := [_,_,_,_]) rfl rfl rfl rfl rfl (wl_nil ?_))
        have hE := (Option.some.inj hm).symm
        replace hE := link_inl hLu2 hE
        refine we_roundK (_, u2_12 + 1) (Nat.lt_succ_self _) hE [12,5,4] rfl (asK [4,5] rfl) rfl
      ·
       replace hm := iteF hm hb85
       refine wc_keep [] (S' := []) rfl (wc_exit (we_then_exit (we_then_exit (we_block_hit ?_))))
       have hE := (Option.some.inj hm).symm
       replace hE := link_inr hLu2 hE
       refine we_pick [] rfl (H' := []) rfl ?_
       refine we_join () hE [] rfl (asK [] rfl) rfl
     ·
      rintro _ hE
      try dsimp only
      have hm := link_inl hLj_3 hE
      try dsimp only at hm
      refine wc_seq (wc_region (wP rfl (wl_nil (we_then (wc_ret ?_)))))
      have hE := (Option.some.inj hm).symm
      replace hE := hE.symm
      subst hE
      refine ret_one (Hr := []) [] Tryd.results9 (res_tmp rfl) ⟨rfl, rfl, rfl⟩ (asK [] rfl) rfl rfl (.inl rfl)
theorem w_ropewalkkit_SameInts_W_s (N : Nat) (qp0 : Option Addr) (qc1 : Nat) (l0 : List Int) (k1 : Nat) (qp2 : Option Addr) (qc3 : Nat) (l2 : List Int) (o0 : Bool) (hm : m_ropewalkkit_SameInts_W N l0 k1 l2 = some o0) : Spec Tryd.prog 41 [.slice qp0 k1 qc1, .slice qp2 l2.length qc3] [.sli 1 R_i64 qp0 qc1 l0, .sli 1 R_i64 qp2 qc3 l2] [] (fun v Φr Hr => v = .bool o0 ∧ Φr = [] ∧ Hr = []) := by
 unfold m_ropewalkkit_SameInts_W at hm
 refine spec_of Tryd.func41 rfl Tryd.ntmps41 rfl (S := [_,_]) rfl (fun C => (wc_seq (wc_region (wP rfl (wl_nil (we_then (wc_keep [0,1] (S' := [_,_]) rfl (wc_seq (wc_seq (wc_region (wP rfl (wN rfl tE_22 (wP rfl (wN rfl tE_22 ?_))))))))))))))
 refine wP rfl (wl_as (d := 10) (v' := .bool (k1 != l2.length)) (S' := [_,_,_,_,_,_]) rfl rfl (natne (a := k1) (b := l2.length)) (wl_nil (we_then (wc_keep [10,0,1] (S' := [_,_,_]) rfl ?_))))
 refine wc_cond rfl (fun hb10 => ?_) (fun hb10 => ?_)
 ·
  replace hm := iteT hm hb10
  refine wc_keep [] (S' := []) rfl (wc_seq (wc_region (wP rfl (wl_nil (we_then (wc_ret (we_then_ret ?_)))))))
  have hE := (Option.some.inj hm).symm
  replace hE := hE.symm
  subst hE
  refine ret_one (Hr := []) [] Tryd.results41 (res_tmp rfl) ⟨rfl, rfl, rfl⟩ (asK [] rfl) rfl rfl (.inl rfl)
 ·
  replace hm := iteF hm hb10
  refine wc_keep [0,1] (S' := [_,_]) rfl (wc_skip (we_then (wc_seq ?_)))
  obtain ⟨bj_1, hm, hLj_1⟩ := bindS_some hm
  refine wc_cut (σ := Unit) (fun _ => bj_1 = .inl ()) (fun _ => []) (fun _ => []) (fun _ => []) ?_ ?_
  ·
   refine wc_seq (wc_region (wP rfl (wl_nil (we_then (wc_block (wc_loop (σ := Nat × Nat) (fun (nu1, u1_5) => iter (m_ropewalkkit_SameInts_W_L1 N k1 l0 l2) nu1 u1_5 = some bj_1) (fun (nu1, u1_5) => nu1) (fun (nu1, u1_5) => [(5, .int .i64 ((u1_5 : Nat) : Int)), (0, .slice qp0 k1 qc1), (1, .slice qp2 l2.length qc3)]) (fun (nu1, u1_5) => [.sli 1 R_i64 qp0 qc1 l0, .sli 1 R_i64 qp2 qc3 l2]) (fun (nu1, u1_5) => []) (N, 0) hm [5,0,1] rfl (asK [0,1] rfl) rfl (fun s_ hm => ?_)))))))
   obtain ⟨nu1, u1_5⟩ := s_
   try dsimp only at hm ⊢
   obtain ⟨mu1, bu1, hnu1, hq, hLu1⟩ := iter_some hm
   clear hm
   subst hnu1
   replace hm := hq
   clear hq
   unfold m_ropewalkkit_SameInts_W_L1 at hm
   try dsimp only at hm
   refine wc_seq (wc_seq (wc_region (wP rfl (wP rfl (wN rfl tE_22 (wP rfl (wl_as (d := 14) (v' := .bool (decide (u1_5 < k1))) (S' := [_,_,_,_,_,_]) rfl rfl (natlt (a := u1_5) (b := k1)) (wl_nil (we_then (wc_keep [14,5,0,1] (S' := [_,_,_,_]) rfl ?_))))))))))
   refine wc_cond rfl (fun hb14 => ?_) (fun hb14 => ?_)
   ·
    replace hm := iteT hm hb14
    refine wc_keep [5,0,1] (S' := [_,_,_]) rfl (wc_skip (we_then (wc_seq (wc_block (wc_seq ?_)))))
    obtain ⟨hqx19, hm⟩ := gd_some hm
    obtain ⟨x19, hx19, hm⟩ := bindO_some hm
    obtain ⟨x23, hx23, hm⟩ := bindO_some hm
    refine wc_draw [0,1,2,3,4,5,6,7,8] rfl rfl (fun hok => (xP hok 0 rfl (xP hok 1 rfl (wx_indexF hok 2 0 u1_5 rfl rfl rfl (freshS_eq rfl) rfl rfl rfl rfl rfl rfl hqx19 hx19 tE_22 tS_3 (fun b19 q19 cs19 hlx19 => (wx_openR R_i64_opens 1 rfl (fun r19 er19 _ => ?_)))))))
    subst er19
    refine wx_load hok 3 0 0 rfl rfl rfl (freshS_eq rfl) rfl rfl rfl rfl (cs := [_]) rfl tS_3 tA_3 rfl rfl (xP hok 4 rfl (xP hok 5 rfl (wx_indexA hok 6 3 u1_5 rfl rfl rfl (freshS_eq rfl) rfl rfl rfl rfl rfl rfl hx23 tE_22 tS_3 (fun b23 q23 cs23 hlx23 => (wx_openR R_i64_opens 1 rfl (fun r23 er23 _ => ?_))))))
    subst er23
    refine wx_load hok 7 0 0 rfl rfl rfl (freshS_eq rfl) rfl rfl rfl rfl (cs := [_]) rfl tS_3 tA_3 rfl rfl (xP hok 8 rfl (wx_done hok rfl (we_then (wc_keep [25,5,0,1] (S' := [_,_,_,_]) rfl ?_))))
    refine wc_cond rfl (fun hb25 => ?_) (fun hb25 => ?_)
    ·
     replace hm := iteT hm hb25
     refine wc_keep [] (S' := []) rfl (wc_seq (wc_region (wP rfl (wl_nil (we_then (wc_ret (we_block_ret (we_then_ret (we_then_ret (we_block_ret (we_then_ret ?_)))))))))))
     have hE := (Option.some.inj hm).symm
     replace hE := link_inr hLu1 hE
     replace hE := link_inr hLj_1 hE
     replace hE := hE.symm
     subst hE
     refine ret_one (Hr := []) [] Tryd.results41 (res_tmp rfl) ⟨rfl, rfl, rfl⟩ (asK [] rfl) rfl rfl (.inl rfl)
    ·
     replace hm := iteF hm hb25
     refine wc_keep [5,0,1] (S' := [_,_,_]) rfl (wc_skip (we_block_normal (we_then (wc_region (wP rfl (wP rfl ?_))))))
     obtain ⟨hg16, hm⟩ := gd_some hm
     refine wl_as (d := 16) (v' := .int .i64 ((u1_5 + 1 : Nat) : Int)) (S' := [_,_,_,_]) rfl rfl (nat_add (a := u1_5) (b := 1) hg16) (wl_pure (S' := [_,_,_,_]) rfl rfl rfl rfl rfl (wl_nil ?_))
     have hE := (Option.some.inj hm).symm
     replace hE := link_inl hLu1 hE
     refine we_roundK (_, u1_5 + 1) (Nat.lt_succ_self _) hE [5,0,1] rfl (asK [4,5] rfl) rfl
   ·
    replace hm := iteF hm hb14
    refine wc_keep [] (S' := []) rfl (wc_exit (we_then_exit (we_then_exit (we_block_hit ?_))))
    have hE := (Option.some.inj hm).symm
    replace hE := link_inr hLu1 hE
    refine we_join () hE [] rfl (asK [] rfl) rfl
  ·
   rintro _ hE
   try dsimp only
   have hm := link_inl hLj_1 hE
   try dsimp only at hm
   refine wc_seq (wc_region (wP rfl (wl_nil (we_then (wc_ret ?_)))))
   have hE := (Option.some.inj hm).symm
   replace hE := hE.symm
   subst hE
   refine ret_one (Hr := []) [] Tryd.results41 (res_tmp rfl) ⟨rfl, rfl, rfl⟩ (asK [] rfl) rfl rfl (.inl rfl)
theorem w_ropewalkkit_SameToken_W_s (N : Nat) (a0 : Int) (qp0 : Option Addr) (qc1 : Nat) (l1 : List Int) (k2 : Nat) (a3 : Int) (qp2 : Option Addr) (qc3 : Nat) (l4 : List Int) (o0 : Bool) (hm : m_ropewalkkit_SameToken_W N a0 l1 k2 a3 l4 = some o0) : Spec Tryd.prog 23 [.agg #[.int .i64 a0, .slice qp0 k2 qc1], .agg #[.int .i64 a3, .slice qp2 l4.length qc3]] [.sli 1 R_i64 qp0 qc1 l1, .sli 1 R_i64 qp2 qc3 l4] [] (fun v Φr Hr => v = .bool o0 ∧ Φr = [] ∧ Hr = []) := by
 unfold m_ropewalkkit_SameToken_W at hm
 refine spec_of Tryd.func23 rfl Tryd.ntmps23 rfl (S := [_,_]) rfl (fun C => (wc_seq (wc_region (wB rfl (fun g2 => (wB rfl (fun g3 => (wP rfl (wl_nil (we_then (wc_keep [3,2] (S' := [_,_]) rfl (wc_seq (wc_region (wF rfl tF_24_0 (wD 1 0 rfl tS_3 tA_3 rfl (wF rfl tF_24_0 ?_))))))))))))))))
 refine wD 0 0 rfl tS_3 tA_3 rfl (wP rfl (wP rfl ?_))
 refine wl_split (d := 10) (S' := [_,_,_,_,_,_,_]) rfl rfl (fun hs10 => ?_) (fun hs10 => ?_)
 ·
  replace hm := iteT hm hs10
  refine wF rfl tF_24_1 (wD 1 1 rfl tS_22 tA_22 rfl (wF rfl tF_24_1 (wD 0 1 rfl tS_22 tA_22 rfl ?_)))
  obtain ⟨v15, hc15, hm⟩ := bindO_some hm
  refine wC [] [0,1] rfl fn_41 rfl (w_ropewalkkit_SameInts_W_s N qp0 qc1 l1 k2 qp2 qc3 l4 _ hc15) (asK [0,1] rfl) rfl (H' := [_,_]) rfl ?_
  rintro _ _ _ ⟨rfl, rfl, rfl⟩
  refine wP rfl (wP rfl (wl_nil (we_then (wc_keep [4] (S' := [_]) rfl (wc_ret ?_)))))
  have hE := (Option.some.inj hm).symm
  replace hE := hE.symm
  subst hE
  refine ret_one (Hr := []) [] Tryd.results23 (res_tmp rfl) ⟨rfl, rfl, rfl⟩ (asK [] rfl) rfl rfl (.inl rfl)
 ·
  replace hm := iteF hm hs10
  refine wO rfl (wO rfl (wO rfl (wO rfl (wO rfl (wP rfl (wP rfl (wl_nil (we_then (wc_keep [4] (S' := [_]) rfl (wc_ret ?_))))))))))
  have hE := (Option.some.inj hm).symm
  replace hE := hE.symm
  subst hE
  refine ret_one (Hr := []) [] Tryd.results23 (res_tmp rfl) ⟨rfl, rfl, rfl⟩ (asK [] rfl) rfl rfl (.inl rfl)
theorem w_ropewalkkit_KeptInts_W_s (N : Nat) (qp0 : Option Addr) (qc1 : Nat) (l0 : List Int) (k1 : Nat) (qp2 : Option Addr) (qc3 : Nat) (l2 : List Int) (o0 : Bool) (hm : m_ropewalkkit_KeptInts_W N l0 k1 l2 = some o0) : Spec Tryd.prog 24 [.slice qp0 k1 qc1, .slice qp2 l2.length qc3] [.sli 1 R_i64 qp0 qc1 l0, .sli 1 R_i64 qp2 qc3 l2] [] (fun v Φr Hr => v = .bool o0 ∧ Φr = [] ∧ Hr = []) := by
 unfold m_ropewalkkit_KeptInts_W at hm
 refine spec_of Tryd.func24 rfl Tryd.ntmps24 rfl (S := [_,_]) rfl (fun C => (wc_seq (wc_region (wP rfl (wl_nil (we_then (wc_keep [0,1] (S' := [_,_]) rfl (wc_seq (wc_seq (wc_region (wP rfl (wN rfl tE_22 (wP rfl (wN rfl tE_22 ?_))))))))))))))
 refine wP rfl (wl_as (d := 11) (v' := .bool (k1 != l2.length)) (S' := [_,_,_,_,_,_]) rfl rfl (natne (a := k1) (b := l2.length)) (wl_nil (we_then (wc_keep [11,0,1] (S' := [_,_,_]) rfl ?_))))
 refine wc_cond rfl (fun hb11 => ?_) (fun hb11 => ?_)
 ·
  replace hm := iteT hm hb11
  refine wc_keep [] (S' := []) rfl (wc_seq (wc_region (wP rfl (wl_nil (we_then (wc_ret (we_then_ret ?_)))))))
  have hE := (Option.some.inj hm).symm
  replace hE := hE.symm
  subst hE
  refine ret_one (Hr := []) [] Tryd.results24 (res_tmp rfl) ⟨rfl, rfl, rfl⟩ (asK [] rfl) rfl rfl (.inl rfl)
 ·
  replace hm := iteF hm hb11
  refine wc_keep [0,1] (S' := [_,_]) rfl (wc_skip (we_then (wc_seq (wc_region (wP rfl (wP rfl (wN rfl tE_22 (wP rfl ?_))))))))
  obtain ⟨hg15, hm⟩ := gd_some hm
  refine wl_as (d := 15) (v' := .int .i64 ((l2.length + 12 : Nat) : Int)) (S' := [_,_,_,_,_]) rfl rfl (nat_add (a := l2.length) (b := 12) hg15) ?_
  obtain ⟨hg16, hm⟩ := gd_some hm
  refine wl_sliToF 0 rfl rfl rfl (freshS_eq rfl) rfl rfl rfl rfl rfl tE_22 tS_3 hg16 (fun p16 => (wP rfl (wl_nil (we_then (wc_keep [5,1] (S' := [_,_]) rfl (wc_seq ?_))))))
  obtain ⟨bj_1, hm, hLj_1⟩ := bindS_some hm
  refine wc_cut (σ := Unit) (fun _ => bj_1 = .inl ()) (fun _ => []) (fun _ => []) (fun _ => []) ?_ ?_
  ·
   refine wc_seq (wc_region (wP rfl (wl_nil (we_then (wc_block (wc_loop (σ := Nat × Nat) (fun (nu1, u1_6) => iter (m_ropewalkkit_KeptInts_W_L1 N l0 l2) nu1 u1_6 = some bj_1) (fun (nu1, u1_6) => nu1) (fun (nu1, u1_6) => [(6, .int .i64 ((u1_6 : Nat) : Int)), (5, .slice p16 ((l0.take (l2.length + 12)).length) qc1), (1, .slice qp2 l2.length qc3)]) (fun (nu1, u1_6) => [.sli 1 R_i64 p16 qc1 (l0.take (l2.length + 12)), .sli 1 R_i64 qp2 qc3 l2]) (fun (nu1, u1_6) => []) (N, 0) hm [6,5,1] rfl (asK [0,2] rfl) rfl (fun s_ hm => ?_)))))))
   obtain ⟨nu1, u1_6⟩ := s_
   try dsimp only at hm ⊢
   obtain ⟨mu1, bu1, hnu1, hq, hLu1⟩ := iter_some hm
   clear hm
   subst hnu1
   replace hm := hq
   clear hq
   unfold m_ropewalkkit_KeptInts_W_L1 at hm
   try dsimp only at hm
   refine wc_seq (wc_seq (wc_region (wP rfl (wP rfl (wN rfl tE_22 (wP rfl (wl_as (d := 20) (v' := .bool (decide (u1_6 < ((l0.take (l2.length + 12)).length)))) (S' := [_,_,_,_,_,_]) rfl rfl (natlt (a := u1_6) (b := (l0.take (l2.length + 12)).length)) (wl_nil (we_then (wc_keep [20,6,5,1] (S' := [_,_,_,_]) rfl ?_))))))))))
   refine wc_cond rfl (fun hb20 => ?_) (fun hb20 => ?_)
   ·
    replace hm := iteT hm hb20
    refine wc_keep [6,5,1] (S' := [_,_,_]) rfl (wc_skip (we_then (wc_seq (wc_block (wc_seq ?_)))))
    obtain ⟨bj_2, hm, hLj_2⟩ := bindO_some hm
    unfold m_ropewalkkit_KeptInts_W_C2 at hm
    refine wc_cut (σ := Bool) (fun j_2_57 => bj_2 = j_2_57) (fun j_2_57 => [(6, .int .i64 ((u1_6 : Nat) : Int)), (5, .slice p16 ((l0.take (l2.length + 12)).length) qc1), (1, .slice qp2 l2.length qc3), (57, .bool j_2_57)]) (fun j_2_57 => [.sli 1 R_i64 p16 qc1 (l0.take (l2.length + 12)), .sli 1 R_i64 qp2 qc3 l2]) (fun j_2_57 => []) ?_ ?_
    ·
     rcases ite_some hm with ⟨hs27, hm⟩ | ⟨hs27, hm⟩
     ·
      obtain ⟨x30, hx30, hm⟩ := bindO_some hm
      obtain ⟨x34, hx34, hm⟩ := bindO_some hm
      rcases ite_some hm with ⟨hs39, hm⟩ | ⟨hs39, hm⟩
      ·
       refine wc_draw [0,1,2,3,4,5,6,7,8,9,10,11,12,13,14,15,16,17,18,19,20,21,22,23,24,25,26,27,28,29,31,32,33,34] rfl rfl (fun hok => (xP hok 0 rfl (xP hok 1 rfl (wx_len hok 2 rfl rfl rfl (freshS_eq rfl) rfl rfl rfl tE_22 (xP hok 3 rfl (wx_as (d := 26) (v' := .bool (decide (u1_6 < l2.length))) (S' := [_,_,_,_,_,_]) rfl rfl (natlt (a := u1_6) (b := l2.length)) (xP hok 4 rfl (wx_as (d := 27) (v' := .bool true) (S' := [_,_,_,_,_,_,_]) rfl rfl (bool_is hs27) (xP hok 5 rfl (xP hok 6 rfl (wx_indexA hok 7 0 u1_6 rfl rfl rfl (freshS_eq rfl) rfl rfl rfl rfl rfl rfl hx30 tE_22 tS_3 (fun b30 q30 cs30 hlx30 => (wx_openR R_i64_opens 1 rfl (fun r30 er30 _ => ?_))))))))))))))
       subst er30
       refine wx_load hok 8 0 0 rfl rfl rfl (freshS_eq rfl) rfl rfl rfl rfl (cs := [_]) rfl tS_3 tA_3 rfl rfl (xP hok 9 rfl (xP hok 10 rfl (wx_indexA hok 11 3 u1_6 rfl rfl rfl (freshS_eq rfl) rfl rfl rfl rfl rfl rfl hx34 tE_22 tS_3 (fun b34 q34 cs34 hlx34 => (wx_openR R_i64_opens 1 rfl (fun r34 er34 _ => ?_))))))
       subst er34
       refine wx_load hok 12 0 0 rfl rfl rfl (freshS_eq rfl) rfl rfl rfl rfl (cs := [_]) rfl tS_3 tA_3 rfl rfl (xP hok 13 rfl (xP hok 14 rfl (xP hok 15 rfl (xP hok 16 rfl (wx_as (d := 39) (v' := .bool true) (S' := [_,_,_,_,_,_,_,_,_,_,_,_,_,_,_,_,_,_,_]) rfl rfl (bool_is hs39) (xO hok 17 rfl (xO hok 18 rfl (xO hok 19 rfl (xO hok 20 rfl (xO hok 21 rfl (xO hok 22 rfl (xO hok 23 rfl (xO hok 24 rfl ?_)))))))))))))
       refine xO hok 25 rfl (xO hok 26 rfl (xO hok 27 rfl (xO hok 28 rfl (xO hok 29 rfl (xS hok 30 rfl (wO rfl (wl_nil (we_x [0,1,2,3,4,5] [] rfl rfl (xO hok 31 rfl (xO hok 32 rfl (xO hok 33 rfl (xP hok 34 rfl (wx_done hok rfl ?_)))))))))))))
       have hE := (Option.some.inj hm).symm
       refine we_join true hE [6,5,1,57] rfl (asK [4,5] rfl) rfl
      ·
       rcases ite_some hm with ⟨hs44, hm⟩ | ⟨hs44, hm⟩
       ·
        obtain ⟨x47, hx47, hm⟩ := bindO_some hm
        obtain ⟨hg52, hm⟩ := gd_some hm
        obtain ⟨_, hc53, hm⟩ := bindO_some hm
        try dsimp only at hm
        refine wc_draw [0,1,2,3,4,5,6,7,8,9,10,11,12,13,14,15,16,17,18,19,20,21,22,23,24,25,26,27,28,29,31,32,33,34] rfl rfl (fun hok => (xP hok 0 rfl (xP hok 1 rfl (wx_len hok 2 rfl rfl rfl (freshS_eq rfl) rfl rfl rfl tE_22 (xP hok 3 rfl (wx_as (d := 26) (v' := .bool (decide (u1_6 < l2.length))) (S' := [_,_,_,_,_,_]) rfl rfl (natlt (a := u1_6) (b := l2.length)) (xP hok 4 rfl (wx_as (d := 27) (v' := .bool true) (S' := [_,_,_,_,_,_,_]) rfl rfl (bool_is hs27) (xP hok 5 rfl (xP hok 6 rfl (wx_indexA hok 7 0 u1_6 rfl rfl rfl (freshS_eq rfl) rfl rfl rfl rfl rfl rfl hx30 tE_22 tS_3 (fun b30 q30 cs30 hlx30 => (wx_openR R_i64_opens 1 rfl (fun r30 er30 _ => ?_))))))))))))))
        subst er30
        refine wx_load hok 8 0 0 rfl rfl rfl (freshS_eq rfl) rfl rfl rfl rfl (cs := [_]) rfl tS_3 tA_3 rfl rfl (xP hok 9 rfl (xP hok 10 rfl (wx_indexA hok 11 3 u1_6 rfl rfl rfl (freshS_eq rfl) rfl rfl rfl rfl rfl rfl hx34 tE_22 tS_3 (fun b34 q34 cs34 hlx34 => (wx_openR R_i64_opens 1 rfl (fun r34 er34 _ => ?_))))))
        subst er34
        refine wx_load hok 12 0 0 rfl rfl rfl (freshS_eq rfl) rfl rfl rfl rfl (cs := [_]) rfl tS_3 tA_3 rfl rfl (xP hok 13 rfl (xP hok 14 rfl (xP hok 15 rfl (xP hok 16 rfl (wx_as (d := 39) (v' := .bool false) (S' := [_,_,_,_,_,_,_,_,_,_,_,_,_,_,_,_,_,_,_]) rfl rfl (bool_is hs39) (xP hok 17 rfl (xP hok 18 rfl (wx_len hok 19 rfl rfl rfl (freshS_eq rfl) rfl rfl rfl tE_22 (xP hok 20 rfl (wx_as (d := 43) (v' := .bool (decide (l2.length ≤ u1_6))) (S' := [_,_,_,_,_,_,_,_,_,_,_,_,_,_,_,_,_,_,_,_,_,_,_]) rfl rfl (natge (a := u1_6) (b := l2.length)) (xP hok 21 rfl (wx_as (d := 44) (v' := .bool true) (S' := [_,_,_,_,_,_,_,_,_,_,_,_,_,_,_,_,_,_,_,_,_,_,_,_]) rfl rfl (bool_is hs44) (xP hok 22 rfl ?_)))))))))))))
        refine xP hok 23 rfl (wx_indexA hok 24 4 u1_6 rfl rfl rfl (freshS_eq rfl) rfl rfl rfl rfl rfl rfl hx47 tE_22 tS_3 (fun b47 q47 cs47 hlx47 => (wx_openR R_i64_opens 1 rfl (fun r47 er47 _ => ?_))))
        subst er47
        refine wx_load hok 25 0 0 rfl rfl rfl (freshS_eq rfl) rfl rfl rfl rfl (cs := [_]) rfl tS_3 tA_3 rfl rfl (xP hok 26 rfl (xP hok 27 rfl (wx_len hok 28 rfl rfl rfl (freshS_eq rfl) rfl rfl rfl tE_22 (xP hok 29 rfl (wx_as (d := 52) (v' := .int .i64 (((u1_6 : Nat) : Int) - ((l2.length : Nat) : Int))) (S' := [_,_,_,_,_,_,_,_,_,_,_,_,_,_,_,_,_,_,_,_,_,_,_,_,_,_,_,_,_,_,_,_]) rfl rfl (i64_in hg52) (xS hok 30 rfl (wC [] [] rfl fn_35 rfl (w_ropewalkkit_mark_s N 1 (((u1_6 : Nat) : Int) - ((l2.length : Nat) : Int)) hc53) (asK [] rfl) rfl (H' := []) rfl ?_)))))))
        rintro _ _ _ ⟨rfl, rfl, rfl⟩
        refine wl_nil (we_x [0,1,2,3,4,5,6,7] [] rfl rfl (xP hok 31 rfl (xP hok 32 rfl (xP hok 33 rfl (xP hok 34 rfl (wx_done hok rfl ?_))))))
        have hE := (Option.some.inj hm).symm
        refine we_join (!(x47 == (IntKind.wrap .i64 ((IntKind.wrap .i64 (1000003 * (IntKind.wrap .i64 (1 + 7)))) + (((u1_6 : Nat) : Int) - ((l2.length : Nat) : Int)))))) hE [6,5,1,57] rfl (asK [6,7] rfl) rfl
       ·
        refine wc_draw [0,1,2,3,4,5,6,7,8,9,10,11,12,13,14,15,16,17,18,19,20,21,22,23,24,25,26,27,28,29,31,32,33,34] rfl rfl (fun hok => (xP hok 0 rfl (xP hok 1 rfl (wx_len hok 2 rfl rfl rfl (freshS_eq rfl) rfl rfl rfl tE_22 (xP hok 3 rfl (wx_as (d := 26) (v' := .bool (decide (u1_6 < l2.length))) (S' := [_,_,_,_,_,_]) rfl rfl (natlt (a := u1_6) (b := l2.length)) (xP hok 4 rfl (wx_as (d := 27) (v' := .bool true) (S' := [_,_,_,_,_,_,_]) rfl rfl (bool_is hs27) (xP hok 5 rfl (xP hok 6 rfl (wx_indexA hok 7 0 u1_6 rfl rfl rfl (freshS_eq rfl) rfl rfl rfl rfl rfl rfl hx30 tE_22 tS_3 (fun b30 q30 cs30 hlx30 => (wx_openR R_i64_opens 1 rfl (fun r30 er30 _ => ?_))))))))))))))
        subst er30
        refine wx_load hok 8 0 0 rfl rfl rfl (freshS_eq rfl) rfl rfl rfl rfl (cs := [_]) rfl tS_3 tA_3 rfl rfl (xP hok 9 rfl (xP hok 10 rfl (wx_indexA hok 11 3 u1_6 rfl rfl rfl (freshS_eq rfl) rfl rfl rfl rfl rfl rfl hx34 tE_22 tS_3 (fun b34 q34 cs34 hlx34 => (wx_openR R_i64_opens 1 rfl (fun r34 er34 _ => ?_))))))
        subst er34
        refine wx_load hok 12 0 0 rfl rfl rfl (freshS_eq rfl) rfl rfl rfl rfl (cs := [_]) rfl tS_3 tA_3 rfl rfl (xP hok 13 rfl (xP hok 14 rfl (xP hok 15 rfl (xP hok 16 rfl (wx_as (d := 39) (v' := .bool false) (S' := [_,_,_,_,_,_,_,_,_,_,_,_,_,_,_,_,_,_,_]) rfl rfl (bool_is hs39) (xP hok 17 rfl (xP hok 18 rfl (wx_len hok 19 rfl rfl rfl (freshS_eq rfl) rfl rfl rfl tE_22 (xP hok 20 rfl (wx_as (d := 43) (v' := .bool (decide (l2.length ≤ u1_6))) (S' := [_,_,_,_,_,_,_,_,_,_,_,_,_,_,_,_,_,_,_,_,_,_,_]) rfl rfl (natge (a := u1_6) (b := l2.length)) (xP hok 21 rfl (wx_as (d := 44) (v' := .bool false) (S' := [_,_,_,_,_,_,_,_,_,_,_,_,_,_,_,_,_,_,_,_,_,_,_,_]) rfl rfl (bool_is hs44) (xO hok 22 rfl ?_)))))))))))))
        refine xO hok 23 rfl (xO hok 24 rfl (xO hok 25 rfl (xO hok 26 rfl (xO hok 27 rfl (xO hok 28 rfl (xO hok 29 rfl (xS hok 30 rfl (wO rfl (wl_nil (we_x [0,1,2,3,4,5] [] rfl rfl (xO hok 31 rfl (xO hok 32 rfl (xP hok 33 rfl ?_)))))))))))))
        refine xP hok 34 rfl (wx_done hok rfl ?_)
        have hE := (Option.some.inj hm).symm
        refine we_join false hE [6,5,1,57] rfl (asK [4,5] rfl) rfl
     ·
      rcases ite_some hm with ⟨hs44, hm⟩ | ⟨hs44, hm⟩
      ·
       obtain ⟨x47, hx47, hm⟩ := bindO_some hm
       obtain ⟨hg52, hm⟩ := gd_some hm
       obtain ⟨_, hc53, hm⟩ := bindO_some hm
       try dsimp only at hm
       refine wc_draw [0,1,2,3,4,5,6,7,8,9,10,11,12,13,14,15,16,17,18,19,20,21,22,23,24,25,26,27,28,29,31,32,33,34] rfl rfl (fun hok => (xP hok 0 rfl (xP hok 1 rfl (wx_len hok 2 rfl rfl rfl (freshS_eq rfl) rfl rfl rfl tE_22 (xP hok 3 rfl (wx_as (d := 26) (v' := .bool (decide (u1_6 < l2.length))) (S' := [_,_,_,_,_,_]) rfl rfl (natlt (a := u1_6) (b := l2.length)) (xP hok 4 rfl (wx_as (d := 27) (v' := .bool false) (S' := [_,_,_,_,_,_,_]) rfl rfl (bool_is hs27) (xO hok 5 rfl (xO hok 6 rfl (xO hok 7 rfl (xO hok 8 rfl (xO hok 9 rfl (xO hok 10 rfl ?_))))))))))))))
       refine xO hok 11 rfl (xO hok 12 rfl (xO hok 13 rfl (xO hok 14 rfl (xP hok 15 rfl (xP hok 16 rfl (xP hok 17 rfl (xP hok 18 rfl (wx_len hok 19 rfl rfl rfl (freshS_eq rfl) rfl rfl rfl tE_22 (xP hok 20 rfl (wx_as (d := 43) (v' := .bool (decide (l2.length ≤ u1_6))) (S' := [_,_,_,_,_,_,_,_,_,_,_,_,_,_,_,_,_,_,_,_,_,_,_]) rfl rfl (natge (a := u1_6) (b := l2.length)) (xP hok 21 rfl (wx_as (d := 44) (v' := .bool true) (S' := [_,_,_,_,_,_,_,_,_,_,_,_,_,_,_,_,_,_,_,_,_,_,_,_]) rfl rfl (bool_is hs44) (xP hok 22 rfl ?_)))))))))))))
       refine xP hok 23 rfl (wx_indexA hok 24 0 u1_6 rfl rfl rfl (freshS_eq rfl) rfl rfl rfl rfl rfl rfl hx47 tE_22 tS_3 (fun b47 q47 cs47 hlx47 => (wx_openR R_i64_opens 1 rfl (fun r47 er47 _ => ?_))))
       subst er47
       refine wx_load hok 25 0 0 rfl rfl rfl (freshS_eq rfl) rfl rfl rfl rfl (cs := [_]) rfl tS_3 tA_3 rfl rfl (xP hok 26 rfl (xP hok 27 rfl (wx_len hok 28 rfl rfl rfl (freshS_eq rfl) rfl rfl rfl tE_22 (xP hok 29 rfl (wx_as (d := 52) (v' := .int .i64 (((u1_6 : Nat) : Int) - ((l2.length : Nat) : Int))) (S' := [_,_,_,_,_,_,_,_,_,_,_,_,_,_,_,_,_,_,_,_,_,_,_,_,_,_,_,_,_,_,_,_]) rfl rfl (i64_in hg52) (xS hok 30 rfl (wC [] [] rfl fn_35 rfl (w_ropewalkkit_mark_s N 1 (((u1_6 : Nat) : Int) - ((l2.length : Nat) : Int)) hc53) (asK [] rfl) rfl (H' := []) rfl ?_)))))))
       rintro _ _ _ ⟨rfl, rfl, rfl⟩
       refine wl_nil (we_x [0,1,2,3] [] rfl rfl (xP hok 31 rfl (xP hok 32 rfl (xP hok 33 rfl (xP hok 34 rfl (wx_done hok rfl ?_))))))
       have hE := (Option.some.inj hm).symm
       refine we_join (!(x47 == (IntKind.wrap .i64 ((IntKind.wrap .i64 (1000003 * (IntKind.wrap .i64 (1 + 7)))) + (((u1_6 : Nat) : Int) - ((l2.length : Nat) : Int)))))) hE [6,5,1,57] rfl (asK [2,3] rfl) rfl
      ·
       refine wc_draw [0,1,2,3,4,5,6,7,8,9,10,11,12,13,14,15,16,17,18,19,20,21,22,23,24,25,26,27,28,29,31,32,33,34] rfl rfl (fun hok => (xP hok 0 rfl (xP hok 1 rfl (wx_len hok 2 rfl rfl rfl (freshS_eq rfl) rfl rfl rfl tE_22 (xP hok 3 rfl (wx_as (d := 26) (v' := .bool (decide (u1_6 < l2.length))) (S' := [_,_,_,_,_,_]) rfl rfl (natlt (a := u1_6) (b := l2.length)) (xP hok 4 rfl (wx_as (d := 27) (v' := .bool false) (S' := [_,_,_,_,_,_,_]) rfl rfl (bool_is hs27) (xO hok 5 rfl (xO hok 6 rfl (xO hok 7 rfl (xO hok 8 rfl (xO hok 9 rfl (xO hok 10 rfl ?_))))))))))))))
       refine xO hok 11 rfl (xO hok 12 rfl (xO hok 13 rfl (xO hok 14 rfl (xP hok 15 rfl (xP hok 16 rfl (xP hok 17 rfl (xP hok 18 rfl (wx_len hok 19 rfl rfl rfl (freshS_eq rfl) rfl rfl rfl tE_22 (xP hok 20 rfl (wx_as (d := 43) (v' := .bool (decide (l2.length ≤ u1_6))) (S' := [_,_,_,_,_,_,_,_,_,_,_,_,_,_,_,_,_,_,_,_,_,_,_]) rfl rfl (natge (a := u1_6) (b := l2.length)) (xP hok 21 rfl (wx_as (d := 44) (v' := .bool false) (S' := [_,_,_,_,_,_,_,_,_,_,_,_,_,_,_,_,_,_,_,_,_,_,_,_]) rfl rfl (bool_is hs44) (xO hok 22 rfl ?_)))))))))))))
       refine xO hok 23 rfl (xO hok 24 rfl (xO hok 25 rfl (xO hok 26 rfl (xO hok 27 rfl (xO hok 28 rfl (xO hok 29 rfl (xS hok 30 rfl (wO rfl (wl_nil (we_x [0,1] [] rfl rfl (xO hok 31 rfl (xO hok 32 rfl (xP hok 33 rfl ?_)))))))))))))
       refine xP hok 34 rfl (wx_done hok rfl ?_)
       have hE := (Option.some.inj hm).symm
       refine we_join false hE [6,5,1,57] rfl (asK [0,1] rfl) rfl
    ·
     rintro j_2_57 hE
     try dsimp only
     have hm := hLj_2
     rw [hE] at hm
     refine wc_cond rfl (fun hb57 => ?_) (fun hb57 => ?_)
     ·
      replace hm := iteT hm hb57
      refine wc_keep [] (S' := []) rfl (wc_seq (wc_region (wP rfl (wl_nil (we_then (wc_ret (we_block_ret (we_then_ret (we_then_ret (we_block_ret (we_then_ret ?_)))))))))))
      have hE := (Option.some.inj hm).symm
      replace hE := link_inr hLu1 hE
      replace hE := link_inr hLj_1 hE
      replace hE := hE.symm
      subst hE
      refine ret_one (Hr := []) [] Tryd.results24 (res_tmp rfl) ⟨rfl, rfl, rfl⟩ (asK [] rfl) rfl rfl (.inl rfl)
     ·
      replace hm := iteF hm hb57
      refine wc_keep [6,5,1] (S' := [_,_,_]) rfl (wc_skip (we_block_normal (we_then (wc_region (wP rfl (wP rfl ?_))))))
      obtain ⟨hg22, hm⟩ := gd_some hm
      refine wl_as (d := 22) (v' := .int .i64 ((u1_6 + 1 : Nat) : Int)) (S' := [_,_,_,_]) rfl rfl (nat_add (a := u1_6) (b := 1) hg22) (wl_pure (S' := [_,_,_,_]) rfl rfl rfl rfl rfl (wl_nil ?_))
      have hE := (Option.some.inj hm).symm
      replace hE := link_inl hLu1 hE
      refine we_roundK (_, u1_6 + 1) (Nat.lt_succ_self _) hE [6,5,1] rfl (asK [0,1] rfl) rfl
   ·
    replace hm := iteF hm hb20
    refine wc_keep [] (S' := []) rfl (wc_exit (we_then_exit (we_then_exit (we_block_hit ?_))))
    have hE := (Option.some.inj hm).symm
    replace hE := link_inr hLu1 hE
    refine we_join () hE [] rfl (asK [] rfl) rfl
  ·
   rintro _ hE
   try dsimp only
   have hm := link_inl hLj_1 hE
   try dsimp only at hm
   refine wc_seq (wc_region (wP rfl (wl_nil (we_then (wc_ret ?_)))))
   have hE := (Option.some.inj hm).symm
   replace hE := hE.symm
   subst hE
   refine ret_one (Hr := []) [] Tryd.results24 (res_tmp rfl) ⟨rfl, rfl, rfl⟩ (asK [] rfl) rfl rfl (.inl rfl)
theorem w_ropewalkkit_KeptToken_W_s (N : Nat) (a0 : Int) (qp0 : Option Addr) (qc1 : Nat) (l1 : List Int) (k2 : Nat) (a3 : Int) (qp2 : Option Addr) (qc3 : Nat) (l4 : List Int) (o0 : Bool) (hm : m_ropewalkkit_KeptToken_W N a0 l1 k2 a3 l4 = some o0) : Spec Tryd.prog 10 [.agg #[.int .i64 a0, .slice qp0 k2 qc1], .agg #[.int .i64 a3, .slice qp2 l4.length qc3]] [.sli 1 R_i64 qp0 qc1 l1, .sli 1 R_i64 qp2 qc3 l4] [] (fun v Φr Hr => v = .bool o0 ∧ Φr = [] ∧ Hr = []) := by
 unfold m_ropewalkkit_KeptToken_W at hm
 refine spec_of Tryd.func10 rfl Tryd.ntmps10 rfl (S := [_,_]) rfl (fun C => (wc_seq (wc_region (wB rfl (fun g2 => (wB rfl (fun g3 => (wP rfl (wl_nil (we_then (wc_keep [3,2] (S' := [_,_]) rfl (wc_seq (wc_region (wl_loadH 1 0 rfl rfl rfl (freshS_eq rfl) rfl rfl rfl (cs := [_,_]) rfl tS_24 tA_24 rfl rfl (wl_loadH 0 0 rfl rfl rfl (freshS_eq rfl) rfl rfl rfl (cs := [_,_]) rfl tS_24 tA_24 rfl rfl ?_)))))))))))))))
 obtain ⟨v7, hc7, hm⟩ := bindO_some hm
 refine wC [] [0,1] rfl fn_23 rfl (w_ropewalkkit_SameToken_W_s N a0 qp0 qc1 l1 k2 a3 qp2 qc3 l4 _ hc7) (asK [0,1] rfl) rfl (H' := [_,_]) rfl ?_
 rintro _ _ _ ⟨rfl, rfl, rfl⟩
 refine wP rfl ?_
 refine wl_split (d := 8) (S' := [_,_,_,_,_]) rfl rfl (fun hs8 => ?_) (fun hs8 => ?_)
 ·
  replace hm := iteT hm hs8
  refine wF rfl tF_24_1 (wD 1 1 rfl tS_22 tA_22 rfl (wF rfl tF_24_1 (wD 0 1 rfl tS_22 tA_22 rfl ?_)))
  obtain ⟨v13, hc13, hm⟩ := bindO_some hm
  refine wC [] [0,1] rfl fn_24 rfl (w_ropewalkkit_KeptInts_W_s N qp0 qc1 l1 k2 qp2 qc3 l4 _ hc13) (asK [0,1] rfl) rfl (H' := [_,_]) rfl ?_
  rintro _ _ _ ⟨rfl, rfl, rfl⟩
  refine wP rfl (wP rfl (wl_nil (we_then (wc_keep [4] (S' := [_]) rfl (wc_ret ?_)))))
  have hE := (Option.some.inj hm).symm
  replace hE := hE.symm
  subst hE
  refine ret_one (Hr := []) [] Tryd.results10 (res_tmp rfl) ⟨rfl, rfl, rfl⟩ (asK [] rfl) rfl rfl (.inl rfl)
 ·
  replace hm := iteF hm hs8
  refine wO rfl (wO rfl (wO rfl (wO rfl (wO rfl (wP rfl (wP rfl (wl_nil (we_then (wc_keep [4] (S' := [_]) rfl (wc_ret ?_))))))))))
  have hE := (Option.some.inj hm).symm
  replace hE := hE.symm
  subst hE
  refine ret_one (Hr := []) [] Tryd.results10 (res_tmp rfl) ⟨rfl, rfl, rfl⟩ (asK [] rfl) rfl rfl (.inl rfl)
theorem w_ropewalkkit_SameTypes_s (N : Nat) (qp0 : Option Addr) (qc1 : Nat) (l0 : List Api_TypeD) (qp2 : Option Addr) (qc3 : Nat) (l1 : List Api_TypeD) (o0 : Bool) (hm : m_ropewalkkit_SameTypes N l0 l1 = some o0) : Spec Tryd.prog 25 [.slice qp0 l0.length qc1, .slice qp2 l1.length qc3] [.sli 2 R_Api_TypeD qp0 qc1 l0, .sli 2 R_Api_TypeD qp2 qc3 l1] [] (fun v Φr Hr => v = .bool o0 ∧ Φr = [] ∧ Hr = []) := by
 unfold m_ropewalkkit_SameTypes at hm
 refine spec_of Tryd.func25 rfl Tryd.ntmps25 rfl (S := [_,_]) rfl (fun C => (wc_seq (wc_region (wP rfl (wl_nil (we_then (wc_keep [0,1] (S' := [_,_]) rfl (wc_seq (wc_seq (wc_region (wP rfl (wN rfl tE_28 (wP rfl (wN rfl tE_28 ?_))))))))))))))
 refine wP rfl (wl_as (d := 10) (v' := .bool (l0.length != l1.length)) (S' := [_,_,_,_,_,_]) rfl rfl (natne (a := l0.length) (b := l1.length)) (wl_nil (we_then (wc_keep [10,0,1] (S' := [_,_,_]) rfl ?_))))
 refine wc_cond rfl (fun hb10 => ?_) (fun hb10 => ?_)
 ·
  replace hm := iteT hm hb10
  refine wc_keep [] (S' := []) rfl (wc_seq (wc_region (wP rfl (wl_nil (we_then (wc_ret (we_then_ret ?_)))))))
  have hE := (Option.some.inj hm).symm
  replace hE := hE.symm
  subst hE
  refine ret_one (Hr := []) [] Tryd.results25 (res_tmp rfl) ⟨rfl, rfl, rfl⟩ (asK [] rfl) rfl rfl (.inl rfl)
 ·
  replace hm := iteF hm hb10
  refine wc_keep [0,1] (S' := [_,_]) rfl (wc_skip (we_then (wc_seq ?_)))
  obtain ⟨bj_1, hm, hLj_1⟩ := bindS_some hm
  refine wc_cut (σ := Unit) (fun _ => bj_1 = .inl ()) (fun _ => []) (fun _ => []) (fun _ => []) ?_ ?_
  ·
   refine wc_seq (wc_region (wP rfl (wl_nil (we_then (wc_block (wc_loop (σ := Nat × Nat) (fun (nu1, u1_5) => iter (m_ropewalkkit_SameTypes_L1 N l0 l1) nu1 u1_5 = some bj_1) (fun (nu1, u1_5) => nu1) (fun (nu1, u1_5) => [(5, .int .i64 ((u1_5 : Nat) : Int)), (0, .slice qp0 l0.length qc1), (1, .slice qp2 l1.length qc3)]) (fun (nu1, u1_5) => [.sli 2 R_Api_TypeD qp0 qc1 l0, .sli 2 R_Api_TypeD qp2 qc3 l1]) (fun (nu1, u1_5) => []) (N, 0) hm [5,0,1] rfl (asK [0,1] rfl) rfl (fun s_ hm => ?_)))))))
   obtain ⟨nu1, u1_5⟩ := s_
   try dsimp only at hm ⊢
   obtain ⟨mu1, bu1, hnu1, hq, hLu1⟩ := iter_some hm
   clear hm
   subst hnu1
   replace hm := hq
   clear hq
   unfold m_ropewalkkit_SameTypes_L1 at hm
   try dsimp only at hm
   refine wc_seq (wc_seq (wc_region (wP rfl (wP rfl (wN rfl tE_28 (wP rfl (wl_as (d := 14) (v' := .bool (decide (u1_5 < l0.length))) (S' := [_,_,_,_,_,_]) rfl rfl (natlt (a := u1_5) (b := l0.length)) (wl_nil (we_then (wc_keep [14,5,0,1] (S' := [_,_,_,_]) rfl ?_))))))))))
   refine wc_cond rfl (fun hb14 => ?_) (fun hb14 => ?_)
   ·
    replace hm := iteT hm hb14
    refine wc_keep [5,0,1] (S' := [_,_,_]) rfl (wc_skip (we_then (wc_seq (wc_block (wc_seq ?_)))))
    obtain ⟨x19, hx19, hm⟩ := bindO_some hm
    obtain ⟨x23, hx23, hm⟩ := bindO_some hm
    refine wc_draw [0,1,2,3,4,5,6,7,8] rfl rfl (fun hok => (xP hok 0 rfl (xP hok 1 rfl (wx_indexA hok 2 0 u1_5 rfl rfl rfl (freshS_eq rfl) rfl rfl rfl rfl rfl rfl hx19 tE_28 tS_73 (fun b19 q19 cs19 hlx19 => (wx_openR R_Api_TypeD_opens 1 rfl (fun r19 er19 _ => ?_)))))))
    subst er19
    refine wx_load hok 3 0 0 rfl rfl rfl (freshS_eq rfl) rfl rfl rfl rfl (cs := [_,_]) rfl tS_73 tA_73 rfl rfl (xP hok 4 rfl (xP hok 5 rfl (wx_indexA hok 6 3 u1_5 rfl rfl rfl (freshS_eq rfl) rfl rfl rfl rfl rfl rfl hx23 tE_28 tS_73 (fun b23 q23 cs23 hlx23 => (wx_openR R_Api_TypeD_opens 1 rfl (fun r23 er23 _ => ?_))))))
    subst er23
    refine wx_load hok 7 0 0 rfl rfl rfl (freshS_eq rfl) rfl rfl rfl rfl (cs := [_,_]) rfl tS_73 tA_73 rfl rfl (wx_bin hok 8 rfl rfl rfl (freshS_eq rfl) rfl rfl rfl rfl (neqT _ _ x19.name x23.name x19.fields x23.fields) (wx_done hok rfl (we_then (wc_keep [25,5,0,1] (S' := [_,_,_,_]) rfl ?_))))
    refine wc_cond rfl (fun hb25 => ?_) (fun hb25 => ?_)
    ·
     replace hm := iteT hm hb25
     refine wc_keep [] (S' := []) rfl (wc_seq (wc_region (wP rfl (wl_nil (we_then (wc_ret (we_block_ret (we_then_ret (we_then_ret (we_block_ret (we_then_ret ?_)))))))))))
     have hE := (Option.some.inj hm).symm
     replace hE := link_inr hLu1 hE
     replace hE := link_inr hLj_1 hE
     replace hE := hE.symm
     subst hE
     refine ret_one (Hr := []) [] Tryd.results25 (res_tmp rfl) ⟨rfl, rfl, rfl⟩ (asK [] rfl) rfl rfl (.inl rfl)
    ·
     replace hm := iteF hm hb25
     refine wc_keep [5,0,1] (S' := [_,_,_]) rfl (wc_skip (we_block_normal (we_then (wc_region (wP rfl (wP rfl ?_))))))
     obtain ⟨hg16, hm⟩ := gd_some hm
     refine wl_as (d := 16) (v' := .int .i64 ((u1_5 + 1 : Nat) : Int)) (S' := [_,_,_,_]) rfl rfl (nat_add (a := u1_5) (b := 1) hg16) (wl_pure (S' := [_,_,_,_]) rfl rfl rfl rfl rfl (wl_nil ?_))
     have hE := (Option.some.inj hm).symm
     replace hE := link_inl hLu1 hE
     refine we_roundK (_, u1_5 + 1) (Nat.lt_succ_self _) hE [5,0,1] rfl (asK [4,5] rfl) rfl
   ·
    replace hm := iteF hm hb14
    refine wc_keep [] (S' := []) rfl (wc_exit (we_then_exit (we_then_exit (we_block_hit ?_))))
    have hE := (Option.some.inj hm).symm
    replace hE := link_inr hLu1 hE
    refine we_join () hE [] rfl (asK [] rfl) rfl
  ·
   rintro _ hE
   try dsimp only
   have hm := link_inl hLj_1 hE
   try dsimp only at hm
   refine wc_seq (wc_region (wP rfl (wl_nil (we_then (wc_ret ?_)))))
   have hE := (Option.some.inj hm).symm
   replace hE := hE.symm
   subst hE
   refine ret_one (Hr := []) [] Tryd.results25 (res_tmp rfl) ⟨rfl, rfl, rfl⟩ (asK [] rfl) rfl rfl (.inl rfl)
theorem w_ropewalkkit_SameArgs_s (N : Nat) (qp0 : Option Addr) (qc1 : Nat) (l0 : List ArgD) (qp2 : Option Addr) (qc3 : Nat) (l1 : List ArgD) (o0 : Bool) (hm : m_ropewalkkit_SameArgs N l0 l1 = some o0) : Spec Tryd.prog 80 [.slice qp0 l0.length qc1, .slice qp2 l1.length qc3] [.sli 5 R_ArgD qp0 qc1 l0, .sli 5 R_ArgD qp2 qc3 l1] [] (fun v Φr Hr => v = .bool o0 ∧ Φr = [] ∧ Hr = []) := by
 unfold m_ropewalkkit_SameArgs at hm
 refine spec_of Tryd.func80 rfl Tryd.ntmps80 rfl (S := [_,_]) rfl (fun C => (wc_seq (wc_region (wP rfl (wl_nil (we_then (wc_keep [0,1] (S' := [_,_]) rfl (wc_seq (wc_seq (wc_region (wP rfl (wN rfl tE_98 (wP rfl (wN rfl tE_98 ?_))))))))))))))
 refine wP rfl (wl_as (d := 10) (v' := .bool (l0.length != l1.length)) (S' := [_,_,_,_,_,_]) rfl rfl (natne (a := l0.length) (b := l1.length)) (wl_nil (we_then (wc_keep [10,0,1] (S' := [_,_,_]) rfl ?_))))
 refine wc_cond rfl (fun hb10 => ?_) (fun hb10 => ?_)
 ·
  replace hm := iteT hm hb10
  refine wc_keep [] (S' := []) rfl (wc_seq (wc_region (wP rfl (wl_nil (we_then (wc_ret (we_then_ret ?_)))))))
  have hE := (Option.some.inj hm).symm
  replace hE := hE.symm
  subst hE
  refine ret_one (Hr := []) [] Tryd.results80 (res_tmp rfl) ⟨rfl, rfl, rfl⟩ (asK [] rfl) rfl rfl (.inl rfl)
 ·
  replace hm := iteF hm hb10
  refine wc_keep [0,1] (S' := [_,_]) rfl (wc_skip (we_then (wc_seq ?_)))
  obtain ⟨bj_1, hm, hLj_1⟩ := bindS_some hm
  refine wc_cut (σ := Unit) (fun _ => bj_1 = .inl ()) (fun _ => []) (fun _ => []) (fun _ => []) ?_ ?_
  ·
   refine wc_seq (wc_region (wP rfl (wl_nil (we_then (wc_block (wc_loop (σ := Nat × Nat) (fun (nu1, u1_5) => iter (m_ropewalkkit_SameArgs_L1 N l0 l1) nu1 u1_5 = some bj_1) (fun (nu1, u1_5) => nu1) (fun (nu1, u1_5) => [(5, .int .i64 ((u1_5 : Nat) : Int)), (0, .slice qp0 l0.length qc1), (1, .slice qp2 l1.length qc3)]) (fun (nu1, u1_5) => [.sli 5 R_ArgD qp0 qc1 l0, .sli 5 R_ArgD qp2 qc3 l1]) (fun (nu1, u1_5) => []) (N, 0) hm [5,0,1] rfl (asK [0,1] rfl) rfl (fun s_ hm => ?_)))))))
   obtain ⟨nu1, u1_5⟩ := s_
   try dsimp only at hm ⊢
   obtain ⟨mu1, bu1, hnu1, hq, hLu1⟩ := iter_some hm
   clear hm
   subst hnu1
   replace hm := hq
   clear hq
   unfold m_ropewalkkit_SameArgs_L1 at hm
   try dsimp only at hm
   refine wc_seq (wc_seq (wc_region (wP rfl (wP rfl (wN rfl tE_98 (wP rfl (wl_as (d := 14) (v' := .bool (decide (u1_5 < l0.length))) (S' := [_,_,_,_,_,_]) rfl rfl (natlt (a := u1_5) (b := l0.length)) (wl_nil (we_then (wc_keep [14,5,0,1] (S' := [_,_,_,_]) rfl ?_))))))))))
   refine wc_cond rfl (fun hb14 => ?_) (fun hb14 => ?_)
   ·
    replace hm := iteT hm hb14
    refine wc_keep [5,0,1] (S' := [_,_,_]) rfl (wc_skip (we_then (wc_seq (wc_block (wc_seq ?_)))))
    obtain ⟨x19, hx19, hm⟩ := bindO_some hm
    obtain ⟨x23, hx23, hm⟩ := bindO_some hm
    refine wc_draw [0,1,2,3,4,5,6,7,8] rfl rfl (fun hok => (xP hok 0 rfl (xP hok 1 rfl (wx_indexA hok 2 0 u1_5 rfl rfl rfl (freshS_eq rfl) rfl rfl rfl rfl rfl rfl hx19 tE_98 tS_140 (fun b19 q19 cs19 hlx19 => (wx_openR R_ArgD_opens 1 rfl (fun r19 er19 _ => ?_)))))))
    subst er19
    refine wx_load hok 3 0 0 rfl rfl rfl (freshS_eq rfl) rfl rfl rfl rfl (cs := [_,_,_,_,_]) rfl tS_140 tA_140 rfl rfl (xP hok 4 rfl (xP hok 5 rfl (wx_indexA hok 6 3 u1_5 rfl rfl rfl (freshS_eq rfl) rfl rfl rfl rfl rfl rfl hx23 tE_98 tS_140 (fun b23 q23 cs23 hlx23 => (wx_openR R_ArgD_opens 1 rfl (fun r23 er23 _ => ?_))))))
    subst er23
    refine wx_load hok 7 0 0 rfl rfl rfl (freshS_eq rfl) rfl rfl rfl rfl (cs := [_,_,_,_,_]) rfl tS_140 tA_140 rfl rfl (wx_bin hok 8 rfl rfl rfl (freshS_eq rfl) rfl rfl rfl rfl (neqA _ _ x19 x23) (wx_done hok rfl (we_then (wc_keep [25,5,0,1] (S' := [_,_,_,_]) rfl ?_))))
    refine wc_cond rfl (fun hb25 => ?_) (fun hb25 => ?_)
    ·
     replace hm := iteT hm hb25
     refine wc_keep [] (S' := []) rfl (wc_seq (wc_region (wP rfl (wl_nil (we_then (wc_ret (we_block_ret (we_then_ret (we_then_ret (we_block_ret (we_then_ret ?_)))))))))))
     have hE := (Option.some.inj hm).symm
     replace hE := link_inr hLu1 hE
     replace hE := link_inr hLj_1 hE
     replace hE := hE.symm
     subst hE
     refine ret_one (Hr := []) [] Tryd.results80 (res_tmp rfl) ⟨rfl, rfl, rfl⟩ (asK [] rfl) rfl rfl (.inl rfl)
    ·
     replace hm := iteF hm hb25
     refine wc_keep [5,0,1] (S' := [_,_,_]) rfl (wc_skip (we_block_normal (we_then (wc_region (wP rfl (wP rfl ?_))))))
     obtain ⟨hg16, hm⟩ := gd_some hm
     refine wl_as (d := 16) (v' := .int .i64 ((u1_5 + 1 : Nat) : Int)) (S' := [_,_,_,_]) rfl rfl (nat_add (a := u1_5) (b := 1) hg16) (wl_pure (S' := [_,_,_,_]) rfl rfl rfl rfl rfl (wl_nil ?_))
     have hE := (Option.some.inj hm).symm
     replace hE := link_inl hLu1 hE
     refine we_roundK (_, u1_5 + 1) (Nat.lt_succ_self _) hE [5,0,1] rfl (asK [4,5] rfl) rfl
   ·
    replace hm := iteF hm hb14
    refine wc_keep [] (S' := []) rfl (wc_exit (we_then_exit (we_then_exit (we_block_hit ?_))))
    have hE := (Option.some.inj hm).symm
    replace hE := link_inr hLu1 hE
    refine we_join () hE [] rfl (asK [] rfl) rfl
  ·
   rintro _ hE
   try dsimp only
   have hm := link_inl hLj_1 hE
   try dsimp only at hm
   refine wc_seq (wc_region (wP rfl (wl_nil (we_then (wc_ret ?_)))))
   have hE := (Option.some.inj hm).symm
   replace hE := hE.symm
   subst hE
   refine ret_one (Hr := []) [] Tryd.results80 (res_tmp rfl) ⟨rfl, rfl, rfl⟩ (asK [] rfl) rfl rfl (.inl rfl)
theorem w_ropewalkkit_SameExprs_v2_s (N : Nat) (rc : Int → Int → Int → ByteArray → Int → Int → (List Api_ExprD) → Int → Int → Int → ByteArray → Int → Int → (List Api_ExprD) → Option (Bool)) (ih : ∀ (a0 : Int) (a1 : Int) (a2 : Int) (a3 : ByteArray) (a4 : Int) (a5 : Int) (qp0 : Option Addr) (qc1 : Nat) (l6 : List Api_ExprD) (a7 : Int) (a8 : Int) (a9 : Int) (a10 : ByteArray) (a11 : Int) (a12 : Int) (qp2 : Option Addr) (qc3 : Nat) (l13 : List Api_ExprD) (o0 : Bool), rc a0 a1 a2 a3 a4 a5 l6 a7 a8 a9 a10 a11 a12 l13 = some o0 → Spec Tryd.prog 81 [.agg #[.int .u8 a0, .int .u8 a1, .int .i64 a2, .string a3, .int .i64 a4, .int .u8 a5, .slice qp0 l6.length qc1], .agg #[.int .u8 a7, .int .u8 a8, .int .i64 a9, .string a10, .int .i64 a11, .int .u8 a12, .slice qp2 l13.length qc3]] [.sli 7 R_Api_ExprD qp0 qc1 l6, .sli 7 R_Api_ExprD qp2 qc3 l13] [] (fun v Φr Hr => v = .bool o0 ∧ Φr = [] ∧ Hr = [])) (qp0 : Option Addr) (qc1 : Nat) (l0 : List Api_ExprD) (qp2 : Option Addr) (qc3 : Nat) (l1 : List Api_ExprD) (o0 : Bool) (hm : m_ropewalkkit_SameExprs_v2 N rc l0 l1 = some o0) : Spec Tryd.prog 82 [.slice qp0 l0.length qc1, .slice qp2 l1.length qc3] [.sli 7 R_Api_ExprD qp0 qc1 l0, .sli 7 R_Api_ExprD qp2 qc3 l1] [] (fun v Φr Hr => v = .bool o0 ∧ Φr = [] ∧ Hr = []) := by
 unfold m_ropewalkkit_SameExprs_v2 at hm
 refine spec_of Tryd.func82 rfl Tryd.ntmps82 rfl (S := [_,_]) rfl (fun C => (wc_seq (wc_region (wP rfl (wl_nil (we_then (wc_keep [0,1] (S' := [_,_]) rfl (wc_seq (wc_seq (wc_region (wP rfl (wN rfl tE_104 (wP rfl (wN rfl tE_104 ?_))))))))))))))
 refine wP rfl (wl_as (d := 10) (v' := .bool (l0.length != l1.length)) (S' := [_,_,_,_,_,_]) rfl rfl (natne (a := l0.length) (b := l1.length)) (wl_nil (we_then (wc_keep [10,0,1] (S' := [_,_,_]) rfl ?_))))
 refine wc_cond rfl (fun hb10 => ?_) (fun hb10 => ?_)
 ·
  replace hm := iteT hm hb10
  refine wc_keep [] (S' := []) rfl (wc_seq (wc_region (wP rfl (wl_nil (we_then (wc_ret (we_then_ret ?_)))))))
  have hE := (Option.some.inj hm).symm
  replace hE := hE.symm
  subst hE
  refine ret_one (Hr := []) [] Tryd.results82 (res_tmp rfl) ⟨rfl, rfl, rfl⟩ (asK [] rfl) rfl rfl (.inl rfl)
 ·
  replace hm := iteF hm hb10
  refine wc_keep [0,1] (S' := [_,_]) rfl (wc_skip (we_then (wc_seq ?_)))
  obtain ⟨bj_1, hm, hLj_1⟩ := bindS_some hm
  refine wc_cut (σ := Unit) (fun _ => bj_1 = .inl ()) (fun _ => []) (fun _ => []) (fun _ => []) ?_ ?_
  ·
   refine wc_seq (wc_region (wP rfl (wl_nil (we_then (wc_block (wc_loop (σ := Nat × Nat) (fun (nu1, u1_5) => iter (m_ropewalkkit_SameExprs_v2_L1 N l0 l1 rc) nu1 u1_5 = some bj_1) (fun (nu1, u1_5) => nu1) (fun (nu1, u1_5) => [(5, .int .i64 ((u1_5 : Nat) : Int)), (0, .slice qp0 l0.length qc1), (1, .slice qp2 l1.length qc3)]) (fun (nu1, u1_5) => [.sli 7 R_Api_ExprD qp0 qc1 l0, .sli 7 R_Api_ExprD qp2 qc3 l1]) (fun (nu1, u1_5) => []) (N, 0) hm [5,0,1] rfl (asK [0,1] rfl) rfl (fun s_ hm => ?_)))))))
   obtain ⟨nu1, u1_5⟩ := s_
   try dsimp only at hm ⊢
   obtain ⟨mu1, bu1, hnu1, hq, hLu1⟩ := iter_some hm
   clear hm
   subst hnu1
   replace hm := hq
   clear hq
   unfold m_ropewalkkit_SameExprs_v2_L1 at hm
   try dsimp only at hm
   refine wc_seq (wc_seq (wc_region (wP rfl (wP rfl (wN rfl tE_104 (wP rfl (wl_as (d := 14) (v' := .bool (decide (u1_5 < l0.length))) (S' := [_,_,_,_,_,_]) rfl rfl (natlt (a := u1_5) (b := l0.length)) (wl_nil (we_then (wc_keep [14,5,0,1] (S' := [_,_,_,_]) rfl ?_))))))))))
   refine wc_cond rfl (fun hb14 => ?_) (fun hb14 => ?_)
   ·
    replace hm := iteT hm hb14
    refine wc_keep [5,0,1] (S' := [_,_,_]) rfl (wc_skip (we_then (wc_seq (wc_block (wc_seq ?_)))))
    obtain ⟨x19, hx19, hm⟩ := bindO_some hm
    obtain ⟨x23, hx23, hm⟩ := bindO_some hm
    obtain ⟨v25, hc25, hm⟩ := bindO_some hm
    refine wc_draw [0,1,2,3,4,5,6,7,9] rfl rfl (fun hok => (xP hok 0 rfl (xP hok 1 rfl (wx_indexA hok 2 0 u1_5 rfl rfl rfl (freshS_eq rfl) rfl rfl rfl rfl rfl rfl hx19 tE_104 tS_106 (fun b19 q19 cs19 hlx19 => (wx_openR R_Api_ExprD_opens 1 rfl (fun r19 er19 _ => ?_)))))))
    subst er19
    refine wx_load hok 3 1 0 rfl rfl rfl (freshS_eq rfl) rfl rfl rfl rfl (cs := [_,_,_,_,_,_,_]) rfl tS_106 tA_106 rfl rfl (xP hok 4 rfl (xP hok 5 rfl (wx_indexA hok 6 4 u1_5 rfl rfl rfl (freshS_eq rfl) rfl rfl rfl rfl rfl rfl hx23 tE_104 tS_106 (fun b23 q23 cs23 hlx23 => (wx_openR R_Api_ExprD_opens 1 rfl (fun r23 er23 _ => ?_))))))
    subst er23
    refine wx_load hok 7 1 0 rfl rfl rfl (freshS_eq rfl) rfl rfl rfl rfl (cs := [_,_,_,_,_,_,_]) rfl tS_106 tA_106 rfl rfl (xS hok 8 rfl (wC [] [] rfl fn_81 rfl (ih x19.kind x19.value.k x19.value.n x19.value.s x19.var x19.op r19.1 r19.2 x19.kids x23.kind x23.value.k x23.value.n x23.value.s x23.var x23.op r23.1 r23.2 x23.kids _ hc25) (asK [3,0] rfl) rfl (H' := []) rfl ?_))
    rintro _ _ _ ⟨rfl, rfl, rfl⟩
    refine wl_nil (we_x [0,1,2,3,4,5,6,7] [] rfl rfl (xP hok 9 rfl (wx_done hok rfl (we_then (wc_keep [26,5,0,1] (S' := [_,_,_,_]) rfl ?_)))))
    refine wc_cond rfl (fun hb26 => ?_) (fun hb26 => ?_)
    ·
     replace hm := iteT hm hb26
     refine wc_keep [] (S' := []) rfl (wc_seq (wc_region (wP rfl (wl_nil (we_then (wc_ret (we_block_ret (we_then_ret (we_then_ret (we_block_ret (we_then_ret ?_)))))))))))
     have hE := (Option.some.inj hm).symm
     replace hE := link_inr hLu1 hE
     replace hE := link_inr hLj_1 hE
     replace hE := hE.symm
     subst hE
     refine ret_one (Hr := []) [] Tryd.results82 (res_tmp rfl) ⟨rfl, rfl, rfl⟩ (asK [] rfl) rfl rfl (.inl rfl)
    ·
     replace hm := iteF hm hb26
     refine wc_keep [5,0,1] (S' := [_,_,_]) rfl (wc_skip (we_block_normal (we_then (wc_region (wP rfl (wP rfl ?_))))))
     obtain ⟨hg16, hm⟩ := gd_some hm
     refine wl_as (d := 16) (v' := .int .i64 ((u1_5 + 1 : Nat) : Int)) (S' := [_,_,_,_]) rfl rfl (nat_add (a := u1_5) (b := 1) hg16) (wl_pure (S' := [_,_,_,_]) rfl rfl rfl rfl rfl (wl_nil ?_))
     have hE := (Option.some.inj hm).symm
     replace hE := link_inl hLu1 hE
     refine we_roundK (_, u1_5 + 1) (Nat.lt_succ_self _) hE [5,0,1] rfl (asK [6,7] rfl) rfl
   ·
    replace hm := iteF hm hb14
    refine wc_keep [] (S' := []) rfl (wc_exit (we_then_exit (we_then_exit (we_block_hit ?_))))
    have hE := (Option.some.inj hm).symm
    replace hE := link_inr hLu1 hE
    refine we_join () hE [] rfl (asK [] rfl) rfl
  ·
   rintro _ hE
   try dsimp only
   have hm := link_inl hLj_1 hE
   try dsimp only at hm
   refine wc_seq (wc_region (wP rfl (wl_nil (we_then (wc_ret ?_)))))
   have hE := (Option.some.inj hm).symm
   replace hE := hE.symm
   subst hE
   refine ret_one (Hr := []) [] Tryd.results82 (res_tmp rfl) ⟨rfl, rfl, rfl⟩ (asK [] rfl) rfl rfl (.inl rfl)
theorem w_ropewalkkit_SameExpr_s_b (N : Nat) (rc : Int → Int → Int → ByteArray → Int → Int → (List Api_ExprD) → Int → Int → Int → ByteArray → Int → Int → (List Api_ExprD) → Option (Bool)) (ih : ∀ (a0 : Int) (a1 : Int) (a2 : Int) (a3 : ByteArray) (a4 : Int) (a5 : Int) (qp0 : Option Addr) (qc1 : Nat) (l6 : List Api_ExprD) (a7 : Int) (a8 : Int) (a9 : Int) (a10 : ByteArray) (a11 : Int) (a12 : Int) (qp2 : Option Addr) (qc3 : Nat) (l13 : List Api_ExprD) (o0 : Bool), rc a0 a1 a2 a3 a4 a5 l6 a7 a8 a9 a10 a11 a12 l13 = some o0 → Spec Tryd.prog 81 [.agg #[.int .u8 a0, .int .u8 a1, .int .i64 a2, .string a3, .int .i64 a4, .int .u8 a5, .slice qp0 l6.length qc1], .agg #[.int .u8 a7, .int .u8 a8, .int .i64 a9, .string a10, .int .i64 a11, .int .u8 a12, .slice qp2 l13.length qc3]] [.sli 7 R_Api_ExprD qp0 qc1 l6, .sli 7 R_Api_ExprD qp2 qc3 l13] [] (fun v Φr Hr => v = .bool o0 ∧ Φr = [] ∧ Hr = [])) (a0 : Int) (a1 : Int) (a2 : Int) (a3 : ByteArray) (a4 : Int) (a5 : Int) (qp0 : Option Addr) (qc1 : Nat) (l6 : List Api_ExprD) (a7 : Int) (a8 : Int) (a9 : Int) (a10 : ByteArray) (a11 : Int) (a12 : Int) (qp2 : Option Addr) (qc3 : Nat) (l13 : List Api_ExprD) (o0 : Bool) (hm : m_ropewalkkit_SameExpr_b N rc a0 a1 a2 a3 a4 a5 l6 a7 a8 a9 a10 a11 a12 l13 = some o0) : Spec Tryd.prog 81 [.agg #[.int .u8 a0, .int .u8 a1, .int .i64 a2, .string a3, .int .i64 a4, .int .u8 a5, .slice qp0 l6.length qc1], .agg #[.int .u8 a7, .int .u8 a8, .int .i64 a9, .string a10, .int .i64 a11, .int .u8 a12, .slice qp2 l13.length qc3]] [.sli 7 R_Api_ExprD qp0 qc1 l6, .sli 7 R_Api_ExprD qp2 qc3 l13] [] (fun v Φr Hr => v = .bool o0 ∧ Φr = [] ∧ Hr = []) := by
 unfold m_ropewalkkit_SameExpr_b at hm
 refine spec_of Tryd.func81 rfl Tryd.ntmps81 rfl (S := [_,_]) rfl (fun C => (wc_seq (wc_region (wB rfl (fun g2 => (wB rfl (fun g3 => (wP rfl (wl_nil (we_then (wc_keep [3,2] (S' := [_,_]) rfl (wc_seq ?_))))))))))))
 obtain ⟨bj_1, hm, hLj_1⟩ := bindO_some hm
 unfold m_ropewalkkit_SameExpr_C1 at hm
 refine wc_cut (σ := Bool) (fun j_1_4 => bj_1 = j_1_4) (fun j_1_4 => [(4, .bool j_1_4)]) (fun j_1_4 => []) (fun j_1_4 => []) ?_ ?_
 ·
  refine wc_region (wF rfl tF_106_0 (wD 1 0 rfl tS_99 tA_99 rfl (wF rfl tF_106_0 (wD 0 0 rfl tS_99 tA_99 rfl (wP rfl (wP rfl ?_))))))
  refine wl_split (d := 10) (S' := [_,_,_,_,_,_,_]) rfl rfl (fun hs10 => ?_) (fun hs10 => ?_)
  ·
   replace hm := iteT hm hs10
   refine wF rfl tF_106_1 (wl_loadH 1 1 rfl rfl rfl (freshS_eq rfl) rfl rfl rfl (cs := [_,_,_]) rfl tS_102 tA_102 rfl rfl (wF rfl tF_106_1 (wl_loadH 0 1 rfl rfl rfl (freshS_eq rfl) rfl rfl rfl (cs := [_,_,_]) rfl tS_102 tA_102 rfl rfl (wl_bin rfl rfl rfl (freshS_eq rfl) rfl rfl rfl (eqlV _ _ (⟨a1, a2, a3⟩ : V) (⟨a8, a9, a10⟩ : V)) (wP rfl (wP rfl ?_))))))
   refine wl_split (d := 17) (S' := [_,_,_,_,_,_,_,_,_,_,_,_,_,_]) rfl rfl (fun hs17 => ?_) (fun hs17 => ?_)
   ·
    replace hm := iteT hm hs17
    refine wF rfl tF_106_2 (wD 1 4 rfl tS_3 tA_3 rfl (wF rfl tF_106_2 (wD 0 4 rfl tS_3 tA_3 rfl (wP rfl (wP rfl (wP rfl ?_))))))
    refine wl_split (d := 24) (S' := [_,_,_,_,_,_,_,_,_,_,_,_,_,_,_,_,_,_,_,_,_]) rfl rfl (fun hs24 => ?_) (fun hs24 => ?_)
    ·
     replace hm := iteT hm hs24
     refine wF rfl tF_106_3 (wD 1 5 rfl tS_103 tA_103 rfl (wF rfl tF_106_3 (wD 0 5 rfl tS_103 tA_103 rfl (wP rfl (wP rfl (wP rfl ?_))))))
     refine wl_split (d := 31) (S' := [_,_,_,_,_,_,_,_,_,_,_,_,_,_,_,_,_,_,_,_,_,_,_,_,_,_,_,_]) rfl rfl (fun hs31 => ?_) (fun hs31 => ?_)
     ·
      replace hm := iteT hm hs31
      refine wF rfl tF_106_4 (wD 1 6 rfl tS_104 tA_104 rfl (wF rfl tF_106_4 (wD 0 6 rfl tS_104 tA_104 rfl ?_)))
      obtain ⟨v36, hc36, hm⟩ := bindO_some hm
      refine wC [] [0,1] rfl fn_82 rfl (w_ropewalkkit_SameExprs_v2_s N rc ih qp0 qc1 l6 qp2 qc3 l13 _ hc36) (asK [0,1] rfl) rfl (H' := [_,_]) rfl ?_
      rintro _ _ _ ⟨rfl, rfl, rfl⟩
      refine wP rfl (wP rfl (wl_nil ?_))
      have hE := (Option.some.inj hm).symm
      refine we_pick [] rfl (H' := []) rfl ?_
      refine we_join v36 hE [4] rfl (asK [] rfl) rfl
     ·
      replace hm := iteF hm hs31
      refine wO rfl (wO rfl (wO rfl (wO rfl (wO rfl (wP rfl (wP rfl (wl_nil ?_)))))))
      have hE := (Option.some.inj hm).symm
      refine we_pick [] rfl (H' := []) rfl ?_
      refine we_join false hE [4] rfl (asK [] rfl) rfl
    ·
     replace hm := iteF hm hs24
     refine wO rfl (wO rfl (wO rfl (wO rfl (wO rfl (wP rfl (wP rfl (wO rfl (wO rfl (wO rfl (wO rfl (wO rfl (wP rfl (wP rfl ?_)))))))))))))
     refine wl_nil ?_
     have hE := (Option.some.inj hm).symm
     refine we_pick [] rfl (H' := []) rfl ?_
     refine we_join false hE [4] rfl (asK [] rfl) rfl
   ·
    replace hm := iteF hm hs17
    refine wO rfl (wO rfl (wO rfl (wO rfl (wO rfl (wP rfl (wP rfl (wO rfl (wO rfl (wO rfl (wO rfl (wO rfl (wP rfl (wP rfl ?_)))))))))))))
    refine wO rfl (wO rfl (wO rfl (wO rfl (wO rfl (wP rfl (wP rfl (wl_nil ?_)))))))
    have hE := (Option.some.inj hm).symm
    refine we_pick [] rfl (H' := []) rfl ?_
    refine we_join false hE [4] rfl (asK [] rfl) rfl
  ·
   replace hm := iteF hm hs10
   refine wO rfl (wO rfl (wO rfl (wO rfl (wO rfl (wP rfl (wP rfl (wO rfl (wO rfl (wO rfl (wO rfl (wO rfl (wP rfl (wP rfl ?_)))))))))))))
   refine wO rfl (wO rfl (wO rfl (wO rfl (wO rfl (wP rfl (wP rfl (wO rfl (wO rfl (wO rfl (wO rfl (wO rfl (wP rfl (wP rfl ?_)))))))))))))
   refine wl_nil ?_
   have hE := (Option.some.inj hm).symm
   refine we_pick [] rfl (H' := []) rfl ?_
   refine we_join false hE [4] rfl (asK [] rfl) rfl
 ·
  rintro j_1_4 hE
  try dsimp only
  have hm := hLj_1
  rw [hE] at hm
  refine wc_ret ?_
  have hE := (Option.some.inj hm).symm
  replace hE := hE.symm
  subst hE
  refine ret_one (Hr := []) [] Tryd.results81 (res_tmp rfl) ⟨rfl, rfl, rfl⟩ (asK [] rfl) rfl rfl (.inl rfl)
theorem w_ropewalkkit_SameExpr_s : ∀ (N : Nat), ∀ (a0 : Int) (a1 : Int) (a2 : Int) (a3 : ByteArray) (a4 : Int) (a5 : Int) (qp0 : Option Addr) (qc1 : Nat) (l6 : List Api_ExprD) (a7 : Int) (a8 : Int) (a9 : Int) (a10 : ByteArray) (a11 : Int) (a12 : Int) (qp2 : Option Addr) (qc3 : Nat) (l13 : List Api_ExprD) (o0 : Bool), m_ropewalkkit_SameExpr N a0 a1 a2 a3 a4 a5 l6 a7 a8 a9 a10 a11 a12 l13 = some o0 → Spec Tryd.prog 81 [.agg #[.int .u8 a0, .int .u8 a1, .int .i64 a2, .string a3, .int .i64 a4, .int .u8 a5, .slice qp0 l6.length qc1], .agg #[.int .u8 a7, .int .u8 a8, .int .i64 a9, .string a10, .int .i64 a11, .int .u8 a12, .slice qp2 l13.length qc3]] [.sli 7 R_Api_ExprD qp0 qc1 l6, .sli 7 R_Api_ExprD qp2 qc3 l13] [] (fun v Φr Hr => v = .bool o0 ∧ Φr = [] ∧ Hr = []) := by
  intro N
  induction N with
  | zero => intro a0 a1 a2 a3 a4 a5 qp0 qc1 l6 a7 a8 a9 a10 a11 a12 qp2 qc3 l13 o0 hm; cases hm
  | succ N ih => intro a0 a1 a2 a3 a4 a5 qp0 qc1 l6 a7 a8 a9 a10 a11 a12 qp2 qc3 l13 o0 hm; exact w_ropewalkkit_SameExpr_s_b N (m_ropewalkkit_SameExpr N) ih a0 a1 a2 a3 a4 a5 qp0 qc1 l6 a7 a8 a9 a10 a11 a12 qp2 qc3 l13 o0 hm
theorem w_ropewalkkit_SameCond_s (N : Nat) (a0 : Int) (a1 : Int) (qp0 : Option Addr) (qc1 : Nat) (l2 : List ArgD) (a3 : Int) (a4 : Int) (a5 : Int) (a6 : ByteArray) (a7 : Int) (a8 : Int) (qp2 : Option Addr) (qc3 : Nat) (l9 : List Api_ExprD) (a10 : Int) (a11 : Int) (qp4 : Option Addr) (qc5 : Nat) (l12 : List ArgD) (a13 : Int) (a14 : Int) (a15 : Int) (a16 : ByteArray) (a17 : Int) (a18 : Int) (qp6 : Option Addr) (qc7 : Nat) (l19 : List Api_ExprD) (o0 : Bool) (hm : m_ropewalkkit_SameCond N a0 a1 l2 a3 a4 a5 a6 a7 a8 l9 a10 a11 l12 a13 a14 a15 a16 a17 a18 l19 = some o0) : Spec Tryd.prog 64 [.agg #[.int .u8 a0, .int .i64 a1, .slice qp0 l2.length qc1, .int .u8 a3, .int .u8 a4, .int .i64 a5, .string a6, .int .i64 a7, .int .u8 a8, .slice qp2 l9.length qc3], .agg #[.int .u8 a10, .int .i64 a11, .slice qp4 l12.length qc5, .int .u8 a13, .int .u8 a14, .int .i64 a15, .string a16, .int .i64 a17, .int .u8 a18, .slice qp6 l19.length qc7]] [.sli 5 R_ArgD qp0 qc1 l2, .sli 7 R_Api_ExprD qp2 qc3 l9, .sli 5 R_ArgD qp4 qc5 l12, .sli 7 R_Api_ExprD qp6 qc7 l19] [] (fun v Φr Hr => v = .bool o0 ∧ Φr = [] ∧ Hr = []) := by
 unfold m_ropewalkkit_SameCond at hm
 refine spec_of Tryd.func64 rfl Tryd.ntmps64 rfl (S := [_,_]) rfl (fun C => (wc_seq (wc_region (wB rfl (fun g2 => (wB rfl (fun g3 => (wP rfl (wl_nil (we_then (wc_keep [3,2] (S' := [_,_]) rfl (wc_seq ?_))))))))))))
 obtain ⟨bj_1, hm, hLj_1⟩ := bindO_some hm
 unfold m_ropewalkkit_SameCond_C1 at hm
 refine wc_cut (σ := Bool) (fun j_1_4 => bj_1 = j_1_4) (fun j_1_4 => [(4, .bool j_1_4)]) (fun j_1_4 => []) (fun j_1_4 => []) ?_ ?_
 ·
  refine wc_region (wF rfl tF_108_0 (wD 1 0 rfl tS_97 tA_97 rfl (wF rfl tF_108_0 (wD 0 0 rfl tS_97 tA_97 rfl (wP rfl (wP rfl ?_))))))
  refine wl_split (d := 10) (S' := [_,_,_,_,_,_,_]) rfl rfl (fun hs10 => ?_) (fun hs10 => ?_)
  ·
   replace hm := iteT hm hs10
   refine wF rfl tF_108_1 (wD 1 1 rfl tS_3 tA_3 rfl (wF rfl tF_108_1 (wD 0 1 rfl tS_3 tA_3 rfl (wP rfl (wP rfl (wP rfl ?_))))))
   refine wl_split (d := 17) (S' := [_,_,_,_,_,_,_,_,_,_,_,_,_,_]) rfl rfl (fun hs17 => ?_) (fun hs17 => ?_)
   ·
    replace hm := iteT hm hs17
    refine wF rfl tF_108_2 (wD 1 2 rfl tS_98 tA_98 rfl (wF rfl tF_108_2 (wD 0 2 rfl tS_98 tA_98 rfl ?_)))
    obtain ⟨v22, hc22, hm⟩ := bindO_some hm
    refine wC [] [0,1] rfl fn_80 rfl (w_ropewalkkit_SameArgs_s N qp0 qc1 l2 qp4 qc5 l12 _ hc22) (asK [0,2] rfl) rfl (H' := [_,_]) rfl ?_
    rintro _ _ _ ⟨rfl, rfl, rfl⟩
    refine wP rfl (wP rfl ?_)
    refine wl_split (d := 24) (S' := [_,_,_,_,_,_,_,_,_,_,_,_,_,_,_,_,_,_,_,_,_]) rfl rfl (fun hs24 => ?_) (fun hs24 => ?_)
    ·
     replace hm := iteT hm hs24
     refine wF rfl tF_108_3 (wl_loadH 1 3 rfl rfl rfl (freshS_eq rfl) rfl rfl rfl (cs := [_,_,_,_,_,_,_]) rfl tS_106 tA_106 rfl rfl (wF rfl tF_108_3 (wl_loadH 0 3 rfl rfl rfl (freshS_eq rfl) rfl rfl rfl (cs := [_,_,_,_,_,_,_]) rfl tS_106 tA_106 rfl rfl ?_)))
     obtain ⟨v29, hc29, hm⟩ := bindO_some hm
     refine wC [] [0,1] rfl fn_81 rfl (w_ropewalkkit_SameExpr_s N a3 a4 a5 a6 a7 a8 qp2 qc3 l9 a13 a14 a15 a16 a17 a18 qp6 qc7 l19 _ hc29) (asK [1,3] rfl) rfl (H' := [_,_]) rfl ?_
     rintro _ _ _ ⟨rfl, rfl, rfl⟩
     refine wP rfl (wP rfl (wl_nil ?_))
     have hE := (Option.some.inj hm).symm
     refine we_pick [] rfl (H' := []) rfl ?_
     refine we_join v29 hE [4] rfl (asK [] rfl) rfl
    ·
     replace hm := iteF hm hs24
     refine wO rfl (wO rfl (wO rfl (wO rfl (wO rfl (wP rfl (wP rfl (wl_nil ?_)))))))
     have hE := (Option.some.inj hm).symm
     refine we_pick [] rfl (H' := []) rfl ?_
     refine we_join false hE [4] rfl (asK [] rfl) rfl
   ·
    replace hm := iteF hm hs17
    refine wO rfl (wO rfl (wO rfl (wO rfl (wO rfl (wP rfl (wP rfl (wO rfl (wO rfl (wO rfl (wO rfl (wO rfl (wP rfl (wP rfl ?_)))))))))))))
    refine wl_nil ?_
    have hE := (Option.some.inj hm).symm
    refine we_pick [] rfl (H' := []) rfl ?_
    refine we_join false hE [4] rfl (asK [] rfl) rfl
  ·
   replace hm := iteF hm hs10
   refine wO rfl (wO rfl (wO rfl (wO rfl (wO rfl (wP rfl (wP rfl (wO rfl (wO rfl (wO rfl (wO rfl (wO rfl (wP rfl (wP rfl ?_)))))))))))))
   refine wO rfl (wO rfl (wO rfl (wO rfl (wO rfl (wP rfl (wP rfl (wl_nil ?_)))))))
   have hE := (Option.some.inj hm).symm
   refine we_pick [] rfl (H' := []) rfl ?_
   refine we_join false hE [4] rfl (asK [] rfl) rfl
 ·
  rintro j_1_4 hE
  try dsimp only
  have hm := hLj_1
  rw [hE] at hm
  refine wc_ret ?_
  have hE := (Option.some.inj hm).symm
  replace hE := hE.symm
  subst hE
  refine ret_one (Hr := []) [] Tryd.results64 (res_tmp rfl) ⟨rfl, rfl, rfl⟩ (asK [] rfl) rfl rfl (.inl rfl)
end Go.Proofs.YtkliokdpcdhjcaaDoor
