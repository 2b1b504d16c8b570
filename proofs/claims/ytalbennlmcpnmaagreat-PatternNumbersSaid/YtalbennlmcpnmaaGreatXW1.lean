import Derived.Test.YtalbennlmcpnmaaGreatXM
import Derived.Test.YtalbennlmcpnmaaGreatTypesP
import Derived.Test.YtalbennlmcpnmaaGreatEq
import Derived.Test.YtalbennlmcpnmaaGreatEqA
import Derived.Test.YtalbennlmcpnmaaGreatMapK
import Derived.Test.YtalbennlmcpnmaaGreatStr
import Derived.Test.YtalbennlmcpnmaaGreatView
import Derived.Test.YtalbennlmcpnmaaGreatMapE
import Derived.Test.YtalbennlmcpnmaaGreatFlat
import Derived.Test.YtalbennlmcpnmaaGreatApart
import Derived.Test.YtalbennlmcpnmaaGreatRun
import Derived.Test.YtalbennlmcpnmaaGreatShort
import Derived.Ground.SlgnProg
import Derived.Shelf.SlicesE.Clone
import Derived.Test.YtalbennlmcpnmaaGreatProg
import Derived.Test.YtalbennlmcpnmaaGreatAuto
import Derived.Test.YtalbennlmcpnmaaGreatAb
namespace Go.Proofs.YtalbennlmcpnmaaGreat
open Go.RowKit
set_option maxRecDepth 100000
set_option maxHeartbeats 4000000
theorem w_ropewalkkit_ExprsOf_s_b (N : Nat) (rc : (List Api_ExprD) → Int → Option (Int)) (ih : ∀ (qp0 : Option Addr) (qc1 : Nat) (l0 : List Api_ExprD) (a1 : Int) (o0 : Int), rc l0 a1 = some o0 → Spec Tryz.prog 5 [.slice qp0 l0.length qc1, .int .i64 a1] [.sli 7 R_Api_ExprD qp0 qc1 l0] [] (fun v Φr Hr => v = .int .i64 o0 ∧ Φr = [] ∧ Hr = [])) (qp0 : Option Addr) (qc1 : Nat) (l0 : List Api_ExprD) (a1 : Int) (o0 : Int) (hm : m_ropewalkkit_ExprsOf_b N rc l0 a1 = some o0) : Spec Tryz.prog 5 [.slice qp0 l0.length qc1, .int .i64 a1] [.sli 7 R_Api_ExprD qp0 qc1 l0] [] (fun v Φr Hr => v = .int .i64 o0 ∧ Φr = [] ∧ Hr = []) := by
 unfold m_ropewalkkit_ExprsOf_b at hm
 refine spec_of Tryz.func5 rfl Tryz.ntmps5 rfl (S := [_,_]) rfl (fun C => (wc_seq (wc_region (wP rfl (wl_nil (we_then (wc_keep [0,1] (S' := [_,_]) rfl (wc_seq (wc_region (wP rfl (wl_nil (we_then (wc_seq ?_)))))))))))))
 obtain ⟨bj_1, hm, hLj_1⟩ := bindO_some hm
 refine wc_cut (σ := Int) (fun j_1_5 => bj_1 = j_1_5) (fun j_1_5 => [(1, .int .i64 a1), (5, .int .i64 j_1_5)]) (fun j_1_5 => []) (fun j_1_5 => []) ?_ ?_
 ·
  refine wc_seq (wc_region (wP rfl (wl_nil (we_then (wc_block (wc_loop (σ := Nat × Nat × Int) (fun (nu1, u1_6, u1_5) => iter (m_ropewalkkit_ExprsOf_L1 N l0 a1 rc) nu1 (u1_6, u1_5) = some bj_1) (fun (nu1, u1_6, u1_5) => nu1) (fun (nu1, u1_6, u1_5) => [(6, .int .i64 ((u1_6 : Nat) : Int)), (5, .int .i64 u1_5), (0, .slice qp0 l0.length qc1), (1, .int .i64 a1)]) (fun (nu1, u1_6, u1_5) => [.sli 7 R_Api_ExprD qp0 qc1 l0]) (fun (nu1, u1_6, u1_5) => []) (N, 0,0) hm [6,5,0,1] rfl (asK [0] rfl) rfl (fun s_ hm => ?_)))))))
  obtain ⟨nu1, u1_6, u1_5⟩ := s_
  try dsimp only at hm ⊢
  obtain ⟨mu1, bu1, hnu1, hq, hLu1⟩ := iter_some hm
  clear hm
  subst hnu1
  replace hm := hq
  clear hq
  unfold m_ropewalkkit_ExprsOf_L1 at hm
  try dsimp only at hm
  refine wc_seq (wc_seq ?_)
  obtain ⟨bj_2, hm, hLj_2⟩ := bindO_some hm
  refine wc_cut (σ := Bool) (fun j_2_15 => bj_2 = j_2_15) (fun j_2_15 => [(6, .int .i64 ((u1_6 : Nat) : Int)), (5, .int .i64 u1_5), (0, .slice qp0 l0.length qc1), (1, .int .i64 a1), (15, .bool j_2_15)]) (fun j_2_15 => [.sli 7 R_Api_ExprD qp0 qc1 l0]) (fun j_2_15 => []) ?_ ?_
  ·
   refine wc_region (wP rfl (wP rfl (wN rfl tE_29 (wP rfl (wl_as (d := 10) (v' := .bool (decide (u1_6 < l0.length))) (S' := [_,_,_,_,_,_,_]) rfl rfl (natlt (a := u1_6) (b := l0.length)) (wP rfl ?_))))))
   refine wl_split (d := 11) (S' := [_,_,_,_,_,_,_,_]) rfl rfl (fun hs11 => ?_) (fun hs11 => ?_)
   ·
    replace hm := iteT hm hs11
    refine wP rfl (wP rfl (wP rfl (wP rfl (wl_nil ?_))))
    have hE := (Option.some.inj hm).symm
    refine we_join (decide (u1_5 ≤ a1)) hE [6,5,0,1,15] rfl (asK [0] rfl) rfl
   ·
    replace hm := iteF hm hs11
    refine wO rfl (wO rfl (wO rfl (wP rfl (wl_nil ?_))))
    have hE := (Option.some.inj hm).symm
    refine we_join false hE [6,5,0,1,15] rfl (asK [0] rfl) rfl
  ·
   rintro j_2_15 hE
   try dsimp only
   have hm := hLj_2
   rw [hE] at hm
   refine wc_cond rfl (fun hb15 => ?_) (fun hb15 => ?_)
   ·
    replace hm := iteT hm hb15
    refine wc_keep [6,5,0,1] (S' := [_,_,_,_]) rfl (wc_skip (we_then (wc_seq (wc_block (wc_region (wP rfl (wP rfl ?_)))))))
    obtain ⟨hg19, hm⟩ := gd_some hm
    refine wl_as (d := 19) (v' := .int .i64 (u1_5 + 1)) (S' := [_,_,_,_,_]) rfl rfl (i64_in hg19) (wP rfl (wP rfl ?_))
    obtain ⟨x22, hx22, hm⟩ := bindO_some hm
    refine wl_indexA 0 u1_6 rfl rfl rfl (freshS_eq rfl) rfl rfl rfl rfl rfl hx22 tE_29 tS_31 (fun b22 q22 cs22 hlx22 => (wl_open R_Api_ExprD_opens 1 rfl (fun r22 er22 _ => ?_)))
    subst er22
    refine wF rfl tF_31_4 (wl_load 1 6 rfl rfl rfl (freshS_eq rfl) rfl rfl rfl (cs := [_]) rfl tS_29 tA_29 rfl rfl (wP rfl (wP rfl (wP rfl ?_))))
    obtain ⟨hg27, hm⟩ := gd_some hm
    refine wl_as (d := 27) (v' := .int .i64 (a1 - u1_5)) (S' := [_,_,_,_,_,_,_,_,_,_,_,_,_]) rfl rfl (i64_in hg27) (wP rfl ?_)
    obtain ⟨hg28, hm⟩ := gd_some hm
    refine wl_as (d := 28) (v' := .int .i64 ((a1 - u1_5) - 1)) (S' := [_,_,_,_,_,_,_,_,_,_,_,_,_,_]) rfl rfl (i64_in hg28) ?_
    obtain ⟨v29, hc29, hm⟩ := bindO_some hm
    refine wC [] [] rfl fn_5 rfl (ih r22.1 r22.2 x22.kids ((a1 - u1_5) - 1) _ hc29) (asK [0] rfl) rfl (H' := []) rfl ?_
    rintro _ _ _ ⟨rfl, rfl, rfl⟩
    refine wP rfl ?_
    obtain ⟨hg30, hm⟩ := gd_some hm
    refine wl_as (d := 30) (v' := .int .i64 ((u1_5 + 1) + v29)) (S' := [_,_,_,_,_,_,_,_,_,_,_,_,_,_,_,_]) rfl rfl (i64_in hg30) (wl_pure (S' := [_,_,_,_,_,_,_,_,_,_,_,_,_,_,_,_]) rfl rfl rfl rfl rfl (wl_nil (we_block_normal (we_then (wc_keep [5,6,0,1] (S' := [_,_,_,_]) rfl (wc_region (wP rfl (wP rfl ?_))))))))
    obtain ⟨hg17, hm⟩ := gd_some hm
    refine wl_as (d := 17) (v' := .int .i64 ((u1_6 + 1 : Nat) : Int)) (S' := [_,_,_,_,_]) rfl rfl (nat_add (a := u1_6) (b := 1) hg17) (wl_pure (S' := [_,_,_,_,_]) rfl rfl rfl rfl rfl (wl_nil ?_))
    have hE := (Option.some.inj hm).symm
    replace hE := link_inl hLu1 hE
    refine we_roundK (_, u1_6 + 1, (u1_5 + 1) + v29) (Nat.lt_succ_self _) hE [6,5,0,1] rfl (asK [3] rfl) rfl
   ·
    replace hm := iteF hm hb15
    refine wc_keep [5,1] (S' := [_,_]) rfl (wc_exit (we_then_exit (we_then_exit (we_block_hit ?_))))
    have hE := (Option.some.inj hm).symm
    replace hE := link_inr hLu1 hE
    refine we_join u1_5 hE [1,5] rfl (asK [] rfl) rfl
 ·
  rintro j_1_5 hE
  try dsimp only
  have hm := hLj_1
  rw [hE] at hm
  refine wc_seq (wc_region (wP rfl (wP rfl (wP rfl ?_))))
  obtain ⟨hg33, hm⟩ := gd_some hm
  refine wl_as (d := 33) (v' := .int .i64 (a1 + 1)) (S' := [_,_,_,_]) rfl rfl (i64_in hg33) (wl_reck rfl rfl rfl (freshS_eq rfl) (rk_min rfl rfl rfl) (wP rfl (wl_nil (we_then (wc_keep [4] (S' := [_]) rfl (wc_ret ?_))))))
  have hE := (Option.some.inj hm).symm
  replace hE := hE.symm
  subst hE
  refine ret_one (Hr := []) [] Tryz.results5 (res_tmp rfl) ⟨rfl, rfl, rfl⟩ (asK [] rfl) rfl rfl (.inl rfl)
theorem w_ropewalkkit_ExprsOf_s : ∀ (N : Nat), ∀ (qp0 : Option Addr) (qc1 : Nat) (l0 : List Api_ExprD) (a1 : Int) (o0 : Int), m_ropewalkkit_ExprsOf N l0 a1 = some o0 → Spec Tryz.prog 5 [.slice qp0 l0.length qc1, .int .i64 a1] [.sli 7 R_Api_ExprD qp0 qc1 l0] [] (fun v Φr Hr => v = .int .i64 o0 ∧ Φr = [] ∧ Hr = []) := by
  intro N
  induction N with
  | zero => intro qp0 qc1 l0 a1 o0 hm; cases hm
  | succ N ih => intro qp0 qc1 l0 a1 o0 hm; exact w_ropewalkkit_ExprsOf_s_b N (m_ropewalkkit_ExprsOf N) ih qp0 qc1 l0 a1 o0 hm
theorem w_ropewalklaw10_num_s (N : Nat) (a0 : Int)  (hm : m_ropewalklaw10_num N a0 = some ()) : Spec Tryz.prog 21 [.int .i64 a0] [] [] (fun v Φr Hr => v = .agg #[.int .u8 1, .int .i64 a0, .string ((⟨#[]⟩ : ByteArray))] ∧ Φr = [] ∧ Hr = []) := by
 unfold m_ropewalklaw10_num at hm
 refine spec_of Tryz.func21 rfl Tryz.ntmps21 rfl (S := [_]) rfl (fun C => (wc_seq (wc_region (wl_alloc rfl rfl rfl (freshS_eq rfl) rfl tZ_27 rfl (fun g2 => (wl_nil (we_then (wc_seq (wc_region (wP rfl (wl_build rfl rfl rfl (freshS_eq rfl) rfl tZ_27 tP_27 rfl (out := [_,_,_]) rfl (wS 0 0 rfl tS_27 (all' := [_,_,_]) rfl (H' := [_]) rfl (wl_nil (we_then (wc_keep [2] (S' := [_]) rfl ?_)))))))))))))))
 refine wc_ret ?_
 have hE := (Option.some.inj hm).symm
 refine ret_one (Hr := []) [] Tryz.results21 (res_cell 0 rfl rfl tS_27 tA_27 rfl rfl) ⟨rfl, rfl, rfl⟩ (asK [] rfl) rfl rfl (.inl rfl)
theorem w_pattern_New_s (N : Nat) (a0 : Int) (o2 : List Bool) (o6 : List V) (hm : m_pattern_New N a0 = some (o2, o6)) : Spec Tryz.prog 19 [.int .i64 a0] [] [] (fun v Φr Hr => ∃ (o0 : Option Addr) (o1 : Nat) (o3 : Nat) (o4 : Option Addr) (o5 : Nat) (o7 : Nat), v = .agg #[.slice o0 o3 o1, .slice o4 o7 o5] ∧ Φr = [] ∧ Hr = [.own 4 1 R_bool (.slice o0 o3 o1) o2, .own 27 3 R_V (.slice o4 o7 o5) o6]) := by
 unfold m_pattern_New at hm
 refine spec_of Tryz.func19 rfl Tryz.ntmps19 rfl (S := [_]) rfl (fun C => (wc_seq (wc_region (wl_alloc rfl rfl rfl (freshS_eq rfl) rfl tZ_44 rfl (fun g2 => (wl_nil (we_then (wc_seq (wc_seq ?_)))))))))
 obtain ⟨bj_1, hm, hLj_1⟩ := bindO_some hm
 refine wc_cut (σ := Bool) (fun j_1_8 => bj_1 = j_1_8) (fun j_1_8 => [(0, .int .i64 a0), (2, .pointer (some ⟨g2,0, none⟩)), (8, .bool j_1_8)]) (fun j_1_8 => []) (fun j_1_8 => [.blk g2 [.slice none 0 0, .slice none 0 0] 44]) ?_ ?_
 ·
  refine wc_region (wP rfl (wP rfl (wP rfl ?_)))
  refine wl_split (d := 5) (S' := [_,_,_,_]) rfl rfl (fun hs5 => ?_) (fun hs5 => ?_)
  ·
   replace hm := iteT hm hs5
   refine wO rfl (wO rfl (wP rfl (wl_nil ?_)))
   have hE := (Option.some.inj hm).symm
   refine we_join true hE [0,2,8] rfl (asK [] rfl) rfl
  ·
   replace hm := iteF hm hs5
   refine wP rfl (wP rfl (wP rfl (wl_nil ?_)))
   have hE := (Option.some.inj hm).symm
   refine we_join (decide (a0 > 16)) hE [0,2,8] rfl (asK [] rfl) rfl
 ·
  rintro j_1_8 hE
  try dsimp only
  have hm := hLj_1
  rw [hE] at hm
  refine wc_cond rfl (fun hb8 => ?_) (fun hb8 => ?_)
  ·
   replace hm := iteT hm hb8
   refine wc_keep [2] (S' := [_]) rfl (wc_seq (wc_region (wl_build rfl rfl rfl (freshS_eq rfl) rfl tZ_44 tP_44 rfl (out := [_,_]) rfl (wS 0 0 rfl tS_44 (all' := [_,_]) rfl (H' := [_]) rfl (wl_nil (we_then (wc_keep [2] (S' := [_]) rfl (wc_ret (we_then_ret ?_)))))))))
   have hE := (Option.some.inj hm).symm
   obtain ⟨hE0, hE1⟩ := Prod.mk.inj hE
   clear hE
   replace hE0 := hE0.symm
   subst hE0
   replace hE1 := hE1.symm
   subst hE1
   refine we_rowNil 4 1 R_bool (we_rowNil 27 3 R_V ?_)
   refine ret_one (Hr := [_,_]) [1,0] Tryz.results19 (res_cell 2 rfl rfl tS_44 tA_44 rfl rfl) ⟨none, 0,0, none, 0,0, rfl, rfl, rfl⟩ (asK [] rfl) rfl rfl (.inl rfl)
  ·
   replace hm := iteF hm hb8
   refine wc_keep [0,2] (S' := [_,_]) rfl (wc_skip (we_then (wc_seq ?_)))
   obtain ⟨hn11, hm⟩ := gd_some hm
   obtain ⟨hg11, hm⟩ := gd_some hm
   obtain ⟨hn13, hm⟩ := gd_some hm
   obtain ⟨hg13, hm⟩ := gd_some hm
   refine wc_cut (σ := (Option Addr) × (Option Addr)) (fun _ => True) (fun (w_2_2_f0_p, w_2_2_f1_p) => [(2, .pointer (some ⟨g2,0, none⟩))]) (fun (w_2_2_f0_p, w_2_2_f1_p) => []) (fun (w_2_2_f0_p, w_2_2_f1_p) => [.blk g2 [.slice w_2_2_f0_p a0.toNat a0.toNat, .slice w_2_2_f1_p a0.toNat a0.toNat] 44, .own 4 1 R_bool (.slice w_2_2_f0_p a0.toNat a0.toNat) (List.replicate a0.toNat false), .own 27 3 R_V (.slice w_2_2_f1_p a0.toNat a0.toNat) (List.replicate a0.toNat (⟨0,0, (⟨#[]⟩ : ByteArray)⟩ : V))]) ?_ ?_
   ·
    refine wc_draw [0,2,4] rfl rfl (fun hok => (xP hok 0 rfl (xP hok 2 rfl ?_)))
    refine wx_step2 hok 1 3 rfl rfl rfl rfl rfl rfl ?_ ?_
    ·
     refine wl_makeSlice (m := a0.toNat) R_bool false rfl rfl rfl (freshS_eq rfl) rfl rfl rfl (toNat_eq hn11) (toNat_eq hn11) tE_37 tR_4 rfl rfl (fun _ _ => ⟨(), rfl, ask_nil⟩) (Nat.le_trans (Nat.mul_le_mul_left _ hg11) (by decide)) (Nat.le_trans hg11 (by decide)) (fun g11 => (wl_nil (we_x [] [] rfl rfl (xS hok 3 rfl (wl_makeSlice (m := a0.toNat) R_V (⟨0,0, (⟨#[]⟩ : ByteArray)⟩ : V) rfl rfl rfl (freshS_eq rfl) rfl rfl rfl (toNat_eq hn13) (toNat_eq hn13) tE_34 tR_27 rfl rfl (fun _ _ => ⟨(), rfl, ask_nil⟩) (Nat.le_trans (Nat.mul_le_mul_left _ hg13) (by decide)) (Nat.le_trans hg13 (by decide)) (fun g13 => (wl_nil (we_x [] [] rfl rfl (wx_build hok 4 rfl rfl rfl (freshS_eq rfl) rfl rfl tZ_44 tP_44 rfl (out := [_,_]) rfl (xS hok 5 rfl (wS 2 0 rfl tS_44 (all' := [_,_]) rfl (H' := [_,_,_]) rfl (wl_nil (we_x [] [] rfl rfl (wx_done hok rfl (we_pick [2,1,0] rfl (H' := [_,_,_]) rfl ?_)))))))))))))))
     refine we_join (some ⟨g11,0, none⟩, some ⟨g13,0, none⟩) trivial [2] rfl (asK [] rfl) rfl
    ·
     refine wl_makeSlice (m := a0.toNat) R_V (⟨0,0, (⟨#[]⟩ : ByteArray)⟩ : V) rfl rfl rfl (freshS_eq rfl) rfl rfl rfl (toNat_eq hn13) (toNat_eq hn13) tE_34 tR_27 rfl rfl (fun _ _ => ⟨(), rfl, ask_nil⟩) (Nat.le_trans (Nat.mul_le_mul_left _ hg13) (by decide)) (Nat.le_trans hg13 (by decide)) (fun g13 => (wl_nil (we_x [] [] rfl rfl (xS hok 1 rfl (wl_makeSlice (m := a0.toNat) R_bool false rfl rfl rfl (freshS_eq rfl) rfl rfl rfl (toNat_eq hn11) (toNat_eq hn11) tE_37 tR_4 rfl rfl (fun _ _ => ⟨(), rfl, ask_nil⟩) (Nat.le_trans (Nat.mul_le_mul_left _ hg11) (by decide)) (Nat.le_trans hg11 (by decide)) (fun g11 => (wl_nil (we_x [] [] rfl rfl (wx_build hok 4 rfl rfl rfl (freshS_eq rfl) rfl rfl tZ_44 tP_44 rfl (out := [_,_]) rfl (xS hok 5 rfl (wS 2 0 rfl tS_44 (all' := [_,_]) rfl (H' := [_,_,_]) rfl (wl_nil (we_x [] [] rfl rfl (wx_done hok rfl (we_pick [2,0,1] rfl (H' := [_,_,_]) rfl ?_)))))))))))))))
     refine we_join (some ⟨g11,0, none⟩, some ⟨g13,0, none⟩) trivial [2] rfl (asK [] rfl) rfl
   ·
    rintro ⟨w_2_2_f0_p, w_2_2_f1_p⟩ _
    try dsimp only
    refine wc_ret ?_
    have hE := (Option.some.inj hm).symm
    obtain ⟨hE0, hE1⟩ := Prod.mk.inj hE
    clear hE
    replace hE0 := hE0.symm
    subst hE0
    replace hE1 := hE1.symm
    subst hE1
    refine ret_one (Hr := [_,_]) [1,2] Tryz.results19 (res_cell 0 rfl rfl tS_44 tA_44 rfl rfl) ⟨w_2_2_f0_p, a0.toNat, a0.toNat, w_2_2_f1_p, a0.toNat, a0.toNat, rfl, rfl, rfl⟩ (asK [] rfl) rfl rfl (.inl rfl)
theorem w_pattern_Env_made_s (N : Nat) (qp0 : Option Addr) (qc1 : Nat) (l0 : List Bool) (qp2 : Option Addr) (qc3 : Nat) (l1 : List V) (o0 : Bool) (hm : m_pattern_Env_made N l0 l1 = some o0) : Spec Tryz.prog 26 [.agg #[.slice qp0 l0.length qc1, .slice qp2 l1.length qc3]] [.sli 1 R_bool qp0 qc1 l0, .sli 3 R_V qp2 qc3 l1] [] (fun v Φr Hr => v = .bool o0 ∧ Φr = [] ∧ Hr = []) := by
 unfold m_pattern_Env_made at hm
 refine spec_of Tryz.func26 rfl Tryz.ntmps26 rfl (S := [_]) rfl (fun C => (wc_seq (wc_region (wB rfl (fun g1 => (wP rfl (wl_nil (we_then (wc_keep [1] (S' := [_]) rfl (wc_seq (wc_seq (wc_region (wF rfl tF_44_0 (wD 0 0 rfl tS_37 tA_37 rfl (wN rfl tE_37 ?_)))))))))))))))
 refine wF rfl tF_44_1 (wD 0 1 rfl tS_34 tA_34 rfl (wN rfl tE_34 (wP rfl (wl_as (d := 11) (v' := .bool (l0.length != l1.length)) (S' := [_,_,_,_,_,_,_]) rfl rfl (natne (a := l0.length) (b := l1.length)) (wl_nil (we_then (wc_keep [11,1] (S' := [_,_]) rfl ?_)))))))
 refine wc_cond rfl (fun hb11 => ?_) (fun hb11 => ?_)
 ·
  replace hm := iteT hm hb11
  refine wc_keep [] (S' := []) rfl (wc_seq (wc_region (wP rfl (wl_nil (we_then (wc_ret (we_then_ret ?_)))))))
  have hE := (Option.some.inj hm).symm
  replace hE := hE.symm
  subst hE
  refine ret_one (Hr := []) [] Tryz.results26 (res_tmp rfl) ⟨rfl, rfl, rfl⟩ (asK [] rfl) rfl rfl (.inl rfl)
 ·
  replace hm := iteF hm hb11
  refine wc_keep [1] (S' := [_]) rfl (wc_skip (we_then (wc_seq ?_)))
  obtain ⟨bj_1, hm, hLj_1⟩ := bindS_some hm
  refine wc_cut (σ := Unit) (fun _ => bj_1 = .inl ()) (fun _ => []) (fun _ => []) (fun _ => []) ?_ ?_
  ·
   refine wc_seq (wc_region (wF rfl tF_44_0 (wD 0 0 rfl tS_37 tA_37 rfl (wN rfl tE_37 (wP rfl (wl_nil (we_then (wc_keep [15,14,13,1] (S' := [_,_,_,_]) rfl (wc_block (wc_loop (σ := Nat × Nat) (fun (nu1, u1_15) => iter (m_pattern_Env_made_L1 N l0 l1) nu1 u1_15 = some bj_1) (fun (nu1, u1_15) => nu1) (fun (nu1, u1_15) => [(15, .int .i64 ((u1_15 : Nat) : Int)), (14, .int .i64 ((l0.length : Nat) : Int)), (13, .slice qp0 l0.length qc1), (1, .pointer (some ⟨g1,0, none⟩))]) (fun (nu1, u1_15) => [.sli 1 R_bool qp0 qc1 l0, .sli 3 R_V qp2 qc3 l1]) (fun (nu1, u1_15) => [.blk g1 [.slice qp0 l0.length qc1, .slice qp2 l1.length qc3] 44]) (N, 0) hm [15,14,13,1] rfl (asK [0,1] rfl) rfl (fun s_ hm => ?_)))))))))))
   obtain ⟨nu1, u1_15⟩ := s_
   try dsimp only at hm ⊢
   obtain ⟨mu1, bu1, hnu1, hq, hLu1⟩ := iter_some hm
   clear hm
   subst hnu1
   replace hm := hq
   clear hq
   unfold m_pattern_Env_made_L1 at hm
   try dsimp only at hm
   refine wc_seq (wc_region (wP rfl (wl_as (d := 16) (v' := .bool (decide (u1_15 < l0.length))) (S' := [_,_,_,_]) rfl rfl (natlt (a := u1_15) (b := l0.length)) (wl_nil (we_then (wc_seq ?_))))))
   refine wc_cond rfl (fun hb16 => ?_) (fun hb16 => ?_)
   ·
    replace hm := iteT hm hb16
    refine wc_keep [15,14,13,1] (S' := [_,_,_,_]) rfl (wc_skip (we_then (wc_seq (wc_block (wc_seq (wc_region (wP rfl ?_)))))))
    obtain ⟨x18, hx18, hm⟩ := bindO_some hm
    refine wl_indexA 0 u1_15 rfl rfl rfl (freshS_eq rfl) rfl rfl rfl rfl rfl hx18 tE_37 tS_4 (fun b18 q18 cs18 hlx18 => (wl_open R_bool_opens 1 rfl (fun r18 er18 _ => ?_)))
    subst er18
    refine wl_load 0 0 rfl rfl rfl (freshS_eq rfl) rfl rfl rfl (cs := [_]) rfl tS_4 tA_4 rfl rfl (wP rfl (wP rfl (wl_nil (we_then (wc_keep [4,3,15,14,13,1] (S' := [_,_,_,_,_,_]) rfl (wc_seq ?_))))))
    obtain ⟨bj_2, hm, hLj_2⟩ := bindO_some hm
    refine wc_cut (σ := Bool) (fun j_2_30 => bj_2 = j_2_30) (fun j_2_30 => [(15, .int .i64 ((u1_15 : Nat) : Int)), (14, .int .i64 ((l0.length : Nat) : Int)), (13, .slice qp0 l0.length qc1), (1, .pointer (some ⟨g1,0, none⟩)), (30, .bool j_2_30)]) (fun j_2_30 => [.sli 1 R_bool qp0 qc1 l0, .sli 3 R_V qp2 qc3 l1]) (fun j_2_30 => [.blk g1 [.slice qp0 l0.length qc1, .slice qp2 l1.length qc3] 44]) ?_ ?_
    ·
     refine wc_region (wP rfl (wP rfl (wP rfl ?_)))
     refine wl_split (d := 22) (S' := [_,_,_,_,_,_,_,_]) rfl rfl (fun hs22 => ?_) (fun hs22 => ?_)
     ·
      replace hm := iteT hm hs22
      refine wF rfl tF_44_1 (wD 0 1 rfl tS_34 tA_34 rfl (wP rfl ?_))
      obtain ⟨x26, hx26, hm⟩ := bindO_some hm
      refine wl_indexA 3 u1_15 rfl rfl rfl (freshS_eq rfl) rfl rfl rfl rfl rfl hx26 tE_34 tS_27 (fun b26 q26 cs26 hlx26 => (wl_open R_V_opens 1 rfl (fun r26 er26 _ => ?_)))
      subst er26
      refine wl_load 0 0 rfl rfl rfl (freshS_eq rfl) rfl rfl rfl (cs := [_,_,_]) rfl tS_27 tA_27 rfl rfl (wl_build rfl rfl rfl (freshS_eq rfl) rfl tZ_27 tP_27 rfl (out := [_,_,_]) rfl (wl_bin rfl rfl rfl (freshS_eq rfl) rfl rfl rfl (neqV _ _ x26 (⟨0,0, (⟨#[]⟩ : ByteArray)⟩ : V)) (wP rfl (wl_nil ?_))))
      have hE := (Option.some.inj hm).symm
      refine we_join (!decide (x26 = (⟨0,0, (⟨#[]⟩ : ByteArray)⟩ : V))) hE [15,14,13,1,30] rfl (asK [4,5] rfl) rfl
     ·
      replace hm := iteF hm hs22
      refine wO rfl (wO rfl (wO rfl (wO rfl (wO rfl (wO rfl (wO rfl (wP rfl (wl_nil ?_))))))))
      have hE := (Option.some.inj hm).symm
      refine we_join false hE [15,14,13,1,30] rfl (asK [2,3] rfl) rfl
    ·
     rintro j_2_30 hE
     try dsimp only
     have hm := hLj_2
     rw [hE] at hm
     refine wc_cond rfl (fun hb30 => ?_) (fun hb30 => ?_)
     ·
      replace hm := iteT hm hb30
      refine wc_keep [] (S' := []) rfl (wc_seq (wc_region (wP rfl (wl_nil (we_then (wc_ret (we_block_ret (we_then_ret (we_then_ret (we_block_ret (we_then_ret ?_)))))))))))
      have hE := (Option.some.inj hm).symm
      replace hE := link_inr hLu1 hE
      replace hE := link_inr hLj_1 hE
      replace hE := hE.symm
      subst hE
      refine ret_one (Hr := []) [] Tryz.results26 (res_tmp rfl) ⟨rfl, rfl, rfl⟩ (asK [] rfl) rfl rfl (.inl rfl)
     ·
      replace hm := iteF hm hb30
      refine wc_keep [15,14,13,1] (S' := [_,_,_,_]) rfl (wc_skip (we_block_normal (we_then (wc_region (wP rfl ?_)))))
      obtain ⟨hg31, hm⟩ := gd_some hm
      refine wl_as (d := 31) (v' := .int .i64 ((u1_15 + 1 : Nat) : Int)) (S' := [_,_,_,_]) rfl rfl (nat_add (a := u1_15) (b := 1) hg31) (wl_pure (S' := [_,_,_,_]) rfl rfl rfl rfl rfl (wl_nil ?_))
      have hE := (Option.some.inj hm).symm
      replace hE := link_inl hLu1 hE
      refine we_roundK (_, u1_15 + 1) (Nat.lt_succ_self _) hE [15,14,13,1] rfl (asK [0,1] rfl) rfl
   ·
    replace hm := iteF hm hb16
    refine wc_keep [] (S' := []) rfl (wc_exit (we_then_exit (we_then_exit (we_block_hit ?_))))
    have hE := (Option.some.inj hm).symm
    replace hE := link_inr hLu1 hE
    refine we_pick [] rfl (H' := []) rfl ?_
    refine we_join () hE [] rfl (asK [] rfl) rfl
  ·
   rintro _ hE
   try dsimp only
   have hm := link_inl hLj_1 hE
   try dsimp only at hm
   refine wc_seq (wc_region (wP rfl (wl_nil (we_then (wc_ret ?_)))))
   have hE := (Option.some.inj hm).symm
   replace hE := hE.symm
   subst hE
   refine ret_one (Hr := []) [] Tryz.results26 (res_tmp rfl) ⟨rfl, rfl, rfl⟩ (asK [] rfl) rfl rfl (.inl rfl)
theorem Clone43f_s (p : Option Addr) (c : Nat) (l : List Bool) (hb : l.length ≤ 140737488355328) : Spec Tryz.prog 43 [.slice p l.length c] [.sli 1 R_bool p c l] [] (fun v Φr Hr => ∃ p' c', v = .slice p' l.length c' ∧ Φr = [] ∧ Hr = [.own 4 1 R_bool v l]) := by
 refine spec_of Tryz.func43 rfl Tryz.ntmps43 rfl (S := [_]) rfl (fun C => (wc_know (fun F w h => sli_nil (h _ (mem_at (k := 0) rfl))) (fun isnil => (wc_seq (wc_region (wP rfl (wl_nil (we_then (wc_seq (wc_seq (wc_region (wP rfl (wl_eqlNil rfl rfl rfl (freshS_eq rfl) rfl rfl rfl tE_37 (wl_nil (we_then ?_)))))))))))))))
 refine wc_keep [4,2,0] (S' := [_,_,_]) rfl ?_
 refine wc_cond rfl (fun h4 => ?_) (fun h4 => ?_)
 ·
  replace h4 := isNone_true h4
  obtain rfl := isnil h4
  subst h4
  refine wc_rowNil 4 1 R_bool (wc_seq (wc_region (wl_pure (S' := [_,_]) rfl rfl rfl rfl rfl (wl_nil (we_then (wc_ret (we_then_ret (ret_one (Hr := [.own 4 1 R_bool (.slice none 0 0) []]) [0] Tryz.results43 (res_tmp rfl) ?_ (asK [] rfl) rfl rfl (.inl rfl)))))))))
  exact ⟨none, 0, rfl, rfl, rfl⟩
 ·
  replace h4 := isNone_false h4
  refine wc_skip (we_then (wc_seq (wc_region (wl_buildSlice rfl rfl rfl (freshS_eq rfl) rfl tE_37 tS_4 tZ_4 rfl (zs := []) (by kernel_rfl) rfl (out := []) rfl (fun g5 => (wP rfl (wl_row (sz := 1) (m := 0) R_bool [] 0 rfl (fun F w hφ => rfl) rfl (by decide) (H' := [_]) rfl (wl_append 0 0 rfl rfl rfl (freshS_eq rfl) rfl rfl rfl rfl rfl tE_37 tR_4 rfl rfl (by simp; omega) (by simp; omega) (H2 := fun p7 c7 => [.own 4 1 R_bool (.slice p7 (l).length c7) l]) (fun _ _ => rfl) (fun p7 c7 => (wl_pure (S' := [_,_,_,_,_]) rfl rfl rfl rfl rfl (wl_nil (we_then (wc_keep [2,4,0] (S' := [_,_,_]) rfl (wc_ret (ret_one (Hr := [.own 4 1 R_bool (.slice p7 (l).length c7) l]) [0] Tryz.results43 (res_tmp rfl) ?_ (asK [] rfl) rfl rfl (.inl rfl))))))))))))))))
  exact ⟨_,_, rfl, rfl, rfl⟩
theorem Clone44f_s (p : Option Addr) (c : Nat) (l : List V) (hb : l.length ≤ 4398046511104) : Spec Tryz.prog 44 [.slice p l.length c] [.sli 3 R_V p c l] [] (fun v Φr Hr => ∃ p' c', v = .slice p' l.length c' ∧ Φr = [] ∧ Hr = [.own 27 3 R_V v l]) := by
 refine spec_of Tryz.func44 rfl Tryz.ntmps44 rfl (S := [_]) rfl (fun C => (wc_know (fun F w h => sli_nil (h _ (mem_at (k := 0) rfl))) (fun isnil => (wc_seq (wc_region (wP rfl (wl_nil (we_then (wc_seq (wc_seq (wc_region (wP rfl (wl_eqlNil rfl rfl rfl (freshS_eq rfl) rfl rfl rfl tE_34 (wl_nil (we_then ?_)))))))))))))))
 refine wc_keep [4,2,0] (S' := [_,_,_]) rfl ?_
 refine wc_cond rfl (fun h4 => ?_) (fun h4 => ?_)
 ·
  replace h4 := isNone_true h4
  obtain rfl := isnil h4
  subst h4
  refine wc_rowNil 27 3 R_V (wc_seq (wc_region (wl_pure (S' := [_,_]) rfl rfl rfl rfl rfl (wl_nil (we_then (wc_ret (we_then_ret (ret_one (Hr := [.own 27 3 R_V (.slice none 0 0) []]) [0] Tryz.results44 (res_tmp rfl) ?_ (asK [] rfl) rfl rfl (.inl rfl)))))))))
  exact ⟨none, 0, rfl, rfl, rfl⟩
 ·
  replace h4 := isNone_false h4
  refine wc_skip (we_then (wc_seq (wc_region (wl_buildSlice rfl rfl rfl (freshS_eq rfl) rfl tE_34 tS_27 tZ_27 rfl (zs := []) (by kernel_rfl) rfl (out := []) rfl (fun g5 => (wP rfl (wl_row (sz := 3) (m := 0) R_V [] 0 rfl (fun F w hφ => rfl) rfl (by decide) (H' := [_]) rfl (wl_append 0 0 rfl rfl rfl (freshS_eq rfl) rfl rfl rfl rfl rfl tE_34 tR_27 rfl rfl (by simp; omega) (by simp; omega) (H2 := fun p7 c7 => [.own 27 3 R_V (.slice p7 (l).length c7) l]) (fun _ _ => rfl) (fun p7 c7 => (wl_pure (S' := [_,_,_,_,_]) rfl rfl rfl rfl rfl (wl_nil (we_then (wc_keep [2,4,0] (S' := [_,_,_]) rfl (wc_ret (ret_one (Hr := [.own 27 3 R_V (.slice p7 (l).length c7) l]) [0] Tryz.results44 (res_tmp rfl) ?_ (asK [] rfl) rfl rfl (.inl rfl))))))))))))))))
  exact ⟨_,_, rfl, rfl, rfl⟩
theorem w_pattern_of_s (N : Nat) (qp0 : Option Addr) (qc1 : Nat) (l0 : List Bool) (qp2 : Option Addr) (qc3 : Nat) (l1 : List V)  (hm : m_pattern_of N l0 l1 = some ()) : Spec Tryz.prog 27 [.agg #[.slice qp0 l0.length qc1, .slice qp2 l1.length qc3]] [.sli 1 R_bool qp0 qc1 l0, .sli 3 R_V qp2 qc3 l1] [] (fun v Φr Hr => ∃ (o0 : Option Addr) (o1 : Nat) (o2 : Option Addr) (o3 : Nat), v = .agg #[.slice o0 l0.length o1, .slice o2 l1.length o3] ∧ Φr = [] ∧ Hr = [.own 4 1 R_bool (.slice o0 l0.length o1) l0, .own 27 3 R_V (.slice o2 l1.length o3) l1]) := by
 unfold m_pattern_of at hm
 refine spec_of Tryz.func27 rfl Tryz.ntmps27 rfl (S := [_]) rfl (fun C => (wc_seq (wc_region (wB rfl (fun g1 => (wl_alloc rfl rfl rfl (freshS_eq rfl) rfl tZ_70 rfl (fun g2 => (wl_nil (we_then (wc_keep [2,1] (S' := [_,_]) rfl (wc_seq ?_)))))))))))
 obtain ⟨hg5, hm⟩ := gd_some hm
 obtain ⟨hg8, hm⟩ := gd_some hm
 refine wc_draw [0,1,3,4,6,7] rfl rfl (fun hok => (wx_fieldAddr hok 0 rfl rfl rfl (freshS_eq rfl) rfl rfl rfl tF_44_0 (wx_loadH hok 1 1 0 rfl rfl rfl (freshS_eq rfl) rfl rfl rfl rfl (cs := [_]) rfl tS_37 tA_37 rfl rfl (wx_fieldAddr hok 3 rfl rfl rfl (freshS_eq rfl) rfl rfl rfl tF_44_1 (wx_loadH hok 4 1 1 rfl rfl rfl (freshS_eq rfl) rfl rfl rfl rfl (cs := [_]) rfl tS_34 tA_34 rfl rfl (xS hok 2 rfl (wC [] [0,1] rfl fn_43 rfl (Clone43f_s qp0 qc1 l0 hg5) (asK [0] rfl) rfl (H' := [_,_]) rfl ?_)))))))
 rintro _ _ _ ⟨p5, c5, rfl, rfl, rfl⟩
 refine wl_nil (we_x [0,1] [2] rfl rfl (xS hok 5 rfl (wC [] [0,1,2] rfl fn_44 rfl (Clone44f_s qp2 qc3 l1 hg8) (asK [1] rfl) rfl (H' := [_,_,_]) rfl ?_)))
 rintro _ _ _ ⟨p8, c8, rfl, rfl, rfl⟩
 refine wl_nil (we_x [0,1] [3] rfl rfl (wx_build hok 6 rfl rfl rfl (freshS_eq rfl) rfl rfl tZ_44 tP_44 rfl (out := [_,_]) rfl (wx_build hok 7 rfl rfl rfl (freshS_eq rfl) rfl rfl tZ_70 tP_70 rfl (out := [_,_]) rfl (xS hok 8 rfl (wS 2 0 rfl tS_70 (all' := [_,_]) rfl (H' := [_,_,_,_]) rfl (wl_nil (we_x [0,1] [] rfl rfl (wx_done hok rfl (we_then (wc_keep [2] (S' := [_]) rfl (wc_ret ?_)))))))))))
 have hE := (Option.some.inj hm).symm
 refine ret_one (Hr := [_,_]) [1,0] Tryz.results27 (res_cell 2 rfl rfl tS_70 tA_70 rfl rfl) ⟨p5, c5, p8, c8, rfl, rfl, rfl⟩ (asK [] rfl) rfl rfl (.inl rfl)
theorem w_pattern_fill_arg_v2_s (N : Nat) (qp0 : Option Addr) (qn1 : Nat) (qc2 : Nat) (l0 : List Bool) (qp3 : Option Addr) (qn4 : Nat) (qc5 : Nat) (l1 : List V) (a2 : Int) (a3 : Int) (a4 : Int) (a5 : Int) (a6 : ByteArray) (a7 : Int) (a8 : Int) (a9 : ByteArray) (o0 : Bool) (o1 : List Bool) (o2 : List V) (hm : m_pattern_fill_arg_v2 N l0 l1 a2 a3 a4 a5 a6 a7 a8 a9 = some (o0, o1, o2)) : Spec Tryz.prog 28 [.agg #[.slice qp0 qn1 qc2, .slice qp3 qn4 qc5], .agg #[.int .u8 a2, .int .i64 a3, .int .u8 a4, .int .i64 a5, .string a6], .agg #[.int .u8 a7, .int .i64 a8, .string a9]] [] [.own 4 1 R_bool (.slice qp0 qn1 qc2) l0, .own 27 3 R_V (.slice qp3 qn4 qc5) l1] (fun v Φr Hr => v = .bool o0 ∧ Φr = [] ∧ Hr = [.own 4 1 R_bool (.slice qp0 qn1 qc2) o1, .own 27 3 R_V (.slice qp3 qn4 qc5) o2]) := by
 unfold m_pattern_fill_arg_v2 at hm
 refine spec_of Tryz.func28 rfl Tryz.ntmps28 rfl (S := [_,_,_]) rfl (fun C => (wc_seq (wc_region (wB rfl (fun g3 => (wB rfl (fun g4 => (wB rfl (fun g5 => (wP rfl (wl_nil (we_then (wc_keep [5,4,3] (S' := [_,_,_]) rfl (wc_seq ?_))))))))))))))
 obtain ⟨bj_1, hm, hLj_1⟩ := bindO_some hm
 refine wc_cut (σ := Bool) (fun j_1_7 => bj_1 = j_1_7) (fun j_1_7 => [(5, .pointer (some ⟨g5,0, none⟩)), (4, .pointer (some ⟨g4,0, none⟩)), (3, .pointer (some ⟨g3,0, none⟩)), (7, .bool j_1_7)]) (fun j_1_7 => []) (fun j_1_7 => [.blk g5 [.int .u8 a7, .int .i64 a8, .string a9] 27, .blk g4 [.int .u8 a2, .int .i64 a3, .int .u8 a4, .int .i64 a5, .string a6] 64, .blk g3 [.slice qp0 qn1 qc2, .slice qp3 qn4 qc5] 70, .own 4 1 R_bool (.slice qp0 qn1 qc2) l0, .own 27 3 R_V (.slice qp3 qn4 qc5) l1]) ?_ ?_
 ·
  refine wc_region (wF rfl tF_64_1 (wD 1 1 rfl tS_3 tA_3 rfl (wP rfl (wP rfl ?_))))
  refine wl_split (d := 11) (S' := [_,_,_,_,_,_]) rfl rfl (fun hs11 => ?_) (fun hs11 => ?_)
  ·
   replace hm := iteT hm hs11
   refine wF rfl tF_64_1 (wD 1 1 rfl tS_3 tA_3 rfl (wF rfl tF_70_0 (wF rfl tF_44_0 (wD 2 0 rfl tS_37 tA_37 rfl (wl_ownLen 3 rfl (fun hl17 _ => (wN rfl tE_37 (wl_as (d := 17) (v' := .int .i64 ((l0.length : Nat) : Int)) (S' := [_,_,_,_,_,_,_,_,_,_,_,_]) rfl rfl (len_is hl17) (wP rfl (wP rfl (wP rfl (wl_nil ?_))))))))))))
   have hE := (Option.some.inj hm).symm
   refine we_join (decide (a3 < ((l0.length : Nat) : Int))) hE [5,4,3,7] rfl (asK [] rfl) rfl
  ·
   replace hm := iteF hm hs11
   refine wO rfl (wO rfl (wO rfl (wO rfl (wO rfl (wO rfl (wO rfl (wP rfl (wP rfl (wl_nil ?_)))))))))
   have hE := (Option.some.inj hm).symm
   refine we_join false hE [5,4,3,7] rfl (asK [] rfl) rfl
 ·
  rintro j_1_7 hE
  try dsimp only
  have hm := hLj_1
  rw [hE] at hm
  refine wc_seq (wc_seq (wc_region (wF rfl tF_64_0 (wD 1 0 rfl tS_62 tA_62 rfl (wl_nil (we_then (wc_keep [21,5,4,3,7] (S' := [_,_,_,_,_]) rfl (wc_block (wc_seq (wc_region (wP rfl (wP rfl (wl_nil ?_)))))))))))))
  refine we_then (wc_keep [22,21,5,4,3,7] (S' := [_,_,_,_,_,_]) rfl ?_)
  refine wc_cond rfl (fun hb22 => ?_) (fun hb22 => ?_)
  ·
   replace hm := iteT hm hb22
   refine wc_keep [] (S' := []) rfl (wc_seq (wc_region (wP rfl (wl_nil (we_then (wc_ret (we_block_ret (we_then_ret ?_))))))))
   have hE := (Option.some.inj hm).symm
   obtain ⟨hE0, hF1⟩ := Prod.mk.inj hE
   obtain ⟨hE1, hE2⟩ := Prod.mk.inj hF1
   clear hE hF1
   replace hE0 := hE0.symm
   subst hE0
   replace hE1 := hE1.symm
   subst hE1
   replace hE2 := hE2.symm
   subst hE2
   refine ret_one (Hr := [_,_]) [3,4] Tryz.results28 (res_tmp rfl) ⟨rfl, rfl, rfl⟩ (asK [] rfl) rfl rfl (.inl rfl)
  ·
   replace hm := iteF hm hb22
   refine wc_keep [21,5,4,3,7] (S' := [_,_,_,_,_]) rfl (wc_seq (wc_region (wP rfl (wP rfl (wl_nil (we_then (wc_keep [24,21,5,4,3,7] (S' := [_,_,_,_,_,_]) rfl ?_)))))))
   refine wc_cond rfl (fun hb24 => ?_) (fun hb24 => ?_)
   ·
    replace hm := iteT hm hb24
    refine wc_keep [5,4] (S' := [_,_]) rfl (wc_seq (wc_region (wF rfl tF_64_2 (wl_loadH 1 2 rfl rfl rfl (freshS_eq rfl) rfl rfl rfl (cs := [_,_,_]) rfl tS_27 tA_27 rfl rfl (wl_loadH 0 0 rfl rfl rfl (freshS_eq rfl) rfl rfl rfl (cs := [_,_,_]) rfl tS_27 tA_27 rfl rfl (wl_bin rfl rfl rfl (freshS_eq rfl) rfl rfl rfl (eqlV _ _ (⟨a4, a5, a6⟩ : V) (⟨a7, a8, a9⟩ : V)) (wP rfl (wl_nil (we_then (wc_keep [6] (S' := [_]) rfl (wc_ret (we_block_ret (we_then_ret ?_)))))))))))))
    have hE := (Option.some.inj hm).symm
    obtain ⟨hE0, hF1⟩ := Prod.mk.inj hE
    obtain ⟨hE1, hE2⟩ := Prod.mk.inj hF1
    clear hE hF1
    replace hE0 := hE0.symm
    subst hE0
    replace hE1 := hE1.symm
    subst hE1
    replace hE2 := hE2.symm
    subst hE2
    refine ret_one (Hr := [_,_]) [3,4] Tryz.results28 (res_tmp rfl) ⟨rfl, rfl, rfl⟩ (asK [] rfl) rfl rfl (.inl rfl)
   ·
    replace hm := iteF hm hb24
    refine wc_keep [21,5,4,3,7] (S' := [_,_,_,_,_]) rfl (wc_seq (wc_region (wP rfl (wP rfl (wl_nil (we_then (wc_keep [30,21,5,4,3,7] (S' := [_,_,_,_,_,_]) rfl ?_)))))))
    refine wc_cond rfl (fun hb30 => ?_) (fun hb30 => ?_)
    ·
     replace hm := iteT hm hb30
     refine wc_keep [5,4,3,7] (S' := [_,_,_,_]) rfl (wc_seq ?_)
     rcases ite_some hm with ⟨hs33, hm⟩ | ⟨hs33, hm⟩
     ·
      obtain ⟨hn39, hm⟩ := gd_some hm
      obtain ⟨x39, hx39, hm⟩ := bindO_some hm
      rcases ite_some hm with ⟨hs42, hm⟩ | ⟨hs42, hm⟩
      ·
       obtain ⟨hn48, hm⟩ := gd_some hm
       obtain ⟨x48, hx48, hm⟩ := bindO_some hm
       refine wc_draw [0,1,2,3,4,5,6,7,8,9,10,11,12,13,14,15,16,17,18,19,20] rfl rfl (fun hok => (xP hok 0 rfl (xP hok 1 rfl (wx_as (d := 33) (v' := .bool true) (S' := [_,_,_,_,_]) rfl rfl (bool_is hs33) (wx_fieldAddr hok 2 rfl rfl rfl (freshS_eq rfl) rfl rfl rfl tF_70_0 (wx_fieldAddr hok 3 rfl rfl rfl (freshS_eq rfl) rfl rfl rfl tF_44_0 (wx_loadH hok 4 2 0 rfl rfl rfl (freshS_eq rfl) rfl rfl rfl rfl (cs := [_]) rfl tS_37 tA_37 rfl rfl (wx_fieldAddr hok 5 rfl rfl rfl (freshS_eq rfl) rfl rfl rfl tF_64_1 (wx_loadH hok 6 1 1 rfl rfl rfl (freshS_eq rfl) rfl rfl rfl rfl (cs := [_]) rfl tS_3 tA_3 rfl rfl (wx_indexH hok 7 3 a3.toNat rfl rfl rfl (freshS_eq rfl) rfl rfl rfl rfl rfl (toNat_eq hn39) (get_lt hx39) tE_37 tS_4 (fun g39 eg39 => ?_)))))))))))
       subst eg39
       refine wx_loadRow hok 8 R_bool_opens 3 a3.toNat 0 rfl rfl rfl (freshS_eq rfl) rfl rfl rfl rfl hx39 tS_4 tA_4 (v := .bool x39) rfl rfl (fun _ => (xP hok 9 rfl (xP hok 10 rfl (wx_as (d := 42) (v' := .bool true) (S' := [_,_,_,_,_,_,_,_,_,_,_,_,_,_]) rfl rfl (bool_is hs42) (wx_fieldAddr hok 11 rfl rfl rfl (freshS_eq rfl) rfl rfl rfl tF_70_0 (wx_fieldAddr hok 12 rfl rfl rfl (freshS_eq rfl) rfl rfl rfl tF_44_1 (wx_loadH hok 13 2 1 rfl rfl rfl (freshS_eq rfl) rfl rfl rfl rfl (cs := [_]) rfl tS_34 tA_34 rfl rfl (wx_fieldAddr hok 14 rfl rfl rfl (freshS_eq rfl) rfl rfl rfl tF_64_1 (wx_loadH hok 15 1 1 rfl rfl rfl (freshS_eq rfl) rfl rfl rfl rfl (cs := [_]) rfl tS_3 tA_3 rfl rfl (wx_indexH hok 16 4 a3.toNat rfl rfl rfl (freshS_eq rfl) rfl rfl rfl rfl rfl (toNat_eq hn48) (get_lt hx48) tE_34 tS_27 (fun g48 eg48 => ?_)))))))))))
       subst eg48
       refine wx_loadRow hok 17 R_V_opens 4 a3.toNat 0 rfl rfl rfl (freshS_eq rfl) rfl rfl rfl rfl hx48 tS_27 tA_27 (v := .agg #[.int .u8 (x48.k), .int .i64 (x48.n), .string x48.s]) rfl rfl (fun _ => (wx_loadH hok 18 0 0 rfl rfl rfl (freshS_eq rfl) rfl rfl rfl rfl (cs := [_,_,_]) rfl tS_27 tA_27 rfl rfl (wx_bin hok 19 rfl rfl rfl (freshS_eq rfl) rfl rfl rfl rfl (eqlV _ _ x48 (⟨a7, a8, a9⟩ : V)) (xP hok 20 rfl (xS hok 21 rfl (wP rfl (wl_nil (we_x [] [] rfl rfl (wx_done hok rfl (we_then (wc_keep [6] (S' := [_]) rfl (wc_ret (we_block_ret (we_then_ret ?_))))))))))))))
       have hE := (Option.some.inj hm).symm
       obtain ⟨hE0, hF1⟩ := Prod.mk.inj hE
       obtain ⟨hE1, hE2⟩ := Prod.mk.inj hF1
       clear hE hF1
       replace hE0 := hE0.symm
       subst hE0
       replace hE1 := hE1.symm
       subst hE1
       replace hE2 := hE2.symm
       subst hE2
       refine ret_one (Hr := [_,_]) [3,4] Tryz.results28 (res_tmp rfl) ⟨rfl, rfl, rfl⟩ (asK [] rfl) rfl rfl (.inl rfl)
      ·
       refine wc_draw [0,1,2,3,4,5,6,7,8,9,10,11,12,13,14,15,16,17,18,19,20] rfl rfl (fun hok => (xP hok 0 rfl (xP hok 1 rfl (wx_as (d := 33) (v' := .bool true) (S' := [_,_,_,_,_]) rfl rfl (bool_is hs33) (wx_fieldAddr hok 2 rfl rfl rfl (freshS_eq rfl) rfl rfl rfl tF_70_0 (wx_fieldAddr hok 3 rfl rfl rfl (freshS_eq rfl) rfl rfl rfl tF_44_0 (wx_loadH hok 4 2 0 rfl rfl rfl (freshS_eq rfl) rfl rfl rfl rfl (cs := [_]) rfl tS_37 tA_37 rfl rfl (wx_fieldAddr hok 5 rfl rfl rfl (freshS_eq rfl) rfl rfl rfl tF_64_1 (wx_loadH hok 6 1 1 rfl rfl rfl (freshS_eq rfl) rfl rfl rfl rfl (cs := [_]) rfl tS_3 tA_3 rfl rfl (wx_indexH hok 7 3 a3.toNat rfl rfl rfl (freshS_eq rfl) rfl rfl rfl rfl rfl (toNat_eq hn39) (get_lt hx39) tE_37 tS_4 (fun g39 eg39 => ?_)))))))))))
       subst eg39
       refine wx_loadRow hok 8 R_bool_opens 3 a3.toNat 0 rfl rfl rfl (freshS_eq rfl) rfl rfl rfl rfl hx39 tS_4 tA_4 (v := .bool x39) rfl rfl (fun _ => (xP hok 9 rfl (xP hok 10 rfl (wx_as (d := 42) (v' := .bool false) (S' := [_,_,_,_,_,_,_,_,_,_,_,_,_,_]) rfl rfl (bool_is hs42) (xO hok 11 rfl (xO hok 12 rfl (xO hok 13 rfl (xO hok 14 rfl (xO hok 15 rfl (xO hok 16 rfl (xO hok 17 rfl (xO hok 18 rfl (xO hok 19 rfl (xP hok 20 rfl ?_))))))))))))))
       refine xS hok 21 rfl (wP rfl (wl_nil (we_x [] [] rfl rfl (wx_done hok rfl (we_then (wc_keep [6] (S' := [_]) rfl (wc_ret (we_block_ret (we_then_ret ?_)))))))))
       have hE := (Option.some.inj hm).symm
       obtain ⟨hE0, hF1⟩ := Prod.mk.inj hE
       obtain ⟨hE1, hE2⟩ := Prod.mk.inj hF1
       clear hE hF1
       replace hE0 := hE0.symm
       subst hE0
       replace hE1 := hE1.symm
       subst hE1
       replace hE2 := hE2.symm
       subst hE2
       refine ret_one (Hr := [_,_]) [3,4] Tryz.results28 (res_tmp rfl) ⟨rfl, rfl, rfl⟩ (asK [] rfl) rfl rfl (.inl rfl)
     ·
      refine wc_draw [0,1,2,3,4,5,6,7,8,9,10,11,12,13,14,15,16,17,18,19,20] rfl rfl (fun hok => (xP hok 0 rfl (xP hok 1 rfl (wx_as (d := 33) (v' := .bool false) (S' := [_,_,_,_,_]) rfl rfl (bool_is hs33) (xO hok 2 rfl (xO hok 3 rfl (xO hok 4 rfl (xO hok 5 rfl (xO hok 6 rfl (xO hok 7 rfl (xO hok 8 rfl (xP hok 9 rfl (xP hok 10 rfl (xO hok 11 rfl ?_))))))))))))))
      refine xO hok 12 rfl (xO hok 13 rfl (xO hok 14 rfl (xO hok 15 rfl (xO hok 16 rfl (xO hok 17 rfl (xO hok 18 rfl (xO hok 19 rfl (xP hok 20 rfl (xS hok 21 rfl (wP rfl (wl_nil (we_x [] [] rfl rfl (wx_done hok rfl ?_)))))))))))))
      refine we_then (wc_keep [6] (S' := [_]) rfl (wc_ret (we_block_ret (we_then_ret ?_))))
      have hE := (Option.some.inj hm).symm
      obtain ⟨hE0, hF1⟩ := Prod.mk.inj hE
      obtain ⟨hE1, hE2⟩ := Prod.mk.inj hF1
      clear hE hF1
      replace hE0 := hE0.symm
      subst hE0
      replace hE1 := hE1.symm
      subst hE1
      replace hE2 := hE2.symm
      subst hE2
      refine ret_one (Hr := [_,_]) [3,4] Tryz.results28 (res_tmp rfl) ⟨rfl, rfl, rfl⟩ (asK [] rfl) rfl rfl (.inl rfl)
    ·
     replace hm := iteF hm hb30
     refine wc_keep [21,5,4,3,7] (S' := [_,_,_,_,_]) rfl (wc_seq (wc_region (wP rfl (wP rfl (wl_nil (we_then (wc_keep [53,5,4,3,7] (S' := [_,_,_,_,_]) rfl ?_)))))))
     refine wc_cond rfl (fun hb53 => ?_) (fun hb53 => ?_)
     ·
      replace hm := iteT hm hb53
      refine wc_keep [5,4,3,7] (S' := [_,_,_,_]) rfl (wc_seq ?_)
      obtain ⟨bj_2, hm, hLj_2⟩ := bindO_some hm
      unfold m_pattern_fill_arg_v2_C2 at hm
      refine wc_cut (σ := (List Bool) × (List V)) (fun (j_2_r0_l, j_2_r1_l) => bj_2 = (j_2_r0_l, j_2_r1_l)) (fun (j_2_r0_l, j_2_r1_l) => [(7, .bool j_1_7)]) (fun (j_2_r0_l, j_2_r1_l) => []) (fun (j_2_r0_l, j_2_r1_l) => [.own 4 1 R_bool (.slice qp0 qn1 qc2) j_2_r0_l, .own 27 3 R_V (.slice qp3 qn4 qc5) j_2_r1_l]) ?_ ?_
      ·
       refine wc_seq (wc_region (wP rfl (wl_nil (we_then ?_))))
       refine wc_cond rfl (fun hb55 => ?_) (fun hb55 => ?_)
       ·
        replace hm := iteT hm hb55
        refine wc_keep [5,4,3,7] (S' := [_,_,_,_]) rfl ?_
        obtain ⟨hn67, hm⟩ := gd_some hm
        obtain ⟨x67, hx67, hm⟩ := bindO_some hm
        obtain ⟨hn68, hm⟩ := gd_some hm
        obtain ⟨x68, hx68, hm⟩ := bindO_some hm
        refine wc_draw [0,1,2,3,4,5,6,7,8,9,10,11,13] rfl rfl (fun hok => (wx_fieldAddr hok 0 rfl rfl rfl (freshS_eq rfl) rfl rfl rfl tF_70_0 (wx_fieldAddr hok 1 rfl rfl rfl (freshS_eq rfl) rfl rfl rfl tF_44_0 (wx_loadH hok 2 2 0 rfl rfl rfl (freshS_eq rfl) rfl rfl rfl rfl (cs := [_]) rfl tS_37 tA_37 rfl rfl (wx_fieldAddr hok 3 rfl rfl rfl (freshS_eq rfl) rfl rfl rfl tF_64_1 (wx_loadH hok 4 1 1 rfl rfl rfl (freshS_eq rfl) rfl rfl rfl rfl (cs := [_]) rfl tS_3 tA_3 rfl rfl (wx_fieldAddr hok 5 rfl rfl rfl (freshS_eq rfl) rfl rfl rfl tF_70_0 (wx_fieldAddr hok 6 rfl rfl rfl (freshS_eq rfl) rfl rfl rfl tF_44_1 (wx_loadH hok 7 2 1 rfl rfl rfl (freshS_eq rfl) rfl rfl rfl rfl (cs := [_]) rfl tS_34 tA_34 rfl rfl (wx_fieldAddr hok 8 rfl rfl rfl (freshS_eq rfl) rfl rfl rfl tF_64_1 (wx_loadH hok 9 1 1 rfl rfl rfl (freshS_eq rfl) rfl rfl rfl rfl (cs := [_]) rfl tS_3 tA_3 rfl rfl (wx_loadH hok 10 0 0 rfl rfl rfl (freshS_eq rfl) rfl rfl rfl rfl (cs := [_,_,_]) rfl tS_27 tA_27 rfl rfl (wx_indexH hok 11 3 a3.toNat rfl rfl rfl (freshS_eq rfl) rfl rfl rfl rfl rfl (toNat_eq hn67) (get_lt hx67) tE_37 tS_4 (fun g67 eg67 => ?_))))))))))))))
        subst eg67
        refine xS hok 12 rfl (wl_storeRow (u := true) 3 a3.toNat rfl rfl rfl rfl rfl (get_lt hx67) rfl rfl tS_4 rfl (fun F w hφ => ⟨(), rfl, ask_nil⟩) (H' := [_,_,_,_,_]) rfl (wl_nil (we_x [] [0,1,2] rfl rfl (wx_indexH hok 13 4 a3.toNat rfl rfl rfl (freshS_eq rfl) rfl rfl rfl rfl rfl (toNat_eq hn68) (get_lt hx68) tE_34 tS_27 (fun g68 eg68 => ?_)))))
        subst eg68
        refine xS hok 14 rfl (wl_storeRow (u := (⟨a7, a8, a9⟩ : V)) 4 a3.toNat rfl rfl rfl rfl rfl (get_lt hx68) rfl rfl tS_27 rfl (fun F w hφ => ⟨(), rfl, ask_nil⟩) (H' := [_,_,_,_,_]) rfl (wl_nil (we_x [] [] rfl rfl (wx_done hok rfl ?_))))
        have hE := (Option.some.inj hm).symm
        refine we_pick [3,4] rfl (H' := [_,_]) rfl ?_
        refine we_join (l0.set a3.toNat true, (l1.set a3.toNat (⟨a7, a8, a9⟩ : V))) hE [7] rfl (asK [] rfl) rfl
       ·
        replace hm := iteF hm hb55
        refine wc_keep [7] (S' := [_]) rfl (wc_skip ?_)
        have hE := (Option.some.inj hm).symm
        refine we_pick [3,4] rfl (H' := [_,_]) rfl ?_
        refine we_join (l0, l1) hE [7] rfl (asK [] rfl) rfl
      ·
       rintro ⟨j_2_r0_l, j_2_r1_l⟩ hE
       try dsimp only
       have hm := hLj_2
       rw [hE] at hm
       try dsimp only at hm
       refine wc_seq (wc_region (wP rfl (wP rfl (wl_nil (we_then (wc_keep [6] (S' := [_]) rfl (wc_ret (we_block_ret (we_then_ret ?_)))))))))
       have hE := (Option.some.inj hm).symm
       obtain ⟨hE0, hF1⟩ := Prod.mk.inj hE
       obtain ⟨hE1, hE2⟩ := Prod.mk.inj hF1
       clear hE hF1
       replace hE0 := hE0.symm
       subst hE0
       replace hE1 := hE1.symm
       subst hE1
       replace hE2 := hE2.symm
       subst hE2
       refine ret_one (Hr := [_,_]) [0,1] Tryz.results28 (res_tmp rfl) ⟨rfl, rfl, rfl⟩ (asK [] rfl) rfl rfl (.inl rfl)
     ·
      replace hm := iteF hm hb53
      refine wc_keep [] (S' := []) rfl (wc_skip (we_block_normal (we_then (wc_seq (wc_region (wP rfl (wl_nil (we_then (wc_ret ?_)))))))))
      have hE := (Option.some.inj hm).symm
      obtain ⟨hE0, hF1⟩ := Prod.mk.inj hE
      obtain ⟨hE1, hE2⟩ := Prod.mk.inj hF1
      clear hE hF1
      replace hE0 := hE0.symm
      subst hE0
      replace hE1 := hE1.symm
      subst hE1
      replace hE2 := hE2.symm
      subst hE2
      refine ret_one (Hr := [_,_]) [3,4] Tryz.results28 (res_tmp rfl) ⟨rfl, rfl, rfl⟩ (asK [] rfl) rfl rfl (.inl rfl)
theorem w_pattern_Match_s (N : Nat) (a0 : Int) (a1 : Int) (qp0 : Option Addr) (qc1 : Nat) (l2 : List ArgD) (a3 : Int) (a4 : Int) (a5 : Int) (a6 : ByteArray) (a7 : Int) (a8 : Int) (qp2 : Option Addr) (qc3 : Nat) (l9 : List Api_ExprD) (a10 : Int) (a11 : Int) (qp4 : Option Addr) (qc5 : Nat) (l12 : List V) (qp6 : Option Addr) (qc7 : Nat) (l13 : List Bool) (qp8 : Option Addr) (qc9 : Nat) (l14 : List V) (o2 : List Bool) (o6 : List V) (o8 : Bool) (hm : m_pattern_Match N a0 a1 l2 a3 a4 a5 a6 a7 a8 l9 a10 a11 l12 l13 l14 = some (o2, o6, o8)) : Spec Tryz.prog 10 [.agg #[.int .u8 a0, .int .i64 a1, .slice qp0 l2.length qc1, .int .u8 a3, .int .u8 a4, .int .i64 a5, .string a6, .int .i64 a7, .int .u8 a8, .slice qp2 l9.length qc3], .agg #[.int .i64 a10, .int .i64 a11, .slice qp4 l12.length qc5], .agg #[.slice qp6 l13.length qc7, .slice qp8 l14.length qc9]] [.sli 5 R_ArgD qp0 qc1 l2, .sli 7 R_Api_ExprD qp2 qc3 l9, .sli 3 R_V qp4 qc5 l12, .sli 1 R_bool qp6 qc7 l13, .sli 3 R_V qp8 qc9 l14] [] (fun v Φr Hr => ∃ (o0 : Option Addr) (o1 : Nat) (o3 : Nat) (o4 : Option Addr) (o5 : Nat) (o7 : Nat), v = .tuple #[.agg #[.slice o0 o3 o1, .slice o4 o7 o5], .bool o8] ∧ Φr = [] ∧ Hr = [.own 4 1 R_bool (.slice o0 o3 o1) o2, .own 27 3 R_V (.slice o4 o7 o5) o6]) := by
 unfold m_pattern_Match at hm
 refine spec_of Tryz.func10 rfl Tryz.ntmps10 rfl (S := [_,_,_]) rfl (fun C => (wc_seq (wc_region (wB rfl (fun g3 => (wB rfl (fun g4 => (wB rfl (fun g5 => (wl_alloc rfl rfl rfl (freshS_eq rfl) rfl tZ_44 rfl (fun g6 => (wP rfl (wl_nil (we_then (wc_keep [6,5,4,3] (S' := [_,_,_,_]) rfl (wc_seq ?_))))))))))))))))
 obtain ⟨bj_1, hm, hLj_1⟩ := bindO_some hm
 refine wc_cut (σ := Bool) (fun j_1_8 => bj_1 = j_1_8) (fun j_1_8 => [(6, .pointer (some ⟨g6,0, none⟩)), (5, .pointer (some ⟨g5,0, none⟩)), (4, .pointer (some ⟨g4,0, none⟩)), (3, .pointer (some ⟨g3,0, none⟩)), (8, .bool j_1_8)]) (fun j_1_8 => [.sli 1 R_bool qp6 qc7 l13, .sli 3 R_V qp8 qc9 l14, .sli 3 R_V qp4 qc5 l12, .sli 5 R_ArgD qp0 qc1 l2, .sli 7 R_Api_ExprD qp2 qc3 l9]) (fun j_1_8 => [.blk g6 [.slice none 0 0, .slice none 0 0] 44, .blk g5 [.slice qp6 l13.length qc7, .slice qp8 l14.length qc9] 44, .blk g4 [.int .i64 a10, .int .i64 a11, .slice qp4 l12.length qc5] 36, .blk g3 [.int .u8 a0, .int .i64 a1, .slice qp0 l2.length qc1, .int .u8 a3, .int .u8 a4, .int .i64 a5, .string a6, .int .i64 a7, .int .u8 a8, .slice qp2 l9.length qc3] 33]) ?_ ?_
 ·
  refine wc_region (wF rfl tF_33_0 (wD 3 0 rfl tS_22 tA_22 rfl (wP rfl (wP rfl ?_))))
  refine wl_split (d := 15) (S' := [_,_,_,_,_,_,_]) rfl rfl (fun hs15 => ?_) (fun hs15 => ?_)
  ·
   replace hm := iteT hm hs15
   refine wO rfl (wO rfl (wO rfl (wP rfl (wP rfl (wl_nil ?_)))))
   have hE := (Option.some.inj hm).symm
   refine we_join true hE [6,5,4,3,8] rfl (asK [3,4,2,0,1] rfl) rfl
  ·
   replace hm := iteF hm hs15
   refine wF rfl tF_33_0 (wD 3 0 rfl tS_22 tA_22 rfl (wP rfl (wP rfl (wP rfl (wl_nil ?_)))))
   have hE := (Option.some.inj hm).symm
   refine we_join (a0 == 2) hE [6,5,4,3,8] rfl (asK [3,4,2,0,1] rfl) rfl
 ·
  rintro j_1_8 hE
  try dsimp only
  have hm := hLj_1
  rw [hE] at hm
  refine wc_seq (wc_seq ?_)
  obtain ⟨bj_2, hm, hLj_2⟩ := bindO_some hm
  unfold m_pattern_Match_C2 at hm
  refine wc_cut (σ := Bool) (fun j_2_42 => bj_2 = j_2_42) (fun j_2_42 => [(6, .pointer (some ⟨g6,0, none⟩)), (5, .pointer (some ⟨g5,0, none⟩)), (4, .pointer (some ⟨g4,0, none⟩)), (3, .pointer (some ⟨g3,0, none⟩)), (42, .bool j_2_42)]) (fun j_2_42 => [.sli 1 R_bool qp6 qc7 l13, .sli 3 R_V qp8 qc9 l14, .sli 3 R_V qp4 qc5 l12, .sli 5 R_ArgD qp0 qc1 l2, .sli 7 R_Api_ExprD qp2 qc3 l9]) (fun j_2_42 => [.blk g6 [.slice none 0 0, .slice none 0 0] 44, .blk g5 [.slice qp6 l13.length qc7, .slice qp8 l14.length qc9] 44, .blk g4 [.int .i64 a10, .int .i64 a11, .slice qp4 l12.length qc5] 36, .blk g3 [.int .u8 a0, .int .i64 a1, .slice qp0 l2.length qc1, .int .u8 a3, .int .u8 a4, .int .i64 a5, .string a6, .int .i64 a7, .int .u8 a8, .slice qp2 l9.length qc3] 33]) ?_ ?_
  ·
   refine wc_region (wP rfl (wP rfl (wP rfl ?_)))
   refine wl_split (d := 22) (S' := [_,_,_,_,_,_,_]) rfl rfl (fun hs22 => ?_) (fun hs22 => ?_)
   ·
    replace hm := iteT hm hs22
    refine wO rfl (wO rfl (wO rfl (wO rfl (wO rfl (wP rfl (wP rfl (wO rfl (wO rfl (wO rfl (wO rfl (wO rfl (wO rfl (wO rfl ?_)))))))))))))
    refine wP rfl (wP rfl (wO rfl (wO rfl (wO rfl (wP rfl (wl_nil ?_))))))
    have hE := (Option.some.inj hm).symm
    refine we_join true hE [6,5,4,3,42] rfl (asK [0,1,2,3,4] rfl) rfl
   ·
    replace hm := iteF hm hs22
    refine wF rfl tF_33_1 (wD 3 1 rfl tS_3 tA_3 rfl (wF rfl tF_36_1 (wD 2 1 rfl tS_3 tA_3 rfl (wP rfl (wP rfl (wP rfl ?_))))))
    refine wl_split (d := 29) (S' := [_,_,_,_,_,_,_,_,_,_,_,_,_,_]) rfl rfl (fun hs29 => ?_) (fun hs29 => ?_)
    ·
     replace hm := iteT hm hs29
     refine wO rfl (wO rfl (wO rfl (wO rfl (wO rfl (wO rfl (wO rfl (wP rfl (wP rfl (wO rfl (wO rfl (wO rfl (wP rfl (wl_nil ?_)))))))))))))
     have hE := (Option.some.inj hm).symm
     refine we_join true hE [6,5,4,3,42] rfl (asK [0,1,2,3,4] rfl) rfl
    ·
     replace hm := iteF hm hs29
     refine wF rfl tF_33_2 (wD 3 2 rfl tS_23 tA_23 rfl (wN rfl tE_23 (wF rfl tF_36_2 (wD 2 2 rfl tS_34 tA_34 rfl (wN rfl tE_34 (wP rfl (wl_as (d := 36) (v' := .bool (l2.length != l12.length)) (S' := [_,_,_,_,_,_,_,_,_,_,_,_,_,_,_,_,_,_,_,_,_]) rfl rfl (natne (a := l2.length) (b := l12.length)) (wP rfl (wP rfl ?_)))))))))
     refine wl_split (d := 38) (S' := [_,_,_,_,_,_,_,_,_,_,_,_,_,_,_,_,_,_,_,_,_,_,_]) rfl rfl (fun hs38 => ?_) (fun hs38 => ?_)
     ·
      replace hm := iteT hm hs38
      refine wO rfl (wO rfl (wO rfl (wP rfl (wl_nil ?_))))
      have hE := (Option.some.inj hm).symm
      refine we_join true hE [6,5,4,3,42] rfl (asK [0,1,2,3,4] rfl) rfl
     ·
      replace hm := iteF hm hs38
      refine wl_loadH 1 0 rfl rfl rfl (freshS_eq rfl) rfl rfl rfl (cs := [_,_]) rfl tS_44 tA_44 rfl rfl ?_
      obtain ⟨v40, hc40, hm⟩ := bindO_some hm
      refine wC [] [0,1,2,3] rfl fn_26 rfl (w_pattern_Env_made_s N qp6 qc7 l13 qp8 qc9 l14 _ hc40) (asK [0,1] rfl) rfl (H' := [_,_,_,_]) rfl ?_
      rintro _ _ _ ⟨rfl, rfl, rfl⟩
      refine wP rfl (wP rfl (wl_nil ?_))
      have hE := (Option.some.inj hm).symm
      refine we_join (!v40) hE [6,5,4,3,42] rfl (asK [0,1,2,3,4] rfl) rfl
  ·
   rintro j_2_42 hE
   try dsimp only
   have hm := hLj_2
   rw [hE] at hm
   refine wc_cond rfl (fun hb42 => ?_) (fun hb42 => ?_)
   ·
    replace hm := iteT hm hb42
    refine wc_keep [6] (S' := [_]) rfl (wc_seq (wc_region (wl_build rfl rfl rfl (freshS_eq rfl) rfl tZ_44 tP_44 rfl (out := [_,_]) rfl (wS 0 0 rfl tS_44 (all' := [_,_]) rfl (H' := [_,_,_,_]) rfl (wP rfl (wl_nil (we_then (wc_keep [7,6] (S' := [_,_]) rfl (wc_ret (we_then_ret ?_))))))))))
    have hE := (Option.some.inj hm).symm
    obtain ⟨hE0, hF1⟩ := Prod.mk.inj hE
    obtain ⟨hE1, hE2⟩ := Prod.mk.inj hF1
    clear hE hF1
    replace hE0 := hE0.symm
    subst hE0
    replace hE1 := hE1.symm
    subst hE1
    replace hE2 := hE2.symm
    subst hE2
    refine we_rowNil 4 1 R_bool (we_rowNil 27 3 R_V ?_)
    refine ret_two (Hr := [_,_]) [1,0] Tryz.results10 (res_cell 2 rfl rfl tS_44 tA_44 rfl rfl) (res_tmp rfl) ⟨none, 0,0, none, 0,0, rfl, rfl, rfl⟩ (asK [] rfl) rfl rfl (.inl rfl)
   ·
    replace hm := iteF hm hb42
    refine wc_keep [6,5,4,3] (S' := [_,_,_,_]) rfl (wc_skip (we_then (wc_seq (wc_region (wl_loadH 1 0 rfl rfl rfl (freshS_eq rfl) rfl rfl rfl (cs := [_,_]) rfl tS_44 tA_44 rfl rfl ?_)))))
    obtain ⟨_, hc45, hm⟩ := bindO_some hm
    try dsimp only at hm
    refine wC [] [0,1,2,3] rfl fn_27 rfl (w_pattern_of_s N qp6 qc7 l13 qp8 qc9 l14 hc45) (asK [0,1] rfl) rfl (H' := [_,_,_,_]) rfl ?_
    rintro _ _ _ ⟨p45_0, c45_1, p45_2, c45_3, rfl, rfl, rfl⟩
    refine wl_alloc rfl rfl rfl (freshS_eq rfl) rfl tZ_70 rfl (fun g9 => (wS 0 0 rfl tS_70 (all' := [_,_]) rfl (H' := [_,_,_,_,_,_,_]) rfl (wl_nil (we_then (wc_keep [9,6,4,3] (S' := [_,_,_,_]) rfl (wc_seq ?_))))))
    obtain ⟨bj_3, hm, hLj_3⟩ := bindS_some hm
    refine wc_cut (σ := (List Bool) × (List V) × Nat × Nat) (fun (j_3_9_f0_l, j_3_9_f1_l, j_3_9_f0_n, j_3_9_f1_n) => bj_3 = .inl (j_3_9_f0_l, j_3_9_f1_l)) (fun (j_3_9_f0_l, j_3_9_f1_l, j_3_9_f0_n, j_3_9_f1_n) => [(9, .pointer (some ⟨g9,0, none⟩)), (6, .pointer (some ⟨g6,0, none⟩))]) (fun (j_3_9_f0_l, j_3_9_f1_l, j_3_9_f0_n, j_3_9_f1_n) => []) (fun (j_3_9_f0_l, j_3_9_f1_l, j_3_9_f0_n, j_3_9_f1_n) => [.blk g9 [.slice p45_0 j_3_9_f0_n c45_1, .slice p45_2 j_3_9_f1_n c45_3] 70, .own 4 1 R_bool (.slice p45_0 j_3_9_f0_n c45_1) j_3_9_f0_l, .own 27 3 R_V (.slice p45_2 j_3_9_f1_n c45_3) j_3_9_f1_l, .blk g6 [.slice none 0 0, .slice none 0 0] 44]) ?_ ?_
    ·
     refine wc_seq (wc_region (wF rfl tF_33_2 (wD 6 2 rfl tS_23 tA_23 rfl (wN rfl tE_23 (wP rfl (wl_nil (we_then (wc_keep [49,48,47,9,6,4] (S' := [_,_,_,_,_,_]) rfl (wc_block (wc_pick [0,1,2,3,5] rfl (H' := [_,_,_,_,_]) rfl (wc_loop (σ := Nat × Nat × (List Bool) × (List V) × Nat × Nat) (fun (nu1, u1_49, u1_9_f0_l, u1_9_f1_l, u1_9_f0_n, u1_9_f1_n) => iter (m_pattern_Match_L1 N l2 l12) nu1 (u1_49, u1_9_f0_l, u1_9_f1_l) = some bj_3) (fun (nu1, u1_49, u1_9_f0_l, u1_9_f1_l, u1_9_f0_n, u1_9_f1_n) => nu1) (fun (nu1, u1_49, u1_9_f0_l, u1_9_f1_l, u1_9_f0_n, u1_9_f1_n) => [(49, .int .i64 ((u1_49 : Nat) : Int)), (48, .int .i64 ((l2.length : Nat) : Int)), (47, .slice qp0 l2.length qc1), (9, .pointer (some ⟨g9,0, none⟩)), (6, .pointer (some ⟨g6,0, none⟩)), (4, .pointer (some ⟨g4,0, none⟩))]) (fun (nu1, u1_49, u1_9_f0_l, u1_9_f1_l, u1_9_f0_n, u1_9_f1_n) => [.sli 5 R_ArgD qp0 qc1 l2, .sli 3 R_V qp4 qc5 l12]) (fun (nu1, u1_49, u1_9_f0_l, u1_9_f1_l, u1_9_f0_n, u1_9_f1_n) => [.blk g9 [.slice p45_0 u1_9_f0_n c45_1, .slice p45_2 u1_9_f1_n c45_3] 70, .own 4 1 R_bool (.slice p45_0 u1_9_f0_n c45_1) u1_9_f0_l, .own 27 3 R_V (.slice p45_2 u1_9_f1_n c45_3) u1_9_f1_l, .blk g6 [.slice none 0 0, .slice none 0 0] 44, .blk g4 [.int .i64 a10, .int .i64 a11, .slice qp4 l12.length qc5] 36]) (N, 0, l13, l14, l13.length, l14.length) hm [49,48,47,9,6,4] rfl (asK [3,2] rfl) rfl (fun s_ hm => ?_))))))))))))
     obtain ⟨nu1, u1_49, u1_9_f0_l, u1_9_f1_l, u1_9_f0_n, u1_9_f1_n⟩ := s_
     try dsimp only at hm ⊢
     obtain ⟨mu1, bu1, hnu1, hq, hLu1⟩ := iter_some hm
     clear hm
     subst hnu1
     replace hm := hq
     clear hq
     unfold m_pattern_Match_L1 at hm
     try dsimp only at hm
     refine wc_seq (wc_region (wP rfl (wl_as (d := 50) (v' := .bool (decide (u1_49 < l2.length))) (S' := [_,_,_,_,_,_]) rfl rfl (natlt (a := u1_49) (b := l2.length)) (wl_nil (we_then (wc_seq ?_))))))
     refine wc_cond rfl (fun hb50 => ?_) (fun hb50 => ?_)
     ·
      replace hm := iteT hm hb50
      refine wc_keep [49,48,47,9,6,4] (S' := [_,_,_,_,_,_]) rfl (wc_skip (we_then (wc_seq (wc_block (wc_seq (wc_region (wP rfl ?_)))))))
      obtain ⟨x52, hx52, hm⟩ := bindO_some hm
      refine wl_indexA 0 u1_49 rfl rfl rfl (freshS_eq rfl) rfl rfl rfl rfl rfl hx52 tE_23 tS_64 (fun b52 q52 cs52 hlx52 => (wl_open R_ArgD_opens 1 rfl (fun r52 er52 _ => ?_)))
      subst er52
      refine wl_load 0 0 rfl rfl rfl (freshS_eq rfl) rfl rfl rfl (cs := [_,_,_,_,_]) rfl tS_64 tA_64 rfl rfl (wl_alloc rfl rfl rfl (freshS_eq rfl) rfl tZ_64 rfl (fun g11 => (wP rfl (wS 0 0 rfl tS_64 (all' := [_,_,_,_,_]) rfl (H' := [_,_,_,_,_,_]) rfl (wl_nil (we_then (wc_keep [10,11,49,48,47,9,6,4] (S' := [_,_,_,_,_,_,_,_]) rfl (wc_seq ?_))))))))
      obtain ⟨x59, hx59, hm⟩ := bindO_some hm
      obtain ⟨⟨v61_0, v61_1, v61_2⟩, hc61, hm⟩ := bindO_some hm
      try dsimp only at hm
      refine wc_draw [0,1,2,3,4,5,6,8] rfl rfl (fun hok => (wx_loadH hok 0 1 0 rfl rfl rfl (freshS_eq rfl) rfl rfl rfl rfl (cs := [_,_]) rfl tS_70 tA_70 rfl rfl (wx_loadH hok 1 0 0 rfl rfl rfl (freshS_eq rfl) rfl rfl rfl rfl (cs := [_,_,_,_,_]) rfl tS_64 tA_64 rfl rfl (wx_fieldAddr hok 2 rfl rfl rfl (freshS_eq rfl) rfl rfl rfl tF_36_2 (wx_loadH hok 3 5 2 rfl rfl rfl (freshS_eq rfl) rfl rfl rfl rfl (cs := [_]) rfl tS_34 tA_34 rfl rfl (xP hok 4 rfl (wx_indexA hok 5 3 u1_49 rfl rfl rfl (freshS_eq rfl) rfl rfl rfl rfl rfl rfl hx59 tE_34 tS_27 (fun b59 q59 cs59 hlx59 => (wx_openR R_V_opens 1 rfl (fun r59 er59 _ => ?_))))))))))
      subst er59
      refine wx_load hok 6 0 0 rfl rfl rfl (freshS_eq rfl) rfl rfl rfl rfl (cs := [_,_,_]) rfl tS_27 tA_27 rfl rfl (xS hok 7 rfl (wl_ownLen 2 rfl (fun hzu1_9_f0_n _ => ?_)))
      subst hzu1_9_f0_n
      refine wl_ownLen 3 rfl (fun hzu1_9_f1_n _ => ?_)
      subst hzu1_9_f1_n
      refine wC [2,3] [0,1,4,5] rfl fn_28 rfl (w_pattern_fill_arg_v2_s N p45_0 u1_9_f0_l.length c45_1 u1_9_f0_l p45_2 u1_9_f1_l.length c45_3 u1_9_f1_l x52.k x52.var x52.v.k x52.v.n x52.v.s x59.k x59.n x59.s _ _ _ hc61) (asK [] rfl) rfl (H' := [_,_,_,_]) rfl ?_
      rintro _ _ _ ⟨rfl, rfl, rfl⟩
      refine wl_nil (we_x [0,1,2,3,4,5] [5] rfl rfl (xP hok 8 rfl (wx_done hok rfl (we_then (wc_keep [62,49,48,47,9,6,4] (S' := [_,_,_,_,_,_,_]) rfl ?_)))))
      refine wc_cond rfl (fun hb62 => ?_) (fun hb62 => ?_)
      ·
       replace hm := iteT hm hb62
       refine wc_keep [6] (S' := [_]) rfl (wc_seq (wc_region (wl_build rfl rfl rfl (freshS_eq rfl) rfl tZ_44 tP_44 rfl (out := [_,_]) rfl (wS 4 0 rfl tS_44 (all' := [_,_]) rfl (H' := [_,_,_,_,_,_]) rfl (wP rfl (wl_nil (we_then (wc_keep [7,6] (S' := [_,_]) rfl (wc_ret (we_block_ret (we_then_ret (we_then_ret (we_block_ret ?_)))))))))))))
       refine we_then_ret ?_
       have hE := (Option.some.inj hm).symm
       replace hE := link_inr hLu1 hE
       replace hE := link_inr hLj_3 hE
       obtain ⟨hE0, hF1⟩ := Prod.mk.inj hE
       obtain ⟨hE1, hE2⟩ := Prod.mk.inj hF1
       clear hE hF1
       replace hE0 := hE0.symm
       subst hE0
       replace hE1 := hE1.symm
       subst hE1
       replace hE2 := hE2.symm
       subst hE2
       refine we_rowNil 4 1 R_bool (we_rowNil 27 3 R_V ?_)
       refine ret_two (Hr := [_,_]) [1,0] Tryz.results10 (res_cell 6 rfl rfl tS_44 tA_44 rfl rfl) (res_tmp rfl) ⟨none, 0,0, none, 0,0, rfl, rfl, rfl⟩ (asK [] rfl) rfl rfl (.inl rfl)
      ·
       replace hm := iteF hm hb62
       refine wc_keep [49,48,47,9,6,4] (S' := [_,_,_,_,_,_]) rfl (wc_skip (we_block_normal (we_then (wc_region (wP rfl ?_)))))
       obtain ⟨hg64, hm⟩ := gd_some hm
       refine wl_as (d := 64) (v' := .int .i64 ((u1_49 + 1 : Nat) : Int)) (S' := [_,_,_,_,_,_]) rfl rfl (nat_add (a := u1_49) (b := 1) hg64) (wl_pure (S' := [_,_,_,_,_,_]) rfl rfl rfl rfl rfl (wl_nil ?_))
       have hE := (Option.some.inj hm).symm
       replace hE := link_inl hLu1 hE
       refine we_pick [3,0,1,4,5] rfl (H' := [_,_,_,_,_]) rfl ?_
       refine we_roundK (_, u1_49 + 1, v61_1, v61_2, u1_9_f0_l.length, u1_9_f1_l.length) (Nat.lt_succ_self _) hE [49,48,47,9,6,4] rfl (asK [4,5] rfl) rfl
     ·
      replace hm := iteF hm hb50
      refine wc_keep [9,6] (S' := [_,_]) rfl (wc_exit (we_then_exit (we_then_exit (we_block_hit ?_))))
      have hE := (Option.some.inj hm).symm
      replace hE := link_inr hLu1 hE
      refine we_pick [0,1,2,3] rfl (H' := [_,_,_,_]) rfl ?_
      refine we_join (u1_9_f0_l, u1_9_f1_l, u1_9_f0_n, u1_9_f1_n) hE [9,6] rfl (asK [] rfl) rfl
    ·
     rintro ⟨j_3_9_f0_l, j_3_9_f1_l, j_3_9_f0_n, j_3_9_f1_n⟩ hE
     try dsimp only
     have hm := link_inl hLj_3 hE
     try dsimp only at hm
     refine wc_seq (wc_region (wF rfl tF_70_0 (wl_loadH 0 0 rfl rfl rfl (freshS_eq rfl) rfl rfl rfl (cs := [_,_]) rfl tS_44 tA_44 rfl rfl (wS 3 0 rfl tS_44 (all' := [_,_]) rfl (H' := [_,_,_,_]) rfl (wP rfl (wl_nil (we_then (wc_keep [7,6] (S' := [_,_]) rfl (wc_ret ?_)))))))))
     have hE := (Option.some.inj hm).symm
     obtain ⟨hE0, hF1⟩ := Prod.mk.inj hE
     obtain ⟨hE1, hE2⟩ := Prod.mk.inj hF1
     clear hE hF1
     replace hE0 := hE0.symm
     subst hE0
     replace hE1 := hE1.symm
     subst hE1
     replace hE2 := hE2.symm
     subst hE2
     refine ret_two (Hr := [_,_]) [1,2] Tryz.results10 (res_cell 3 rfl rfl tS_44 tA_44 rfl rfl) (res_tmp rfl) ⟨p45_0, c45_1, j_3_9_f0_n, p45_2, c45_3, j_3_9_f1_n, rfl, rfl, rfl⟩ (asK [] rfl) rfl rfl (.inl rfl)
end Go.Proofs.YtalbennlmcpnmaaGreat
