/- Walks, printed by a program out of the loaded code. -/
import Derived.Test.YtdkmibdiokmfbaaDoorXW4
namespace Go.Proofs.YtdkmibdiokmfbaaDoor
open Go.RowKit
set_option maxRecDepth 100000 in
set_option maxHeartbeats 4000000 in
theorem w_ropewalklaw09_ExprPuts_s (N : Nat) (a0 : Int) (a1 : Int) (a2 : Int) (a3 : ByteArray) (a4 : Int) (a5 : Int) (qp0 : Option Addr) (qc1 : Nat) (l6 : List Api_ExprD) (qp2 : Option Addr) (qc3 : Nat) (l7 : List V) (a8 : Int) (a9 : Int) (a10 : Int) (a11 : ByteArray) (o0 : Bool) (hm : m_ropewalklaw09_ExprPuts N a0 a1 a2 a3 a4 a5 l6 l7 a8 a9 a10 a11 = some o0) : Spec Tryd.prog 5 [.agg #[.int .u8 a0, .int .u8 a1, .int .i64 a2, .string a3, .int .i64 a4, .int .u8 a5, .slice qp0 l6.length qc1], .slice qp2 l7.length qc3, .int .i64 a8, .agg #[.int .u8 a9, .int .i64 a10, .string a11]] [.sli 7 R_Api_ExprD qp0 qc1 l6, .sli 3 R_V qp2 qc3 l7] [] (fun v Φr Hr => v = .bool o0 ∧ Φr = [] ∧ Hr = []) := by
 unfold m_ropewalklaw09_ExprPuts at hm
 refine spec_of Tryd.func5 rfl Tryd.ntmps5 rfl (S := [_,_,_,_]) rfl (fun C => ?_)
 refine wc_seq ?_
 refine wc_region ?_
 refine wl_box rfl rfl rfl (freshS_eq rfl) rfl rfl rfl (fun g4 => ?_)
 refine wl_box rfl rfl rfl (freshS_eq rfl) rfl rfl rfl (fun g7 => ?_)
 refine wl_pure rfl rfl rfl (freshS_eq rfl) rfl ?_
 refine wl_nil ?_
 refine we_then ?_
 refine wc_keep [7, 4, 1, 2] (S' := [_,_,_,_]) rfl ?_
 refine wc_seq ?_
 refine wc_seq ?_
 refine wc_region ?_
 obtain ⟨v16, hc16, hm⟩ := bindO_some hm
 refine wl_call [] [0, 1] rfl rfl rfl (freshS_eq rfl) rfl rfl fn_6 rfl (w_ropewalklaw09_awake_s N _ hc16) (fun _ _ hφ => ask [] rfl hφ) rfl (H' := [_,_]) rfl ?_
 rintro _ _ _ ⟨rfl, rfl, rfl⟩
 refine wl_pure rfl rfl rfl (freshS_eq rfl) rfl ?_
 refine wl_nil ?_
 refine we_then ?_
 refine wc_keep [17, 7, 4, 1, 2] (S' := [_,_,_,_,_]) rfl ?_
 refine wc_cond rfl (fun hb17 => ?_) (fun hb17 => ?_)
 ·
  replace hm := iteT hm hb17
  refine wc_keep [] (S' := []) rfl ?_
  refine wc_seq ?_
  refine wc_region ?_
  refine wl_pure rfl rfl rfl (freshS_eq rfl) rfl ?_
  refine wl_nil ?_
  refine we_then ?_
  refine wc_ret ?_
  refine we_then_ret ?_
  have hE := (Option.some.inj hm).symm
  replace hE := hE.symm
  subst hE
  refine ret_one (Hr := []) [] Tryd.results5 (res_tmp rfl) ⟨rfl, rfl, rfl⟩ (fun _ _ hφ => ask [] rfl hφ) rfl rfl (.inl rfl)
 ·
  replace hm := iteF hm hb17
  refine wc_keep [7, 4, 1, 2] (S' := [_,_,_,_]) rfl ?_
  refine wc_skip ?_
  refine we_then ?_
  refine wc_seq ?_
  refine wc_seq ?_
  obtain ⟨bj_1, hm, hLj_1⟩ := bindO_some hm
  refine wc_cut (σ := Bool) (fun j_1_28 => bj_1 = j_1_28) (fun j_1_28 => [(7, .pointer (some ⟨g7, 0, none⟩)), (4, .pointer (some ⟨g4, 0, none⟩)), (1, .slice qp2 l7.length qc3), (2, .int .i64 a8), (28, .bool j_1_28)]) (fun j_1_28 => [.sli 7 R_Api_ExprD qp0 qc1 l6, .sli 3 R_V qp2 qc3 l7]) (fun j_1_28 => [.blk g7 [.int .u8 a9, .int .i64 a10, .string a11] 25, .blk g4 [.int .u8 a0, .int .u8 a1, .int .i64 a2, .string a3, .int .i64 a4, .int .u8 a5, .slice qp0 l6.length qc1] 29]) ?_ ?_
  ·
   refine wc_region ?_
   refine wl_pure rfl rfl rfl (freshS_eq rfl) rfl ?_
   refine wl_loadH 1 0 rfl rfl rfl (freshS_eq rfl) rfl rfl rfl (cs := [_,_,_,_,_,_,_]) rfl tS_29 tA_29 rfl rfl ?_
   refine wl_buildSlice rfl rfl rfl (freshS_eq rfl) rfl tE_27 tS_29 tZ_29 rfl (zs := [.int .u8 0, .int .u8 0, .int .i64 0, .string ((⟨#[]⟩ : ByteArray)), .int .i64 0, .int .u8 0, .slice none 0 0]) (by kernel_rfl) rfl (out := [_,_,_,_,_,_,_]) rfl (fun g20 => ?_)
   refine wl_row (sz := 7) (m := 1) R_Api_ExprD ([(⟨a0, (⟨a1, a2, a3⟩ : V), a4, a5, l6⟩ : Api_ExprD)]) 0 rfl (fun F w hφ => ⟨[.int .u8 a0, .int .u8 a1, .int .i64 a2, .string a3, .int .i64 a4, .int .u8 a5, .slice qp0 l6.length qc1], [], rfl, rfl, (rec_shut (qp0, qc1) rfl (ask_cons (hφ _ (mem_at (k := 0) rfl)) ask_nil)), rfl⟩) rfl (by decide) (H' := [_,_,_]) rfl ?_
   obtain ⟨v21, hc21, hm⟩ := bindO_some hm
   refine wl_lend [] [0, 1, 2] [0] rfl rfl rfl (freshS_eq rfl) rfl rfl fn_7 rfl (w_ropewalklaw09_light_s N qp2 qc3 l7 (some ⟨g20, 0, none⟩) 1 [(⟨a0, (⟨a1, a2, a3⟩ : V), a4, a5, l6⟩ : Api_ExprD)] _ hc21) (fun F w hφ hh => (ask_cons (hφ _ (mem_at (k := 1) rfl)) (ask_cons (own_sli (hh _ (mem_at (k := 0) rfl))) ask_nil))) (fun _ _ _ hR => by obtain ⟨rfl, rfl, rfl⟩ := hR; exact ⟨rfl, (fun _ h => free_nil h)⟩) rfl rfl (H' := [_,_,_]) rfl ?_
   rintro _ _ _ ⟨rfl, rfl, rfl⟩
   refine wl_pure rfl rfl rfl (freshS_eq rfl) rfl ?_
   refine wl_pure rfl rfl rfl (freshS_eq rfl) rfl ?_
   refine wl_split (d := 23) (S' := [_,_,_,_,_,_,_,_,_]) rfl rfl (fun hs23 => ?_) (fun hs23 => ?_)
   ·
    replace hm := iteT hm hs23
    refine wl_off rfl rfl rfl (freshS_eq rfl) ?_
    refine wl_off rfl rfl rfl (freshS_eq rfl) ?_
    refine wl_off rfl rfl rfl (freshS_eq rfl) ?_
    refine wl_off rfl rfl rfl (freshS_eq rfl) ?_
    refine wl_pure rfl rfl rfl (freshS_eq rfl) rfl ?_
    refine wl_nil ?_
    have hE := (Option.some.inj hm).symm
    refine we_pick [1, 2] rfl (H' := [_,_]) rfl ?_
    refine we_join true hE [7, 4, 1, 2, 28] rfl (fun _ _ hφ => ask [0, 1] rfl hφ) rfl
   ·
    replace hm := iteF hm hs23
    refine wl_fieldAddr rfl rfl rfl (freshS_eq rfl) rfl rfl tF_25_2 ?_
    refine wl_loadH 1 2 rfl rfl rfl (freshS_eq rfl) rfl rfl rfl (cs := [_]) rfl tS_9 tA_9 rfl rfl ?_
    refine wl_reck rfl rfl rfl (freshS_eq rfl) (rk_strLen rfl rfl tT_9) ?_
    refine wl_pure rfl rfl rfl (freshS_eq rfl) rfl ?_
    refine wl_as (d := 27) (v' := .bool (decide (300 < a11.size))) (S' := [_,_,_,_,_,_,_,_,_,_,_,_,_]) rfl rfl (natgt (a := a11.size) (b := 300)) ?_
    refine wl_pure rfl rfl rfl (freshS_eq rfl) rfl ?_
    refine wl_nil ?_
    have hE := (Option.some.inj hm).symm
    refine we_pick [1, 2] rfl (H' := [_,_]) rfl ?_
    refine we_join (decide (300 < a11.size)) hE [7, 4, 1, 2, 28] rfl (fun _ _ hφ => ask [0, 1] rfl hφ) rfl
  ·
   rintro j_1_28 hE
   try dsimp only
   have hm := hLj_1
   rw [hE] at hm
   refine wc_cond rfl (fun hb28 => ?_) (fun hb28 => ?_)
   ·
    replace hm := iteT hm hb28
    refine wc_keep [] (S' := []) rfl ?_
    refine wc_seq ?_
    refine wc_region ?_
    refine wl_pure rfl rfl rfl (freshS_eq rfl) rfl ?_
    refine wl_nil ?_
    refine we_then ?_
    refine wc_ret ?_
    refine we_then_ret ?_
    have hE := (Option.some.inj hm).symm
    replace hE := hE.symm
    subst hE
    refine ret_one (Hr := []) [] Tryd.results5 (res_tmp rfl) ⟨rfl, rfl, rfl⟩ (fun _ _ hφ => ask [] rfl hφ) rfl rfl (.inl rfl)
   ·
    replace hm := iteF hm hb28
    refine wc_keep [7, 4, 1, 2] (S' := [_,_,_,_]) rfl ?_
    refine wc_skip ?_
    refine we_then ?_
    refine wc_seq ?_
    refine wc_region ?_
    refine wl_loadH 1 0 rfl rfl rfl (freshS_eq rfl) rfl rfl rfl (cs := [_,_,_,_,_,_,_]) rfl tS_29 tA_29 rfl rfl ?_
    refine wl_pure rfl rfl rfl (freshS_eq rfl) rfl ?_
    obtain ⟨⟨v32_0, v32_1, v32_2, v32_3⟩, hc32, hm⟩ := bindO_some hm
    try dsimp only at hm
    refine wl_call [] [0, 1] rfl rfl rfl (freshS_eq rfl) rfl rfl fn_10 rfl (w_expr_Eval_s N a0 a1 a2 a3 a4 a5 qp0 qc1 l6 qp2 qc3 l7 _ _ _ _ hc32) (fun _ _ hφ => ask [0, 1] rfl hφ) rfl (H' := [_,_]) rfl ?_
    rintro _ _ _ ⟨rfl, rfl, rfl⟩
    refine wl_pure rfl rfl rfl (freshS_eq rfl) rfl ?_
    refine wl_pure rfl rfl rfl (freshS_eq rfl) rfl ?_
    refine wl_pure rfl rfl rfl (freshS_eq rfl) rfl ?_
    refine wl_alloc rfl rfl rfl (freshS_eq rfl) rfl tZ_25 rfl (fun g9 => ?_)
    refine wl_store 0 0 rfl rfl rfl rfl rfl rfl rfl tS_25 rfl rfl rfl (all' := [_,_,_]) rfl (H' := [_,_,_]) rfl ?_
    refine wl_pure rfl rfl rfl (freshS_eq rfl) rfl ?_
    refine wl_nil ?_
    refine we_then ?_
    refine wc_keep [10, 9, 7, 4, 1, 2] (S' := [_,_,_,_,_,_]) rfl ?_
    refine wc_seq ?_
    refine wc_seq ?_
    obtain ⟨bj_2, hm, hLj_2⟩ := bindO_some hm
    refine wc_cut (σ := Bool) (fun j_2_41 => bj_2 = j_2_41) (fun j_2_41 => [(10, .int .i64 ((v32_3 : Nat) : Int)), (9, .pointer (some ⟨g9, 0, none⟩)), (7, .pointer (some ⟨g7, 0, none⟩)), (4, .pointer (some ⟨g4, 0, none⟩)), (1, .slice qp2 l7.length qc3), (2, .int .i64 a8), (41, .bool j_2_41)]) (fun j_2_41 => [.sli 7 R_Api_ExprD qp0 qc1 l6, .sli 3 R_V qp2 qc3 l7]) (fun j_2_41 => [.blk g9 [.int .u8 v32_0, .int .i64 v32_1, .string v32_2] 25, .blk g7 [.int .u8 a9, .int .i64 a10, .string a11] 25, .blk g4 [.int .u8 a0, .int .u8 a1, .int .i64 a2, .string a3, .int .i64 a4, .int .u8 a5, .slice qp0 l6.length qc1] 29]) ?_ ?_
    ·
     refine wc_region ?_
     refine wl_pure rfl rfl rfl (freshS_eq rfl) rfl ?_
     refine wl_pure rfl rfl rfl (freshS_eq rfl) rfl ?_
     refine wl_as (d := 36) (v' := .bool (v32_3 == 0)) (S' := [_,_,_,_,_,_,_]) rfl rfl (nateq (a := v32_3) (b := 0)) ?_
     refine wl_pure rfl rfl rfl (freshS_eq rfl) rfl ?_
     refine wl_split (d := 37) (S' := [_,_,_,_,_,_,_,_]) rfl rfl (fun hs37 => ?_) (fun hs37 => ?_)
     ·
      replace hm := iteT hm hs37
      refine wl_loadH 0 0 rfl rfl rfl (freshS_eq rfl) rfl rfl rfl (cs := [_,_,_]) rfl tS_25 tA_25 rfl rfl ?_
      obtain ⟨v39, hc39, hm⟩ := bindO_some hm
      refine wl_call [] [0, 1, 2] rfl rfl rfl (freshS_eq rfl) rfl rfl fn_17 rfl (w_value_Right_s N v32_0 v32_1 v32_2 _ hc39) (fun _ _ hφ => ask [] rfl hφ) rfl (H' := [_,_,_]) rfl ?_
      rintro _ _ _ ⟨rfl, rfl, rfl⟩
      refine wl_pure rfl rfl rfl (freshS_eq rfl) rfl ?_
      refine wl_pure rfl rfl rfl (freshS_eq rfl) rfl ?_
      refine wl_nil ?_
      have hE := (Option.some.inj hm).symm
      refine we_join (!v39) hE [10, 9, 7, 4, 1, 2, 41] rfl (fun _ _ hφ => ask [0, 1] rfl hφ) rfl
     ·
      replace hm := iteF hm hs37
      refine wl_off rfl rfl rfl (freshS_eq rfl) ?_
      refine wl_off rfl rfl rfl (freshS_eq rfl) ?_
      refine wl_off rfl rfl rfl (freshS_eq rfl) ?_
      refine wl_pure rfl rfl rfl (freshS_eq rfl) rfl ?_
      refine wl_nil ?_
      have hE := (Option.some.inj hm).symm
      refine we_join false hE [10, 9, 7, 4, 1, 2, 41] rfl (fun _ _ hφ => ask [0, 1] rfl hφ) rfl
    ·
     rintro j_2_41 hE
     try dsimp only
     have hm := hLj_2
     rw [hE] at hm
     refine wc_cond rfl (fun hb41 => ?_) (fun hb41 => ?_)
     ·
      replace hm := iteT hm hb41
      refine wc_keep [] (S' := []) rfl ?_
      refine wc_seq ?_
      refine wc_region ?_
      refine wl_pure rfl rfl rfl (freshS_eq rfl) rfl ?_
      refine wl_nil ?_
      refine we_then ?_
      refine wc_ret ?_
      refine we_then_ret ?_
      have hE := (Option.some.inj hm).symm
      replace hE := hE.symm
      subst hE
      refine ret_one (Hr := []) [] Tryd.results5 (res_tmp rfl) ⟨rfl, rfl, rfl⟩ (fun _ _ hφ => ask [] rfl hφ) rfl rfl (.inl rfl)
     ·
      replace hm := iteF hm hb41
      refine wc_keep [10, 9, 7, 4, 1, 2] (S' := [_,_,_,_,_,_]) rfl ?_
      refine wc_skip ?_
      refine we_then ?_
      refine wc_seq ?_
      obtain ⟨bj_3, hm, hLj_3⟩ := bindS_some hm
      unfold m_ropewalklaw09_ExprPuts_C3 at hm
      refine wc_cut (σ := Unit) (fun _ => bj_3 = .inl ()) (fun _ => [(10, .int .i64 ((v32_3 : Nat) : Int)), (9, .pointer (some ⟨g9, 0, none⟩)), (7, .pointer (some ⟨g7, 0, none⟩)), (4, .pointer (some ⟨g4, 0, none⟩)), (1, .slice qp2 l7.length qc3)]) (fun _ => [.sli 7 R_Api_ExprD qp0 qc1 l6, .sli 3 R_V qp2 qc3 l7]) (fun _ => [.blk g9 [.int .u8 v32_0, .int .i64 v32_1, .string v32_2] 25, .blk g7 [.int .u8 a9, .int .i64 a10, .string a11] 25, .blk g4 [.int .u8 a0, .int .u8 a1, .int .i64 a2, .string a3, .int .i64 a4, .int .u8 a5, .slice qp0 l6.length qc1] 29]) ?_ ?_
      ·
       refine wc_seq ?_
       refine wc_region ?_
       refine wl_pure rfl rfl rfl (freshS_eq rfl) rfl ?_
       refine wl_len rfl rfl rfl (freshS_eq rfl) rfl rfl tE_30 ?_
       refine wl_pure rfl rfl rfl (freshS_eq rfl) rfl ?_
       refine wl_as (d := 44) (v' := .bool (decide (0 < l7.length))) (S' := [_,_,_,_,_,_,_,_]) rfl rfl (natgt (a := l7.length) (b := 0)) ?_
       refine wl_nil ?_
       refine we_then ?_
       refine wc_keep [44, 10, 9, 7, 4, 1, 2] (S' := [_,_,_,_,_,_,_]) rfl ?_
       refine wc_cond rfl (fun hb44 => ?_) (fun hb44 => ?_)
       ·
        replace hm := iteT hm hb44
        refine wc_keep [10, 9, 7, 4, 1, 2] (S' := [_,_,_,_,_,_]) rfl ?_
        refine wc_seq ?_
        refine wc_region ?_
        refine wl_pure rfl rfl rfl (freshS_eq rfl) rfl ?_
        refine wl_pure rfl rfl rfl (freshS_eq rfl) rfl ?_
        refine wl_len rfl rfl rfl (freshS_eq rfl) rfl rfl tE_30 ?_
        obtain ⟨v48, hc48, hm⟩ := bindO_some hm
        refine wl_call [] [0, 1, 2] rfl rfl rfl (freshS_eq rfl) rfl rfl fn_18 rfl (w_ropewalkkit_Pick_s N a8 ((l7.length : Nat) : Int) _ hc48) (fun _ _ hφ => ask [] rfl hφ) rfl (H' := [_,_,_]) rfl ?_
        rintro _ _ _ ⟨rfl, rfl, rfl⟩
        refine wl_pure rfl rfl rfl (freshS_eq rfl) rfl ?_
        refine wl_nil ?_
        refine we_then ?_
        refine wc_keep [11, 10, 9, 7, 4, 1] (S' := [_,_,_,_,_,_]) rfl ?_
        refine wc_seq ?_
        obtain ⟨hn54, hm⟩ := gd_some hm
        obtain ⟨x54, hx54, hm⟩ := bindO_some hm
        obtain ⟨⟨v56_0, v56_1, v56_2, v56_3, v56_4, v56_5, v56_6⟩, hc56, hm⟩ := bindO_some hm
        try dsimp only at hm
        obtain ⟨⟨v58_0, v58_1, v58_2, v58_3⟩, hc58, hm⟩ := bindO_some hm
        try dsimp only at hm
        refine wc_cut (σ := Nat) (fun _ => True) (fun w_4_12_g => [(13, .int .i64 ((v58_3 : Nat) : Int)), (12, .pointer (some ⟨w_4_12_g, 0, none⟩)), (10, .int .i64 ((v32_3 : Nat) : Int)), (9, .pointer (some ⟨g9, 0, none⟩)), (7, .pointer (some ⟨g7, 0, none⟩)), (4, .pointer (some ⟨g4, 0, none⟩)), (1, .slice qp2 l7.length qc3)]) (fun w_4_12_g => [.sli 7 R_Api_ExprD qp0 qc1 l6, .sli 3 R_V qp2 qc3 l7]) (fun w_4_12_g => [.blk w_4_12_g [.int .u8 v58_0, .int .i64 v58_1, .string v58_2] 25, .blk g9 [.int .u8 v32_0, .int .i64 v32_1, .string v32_2] 25, .blk g7 [.int .u8 a9, .int .i64 a10, .string a11] 25, .blk g4 [.int .u8 a0, .int .u8 a1, .int .i64 a2, .string a3, .int .i64 a4, .int .u8 a5, .slice qp0 l6.length qc1] 29]) ?_ ?_
        ·
         refine wc_draw [0, 1, 2, 3, 4, 5, 7, 9, 10, 11] rfl rfl (fun hok => ?_)
         refine wx_loadH hok 0 2 0 rfl rfl rfl (freshS_eq rfl) rfl rfl rfl rfl (cs := [_,_,_,_,_,_,_]) rfl tS_29 tA_29 rfl rfl ?_
         refine wx_pure hok 1 rfl rfl rfl (freshS_eq rfl) rfl rfl ?_
         refine wx_pure hok 2 rfl rfl rfl (freshS_eq rfl) rfl rfl ?_
         refine wx_pure hok 3 rfl rfl rfl (freshS_eq rfl) rfl rfl ?_
         refine wx_indexA hok 4 1 v48.toNat rfl rfl rfl (freshS_eq rfl) rfl rfl rfl rfl rfl (toNat_eq hn54) hx54 tE_30 tS_25 (fun b54 q54 cs54 hlx54 => ?_)
         refine wx_openR R_V_opens 1 rfl (fun r54 er54 _ => ?_)
         subst er54
         refine wx_load hok 5 0 0 rfl rfl rfl (freshS_eq rfl) rfl rfl rfl rfl (cs := [_,_,_]) rfl tS_25 tA_25 rfl rfl ?_
         refine wx_pure hok 7 rfl rfl rfl (freshS_eq rfl) rfl rfl ?_
         refine wx_step2 hok 6 12 rfl rfl rfl rfl rfl rfl ?_ ?_
         ·
          refine wl_call [] [0, 1, 2] rfl rfl rfl (freshS_eq rfl) rfl rfl fn_19 rfl (w_ropewalklaw09_put_s N a0 a1 a2 a3 a4 a5 qp0 qc1 l6 v48 x54.k x54.n x54.s _ _ _ _ _ _ _ hc56) (fun _ _ hφ => ask [2] rfl hφ) rfl (H' := [_,_,_]) rfl ?_
          rintro _ _ _ ⟨p56_0, c56_1, c56_2, rfl, rfl, rfl⟩
          refine wl_nil ?_
          refine we_x [0, 1, 2, 3] [] rfl rfl ?_
          refine wx_step2 hok 8 12 rfl rfl rfl rfl rfl rfl ?_ ?_
          ·
           refine wl_ownLen 0 rfl (fun hzc56_2 _ => ?_)
           subst hzc56_2
           refine wl_lend [] [0, 1, 2, 3] [0] rfl rfl rfl (freshS_eq rfl) rfl rfl fn_10 rfl (w_expr_Eval_s N v56_0 v56_1 v56_2 v56_3 v56_4 v56_5 p56_0 c56_1 v56_6 qp2 qc3 l7 _ _ _ _ hc58) (fun F w hφ hh => (ask_cons (own_sli (hh _ (mem_at (k := 0) rfl))) (ask_cons (hφ _ (mem_at (k := 3) rfl)) ask_nil))) (fun _ _ _ hR => by obtain ⟨rfl, rfl, rfl⟩ := hR; exact ⟨rfl, (fun _ h => free_nil h)⟩) rfl rfl (H' := [_,_,_,_]) rfl ?_
           rintro _ _ _ ⟨rfl, rfl, rfl⟩
           refine wl_nil ?_
           refine we_x [0, 1, 2, 3] [3] rfl rfl ?_
           refine wx_pure hok 9 rfl rfl rfl (freshS_eq rfl) rfl rfl ?_
           refine wx_pure hok 10 rfl rfl rfl (freshS_eq rfl) rfl rfl ?_
           refine wx_pure hok 11 rfl rfl rfl (freshS_eq rfl) rfl rfl ?_
           refine wx_step1 hok 12 rfl rfl rfl rfl ?_
           refine wl_alloc rfl rfl rfl (freshS_eq rfl) rfl tZ_25 rfl (fun g12 => ?_)
           refine wl_nil ?_
           refine we_x [0, 1, 2, 3] [4] rfl rfl ?_
           refine wx_step1 hok 13 rfl rfl rfl rfl ?_
           refine wl_store 0 0 rfl rfl rfl rfl rfl rfl rfl tS_25 rfl rfl rfl (all' := [_,_,_]) rfl (H' := [_,_,_,_,_]) rfl ?_
           refine wl_nil ?_
           refine we_x [0, 1, 2, 3] [] rfl rfl ?_
           refine wx_step1 hok 14 rfl rfl rfl rfl ?_
           refine wl_pure rfl rfl rfl (freshS_eq rfl) rfl ?_
           refine wl_nil ?_
           refine we_x [0, 1, 2, 3] [] rfl rfl ?_
           refine wx_done hok rfl ?_
           refine we_pick [0, 2, 3, 4] rfl (H' := [_,_,_,_]) rfl ?_
           refine we_join g12 trivial [13, 12, 10, 9, 7, 4, 1] rfl (fun _ _ hφ => ask [2, 3] rfl hφ) rfl
          ·
           refine wl_alloc rfl rfl rfl (freshS_eq rfl) rfl tZ_25 rfl (fun g12 => ?_)
           refine wl_nil ?_
           refine we_x [0, 1, 2, 3] [4] rfl rfl ?_
           refine wx_step1 hok 8 rfl rfl rfl rfl ?_
           refine wl_ownLen 1 rfl (fun hzc56_2 _ => ?_)
           subst hzc56_2
           refine wl_lend [] [0, 1, 2, 3, 4] [1] rfl rfl rfl (freshS_eq rfl) rfl rfl fn_10 rfl (w_expr_Eval_s N v56_0 v56_1 v56_2 v56_3 v56_4 v56_5 p56_0 c56_1 v56_6 qp2 qc3 l7 _ _ _ _ hc58) (fun F w hφ hh => (ask_cons (own_sli (hh _ (mem_at (k := 0) rfl))) (ask_cons (hφ _ (mem_at (k := 3) rfl)) ask_nil))) (fun _ _ _ hR => by obtain ⟨rfl, rfl, rfl⟩ := hR; exact ⟨rfl, (fun _ h => free_nil h)⟩) rfl rfl (H' := [_,_,_,_,_]) rfl ?_
           rintro _ _ _ ⟨rfl, rfl, rfl⟩
           refine wl_nil ?_
           refine we_x [0, 1, 2, 3] [4] rfl rfl ?_
           refine wx_pure hok 9 rfl rfl rfl (freshS_eq rfl) rfl rfl ?_
           refine wx_pure hok 10 rfl rfl rfl (freshS_eq rfl) rfl rfl ?_
           refine wx_pure hok 11 rfl rfl rfl (freshS_eq rfl) rfl rfl ?_
           refine wx_step1 hok 13 rfl rfl rfl rfl ?_
           refine wl_store 0 0 rfl rfl rfl rfl rfl rfl rfl tS_25 rfl rfl rfl (all' := [_,_,_]) rfl (H' := [_,_,_,_,_]) rfl ?_
           refine wl_nil ?_
           refine we_x [0, 1, 2, 3] [] rfl rfl ?_
           refine wx_step1 hok 14 rfl rfl rfl rfl ?_
           refine wl_pure rfl rfl rfl (freshS_eq rfl) rfl ?_
           refine wl_nil ?_
           refine we_x [0, 1, 2, 3] [] rfl rfl ?_
           refine wx_done hok rfl ?_
           refine we_pick [0, 2, 3, 4] rfl (H' := [_,_,_,_]) rfl ?_
           refine we_join g12 trivial [13, 12, 10, 9, 7, 4, 1] rfl (fun _ _ hφ => ask [2, 3] rfl hφ) rfl
         ·
          refine wl_alloc rfl rfl rfl (freshS_eq rfl) rfl tZ_25 rfl (fun g12 => ?_)
          refine wl_nil ?_
          refine we_x [0, 1, 2, 3] [3] rfl rfl ?_
          refine wx_step1 hok 6 rfl rfl rfl rfl ?_
          refine wl_call [] [0, 1, 2, 3] rfl rfl rfl (freshS_eq rfl) rfl rfl fn_19 rfl (w_ropewalklaw09_put_s N a0 a1 a2 a3 a4 a5 qp0 qc1 l6 v48 x54.k x54.n x54.s _ _ _ _ _ _ _ hc56) (fun _ _ hφ => ask [2] rfl hφ) rfl (H' := [_,_,_,_]) rfl ?_
          rintro _ _ _ ⟨p56_0, c56_1, c56_2, rfl, rfl, rfl⟩
          refine wl_nil ?_
          refine we_x [0, 1, 2, 3] [] rfl rfl ?_
          refine wx_step1 hok 8 rfl rfl rfl rfl ?_
          refine wl_ownLen 0 rfl (fun hzc56_2 _ => ?_)
          subst hzc56_2
          refine wl_lend [] [0, 1, 2, 3, 4] [0] rfl rfl rfl (freshS_eq rfl) rfl rfl fn_10 rfl (w_expr_Eval_s N v56_0 v56_1 v56_2 v56_3 v56_4 v56_5 p56_0 c56_1 v56_6 qp2 qc3 l7 _ _ _ _ hc58) (fun F w hφ hh => (ask_cons (own_sli (hh _ (mem_at (k := 0) rfl))) (ask_cons (hφ _ (mem_at (k := 3) rfl)) ask_nil))) (fun _ _ _ hR => by obtain ⟨rfl, rfl, rfl⟩ := hR; exact ⟨rfl, (fun _ h => free_nil h)⟩) rfl rfl (H' := [_,_,_,_,_]) rfl ?_
          rintro _ _ _ ⟨rfl, rfl, rfl⟩
          refine wl_nil ?_
          refine we_x [0, 1, 2, 3] [4] rfl rfl ?_
          refine wx_pure hok 9 rfl rfl rfl (freshS_eq rfl) rfl rfl ?_
          refine wx_pure hok 10 rfl rfl rfl (freshS_eq rfl) rfl rfl ?_
          refine wx_pure hok 11 rfl rfl rfl (freshS_eq rfl) rfl rfl ?_
          refine wx_step1 hok 13 rfl rfl rfl rfl ?_
          refine wl_store 1 0 rfl rfl rfl rfl rfl rfl rfl tS_25 rfl rfl rfl (all' := [_,_,_]) rfl (H' := [_,_,_,_,_]) rfl ?_
          refine wl_nil ?_
          refine we_x [0, 1, 2, 3] [] rfl rfl ?_
          refine wx_step1 hok 14 rfl rfl rfl rfl ?_
          refine wl_pure rfl rfl rfl (freshS_eq rfl) rfl ?_
          refine wl_nil ?_
          refine we_x [0, 1, 2, 3] [] rfl rfl ?_
          refine wx_done hok rfl ?_
          refine we_pick [1, 2, 3, 4] rfl (H' := [_,_,_,_]) rfl ?_
          refine we_join g12 trivial [13, 12, 10, 9, 7, 4, 1] rfl (fun _ _ hφ => ask [2, 3] rfl hφ) rfl
        ·
         rintro w_4_12_g _
         try dsimp only
         refine wc_seq ?_
         obtain ⟨bj_5, hm, hLj_5⟩ := bindO_some hm
         refine wc_cut (σ := Bool) (fun j_5_68 => bj_5 = j_5_68) (fun j_5_68 => [(10, .int .i64 ((v32_3 : Nat) : Int)), (9, .pointer (some ⟨g9, 0, none⟩)), (7, .pointer (some ⟨g7, 0, none⟩)), (4, .pointer (some ⟨g4, 0, none⟩)), (1, .slice qp2 l7.length qc3), (68, .bool j_5_68)]) (fun j_5_68 => [.sli 7 R_Api_ExprD qp0 qc1 l6, .sli 3 R_V qp2 qc3 l7]) (fun j_5_68 => [.blk g9 [.int .u8 v32_0, .int .i64 v32_1, .string v32_2] 25, .blk g7 [.int .u8 a9, .int .i64 a10, .string a11] 25, .blk g4 [.int .u8 a0, .int .u8 a1, .int .i64 a2, .string a3, .int .i64 a4, .int .u8 a5, .slice qp0 l6.length qc1] 29]) ?_ ?_
         ·
          refine wc_region ?_
          refine wl_loadH 1 0 rfl rfl rfl (freshS_eq rfl) rfl rfl rfl (cs := [_,_,_]) rfl tS_25 tA_25 rfl rfl ?_
          refine wl_loadH 0 0 rfl rfl rfl (freshS_eq rfl) rfl rfl rfl (cs := [_,_,_]) rfl tS_25 tA_25 rfl rfl ?_
          refine wl_bin rfl rfl rfl (freshS_eq rfl) rfl rfl rfl (neqV _ _ (⟨v32_0, v32_1, v32_2⟩ : V) (⟨v58_0, v58_1, v58_2⟩ : V)) ?_
          refine wl_pure rfl rfl rfl (freshS_eq rfl) rfl ?_
          refine wl_split (d := 64) (S' := [_,_,_,_,_,_,_,_,_,_]) rfl rfl (fun hs64 => ?_) (fun hs64 => ?_)
          ·
           replace hm := iteT hm hs64
           refine wl_off rfl rfl rfl (freshS_eq rfl) ?_
           refine wl_off rfl rfl rfl (freshS_eq rfl) ?_
           refine wl_off rfl rfl rfl (freshS_eq rfl) ?_
           refine wl_pure rfl rfl rfl (freshS_eq rfl) rfl ?_
           refine wl_nil ?_
           have hE := (Option.some.inj hm).symm
           refine we_pick [1, 2, 3] rfl (H' := [_,_,_]) rfl ?_
           refine we_join true hE [10, 9, 7, 4, 1, 68] rfl (fun _ _ hφ => ask [0, 1] rfl hφ) rfl
          ·
           replace hm := iteF hm hs64
           refine wl_pure rfl rfl rfl (freshS_eq rfl) rfl ?_
           refine wl_pure rfl rfl rfl (freshS_eq rfl) rfl ?_
           refine wl_pure rfl rfl rfl (freshS_eq rfl) rfl ?_
           refine wl_as (d := 67) (v' := .bool (v32_3 != v58_3)) (S' := [_,_,_,_,_,_,_,_,_,_,_,_,_]) rfl rfl (natne (a := v32_3) (b := v58_3)) ?_
           refine wl_pure rfl rfl rfl (freshS_eq rfl) rfl ?_
           refine wl_nil ?_
           have hE := (Option.some.inj hm).symm
           refine we_pick [1, 2, 3] rfl (H' := [_,_,_]) rfl ?_
           refine we_join (v32_3 != v58_3) hE [10, 9, 7, 4, 1, 68] rfl (fun _ _ hφ => ask [0, 1] rfl hφ) rfl
         ·
          rintro j_5_68 hE
          try dsimp only
          have hm := hLj_5
          rw [hE] at hm
          refine wc_cond rfl (fun hb68 => ?_) (fun hb68 => ?_)
          ·
           replace hm := iteT hm hb68
           refine wc_keep [] (S' := []) rfl ?_
           refine wc_seq ?_
           refine wc_region ?_
           refine wl_pure rfl rfl rfl (freshS_eq rfl) rfl ?_
           refine wl_nil ?_
           refine we_then ?_
           refine wc_ret ?_
           refine we_then_ret ?_
           have hE := (Option.some.inj hm).symm
           replace hE := link_inr hLj_3 hE
           replace hE := hE.symm
           subst hE
           refine ret_one (Hr := []) [] Tryd.results5 (res_tmp rfl) ⟨rfl, rfl, rfl⟩ (fun _ _ hφ => ask [] rfl hφ) rfl rfl (.inl rfl)
          ·
           replace hm := iteF hm hb68
           refine wc_keep [10, 9, 7, 4, 1] (S' := [_,_,_,_,_]) rfl ?_
           refine wc_skip ?_
           have hE := (Option.some.inj hm).symm
           refine we_join () hE [10, 9, 7, 4, 1] rfl (fun _ _ hφ => ask [0, 1] rfl hφ) rfl
       ·
        replace hm := iteF hm hb44
        refine wc_keep [10, 9, 7, 4, 1] (S' := [_,_,_,_,_]) rfl ?_
        refine wc_skip ?_
        have hE := (Option.some.inj hm).symm
        refine we_join () hE [10, 9, 7, 4, 1] rfl (fun _ _ hφ => ask [0, 1] rfl hφ) rfl
      ·
       rintro _ hE
       try dsimp only
       have hm := link_inl hLj_3 hE
       try dsimp only at hm
       refine wc_seq ?_
       refine wc_seq ?_
       refine wc_region ?_
       refine wl_pure rfl rfl rfl (freshS_eq rfl) rfl ?_
       refine wl_pure rfl rfl rfl (freshS_eq rfl) rfl ?_
       refine wl_as (d := 70) (v' := .bool (v32_3 != 0)) (S' := [_,_,_,_,_,_]) rfl rfl (natne (a := v32_3) (b := 0)) ?_
       refine wl_nil ?_
       refine we_then ?_
       refine wc_keep [70, 9, 7, 4, 1] (S' := [_,_,_,_,_]) rfl ?_
       refine wc_cond rfl (fun hb70 => ?_) (fun hb70 => ?_)
       ·
        replace hm := iteT hm hb70
        refine wc_keep [] (S' := []) rfl ?_
        refine wc_seq ?_
        refine wc_region ?_
        refine wl_pure rfl rfl rfl (freshS_eq rfl) rfl ?_
        refine wl_nil ?_
        refine we_then ?_
        refine wc_ret ?_
        refine we_then_ret ?_
        have hE := (Option.some.inj hm).symm
        replace hE := hE.symm
        subst hE
        refine ret_one (Hr := []) [] Tryd.results5 (res_tmp rfl) ⟨rfl, rfl, rfl⟩ (fun _ _ hφ => ask [] rfl hφ) rfl rfl (.inl rfl)
       ·
        replace hm := iteF hm hb70
        refine wc_keep [9, 7, 4, 1] (S' := [_,_,_,_]) rfl ?_
        refine wc_skip ?_
        refine we_then ?_
        refine wc_seq ?_
        obtain ⟨hg75, hm⟩ := gd_some hm
        obtain ⟨hg78, hm⟩ := gd_some hm
        obtain ⟨⟨v79_0, v79_1, v79_2, v79_3⟩, hc79, hm⟩ := bindO_some hm
        try dsimp only at hm
        refine wc_cut (σ := Nat) (fun _ => True) (fun w_6_14_g => [(15, .int .i64 ((v79_3 : Nat) : Int)), (14, .pointer (some ⟨w_6_14_g, 0, none⟩)), (9, .pointer (some ⟨g9, 0, none⟩))]) (fun w_6_14_g => []) (fun w_6_14_g => [.blk w_6_14_g [.int .u8 v79_0, .int .i64 v79_1, .string v79_2] 25, .blk g9 [.int .u8 v32_0, .int .i64 v32_1, .string v32_2] 25]) ?_ ?_
        ·
         refine wc_draw [0, 2, 4, 8, 9, 10] rfl rfl (fun hok => ?_)
         refine wx_loadH hok 0 2 0 rfl rfl rfl (freshS_eq rfl) rfl rfl rfl rfl (cs := [_,_,_,_,_,_,_]) rfl tS_29 tA_29 rfl rfl ?_
         refine wx_pure hok 2 rfl rfl rfl (freshS_eq rfl) rfl rfl ?_
         refine wx_loadH hok 4 1 0 rfl rfl rfl (freshS_eq rfl) rfl rfl rfl rfl (cs := [_,_,_]) rfl tS_25 tA_25 rfl rfl ?_
         refine wx_step3 hok 1 5 11 rfl rfl rfl rfl rfl rfl rfl rfl ?_ ?_ ?_
         ·
          refine wl_buildSlice rfl rfl rfl (freshS_eq rfl) rfl tE_30 tS_25 tZ_25 rfl (zs := []) (by kernel_rfl) rfl (out := []) rfl (fun g73 => ?_)
          refine wl_nil ?_
          refine we_x [0, 1] [2, 3] rfl rfl ?_
          refine wx_step3 hok 3 5 11 rfl rfl rfl rfl rfl rfl rfl rfl ?_ ?_ ?_
          ·
           refine wl_row (sz := 3) (m := 0) R_V [] 0 rfl (fun F w hφ => rfl) rfl (by decide) (H' := [_,_,_,_]) rfl ?_
           refine wl_append 0 1 rfl rfl rfl (freshS_eq rfl) rfl rfl rfl rfl rfl tE_30 tR_25 rfl rfl (Nat.le_trans hg75 (by decide)) (Nat.le_trans (Nat.mul_le_mul_right _ hg75) (by decide)) (H2 := fun p75 c75 => [.own 25 3 R_V (.slice p75 (l7).length c75) l7, .blk g9 [.int .u8 v32_0, .int .i64 v32_1, .string v32_2] 25, .blk g7 [.int .u8 a9, .int .i64 a10, .string a11] 25, .blk g4 [.int .u8 a0, .int .u8 a1, .int .i64 a2, .string a3, .int .i64 a4, .int .u8 a5, .slice qp0 l6.length qc1] 29]) (fun _ _ => rfl) (fun p75 c75 => ?_)
           refine wl_nil ?_
           refine we_x [0, 1] [2, 3] rfl rfl ?_
           refine wx_step2 hok 5 11 rfl rfl rfl rfl rfl rfl ?_ ?_
           ·
            refine wl_buildSlice rfl rfl rfl (freshS_eq rfl) rfl tE_30 tS_25 tZ_25 rfl (zs := [.int .u8 0, .int .i64 0, .string ((⟨#[]⟩ : ByteArray))]) (by kernel_rfl) rfl (out := [_,_,_]) rfl (fun g77 => ?_)
            refine wl_nil ?_
            refine we_x [0, 1] [4] rfl rfl ?_
            refine wx_step2 hok 6 11 rfl rfl rfl rfl rfl rfl ?_ ?_
            ·
             refine wl_appendH ([(⟨a9, a10, a11⟩ : V)]) 1 0 rfl rfl rfl (freshS_eq rfl) rfl rfl rfl rfl rfl (fun F w hφ => ⟨[.int .u8 a9, .int .i64 a10, .string a11], [], rfl, rfl, ⟨(), rfl, ask_nil⟩, rfl⟩) tE_30 tR_25 rfl rfl (Nat.le_trans hg78 (by decide)) (Nat.le_trans (Nat.mul_le_mul_right _ hg78) (by decide)) (H2 := fun p78 c78 => [.blk g77 [.int .u8 a9, .int .i64 a10, .string a11] 25, .own 25 3 R_V (.slice p78 ((l7 ++ ([(⟨a9, a10, a11⟩ : V)])).length) c78) (l7 ++ ([(⟨a9, a10, a11⟩ : V)])), .blk g9 [.int .u8 v32_0, .int .i64 v32_1, .string v32_2] 25, .blk g7 [.int .u8 a9, .int .i64 a10, .string a11] 25, .blk g4 [.int .u8 a0, .int .u8 a1, .int .i64 a2, .string a3, .int .i64 a4, .int .u8 a5, .slice qp0 l6.length qc1] 29]) (fun _ _ => rfl) (fun p78 c78 => ?_)
             refine wl_drop 0 rfl (H' := [_,_,_,_]) rfl ?_
             refine wl_nil ?_
             refine we_x [0, 1] [2, 3] rfl rfl ?_
             refine wx_step2 hok 7 11 rfl rfl rfl rfl rfl rfl ?_ ?_
             ·
              refine wl_lend [] [0, 1, 2, 3] [0] rfl rfl rfl (freshS_eq rfl) rfl rfl fn_10 rfl (w_expr_Eval_s N a0 a1 a2 a3 a4 a5 qp0 qc1 l6 p78 c78 (l7 ++ ([(⟨a9, a10, a11⟩ : V)])) _ _ _ _ hc79) (fun F w hφ hh => (ask_cons (hφ _ (mem_at (k := 0) rfl)) (ask_cons (own_sli (hh _ (mem_at (k := 0) rfl))) ask_nil))) (fun _ _ _ hR => by obtain ⟨rfl, rfl, rfl⟩ := hR; exact ⟨rfl, (fun _ h => free_nil h)⟩) rfl rfl (H' := [_,_,_,_]) rfl ?_
              rintro _ _ _ ⟨rfl, rfl, rfl⟩
              refine wl_nil ?_
              refine we_x [0, 1] [2] rfl rfl ?_
              refine wx_pure hok 8 rfl rfl rfl (freshS_eq rfl) rfl rfl ?_
              refine wx_pure hok 9 rfl rfl rfl (freshS_eq rfl) rfl rfl ?_
              refine wx_pure hok 10 rfl rfl rfl (freshS_eq rfl) rfl rfl ?_
              refine wx_step1 hok 11 rfl rfl rfl rfl ?_
              refine wl_alloc rfl rfl rfl (freshS_eq rfl) rfl tZ_25 rfl (fun g14 => ?_)
              refine wl_nil ?_
              refine we_x [0, 1] [3, 4] rfl rfl ?_
              refine wx_step1 hok 12 rfl rfl rfl rfl ?_
              refine wl_store 0 0 rfl rfl rfl rfl rfl rfl rfl tS_25 rfl rfl rfl (all' := [_,_,_]) rfl (H' := [_,_,_,_,_]) rfl ?_
              refine wl_nil ?_
              refine we_x [0, 1] [] rfl rfl ?_
              refine wx_step1 hok 13 rfl rfl rfl rfl ?_
              refine wl_pure rfl rfl rfl (freshS_eq rfl) rfl ?_
              refine wl_nil ?_
              refine we_x [0, 1] [] rfl rfl ?_
              refine wx_done hok rfl ?_
              refine we_pick [0, 2] rfl (H' := [_,_]) rfl ?_
              refine we_join g14 trivial [15, 14, 9] rfl (fun _ _ hφ => ask [] rfl hφ) rfl
             ·
              refine wl_alloc rfl rfl rfl (freshS_eq rfl) rfl tZ_25 rfl (fun g14 => ?_)
              refine wl_nil ?_
              refine we_x [0, 1] [3, 4] rfl rfl ?_
              refine wx_step1 hok 7 rfl rfl rfl rfl ?_
              refine wl_lend [] [0, 1, 2, 3, 4] [1] rfl rfl rfl (freshS_eq rfl) rfl rfl fn_10 rfl (w_expr_Eval_s N a0 a1 a2 a3 a4 a5 qp0 qc1 l6 p78 c78 (l7 ++ ([(⟨a9, a10, a11⟩ : V)])) _ _ _ _ hc79) (fun F w hφ hh => (ask_cons (hφ _ (mem_at (k := 0) rfl)) (ask_cons (own_sli (hh _ (mem_at (k := 0) rfl))) ask_nil))) (fun _ _ _ hR => by obtain ⟨rfl, rfl, rfl⟩ := hR; exact ⟨rfl, (fun _ h => free_nil h)⟩) rfl rfl (H' := [_,_,_,_,_]) rfl ?_
              rintro _ _ _ ⟨rfl, rfl, rfl⟩
              refine wl_nil ?_
              refine we_x [0, 1] [3] rfl rfl ?_
              refine wx_pure hok 8 rfl rfl rfl (freshS_eq rfl) rfl rfl ?_
              refine wx_pure hok 9 rfl rfl rfl (freshS_eq rfl) rfl rfl ?_
              refine wx_pure hok 10 rfl rfl rfl (freshS_eq rfl) rfl rfl ?_
              refine wx_step1 hok 12 rfl rfl rfl rfl ?_
              refine wl_store 0 0 rfl rfl rfl rfl rfl rfl rfl tS_25 rfl rfl rfl (all' := [_,_,_]) rfl (H' := [_,_,_,_,_]) rfl ?_
              refine wl_nil ?_
              refine we_x [0, 1] [] rfl rfl ?_
              refine wx_step1 hok 13 rfl rfl rfl rfl ?_
              refine wl_pure rfl rfl rfl (freshS_eq rfl) rfl ?_
              refine wl_nil ?_
              refine we_x [0, 1] [] rfl rfl ?_
              refine wx_done hok rfl ?_
              refine we_pick [0, 2] rfl (H' := [_,_]) rfl ?_
              refine we_join g14 trivial [15, 14, 9] rfl (fun _ _ hφ => ask [] rfl hφ) rfl
            ·
             refine wl_alloc rfl rfl rfl (freshS_eq rfl) rfl tZ_25 rfl (fun g14 => ?_)
             refine wl_nil ?_
             refine we_x [0, 1] [4, 5] rfl rfl ?_
             refine wx_step1 hok 6 rfl rfl rfl rfl ?_
             refine wl_appendH ([(⟨a9, a10, a11⟩ : V)]) 2 1 rfl rfl rfl (freshS_eq rfl) rfl rfl rfl rfl rfl (fun F w hφ => ⟨[.int .u8 a9, .int .i64 a10, .string a11], [], rfl, rfl, ⟨(), rfl, ask_nil⟩, rfl⟩) tE_30 tR_25 rfl rfl (Nat.le_trans hg78 (by decide)) (Nat.le_trans (Nat.mul_le_mul_right _ hg78) (by decide)) (H2 := fun p78 c78 => [.blk g14 [.int .u8 0, .int .i64 0, .string ((⟨#[]⟩ : ByteArray))] 25, .blk g77 [.int .u8 a9, .int .i64 a10, .string a11] 25, .own 25 3 R_V (.slice p78 ((l7 ++ ([(⟨a9, a10, a11⟩ : V)])).length) c78) (l7 ++ ([(⟨a9, a10, a11⟩ : V)])), .blk g9 [.int .u8 v32_0, .int .i64 v32_1, .string v32_2] 25, .blk g7 [.int .u8 a9, .int .i64 a10, .string a11] 25, .blk g4 [.int .u8 a0, .int .u8 a1, .int .i64 a2, .string a3, .int .i64 a4, .int .u8 a5, .slice qp0 l6.length qc1] 29]) (fun _ _ => rfl) (fun p78 c78 => ?_)
             refine wl_drop 1 rfl (H' := [_,_,_,_,_]) rfl ?_
             refine wl_nil ?_
             refine we_x [0, 1] [3, 4] rfl rfl ?_
             refine wx_step1 hok 7 rfl rfl rfl rfl ?_
             refine wl_lend [] [0, 1, 2, 3, 4] [1] rfl rfl rfl (freshS_eq rfl) rfl rfl fn_10 rfl (w_expr_Eval_s N a0 a1 a2 a3 a4 a5 qp0 qc1 l6 p78 c78 (l7 ++ ([(⟨a9, a10, a11⟩ : V)])) _ _ _ _ hc79) (fun F w hφ hh => (ask_cons (hφ _ (mem_at (k := 0) rfl)) (ask_cons (own_sli (hh _ (mem_at (k := 0) rfl))) ask_nil))) (fun _ _ _ hR => by obtain ⟨rfl, rfl, rfl⟩ := hR; exact ⟨rfl, (fun _ h => free_nil h)⟩) rfl rfl (H' := [_,_,_,_,_]) rfl ?_
             rintro _ _ _ ⟨rfl, rfl, rfl⟩
             refine wl_nil ?_
             refine we_x [0, 1] [3] rfl rfl ?_
             refine wx_pure hok 8 rfl rfl rfl (freshS_eq rfl) rfl rfl ?_
             refine wx_pure hok 9 rfl rfl rfl (freshS_eq rfl) rfl rfl ?_
             refine wx_pure hok 10 rfl rfl rfl (freshS_eq rfl) rfl rfl ?_
             refine wx_step1 hok 12 rfl rfl rfl rfl ?_
             refine wl_store 0 0 rfl rfl rfl rfl rfl rfl rfl tS_25 rfl rfl rfl (all' := [_,_,_]) rfl (H' := [_,_,_,_,_]) rfl ?_
             refine wl_nil ?_
             refine we_x [0, 1] [] rfl rfl ?_
             refine wx_step1 hok 13 rfl rfl rfl rfl ?_
             refine wl_pure rfl rfl rfl (freshS_eq rfl) rfl ?_
             refine wl_nil ?_
             refine we_x [0, 1] [] rfl rfl ?_
             refine wx_done hok rfl ?_
             refine we_pick [0, 2] rfl (H' := [_,_]) rfl ?_
             refine we_join g14 trivial [15, 14, 9] rfl (fun _ _ hφ => ask [] rfl hφ) rfl
           ·
            refine wl_alloc rfl rfl rfl (freshS_eq rfl) rfl tZ_25 rfl (fun g14 => ?_)
            refine wl_nil ?_
            refine we_x [0, 1] [3, 4] rfl rfl ?_
            refine wx_step1 hok 5 rfl rfl rfl rfl ?_
            refine wl_buildSlice rfl rfl rfl (freshS_eq rfl) rfl tE_30 tS_25 tZ_25 rfl (zs := [.int .u8 0, .int .i64 0, .string ((⟨#[]⟩ : ByteArray))]) (by kernel_rfl) rfl (out := [_,_,_]) rfl (fun g77 => ?_)
            refine wl_nil ?_
            refine we_x [0, 1] [5] rfl rfl ?_
            refine wx_step1 hok 6 rfl rfl rfl rfl ?_
            refine wl_appendH ([(⟨a9, a10, a11⟩ : V)]) 2 0 rfl rfl rfl (freshS_eq rfl) rfl rfl rfl rfl rfl (fun F w hφ => ⟨[.int .u8 a9, .int .i64 a10, .string a11], [], rfl, rfl, ⟨(), rfl, ask_nil⟩, rfl⟩) tE_30 tR_25 rfl rfl (Nat.le_trans hg78 (by decide)) (Nat.le_trans (Nat.mul_le_mul_right _ hg78) (by decide)) (H2 := fun p78 c78 => [.blk g77 [.int .u8 a9, .int .i64 a10, .string a11] 25, .blk g14 [.int .u8 0, .int .i64 0, .string ((⟨#[]⟩ : ByteArray))] 25, .own 25 3 R_V (.slice p78 ((l7 ++ ([(⟨a9, a10, a11⟩ : V)])).length) c78) (l7 ++ ([(⟨a9, a10, a11⟩ : V)])), .blk g9 [.int .u8 v32_0, .int .i64 v32_1, .string v32_2] 25, .blk g7 [.int .u8 a9, .int .i64 a10, .string a11] 25, .blk g4 [.int .u8 a0, .int .u8 a1, .int .i64 a2, .string a3, .int .i64 a4, .int .u8 a5, .slice qp0 l6.length qc1] 29]) (fun _ _ => rfl) (fun p78 c78 => ?_)
            refine wl_drop 0 rfl (H' := [_,_,_,_,_]) rfl ?_
            refine wl_nil ?_
            refine we_x [0, 1] [3, 4] rfl rfl ?_
            refine wx_step1 hok 7 rfl rfl rfl rfl ?_
            refine wl_lend [] [0, 1, 2, 3, 4] [1] rfl rfl rfl (freshS_eq rfl) rfl rfl fn_10 rfl (w_expr_Eval_s N a0 a1 a2 a3 a4 a5 qp0 qc1 l6 p78 c78 (l7 ++ ([(⟨a9, a10, a11⟩ : V)])) _ _ _ _ hc79) (fun F w hφ hh => (ask_cons (hφ _ (mem_at (k := 0) rfl)) (ask_cons (own_sli (hh _ (mem_at (k := 0) rfl))) ask_nil))) (fun _ _ _ hR => by obtain ⟨rfl, rfl, rfl⟩ := hR; exact ⟨rfl, (fun _ h => free_nil h)⟩) rfl rfl (H' := [_,_,_,_,_]) rfl ?_
            rintro _ _ _ ⟨rfl, rfl, rfl⟩
            refine wl_nil ?_
            refine we_x [0, 1] [3] rfl rfl ?_
            refine wx_pure hok 8 rfl rfl rfl (freshS_eq rfl) rfl rfl ?_
            refine wx_pure hok 9 rfl rfl rfl (freshS_eq rfl) rfl rfl ?_
            refine wx_pure hok 10 rfl rfl rfl (freshS_eq rfl) rfl rfl ?_
            refine wx_step1 hok 12 rfl rfl rfl rfl ?_
            refine wl_store 0 0 rfl rfl rfl rfl rfl rfl rfl tS_25 rfl rfl rfl (all' := [_,_,_]) rfl (H' := [_,_,_,_,_]) rfl ?_
            refine wl_nil ?_
            refine we_x [0, 1] [] rfl rfl ?_
            refine wx_step1 hok 13 rfl rfl rfl rfl ?_
            refine wl_pure rfl rfl rfl (freshS_eq rfl) rfl ?_
            refine wl_nil ?_
            refine we_x [0, 1] [] rfl rfl ?_
            refine wx_done hok rfl ?_
            refine we_pick [0, 2] rfl (H' := [_,_]) rfl ?_
            refine we_join g14 trivial [15, 14, 9] rfl (fun _ _ hφ => ask [] rfl hφ) rfl
          ·
           refine wl_buildSlice rfl rfl rfl (freshS_eq rfl) rfl tE_30 tS_25 tZ_25 rfl (zs := [.int .u8 0, .int .i64 0, .string ((⟨#[]⟩ : ByteArray))]) (by kernel_rfl) rfl (out := [_,_,_]) rfl (fun g77 => ?_)
           refine wl_nil ?_
           refine we_x [0, 1] [4] rfl rfl ?_
           refine wx_step2 hok 3 11 rfl rfl rfl rfl rfl rfl ?_ ?_
           ·
            refine wl_row (sz := 3) (m := 0) R_V [] 1 rfl (fun F w hφ => rfl) rfl (by decide) (H' := [_,_,_,_,_]) rfl ?_
            refine wl_append 1 1 rfl rfl rfl (freshS_eq rfl) rfl rfl rfl rfl rfl tE_30 tR_25 rfl rfl (Nat.le_trans hg75 (by decide)) (Nat.le_trans (Nat.mul_le_mul_right _ hg75) (by decide)) (H2 := fun p75 c75 => [.blk g77 [.int .u8 a9, .int .i64 a10, .string a11] 25, .own 25 3 R_V (.slice p75 (l7).length c75) l7, .blk g9 [.int .u8 v32_0, .int .i64 v32_1, .string v32_2] 25, .blk g7 [.int .u8 a9, .int .i64 a10, .string a11] 25, .blk g4 [.int .u8 a0, .int .u8 a1, .int .i64 a2, .string a3, .int .i64 a4, .int .u8 a5, .slice qp0 l6.length qc1] 29]) (fun _ _ => rfl) (fun p75 c75 => ?_)
            refine wl_nil ?_
            refine we_x [0, 1] [3, 4] rfl rfl ?_
            refine wx_step2 hok 6 11 rfl rfl rfl rfl rfl rfl ?_ ?_
            ·
             refine wl_appendH ([(⟨a9, a10, a11⟩ : V)]) 1 0 rfl rfl rfl (freshS_eq rfl) rfl rfl rfl rfl rfl (fun F w hφ => ⟨[.int .u8 a9, .int .i64 a10, .string a11], [], rfl, rfl, ⟨(), rfl, ask_nil⟩, rfl⟩) tE_30 tR_25 rfl rfl (Nat.le_trans hg78 (by decide)) (Nat.le_trans (Nat.mul_le_mul_right _ hg78) (by decide)) (H2 := fun p78 c78 => [.blk g77 [.int .u8 a9, .int .i64 a10, .string a11] 25, .own 25 3 R_V (.slice p78 ((l7 ++ ([(⟨a9, a10, a11⟩ : V)])).length) c78) (l7 ++ ([(⟨a9, a10, a11⟩ : V)])), .blk g9 [.int .u8 v32_0, .int .i64 v32_1, .string v32_2] 25, .blk g7 [.int .u8 a9, .int .i64 a10, .string a11] 25, .blk g4 [.int .u8 a0, .int .u8 a1, .int .i64 a2, .string a3, .int .i64 a4, .int .u8 a5, .slice qp0 l6.length qc1] 29]) (fun _ _ => rfl) (fun p78 c78 => ?_)
             refine wl_drop 0 rfl (H' := [_,_,_,_]) rfl ?_
             refine wl_nil ?_
             refine we_x [0, 1] [2, 3] rfl rfl ?_
             refine wx_step2 hok 7 11 rfl rfl rfl rfl rfl rfl ?_ ?_
             ·
              refine wl_lend [] [0, 1, 2, 3] [0] rfl rfl rfl (freshS_eq rfl) rfl rfl fn_10 rfl (w_expr_Eval_s N a0 a1 a2 a3 a4 a5 qp0 qc1 l6 p78 c78 (l7 ++ ([(⟨a9, a10, a11⟩ : V)])) _ _ _ _ hc79) (fun F w hφ hh => (ask_cons (hφ _ (mem_at (k := 0) rfl)) (ask_cons (own_sli (hh _ (mem_at (k := 0) rfl))) ask_nil))) (fun _ _ _ hR => by obtain ⟨rfl, rfl, rfl⟩ := hR; exact ⟨rfl, (fun _ h => free_nil h)⟩) rfl rfl (H' := [_,_,_,_]) rfl ?_
              rintro _ _ _ ⟨rfl, rfl, rfl⟩
              refine wl_nil ?_
              refine we_x [0, 1] [2] rfl rfl ?_
              refine wx_pure hok 8 rfl rfl rfl (freshS_eq rfl) rfl rfl ?_
              refine wx_pure hok 9 rfl rfl rfl (freshS_eq rfl) rfl rfl ?_
              refine wx_pure hok 10 rfl rfl rfl (freshS_eq rfl) rfl rfl ?_
              refine wx_step1 hok 11 rfl rfl rfl rfl ?_
              refine wl_alloc rfl rfl rfl (freshS_eq rfl) rfl tZ_25 rfl (fun g14 => ?_)
              refine wl_nil ?_
              refine we_x [0, 1] [3, 4] rfl rfl ?_
              refine wx_step1 hok 12 rfl rfl rfl rfl ?_
              refine wl_store 0 0 rfl rfl rfl rfl rfl rfl rfl tS_25 rfl rfl rfl (all' := [_,_,_]) rfl (H' := [_,_,_,_,_]) rfl ?_
              refine wl_nil ?_
              refine we_x [0, 1] [] rfl rfl ?_
              refine wx_step1 hok 13 rfl rfl rfl rfl ?_
              refine wl_pure rfl rfl rfl (freshS_eq rfl) rfl ?_
              refine wl_nil ?_
              refine we_x [0, 1] [] rfl rfl ?_
              refine wx_done hok rfl ?_
              refine we_pick [0, 2] rfl (H' := [_,_]) rfl ?_
              refine we_join g14 trivial [15, 14, 9] rfl (fun _ _ hφ => ask [] rfl hφ) rfl
             ·
              refine wl_alloc rfl rfl rfl (freshS_eq rfl) rfl tZ_25 rfl (fun g14 => ?_)
              refine wl_nil ?_
              refine we_x [0, 1] [3, 4] rfl rfl ?_
              refine wx_step1 hok 7 rfl rfl rfl rfl ?_
              refine wl_lend [] [0, 1, 2, 3, 4] [1] rfl rfl rfl (freshS_eq rfl) rfl rfl fn_10 rfl (w_expr_Eval_s N a0 a1 a2 a3 a4 a5 qp0 qc1 l6 p78 c78 (l7 ++ ([(⟨a9, a10, a11⟩ : V)])) _ _ _ _ hc79) (fun F w hφ hh => (ask_cons (hφ _ (mem_at (k := 0) rfl)) (ask_cons (own_sli (hh _ (mem_at (k := 0) rfl))) ask_nil))) (fun _ _ _ hR => by obtain ⟨rfl, rfl, rfl⟩ := hR; exact ⟨rfl, (fun _ h => free_nil h)⟩) rfl rfl (H' := [_,_,_,_,_]) rfl ?_
              rintro _ _ _ ⟨rfl, rfl, rfl⟩
              refine wl_nil ?_
              refine we_x [0, 1] [3] rfl rfl ?_
              refine wx_pure hok 8 rfl rfl rfl (freshS_eq rfl) rfl rfl ?_
              refine wx_pure hok 9 rfl rfl rfl (freshS_eq rfl) rfl rfl ?_
              refine wx_pure hok 10 rfl rfl rfl (freshS_eq rfl) rfl rfl ?_
              refine wx_step1 hok 12 rfl rfl rfl rfl ?_
              refine wl_store 0 0 rfl rfl rfl rfl rfl rfl rfl tS_25 rfl rfl rfl (all' := [_,_,_]) rfl (H' := [_,_,_,_,_]) rfl ?_
              refine wl_nil ?_
              refine we_x [0, 1] [] rfl rfl ?_
              refine wx_step1 hok 13 rfl rfl rfl rfl ?_
              refine wl_pure rfl rfl rfl (freshS_eq rfl) rfl ?_
              refine wl_nil ?_
              refine we_x [0, 1] [] rfl rfl ?_
              refine wx_done hok rfl ?_
              refine we_pick [0, 2] rfl (H' := [_,_]) rfl ?_
              refine we_join g14 trivial [15, 14, 9] rfl (fun _ _ hφ => ask [] rfl hφ) rfl
            ·
             refine wl_alloc rfl rfl rfl (freshS_eq rfl) rfl tZ_25 rfl (fun g14 => ?_)
             refine wl_nil ?_
             refine we_x [0, 1] [4, 5] rfl rfl ?_
             refine wx_step1 hok 6 rfl rfl rfl rfl ?_
             refine wl_appendH ([(⟨a9, a10, a11⟩ : V)]) 2 1 rfl rfl rfl (freshS_eq rfl) rfl rfl rfl rfl rfl (fun F w hφ => ⟨[.int .u8 a9, .int .i64 a10, .string a11], [], rfl, rfl, ⟨(), rfl, ask_nil⟩, rfl⟩) tE_30 tR_25 rfl rfl (Nat.le_trans hg78 (by decide)) (Nat.le_trans (Nat.mul_le_mul_right _ hg78) (by decide)) (H2 := fun p78 c78 => [.blk g14 [.int .u8 0, .int .i64 0, .string ((⟨#[]⟩ : ByteArray))] 25, .blk g77 [.int .u8 a9, .int .i64 a10, .string a11] 25, .own 25 3 R_V (.slice p78 ((l7 ++ ([(⟨a9, a10, a11⟩ : V)])).length) c78) (l7 ++ ([(⟨a9, a10, a11⟩ : V)])), .blk g9 [.int .u8 v32_0, .int .i64 v32_1, .string v32_2] 25, .blk g7 [.int .u8 a9, .int .i64 a10, .string a11] 25, .blk g4 [.int .u8 a0, .int .u8 a1, .int .i64 a2, .string a3, .int .i64 a4, .int .u8 a5, .slice qp0 l6.length qc1] 29]) (fun _ _ => rfl) (fun p78 c78 => ?_)
             refine wl_drop 1 rfl (H' := [_,_,_,_,_]) rfl ?_
             refine wl_nil ?_
             refine we_x [0, 1] [3, 4] rfl rfl ?_
             refine wx_step1 hok 7 rfl rfl rfl rfl ?_
             refine wl_lend [] [0, 1, 2, 3, 4] [1] rfl rfl rfl (freshS_eq rfl) rfl rfl fn_10 rfl (w_expr_Eval_s N a0 a1 a2 a3 a4 a5 qp0 qc1 l6 p78 c78 (l7 ++ ([(⟨a9, a10, a11⟩ : V)])) _ _ _ _ hc79) (fun F w hφ hh => (ask_cons (hφ _ (mem_at (k := 0) rfl)) (ask_cons (own_sli (hh _ (mem_at (k := 0) rfl))) ask_nil))) (fun _ _ _ hR => by obtain ⟨rfl, rfl, rfl⟩ := hR; exact ⟨rfl, (fun _ h => free_nil h)⟩) rfl rfl (H' := [_,_,_,_,_]) rfl ?_
             rintro _ _ _ ⟨rfl, rfl, rfl⟩
             refine wl_nil ?_
             refine we_x [0, 1] [3] rfl rfl ?_
             refine wx_pure hok 8 rfl rfl rfl (freshS_eq rfl) rfl rfl ?_
             refine wx_pure hok 9 rfl rfl rfl (freshS_eq rfl) rfl rfl ?_
             refine wx_pure hok 10 rfl rfl rfl (freshS_eq rfl) rfl rfl ?_
             refine wx_step1 hok 12 rfl rfl rfl rfl ?_
             refine wl_store 0 0 rfl rfl rfl rfl rfl rfl rfl tS_25 rfl rfl rfl (all' := [_,_,_]) rfl (H' := [_,_,_,_,_]) rfl ?_
             refine wl_nil ?_
             refine we_x [0, 1] [] rfl rfl ?_
             refine wx_step1 hok 13 rfl rfl rfl rfl ?_
             refine wl_pure rfl rfl rfl (freshS_eq rfl) rfl ?_
             refine wl_nil ?_
             refine we_x [0, 1] [] rfl rfl ?_
             refine wx_done hok rfl ?_
             refine we_pick [0, 2] rfl (H' := [_,_]) rfl ?_
             refine we_join g14 trivial [15, 14, 9] rfl (fun _ _ hφ => ask [] rfl hφ) rfl
           ·
            refine wl_alloc rfl rfl rfl (freshS_eq rfl) rfl tZ_25 rfl (fun g14 => ?_)
            refine wl_nil ?_
            refine we_x [0, 1] [4, 5] rfl rfl ?_
            refine wx_step1 hok 3 rfl rfl rfl rfl ?_
            refine wl_row (sz := 3) (m := 0) R_V [] 2 rfl (fun F w hφ => rfl) rfl (by decide) (H' := [_,_,_,_,_,_]) rfl ?_
            refine wl_append 2 1 rfl rfl rfl (freshS_eq rfl) rfl rfl rfl rfl rfl tE_30 tR_25 rfl rfl (Nat.le_trans hg75 (by decide)) (Nat.le_trans (Nat.mul_le_mul_right _ hg75) (by decide)) (H2 := fun p75 c75 => [.blk g14 [.int .u8 0, .int .i64 0, .string ((⟨#[]⟩ : ByteArray))] 25, .blk g77 [.int .u8 a9, .int .i64 a10, .string a11] 25, .own 25 3 R_V (.slice p75 (l7).length c75) l7, .blk g9 [.int .u8 v32_0, .int .i64 v32_1, .string v32_2] 25, .blk g7 [.int .u8 a9, .int .i64 a10, .string a11] 25, .blk g4 [.int .u8 a0, .int .u8 a1, .int .i64 a2, .string a3, .int .i64 a4, .int .u8 a5, .slice qp0 l6.length qc1] 29]) (fun _ _ => rfl) (fun p75 c75 => ?_)
            refine wl_nil ?_
            refine we_x [0, 1] [4, 5] rfl rfl ?_
            refine wx_step1 hok 6 rfl rfl rfl rfl ?_
            refine wl_appendH ([(⟨a9, a10, a11⟩ : V)]) 2 1 rfl rfl rfl (freshS_eq rfl) rfl rfl rfl rfl rfl (fun F w hφ => ⟨[.int .u8 a9, .int .i64 a10, .string a11], [], rfl, rfl, ⟨(), rfl, ask_nil⟩, rfl⟩) tE_30 tR_25 rfl rfl (Nat.le_trans hg78 (by decide)) (Nat.le_trans (Nat.mul_le_mul_right _ hg78) (by decide)) (H2 := fun p78 c78 => [.blk g14 [.int .u8 0, .int .i64 0, .string ((⟨#[]⟩ : ByteArray))] 25, .blk g77 [.int .u8 a9, .int .i64 a10, .string a11] 25, .own 25 3 R_V (.slice p78 ((l7 ++ ([(⟨a9, a10, a11⟩ : V)])).length) c78) (l7 ++ ([(⟨a9, a10, a11⟩ : V)])), .blk g9 [.int .u8 v32_0, .int .i64 v32_1, .string v32_2] 25, .blk g7 [.int .u8 a9, .int .i64 a10, .string a11] 25, .blk g4 [.int .u8 a0, .int .u8 a1, .int .i64 a2, .string a3, .int .i64 a4, .int .u8 a5, .slice qp0 l6.length qc1] 29]) (fun _ _ => rfl) (fun p78 c78 => ?_)
            refine wl_drop 1 rfl (H' := [_,_,_,_,_]) rfl ?_
            refine wl_nil ?_
            refine we_x [0, 1] [3, 4] rfl rfl ?_
            refine wx_step1 hok 7 rfl rfl rfl rfl ?_
            refine wl_lend [] [0, 1, 2, 3, 4] [1] rfl rfl rfl (freshS_eq rfl) rfl rfl fn_10 rfl (w_expr_Eval_s N a0 a1 a2 a3 a4 a5 qp0 qc1 l6 p78 c78 (l7 ++ ([(⟨a9, a10, a11⟩ : V)])) _ _ _ _ hc79) (fun F w hφ hh => (ask_cons (hφ _ (mem_at (k := 0) rfl)) (ask_cons (own_sli (hh _ (mem_at (k := 0) rfl))) ask_nil))) (fun _ _ _ hR => by obtain ⟨rfl, rfl, rfl⟩ := hR; exact ⟨rfl, (fun _ h => free_nil h)⟩) rfl rfl (H' := [_,_,_,_,_]) rfl ?_
            rintro _ _ _ ⟨rfl, rfl, rfl⟩
            refine wl_nil ?_
            refine we_x [0, 1] [3] rfl rfl ?_
            refine wx_pure hok 8 rfl rfl rfl (freshS_eq rfl) rfl rfl ?_
            refine wx_pure hok 9 rfl rfl rfl (freshS_eq rfl) rfl rfl ?_
            refine wx_pure hok 10 rfl rfl rfl (freshS_eq rfl) rfl rfl ?_
            refine wx_step1 hok 12 rfl rfl rfl rfl ?_
            refine wl_store 0 0 rfl rfl rfl rfl rfl rfl rfl tS_25 rfl rfl rfl (all' := [_,_,_]) rfl (H' := [_,_,_,_,_]) rfl ?_
            refine wl_nil ?_
            refine we_x [0, 1] [] rfl rfl ?_
            refine wx_step1 hok 13 rfl rfl rfl rfl ?_
            refine wl_pure rfl rfl rfl (freshS_eq rfl) rfl ?_
            refine wl_nil ?_
            refine we_x [0, 1] [] rfl rfl ?_
            refine wx_done hok rfl ?_
            refine we_pick [0, 2] rfl (H' := [_,_]) rfl ?_
            refine we_join g14 trivial [15, 14, 9] rfl (fun _ _ hφ => ask [] rfl hφ) rfl
          ·
           refine wl_alloc rfl rfl rfl (freshS_eq rfl) rfl tZ_25 rfl (fun g14 => ?_)
           refine wl_nil ?_
           refine we_x [0, 1] [3, 4] rfl rfl ?_
           refine wx_step2 hok 3 5 rfl rfl rfl rfl rfl rfl ?_ ?_
           ·
            refine wl_row (sz := 3) (m := 0) R_V [] 1 rfl (fun F w hφ => rfl) rfl (by decide) (H' := [_,_,_,_,_]) rfl ?_
            refine wl_append 1 1 rfl rfl rfl (freshS_eq rfl) rfl rfl rfl rfl rfl tE_30 tR_25 rfl rfl (Nat.le_trans hg75 (by decide)) (Nat.le_trans (Nat.mul_le_mul_right _ hg75) (by decide)) (H2 := fun p75 c75 => [.blk g14 [.int .u8 0, .int .i64 0, .string ((⟨#[]⟩ : ByteArray))] 25, .own 25 3 R_V (.slice p75 (l7).length c75) l7, .blk g9 [.int .u8 v32_0, .int .i64 v32_1, .string v32_2] 25, .blk g7 [.int .u8 a9, .int .i64 a10, .string a11] 25, .blk g4 [.int .u8 a0, .int .u8 a1, .int .i64 a2, .string a3, .int .i64 a4, .int .u8 a5, .slice qp0 l6.length qc1] 29]) (fun _ _ => rfl) (fun p75 c75 => ?_)
            refine wl_nil ?_
            refine we_x [0, 1] [3, 4] rfl rfl ?_
            refine wx_step1 hok 5 rfl rfl rfl rfl ?_
            refine wl_buildSlice rfl rfl rfl (freshS_eq rfl) rfl tE_30 tS_25 tZ_25 rfl (zs := [.int .u8 0, .int .i64 0, .string ((⟨#[]⟩ : ByteArray))]) (by kernel_rfl) rfl (out := [_,_,_]) rfl (fun g77 => ?_)
            refine wl_nil ?_
            refine we_x [0, 1] [5] rfl rfl ?_
            refine wx_step1 hok 6 rfl rfl rfl rfl ?_
            refine wl_appendH ([(⟨a9, a10, a11⟩ : V)]) 2 0 rfl rfl rfl (freshS_eq rfl) rfl rfl rfl rfl rfl (fun F w hφ => ⟨[.int .u8 a9, .int .i64 a10, .string a11], [], rfl, rfl, ⟨(), rfl, ask_nil⟩, rfl⟩) tE_30 tR_25 rfl rfl (Nat.le_trans hg78 (by decide)) (Nat.le_trans (Nat.mul_le_mul_right _ hg78) (by decide)) (H2 := fun p78 c78 => [.blk g77 [.int .u8 a9, .int .i64 a10, .string a11] 25, .blk g14 [.int .u8 0, .int .i64 0, .string ((⟨#[]⟩ : ByteArray))] 25, .own 25 3 R_V (.slice p78 ((l7 ++ ([(⟨a9, a10, a11⟩ : V)])).length) c78) (l7 ++ ([(⟨a9, a10, a11⟩ : V)])), .blk g9 [.int .u8 v32_0, .int .i64 v32_1, .string v32_2] 25, .blk g7 [.int .u8 a9, .int .i64 a10, .string a11] 25, .blk g4 [.int .u8 a0, .int .u8 a1, .int .i64 a2, .string a3, .int .i64 a4, .int .u8 a5, .slice qp0 l6.length qc1] 29]) (fun _ _ => rfl) (fun p78 c78 => ?_)
            refine wl_drop 0 rfl (H' := [_,_,_,_,_]) rfl ?_
            refine wl_nil ?_
            refine we_x [0, 1] [3, 4] rfl rfl ?_
            refine wx_step1 hok 7 rfl rfl rfl rfl ?_
            refine wl_lend [] [0, 1, 2, 3, 4] [1] rfl rfl rfl (freshS_eq rfl) rfl rfl fn_10 rfl (w_expr_Eval_s N a0 a1 a2 a3 a4 a5 qp0 qc1 l6 p78 c78 (l7 ++ ([(⟨a9, a10, a11⟩ : V)])) _ _ _ _ hc79) (fun F w hφ hh => (ask_cons (hφ _ (mem_at (k := 0) rfl)) (ask_cons (own_sli (hh _ (mem_at (k := 0) rfl))) ask_nil))) (fun _ _ _ hR => by obtain ⟨rfl, rfl, rfl⟩ := hR; exact ⟨rfl, (fun _ h => free_nil h)⟩) rfl rfl (H' := [_,_,_,_,_]) rfl ?_
            rintro _ _ _ ⟨rfl, rfl, rfl⟩
            refine wl_nil ?_
            refine we_x [0, 1] [3] rfl rfl ?_
            refine wx_pure hok 8 rfl rfl rfl (freshS_eq rfl) rfl rfl ?_
            refine wx_pure hok 9 rfl rfl rfl (freshS_eq rfl) rfl rfl ?_
            refine wx_pure hok 10 rfl rfl rfl (freshS_eq rfl) rfl rfl ?_
            refine wx_step1 hok 12 rfl rfl rfl rfl ?_
            refine wl_store 0 0 rfl rfl rfl rfl rfl rfl rfl tS_25 rfl rfl rfl (all' := [_,_,_]) rfl (H' := [_,_,_,_,_]) rfl ?_
            refine wl_nil ?_
            refine we_x [0, 1] [] rfl rfl ?_
            refine wx_step1 hok 13 rfl rfl rfl rfl ?_
            refine wl_pure rfl rfl rfl (freshS_eq rfl) rfl ?_
            refine wl_nil ?_
            refine we_x [0, 1] [] rfl rfl ?_
            refine wx_done hok rfl ?_
            refine we_pick [0, 2] rfl (H' := [_,_]) rfl ?_
            refine we_join g14 trivial [15, 14, 9] rfl (fun _ _ hφ => ask [] rfl hφ) rfl
           ·
            refine wl_buildSlice rfl rfl rfl (freshS_eq rfl) rfl tE_30 tS_25 tZ_25 rfl (zs := [.int .u8 0, .int .i64 0, .string ((⟨#[]⟩ : ByteArray))]) (by kernel_rfl) rfl (out := [_,_,_]) rfl (fun g77 => ?_)
            refine wl_nil ?_
            refine we_x [0, 1] [5] rfl rfl ?_
            refine wx_step1 hok 3 rfl rfl rfl rfl ?_
            refine wl_row (sz := 3) (m := 0) R_V [] 2 rfl (fun F w hφ => rfl) rfl (by decide) (H' := [_,_,_,_,_,_]) rfl ?_
            refine wl_append 2 1 rfl rfl rfl (freshS_eq rfl) rfl rfl rfl rfl rfl tE_30 tR_25 rfl rfl (Nat.le_trans hg75 (by decide)) (Nat.le_trans (Nat.mul_le_mul_right _ hg75) (by decide)) (H2 := fun p75 c75 => [.blk g77 [.int .u8 a9, .int .i64 a10, .string a11] 25, .blk g14 [.int .u8 0, .int .i64 0, .string ((⟨#[]⟩ : ByteArray))] 25, .own 25 3 R_V (.slice p75 (l7).length c75) l7, .blk g9 [.int .u8 v32_0, .int .i64 v32_1, .string v32_2] 25, .blk g7 [.int .u8 a9, .int .i64 a10, .string a11] 25, .blk g4 [.int .u8 a0, .int .u8 a1, .int .i64 a2, .string a3, .int .i64 a4, .int .u8 a5, .slice qp0 l6.length qc1] 29]) (fun _ _ => rfl) (fun p75 c75 => ?_)
            refine wl_nil ?_
            refine we_x [0, 1] [4, 5] rfl rfl ?_
            refine wx_step1 hok 6 rfl rfl rfl rfl ?_
            refine wl_appendH ([(⟨a9, a10, a11⟩ : V)]) 2 0 rfl rfl rfl (freshS_eq rfl) rfl rfl rfl rfl rfl (fun F w hφ => ⟨[.int .u8 a9, .int .i64 a10, .string a11], [], rfl, rfl, ⟨(), rfl, ask_nil⟩, rfl⟩) tE_30 tR_25 rfl rfl (Nat.le_trans hg78 (by decide)) (Nat.le_trans (Nat.mul_le_mul_right _ hg78) (by decide)) (H2 := fun p78 c78 => [.blk g77 [.int .u8 a9, .int .i64 a10, .string a11] 25, .blk g14 [.int .u8 0, .int .i64 0, .string ((⟨#[]⟩ : ByteArray))] 25, .own 25 3 R_V (.slice p78 ((l7 ++ ([(⟨a9, a10, a11⟩ : V)])).length) c78) (l7 ++ ([(⟨a9, a10, a11⟩ : V)])), .blk g9 [.int .u8 v32_0, .int .i64 v32_1, .string v32_2] 25, .blk g7 [.int .u8 a9, .int .i64 a10, .string a11] 25, .blk g4 [.int .u8 a0, .int .u8 a1, .int .i64 a2, .string a3, .int .i64 a4, .int .u8 a5, .slice qp0 l6.length qc1] 29]) (fun _ _ => rfl) (fun p78 c78 => ?_)
            refine wl_drop 0 rfl (H' := [_,_,_,_,_]) rfl ?_
            refine wl_nil ?_
            refine we_x [0, 1] [3, 4] rfl rfl ?_
            refine wx_step1 hok 7 rfl rfl rfl rfl ?_
            refine wl_lend [] [0, 1, 2, 3, 4] [1] rfl rfl rfl (freshS_eq rfl) rfl rfl fn_10 rfl (w_expr_Eval_s N a0 a1 a2 a3 a4 a5 qp0 qc1 l6 p78 c78 (l7 ++ ([(⟨a9, a10, a11⟩ : V)])) _ _ _ _ hc79) (fun F w hφ hh => (ask_cons (hφ _ (mem_at (k := 0) rfl)) (ask_cons (own_sli (hh _ (mem_at (k := 0) rfl))) ask_nil))) (fun _ _ _ hR => by obtain ⟨rfl, rfl, rfl⟩ := hR; exact ⟨rfl, (fun _ h => free_nil h)⟩) rfl rfl (H' := [_,_,_,_,_]) rfl ?_
            rintro _ _ _ ⟨rfl, rfl, rfl⟩
            refine wl_nil ?_
            refine we_x [0, 1] [3] rfl rfl ?_
            refine wx_pure hok 8 rfl rfl rfl (freshS_eq rfl) rfl rfl ?_
            refine wx_pure hok 9 rfl rfl rfl (freshS_eq rfl) rfl rfl ?_
            refine wx_pure hok 10 rfl rfl rfl (freshS_eq rfl) rfl rfl ?_
            refine wx_step1 hok 12 rfl rfl rfl rfl ?_
            refine wl_store 0 0 rfl rfl rfl rfl rfl rfl rfl tS_25 rfl rfl rfl (all' := [_,_,_]) rfl (H' := [_,_,_,_,_]) rfl ?_
            refine wl_nil ?_
            refine we_x [0, 1] [] rfl rfl ?_
            refine wx_step1 hok 13 rfl rfl rfl rfl ?_
            refine wl_pure rfl rfl rfl (freshS_eq rfl) rfl ?_
            refine wl_nil ?_
            refine we_x [0, 1] [] rfl rfl ?_
            refine wx_done hok rfl ?_
            refine we_pick [0, 2] rfl (H' := [_,_]) rfl ?_
            refine we_join g14 trivial [15, 14, 9] rfl (fun _ _ hφ => ask [] rfl hφ) rfl
         ·
          refine wl_buildSlice rfl rfl rfl (freshS_eq rfl) rfl tE_30 tS_25 tZ_25 rfl (zs := [.int .u8 0, .int .i64 0, .string ((⟨#[]⟩ : ByteArray))]) (by kernel_rfl) rfl (out := [_,_,_]) rfl (fun g77 => ?_)
          refine wl_nil ?_
          refine we_x [0, 1] [3] rfl rfl ?_
          refine wx_step2 hok 1 11 rfl rfl rfl rfl rfl rfl ?_ ?_
          ·
           refine wl_buildSlice rfl rfl rfl (freshS_eq rfl) rfl tE_30 tS_25 tZ_25 rfl (zs := []) (by kernel_rfl) rfl (out := []) rfl (fun g73 => ?_)
           refine wl_nil ?_
           refine we_x [0, 1] [3, 4] rfl rfl ?_
           refine wx_step2 hok 3 11 rfl rfl rfl rfl rfl rfl ?_ ?_
           ·
            refine wl_row (sz := 3) (m := 0) R_V [] 0 rfl (fun F w hφ => rfl) rfl (by decide) (H' := [_,_,_,_,_]) rfl ?_
            refine wl_append 0 1 rfl rfl rfl (freshS_eq rfl) rfl rfl rfl rfl rfl tE_30 tR_25 rfl rfl (Nat.le_trans hg75 (by decide)) (Nat.le_trans (Nat.mul_le_mul_right _ hg75) (by decide)) (H2 := fun p75 c75 => [.own 25 3 R_V (.slice p75 (l7).length c75) l7, .blk g77 [.int .u8 a9, .int .i64 a10, .string a11] 25, .blk g9 [.int .u8 v32_0, .int .i64 v32_1, .string v32_2] 25, .blk g7 [.int .u8 a9, .int .i64 a10, .string a11] 25, .blk g4 [.int .u8 a0, .int .u8 a1, .int .i64 a2, .string a3, .int .i64 a4, .int .u8 a5, .slice qp0 l6.length qc1] 29]) (fun _ _ => rfl) (fun p75 c75 => ?_)
            refine wl_nil ?_
            refine we_x [0, 1] [3, 4] rfl rfl ?_
            refine wx_step2 hok 6 11 rfl rfl rfl rfl rfl rfl ?_ ?_
            ·
             refine wl_appendH ([(⟨a9, a10, a11⟩ : V)]) 0 1 rfl rfl rfl (freshS_eq rfl) rfl rfl rfl rfl rfl (fun F w hφ => ⟨[.int .u8 a9, .int .i64 a10, .string a11], [], rfl, rfl, ⟨(), rfl, ask_nil⟩, rfl⟩) tE_30 tR_25 rfl rfl (Nat.le_trans hg78 (by decide)) (Nat.le_trans (Nat.mul_le_mul_right _ hg78) (by decide)) (H2 := fun p78 c78 => [.own 25 3 R_V (.slice p78 ((l7 ++ ([(⟨a9, a10, a11⟩ : V)])).length) c78) (l7 ++ ([(⟨a9, a10, a11⟩ : V)])), .blk g77 [.int .u8 a9, .int .i64 a10, .string a11] 25, .blk g9 [.int .u8 v32_0, .int .i64 v32_1, .string v32_2] 25, .blk g7 [.int .u8 a9, .int .i64 a10, .string a11] 25, .blk g4 [.int .u8 a0, .int .u8 a1, .int .i64 a2, .string a3, .int .i64 a4, .int .u8 a5, .slice qp0 l6.length qc1] 29]) (fun _ _ => rfl) (fun p78 c78 => ?_)
             refine wl_drop 1 rfl (H' := [_,_,_,_]) rfl ?_
             refine wl_nil ?_
             refine we_x [0, 1] [2, 3] rfl rfl ?_
             refine wx_step2 hok 7 11 rfl rfl rfl rfl rfl rfl ?_ ?_
             ·
              refine wl_lend [] [0, 1, 2, 3] [0] rfl rfl rfl (freshS_eq rfl) rfl rfl fn_10 rfl (w_expr_Eval_s N a0 a1 a2 a3 a4 a5 qp0 qc1 l6 p78 c78 (l7 ++ ([(⟨a9, a10, a11⟩ : V)])) _ _ _ _ hc79) (fun F w hφ hh => (ask_cons (hφ _ (mem_at (k := 0) rfl)) (ask_cons (own_sli (hh _ (mem_at (k := 0) rfl))) ask_nil))) (fun _ _ _ hR => by obtain ⟨rfl, rfl, rfl⟩ := hR; exact ⟨rfl, (fun _ h => free_nil h)⟩) rfl rfl (H' := [_,_,_,_]) rfl ?_
              rintro _ _ _ ⟨rfl, rfl, rfl⟩
              refine wl_nil ?_
              refine we_x [0, 1] [2] rfl rfl ?_
              refine wx_pure hok 8 rfl rfl rfl (freshS_eq rfl) rfl rfl ?_
              refine wx_pure hok 9 rfl rfl rfl (freshS_eq rfl) rfl rfl ?_
              refine wx_pure hok 10 rfl rfl rfl (freshS_eq rfl) rfl rfl ?_
              refine wx_step1 hok 11 rfl rfl rfl rfl ?_
              refine wl_alloc rfl rfl rfl (freshS_eq rfl) rfl tZ_25 rfl (fun g14 => ?_)
              refine wl_nil ?_
              refine we_x [0, 1] [3, 4] rfl rfl ?_
              refine wx_step1 hok 12 rfl rfl rfl rfl ?_
              refine wl_store 0 0 rfl rfl rfl rfl rfl rfl rfl tS_25 rfl rfl rfl (all' := [_,_,_]) rfl (H' := [_,_,_,_,_]) rfl ?_
              refine wl_nil ?_
              refine we_x [0, 1] [] rfl rfl ?_
              refine wx_step1 hok 13 rfl rfl rfl rfl ?_
              refine wl_pure rfl rfl rfl (freshS_eq rfl) rfl ?_
              refine wl_nil ?_
              refine we_x [0, 1] [] rfl rfl ?_
              refine wx_done hok rfl ?_
              refine we_pick [0, 2] rfl (H' := [_,_]) rfl ?_
              refine we_join g14 trivial [15, 14, 9] rfl (fun _ _ hφ => ask [] rfl hφ) rfl
             ·
              refine wl_alloc rfl rfl rfl (freshS_eq rfl) rfl tZ_25 rfl (fun g14 => ?_)
              refine wl_nil ?_
              refine we_x [0, 1] [3, 4] rfl rfl ?_
              refine wx_step1 hok 7 rfl rfl rfl rfl ?_
              refine wl_lend [] [0, 1, 2, 3, 4] [1] rfl rfl rfl (freshS_eq rfl) rfl rfl fn_10 rfl (w_expr_Eval_s N a0 a1 a2 a3 a4 a5 qp0 qc1 l6 p78 c78 (l7 ++ ([(⟨a9, a10, a11⟩ : V)])) _ _ _ _ hc79) (fun F w hφ hh => (ask_cons (hφ _ (mem_at (k := 0) rfl)) (ask_cons (own_sli (hh _ (mem_at (k := 0) rfl))) ask_nil))) (fun _ _ _ hR => by obtain ⟨rfl, rfl, rfl⟩ := hR; exact ⟨rfl, (fun _ h => free_nil h)⟩) rfl rfl (H' := [_,_,_,_,_]) rfl ?_
              rintro _ _ _ ⟨rfl, rfl, rfl⟩
              refine wl_nil ?_
              refine we_x [0, 1] [3] rfl rfl ?_
              refine wx_pure hok 8 rfl rfl rfl (freshS_eq rfl) rfl rfl ?_
              refine wx_pure hok 9 rfl rfl rfl (freshS_eq rfl) rfl rfl ?_
              refine wx_pure hok 10 rfl rfl rfl (freshS_eq rfl) rfl rfl ?_
              refine wx_step1 hok 12 rfl rfl rfl rfl ?_
              refine wl_store 0 0 rfl rfl rfl rfl rfl rfl rfl tS_25 rfl rfl rfl (all' := [_,_,_]) rfl (H' := [_,_,_,_,_]) rfl ?_
              refine wl_nil ?_
              refine we_x [0, 1] [] rfl rfl ?_
              refine wx_step1 hok 13 rfl rfl rfl rfl ?_
              refine wl_pure rfl rfl rfl (freshS_eq rfl) rfl ?_
              refine wl_nil ?_
              refine we_x [0, 1] [] rfl rfl ?_
              refine wx_done hok rfl ?_
              refine we_pick [0, 2] rfl (H' := [_,_]) rfl ?_
              refine we_join g14 trivial [15, 14, 9] rfl (fun _ _ hφ => ask [] rfl hφ) rfl
            ·
             refine wl_alloc rfl rfl rfl (freshS_eq rfl) rfl tZ_25 rfl (fun g14 => ?_)
             refine wl_nil ?_
             refine we_x [0, 1] [4, 5] rfl rfl ?_
             refine wx_step1 hok 6 rfl rfl rfl rfl ?_
             refine wl_appendH ([(⟨a9, a10, a11⟩ : V)]) 1 2 rfl rfl rfl (freshS_eq rfl) rfl rfl rfl rfl rfl (fun F w hφ => ⟨[.int .u8 a9, .int .i64 a10, .string a11], [], rfl, rfl, ⟨(), rfl, ask_nil⟩, rfl⟩) tE_30 tR_25 rfl rfl (Nat.le_trans hg78 (by decide)) (Nat.le_trans (Nat.mul_le_mul_right _ hg78) (by decide)) (H2 := fun p78 c78 => [.blk g14 [.int .u8 0, .int .i64 0, .string ((⟨#[]⟩ : ByteArray))] 25, .own 25 3 R_V (.slice p78 ((l7 ++ ([(⟨a9, a10, a11⟩ : V)])).length) c78) (l7 ++ ([(⟨a9, a10, a11⟩ : V)])), .blk g77 [.int .u8 a9, .int .i64 a10, .string a11] 25, .blk g9 [.int .u8 v32_0, .int .i64 v32_1, .string v32_2] 25, .blk g7 [.int .u8 a9, .int .i64 a10, .string a11] 25, .blk g4 [.int .u8 a0, .int .u8 a1, .int .i64 a2, .string a3, .int .i64 a4, .int .u8 a5, .slice qp0 l6.length qc1] 29]) (fun _ _ => rfl) (fun p78 c78 => ?_)
             refine wl_drop 2 rfl (H' := [_,_,_,_,_]) rfl ?_
             refine wl_nil ?_
             refine we_x [0, 1] [3, 4] rfl rfl ?_
             refine wx_step1 hok 7 rfl rfl rfl rfl ?_
             refine wl_lend [] [0, 1, 2, 3, 4] [1] rfl rfl rfl (freshS_eq rfl) rfl rfl fn_10 rfl (w_expr_Eval_s N a0 a1 a2 a3 a4 a5 qp0 qc1 l6 p78 c78 (l7 ++ ([(⟨a9, a10, a11⟩ : V)])) _ _ _ _ hc79) (fun F w hφ hh => (ask_cons (hφ _ (mem_at (k := 0) rfl)) (ask_cons (own_sli (hh _ (mem_at (k := 0) rfl))) ask_nil))) (fun _ _ _ hR => by obtain ⟨rfl, rfl, rfl⟩ := hR; exact ⟨rfl, (fun _ h => free_nil h)⟩) rfl rfl (H' := [_,_,_,_,_]) rfl ?_
             rintro _ _ _ ⟨rfl, rfl, rfl⟩
             refine wl_nil ?_
             refine we_x [0, 1] [3] rfl rfl ?_
             refine wx_pure hok 8 rfl rfl rfl (freshS_eq rfl) rfl rfl ?_
             refine wx_pure hok 9 rfl rfl rfl (freshS_eq rfl) rfl rfl ?_
             refine wx_pure hok 10 rfl rfl rfl (freshS_eq rfl) rfl rfl ?_
             refine wx_step1 hok 12 rfl rfl rfl rfl ?_
             refine wl_store 0 0 rfl rfl rfl rfl rfl rfl rfl tS_25 rfl rfl rfl (all' := [_,_,_]) rfl (H' := [_,_,_,_,_]) rfl ?_
             refine wl_nil ?_
             refine we_x [0, 1] [] rfl rfl ?_
             refine wx_step1 hok 13 rfl rfl rfl rfl ?_
             refine wl_pure rfl rfl rfl (freshS_eq rfl) rfl ?_
             refine wl_nil ?_
             refine we_x [0, 1] [] rfl rfl ?_
             refine wx_done hok rfl ?_
             refine we_pick [0, 2] rfl (H' := [_,_]) rfl ?_
             refine we_join g14 trivial [15, 14, 9] rfl (fun _ _ hφ => ask [] rfl hφ) rfl
           ·
            refine wl_alloc rfl rfl rfl (freshS_eq rfl) rfl tZ_25 rfl (fun g14 => ?_)
            refine wl_nil ?_
            refine we_x [0, 1] [4, 5] rfl rfl ?_
            refine wx_step1 hok 3 rfl rfl rfl rfl ?_
            refine wl_row (sz := 3) (m := 0) R_V [] 1 rfl (fun F w hφ => rfl) rfl (by decide) (H' := [_,_,_,_,_,_]) rfl ?_
            refine wl_append 1 1 rfl rfl rfl (freshS_eq rfl) rfl rfl rfl rfl rfl tE_30 tR_25 rfl rfl (Nat.le_trans hg75 (by decide)) (Nat.le_trans (Nat.mul_le_mul_right _ hg75) (by decide)) (H2 := fun p75 c75 => [.blk g14 [.int .u8 0, .int .i64 0, .string ((⟨#[]⟩ : ByteArray))] 25, .own 25 3 R_V (.slice p75 (l7).length c75) l7, .blk g77 [.int .u8 a9, .int .i64 a10, .string a11] 25, .blk g9 [.int .u8 v32_0, .int .i64 v32_1, .string v32_2] 25, .blk g7 [.int .u8 a9, .int .i64 a10, .string a11] 25, .blk g4 [.int .u8 a0, .int .u8 a1, .int .i64 a2, .string a3, .int .i64 a4, .int .u8 a5, .slice qp0 l6.length qc1] 29]) (fun _ _ => rfl) (fun p75 c75 => ?_)
            refine wl_nil ?_
            refine we_x [0, 1] [4, 5] rfl rfl ?_
            refine wx_step1 hok 6 rfl rfl rfl rfl ?_
            refine wl_appendH ([(⟨a9, a10, a11⟩ : V)]) 1 2 rfl rfl rfl (freshS_eq rfl) rfl rfl rfl rfl rfl (fun F w hφ => ⟨[.int .u8 a9, .int .i64 a10, .string a11], [], rfl, rfl, ⟨(), rfl, ask_nil⟩, rfl⟩) tE_30 tR_25 rfl rfl (Nat.le_trans hg78 (by decide)) (Nat.le_trans (Nat.mul_le_mul_right _ hg78) (by decide)) (H2 := fun p78 c78 => [.blk g14 [.int .u8 0, .int .i64 0, .string ((⟨#[]⟩ : ByteArray))] 25, .own 25 3 R_V (.slice p78 ((l7 ++ ([(⟨a9, a10, a11⟩ : V)])).length) c78) (l7 ++ ([(⟨a9, a10, a11⟩ : V)])), .blk g77 [.int .u8 a9, .int .i64 a10, .string a11] 25, .blk g9 [.int .u8 v32_0, .int .i64 v32_1, .string v32_2] 25, .blk g7 [.int .u8 a9, .int .i64 a10, .string a11] 25, .blk g4 [.int .u8 a0, .int .u8 a1, .int .i64 a2, .string a3, .int .i64 a4, .int .u8 a5, .slice qp0 l6.length qc1] 29]) (fun _ _ => rfl) (fun p78 c78 => ?_)
            refine wl_drop 2 rfl (H' := [_,_,_,_,_]) rfl ?_
            refine wl_nil ?_
            refine we_x [0, 1] [3, 4] rfl rfl ?_
            refine wx_step1 hok 7 rfl rfl rfl rfl ?_
            refine wl_lend [] [0, 1, 2, 3, 4] [1] rfl rfl rfl (freshS_eq rfl) rfl rfl fn_10 rfl (w_expr_Eval_s N a0 a1 a2 a3 a4 a5 qp0 qc1 l6 p78 c78 (l7 ++ ([(⟨a9, a10, a11⟩ : V)])) _ _ _ _ hc79) (fun F w hφ hh => (ask_cons (hφ _ (mem_at (k := 0) rfl)) (ask_cons (own_sli (hh _ (mem_at (k := 0) rfl))) ask_nil))) (fun _ _ _ hR => by obtain ⟨rfl, rfl, rfl⟩ := hR; exact ⟨rfl, (fun _ h => free_nil h)⟩) rfl rfl (H' := [_,_,_,_,_]) rfl ?_
            rintro _ _ _ ⟨rfl, rfl, rfl⟩
            refine wl_nil ?_
            refine we_x [0, 1] [3] rfl rfl ?_
            refine wx_pure hok 8 rfl rfl rfl (freshS_eq rfl) rfl rfl ?_
            refine wx_pure hok 9 rfl rfl rfl (freshS_eq rfl) rfl rfl ?_
            refine wx_pure hok 10 rfl rfl rfl (freshS_eq rfl) rfl rfl ?_
            refine wx_step1 hok 12 rfl rfl rfl rfl ?_
            refine wl_store 0 0 rfl rfl rfl rfl rfl rfl rfl tS_25 rfl rfl rfl (all' := [_,_,_]) rfl (H' := [_,_,_,_,_]) rfl ?_
            refine wl_nil ?_
            refine we_x [0, 1] [] rfl rfl ?_
            refine wx_step1 hok 13 rfl rfl rfl rfl ?_
            refine wl_pure rfl rfl rfl (freshS_eq rfl) rfl ?_
            refine wl_nil ?_
            refine we_x [0, 1] [] rfl rfl ?_
            refine wx_done hok rfl ?_
            refine we_pick [0, 2] rfl (H' := [_,_]) rfl ?_
            refine we_join g14 trivial [15, 14, 9] rfl (fun _ _ hφ => ask [] rfl hφ) rfl
          ·
           refine wl_alloc rfl rfl rfl (freshS_eq rfl) rfl tZ_25 rfl (fun g14 => ?_)
           refine wl_nil ?_
           refine we_x [0, 1] [3, 4] rfl rfl ?_
           refine wx_step1 hok 1 rfl rfl rfl rfl ?_
           refine wl_buildSlice rfl rfl rfl (freshS_eq rfl) rfl tE_30 tS_25 tZ_25 rfl (zs := []) (by kernel_rfl) rfl (out := []) rfl (fun g73 => ?_)
           refine wl_nil ?_
           refine we_x [0, 1] [4, 5] rfl rfl ?_
           refine wx_step1 hok 3 rfl rfl rfl rfl ?_
           refine wl_row (sz := 3) (m := 0) R_V [] 0 rfl (fun F w hφ => rfl) rfl (by decide) (H' := [_,_,_,_,_,_]) rfl ?_
           refine wl_append 0 1 rfl rfl rfl (freshS_eq rfl) rfl rfl rfl rfl rfl tE_30 tR_25 rfl rfl (Nat.le_trans hg75 (by decide)) (Nat.le_trans (Nat.mul_le_mul_right _ hg75) (by decide)) (H2 := fun p75 c75 => [.own 25 3 R_V (.slice p75 (l7).length c75) l7, .blk g14 [.int .u8 0, .int .i64 0, .string ((⟨#[]⟩ : ByteArray))] 25, .blk g77 [.int .u8 a9, .int .i64 a10, .string a11] 25, .blk g9 [.int .u8 v32_0, .int .i64 v32_1, .string v32_2] 25, .blk g7 [.int .u8 a9, .int .i64 a10, .string a11] 25, .blk g4 [.int .u8 a0, .int .u8 a1, .int .i64 a2, .string a3, .int .i64 a4, .int .u8 a5, .slice qp0 l6.length qc1] 29]) (fun _ _ => rfl) (fun p75 c75 => ?_)
           refine wl_nil ?_
           refine we_x [0, 1] [4, 5] rfl rfl ?_
           refine wx_step1 hok 6 rfl rfl rfl rfl ?_
           refine wl_appendH ([(⟨a9, a10, a11⟩ : V)]) 0 2 rfl rfl rfl (freshS_eq rfl) rfl rfl rfl rfl rfl (fun F w hφ => ⟨[.int .u8 a9, .int .i64 a10, .string a11], [], rfl, rfl, ⟨(), rfl, ask_nil⟩, rfl⟩) tE_30 tR_25 rfl rfl (Nat.le_trans hg78 (by decide)) (Nat.le_trans (Nat.mul_le_mul_right _ hg78) (by decide)) (H2 := fun p78 c78 => [.own 25 3 R_V (.slice p78 ((l7 ++ ([(⟨a9, a10, a11⟩ : V)])).length) c78) (l7 ++ ([(⟨a9, a10, a11⟩ : V)])), .blk g14 [.int .u8 0, .int .i64 0, .string ((⟨#[]⟩ : ByteArray))] 25, .blk g77 [.int .u8 a9, .int .i64 a10, .string a11] 25, .blk g9 [.int .u8 v32_0, .int .i64 v32_1, .string v32_2] 25, .blk g7 [.int .u8 a9, .int .i64 a10, .string a11] 25, .blk g4 [.int .u8 a0, .int .u8 a1, .int .i64 a2, .string a3, .int .i64 a4, .int .u8 a5, .slice qp0 l6.length qc1] 29]) (fun _ _ => rfl) (fun p78 c78 => ?_)
           refine wl_drop 2 rfl (H' := [_,_,_,_,_]) rfl ?_
           refine wl_nil ?_
           refine we_x [0, 1] [3, 4] rfl rfl ?_
           refine wx_step1 hok 7 rfl rfl rfl rfl ?_
           refine wl_lend [] [0, 1, 2, 3, 4] [0] rfl rfl rfl (freshS_eq rfl) rfl rfl fn_10 rfl (w_expr_Eval_s N a0 a1 a2 a3 a4 a5 qp0 qc1 l6 p78 c78 (l7 ++ ([(⟨a9, a10, a11⟩ : V)])) _ _ _ _ hc79) (fun F w hφ hh => (ask_cons (hφ _ (mem_at (k := 0) rfl)) (ask_cons (own_sli (hh _ (mem_at (k := 0) rfl))) ask_nil))) (fun _ _ _ hR => by obtain ⟨rfl, rfl, rfl⟩ := hR; exact ⟨rfl, (fun _ h => free_nil h)⟩) rfl rfl (H' := [_,_,_,_,_]) rfl ?_
           rintro _ _ _ ⟨rfl, rfl, rfl⟩
           refine wl_nil ?_
           refine we_x [0, 1] [3] rfl rfl ?_
           refine wx_pure hok 8 rfl rfl rfl (freshS_eq rfl) rfl rfl ?_
           refine wx_pure hok 9 rfl rfl rfl (freshS_eq rfl) rfl rfl ?_
           refine wx_pure hok 10 rfl rfl rfl (freshS_eq rfl) rfl rfl ?_
           refine wx_step1 hok 12 rfl rfl rfl rfl ?_
           refine wl_store 1 0 rfl rfl rfl rfl rfl rfl rfl tS_25 rfl rfl rfl (all' := [_,_,_]) rfl (H' := [_,_,_,_,_]) rfl ?_
           refine wl_nil ?_
           refine we_x [0, 1] [] rfl rfl ?_
           refine wx_step1 hok 13 rfl rfl rfl rfl ?_
           refine wl_pure rfl rfl rfl (freshS_eq rfl) rfl ?_
           refine wl_nil ?_
           refine we_x [0, 1] [] rfl rfl ?_
           refine wx_done hok rfl ?_
           refine we_pick [1, 2] rfl (H' := [_,_]) rfl ?_
           refine we_join g14 trivial [15, 14, 9] rfl (fun _ _ hφ => ask [] rfl hφ) rfl
         ·
          refine wl_alloc rfl rfl rfl (freshS_eq rfl) rfl tZ_25 rfl (fun g14 => ?_)
          refine wl_nil ?_
          refine we_x [0, 1] [2, 3] rfl rfl ?_
          refine wx_step2 hok 1 5 rfl rfl rfl rfl rfl rfl ?_ ?_
          ·
           refine wl_buildSlice rfl rfl rfl (freshS_eq rfl) rfl tE_30 tS_25 tZ_25 rfl (zs := []) (by kernel_rfl) rfl (out := []) rfl (fun g73 => ?_)
           refine wl_nil ?_
           refine we_x [0, 1] [3, 4] rfl rfl ?_
           refine wx_step2 hok 3 5 rfl rfl rfl rfl rfl rfl ?_ ?_
           ·
            refine wl_row (sz := 3) (m := 0) R_V [] 0 rfl (fun F w hφ => rfl) rfl (by decide) (H' := [_,_,_,_,_]) rfl ?_
            refine wl_append 0 1 rfl rfl rfl (freshS_eq rfl) rfl rfl rfl rfl rfl tE_30 tR_25 rfl rfl (Nat.le_trans hg75 (by decide)) (Nat.le_trans (Nat.mul_le_mul_right _ hg75) (by decide)) (H2 := fun p75 c75 => [.own 25 3 R_V (.slice p75 (l7).length c75) l7, .blk g14 [.int .u8 0, .int .i64 0, .string ((⟨#[]⟩ : ByteArray))] 25, .blk g9 [.int .u8 v32_0, .int .i64 v32_1, .string v32_2] 25, .blk g7 [.int .u8 a9, .int .i64 a10, .string a11] 25, .blk g4 [.int .u8 a0, .int .u8 a1, .int .i64 a2, .string a3, .int .i64 a4, .int .u8 a5, .slice qp0 l6.length qc1] 29]) (fun _ _ => rfl) (fun p75 c75 => ?_)
            refine wl_nil ?_
            refine we_x [0, 1] [3, 4] rfl rfl ?_
            refine wx_step1 hok 5 rfl rfl rfl rfl ?_
            refine wl_buildSlice rfl rfl rfl (freshS_eq rfl) rfl tE_30 tS_25 tZ_25 rfl (zs := [.int .u8 0, .int .i64 0, .string ((⟨#[]⟩ : ByteArray))]) (by kernel_rfl) rfl (out := [_,_,_]) rfl (fun g77 => ?_)
            refine wl_nil ?_
            refine we_x [0, 1] [5] rfl rfl ?_
            refine wx_step1 hok 6 rfl rfl rfl rfl ?_
            refine wl_appendH ([(⟨a9, a10, a11⟩ : V)]) 1 0 rfl rfl rfl (freshS_eq rfl) rfl rfl rfl rfl rfl (fun F w hφ => ⟨[.int .u8 a9, .int .i64 a10, .string a11], [], rfl, rfl, ⟨(), rfl, ask_nil⟩, rfl⟩) tE_30 tR_25 rfl rfl (Nat.le_trans hg78 (by decide)) (Nat.le_trans (Nat.mul_le_mul_right _ hg78) (by decide)) (H2 := fun p78 c78 => [.blk g77 [.int .u8 a9, .int .i64 a10, .string a11] 25, .own 25 3 R_V (.slice p78 ((l7 ++ ([(⟨a9, a10, a11⟩ : V)])).length) c78) (l7 ++ ([(⟨a9, a10, a11⟩ : V)])), .blk g14 [.int .u8 0, .int .i64 0, .string ((⟨#[]⟩ : ByteArray))] 25, .blk g9 [.int .u8 v32_0, .int .i64 v32_1, .string v32_2] 25, .blk g7 [.int .u8 a9, .int .i64 a10, .string a11] 25, .blk g4 [.int .u8 a0, .int .u8 a1, .int .i64 a2, .string a3, .int .i64 a4, .int .u8 a5, .slice qp0 l6.length qc1] 29]) (fun _ _ => rfl) (fun p78 c78 => ?_)
            refine wl_drop 0 rfl (H' := [_,_,_,_,_]) rfl ?_
            refine wl_nil ?_
            refine we_x [0, 1] [3, 4] rfl rfl ?_
            refine wx_step1 hok 7 rfl rfl rfl rfl ?_
            refine wl_lend [] [0, 1, 2, 3, 4] [0] rfl rfl rfl (freshS_eq rfl) rfl rfl fn_10 rfl (w_expr_Eval_s N a0 a1 a2 a3 a4 a5 qp0 qc1 l6 p78 c78 (l7 ++ ([(⟨a9, a10, a11⟩ : V)])) _ _ _ _ hc79) (fun F w hφ hh => (ask_cons (hφ _ (mem_at (k := 0) rfl)) (ask_cons (own_sli (hh _ (mem_at (k := 0) rfl))) ask_nil))) (fun _ _ _ hR => by obtain ⟨rfl, rfl, rfl⟩ := hR; exact ⟨rfl, (fun _ h => free_nil h)⟩) rfl rfl (H' := [_,_,_,_,_]) rfl ?_
            rintro _ _ _ ⟨rfl, rfl, rfl⟩
            refine wl_nil ?_
            refine we_x [0, 1] [3] rfl rfl ?_
            refine wx_pure hok 8 rfl rfl rfl (freshS_eq rfl) rfl rfl ?_
            refine wx_pure hok 9 rfl rfl rfl (freshS_eq rfl) rfl rfl ?_
            refine wx_pure hok 10 rfl rfl rfl (freshS_eq rfl) rfl rfl ?_
            refine wx_step1 hok 12 rfl rfl rfl rfl ?_
            refine wl_store 1 0 rfl rfl rfl rfl rfl rfl rfl tS_25 rfl rfl rfl (all' := [_,_,_]) rfl (H' := [_,_,_,_,_]) rfl ?_
            refine wl_nil ?_
            refine we_x [0, 1] [] rfl rfl ?_
            refine wx_step1 hok 13 rfl rfl rfl rfl ?_
            refine wl_pure rfl rfl rfl (freshS_eq rfl) rfl ?_
            refine wl_nil ?_
            refine we_x [0, 1] [] rfl rfl ?_
            refine wx_done hok rfl ?_
            refine we_pick [1, 2] rfl (H' := [_,_]) rfl ?_
            refine we_join g14 trivial [15, 14, 9] rfl (fun _ _ hφ => ask [] rfl hφ) rfl
           ·
            refine wl_buildSlice rfl rfl rfl (freshS_eq rfl) rfl tE_30 tS_25 tZ_25 rfl (zs := [.int .u8 0, .int .i64 0, .string ((⟨#[]⟩ : ByteArray))]) (by kernel_rfl) rfl (out := [_,_,_]) rfl (fun g77 => ?_)
            refine wl_nil ?_
            refine we_x [0, 1] [5] rfl rfl ?_
            refine wx_step1 hok 3 rfl rfl rfl rfl ?_
            refine wl_row (sz := 3) (m := 0) R_V [] 1 rfl (fun F w hφ => rfl) rfl (by decide) (H' := [_,_,_,_,_,_]) rfl ?_
            refine wl_append 1 1 rfl rfl rfl (freshS_eq rfl) rfl rfl rfl rfl rfl tE_30 tR_25 rfl rfl (Nat.le_trans hg75 (by decide)) (Nat.le_trans (Nat.mul_le_mul_right _ hg75) (by decide)) (H2 := fun p75 c75 => [.blk g77 [.int .u8 a9, .int .i64 a10, .string a11] 25, .own 25 3 R_V (.slice p75 (l7).length c75) l7, .blk g14 [.int .u8 0, .int .i64 0, .string ((⟨#[]⟩ : ByteArray))] 25, .blk g9 [.int .u8 v32_0, .int .i64 v32_1, .string v32_2] 25, .blk g7 [.int .u8 a9, .int .i64 a10, .string a11] 25, .blk g4 [.int .u8 a0, .int .u8 a1, .int .i64 a2, .string a3, .int .i64 a4, .int .u8 a5, .slice qp0 l6.length qc1] 29]) (fun _ _ => rfl) (fun p75 c75 => ?_)
            refine wl_nil ?_
            refine we_x [0, 1] [4, 5] rfl rfl ?_
            refine wx_step1 hok 6 rfl rfl rfl rfl ?_
            refine wl_appendH ([(⟨a9, a10, a11⟩ : V)]) 1 0 rfl rfl rfl (freshS_eq rfl) rfl rfl rfl rfl rfl (fun F w hφ => ⟨[.int .u8 a9, .int .i64 a10, .string a11], [], rfl, rfl, ⟨(), rfl, ask_nil⟩, rfl⟩) tE_30 tR_25 rfl rfl (Nat.le_trans hg78 (by decide)) (Nat.le_trans (Nat.mul_le_mul_right _ hg78) (by decide)) (H2 := fun p78 c78 => [.blk g77 [.int .u8 a9, .int .i64 a10, .string a11] 25, .own 25 3 R_V (.slice p78 ((l7 ++ ([(⟨a9, a10, a11⟩ : V)])).length) c78) (l7 ++ ([(⟨a9, a10, a11⟩ : V)])), .blk g14 [.int .u8 0, .int .i64 0, .string ((⟨#[]⟩ : ByteArray))] 25, .blk g9 [.int .u8 v32_0, .int .i64 v32_1, .string v32_2] 25, .blk g7 [.int .u8 a9, .int .i64 a10, .string a11] 25, .blk g4 [.int .u8 a0, .int .u8 a1, .int .i64 a2, .string a3, .int .i64 a4, .int .u8 a5, .slice qp0 l6.length qc1] 29]) (fun _ _ => rfl) (fun p78 c78 => ?_)
            refine wl_drop 0 rfl (H' := [_,_,_,_,_]) rfl ?_
            refine wl_nil ?_
            refine we_x [0, 1] [3, 4] rfl rfl ?_
            refine wx_step1 hok 7 rfl rfl rfl rfl ?_
            refine wl_lend [] [0, 1, 2, 3, 4] [0] rfl rfl rfl (freshS_eq rfl) rfl rfl fn_10 rfl (w_expr_Eval_s N a0 a1 a2 a3 a4 a5 qp0 qc1 l6 p78 c78 (l7 ++ ([(⟨a9, a10, a11⟩ : V)])) _ _ _ _ hc79) (fun F w hφ hh => (ask_cons (hφ _ (mem_at (k := 0) rfl)) (ask_cons (own_sli (hh _ (mem_at (k := 0) rfl))) ask_nil))) (fun _ _ _ hR => by obtain ⟨rfl, rfl, rfl⟩ := hR; exact ⟨rfl, (fun _ h => free_nil h)⟩) rfl rfl (H' := [_,_,_,_,_]) rfl ?_
            rintro _ _ _ ⟨rfl, rfl, rfl⟩
            refine wl_nil ?_
            refine we_x [0, 1] [3] rfl rfl ?_
            refine wx_pure hok 8 rfl rfl rfl (freshS_eq rfl) rfl rfl ?_
            refine wx_pure hok 9 rfl rfl rfl (freshS_eq rfl) rfl rfl ?_
            refine wx_pure hok 10 rfl rfl rfl (freshS_eq rfl) rfl rfl ?_
            refine wx_step1 hok 12 rfl rfl rfl rfl ?_
            refine wl_store 1 0 rfl rfl rfl rfl rfl rfl rfl tS_25 rfl rfl rfl (all' := [_,_,_]) rfl (H' := [_,_,_,_,_]) rfl ?_
            refine wl_nil ?_
            refine we_x [0, 1] [] rfl rfl ?_
            refine wx_step1 hok 13 rfl rfl rfl rfl ?_
            refine wl_pure rfl rfl rfl (freshS_eq rfl) rfl ?_
            refine wl_nil ?_
            refine we_x [0, 1] [] rfl rfl ?_
            refine wx_done hok rfl ?_
            refine we_pick [1, 2] rfl (H' := [_,_]) rfl ?_
            refine we_join g14 trivial [15, 14, 9] rfl (fun _ _ hφ => ask [] rfl hφ) rfl
          ·
           refine wl_buildSlice rfl rfl rfl (freshS_eq rfl) rfl tE_30 tS_25 tZ_25 rfl (zs := [.int .u8 0, .int .i64 0, .string ((⟨#[]⟩ : ByteArray))]) (by kernel_rfl) rfl (out := [_,_,_]) rfl (fun g77 => ?_)
           refine wl_nil ?_
           refine we_x [0, 1] [4] rfl rfl ?_
           refine wx_step1 hok 1 rfl rfl rfl rfl ?_
           refine wl_buildSlice rfl rfl rfl (freshS_eq rfl) rfl tE_30 tS_25 tZ_25 rfl (zs := []) (by kernel_rfl) rfl (out := []) rfl (fun g73 => ?_)
           refine wl_nil ?_
           refine we_x [0, 1] [4, 5] rfl rfl ?_
           refine wx_step1 hok 3 rfl rfl rfl rfl ?_
           refine wl_row (sz := 3) (m := 0) R_V [] 0 rfl (fun F w hφ => rfl) rfl (by decide) (H' := [_,_,_,_,_,_]) rfl ?_
           refine wl_append 0 1 rfl rfl rfl (freshS_eq rfl) rfl rfl rfl rfl rfl tE_30 tR_25 rfl rfl (Nat.le_trans hg75 (by decide)) (Nat.le_trans (Nat.mul_le_mul_right _ hg75) (by decide)) (H2 := fun p75 c75 => [.own 25 3 R_V (.slice p75 (l7).length c75) l7, .blk g77 [.int .u8 a9, .int .i64 a10, .string a11] 25, .blk g14 [.int .u8 0, .int .i64 0, .string ((⟨#[]⟩ : ByteArray))] 25, .blk g9 [.int .u8 v32_0, .int .i64 v32_1, .string v32_2] 25, .blk g7 [.int .u8 a9, .int .i64 a10, .string a11] 25, .blk g4 [.int .u8 a0, .int .u8 a1, .int .i64 a2, .string a3, .int .i64 a4, .int .u8 a5, .slice qp0 l6.length qc1] 29]) (fun _ _ => rfl) (fun p75 c75 => ?_)
           refine wl_nil ?_
           refine we_x [0, 1] [4, 5] rfl rfl ?_
           refine wx_step1 hok 6 rfl rfl rfl rfl ?_
           refine wl_appendH ([(⟨a9, a10, a11⟩ : V)]) 0 1 rfl rfl rfl (freshS_eq rfl) rfl rfl rfl rfl rfl (fun F w hφ => ⟨[.int .u8 a9, .int .i64 a10, .string a11], [], rfl, rfl, ⟨(), rfl, ask_nil⟩, rfl⟩) tE_30 tR_25 rfl rfl (Nat.le_trans hg78 (by decide)) (Nat.le_trans (Nat.mul_le_mul_right _ hg78) (by decide)) (H2 := fun p78 c78 => [.own 25 3 R_V (.slice p78 ((l7 ++ ([(⟨a9, a10, a11⟩ : V)])).length) c78) (l7 ++ ([(⟨a9, a10, a11⟩ : V)])), .blk g77 [.int .u8 a9, .int .i64 a10, .string a11] 25, .blk g14 [.int .u8 0, .int .i64 0, .string ((⟨#[]⟩ : ByteArray))] 25, .blk g9 [.int .u8 v32_0, .int .i64 v32_1, .string v32_2] 25, .blk g7 [.int .u8 a9, .int .i64 a10, .string a11] 25, .blk g4 [.int .u8 a0, .int .u8 a1, .int .i64 a2, .string a3, .int .i64 a4, .int .u8 a5, .slice qp0 l6.length qc1] 29]) (fun _ _ => rfl) (fun p78 c78 => ?_)
           refine wl_drop 1 rfl (H' := [_,_,_,_,_]) rfl ?_
           refine wl_nil ?_
           refine we_x [0, 1] [3, 4] rfl rfl ?_
           refine wx_step1 hok 7 rfl rfl rfl rfl ?_
           refine wl_lend [] [0, 1, 2, 3, 4] [0] rfl rfl rfl (freshS_eq rfl) rfl rfl fn_10 rfl (w_expr_Eval_s N a0 a1 a2 a3 a4 a5 qp0 qc1 l6 p78 c78 (l7 ++ ([(⟨a9, a10, a11⟩ : V)])) _ _ _ _ hc79) (fun F w hφ hh => (ask_cons (hφ _ (mem_at (k := 0) rfl)) (ask_cons (own_sli (hh _ (mem_at (k := 0) rfl))) ask_nil))) (fun _ _ _ hR => by obtain ⟨rfl, rfl, rfl⟩ := hR; exact ⟨rfl, (fun _ h => free_nil h)⟩) rfl rfl (H' := [_,_,_,_,_]) rfl ?_
           rintro _ _ _ ⟨rfl, rfl, rfl⟩
           refine wl_nil ?_
           refine we_x [0, 1] [3] rfl rfl ?_
           refine wx_pure hok 8 rfl rfl rfl (freshS_eq rfl) rfl rfl ?_
           refine wx_pure hok 9 rfl rfl rfl (freshS_eq rfl) rfl rfl ?_
           refine wx_pure hok 10 rfl rfl rfl (freshS_eq rfl) rfl rfl ?_
           refine wx_step1 hok 12 rfl rfl rfl rfl ?_
           refine wl_store 1 0 rfl rfl rfl rfl rfl rfl rfl tS_25 rfl rfl rfl (all' := [_,_,_]) rfl (H' := [_,_,_,_,_]) rfl ?_
           refine wl_nil ?_
           refine we_x [0, 1] [] rfl rfl ?_
           refine wx_step1 hok 13 rfl rfl rfl rfl ?_
           refine wl_pure rfl rfl rfl (freshS_eq rfl) rfl ?_
           refine wl_nil ?_
           refine we_x [0, 1] [] rfl rfl ?_
           refine wx_done hok rfl ?_
           refine we_pick [1, 2] rfl (H' := [_,_]) rfl ?_
           refine we_join g14 trivial [15, 14, 9] rfl (fun _ _ hφ => ask [] rfl hφ) rfl
        ·
         rintro w_6_14_g _
         try dsimp only
         refine wc_seq ?_
         refine wc_region ?_
         refine wl_pure rfl rfl rfl (freshS_eq rfl) rfl ?_
         refine wl_pure rfl rfl rfl (freshS_eq rfl) rfl ?_
         refine wl_as (d := 83) (v' := .bool (v79_3 == 0)) (S' := [_,_,_,_]) rfl rfl (nateq (a := v79_3) (b := 0)) ?_
         refine wl_pure rfl rfl rfl (freshS_eq rfl) rfl ?_
         refine wl_split (d := 84) (S' := [_,_,_,_,_]) rfl rfl (fun hs84 => ?_) (fun hs84 => ?_)
         ·
          replace hm := iteT hm hs84
          refine wl_loadH 1 0 rfl rfl rfl (freshS_eq rfl) rfl rfl rfl (cs := [_,_,_]) rfl tS_25 tA_25 rfl rfl ?_
          refine wl_loadH 0 0 rfl rfl rfl (freshS_eq rfl) rfl rfl rfl (cs := [_,_,_]) rfl tS_25 tA_25 rfl rfl ?_
          refine wl_bin rfl rfl rfl (freshS_eq rfl) rfl rfl rfl (eqlV _ _ (⟨v32_0, v32_1, v32_2⟩ : V) (⟨v79_0, v79_1, v79_2⟩ : V)) ?_
          refine wl_pure rfl rfl rfl (freshS_eq rfl) rfl ?_
          refine wl_pure rfl rfl rfl (freshS_eq rfl) rfl ?_
          refine wl_nil ?_
          refine we_then ?_
          refine wc_keep [8] (S' := [_]) rfl ?_
          refine wc_ret ?_
          have hE := (Option.some.inj hm).symm
          replace hE := hE.symm
          subst hE
          refine ret_one (Hr := []) [] Tryd.results5 (res_tmp rfl) ⟨rfl, rfl, rfl⟩ (fun _ _ hφ => ask [] rfl hφ) rfl rfl (.inl rfl)
         ·
          replace hm := iteF hm hs84
          refine wl_off rfl rfl rfl (freshS_eq rfl) ?_
          refine wl_off rfl rfl rfl (freshS_eq rfl) ?_
          refine wl_off rfl rfl rfl (freshS_eq rfl) ?_
          refine wl_pure rfl rfl rfl (freshS_eq rfl) rfl ?_
          refine wl_pure rfl rfl rfl (freshS_eq rfl) rfl ?_
          refine wl_nil ?_
          refine we_then ?_
          refine wc_keep [8] (S' := [_]) rfl ?_
          refine wc_ret ?_
          have hE := (Option.some.inj hm).symm
          replace hE := hE.symm
          subst hE
          refine ret_one (Hr := []) [] Tryd.results5 (res_tmp rfl) ⟨rfl, rfl, rfl⟩ (fun _ _ hφ => ask [] rfl hφ) rfl rfl (.inl rfl)
end Go.Proofs.YtdkmibdiokmfbaaDoor
