import Derived.Test.YtohkfpobgjkpdaaDoorXW3
namespace Go.Proofs.YtohkfpobgjkpdaaDoor
open Go.RowKit
set_option maxRecDepth 100000
set_option maxHeartbeats 4000000
theorem w_ropewalklaw09_ExprSays_s (N : Nat) (a0 : Int) (a1 : Int) (a2 : Int) (a3 : ByteArray) (a4 : Int) (a5 : Int) (qp0 : Option Addr) (qc1 : Nat) (l6 : List Api_ExprD) (qp2 : Option Addr) (qc3 : Nat) (l7 : List V) (o0 : Bool) (hm : m_ropewalklaw09_ExprSays N a0 a1 a2 a3 a4 a5 l6 l7 = some o0) : Spec Tryd.prog 3 [.agg #[.int .u8 a0, .int .u8 a1, .int .i64 a2, .string a3, .int .i64 a4, .int .u8 a5, .slice qp0 l6.length qc1], .slice qp2 l7.length qc3] [.sli 7 R_Api_ExprD qp0 qc1 l6, .sli 3 R_V qp2 qc3 l7] [] (fun v Φr Hr => v = .bool o0 ∧ Φr = [] ∧ Hr = []) := by
 unfold m_ropewalklaw09_ExprSays at hm
 refine spec_of Tryd.func3 rfl Tryd.ntmps3 rfl (S := [_,_]) rfl (fun C => (wc_seq (wc_region (wB rfl (fun g2 => (wP rfl (wl_nil (we_then (wc_keep [2,1] (S' := [_,_]) rfl (wc_seq (wc_seq (wc_region ?_))))))))))))
 obtain ⟨v11, hc11, hm⟩ := bindO_some hm
 refine wC [] [0] rfl fn_4 rfl (w_ropewalklaw09_awake_s N _ hc11) (asK [] rfl) rfl (H' := [_]) rfl ?_
 rintro _ _ _ ⟨rfl, rfl, rfl⟩
 refine wP rfl (wl_nil (we_then (wc_keep [12,2,1] (S' := [_,_,_]) rfl ?_)))
 refine wc_cond rfl (fun hb12 => ?_) (fun hb12 => ?_)
 ·
  replace hm := iteT hm hb12
  refine wc_keep [] (S' := []) rfl (wc_seq (wc_region (wP rfl (wl_nil (we_then (wc_ret (we_then_ret ?_)))))))
  have hE := (Option.some.inj hm).symm
  replace hE := hE.symm
  subst hE
  refine ret_one (Hr := []) [] Tryd.results3 (res_tmp rfl) ⟨rfl, rfl, rfl⟩ (asK [] rfl) rfl rfl (.inl rfl)
 ·
  replace hm := iteF hm hb12
  refine wc_keep [2,1] (S' := [_,_]) rfl (wc_skip (we_then (wc_seq (wc_seq (wc_region (wP rfl (wl_loadH 0 0 rfl rfl rfl (freshS_eq rfl) rfl rfl rfl (cs := [_,_,_,_,_,_,_]) rfl tS_29 tA_29 rfl rfl (wl_buildSlice rfl rfl rfl (freshS_eq rfl) rfl tE_27 tS_29 tZ_29 rfl (zs := [.int .u8 0, .int .u8 0, .int .i64 0, .string ((⟨#[]⟩ : ByteArray)), .int .i64 0, .int .u8 0, .slice none 0 0]) (by kernel_rfl) rfl (out := [_,_,_,_,_,_,_]) rfl (fun g15 => (wl_row (sz := 7) (m := 1) R_Api_ExprD ([(⟨a0, (⟨a1, a2, a3⟩ : V), a4, a5, l6⟩ : Api_ExprD)]) 0 rfl (fun F w hφ => ⟨[.int .u8 a0, .int .u8 a1, .int .i64 a2, .string a3, .int .i64 a4, .int .u8 a5, .slice qp0 l6.length qc1],[], rfl, rfl, (rec_shut (qp0, qc1) rfl (ask_cons (hφ _ (mem_at (k := 0) rfl)) ask_nil)), rfl⟩) rfl (by decide) (H' := [_,_]) rfl ?_))))))))))
  obtain ⟨v16, hc16, hm⟩ := bindO_some hm
  refine wl_lend [] [0,1] [0] rfl rfl rfl (freshS_eq rfl) rfl rfl fn_5 rfl (w_ropewalklaw09_light_s N qp2 qc3 l7 (some ⟨g15,0, none⟩) 1 [(⟨a0, (⟨a1, a2, a3⟩ : V), a4, a5, l6⟩ : Api_ExprD)] _ hc16) (fun F w hφ hh => (ask_cons (hφ _ (mem_at (k := 1) rfl)) (ask_cons (own_sli (hh _ (mem_at (k := 0) rfl))) ask_nil))) (fun _ _ _ hR => by obtain ⟨rfl, rfl, rfl⟩ := hR; exact ⟨rfl, (fun _ h => free_nil h)⟩) rfl rfl (H' := [_,_]) rfl ?_
  rintro _ _ _ ⟨rfl, rfl, rfl⟩
  refine wP rfl (wl_nil (we_then (wc_keep [17,2,1] (S' := [_,_,_]) rfl ?_)))
  refine wc_cond rfl (fun hb17 => ?_) (fun hb17 => ?_)
  ·
   replace hm := iteT hm hb17
   refine wc_keep [] (S' := []) rfl (wc_seq (wc_region (wP rfl (wl_nil (we_then (wc_ret (we_then_ret ?_)))))))
   have hE := (Option.some.inj hm).symm
   replace hE := hE.symm
   subst hE
   refine ret_one (Hr := []) [] Tryd.results3 (res_tmp rfl) ⟨rfl, rfl, rfl⟩ (asK [] rfl) rfl rfl (.inl rfl)
  ·
   replace hm := iteF hm hb17
   refine wc_keep [2,1] (S' := [_,_]) rfl (wc_skip (we_then (wc_seq (wc_region (wl_loadH 1 0 rfl rfl rfl (freshS_eq rfl) rfl rfl rfl (cs := [_,_,_,_,_,_,_]) rfl tS_29 tA_29 rfl rfl ?_)))))
   obtain ⟨⟨v19_0, v19_1, v19_2, v19_3, v19_4, v19_5, v19_6, v19_7⟩, hc19, hm⟩ := bindO_some hm
   try dsimp only at hm
   refine wC [] [0,1] rfl fn_6 rfl (w_ropewalkkit_LentExpr_s N a0 a1 a2 a3 a4 a5 qp0 qc1 l6 _ _ _ _ _ _ _ _ hc19) (asK [0] rfl) rfl (H' := [_,_]) rfl ?_
   rintro _ _ _ ⟨p19_0, c19_1, c19_2, rfl, rfl, rfl⟩
   refine wP rfl ?_
   obtain ⟨v21, hc21, hm⟩ := bindO_some hm
   refine wC [] [0,1,2] rfl fn_7 rfl (w_ropewalkkit_LentValues_s N qp2 qc3 l7 _ hc21) (asK [1] rfl) rfl (H' := [_,_,_]) rfl ?_
   rintro _ _ _ ⟨p21_0, c21_1, c21_2, rfl, rfl, rfl⟩
   refine wl_alloc rfl rfl rfl (freshS_eq rfl) rfl tZ_29 rfl (fun g5 => (wS 0 0 rfl tS_29 (all' := [_,_,_,_,_,_,_]) rfl (H' := [_,_,_,_,_]) rfl (wP rfl (wl_nil (we_then (wc_keep [6,5,2,1] (S' := [_,_,_,_]) rfl (wc_seq (wc_region (wl_loadH 0 0 rfl rfl rfl (freshS_eq rfl) rfl rfl rfl (cs := [_,_,_,_,_,_,_]) rfl tS_29 tA_29 rfl rfl (wP rfl (wl_ownLen 2 rfl (fun hzc19_2 _ => ?_))))))))))))
   subst hzc19_2
   refine wl_ownLen 1 rfl (fun hzc21_2 _ => ?_)
   subst hzc21_2
   obtain ⟨hzl3, hm⟩ := gd_some hm
   refine wl_at 1 (v' := .agg #[.int .u8 v19_0, .int .u8 v19_1, .int .i64 v19_2, .string v19_3, .int .i64 v19_4, .int .u8 v19_5, .slice p19_0 (((v19_6.map to_Api_ExprD).take v19_7).length) c19_1]) rfl (by rw [takeM_len hzl3]) (wl_hAs 0 (φ' := .blk g5 [.int .u8 v19_0, .int .u8 v19_1, .int .i64 v19_2, .string v19_3, .int .i64 v19_4, .int .u8 v19_5, .slice p19_0 (((v19_6.map to_Api_ExprD).take v19_7).length) c19_1] 29) rfl (by rw [takeM_len hzl3]) (H' := [_,_,_,_,_]) rfl ?_)
   obtain ⟨hzl4, hm⟩ := gd_some hm
   refine wl_at 0 (v' := .slice p21_0 ((v21.take l7.length).length) c21_1) rfl (by rw [take_len hzl4]) (wl_at 2 (v' := .slice p21_0 ((v21.take l7.length).length) c21_1) rfl (by rw [take_len hzl4]) ?_)
   obtain ⟨⟨v25_0, v25_1, v25_2, v25_3⟩, hc25, hm⟩ := bindO_some hm
   try dsimp only at hm
   refine wl_lend [] [0,1,2,3,4] [2,1] rfl rfl rfl (freshS_eq rfl) rfl rfl fn_8 rfl (w_expr_Eval_s N v19_0 v19_1 v19_2 v19_3 v19_4 v19_5 p19_0 c19_1 ((v19_6.map to_Api_ExprD).take v19_7) p21_0 c21_1 (v21.take l7.length) _ _ _ _ hc25) (fun F w hφ hh => (ask_cons (sli_take (sli_mapTo _ (own_sli (hh _ (mem_at (k := 0) rfl))) (fun _ _ => RS_Api_ExprD_lend)) v19_7) (ask_cons (sli_take (own_sli (hh _ (mem_at (k := 1) rfl))) l7.length) ask_nil))) (fun _ _ _ hR => by obtain ⟨rfl, rfl, rfl⟩ := hR; exact ⟨rfl, (fun _ h => free_nil h)⟩) rfl rfl (H' := [_,_,_,_,_]) rfl ?_
   rintro _ _ _ ⟨rfl, rfl, rfl⟩
   refine wl_at 1 (v' := .slice p21_0 l7.length c21_1) rfl (by rw [take_len hzl4]) (wl_at 3 (v' := .slice p21_0 l7.length c21_1) rfl (by rw [take_len hzl4]) (wl_at 2 (v' := .agg #[.int .u8 v19_0, .int .u8 v19_1, .int .i64 v19_2, .string v19_3, .int .i64 v19_4, .int .u8 v19_5, .slice p19_0 v19_7 c19_1]) rfl (by rw [takeM_len hzl3]) (wl_hAs 0 (φ' := .blk g5 [.int .u8 v19_0, .int .u8 v19_1, .int .i64 v19_2, .string v19_3, .int .i64 v19_4, .int .u8 v19_5, .slice p19_0 v19_7 c19_1] 29) rfl (by rw [takeM_len hzl3]) (H' := [_,_,_,_,_]) rfl (wP rfl (wP rfl (wP rfl (wl_alloc rfl rfl rfl (freshS_eq rfl) rfl tZ_25 rfl (fun g7 => (wS 0 0 rfl tS_25 (all' := [_,_,_]) rfl (H' := [_,_,_,_,_,_]) rfl (wP rfl (wl_nil (we_then (wc_keep [8,7,6,5,2,1] (S' := [_,_,_,_,_,_]) rfl (wc_seq ?_))))))))))))))
   refine wc_region (wl_loadH 5 0 rfl rfl rfl (freshS_eq rfl) rfl rfl rfl (cs := [_,_,_,_,_,_,_]) rfl tS_29 tA_29 rfl rfl (wP rfl ?_))
   obtain ⟨⟨v31_0, v31_1, v31_2, v31_3⟩, hc31, hm⟩ := bindO_some hm
   try dsimp only at hm
   refine wC [] [0,1,2,3,4,5] rfl fn_9 rfl (w_ropewalkref09_Eval_s N a0 a1 a2 a3 a4 a5 qp0 qc1 l6 qp2 qc3 l7 _ _ _ _ hc31) (asK [0,1] rfl) rfl (H' := [_,_,_,_,_,_]) rfl ?_
   rintro _ _ _ ⟨rfl, rfl, rfl⟩
   refine wP rfl (wP rfl (wP rfl (wl_alloc rfl rfl rfl (freshS_eq rfl) rfl tZ_25 rfl (fun g9 => (wS 0 0 rfl tS_25 (all' := [_,_,_]) rfl (H' := [_,_,_,_,_,_,_]) rfl (wP rfl (wl_nil (we_then (wc_keep [10,9,8,7,6,5,2,1] (S' := [_,_,_,_,_,_,_,_]) rfl (wc_seq ?_))))))))))
   obtain ⟨bj_1, hm, hLj_1⟩ := bindO_some hm
   unfold m_ropewalklaw09_ExprSays_C1 at hm
   refine wc_cut (σ := Bool) (fun j_1_4 => bj_1 = j_1_4) (fun j_1_4 => [(4, .bool j_1_4)]) (fun j_1_4 => []) (fun j_1_4 => []) ?_ ?_
   ·
    refine wc_region (wl_loadH 1 0 rfl rfl rfl (freshS_eq rfl) rfl rfl rfl (cs := [_,_,_]) rfl tS_25 tA_25 rfl rfl (wl_loadH 0 0 rfl rfl rfl (freshS_eq rfl) rfl rfl rfl (cs := [_,_,_]) rfl tS_25 tA_25 rfl rfl (wl_bin rfl rfl rfl (freshS_eq rfl) rfl rfl rfl (eqlV _ _ (⟨v25_0, v25_1, v25_2⟩ : V) (⟨v31_0, v31_1, v31_2⟩ : V)) (wP rfl ?_))))
    refine wl_split (d := 37) (S' := [_,_,_,_,_,_,_,_,_,_,_]) rfl rfl (fun hs37 => ?_) (fun hs37 => ?_)
    ·
     replace hm := iteT hm hs37
     refine wP rfl (wP rfl (wP rfl (wl_as (d := 40) (v' := .bool (v25_3 == v31_3)) (S' := [_,_,_,_,_,_,_,_,_,_,_,_,_,_]) rfl rfl (nateq (a := v25_3) (b := v31_3)) (wP rfl (wP rfl ?_)))))
     refine wl_split (d := 42) (S' := [_,_,_,_,_,_,_,_,_,_,_,_,_,_,_,_]) rfl rfl (fun hs42 => ?_) (fun hs42 => ?_)
     ·
      replace hm := iteT hm hs42
      refine wl_loadH 2 0 rfl rfl rfl (freshS_eq rfl) rfl rfl rfl (cs := [_,_,_,_,_,_,_]) rfl tS_29 tA_29 rfl rfl (wl_loadH 6 0 rfl rfl rfl (freshS_eq rfl) rfl rfl rfl (cs := [_,_,_,_,_,_,_]) rfl tS_29 tA_29 rfl rfl ?_)
      obtain ⟨v45, hc45, hm⟩ := bindO_some hm
      refine wl_lend [] [0,1,2,3,4,5,6] [4] rfl rfl rfl (freshS_eq rfl) rfl rfl fn_10 rfl (w_ropewalkkit_KeptExpr_W_s N v19_0 v19_1 v19_2 v19_3 v19_4 v19_5 p19_0 c19_1 v19_6 v19_7 a0 a1 a2 a3 a4 a5 qp0 qc1 l6 _ hc45) (fun F w hφ hh => (ask_cons (own_sli (hh _ (mem_at (k := 0) rfl))) (ask_cons (hφ _ (mem_at (k := 0) rfl)) ask_nil))) (fun _ _ _ hR => by obtain ⟨rfl, rfl, rfl⟩ := hR; exact ⟨rfl, (fun _ h => free_nil h)⟩) rfl rfl (H' := [_,_,_,_,_,_,_]) rfl ?_
      rintro _ _ _ ⟨rfl, rfl, rfl⟩
      refine wP rfl (wP rfl ?_)
      refine wl_split (d := 47) (S' := [_,_,_,_,_,_,_,_,_,_,_,_,_,_,_,_,_,_,_,_,_]) rfl rfl (fun hs47 => ?_) (fun hs47 => ?_)
      ·
       replace hm := iteT hm hs47
       refine wP rfl (wP rfl ?_)
       obtain ⟨v50, hc50, hm⟩ := bindO_some hm
       refine wl_lend [] [0,1,2,3,4,5,6] [3] rfl rfl rfl (freshS_eq rfl) rfl rfl fn_11 rfl (w_ropewalkkit_KeptValues_W_s N p21_0 c21_1 v21 l7.length qp2 qc3 l7 _ hc50) (fun F w hφ hh => (ask_cons (own_sli (hh _ (mem_at (k := 0) rfl))) (ask_cons (hφ _ (mem_at (k := 1) rfl)) ask_nil))) (fun _ _ _ hR => by obtain ⟨rfl, rfl, rfl⟩ := hR; exact ⟨rfl, (fun _ h => free_nil h)⟩) rfl rfl (H' := [_,_,_,_,_,_,_]) rfl ?_
       rintro _ _ _ ⟨rfl, rfl, rfl⟩
       refine wP rfl (wP rfl (wl_nil ?_))
       have hE := (Option.some.inj hm).symm
       refine we_pick [] rfl (H' := []) rfl ?_
       refine we_join v50 hE [4] rfl (asK [] rfl) rfl
      ·
       replace hm := iteF hm hs47
       refine wO rfl (wO rfl (wO rfl (wP rfl (wP rfl (wl_nil ?_)))))
       have hE := (Option.some.inj hm).symm
       refine we_pick [] rfl (H' := []) rfl ?_
       refine we_join false hE [4] rfl (asK [] rfl) rfl
     ·
      replace hm := iteF hm hs42
      refine wO rfl (wO rfl (wO rfl (wP rfl (wP rfl (wO rfl (wO rfl (wO rfl (wP rfl (wP rfl (wl_nil ?_))))))))))
      have hE := (Option.some.inj hm).symm
      refine we_pick [] rfl (H' := []) rfl ?_
      refine we_join false hE [4] rfl (asK [] rfl) rfl
    ·
     replace hm := iteF hm hs37
     refine wO rfl (wO rfl (wO rfl (wP rfl (wP rfl (wO rfl (wO rfl (wO rfl (wP rfl (wP rfl (wO rfl (wO rfl (wO rfl (wP rfl ?_)))))))))))))
     refine wP rfl (wl_nil ?_)
     have hE := (Option.some.inj hm).symm
     refine we_pick [] rfl (H' := []) rfl ?_
     refine we_join false hE [4] rfl (asK [] rfl) rfl
   ·
    rintro j_1_4 hE
    try dsimp only
    have hm := hLj_1
    rw [hE] at hm
    refine wc_ret ?_
    have hE := (Option.some.inj hm).symm
    replace hE := hE.symm
    subst hE
    refine ret_one (Hr := []) [] Tryd.results3 (res_tmp rfl) ⟨rfl, rfl, rfl⟩ (asK [] rfl) rfl rfl (.inl rfl)
end Go.Proofs.YtohkfpobgjkpdaaDoor
