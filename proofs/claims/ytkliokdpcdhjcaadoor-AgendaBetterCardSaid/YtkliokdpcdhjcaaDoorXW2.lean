import Derived.Test.YtkliokdpcdhjcaaDoorXW1
namespace Go.Proofs.YtkliokdpcdhjcaaDoor
open Go.RowKit
set_option maxRecDepth 100000
set_option maxHeartbeats 4000000
theorem w_ropewalkkit_SameConds_s (N : Nat) (qp0 : Option Addr) (qc1 : Nat) (l0 : List Api_CondD) (qp2 : Option Addr) (qc3 : Nat) (l1 : List Api_CondD) (o0 : Bool) (hm : m_ropewalkkit_SameConds N l0 l1 = some o0) : Spec Tryd.prog 50 [.slice qp0 l0.length qc1, .slice qp2 l1.length qc3] [.sli 10 R_Api_CondD qp0 qc1 l0, .sli 10 R_Api_CondD qp2 qc3 l1] [] (fun v Φr Hr => v = .bool o0 ∧ Φr = [] ∧ Hr = []) := by
 unfold m_ropewalkkit_SameConds at hm
 refine spec_of Tryd.func50 rfl Tryd.ntmps50 rfl (S := [_,_]) rfl (fun C => (wc_seq (wc_region (wP rfl (wl_nil (we_then (wc_keep [0,1] (S' := [_,_]) rfl (wc_seq (wc_seq (wc_region (wP rfl (wN rfl tE_46 (wP rfl (wN rfl tE_46 ?_))))))))))))))
 refine wP rfl (wl_as (d := 10) (v' := .bool (l0.length != l1.length)) (S' := [_,_,_,_,_,_]) rfl rfl (natne (a := l0.length) (b := l1.length)) (wl_nil (we_then (wc_keep [10,0,1] (S' := [_,_,_]) rfl ?_))))
 refine wc_cond rfl (fun hb10 => ?_) (fun hb10 => ?_)
 ·
  replace hm := iteT hm hb10
  refine wc_keep [] (S' := []) rfl (wc_seq (wc_region (wP rfl (wl_nil (we_then (wc_ret (we_then_ret ?_)))))))
  have hE := (Option.some.inj hm).symm
  replace hE := hE.symm
  subst hE
  refine ret_one (Hr := []) [] Tryd.results50 (res_tmp rfl) ⟨rfl, rfl, rfl⟩ (asK [] rfl) rfl rfl (.inl rfl)
 ·
  replace hm := iteF hm hb10
  refine wc_keep [0,1] (S' := [_,_]) rfl (wc_skip (we_then (wc_seq ?_)))
  obtain ⟨bj_1, hm, hLj_1⟩ := bindS_some hm
  refine wc_cut (σ := Unit) (fun _ => bj_1 = .inl ()) (fun _ => []) (fun _ => []) (fun _ => []) ?_ ?_
  ·
   refine wc_seq (wc_region (wP rfl (wl_nil (we_then (wc_block (wc_loop (σ := Nat × Nat) (fun (nu1, u1_5) => iter (m_ropewalkkit_SameConds_L1 N l0 l1) nu1 u1_5 = some bj_1) (fun (nu1, u1_5) => nu1) (fun (nu1, u1_5) => [(5, .int .i64 ((u1_5 : Nat) : Int)), (0, .slice qp0 l0.length qc1), (1, .slice qp2 l1.length qc3)]) (fun (nu1, u1_5) => [.sli 10 R_Api_CondD qp0 qc1 l0, .sli 10 R_Api_CondD qp2 qc3 l1]) (fun (nu1, u1_5) => []) (N, 0) hm [5,0,1] rfl (asK [0,1] rfl) rfl (fun s_ hm => ?_)))))))
   obtain ⟨nu1, u1_5⟩ := s_
   try dsimp only at hm ⊢
   obtain ⟨mu1, bu1, hnu1, hq, hLu1⟩ := iter_some hm
   clear hm
   subst hnu1
   replace hm := hq
   clear hq
   unfold m_ropewalkkit_SameConds_L1 at hm
   try dsimp only at hm
   refine wc_seq (wc_seq (wc_region (wP rfl (wP rfl (wN rfl tE_46 (wP rfl (wl_as (d := 14) (v' := .bool (decide (u1_5 < l0.length))) (S' := [_,_,_,_,_,_]) rfl rfl (natlt (a := u1_5) (b := l0.length)) (wl_nil (we_then (wc_keep [14,5,0,1] (S' := [_,_,_,_]) rfl ?_))))))))))
   refine wc_cond rfl (fun hb14 => ?_) (fun hb14 => ?_)
   ·
    replace hm := iteT hm hb14
    refine wc_keep [5,0,1] (S' := [_,_,_]) rfl (wc_skip (we_then (wc_seq (wc_block (wc_seq ?_)))))
    obtain ⟨x19, hx19, hm⟩ := bindO_some hm
    obtain ⟨x23, hx23, hm⟩ := bindO_some hm
    obtain ⟨v25, hc25, hm⟩ := bindO_some hm
    refine wc_draw [0,1,2,3,4,5,6,7,9] rfl rfl (fun hok => (xP hok 0 rfl (xP hok 1 rfl (wx_indexA hok 2 0 u1_5 rfl rfl rfl (freshS_eq rfl) rfl rfl rfl rfl rfl rfl hx19 tE_46 tS_108 (fun b19 q19 cs19 hlx19 => (wx_openR R_Api_CondD_opens 1 rfl (fun r19 er19 _ => ?_)))))))
    subst er19
    refine wx_load hok 3 2 0 rfl rfl rfl (freshS_eq rfl) rfl rfl rfl rfl (cs := [_,_,_,_,_,_,_,_,_,_]) rfl tS_108 tA_108 rfl rfl (xP hok 4 rfl (xP hok 5 rfl (wx_indexA hok 6 5 u1_5 rfl rfl rfl (freshS_eq rfl) rfl rfl rfl rfl rfl rfl hx23 tE_46 tS_108 (fun b23 q23 cs23 hlx23 => (wx_openR R_Api_CondD_opens 1 rfl (fun r23 er23 _ => ?_))))))
    subst er23
    refine wx_load hok 7 2 0 rfl rfl rfl (freshS_eq rfl) rfl rfl rfl rfl (cs := [_,_,_,_,_,_,_,_,_,_]) rfl tS_108 tA_108 rfl rfl (xS hok 8 rfl (wC [] [] rfl fn_64 rfl (w_ropewalkkit_SameCond_s N x19.kind x19.type r19.1.1 r19.1.2 x19.args x19.test.kind x19.test.value.k x19.test.value.n x19.test.value.s x19.test.var x19.test.op r19.2.1 r19.2.2 x19.test.kids x23.kind x23.type r23.1.1 r23.1.2 x23.args x23.test.kind x23.test.value.k x23.test.value.n x23.test.value.s x23.test.var x23.test.op r23.2.1 r23.2.2 x23.test.kids _ hc25) (asK [4,5,0,1] rfl) rfl (H' := []) rfl ?_))
    rintro _ _ _ ⟨rfl, rfl, rfl⟩
    refine wl_nil (we_x [0,1,2,3,4,5,6,7,8,9] [] rfl rfl (xP hok 9 rfl (wx_done hok rfl (we_then (wc_keep [26,5,0,1] (S' := [_,_,_,_]) rfl ?_)))))
    refine wc_cond rfl (fun hb26 => ?_) (fun hb26 => ?_)
    ·
     replace hm := iteT hm hb26
     refine wc_keep [] (S' := []) rfl (wc_seq (wc_region (wP rfl (wl_nil (we_then (wc_ret (we_block_ret (we_then_ret (we_then_ret (we_block_ret (we_then_ret ?_)))))))))))
     have hE := (Option.some.inj hm).symm
     replace hE := link_inr hLu1 hE
     replace hE := link_inr hLj_1 hE
     replace hE := hE.symm
     subst hE
     refine ret_one (Hr := []) [] Tryd.results50 (res_tmp rfl) ⟨rfl, rfl, rfl⟩ (asK [] rfl) rfl rfl (.inl rfl)
    ·
     replace hm := iteF hm hb26
     refine wc_keep [5,0,1] (S' := [_,_,_]) rfl (wc_skip (we_block_normal (we_then (wc_region (wP rfl (wP rfl ?_))))))
     obtain ⟨hg16, hm⟩ := gd_some hm
     refine wl_as (d := 16) (v' := .int .i64 ((u1_5 + 1 : Nat) : Int)) (S' := [_,_,_,_]) rfl rfl (nat_add (a := u1_5) (b := 1) hg16) (wl_pure (S' := [_,_,_,_]) rfl rfl rfl rfl rfl (wl_nil ?_))
     have hE := (Option.some.inj hm).symm
     replace hE := link_inl hLu1 hE
     refine we_roundK (_, u1_5 + 1) (Nat.lt_succ_self _) hE [5,0,1] rfl (asK [8,9] rfl) rfl
   ·
    replace hm := iteF hm hb14
    refine wc_keep [] (S' := []) rfl (wc_exit (we_then_exit (we_then_exit (we_block_hit ?_))))
    have hE := (Option.some.inj hm).symm
    replace hE := link_inr hLu1 hE
    refine we_join () hE [] rfl (asK [] rfl) rfl
  ·
   rintro _ hE
   try dsimp only
   have hm := link_inl hLj_1 hE
   try dsimp only at hm
   refine wc_seq (wc_region (wP rfl (wl_nil (we_then (wc_ret ?_)))))
   have hE := (Option.some.inj hm).symm
   replace hE := hE.symm
   subst hE
   refine ret_one (Hr := []) [] Tryd.results50 (res_tmp rfl) ⟨rfl, rfl, rfl⟩ (asK [] rfl) rfl rfl (.inl rfl)
theorem w_ropewalkkit_SameExprs_s (N : Nat) (qp0 : Option Addr) (qc1 : Nat) (l0 : List Api_ExprD) (qp2 : Option Addr) (qc3 : Nat) (l1 : List Api_ExprD) (o0 : Bool) (hm : m_ropewalkkit_SameExprs N l0 l1 = some o0) : Spec Tryd.prog 82 [.slice qp0 l0.length qc1, .slice qp2 l1.length qc3] [.sli 7 R_Api_ExprD qp0 qc1 l0, .sli 7 R_Api_ExprD qp2 qc3 l1] [] (fun v Φr Hr => v = .bool o0 ∧ Φr = [] ∧ Hr = []) := by
 unfold m_ropewalkkit_SameExprs at hm
 refine spec_of Tryd.func82 rfl Tryd.ntmps82 rfl (S := [_,_]) rfl (fun C => (wc_seq (wc_region (wP rfl (wl_nil (we_then (wc_keep [0,1] (S' := [_,_]) rfl (wc_seq (wc_seq (wc_region (wP rfl (wN rfl tE_104 (wP rfl (wN rfl tE_104 ?_))))))))))))))
 refine wP rfl (wl_as (d := 10) (v' := .bool (l0.length != l1.length)) (S' := [_,_,_,_,_,_]) rfl rfl (natne (a := l0.length) (b := l1.length)) (wl_nil (we_then (wc_keep [10,0,1] (S' := [_,_,_]) rfl ?_))))
 refine wc_cond rfl (fun hb10 => ?_) (fun hb10 => ?_)
 ·
  replace hm := iteT hm hb10
  refine wc_keep [] (S' := []) rfl (wc_seq (wc_region (wP rfl (wl_nil (we_then (wc_ret (we_then_ret ?_)))))))
  have hE := (Option.some.inj hm).symm
  replace hE := hE.symm
  subst hE
  refine ret_one (Hr := []) [] Tryd.results82 (res_tmp rfl) ⟨rfl, rfl, rfl⟩ (asK [] rfl) rfl rfl (.inl rfl)
 ·
  replace hm := iteF hm hb10
  refine wc_keep [0,1] (S' := [_,_]) rfl (wc_skip (we_then (wc_seq ?_)))
  obtain ⟨bj_1, hm, hLj_1⟩ := bindS_some hm
  refine wc_cut (σ := Unit) (fun _ => bj_1 = .inl ()) (fun _ => []) (fun _ => []) (fun _ => []) ?_ ?_
  ·
   refine wc_seq (wc_region (wP rfl (wl_nil (we_then (wc_block (wc_loop (σ := Nat × Nat) (fun (nu1, u1_5) => iter (m_ropewalkkit_SameExprs_L1 N l0 l1) nu1 u1_5 = some bj_1) (fun (nu1, u1_5) => nu1) (fun (nu1, u1_5) => [(5, .int .i64 ((u1_5 : Nat) : Int)), (0, .slice qp0 l0.length qc1), (1, .slice qp2 l1.length qc3)]) (fun (nu1, u1_5) => [.sli 7 R_Api_ExprD qp0 qc1 l0, .sli 7 R_Api_ExprD qp2 qc3 l1]) (fun (nu1, u1_5) => []) (N, 0) hm [5,0,1] rfl (asK [0,1] rfl) rfl (fun s_ hm => ?_)))))))
   obtain ⟨nu1, u1_5⟩ := s_
   try dsimp only at hm ⊢
   obtain ⟨mu1, bu1, hnu1, hq, hLu1⟩ := iter_some hm
   clear hm
   subst hnu1
   replace hm := hq
   clear hq
   unfold m_ropewalkkit_SameExprs_L1 at hm
   try dsimp only at hm
   refine wc_seq (wc_seq (wc_region (wP rfl (wP rfl (wN rfl tE_104 (wP rfl (wl_as (d := 14) (v' := .bool (decide (u1_5 < l0.length))) (S' := [_,_,_,_,_,_]) rfl rfl (natlt (a := u1_5) (b := l0.length)) (wl_nil (we_then (wc_keep [14,5,0,1] (S' := [_,_,_,_]) rfl ?_))))))))))
   refine wc_cond rfl (fun hb14 => ?_) (fun hb14 => ?_)
   ·
    replace hm := iteT hm hb14
    refine wc_keep [5,0,1] (S' := [_,_,_]) rfl (wc_skip (we_then (wc_seq (wc_block (wc_seq ?_)))))
    obtain ⟨x19, hx19, hm⟩ := bindO_some hm
    obtain ⟨x23, hx23, hm⟩ := bindO_some hm
    obtain ⟨v25, hc25, hm⟩ := bindO_some hm
    refine wc_draw [0,1,2,3,4,5,6,7,9] rfl rfl (fun hok => (xP hok 0 rfl (xP hok 1 rfl (wx_indexA hok 2 0 u1_5 rfl rfl rfl (freshS_eq rfl) rfl rfl rfl rfl rfl rfl hx19 tE_104 tS_106 (fun b19 q19 cs19 hlx19 => (wx_openR R_Api_ExprD_opens 1 rfl (fun r19 er19 _ => ?_)))))))
    subst er19
    refine wx_load hok 3 1 0 rfl rfl rfl (freshS_eq rfl) rfl rfl rfl rfl (cs := [_,_,_,_,_,_,_]) rfl tS_106 tA_106 rfl rfl (xP hok 4 rfl (xP hok 5 rfl (wx_indexA hok 6 4 u1_5 rfl rfl rfl (freshS_eq rfl) rfl rfl rfl rfl rfl rfl hx23 tE_104 tS_106 (fun b23 q23 cs23 hlx23 => (wx_openR R_Api_ExprD_opens 1 rfl (fun r23 er23 _ => ?_))))))
    subst er23
    refine wx_load hok 7 1 0 rfl rfl rfl (freshS_eq rfl) rfl rfl rfl rfl (cs := [_,_,_,_,_,_,_]) rfl tS_106 tA_106 rfl rfl (xS hok 8 rfl (wC [] [] rfl fn_81 rfl (w_ropewalkkit_SameExpr_s N x19.kind x19.value.k x19.value.n x19.value.s x19.var x19.op r19.1 r19.2 x19.kids x23.kind x23.value.k x23.value.n x23.value.s x23.var x23.op r23.1 r23.2 x23.kids _ hc25) (asK [3,0] rfl) rfl (H' := []) rfl ?_))
    rintro _ _ _ ⟨rfl, rfl, rfl⟩
    refine wl_nil (we_x [0,1,2,3,4,5,6,7] [] rfl rfl (xP hok 9 rfl (wx_done hok rfl (we_then (wc_keep [26,5,0,1] (S' := [_,_,_,_]) rfl ?_)))))
    refine wc_cond rfl (fun hb26 => ?_) (fun hb26 => ?_)
    ·
     replace hm := iteT hm hb26
     refine wc_keep [] (S' := []) rfl (wc_seq (wc_region (wP rfl (wl_nil (we_then (wc_ret (we_block_ret (we_then_ret (we_then_ret (we_block_ret (we_then_ret ?_)))))))))))
     have hE := (Option.some.inj hm).symm
     replace hE := link_inr hLu1 hE
     replace hE := link_inr hLj_1 hE
     replace hE := hE.symm
     subst hE
     refine ret_one (Hr := []) [] Tryd.results82 (res_tmp rfl) ⟨rfl, rfl, rfl⟩ (asK [] rfl) rfl rfl (.inl rfl)
    ·
     replace hm := iteF hm hb26
     refine wc_keep [5,0,1] (S' := [_,_,_]) rfl (wc_skip (we_block_normal (we_then (wc_region (wP rfl (wP rfl ?_))))))
     obtain ⟨hg16, hm⟩ := gd_some hm
     refine wl_as (d := 16) (v' := .int .i64 ((u1_5 + 1 : Nat) : Int)) (S' := [_,_,_,_]) rfl rfl (nat_add (a := u1_5) (b := 1) hg16) (wl_pure (S' := [_,_,_,_]) rfl rfl rfl rfl rfl (wl_nil ?_))
     have hE := (Option.some.inj hm).symm
     replace hE := link_inl hLu1 hE
     refine we_roundK (_, u1_5 + 1) (Nat.lt_succ_self _) hE [5,0,1] rfl (asK [6,7] rfl) rfl
   ·
    replace hm := iteF hm hb14
    refine wc_keep [] (S' := []) rfl (wc_exit (we_then_exit (we_then_exit (we_block_hit ?_))))
    have hE := (Option.some.inj hm).symm
    replace hE := link_inr hLu1 hE
    refine we_join () hE [] rfl (asK [] rfl) rfl
  ·
   rintro _ hE
   try dsimp only
   have hm := link_inl hLj_1 hE
   try dsimp only at hm
   refine wc_seq (wc_region (wP rfl (wl_nil (we_then (wc_ret ?_)))))
   have hE := (Option.some.inj hm).symm
   replace hE := hE.symm
   subst hE
   refine ret_one (Hr := []) [] Tryd.results82 (res_tmp rfl) ⟨rfl, rfl, rfl⟩ (asK [] rfl) rfl rfl (.inl rfl)
theorem w_ropewalkkit_SameAct_s (N : Nat) (a0 : Int) (a1 : Int) (a2 : Int) (qp0 : Option Addr) (qc1 : Nat) (l3 : List Api_ExprD) (a4 : Int) (a5 : Int) (a6 : Int) (qp2 : Option Addr) (qc3 : Nat) (l7 : List Api_ExprD) (o0 : Bool) (hm : m_ropewalkkit_SameAct N a0 a1 a2 l3 a4 a5 a6 l7 = some o0) : Spec Tryd.prog 65 [.agg #[.int .u8 a0, .int .i64 a1, .int .i64 a2, .slice qp0 l3.length qc1], .agg #[.int .u8 a4, .int .i64 a5, .int .i64 a6, .slice qp2 l7.length qc3]] [.sli 7 R_Api_ExprD qp0 qc1 l3, .sli 7 R_Api_ExprD qp2 qc3 l7] [] (fun v Φr Hr => v = .bool o0 ∧ Φr = [] ∧ Hr = []) := by
 unfold m_ropewalkkit_SameAct at hm
 refine spec_of Tryd.func65 rfl Tryd.ntmps65 rfl (S := [_,_]) rfl (fun C => (wc_seq (wc_region (wB rfl (fun g2 => (wB rfl (fun g3 => (wP rfl (wl_nil (we_then (wc_keep [3,2] (S' := [_,_]) rfl (wc_seq ?_))))))))))))
 obtain ⟨bj_1, hm, hLj_1⟩ := bindO_some hm
 unfold m_ropewalkkit_SameAct_C1 at hm
 refine wc_cut (σ := Bool) (fun j_1_4 => bj_1 = j_1_4) (fun j_1_4 => [(4, .bool j_1_4)]) (fun j_1_4 => []) (fun j_1_4 => []) ?_ ?_
 ·
  refine wc_region (wF rfl tF_112_0 (wD 1 0 rfl tS_110 tA_110 rfl (wF rfl tF_112_0 (wD 0 0 rfl tS_110 tA_110 rfl (wP rfl (wP rfl ?_))))))
  refine wl_split (d := 10) (S' := [_,_,_,_,_,_,_]) rfl rfl (fun hs10 => ?_) (fun hs10 => ?_)
  ·
   replace hm := iteT hm hs10
   refine wF rfl tF_112_1 (wD 1 1 rfl tS_3 tA_3 rfl (wF rfl tF_112_1 (wD 0 1 rfl tS_3 tA_3 rfl (wP rfl (wP rfl (wP rfl ?_))))))
   refine wl_split (d := 17) (S' := [_,_,_,_,_,_,_,_,_,_,_,_,_,_]) rfl rfl (fun hs17 => ?_) (fun hs17 => ?_)
   ·
    replace hm := iteT hm hs17
    refine wF rfl tF_112_2 (wD 1 2 rfl tS_3 tA_3 rfl (wF rfl tF_112_2 (wD 0 2 rfl tS_3 tA_3 rfl (wP rfl (wP rfl (wP rfl ?_))))))
    refine wl_split (d := 24) (S' := [_,_,_,_,_,_,_,_,_,_,_,_,_,_,_,_,_,_,_,_,_]) rfl rfl (fun hs24 => ?_) (fun hs24 => ?_)
    ·
     replace hm := iteT hm hs24
     refine wF rfl tF_112_3 (wD 1 3 rfl tS_104 tA_104 rfl (wF rfl tF_112_3 (wD 0 3 rfl tS_104 tA_104 rfl ?_)))
     obtain ⟨v29, hc29, hm⟩ := bindO_some hm
     refine wC [] [0,1] rfl fn_82 rfl (w_ropewalkkit_SameExprs_s N qp0 qc1 l3 qp2 qc3 l7 _ hc29) (asK [0,1] rfl) rfl (H' := [_,_]) rfl ?_
     rintro _ _ _ ⟨rfl, rfl, rfl⟩
     refine wP rfl (wP rfl (wl_nil ?_))
     have hE := (Option.some.inj hm).symm
     refine we_pick [] rfl (H' := []) rfl ?_
     refine we_join v29 hE [4] rfl (asK [] rfl) rfl
    ·
     replace hm := iteF hm hs24
     refine wO rfl (wO rfl (wO rfl (wO rfl (wO rfl (wP rfl (wP rfl (wl_nil ?_)))))))
     have hE := (Option.some.inj hm).symm
     refine we_pick [] rfl (H' := []) rfl ?_
     refine we_join false hE [4] rfl (asK [] rfl) rfl
   ·
    replace hm := iteF hm hs17
    refine wO rfl (wO rfl (wO rfl (wO rfl (wO rfl (wP rfl (wP rfl (wO rfl (wO rfl (wO rfl (wO rfl (wO rfl (wP rfl (wP rfl ?_)))))))))))))
    refine wl_nil ?_
    have hE := (Option.some.inj hm).symm
    refine we_pick [] rfl (H' := []) rfl ?_
    refine we_join false hE [4] rfl (asK [] rfl) rfl
  ·
   replace hm := iteF hm hs10
   refine wO rfl (wO rfl (wO rfl (wO rfl (wO rfl (wP rfl (wP rfl (wO rfl (wO rfl (wO rfl (wO rfl (wO rfl (wP rfl (wP rfl ?_)))))))))))))
   refine wO rfl (wO rfl (wO rfl (wO rfl (wO rfl (wP rfl (wP rfl (wl_nil ?_)))))))
   have hE := (Option.some.inj hm).symm
   refine we_pick [] rfl (H' := []) rfl ?_
   refine we_join false hE [4] rfl (asK [] rfl) rfl
 ·
  rintro j_1_4 hE
  try dsimp only
  have hm := hLj_1
  rw [hE] at hm
  refine wc_ret ?_
  have hE := (Option.some.inj hm).symm
  replace hE := hE.symm
  subst hE
  refine ret_one (Hr := []) [] Tryd.results65 (res_tmp rfl) ⟨rfl, rfl, rfl⟩ (asK [] rfl) rfl rfl (.inl rfl)
theorem w_ropewalkkit_SameActs_s (N : Nat) (qp0 : Option Addr) (qc1 : Nat) (l0 : List Api_ActD) (qp2 : Option Addr) (qc3 : Nat) (l1 : List Api_ActD) (o0 : Bool) (hm : m_ropewalkkit_SameActs N l0 l1 = some o0) : Spec Tryd.prog 51 [.slice qp0 l0.length qc1, .slice qp2 l1.length qc3] [.sli 4 R_Api_ActD qp0 qc1 l0, .sli 4 R_Api_ActD qp2 qc3 l1] [] (fun v Φr Hr => v = .bool o0 ∧ Φr = [] ∧ Hr = []) := by
 unfold m_ropewalkkit_SameActs at hm
 refine spec_of Tryd.func51 rfl Tryd.ntmps51 rfl (S := [_,_]) rfl (fun C => (wc_seq (wc_region (wP rfl (wl_nil (we_then (wc_keep [0,1] (S' := [_,_]) rfl (wc_seq (wc_seq (wc_region (wP rfl (wN rfl tE_47 (wP rfl (wN rfl tE_47 ?_))))))))))))))
 refine wP rfl (wl_as (d := 10) (v' := .bool (l0.length != l1.length)) (S' := [_,_,_,_,_,_]) rfl rfl (natne (a := l0.length) (b := l1.length)) (wl_nil (we_then (wc_keep [10,0,1] (S' := [_,_,_]) rfl ?_))))
 refine wc_cond rfl (fun hb10 => ?_) (fun hb10 => ?_)
 ·
  replace hm := iteT hm hb10
  refine wc_keep [] (S' := []) rfl (wc_seq (wc_region (wP rfl (wl_nil (we_then (wc_ret (we_then_ret ?_)))))))
  have hE := (Option.some.inj hm).symm
  replace hE := hE.symm
  subst hE
  refine ret_one (Hr := []) [] Tryd.results51 (res_tmp rfl) ⟨rfl, rfl, rfl⟩ (asK [] rfl) rfl rfl (.inl rfl)
 ·
  replace hm := iteF hm hb10
  refine wc_keep [0,1] (S' := [_,_]) rfl (wc_skip (we_then (wc_seq ?_)))
  obtain ⟨bj_1, hm, hLj_1⟩ := bindS_some hm
  refine wc_cut (σ := Unit) (fun _ => bj_1 = .inl ()) (fun _ => []) (fun _ => []) (fun _ => []) ?_ ?_
  ·
   refine wc_seq (wc_region (wP rfl (wl_nil (we_then (wc_block (wc_loop (σ := Nat × Nat) (fun (nu1, u1_5) => iter (m_ropewalkkit_SameActs_L1 N l0 l1) nu1 u1_5 = some bj_1) (fun (nu1, u1_5) => nu1) (fun (nu1, u1_5) => [(5, .int .i64 ((u1_5 : Nat) : Int)), (0, .slice qp0 l0.length qc1), (1, .slice qp2 l1.length qc3)]) (fun (nu1, u1_5) => [.sli 4 R_Api_ActD qp0 qc1 l0, .sli 4 R_Api_ActD qp2 qc3 l1]) (fun (nu1, u1_5) => []) (N, 0) hm [5,0,1] rfl (asK [0,1] rfl) rfl (fun s_ hm => ?_)))))))
   obtain ⟨nu1, u1_5⟩ := s_
   try dsimp only at hm ⊢
   obtain ⟨mu1, bu1, hnu1, hq, hLu1⟩ := iter_some hm
   clear hm
   subst hnu1
   replace hm := hq
   clear hq
   unfold m_ropewalkkit_SameActs_L1 at hm
   try dsimp only at hm
   refine wc_seq (wc_seq (wc_region (wP rfl (wP rfl (wN rfl tE_47 (wP rfl (wl_as (d := 14) (v' := .bool (decide (u1_5 < l0.length))) (S' := [_,_,_,_,_,_]) rfl rfl (natlt (a := u1_5) (b := l0.length)) (wl_nil (we_then (wc_keep [14,5,0,1] (S' := [_,_,_,_]) rfl ?_))))))))))
   refine wc_cond rfl (fun hb14 => ?_) (fun hb14 => ?_)
   ·
    replace hm := iteT hm hb14
    refine wc_keep [5,0,1] (S' := [_,_,_]) rfl (wc_skip (we_then (wc_seq (wc_block (wc_seq ?_)))))
    obtain ⟨x19, hx19, hm⟩ := bindO_some hm
    obtain ⟨x23, hx23, hm⟩ := bindO_some hm
    obtain ⟨v25, hc25, hm⟩ := bindO_some hm
    refine wc_draw [0,1,2,3,4,5,6,7,9] rfl rfl (fun hok => (xP hok 0 rfl (xP hok 1 rfl (wx_indexA hok 2 0 u1_5 rfl rfl rfl (freshS_eq rfl) rfl rfl rfl rfl rfl rfl hx19 tE_47 tS_112 (fun b19 q19 cs19 hlx19 => (wx_openR R_Api_ActD_opens 1 rfl (fun r19 er19 _ => ?_)))))))
    subst er19
    refine wx_load hok 3 1 0 rfl rfl rfl (freshS_eq rfl) rfl rfl rfl rfl (cs := [_,_,_,_]) rfl tS_112 tA_112 rfl rfl (xP hok 4 rfl (xP hok 5 rfl (wx_indexA hok 6 4 u1_5 rfl rfl rfl (freshS_eq rfl) rfl rfl rfl rfl rfl rfl hx23 tE_47 tS_112 (fun b23 q23 cs23 hlx23 => (wx_openR R_Api_ActD_opens 1 rfl (fun r23 er23 _ => ?_))))))
    subst er23
    refine wx_load hok 7 1 0 rfl rfl rfl (freshS_eq rfl) rfl rfl rfl rfl (cs := [_,_,_,_]) rfl tS_112 tA_112 rfl rfl (xS hok 8 rfl (wC [] [] rfl fn_65 rfl (w_ropewalkkit_SameAct_s N x19.kind x19.type x19.which r19.1 r19.2 x19.exprs x23.kind x23.type x23.which r23.1 r23.2 x23.exprs _ hc25) (asK [3,0] rfl) rfl (H' := []) rfl ?_))
    rintro _ _ _ ⟨rfl, rfl, rfl⟩
    refine wl_nil (we_x [0,1,2,3,4,5,6,7] [] rfl rfl (xP hok 9 rfl (wx_done hok rfl (we_then (wc_keep [26,5,0,1] (S' := [_,_,_,_]) rfl ?_)))))
    refine wc_cond rfl (fun hb26 => ?_) (fun hb26 => ?_)
    ·
     replace hm := iteT hm hb26
     refine wc_keep [] (S' := []) rfl (wc_seq (wc_region (wP rfl (wl_nil (we_then (wc_ret (we_block_ret (we_then_ret (we_then_ret (we_block_ret (we_then_ret ?_)))))))))))
     have hE := (Option.some.inj hm).symm
     replace hE := link_inr hLu1 hE
     replace hE := link_inr hLj_1 hE
     replace hE := hE.symm
     subst hE
     refine ret_one (Hr := []) [] Tryd.results51 (res_tmp rfl) ⟨rfl, rfl, rfl⟩ (asK [] rfl) rfl rfl (.inl rfl)
    ·
     replace hm := iteF hm hb26
     refine wc_keep [5,0,1] (S' := [_,_,_]) rfl (wc_skip (we_block_normal (we_then (wc_region (wP rfl (wP rfl ?_))))))
     obtain ⟨hg16, hm⟩ := gd_some hm
     refine wl_as (d := 16) (v' := .int .i64 ((u1_5 + 1 : Nat) : Int)) (S' := [_,_,_,_]) rfl rfl (nat_add (a := u1_5) (b := 1) hg16) (wl_pure (S' := [_,_,_,_]) rfl rfl rfl rfl rfl (wl_nil ?_))
     have hE := (Option.some.inj hm).symm
     replace hE := link_inl hLu1 hE
     refine we_roundK (_, u1_5 + 1) (Nat.lt_succ_self _) hE [5,0,1] rfl (asK [6,7] rfl) rfl
   ·
    replace hm := iteF hm hb14
    refine wc_keep [] (S' := []) rfl (wc_exit (we_then_exit (we_then_exit (we_block_hit ?_))))
    have hE := (Option.some.inj hm).symm
    replace hE := link_inr hLu1 hE
    refine we_join () hE [] rfl (asK [] rfl) rfl
  ·
   rintro _ hE
   try dsimp only
   have hm := link_inl hLj_1 hE
   try dsimp only at hm
   refine wc_seq (wc_region (wP rfl (wl_nil (we_then (wc_ret ?_)))))
   have hE := (Option.some.inj hm).symm
   replace hE := hE.symm
   subst hE
   refine ret_one (Hr := []) [] Tryd.results51 (res_tmp rfl) ⟨rfl, rfl, rfl⟩ (asK [] rfl) rfl rfl (.inl rfl)
theorem w_ropewalkkit_SameRule_s (N : Nat) (a0 : ByteArray) (a1 : Int) (a2 : Int) (qp0 : Option Addr) (qc1 : Nat) (l3 : List Api_CondD) (qp2 : Option Addr) (qc3 : Nat) (l4 : List Api_ActD) (a5 : ByteArray) (a6 : Int) (a7 : Int) (qp4 : Option Addr) (qc5 : Nat) (l8 : List Api_CondD) (qp6 : Option Addr) (qc7 : Nat) (l9 : List Api_ActD) (o0 : Bool) (hm : m_ropewalkkit_SameRule N a0 a1 a2 l3 l4 a5 a6 a7 l8 l9 = some o0) : Spec Tryd.prog 42 [.agg #[.string a0, .int .i64 a1, .int .i64 a2, .slice qp0 l3.length qc1, .slice qp2 l4.length qc3], .agg #[.string a5, .int .i64 a6, .int .i64 a7, .slice qp4 l8.length qc5, .slice qp6 l9.length qc7]] [.sli 10 R_Api_CondD qp0 qc1 l3, .sli 4 R_Api_ActD qp2 qc3 l4, .sli 10 R_Api_CondD qp4 qc5 l8, .sli 4 R_Api_ActD qp6 qc7 l9] [] (fun v Φr Hr => v = .bool o0 ∧ Φr = [] ∧ Hr = []) := by
 unfold m_ropewalkkit_SameRule at hm
 refine spec_of Tryd.func42 rfl Tryd.ntmps42 rfl (S := [_,_]) rfl (fun C => (wc_seq (wc_region (wB rfl (fun g2 => (wB rfl (fun g3 => (wP rfl (wl_nil (we_then (wc_keep [3,2] (S' := [_,_]) rfl (wc_seq ?_))))))))))))
 obtain ⟨bj_1, hm, hLj_1⟩ := bindO_some hm
 unfold m_ropewalkkit_SameRule_C1 at hm
 refine wc_cut (σ := Bool) (fun j_1_4 => bj_1 = j_1_4) (fun j_1_4 => [(4, .bool j_1_4)]) (fun j_1_4 => []) (fun j_1_4 => []) ?_ ?_
 ·
  refine wc_region (wF rfl tF_49_0 (wD 1 0 rfl tS_9 tA_9 rfl (wF rfl tF_49_0 (wD 0 0 rfl tS_9 tA_9 rfl (wP rfl (wP rfl ?_))))))
  refine wl_split (d := 10) (S' := [_,_,_,_,_,_,_]) rfl rfl (fun hs10 => ?_) (fun hs10 => ?_)
  ·
   replace hm := iteT hm hs10
   refine wF rfl tF_49_1 (wD 1 1 rfl tS_3 tA_3 rfl (wF rfl tF_49_1 (wD 0 1 rfl tS_3 tA_3 rfl (wP rfl (wP rfl (wP rfl ?_))))))
   refine wl_split (d := 17) (S' := [_,_,_,_,_,_,_,_,_,_,_,_,_,_]) rfl rfl (fun hs17 => ?_) (fun hs17 => ?_)
   ·
    replace hm := iteT hm hs17
    refine wF rfl tF_49_2 (wD 1 2 rfl tS_3 tA_3 rfl (wF rfl tF_49_2 (wD 0 2 rfl tS_3 tA_3 rfl (wP rfl (wP rfl (wP rfl ?_))))))
    refine wl_split (d := 24) (S' := [_,_,_,_,_,_,_,_,_,_,_,_,_,_,_,_,_,_,_,_,_]) rfl rfl (fun hs24 => ?_) (fun hs24 => ?_)
    ·
     replace hm := iteT hm hs24
     refine wF rfl tF_49_3 (wD 1 3 rfl tS_46 tA_46 rfl (wF rfl tF_49_3 (wD 0 3 rfl tS_46 tA_46 rfl ?_)))
     obtain ⟨v29, hc29, hm⟩ := bindO_some hm
     refine wC [] [0,1] rfl fn_50 rfl (w_ropewalkkit_SameConds_s N qp0 qc1 l3 qp4 qc5 l8 _ hc29) (asK [0,2] rfl) rfl (H' := [_,_]) rfl ?_
     rintro _ _ _ ⟨rfl, rfl, rfl⟩
     refine wP rfl (wP rfl ?_)
     refine wl_split (d := 31) (S' := [_,_,_,_,_,_,_,_,_,_,_,_,_,_,_,_,_,_,_,_,_,_,_,_,_,_,_,_]) rfl rfl (fun hs31 => ?_) (fun hs31 => ?_)
     ·
      replace hm := iteT hm hs31
      refine wF rfl tF_49_4 (wD 1 4 rfl tS_47 tA_47 rfl (wF rfl tF_49_4 (wD 0 4 rfl tS_47 tA_47 rfl ?_)))
      obtain ⟨v36, hc36, hm⟩ := bindO_some hm
      refine wC [] [0,1] rfl fn_51 rfl (w_ropewalkkit_SameActs_s N qp2 qc3 l4 qp6 qc7 l9 _ hc36) (asK [1,3] rfl) rfl (H' := [_,_]) rfl ?_
      rintro _ _ _ ⟨rfl, rfl, rfl⟩
      refine wP rfl (wP rfl (wl_nil ?_))
      have hE := (Option.some.inj hm).symm
      refine we_pick [] rfl (H' := []) rfl ?_
      refine we_join v36 hE [4] rfl (asK [] rfl) rfl
     ·
      replace hm := iteF hm hs31
      refine wO rfl (wO rfl (wO rfl (wO rfl (wO rfl (wP rfl (wP rfl (wl_nil ?_)))))))
      have hE := (Option.some.inj hm).symm
      refine we_pick [] rfl (H' := []) rfl ?_
      refine we_join false hE [4] rfl (asK [] rfl) rfl
    ·
     replace hm := iteF hm hs24
     refine wO rfl (wO rfl (wO rfl (wO rfl (wO rfl (wP rfl (wP rfl (wO rfl (wO rfl (wO rfl (wO rfl (wO rfl (wP rfl (wP rfl ?_)))))))))))))
     refine wl_nil ?_
     have hE := (Option.some.inj hm).symm
     refine we_pick [] rfl (H' := []) rfl ?_
     refine we_join false hE [4] rfl (asK [] rfl) rfl
   ·
    replace hm := iteF hm hs17
    refine wO rfl (wO rfl (wO rfl (wO rfl (wO rfl (wP rfl (wP rfl (wO rfl (wO rfl (wO rfl (wO rfl (wO rfl (wP rfl (wP rfl ?_)))))))))))))
    refine wO rfl (wO rfl (wO rfl (wO rfl (wO rfl (wP rfl (wP rfl (wl_nil ?_)))))))
    have hE := (Option.some.inj hm).symm
    refine we_pick [] rfl (H' := []) rfl ?_
    refine we_join false hE [4] rfl (asK [] rfl) rfl
  ·
   replace hm := iteF hm hs10
   refine wO rfl (wO rfl (wO rfl (wO rfl (wO rfl (wP rfl (wP rfl (wO rfl (wO rfl (wO rfl (wO rfl (wO rfl (wP rfl (wP rfl ?_)))))))))))))
   refine wO rfl (wO rfl (wO rfl (wO rfl (wO rfl (wP rfl (wP rfl (wO rfl (wO rfl (wO rfl (wO rfl (wO rfl (wP rfl (wP rfl ?_)))))))))))))
   refine wl_nil ?_
   have hE := (Option.some.inj hm).symm
   refine we_pick [] rfl (H' := []) rfl ?_
   refine we_join false hE [4] rfl (asK [] rfl) rfl
 ·
  rintro j_1_4 hE
  try dsimp only
  have hm := hLj_1
  rw [hE] at hm
  refine wc_ret ?_
  have hE := (Option.some.inj hm).symm
  replace hE := hE.symm
  subst hE
  refine ret_one (Hr := []) [] Tryd.results42 (res_tmp rfl) ⟨rfl, rfl, rfl⟩ (asK [] rfl) rfl rfl (.inl rfl)
theorem w_ropewalkkit_SameRuleRow_s (N : Nat) (qp0 : Option Addr) (qc1 : Nat) (l0 : List Api_RuleD) (qp2 : Option Addr) (qc3 : Nat) (l1 : List Api_RuleD) (o0 : Bool) (hm : m_ropewalkkit_SameRuleRow N l0 l1 = some o0) : Spec Tryd.prog 26 [.slice qp0 l0.length qc1, .slice qp2 l1.length qc3] [.sli 5 R_Api_RuleD qp0 qc1 l0, .sli 5 R_Api_RuleD qp2 qc3 l1] [] (fun v Φr Hr => v = .bool o0 ∧ Φr = [] ∧ Hr = []) := by
 unfold m_ropewalkkit_SameRuleRow at hm
 refine spec_of Tryd.func26 rfl Tryd.ntmps26 rfl (S := [_,_]) rfl (fun C => (wc_seq (wc_region (wP rfl (wl_nil (we_then (wc_keep [0,1] (S' := [_,_]) rfl (wc_seq (wc_seq (wc_region (wP rfl (wN rfl tE_29 (wP rfl (wN rfl tE_29 ?_))))))))))))))
 refine wP rfl (wl_as (d := 10) (v' := .bool (l0.length != l1.length)) (S' := [_,_,_,_,_,_]) rfl rfl (natne (a := l0.length) (b := l1.length)) (wl_nil (we_then (wc_keep [10,0,1] (S' := [_,_,_]) rfl ?_))))
 refine wc_cond rfl (fun hb10 => ?_) (fun hb10 => ?_)
 ·
  replace hm := iteT hm hb10
  refine wc_keep [] (S' := []) rfl (wc_seq (wc_region (wP rfl (wl_nil (we_then (wc_ret (we_then_ret ?_)))))))
  have hE := (Option.some.inj hm).symm
  replace hE := hE.symm
  subst hE
  refine ret_one (Hr := []) [] Tryd.results26 (res_tmp rfl) ⟨rfl, rfl, rfl⟩ (asK [] rfl) rfl rfl (.inl rfl)
 ·
  replace hm := iteF hm hb10
  refine wc_keep [0,1] (S' := [_,_]) rfl (wc_skip (we_then (wc_seq ?_)))
  obtain ⟨bj_1, hm, hLj_1⟩ := bindS_some hm
  refine wc_cut (σ := Unit) (fun _ => bj_1 = .inl ()) (fun _ => []) (fun _ => []) (fun _ => []) ?_ ?_
  ·
   refine wc_seq (wc_region (wP rfl (wl_nil (we_then (wc_block (wc_loop (σ := Nat × Nat) (fun (nu1, u1_5) => iter (m_ropewalkkit_SameRuleRow_L1 N l0 l1) nu1 u1_5 = some bj_1) (fun (nu1, u1_5) => nu1) (fun (nu1, u1_5) => [(5, .int .i64 ((u1_5 : Nat) : Int)), (0, .slice qp0 l0.length qc1), (1, .slice qp2 l1.length qc3)]) (fun (nu1, u1_5) => [.sli 5 R_Api_RuleD qp0 qc1 l0, .sli 5 R_Api_RuleD qp2 qc3 l1]) (fun (nu1, u1_5) => []) (N, 0) hm [5,0,1] rfl (asK [0,1] rfl) rfl (fun s_ hm => ?_)))))))
   obtain ⟨nu1, u1_5⟩ := s_
   try dsimp only at hm ⊢
   obtain ⟨mu1, bu1, hnu1, hq, hLu1⟩ := iter_some hm
   clear hm
   subst hnu1
   replace hm := hq
   clear hq
   unfold m_ropewalkkit_SameRuleRow_L1 at hm
   try dsimp only at hm
   refine wc_seq (wc_seq (wc_region (wP rfl (wP rfl (wN rfl tE_29 (wP rfl (wl_as (d := 14) (v' := .bool (decide (u1_5 < l0.length))) (S' := [_,_,_,_,_,_]) rfl rfl (natlt (a := u1_5) (b := l0.length)) (wl_nil (we_then (wc_keep [14,5,0,1] (S' := [_,_,_,_]) rfl ?_))))))))))
   refine wc_cond rfl (fun hb14 => ?_) (fun hb14 => ?_)
   ·
    replace hm := iteT hm hb14
    refine wc_keep [5,0,1] (S' := [_,_,_]) rfl (wc_skip (we_then (wc_seq (wc_block (wc_seq ?_)))))
    obtain ⟨x19, hx19, hm⟩ := bindO_some hm
    obtain ⟨x23, hx23, hm⟩ := bindO_some hm
    obtain ⟨v25, hc25, hm⟩ := bindO_some hm
    refine wc_draw [0,1,2,3,4,5,6,7,9] rfl rfl (fun hok => (xP hok 0 rfl (xP hok 1 rfl (wx_indexA hok 2 0 u1_5 rfl rfl rfl (freshS_eq rfl) rfl rfl rfl rfl rfl rfl hx19 tE_29 tS_49 (fun b19 q19 cs19 hlx19 => (wx_openR R_Api_RuleD_opens 1 rfl (fun r19 er19 _ => ?_)))))))
    subst er19
    refine wx_load hok 3 2 0 rfl rfl rfl (freshS_eq rfl) rfl rfl rfl rfl (cs := [_,_,_,_,_]) rfl tS_49 tA_49 rfl rfl (xP hok 4 rfl (xP hok 5 rfl (wx_indexA hok 6 5 u1_5 rfl rfl rfl (freshS_eq rfl) rfl rfl rfl rfl rfl rfl hx23 tE_29 tS_49 (fun b23 q23 cs23 hlx23 => (wx_openR R_Api_RuleD_opens 1 rfl (fun r23 er23 _ => ?_))))))
    subst er23
    refine wx_load hok 7 2 0 rfl rfl rfl (freshS_eq rfl) rfl rfl rfl rfl (cs := [_,_,_,_,_]) rfl tS_49 tA_49 rfl rfl (xS hok 8 rfl (wC [] [] rfl fn_42 rfl (w_ropewalkkit_SameRule_s N x19.name x19.salience x19.vars r19.1.1 r19.1.2 x19.conds r19.2.1 r19.2.2 x19.acts x23.name x23.salience x23.vars r23.1.1 r23.1.2 x23.conds r23.2.1 r23.2.2 x23.acts _ hc25) (asK [4,5,0,1] rfl) rfl (H' := []) rfl ?_))
    rintro _ _ _ ⟨rfl, rfl, rfl⟩
    refine wl_nil (we_x [0,1,2,3,4,5,6,7,8,9] [] rfl rfl (xP hok 9 rfl (wx_done hok rfl (we_then (wc_keep [26,5,0,1] (S' := [_,_,_,_]) rfl ?_)))))
    refine wc_cond rfl (fun hb26 => ?_) (fun hb26 => ?_)
    ·
     replace hm := iteT hm hb26
     refine wc_keep [] (S' := []) rfl (wc_seq (wc_region (wP rfl (wl_nil (we_then (wc_ret (we_block_ret (we_then_ret (we_then_ret (we_block_ret (we_then_ret ?_)))))))))))
     have hE := (Option.some.inj hm).symm
     replace hE := link_inr hLu1 hE
     replace hE := link_inr hLj_1 hE
     replace hE := hE.symm
     subst hE
     refine ret_one (Hr := []) [] Tryd.results26 (res_tmp rfl) ⟨rfl, rfl, rfl⟩ (asK [] rfl) rfl rfl (.inl rfl)
    ·
     replace hm := iteF hm hb26
     refine wc_keep [5,0,1] (S' := [_,_,_]) rfl (wc_skip (we_block_normal (we_then (wc_region (wP rfl (wP rfl ?_))))))
     obtain ⟨hg16, hm⟩ := gd_some hm
     refine wl_as (d := 16) (v' := .int .i64 ((u1_5 + 1 : Nat) : Int)) (S' := [_,_,_,_]) rfl rfl (nat_add (a := u1_5) (b := 1) hg16) (wl_pure (S' := [_,_,_,_]) rfl rfl rfl rfl rfl (wl_nil ?_))
     have hE := (Option.some.inj hm).symm
     replace hE := link_inl hLu1 hE
     refine we_roundK (_, u1_5 + 1) (Nat.lt_succ_self _) hE [5,0,1] rfl (asK [8,9] rfl) rfl
   ·
    replace hm := iteF hm hb14
    refine wc_keep [] (S' := []) rfl (wc_exit (we_then_exit (we_then_exit (we_block_hit ?_))))
    have hE := (Option.some.inj hm).symm
    replace hE := link_inr hLu1 hE
    refine we_join () hE [] rfl (asK [] rfl) rfl
  ·
   rintro _ hE
   try dsimp only
   have hm := link_inl hLj_1 hE
   try dsimp only at hm
   refine wc_seq (wc_region (wP rfl (wl_nil (we_then (wc_ret ?_)))))
   have hE := (Option.some.inj hm).symm
   replace hE := hE.symm
   subst hE
   refine ret_one (Hr := []) [] Tryd.results26 (res_tmp rfl) ⟨rfl, rfl, rfl⟩ (asK [] rfl) rfl rfl (.inl rfl)
theorem w_ropewalkkit_SameRules_s (N : Nat) (qp0 : Option Addr) (qc1 : Nat) (l0 : List Api_TypeD) (qp2 : Option Addr) (qc3 : Nat) (l1 : List Api_RuleD) (qp4 : Option Addr) (qc5 : Nat) (l2 : List Api_TypeD) (qp6 : Option Addr) (qc7 : Nat) (l3 : List Api_RuleD) (o0 : Bool) (hm : m_ropewalkkit_SameRules N l0 l1 l2 l3 = some o0) : Spec Tryd.prog 11 [.agg #[.slice qp0 l0.length qc1, .slice qp2 l1.length qc3], .agg #[.slice qp4 l2.length qc5, .slice qp6 l3.length qc7]] [.sli 2 R_Api_TypeD qp0 qc1 l0, .sli 5 R_Api_RuleD qp2 qc3 l1, .sli 2 R_Api_TypeD qp4 qc5 l2, .sli 5 R_Api_RuleD qp6 qc7 l3] [] (fun v Φr Hr => v = .bool o0 ∧ Φr = [] ∧ Hr = []) := by
 unfold m_ropewalkkit_SameRules at hm
 refine spec_of Tryd.func11 rfl Tryd.ntmps11 rfl (S := [_,_]) rfl (fun C => (wc_seq (wc_region (wB rfl (fun g2 => (wB rfl (fun g3 => (wP rfl (wl_nil (we_then (wc_keep [3,2] (S' := [_,_]) rfl (wc_seq (wc_region (wF rfl tF_31_0 (wD 1 0 rfl tS_28 tA_28 rfl (wF rfl tF_31_0 ?_))))))))))))))))
 refine wD 0 0 rfl tS_28 tA_28 rfl ?_
 obtain ⟨v9, hc9, hm⟩ := bindO_some hm
 refine wC [] [0,1] rfl fn_25 rfl (w_ropewalkkit_SameTypes_s N qp0 qc1 l0 qp4 qc5 l2 _ hc9) (asK [0,2] rfl) rfl (H' := [_,_]) rfl ?_
 rintro _ _ _ ⟨rfl, rfl, rfl⟩
 refine wP rfl ?_
 refine wl_split (d := 10) (S' := [_,_,_,_,_,_,_]) rfl rfl (fun hs10 => ?_) (fun hs10 => ?_)
 ·
  replace hm := iteT hm hs10
  refine wF rfl tF_31_1 (wD 1 1 rfl tS_29 tA_29 rfl (wF rfl tF_31_1 (wD 0 1 rfl tS_29 tA_29 rfl ?_)))
  obtain ⟨v15, hc15, hm⟩ := bindO_some hm
  refine wC [] [0,1] rfl fn_26 rfl (w_ropewalkkit_SameRuleRow_s N qp2 qc3 l1 qp6 qc7 l3 _ hc15) (asK [1,3] rfl) rfl (H' := [_,_]) rfl ?_
  rintro _ _ _ ⟨rfl, rfl, rfl⟩
  refine wP rfl (wP rfl (wl_nil (we_then (wc_keep [4] (S' := [_]) rfl (wc_ret ?_)))))
  have hE := (Option.some.inj hm).symm
  replace hE := hE.symm
  subst hE
  refine ret_one (Hr := []) [] Tryd.results11 (res_tmp rfl) ⟨rfl, rfl, rfl⟩ (asK [] rfl) rfl rfl (.inl rfl)
 ·
  replace hm := iteF hm hs10
  refine wO rfl (wO rfl (wO rfl (wO rfl (wO rfl (wP rfl (wP rfl (wl_nil (we_then (wc_keep [4] (S' := [_]) rfl (wc_ret ?_))))))))))
  have hE := (Option.some.inj hm).symm
  replace hE := hE.symm
  subst hE
  refine ret_one (Hr := []) [] Tryd.results11 (res_tmp rfl) ⟨rfl, rfl, rfl⟩ (asK [] rfl) rfl rfl (.inl rfl)
theorem w_slices_Compare_int_v2_s (N : Nat) (qp0 : Option Addr) (qc1 : Nat) (l0 : List Int) (o0 : Int) (hm : m_slices_Compare_int_v2 N l0 = some o0) : Spec Tryd.prog 39 [.slice qp0 l0.length qc1, .slice qp0 l0.length qc1] [.sli 1 R_i64 qp0 qc1 l0] [] (fun v Φr Hr => v = .int .i64 o0 ∧ Φr = [] ∧ Hr = []) := by
 unfold m_slices_Compare_int_v2 at hm
 refine spec_of Tryd.func39 rfl Tryd.ntmps39 rfl (S := [_,_]) rfl (fun C => (wc_seq (wc_region (wP rfl (wl_nil (we_then (wc_keep [0,1] (S' := [_,_]) rfl (wc_seq ?_))))))))
 obtain ⟨bj_1, hm, hLj_1⟩ := bindS_some hm
 refine wc_cut (σ := Unit) (fun _ => bj_1 = .inl ()) (fun _ => [(0, .slice qp0 l0.length qc1), (1, .slice qp0 l0.length qc1)]) (fun _ => [.sli 1 R_i64 qp0 qc1 l0]) (fun _ => []) ?_ ?_
 ·
  refine wc_seq (wc_region (wP rfl (wN rfl tE_22 (wP rfl (wl_nil (we_then (wc_block (wc_loop (σ := Nat × Nat) (fun (nu1, u1_11) => iter (m_slices_Compare_int_v2_L1 N l0) nu1 u1_11 = some bj_1) (fun (nu1, u1_11) => nu1) (fun (nu1, u1_11) => [(11, .int .i64 ((u1_11 : Nat) : Int)), (10, .int .i64 ((l0.length : Nat) : Int)), (9, .slice qp0 l0.length qc1), (0, .slice qp0 l0.length qc1), (1, .slice qp0 l0.length qc1)]) (fun (nu1, u1_11) => [.sli 1 R_i64 qp0 qc1 l0]) (fun (nu1, u1_11) => []) (N, 0) hm [11,10,9,0,1] rfl (asK [0] rfl) rfl (fun s_ hm => ?_)))))))))
  obtain ⟨nu1, u1_11⟩ := s_
  try dsimp only at hm ⊢
  obtain ⟨mu1, bu1, hnu1, hq, hLu1⟩ := iter_some hm
  clear hm
  subst hnu1
  replace hm := hq
  clear hq
  unfold m_slices_Compare_int_v2_L1 at hm
  try dsimp only at hm
  refine wc_seq (wc_region (wP rfl (wl_as (d := 12) (v' := .bool (decide (u1_11 < l0.length))) (S' := [_,_,_,_,_]) rfl rfl (natlt (a := u1_11) (b := l0.length)) (wl_nil (we_then (wc_seq ?_))))))
  refine wc_cond rfl (fun hb12 => ?_) (fun hb12 => ?_)
  ·
   replace hm := iteT hm hb12
   refine wc_keep [11,10,9,0,1] (S' := [_,_,_,_,_]) rfl (wc_skip (we_then (wc_seq (wc_block (wc_seq (wc_region (wP rfl ?_)))))))
   obtain ⟨x14, hx14, hm⟩ := bindO_some hm
   refine wl_indexA 0 u1_11 rfl rfl rfl (freshS_eq rfl) rfl rfl rfl rfl rfl hx14 tE_22 tS_3 (fun b14 q14 cs14 hlx14 => (wl_open R_i64_opens 1 rfl (fun r14 er14 _ => ?_)))
   subst er14
   refine wl_load 0 0 rfl rfl rfl (freshS_eq rfl) rfl rfl rfl (cs := [_]) rfl tS_3 tA_3 rfl rfl (wP rfl (wP rfl (wl_nil (we_then (wc_keep [6,5,11,10,9,0,1] (S' := [_,_,_,_,_,_,_]) rfl (wc_seq (wc_seq (wc_region (wP rfl (wP rfl (wN rfl tE_22 (wP rfl (wl_as (d := 19) (v' := .bool (decide (l0.length ≤ u1_11))) (S' := [_,_,_,_,_,_,_,_,_,_]) rfl rfl (natge (a := u1_11) (b := l0.length)) ?_)))))))))))))
   refine wl_nil (we_then (wc_keep [19,6,5,11,10,9,0,1] (S' := [_,_,_,_,_,_,_,_]) rfl ?_))
   refine wc_cond rfl (fun hb19 => ?_) (fun hb19 => ?_)
   ·
    replace hm := iteT hm hb19
    refine wc_keep [] (S' := []) rfl (wc_seq (wc_region (wP rfl (wl_nil (we_then (wc_ret (we_then_ret (we_block_ret (we_then_ret (we_then_ret (we_block_ret (we_then_ret ?_))))))))))))
    have hE := (Option.some.inj hm).symm
    replace hE := link_inr hLu1 hE
    replace hE := link_inr hLj_1 hE
    replace hE := hE.symm
    subst hE
    refine ret_one (Hr := []) [] Tryd.results39 (res_tmp rfl) ⟨rfl, rfl, rfl⟩ (asK [] rfl) rfl rfl (.inl rfl)
   ·
    replace hm := iteF hm hb19
    refine wc_keep [6,5,11,10,9,0,1] (S' := [_,_,_,_,_,_,_]) rfl (wc_skip (we_then (wc_seq (wc_region (wP rfl (wP rfl ?_))))))
    obtain ⟨x22, hx22, hm⟩ := bindO_some hm
    refine wl_indexA 2 u1_11 rfl rfl rfl (freshS_eq rfl) rfl rfl rfl rfl rfl hx22 tE_22 tS_3 (fun b22 q22 cs22 hlx22 => (wl_open R_i64_opens 1 rfl (fun r22 er22 _ => ?_)))
    subst er22
    refine wl_load 0 0 rfl rfl rfl (freshS_eq rfl) rfl rfl rfl (cs := [_]) rfl tS_3 tA_3 rfl rfl (wP rfl (wl_nil (we_then (wc_keep [7,6,11,10,9,0,1] (S' := [_,_,_,_,_,_,_]) rfl (wc_seq (wc_region (wP rfl (wP rfl ?_))))))))
    obtain ⟨v26, hc26, hm⟩ := bindO_some hm
    refine wC [] [] rfl fn_37 rfl (w_cmp_Compare_int_s N x14 x22 _ hc26) (asK [] rfl) rfl (H' := []) rfl ?_
    rintro _ _ _ ⟨rfl, rfl, rfl⟩
    refine wP rfl (wl_nil (we_then (wc_keep [8,11,10,9,0,1] (S' := [_,_,_,_,_,_]) rfl (wc_seq (wc_region (wP rfl (wP rfl (wl_nil (we_then (wc_keep [28,8,11,10,9,0,1] (S' := [_,_,_,_,_,_,_]) rfl ?_))))))))))
    refine wc_cond rfl (fun hb28 => ?_) (fun hb28 => ?_)
    ·
     replace hm := iteT hm hb28
     refine wc_keep [8] (S' := [_]) rfl (wc_seq (wc_region (wP rfl (wP rfl (wl_nil (we_then (wc_keep [4] (S' := [_]) rfl (wc_ret (we_block_ret (we_then_ret (we_then_ret (we_block_ret (we_then_ret ?_)))))))))))))
     have hE := (Option.some.inj hm).symm
     replace hE := link_inr hLu1 hE
     replace hE := link_inr hLj_1 hE
     replace hE := hE.symm
     subst hE
     refine ret_one (Hr := []) [] Tryd.results39 (res_tmp rfl) ⟨rfl, rfl, rfl⟩ (asK [] rfl) rfl rfl (.inl rfl)
    ·
     replace hm := iteF hm hb28
     refine wc_keep [11,10,9,0,1] (S' := [_,_,_,_,_]) rfl (wc_skip (we_block_normal (we_then (wc_region (wP rfl ?_)))))
     obtain ⟨hg30, hm⟩ := gd_some hm
     refine wl_as (d := 30) (v' := .int .i64 ((u1_11 + 1 : Nat) : Int)) (S' := [_,_,_,_,_]) rfl rfl (nat_add (a := u1_11) (b := 1) hg30) (wl_pure (S' := [_,_,_,_,_]) rfl rfl rfl rfl rfl (wl_nil ?_))
     have hE := (Option.some.inj hm).symm
     replace hE := link_inl hLu1 hE
     refine we_roundK (_, u1_11 + 1) (Nat.lt_succ_self _) hE [11,10,9,0,1] rfl (asK [4] rfl) rfl
  ·
   replace hm := iteF hm hb12
   refine wc_keep [0,1] (S' := [_,_]) rfl (wc_exit (we_then_exit (we_then_exit (we_block_hit ?_))))
   have hE := (Option.some.inj hm).symm
   replace hE := link_inr hLu1 hE
   refine we_join () hE [0,1] rfl (asK [0] rfl) rfl
 ·
  rintro _ hE
  try dsimp only
  have hm := link_inl hLj_1 hE
  try dsimp only at hm
  refine wc_seq (wc_seq (wc_region (wP rfl (wN rfl tE_22 (wP rfl (wN rfl tE_22 (wP rfl (wl_as (d := 35) (v' := .bool (decide (l0.length < l0.length))) (S' := [_,_,_,_,_,_]) rfl rfl (natlt (a := l0.length) (b := l0.length)) (wl_nil (we_then (wc_keep [35] (S' := [_]) rfl ?_)))))))))))
  refine wc_cond rfl (fun hb35 => ?_) (fun hb35 => ?_)
  ·
   replace hm := iteT hm hb35
   refine wc_keep [] (S' := []) rfl (wc_seq (wc_region (wP rfl (wl_nil (we_then (wc_ret (we_then_ret ?_)))))))
   have hE := (Option.some.inj hm).symm
   replace hE := hE.symm
   subst hE
   refine ret_one (Hr := []) [] Tryd.results39 (res_tmp rfl) ⟨rfl, rfl, rfl⟩ (asK [] rfl) rfl rfl (.inl rfl)
  ·
   replace hm := iteF hm hb35
   refine wc_keep [] (S' := []) rfl (wc_skip (we_then (wc_seq (wc_region (wP rfl (wl_nil (we_then (wc_ret ?_))))))))
   have hE := (Option.some.inj hm).symm
   replace hE := hE.symm
   subst hE
   refine ret_one (Hr := []) [] Tryd.results39 (res_tmp rfl) ⟨rfl, rfl, rfl⟩ (asK [] rfl) rfl rfl (.inl rfl)
theorem w_agenda_order_compare_v2_s (N : Nat) (qp0 : Option Addr) (qc1 : Nat) (l0 : List Int) (a1 : Int) (qp2 : Option Addr) (qc3 : Nat) (l2 : List Int) (a3 : Int) (o0 : Int) (hm : m_agenda_order_compare_v2 N l0 a1 l2 a3 = some o0) : Spec Tryd.prog 20 [.slice qp0 l0.length qc1, .agg #[.int .i64 a1, .slice qp2 l2.length qc3], .agg #[.int .i64 a3, .slice qp2 l2.length qc3]] [.sli 1 R_i64 qp0 qc1 l0, .sli 1 R_i64 qp2 qc3 l2] [] (fun v Φr Hr => v = .int .i64 o0 ∧ Φr = [] ∧ Hr = []) := by
 unfold m_agenda_order_compare_v2 at hm
 refine spec_of Tryd.func20 rfl Tryd.ntmps20 rfl (S := [_,_,_]) rfl (fun C => (wc_seq (wc_region (wB rfl (fun g4 => (wB rfl (fun g5 => (wP rfl (wl_nil (we_then (wc_keep [5,4,0] (S' := [_,_,_]) rfl (wc_seq ?_))))))))))))
 obtain ⟨v9, hc9, hm⟩ := bindO_some hm
 obtain ⟨v12, hc12, hm⟩ := bindO_some hm
 obtain ⟨v13, hc13, hm⟩ := bindO_some hm
 obtain ⟨v16, hc16, hm⟩ := bindO_some hm
 obtain ⟨v19, hc19, hm⟩ := bindO_some hm
 obtain ⟨v20, hc20, hm⟩ := bindO_some hm
 obtain ⟨v25, hc25, hm⟩ := bindO_some hm
 obtain ⟨v30, hc30, hm⟩ := bindO_some hm
 obtain ⟨v32, hc32, hm⟩ := bindO_some hm
 refine wc_draw [0,1,3,4,7,8,10,11,14,15,16,17,19,20,21,22] rfl rfl (fun hok => (xP hok 0 rfl (wx_loadH hok 1 0 0 rfl rfl rfl (freshS_eq rfl) rfl rfl rfl rfl (cs := [_,_]) rfl tS_24 tA_24 rfl rfl (xP hok 3 rfl (wx_loadH hok 4 1 0 rfl rfl rfl (freshS_eq rfl) rfl rfl rfl rfl (cs := [_,_]) rfl tS_24 tA_24 rfl rfl (wx_fieldAddr hok 7 rfl rfl rfl (freshS_eq rfl) rfl rfl rfl tF_24_1 (wx_loadH hok 8 0 1 rfl rfl rfl (freshS_eq rfl) rfl rfl rfl rfl (cs := [_]) rfl tS_22 tA_22 rfl rfl (wx_fieldAddr hok 10 rfl rfl rfl (freshS_eq rfl) rfl rfl rfl tF_24_1 (wx_loadH hok 11 1 1 rfl rfl rfl (freshS_eq rfl) rfl rfl rfl rfl (cs := [_]) rfl tS_22 tA_22 rfl rfl (wx_fieldAddr hok 14 rfl rfl rfl (freshS_eq rfl) rfl rfl rfl tF_24_0 (wx_loadH hok 15 1 0 rfl rfl rfl (freshS_eq rfl) rfl rfl rfl rfl (cs := [_]) rfl tS_3 tA_3 rfl rfl (wx_fieldAddr hok 16 rfl rfl rfl (freshS_eq rfl) rfl rfl rfl tF_24_0 (wx_loadH hok 17 0 0 rfl rfl rfl (freshS_eq rfl) rfl rfl rfl rfl (cs := [_]) rfl tS_3 tA_3 rfl rfl (wx_fieldAddr hok 19 rfl rfl rfl (freshS_eq rfl) rfl rfl rfl tF_24_1 ?_))))))))))))))
 refine wx_loadH hok 20 1 1 rfl rfl rfl (freshS_eq rfl) rfl rfl rfl rfl (cs := [_]) rfl tS_22 tA_22 rfl rfl (wx_fieldAddr hok 21 rfl rfl rfl (freshS_eq rfl) rfl rfl rfl tF_24_1 (wx_loadH hok 22 0 1 rfl rfl rfl (freshS_eq rfl) rfl rfl rfl rfl (cs := [_]) rfl tS_22 tA_22 rfl rfl (xS hok 2 rfl (wC [] [0,1] rfl fn_38 rfl (w_agenda_order_of_s N qp0 qc1 l0 a3 qp2 qc3 l2 _ hc9) (asK [0,1] rfl) rfl (H' := [_,_]) rfl ?_))))
 rintro _ _ _ ⟨rfl, rfl, rfl⟩
 refine wl_nil (we_x [0,1] [0,1,0,1,1,0,1] rfl rfl (xS hok 5 rfl (wC [] [0,1] rfl fn_38 rfl (w_agenda_order_of_s N qp0 qc1 l0 a1 qp2 qc3 l2 _ hc12) (asK [0,1] rfl) rfl (H' := [_,_]) rfl ?_)))
 rintro _ _ _ ⟨rfl, rfl, rfl⟩
 refine wl_nil (we_x [0,1] [0,1,0,1,1,0,0] rfl rfl (xS hok 6 rfl (wC [] [0,1] rfl fn_37 rfl (w_cmp_Compare_int_s N v9 v12 _ hc13) (asK [] rfl) rfl (H' := [_,_]) rfl ?_)))
 rintro _ _ _ ⟨rfl, rfl, rfl⟩
 refine wl_nil (we_x [0,1] [0,1,0,1,1,0,1,0] rfl rfl (xS hok 9 rfl (wC [] [0,1] rfl fn_40 rfl (w_agenda_falling_s N qp2 qc3 l2 _ hc16) (asK [1] rfl) rfl (H' := [_,_]) rfl ?_)))
 rintro _ _ _ ⟨p16_0, c16_1, rfl, rfl, rfl⟩
 refine wl_nil (we_x [0,1] [1,2,1,2,2,2,1] rfl rfl (xS hok 12 rfl (wC [] [0,1,2] rfl fn_40 rfl (w_agenda_falling_s N qp2 qc3 l2 _ hc19) (asK [1] rfl) rfl (H' := [_,_,_]) rfl ?_)))
 rintro _ _ _ ⟨p19_0, c19_1, rfl, rfl, rfl⟩
 refine wl_nil (we_x [0,1] [2,3,2,3,2,3,2] rfl rfl (xS hok 13 rfl (wl_ownLen 1 rfl (fun hz7 _ => (wl_at 1 (v' := .slice p16_0 v16.length c16_1) rfl (by first | rfl | rw [hz7]) (wl_hAs 1 (φ' := .own 3 1 R_i64 (.slice p16_0 v16.length c16_1) v16) rfl (by first | rfl | rw [hz7]) (H' := [_,_,_,_]) rfl (wl_ownLen 0 rfl (fun hz8 _ => (wl_at 0 (v' := .slice p19_0 v19.length c19_1) rfl (by first | rfl | rw [hz8]) (wl_hAs 0 (φ' := .own 3 1 R_i64 (.slice p19_0 v19.length c19_1) v19) rfl (by first | rfl | rw [hz8]) (H' := [_,_,_,_]) rfl (wl_lend [] [0,1,2,3] [1,0] rfl rfl rfl (freshS_eq rfl) rfl rfl fn_39 rfl (w_slices_Compare_int_s N p16_0 c16_1 v16 p19_0 c19_1 v19 _ hc20) (fun F w hφ hh => (ask_cons (own_sli (hh _ (mem_at (k := 0) rfl))) (ask_cons (own_sli (hh _ (mem_at (k := 1) rfl))) ask_nil))) (fun _ _ _ hR => by obtain ⟨rfl, rfl, rfl⟩ := hR; exact ⟨rfl, (fun _ h => free_nil h)⟩) rfl rfl (H' := [_,_,_,_]) rfl ?_)))))))))))
 rintro _ _ _ ⟨rfl, rfl, rfl⟩
 refine wl_nil (we_x [0,1] [2,3,2,3,3,2,3,2] rfl rfl (xS hok 18 rfl (wC [] [0,1,2,3] rfl fn_37 rfl (w_cmp_Compare_int_s N a1 a3 _ hc25) (asK [] rfl) rfl (H' := [_,_,_,_]) rfl ?_)))
 rintro _ _ _ ⟨rfl, rfl, rfl⟩
 refine wl_nil (we_x [0,1] [2,3,3,2,3,2] rfl rfl (xS hok 23 rfl (wC [] [0,1,2,3] rfl fn_39 rfl (w_slices_Compare_int_v2_s N qp2 qc3 l2 _ hc30) (asK [1] rfl) rfl (H' := [_,_,_,_]) rfl ?_)))
 rintro _ _ _ ⟨rfl, rfl, rfl⟩
 refine wl_nil (we_x [0,1] [2,3,3,2,3,2] rfl rfl (xS hok 24 rfl (wl_buildSlice rfl rfl rfl (freshS_eq rfl) rfl tE_22 tS_3 tZ_3 rfl (zs := [.int .i64 0, .int .i64 0, .int .i64 0, .int .i64 0]) (by kernel_rfl) rfl (out := [_,_,_,_]) rfl (fun g31 => (wl_nil (we_x [0,1] [3,4,3,4,4,3,4,3] rfl rfl (xS hok 25 rfl (wl_row (sz := 1) (m := 4) R_i64 ([v13, v20, v25, v30]) 0 rfl (fun F w hφ => ⟨[.int .i64 v13],[.int .i64 v20, .int .i64 v25, .int .i64 v30], rfl, rfl, ⟨(), rfl, ask_nil⟩, ⟨[.int .i64 v20],[.int .i64 v25, .int .i64 v30], rfl, rfl, ⟨(), rfl, ask_nil⟩, ⟨[.int .i64 v25],[.int .i64 v30], rfl, rfl, ⟨(), rfl, ask_nil⟩, ⟨[.int .i64 v30],[], rfl, rfl, ⟨(), rfl, ask_nil⟩, rfl⟩⟩⟩⟩) rfl (by decide) (H' := [_,_,_,_,_]) rfl (wl_lend [] [0,1,2,3,4] [0] rfl rfl rfl (freshS_eq rfl) rfl rfl fn_36 rfl (w_cmp_Or_int_s N (some ⟨g31,0, none⟩) 4 [v13, v20, v25, v30] _ hc32) (fun F w hφ hh => (ask_cons (own_sli (hh _ (mem_at (k := 0) rfl))) ask_nil)) (fun _ _ _ hR => by obtain ⟨rfl, rfl, rfl⟩ := hR; exact ⟨rfl, (fun _ h => free_nil h)⟩) rfl rfl (H' := [_,_,_,_,_]) rfl ?_)))))))))
 rintro _ _ _ ⟨rfl, rfl, rfl⟩
 refine wl_nil (we_x [0,1] [3,4,3,4,4,3,4,3] rfl rfl (xS hok 26 rfl (wP rfl (wl_nil (we_x [0,1] [] rfl rfl (wx_done hok rfl (we_then (wc_keep [6] (S' := [_]) rfl (wc_ret ?_)))))))))
 have hE := (Option.some.inj hm).symm
 replace hE := hE.symm
 subst hE
 refine ret_one (Hr := []) [] Tryd.results20 (res_tmp rfl) ⟨rfl, rfl, rfl⟩ (asK [] rfl) rfl rfl (.inl rfl)
theorem w_agenda_Better_v2_s (N : Nat) (qp0 : Option Addr) (qc1 : Nat) (l0 : List Api_TypeD) (qp2 : Option Addr) (qc3 : Nat) (l1 : List Api_RuleD) (a2 : Int) (qp4 : Option Addr) (qc5 : Nat) (l3 : List Int) (a4 : Int) (o0 : Bool) (hm : m_agenda_Better_v2 N l0 l1 a2 l3 a4 = some o0) : Spec Tryd.prog 8 [.agg #[.slice qp0 l0.length qc1, .slice qp2 l1.length qc3], .agg #[.int .i64 a2, .slice qp4 l3.length qc5], .agg #[.int .i64 a4, .slice qp4 l3.length qc5]] [.sli 2 R_Api_TypeD qp0 qc1 l0, .sli 5 R_Api_RuleD qp2 qc3 l1, .sli 1 R_i64 qp4 qc5 l3] [] (fun v Φr Hr => v = .bool o0 ∧ Φr = [] ∧ Hr = []) := by
 unfold m_agenda_Better_v2 at hm
 refine spec_of Tryd.func8 rfl Tryd.ntmps8 rfl (S := [_,_,_]) rfl (fun C => (wc_seq (wc_region (wB rfl (fun g3 => (wB rfl (fun g4 => (wB rfl (fun g5 => (wP rfl (wl_nil (we_then (wc_keep [5,4,3] (S' := [_,_,_]) rfl (wc_seq ?_))))))))))))))
 obtain ⟨v8, hc8, hm⟩ := bindO_some hm
 obtain ⟨v11, hc11, hm⟩ := bindO_some hm
 refine wc_draw [0,2,3,5] rfl rfl (fun hok => (wx_loadH hok 0 2 0 rfl rfl rfl (freshS_eq rfl) rfl rfl rfl rfl (cs := [_,_]) rfl tS_31 tA_31 rfl rfl (wx_loadH hok 2 1 0 rfl rfl rfl (freshS_eq rfl) rfl rfl rfl rfl (cs := [_,_]) rfl tS_24 tA_24 rfl rfl (wx_loadH hok 3 0 0 rfl rfl rfl (freshS_eq rfl) rfl rfl rfl rfl (cs := [_,_]) rfl tS_24 tA_24 rfl rfl (xS hok 1 rfl (wC [] [0,1,2] rfl fn_19 rfl (w_agenda_by_s N qp0 qc1 l0 qp2 qc3 l1 _ hc8) (asK [0,1] rfl) rfl (H' := [_,_,_]) rfl ?_))))))
 rintro _ _ _ ⟨p8_0, c8_1, c8_2, rfl, rfl, rfl⟩
 refine wl_nil (we_x [0,1,2] [1,2] rfl rfl (xS hok 4 rfl (wl_ownLen 0 rfl (fun hzc8_2 _ => ?_))))
 subst hzc8_2
 refine wl_lend [] [0,1,2,3] [0] rfl rfl rfl (freshS_eq rfl) rfl rfl fn_20 rfl (w_agenda_order_compare_v2_s N p8_0 c8_1 v8 a2 qp4 qc5 l3 a4 _ hc11) (fun F w hφ hh => (ask_cons (own_sli (hh _ (mem_at (k := 0) rfl))) (ask_cons (hφ _ (mem_at (k := 2) rfl)) ask_nil))) (fun _ _ _ hR => by obtain ⟨rfl, rfl, rfl⟩ := hR; exact ⟨rfl, (fun _ h => free_nil h)⟩) rfl rfl (H' := [_,_,_,_]) rfl ?_
 rintro _ _ _ ⟨rfl, rfl, rfl⟩
 refine wl_nil (we_x [0,1,2] [3] rfl rfl (xP hok 5 rfl (xS hok 6 rfl (wP rfl (wl_nil (we_x [0,1,2] [] rfl rfl (wx_done hok rfl (we_then (wc_keep [6] (S' := [_]) rfl (wc_ret ?_))))))))))
 have hE := (Option.some.inj hm).symm
 replace hE := hE.symm
 subst hE
 refine ret_one (Hr := []) [] Tryd.results8 (res_tmp rfl) ⟨rfl, rfl, rfl⟩ (asK [] rfl) rfl rfl (.inl rfl)
theorem w_ropewalklaw14_AgendaBetter_s (N : Nat) (qp0 : Option Addr) (qc1 : Nat) (l0 : List Int) (a1 : Int) (qp2 : Option Addr) (qc3 : Nat) (l2 : List Int) (a3 : Int) (qp4 : Option Addr) (qc5 : Nat) (l4 : List Int) (o0 : Bool) (hm : m_ropewalklaw14_AgendaBetter N l0 a1 l2 a3 l4 = some o0) : Spec Tryd.prog 3 [.slice qp0 l0.length qc1, .agg #[.int .i64 a1, .slice qp2 l2.length qc3], .agg #[.int .i64 a3, .slice qp4 l4.length qc5]] [.sli 1 R_i64 qp0 qc1 l0, .sli 1 R_i64 qp2 qc3 l2, .sli 1 R_i64 qp4 qc5 l4] [] (fun v Φr Hr => v = .bool o0 ∧ Φr = [] ∧ Hr = []) := by
 unfold m_ropewalklaw14_AgendaBetter at hm
 refine spec_of Tryd.func3 rfl Tryd.ntmps3 rfl (S := [_,_,_]) rfl (fun C => (wc_seq (wc_region (wB rfl (fun g4 => (wB rfl (fun g5 => (wP rfl (wl_nil (we_then (wc_keep [5,4,0] (S' := [_,_,_]) rfl (wc_seq (wc_seq ?_)))))))))))))
 obtain ⟨bj_1, hm, hLj_1⟩ := bindO_some hm
 refine wc_cut (σ := Bool) (fun j_1_19 => bj_1 = j_1_19) (fun j_1_19 => [(5, .pointer (some ⟨g5,0, none⟩)), (4, .pointer (some ⟨g4,0, none⟩)), (0, .slice qp0 l0.length qc1), (19, .bool j_1_19)]) (fun j_1_19 => [.sli 1 R_i64 qp4 qc5 l4, .sli 1 R_i64 qp2 qc3 l2, .sli 1 R_i64 qp0 qc1 l0]) (fun j_1_19 => [.blk g5 [.int .i64 a3, .slice qp4 l4.length qc5] 24, .blk g4 [.int .i64 a1, .slice qp2 l2.length qc3] 24]) ?_ ?_
 ·
  refine wc_region (wP rfl (wN rfl tE_22 (wP rfl (wl_as (d := 13) (v' := .bool (decide (400 < l0.length))) (S' := [_,_,_,_,_]) rfl rfl (natgt (a := l0.length) (b := 400)) (wP rfl ?_)))))
  refine wl_split (d := 14) (S' := [_,_,_,_,_,_]) rfl rfl (fun hs14 => ?_) (fun hs14 => ?_)
  ·
   replace hm := iteT hm hs14
   refine wO rfl (wO rfl (wO rfl (wO rfl (wP rfl (wl_nil ?_)))))
   have hE := (Option.some.inj hm).symm
   refine we_join true hE [5,4,0,19] rfl (asK [2,1,0] rfl) rfl
  ·
   replace hm := iteF hm hs14
   refine wl_loadH 1 0 rfl rfl rfl (freshS_eq rfl) rfl rfl rfl (cs := [_,_]) rfl tS_24 tA_24 rfl rfl (wl_loadH 0 0 rfl rfl rfl (freshS_eq rfl) rfl rfl rfl (cs := [_,_]) rfl tS_24 tA_24 rfl rfl (wl_buildSlice rfl rfl rfl (freshS_eq rfl) rfl tE_26 tS_24 tZ_24 rfl (zs := [.int .i64 0, .slice none 0 0, .int .i64 0, .slice none 0 0]) (by kernel_rfl) rfl (out := [_,_,_,_]) rfl (fun g17 => (wl_row (sz := 2) (m := 2) R_Api_TokenD ([(⟨a1, l2⟩ : Api_TokenD), (⟨a3, l4⟩ : Api_TokenD)]) 0 rfl (fun F w hφ => ⟨[.int .i64 a1, .slice qp2 l2.length qc3],[.int .i64 a3, .slice qp4 l4.length qc5], rfl, rfl, ⟨(qp2, qc3), rfl, (ask_cons (hφ _ (mem_at (k := 1) rfl)) ask_nil)⟩, ⟨[.int .i64 a3, .slice qp4 l4.length qc5],[], rfl, rfl, ⟨(qp4, qc5), rfl, (ask_cons (hφ _ (mem_at (k := 2) rfl)) ask_nil)⟩, rfl⟩⟩) rfl (by decide) (H' := [_,_,_]) rfl ?_))))
   obtain ⟨v18, hc18, hm⟩ := bindO_some hm
   refine wl_lend [] [0,1,2] [0] rfl rfl rfl (freshS_eq rfl) rfl rfl fn_4 rfl (w_ropewalklaw14_great_s N (some ⟨g17,0, none⟩) 2 [(⟨a1, l2⟩ : Api_TokenD), (⟨a3, l4⟩ : Api_TokenD)] _ hc18) (fun F w hφ hh => (ask_cons (own_sli (hh _ (mem_at (k := 0) rfl))) ask_nil)) (fun _ _ _ hR => by obtain ⟨rfl, rfl, rfl⟩ := hR; exact ⟨rfl, (fun _ h => free_nil h)⟩) rfl rfl (H' := [_,_,_]) rfl ?_
   rintro _ _ _ ⟨rfl, rfl, rfl⟩
   refine wP rfl (wl_nil ?_)
   have hE := (Option.some.inj hm).symm
   refine we_pick [1,2] rfl (H' := [_,_]) rfl ?_
   refine we_join v18 hE [5,4,0,19] rfl (asK [2,1,0] rfl) rfl
 ·
  rintro j_1_19 hE
  try dsimp only
  have hm := hLj_1
  rw [hE] at hm
  refine wc_cond rfl (fun hb19 => ?_) (fun hb19 => ?_)
  ·
   replace hm := iteT hm hb19
   refine wc_keep [] (S' := []) rfl (wc_seq (wc_region (wC [] [0,1] rfl fn_5 rfl aw_5 (asK [] rfl) rfl (H' := [_,_]) rfl ?_)))
   rintro _ _ _ ⟨rfl, rfl, rfl⟩
   refine wP rfl (wl_nil (we_then (wc_keep [6] (S' := [_]) rfl (wc_ret (we_then_ret ?_)))))
   have hE := (Option.some.inj hm).symm
   replace hE := hE.symm
   subst hE
   refine ret_one (Hr := []) [] Tryd.results3 (res_tmp rfl) ⟨rfl, rfl, rfl⟩ (asK [] rfl) rfl rfl (.inl rfl)
  ·
   replace hm := iteF hm hb19
   refine wc_keep [5,4,0] (S' := [_,_,_]) rfl (wc_skip (we_then (wc_seq (wc_region (wP rfl ?_)))))
   obtain ⟨v22, hc22, hm⟩ := bindO_some hm
   refine wC [] [0,1] rfl fn_6 rfl (w_ropewalklaw14_of_s N qp0 qc1 l0 _ hc22) (asK [2] rfl) rfl (H' := [_,_]) rfl ?_
   rintro _ _ _ ⟨p22_0, c22_1, c22_2, rfl, rfl, rfl⟩
   refine wl_alloc rfl rfl rfl (freshS_eq rfl) rfl tZ_31 rfl (fun g7 => (wS 0 0 rfl tS_31 (all' := [_,_]) rfl (H' := [_,_,_,_]) rfl (wl_nil (we_then (wc_keep [7,5,4,0] (S' := [_,_,_,_]) rfl (wc_seq ?_))))))
   obtain ⟨v24, hc24, hm⟩ := bindO_some hm
   obtain ⟨v26, hc26, hm⟩ := bindO_some hm
   refine wc_cut (σ := Nat × (Option Addr) × Nat × Nat × Nat × (Option Addr) × Nat × Nat) (fun _ => True) (fun (w_2_9_g, w_2_9_f1_p, w_2_9_f1_c, w_2_9_f1_n, w_2_8_g, w_2_8_f1_p, w_2_8_f1_c, w_2_8_f1_n) => [(9, .pointer (some ⟨w_2_9_g, 0, none⟩)), (8, .pointer (some ⟨w_2_8_g, 0, none⟩)), (7, .pointer (some ⟨g7,0, none⟩)), (5, .pointer (some ⟨g5,0, none⟩)), (4, .pointer (some ⟨g4,0, none⟩)), (0, .slice qp0 l0.length qc1)]) (fun (w_2_9_g, w_2_9_f1_p, w_2_9_f1_c, w_2_9_f1_n, w_2_8_g, w_2_8_f1_p, w_2_8_f1_c, w_2_8_f1_n) => [.sli 1 R_i64 qp4 qc5 l4, .sli 1 R_i64 qp2 qc3 l2, .sli 1 R_i64 qp0 qc1 l0]) (fun (w_2_9_g, w_2_9_f1_p, w_2_9_f1_c, w_2_9_f1_n, w_2_8_g, w_2_8_f1_p, w_2_8_f1_c, w_2_8_f1_n) => [.blk w_2_9_g [.int .i64 a3, .slice w_2_9_f1_p l4.length w_2_9_f1_c] 24, .own 3 1 R_i64 (.slice w_2_9_f1_p w_2_9_f1_n w_2_9_f1_c) v26, .blk w_2_8_g [.int .i64 a1, .slice w_2_8_f1_p l2.length w_2_8_f1_c] 24, .own 3 1 R_i64 (.slice w_2_8_f1_p w_2_8_f1_n w_2_8_f1_c) v24, .blk g7 [.slice none 0 0, .slice p22_0 c22_2 c22_1] 31, .own 49 5 R_Api_RuleD (.slice p22_0 c22_2 c22_1) v22, .blk g5 [.int .i64 a3, .slice qp4 l4.length qc5] 24, .blk g4 [.int .i64 a1, .slice qp2 l2.length qc3] 24]) ?_ ?_
   ·
    refine wc_draw [0,2] rfl rfl (fun hok => (wx_loadH hok 0 3 0 rfl rfl rfl (freshS_eq rfl) rfl rfl rfl rfl (cs := [_,_]) rfl tS_24 tA_24 rfl rfl (wx_loadH hok 2 2 0 rfl rfl rfl (freshS_eq rfl) rfl rfl rfl rfl (cs := [_,_]) rfl tS_24 tA_24 rfl rfl ?_)))
    refine wx_step3 hok 1 4 5 rfl rfl rfl rfl rfl rfl rfl rfl ?_ ?_ ?_
    ·
     refine wC [] [0,1,2,3] rfl fn_7 rfl (w_ropewalkkit_LentToken_s N a1 qp2 qc3 l2 _ hc24) (asK [1] rfl) rfl (H' := [_,_,_,_]) rfl ?_
     rintro _ _ _ ⟨p24_0, c24_1, c24_2, rfl, rfl, rfl⟩
     refine wl_nil (we_x [0,1,2] [3] rfl rfl ?_)
     refine wx_step3 hok 3 4 5 rfl rfl rfl rfl rfl rfl rfl rfl ?_ ?_ ?_
     ·
      refine wC [] [0,1,2,3,4] rfl fn_7 rfl (w_ropewalkkit_LentToken_s N a3 qp4 qc5 l4 _ hc26) (asK [0] rfl) rfl (H' := [_,_,_,_,_]) rfl ?_
      rintro _ _ _ ⟨p26_0, c26_1, c26_2, rfl, rfl, rfl⟩
      refine wl_nil (we_x [0,1,2] [5] rfl rfl ?_)
      refine wx_step2 hok 4 5 rfl rfl rfl rfl rfl rfl ?_ ?_
      ·
       refine wl_alloc rfl rfl rfl (freshS_eq rfl) rfl tZ_24 rfl (fun g8 => (wl_nil (we_x [0,1,2] [5,6] rfl rfl (xS hok 5 rfl (wl_alloc rfl rfl rfl (freshS_eq rfl) rfl tZ_24 rfl (fun g9 => (wl_nil (we_x [0,1,2] [6,7] rfl rfl (xS hok 6 rfl (wS 1 0 rfl tS_24 (all' := [_,_]) rfl (H' := [_,_,_,_,_,_,_,_]) rfl (wl_nil (we_x [0,1,2] [6] rfl rfl (xS hok 7 rfl (wS 0 0 rfl tS_24 (all' := [_,_]) rfl (H' := [_,_,_,_,_,_,_,_]) rfl (wl_nil ?_)))))))))))))))
       refine we_x [0,1,2] [] rfl rfl (wx_done hok rfl (we_pick [0,2,1,3,4,5,6,7] rfl (H' := [_,_,_,_,_,_,_,_]) rfl ?_))
       refine we_join (g9, p26_0, c26_1, c26_2, g8, p24_0, c24_1, c24_2) trivial [9,8,7,5,4,0] rfl (asK [0,1,2] rfl) rfl
      ·
       refine wl_alloc rfl rfl rfl (freshS_eq rfl) rfl tZ_24 rfl (fun g9 => (wl_nil (we_x [0,1,2] [5,6] rfl rfl (xS hok 4 rfl (wl_alloc rfl rfl rfl (freshS_eq rfl) rfl tZ_24 rfl (fun g8 => (wl_nil (we_x [0,1,2] [6,7] rfl rfl (xS hok 6 rfl (wS 0 0 rfl tS_24 (all' := [_,_]) rfl (H' := [_,_,_,_,_,_,_,_]) rfl (wl_nil (we_x [0,1,2] [6] rfl rfl (xS hok 7 rfl (wS 1 0 rfl tS_24 (all' := [_,_]) rfl (H' := [_,_,_,_,_,_,_,_]) rfl (wl_nil ?_)))))))))))))))
       refine we_x [0,1,2] [] rfl rfl (wx_done hok rfl (we_pick [1,2,0,3,4,5,6,7] rfl (H' := [_,_,_,_,_,_,_,_]) rfl ?_))
       refine we_join (g9, p26_0, c26_1, c26_2, g8, p24_0, c24_1, c24_2) trivial [9,8,7,5,4,0] rfl (asK [0,1,2] rfl) rfl
     ·
      refine wl_alloc rfl rfl rfl (freshS_eq rfl) rfl tZ_24 rfl (fun g8 => (wl_nil (we_x [0,1,2] [4,5] rfl rfl ?_)))
      refine wx_step2 hok 3 5 rfl rfl rfl rfl rfl rfl ?_ ?_
      ·
       refine wC [] [0,1,2,3,4,5] rfl fn_7 rfl (w_ropewalkkit_LentToken_s N a3 qp4 qc5 l4 _ hc26) (asK [0] rfl) rfl (H' := [_,_,_,_,_,_]) rfl ?_
       rintro _ _ _ ⟨p26_0, c26_1, c26_2, rfl, rfl, rfl⟩
       refine wl_nil (we_x [0,1,2] [6] rfl rfl (xS hok 5 rfl (wl_alloc rfl rfl rfl (freshS_eq rfl) rfl tZ_24 rfl (fun g9 => (wl_nil (we_x [0,1,2] [6,7] rfl rfl (xS hok 6 rfl (wS 2 0 rfl tS_24 (all' := [_,_]) rfl (H' := [_,_,_,_,_,_,_,_]) rfl (wl_nil (we_x [0,1,2] [6] rfl rfl (xS hok 7 rfl (wS 0 0 rfl tS_24 (all' := [_,_]) rfl (H' := [_,_,_,_,_,_,_,_]) rfl (wl_nil (we_x [0,1,2] [] rfl rfl ?_))))))))))))))
       refine wx_done hok rfl ?_
       refine we_join (g9, p26_0, c26_1, c26_2, g8, p24_0, c24_1, c24_2) trivial [9,8,7,5,4,0] rfl (asK [0,1,2] rfl) rfl
      ·
       refine wl_alloc rfl rfl rfl (freshS_eq rfl) rfl tZ_24 rfl (fun g9 => (wl_nil (we_x [0,1,2] [5,6] rfl rfl (xS hok 3 rfl (wC [] [0,1,2,3,4,5,6] rfl fn_7 rfl (w_ropewalkkit_LentToken_s N a3 qp4 qc5 l4 _ hc26) (asK [0] rfl) rfl (H' := [_,_,_,_,_,_,_]) rfl ?_)))))
       rintro _ _ _ ⟨p26_0, c26_1, c26_2, rfl, rfl, rfl⟩
       refine wl_nil (we_x [0,1,2] [7] rfl rfl (xS hok 6 rfl (wS 2 0 rfl tS_24 (all' := [_,_]) rfl (H' := [_,_,_,_,_,_,_,_]) rfl (wl_nil (we_x [0,1,2] [6] rfl rfl (xS hok 7 rfl (wS 1 0 rfl tS_24 (all' := [_,_]) rfl (H' := [_,_,_,_,_,_,_,_]) rfl (wl_nil (we_x [0,1,2] [] rfl rfl (wx_done hok rfl (we_pick [1,0,2,3,4,5,6,7] rfl (H' := [_,_,_,_,_,_,_,_]) rfl ?_)))))))))))
       refine we_join (g9, p26_0, c26_1, c26_2, g8, p24_0, c24_1, c24_2) trivial [9,8,7,5,4,0] rfl (asK [0,1,2] rfl) rfl
     ·
      refine wl_alloc rfl rfl rfl (freshS_eq rfl) rfl tZ_24 rfl (fun g9 => (wl_nil (we_x [0,1,2] [4,5] rfl rfl ?_)))
      refine wx_step2 hok 3 4 rfl rfl rfl rfl rfl rfl ?_ ?_
      ·
       refine wC [] [0,1,2,3,4,5] rfl fn_7 rfl (w_ropewalkkit_LentToken_s N a3 qp4 qc5 l4 _ hc26) (asK [0] rfl) rfl (H' := [_,_,_,_,_,_]) rfl ?_
       rintro _ _ _ ⟨p26_0, c26_1, c26_2, rfl, rfl, rfl⟩
       refine wl_nil (we_x [0,1,2] [6] rfl rfl (xS hok 4 rfl (wl_alloc rfl rfl rfl (freshS_eq rfl) rfl tZ_24 rfl (fun g8 => (wl_nil (we_x [0,1,2] [6,7] rfl rfl (xS hok 6 rfl (wS 0 0 rfl tS_24 (all' := [_,_]) rfl (H' := [_,_,_,_,_,_,_,_]) rfl (wl_nil (we_x [0,1,2] [6] rfl rfl (xS hok 7 rfl (wS 2 0 rfl tS_24 (all' := [_,_]) rfl (H' := [_,_,_,_,_,_,_,_]) rfl (wl_nil (we_x [0,1,2] [] rfl rfl ?_))))))))))))))
       refine wx_done hok rfl (we_pick [2,1,0,3,4,5,6,7] rfl (H' := [_,_,_,_,_,_,_,_]) rfl ?_)
       refine we_join (g9, p26_0, c26_1, c26_2, g8, p24_0, c24_1, c24_2) trivial [9,8,7,5,4,0] rfl (asK [0,1,2] rfl) rfl
      ·
       refine wl_alloc rfl rfl rfl (freshS_eq rfl) rfl tZ_24 rfl (fun g8 => (wl_nil (we_x [0,1,2] [5,6] rfl rfl (xS hok 3 rfl (wC [] [0,1,2,3,4,5,6] rfl fn_7 rfl (w_ropewalkkit_LentToken_s N a3 qp4 qc5 l4 _ hc26) (asK [0] rfl) rfl (H' := [_,_,_,_,_,_,_]) rfl ?_)))))
       rintro _ _ _ ⟨p26_0, c26_1, c26_2, rfl, rfl, rfl⟩
       refine wl_nil (we_x [0,1,2] [7] rfl rfl (xS hok 6 rfl (wS 1 0 rfl tS_24 (all' := [_,_]) rfl (H' := [_,_,_,_,_,_,_,_]) rfl (wl_nil (we_x [0,1,2] [6] rfl rfl (xS hok 7 rfl (wS 2 0 rfl tS_24 (all' := [_,_]) rfl (H' := [_,_,_,_,_,_,_,_]) rfl (wl_nil (we_x [0,1,2] [] rfl rfl (wx_done hok rfl (we_pick [2,0,1,3,4,5,6,7] rfl (H' := [_,_,_,_,_,_,_,_]) rfl ?_)))))))))))
       refine we_join (g9, p26_0, c26_1, c26_2, g8, p24_0, c24_1, c24_2) trivial [9,8,7,5,4,0] rfl (asK [0,1,2] rfl) rfl
    ·
     refine wl_alloc rfl rfl rfl (freshS_eq rfl) rfl tZ_24 rfl (fun g8 => (wl_nil (we_x [0,1,2] [3,4] rfl rfl ?_)))
     refine wx_step2 hok 1 5 rfl rfl rfl rfl rfl rfl ?_ ?_
     ·
      refine wC [] [0,1,2,3,4] rfl fn_7 rfl (w_ropewalkkit_LentToken_s N a1 qp2 qc3 l2 _ hc24) (asK [1] rfl) rfl (H' := [_,_,_,_,_]) rfl ?_
      rintro _ _ _ ⟨p24_0, c24_1, c24_2, rfl, rfl, rfl⟩
      refine wl_nil (we_x [0,1,2] [4] rfl rfl ?_)
      refine wx_step2 hok 3 5 rfl rfl rfl rfl rfl rfl ?_ ?_
      ·
       refine wC [] [0,1,2,3,4,5] rfl fn_7 rfl (w_ropewalkkit_LentToken_s N a3 qp4 qc5 l4 _ hc26) (asK [0] rfl) rfl (H' := [_,_,_,_,_,_]) rfl ?_
       rintro _ _ _ ⟨p26_0, c26_1, c26_2, rfl, rfl, rfl⟩
       refine wl_nil (we_x [0,1,2] [6] rfl rfl (xS hok 5 rfl (wl_alloc rfl rfl rfl (freshS_eq rfl) rfl tZ_24 rfl (fun g9 => (wl_nil (we_x [0,1,2] [6,7] rfl rfl (xS hok 6 rfl (wS 3 0 rfl tS_24 (all' := [_,_]) rfl (H' := [_,_,_,_,_,_,_,_]) rfl (wl_nil (we_x [0,1,2] [6] rfl rfl (xS hok 7 rfl (wS 0 0 rfl tS_24 (all' := [_,_]) rfl (H' := [_,_,_,_,_,_,_,_]) rfl (wl_nil (we_x [0,1,2] [] rfl rfl ?_))))))))))))))
       refine wx_done hok rfl (we_pick [0,1,3,2,4,5,6,7] rfl (H' := [_,_,_,_,_,_,_,_]) rfl ?_)
       refine we_join (g9, p26_0, c26_1, c26_2, g8, p24_0, c24_1, c24_2) trivial [9,8,7,5,4,0] rfl (asK [0,1,2] rfl) rfl
      ·
       refine wl_alloc rfl rfl rfl (freshS_eq rfl) rfl tZ_24 rfl (fun g9 => (wl_nil (we_x [0,1,2] [5,6] rfl rfl (xS hok 3 rfl (wC [] [0,1,2,3,4,5,6] rfl fn_7 rfl (w_ropewalkkit_LentToken_s N a3 qp4 qc5 l4 _ hc26) (asK [0] rfl) rfl (H' := [_,_,_,_,_,_,_]) rfl ?_)))))
       rintro _ _ _ ⟨p26_0, c26_1, c26_2, rfl, rfl, rfl⟩
       refine wl_nil (we_x [0,1,2] [7] rfl rfl (xS hok 6 rfl (wS 3 0 rfl tS_24 (all' := [_,_]) rfl (H' := [_,_,_,_,_,_,_,_]) rfl (wl_nil (we_x [0,1,2] [6] rfl rfl (xS hok 7 rfl (wS 1 0 rfl tS_24 (all' := [_,_]) rfl (H' := [_,_,_,_,_,_,_,_]) rfl (wl_nil (we_x [0,1,2] [] rfl rfl (wx_done hok rfl (we_pick [1,0,3,2,4,5,6,7] rfl (H' := [_,_,_,_,_,_,_,_]) rfl ?_)))))))))))
       refine we_join (g9, p26_0, c26_1, c26_2, g8, p24_0, c24_1, c24_2) trivial [9,8,7,5,4,0] rfl (asK [0,1,2] rfl) rfl
     ·
      refine wl_alloc rfl rfl rfl (freshS_eq rfl) rfl tZ_24 rfl (fun g9 => (wl_nil (we_x [0,1,2] [4,5] rfl rfl (xS hok 1 rfl (wC [] [0,1,2,3,4,5] rfl fn_7 rfl (w_ropewalkkit_LentToken_s N a1 qp2 qc3 l2 _ hc24) (asK [1] rfl) rfl (H' := [_,_,_,_,_,_]) rfl ?_)))))
      rintro _ _ _ ⟨p24_0, c24_1, c24_2, rfl, rfl, rfl⟩
      refine wl_nil (we_x [0,1,2] [5] rfl rfl (xS hok 3 rfl (wC [] [0,1,2,3,4,5,6] rfl fn_7 rfl (w_ropewalkkit_LentToken_s N a3 qp4 qc5 l4 _ hc26) (asK [0] rfl) rfl (H' := [_,_,_,_,_,_,_]) rfl ?_)))
      rintro _ _ _ ⟨p26_0, c26_1, c26_2, rfl, rfl, rfl⟩
      refine wl_nil (we_x [0,1,2] [7] rfl rfl (xS hok 6 rfl (wS 3 0 rfl tS_24 (all' := [_,_]) rfl (H' := [_,_,_,_,_,_,_,_]) rfl (wl_nil (we_x [0,1,2] [6] rfl rfl (xS hok 7 rfl (wS 2 0 rfl tS_24 (all' := [_,_]) rfl (H' := [_,_,_,_,_,_,_,_]) rfl (wl_nil (we_x [0,1,2] [] rfl rfl (wx_done hok rfl (we_pick [2,0,3,1,4,5,6,7] rfl (H' := [_,_,_,_,_,_,_,_]) rfl ?_)))))))))))
      refine we_join (g9, p26_0, c26_1, c26_2, g8, p24_0, c24_1, c24_2) trivial [9,8,7,5,4,0] rfl (asK [0,1,2] rfl) rfl
    ·
     refine wl_alloc rfl rfl rfl (freshS_eq rfl) rfl tZ_24 rfl (fun g9 => (wl_nil (we_x [0,1,2] [3,4] rfl rfl ?_)))
     refine wx_step2 hok 1 4 rfl rfl rfl rfl rfl rfl ?_ ?_
     ·
      refine wC [] [0,1,2,3,4] rfl fn_7 rfl (w_ropewalkkit_LentToken_s N a1 qp2 qc3 l2 _ hc24) (asK [1] rfl) rfl (H' := [_,_,_,_,_]) rfl ?_
      rintro _ _ _ ⟨p24_0, c24_1, c24_2, rfl, rfl, rfl⟩
      refine wl_nil (we_x [0,1,2] [4] rfl rfl ?_)
      refine wx_step2 hok 3 4 rfl rfl rfl rfl rfl rfl ?_ ?_
      ·
       refine wC [] [0,1,2,3,4,5] rfl fn_7 rfl (w_ropewalkkit_LentToken_s N a3 qp4 qc5 l4 _ hc26) (asK [0] rfl) rfl (H' := [_,_,_,_,_,_]) rfl ?_
       rintro _ _ _ ⟨p26_0, c26_1, c26_2, rfl, rfl, rfl⟩
       refine wl_nil (we_x [0,1,2] [6] rfl rfl (xS hok 4 rfl (wl_alloc rfl rfl rfl (freshS_eq rfl) rfl tZ_24 rfl (fun g8 => (wl_nil (we_x [0,1,2] [6,7] rfl rfl (xS hok 6 rfl (wS 0 0 rfl tS_24 (all' := [_,_]) rfl (H' := [_,_,_,_,_,_,_,_]) rfl (wl_nil (we_x [0,1,2] [6] rfl rfl (xS hok 7 rfl (wS 3 0 rfl tS_24 (all' := [_,_]) rfl (H' := [_,_,_,_,_,_,_,_]) rfl (wl_nil (we_x [0,1,2] [] rfl rfl ?_))))))))))))))
       refine wx_done hok rfl (we_pick [3,1,0,2,4,5,6,7] rfl (H' := [_,_,_,_,_,_,_,_]) rfl ?_)
       refine we_join (g9, p26_0, c26_1, c26_2, g8, p24_0, c24_1, c24_2) trivial [9,8,7,5,4,0] rfl (asK [0,1,2] rfl) rfl
      ·
       refine wl_alloc rfl rfl rfl (freshS_eq rfl) rfl tZ_24 rfl (fun g8 => (wl_nil (we_x [0,1,2] [5,6] rfl rfl (xS hok 3 rfl (wC [] [0,1,2,3,4,5,6] rfl fn_7 rfl (w_ropewalkkit_LentToken_s N a3 qp4 qc5 l4 _ hc26) (asK [0] rfl) rfl (H' := [_,_,_,_,_,_,_]) rfl ?_)))))
       rintro _ _ _ ⟨p26_0, c26_1, c26_2, rfl, rfl, rfl⟩
       refine wl_nil (we_x [0,1,2] [7] rfl rfl (xS hok 6 rfl (wS 1 0 rfl tS_24 (all' := [_,_]) rfl (H' := [_,_,_,_,_,_,_,_]) rfl (wl_nil (we_x [0,1,2] [6] rfl rfl (xS hok 7 rfl (wS 3 0 rfl tS_24 (all' := [_,_]) rfl (H' := [_,_,_,_,_,_,_,_]) rfl (wl_nil (we_x [0,1,2] [] rfl rfl (wx_done hok rfl (we_pick [3,0,1,2,4,5,6,7] rfl (H' := [_,_,_,_,_,_,_,_]) rfl ?_)))))))))))
       refine we_join (g9, p26_0, c26_1, c26_2, g8, p24_0, c24_1, c24_2) trivial [9,8,7,5,4,0] rfl (asK [0,1,2] rfl) rfl
     ·
      refine wl_alloc rfl rfl rfl (freshS_eq rfl) rfl tZ_24 rfl (fun g8 => (wl_nil (we_x [0,1,2] [4,5] rfl rfl (xS hok 1 rfl (wC [] [0,1,2,3,4,5] rfl fn_7 rfl (w_ropewalkkit_LentToken_s N a1 qp2 qc3 l2 _ hc24) (asK [1] rfl) rfl (H' := [_,_,_,_,_,_]) rfl ?_)))))
      rintro _ _ _ ⟨p24_0, c24_1, c24_2, rfl, rfl, rfl⟩
      refine wl_nil (we_x [0,1,2] [5] rfl rfl (xS hok 3 rfl (wC [] [0,1,2,3,4,5,6] rfl fn_7 rfl (w_ropewalkkit_LentToken_s N a3 qp4 qc5 l4 _ hc26) (asK [0] rfl) rfl (H' := [_,_,_,_,_,_,_]) rfl ?_)))
      rintro _ _ _ ⟨p26_0, c26_1, c26_2, rfl, rfl, rfl⟩
      refine wl_nil (we_x [0,1,2] [7] rfl rfl (xS hok 6 rfl (wS 2 0 rfl tS_24 (all' := [_,_]) rfl (H' := [_,_,_,_,_,_,_,_]) rfl (wl_nil (we_x [0,1,2] [6] rfl rfl (xS hok 7 rfl (wS 3 0 rfl tS_24 (all' := [_,_]) rfl (H' := [_,_,_,_,_,_,_,_]) rfl (wl_nil (we_x [0,1,2] [] rfl rfl (wx_done hok rfl (we_pick [3,0,2,1,4,5,6,7] rfl (H' := [_,_,_,_,_,_,_,_]) rfl ?_)))))))))))
      refine we_join (g9, p26_0, c26_1, c26_2, g8, p24_0, c24_1, c24_2) trivial [9,8,7,5,4,0] rfl (asK [0,1,2] rfl) rfl
   ·
    rintro ⟨w_2_9_g, w_2_9_f1_p, w_2_9_f1_c, w_2_9_f1_n, w_2_8_g, w_2_8_f1_p, w_2_8_f1_c, w_2_8_f1_n⟩ _
    try dsimp only
    refine wc_seq ?_
    obtain ⟨bj_3, hm, hLj_3⟩ := bindO_some hm
    unfold m_ropewalklaw14_AgendaBetter_C3 at hm
    refine wc_cut (σ := Bool) (fun j_3_10 => bj_3 = j_3_10) (fun j_3_10 => [(9, .pointer (some ⟨w_2_9_g, 0, none⟩)), (8, .pointer (some ⟨w_2_8_g, 0, none⟩)), (7, .pointer (some ⟨g7,0, none⟩)), (5, .pointer (some ⟨g5,0, none⟩)), (4, .pointer (some ⟨g4,0, none⟩)), (0, .slice qp0 l0.length qc1), (10, .bool j_3_10)]) (fun j_3_10 => [.sli 1 R_i64 qp4 qc5 l4, .sli 1 R_i64 qp2 qc3 l2, .sli 1 R_i64 qp0 qc1 l0]) (fun j_3_10 => [.blk w_2_9_g [.int .i64 a3, .slice w_2_9_f1_p l4.length w_2_9_f1_c] 24, .own 3 1 R_i64 (.slice w_2_9_f1_p w_2_9_f1_n w_2_9_f1_c) v26, .blk w_2_8_g [.int .i64 a1, .slice w_2_8_f1_p l2.length w_2_8_f1_c] 24, .own 3 1 R_i64 (.slice w_2_8_f1_p w_2_8_f1_n w_2_8_f1_c) v24, .blk g7 [.slice none 0 0, .slice p22_0 c22_2 c22_1] 31, .own 49 5 R_Api_RuleD (.slice p22_0 c22_2 c22_1) v22, .blk g5 [.int .i64 a3, .slice qp4 l4.length qc5] 24, .blk g4 [.int .i64 a1, .slice qp2 l2.length qc3] 24]) ?_ ?_
    ·
     obtain ⟨hzl3, hm⟩ := gd_some hm
     obtain ⟨hzl4, hm⟩ := gd_some hm
     obtain ⟨v30, hc30, hm⟩ := bindO_some hm
     obtain ⟨v34, hc34, hm⟩ := bindO_some hm
     rcases ite_some hm with ⟨hs36, hm⟩ | ⟨hs36, hm⟩
     ·
      obtain ⟨hzl5, hm⟩ := gd_some hm
      obtain ⟨hzl6, hm⟩ := gd_some hm
      obtain ⟨v40, hc40, hm⟩ := bindO_some hm
      obtain ⟨v44, hc44, hm⟩ := bindO_some hm
      refine wc_draw [0,1,2,4,5,6,8,9,10,11,12,14,15,16,18,19] rfl rfl (fun hok => (wx_loadH hok 0 4 0 rfl rfl rfl (freshS_eq rfl) rfl rfl rfl rfl (cs := [_,_]) rfl tS_31 tA_31 rfl rfl (wx_loadH hok 1 2 0 rfl rfl rfl (freshS_eq rfl) rfl rfl rfl rfl (cs := [_,_]) rfl tS_24 tA_24 rfl rfl (wx_loadH hok 2 0 0 rfl rfl rfl (freshS_eq rfl) rfl rfl rfl rfl (cs := [_,_]) rfl tS_24 tA_24 rfl rfl (wx_loadH hok 4 4 0 rfl rfl rfl (freshS_eq rfl) rfl rfl rfl rfl (cs := [_,_]) rfl tS_31 tA_31 rfl rfl (wx_loadH hok 5 7 0 rfl rfl rfl (freshS_eq rfl) rfl rfl rfl rfl (cs := [_,_]) rfl tS_24 tA_24 rfl rfl (wx_loadH hok 6 6 0 rfl rfl rfl (freshS_eq rfl) rfl rfl rfl rfl (cs := [_,_]) rfl tS_24 tA_24 rfl rfl (xS hok 3 rfl (wl_fact (.sli 2 R_Api_TypeD none 0 ([] : List Api_TypeD)) (fun _ _ _ => sli_none) (wl_ownLen 5 rfl (fun hzc22_2 _ => ?_)))))))))))
      subst hzc22_2
      refine wl_ownLen 3 rfl (fun hzw_2_8_f1_n _ => ?_)
      subst hzw_2_8_f1_n
      refine wl_ownLen 1 rfl (fun hzw_2_9_f1_n _ => ?_)
      subst hzw_2_9_f1_n
      refine wl_at 4 (v' := .agg #[.int .i64 a1, .slice w_2_8_f1_p ((v24.take l2.length).length) w_2_8_f1_c]) rfl (by rw [take_len hzl3]) (wl_hAs 2 (φ' := .blk w_2_8_g [.int .i64 a1, .slice w_2_8_f1_p ((v24.take l2.length).length) w_2_8_f1_c] 24) rfl (by rw [take_len hzl3]) (H' := [_,_,_,_,_,_,_,_]) rfl (wl_at 3 (v' := .agg #[.int .i64 a3, .slice w_2_9_f1_p ((v26.take l4.length).length) w_2_9_f1_c]) rfl (by rw [take_len hzl4]) (wl_hAs 0 (φ' := .blk w_2_9_g [.int .i64 a3, .slice w_2_9_f1_p ((v26.take l4.length).length) w_2_9_f1_c] 24) rfl (by rw [take_len hzl4]) (H' := [_,_,_,_,_,_,_,_]) rfl (wl_lend [] [0,1,2,3,4,5,6,7] [5,3,1] rfl rfl rfl (freshS_eq rfl) rfl rfl fn_8 rfl (w_agenda_Better_s N none 0 ([] : List Api_TypeD) p22_0 c22_1 v22 a1 w_2_8_f1_p w_2_8_f1_c (v24.take l2.length) a3 w_2_9_f1_p w_2_9_f1_c (v26.take l4.length) _ hc30) (fun F w hφ hh => (ask_cons (hφ _ (mem_at (k := 0) rfl)) (ask_cons (own_sli (hh _ (mem_at (k := 0) rfl))) (ask_cons (sli_take (own_sli (hh _ (mem_at (k := 1) rfl))) l2.length) (ask_cons (sli_take (own_sli (hh _ (mem_at (k := 2) rfl))) l4.length) ask_nil))))) (fun _ _ _ hR => by obtain ⟨rfl, rfl, rfl⟩ := hR; exact ⟨rfl, (fun _ h => free_nil h)⟩) rfl rfl (H' := [_,_,_,_,_,_,_,_]) rfl ?_))))
      rintro _ _ _ ⟨rfl, rfl, rfl⟩
      refine wl_at 4 (v' := .agg #[.int .i64 a3, .slice w_2_9_f1_p l4.length w_2_9_f1_c]) rfl (by rw [take_len hzl4]) (wl_hAs 0 (φ' := .blk w_2_9_g [.int .i64 a3, .slice w_2_9_f1_p l4.length w_2_9_f1_c] 24) rfl (by rw [take_len hzl4]) (H' := [_,_,_,_,_,_,_,_]) rfl (wl_at 5 (v' := .agg #[.int .i64 a1, .slice w_2_8_f1_p l2.length w_2_8_f1_c]) rfl (by rw [take_len hzl3]) (wl_hAs 2 (φ' := .blk w_2_8_g [.int .i64 a1, .slice w_2_8_f1_p l2.length w_2_8_f1_c] 24) rfl (by rw [take_len hzl3]) (H' := [_,_,_,_,_,_,_,_]) rfl (wl_nil (we_x [1,2,3] [6,7,4] rfl rfl (xS hok 7 rfl (wl_fact (.sli 2 R_Api_TypeD none 0 ([] : List Api_TypeD)) (fun _ _ _ => sli_none) (wl_lend [] [0,1,2,3,4,5,6,7] [5] rfl rfl rfl (freshS_eq rfl) rfl rfl fn_9 rfl (w_ropewalkref14_Better_s N none 0 ([] : List Api_TypeD) p22_0 c22_1 v22 a1 qp2 qc3 l2 a3 qp4 qc5 l4 _ hc34) (fun F w hφ hh => (ask_cons (hφ _ (mem_at (k := 0) rfl)) (ask_cons (own_sli (hh _ (mem_at (k := 0) rfl))) (ask_cons (hφ _ (mem_at (k := 3) rfl)) (ask_cons (hφ _ (mem_at (k := 2) rfl)) ask_nil))))) (fun _ _ _ hR => by obtain ⟨rfl, rfl, rfl⟩ := hR; exact ⟨rfl, (fun _ h => free_nil h)⟩) rfl rfl (H' := [_,_,_,_,_,_,_,_]) rfl ?_))))))))
      rintro _ _ _ ⟨rfl, rfl, rfl⟩
      refine wl_nil (we_x [1,2,3,4] [0,2,4] rfl rfl (wx_bin hok 8 rfl rfl rfl (freshS_eq rfl) rfl rfl rfl rfl (eqlB _ _ v30 v34) (xP hok 9 rfl (wx_as (d := 36) (v' := .bool true) (S' := [_,_,_,_,_,_,_,_,_,_,_,_,_,_,_]) rfl rfl (bool_is hs36) (wx_loadH hok 10 4 0 rfl rfl rfl (freshS_eq rfl) rfl rfl rfl rfl (cs := [_,_]) rfl tS_31 tA_31 rfl rfl (wx_loadH hok 11 0 0 rfl rfl rfl (freshS_eq rfl) rfl rfl rfl rfl (cs := [_,_]) rfl tS_24 tA_24 rfl rfl (wx_loadH hok 12 2 0 rfl rfl rfl (freshS_eq rfl) rfl rfl rfl rfl (cs := [_,_]) rfl tS_24 tA_24 rfl rfl (wx_loadH hok 14 4 0 rfl rfl rfl (freshS_eq rfl) rfl rfl rfl rfl (cs := [_,_]) rfl tS_31 tA_31 rfl rfl (wx_loadH hok 15 6 0 rfl rfl rfl (freshS_eq rfl) rfl rfl rfl rfl (cs := [_,_]) rfl tS_24 tA_24 rfl rfl (wx_loadH hok 16 7 0 rfl rfl rfl (freshS_eq rfl) rfl rfl rfl rfl (cs := [_,_]) rfl tS_24 tA_24 rfl rfl (xS hok 13 rfl (wl_fact (.sli 2 R_Api_TypeD none 0 ([] : List Api_TypeD)) (fun _ _ _ => sli_none) (wl_at 4 (v' := .agg #[.int .i64 a3, .slice w_2_9_f1_p ((v26.take l4.length).length) w_2_9_f1_c]) rfl (by rw [take_len hzl5]) ?_)))))))))))))
      refine wl_at 13 (v' := .agg #[.int .i64 a3, .slice w_2_9_f1_p ((v26.take l4.length).length) w_2_9_f1_c]) rfl (by rw [take_len hzl5]) (wl_hAs 0 (φ' := .blk w_2_9_g [.int .i64 a3, .slice w_2_9_f1_p ((v26.take l4.length).length) w_2_9_f1_c] 24) rfl (by rw [take_len hzl5]) (H' := [_,_,_,_,_,_,_,_]) rfl (wl_at 3 (v' := .agg #[.int .i64 a1, .slice w_2_8_f1_p ((v24.take l2.length).length) w_2_8_f1_c]) rfl (by rw [take_len hzl6]) (wl_at 14 (v' := .agg #[.int .i64 a1, .slice w_2_8_f1_p ((v24.take l2.length).length) w_2_8_f1_c]) rfl (by rw [take_len hzl6]) (wl_hAs 2 (φ' := .blk w_2_8_g [.int .i64 a1, .slice w_2_8_f1_p ((v24.take l2.length).length) w_2_8_f1_c] 24) rfl (by rw [take_len hzl6]) (H' := [_,_,_,_,_,_,_,_]) rfl (wl_lend [] [0,1,2,3,4,5,6,7] [5,1,3] rfl rfl rfl (freshS_eq rfl) rfl rfl fn_8 rfl (w_agenda_Better_s N none 0 ([] : List Api_TypeD) p22_0 c22_1 v22 a3 w_2_9_f1_p w_2_9_f1_c (v26.take l4.length) a1 w_2_8_f1_p w_2_8_f1_c (v24.take l2.length) _ hc40) (fun F w hφ hh => (ask_cons (hφ _ (mem_at (k := 0) rfl)) (ask_cons (own_sli (hh _ (mem_at (k := 0) rfl))) (ask_cons (sli_take (own_sli (hh _ (mem_at (k := 1) rfl))) l4.length) (ask_cons (sli_take (own_sli (hh _ (mem_at (k := 2) rfl))) l2.length) ask_nil))))) (fun _ _ _ hR => by obtain ⟨rfl, rfl, rfl⟩ := hR; exact ⟨rfl, (fun _ h => free_nil h)⟩) rfl rfl (H' := [_,_,_,_,_,_,_,_]) rfl ?_)))))
      rintro _ _ _ ⟨rfl, rfl, rfl⟩
      refine wl_at 4 (v' := .agg #[.int .i64 a1, .slice w_2_8_f1_p l2.length w_2_8_f1_c]) rfl (by rw [take_len hzl6]) (wl_at 15 (v' := .agg #[.int .i64 a1, .slice w_2_8_f1_p l2.length w_2_8_f1_c]) rfl (by rw [take_len hzl6]) (wl_hAs 2 (φ' := .blk w_2_8_g [.int .i64 a1, .slice w_2_8_f1_p l2.length w_2_8_f1_c] 24) rfl (by rw [take_len hzl6]) (H' := [_,_,_,_,_,_,_,_]) rfl (wl_at 5 (v' := .agg #[.int .i64 a3, .slice w_2_9_f1_p l4.length w_2_9_f1_c]) rfl (by rw [take_len hzl5]) (wl_at 14 (v' := .agg #[.int .i64 a3, .slice w_2_9_f1_p l4.length w_2_9_f1_c]) rfl (by rw [take_len hzl5]) (wl_hAs 0 (φ' := .blk w_2_9_g [.int .i64 a3, .slice w_2_9_f1_p l4.length w_2_9_f1_c] 24) rfl (by rw [take_len hzl5]) (H' := [_,_,_,_,_,_,_,_]) rfl (wl_nil (we_x [1,2,3,4,5] [7,6,4,6,7,4,0,2,4] rfl rfl (xS hok 17 rfl (wl_fact (.sli 2 R_Api_TypeD none 0 ([] : List Api_TypeD)) (fun _ _ _ => sli_none) (wl_lend [] [0,1,2,3,4,5,6,7] [5] rfl rfl rfl (freshS_eq rfl) rfl rfl fn_9 rfl (w_ropewalkref14_Better_s N none 0 ([] : List Api_TypeD) p22_0 c22_1 v22 a3 qp4 qc5 l4 a1 qp2 qc3 l2 _ hc44) (fun F w hφ hh => (ask_cons (hφ _ (mem_at (k := 0) rfl)) (ask_cons (own_sli (hh _ (mem_at (k := 0) rfl))) (ask_cons (hφ _ (mem_at (k := 4) rfl)) (ask_cons (hφ _ (mem_at (k := 5) rfl)) ask_nil))))) (fun _ _ _ hR => by obtain ⟨rfl, rfl, rfl⟩ := hR; exact ⟨rfl, (fun _ h => free_nil h)⟩) rfl rfl (H' := [_,_,_,_,_,_,_,_]) rfl ?_))))))))))
      rintro _ _ _ ⟨rfl, rfl, rfl⟩
      refine wl_nil (we_x [1,2,3,4,5,6] [2,0,4,6,7,4,0,2,4] rfl rfl (wx_bin hok 18 rfl rfl rfl (freshS_eq rfl) rfl rfl rfl rfl (eqlB _ _ v40 v44) (xP hok 19 rfl (xS hok 20 rfl (wP rfl (wl_nil (we_x [0,1,2,3,4,5,6] [] rfl rfl (wx_done hok rfl ?_))))))))
      have hE := (Option.some.inj hm).symm
      refine we_join (v40 == v44) hE [9,8,7,5,4,0,10] rfl (asK [4,5,6] rfl) rfl
     ·
      refine wc_draw [0,1,2,4,5,6,8,9,10,11,12,14,15,16,18,19] rfl rfl (fun hok => (wx_loadH hok 0 4 0 rfl rfl rfl (freshS_eq rfl) rfl rfl rfl rfl (cs := [_,_]) rfl tS_31 tA_31 rfl rfl (wx_loadH hok 1 2 0 rfl rfl rfl (freshS_eq rfl) rfl rfl rfl rfl (cs := [_,_]) rfl tS_24 tA_24 rfl rfl (wx_loadH hok 2 0 0 rfl rfl rfl (freshS_eq rfl) rfl rfl rfl rfl (cs := [_,_]) rfl tS_24 tA_24 rfl rfl (wx_loadH hok 4 4 0 rfl rfl rfl (freshS_eq rfl) rfl rfl rfl rfl (cs := [_,_]) rfl tS_31 tA_31 rfl rfl (wx_loadH hok 5 7 0 rfl rfl rfl (freshS_eq rfl) rfl rfl rfl rfl (cs := [_,_]) rfl tS_24 tA_24 rfl rfl (wx_loadH hok 6 6 0 rfl rfl rfl (freshS_eq rfl) rfl rfl rfl rfl (cs := [_,_]) rfl tS_24 tA_24 rfl rfl (xS hok 3 rfl (wl_fact (.sli 2 R_Api_TypeD none 0 ([] : List Api_TypeD)) (fun _ _ _ => sli_none) (wl_ownLen 5 rfl (fun hzc22_2 _ => ?_)))))))))))
      subst hzc22_2
      refine wl_ownLen 3 rfl (fun hzw_2_8_f1_n _ => ?_)
      subst hzw_2_8_f1_n
      refine wl_ownLen 1 rfl (fun hzw_2_9_f1_n _ => ?_)
      subst hzw_2_9_f1_n
      refine wl_at 4 (v' := .agg #[.int .i64 a1, .slice w_2_8_f1_p ((v24.take l2.length).length) w_2_8_f1_c]) rfl (by rw [take_len hzl3]) (wl_hAs 2 (φ' := .blk w_2_8_g [.int .i64 a1, .slice w_2_8_f1_p ((v24.take l2.length).length) w_2_8_f1_c] 24) rfl (by rw [take_len hzl3]) (H' := [_,_,_,_,_,_,_,_]) rfl (wl_at 3 (v' := .agg #[.int .i64 a3, .slice w_2_9_f1_p ((v26.take l4.length).length) w_2_9_f1_c]) rfl (by rw [take_len hzl4]) (wl_hAs 0 (φ' := .blk w_2_9_g [.int .i64 a3, .slice w_2_9_f1_p ((v26.take l4.length).length) w_2_9_f1_c] 24) rfl (by rw [take_len hzl4]) (H' := [_,_,_,_,_,_,_,_]) rfl (wl_lend [] [0,1,2,3,4,5,6,7] [5,3,1] rfl rfl rfl (freshS_eq rfl) rfl rfl fn_8 rfl (w_agenda_Better_s N none 0 ([] : List Api_TypeD) p22_0 c22_1 v22 a1 w_2_8_f1_p w_2_8_f1_c (v24.take l2.length) a3 w_2_9_f1_p w_2_9_f1_c (v26.take l4.length) _ hc30) (fun F w hφ hh => (ask_cons (hφ _ (mem_at (k := 0) rfl)) (ask_cons (own_sli (hh _ (mem_at (k := 0) rfl))) (ask_cons (sli_take (own_sli (hh _ (mem_at (k := 1) rfl))) l2.length) (ask_cons (sli_take (own_sli (hh _ (mem_at (k := 2) rfl))) l4.length) ask_nil))))) (fun _ _ _ hR => by obtain ⟨rfl, rfl, rfl⟩ := hR; exact ⟨rfl, (fun _ h => free_nil h)⟩) rfl rfl (H' := [_,_,_,_,_,_,_,_]) rfl ?_))))
      rintro _ _ _ ⟨rfl, rfl, rfl⟩
      refine wl_at 4 (v' := .agg #[.int .i64 a3, .slice w_2_9_f1_p l4.length w_2_9_f1_c]) rfl (by rw [take_len hzl4]) (wl_hAs 0 (φ' := .blk w_2_9_g [.int .i64 a3, .slice w_2_9_f1_p l4.length w_2_9_f1_c] 24) rfl (by rw [take_len hzl4]) (H' := [_,_,_,_,_,_,_,_]) rfl (wl_at 5 (v' := .agg #[.int .i64 a1, .slice w_2_8_f1_p l2.length w_2_8_f1_c]) rfl (by rw [take_len hzl3]) (wl_hAs 2 (φ' := .blk w_2_8_g [.int .i64 a1, .slice w_2_8_f1_p l2.length w_2_8_f1_c] 24) rfl (by rw [take_len hzl3]) (H' := [_,_,_,_,_,_,_,_]) rfl (wl_nil (we_x [1,2,3] [6,7,4] rfl rfl (xS hok 7 rfl (wl_fact (.sli 2 R_Api_TypeD none 0 ([] : List Api_TypeD)) (fun _ _ _ => sli_none) (wl_lend [] [0,1,2,3,4,5,6,7] [5] rfl rfl rfl (freshS_eq rfl) rfl rfl fn_9 rfl (w_ropewalkref14_Better_s N none 0 ([] : List Api_TypeD) p22_0 c22_1 v22 a1 qp2 qc3 l2 a3 qp4 qc5 l4 _ hc34) (fun F w hφ hh => (ask_cons (hφ _ (mem_at (k := 0) rfl)) (ask_cons (own_sli (hh _ (mem_at (k := 0) rfl))) (ask_cons (hφ _ (mem_at (k := 3) rfl)) (ask_cons (hφ _ (mem_at (k := 2) rfl)) ask_nil))))) (fun _ _ _ hR => by obtain ⟨rfl, rfl, rfl⟩ := hR; exact ⟨rfl, (fun _ h => free_nil h)⟩) rfl rfl (H' := [_,_,_,_,_,_,_,_]) rfl ?_))))))))
      rintro _ _ _ ⟨rfl, rfl, rfl⟩
      refine wl_nil (we_x [1,2,3,4] [0,2,4] rfl rfl (wx_bin hok 8 rfl rfl rfl (freshS_eq rfl) rfl rfl rfl rfl (eqlB _ _ v30 v34) (xP hok 9 rfl (wx_as (d := 36) (v' := .bool false) (S' := [_,_,_,_,_,_,_,_,_,_,_,_,_,_,_]) rfl rfl (bool_is hs36) (xO hok 10 rfl (xO hok 11 rfl (xO hok 12 rfl (xO hok 14 rfl (xO hok 15 rfl (xO hok 16 rfl (xS hok 13 rfl (wO rfl (wl_nil ?_)))))))))))))
      refine we_x [0,1,2,3,4] [6,7,4,0,2,4] rfl rfl (xS hok 17 rfl (wO rfl (wl_nil (we_x [0,1,2,3,4] [6,7,4,0,2,4] rfl rfl (xO hok 18 rfl (xP hok 19 rfl (xS hok 20 rfl (wP rfl (wl_nil (we_x [0,1,2,3,4] [] rfl rfl (wx_done hok rfl ?_)))))))))))
      have hE := (Option.some.inj hm).symm
      refine we_join false hE [9,8,7,5,4,0,10] rfl (asK [2,3,4] rfl) rfl
    ·
     rintro j_3_10 hE
     try dsimp only
     have hm := hLj_3
     rw [hE] at hm
     refine wc_seq ?_
     obtain ⟨bj_4, hm, hLj_4⟩ := bindO_some hm
     unfold m_ropewalklaw14_AgendaBetter_C4 at hm
     refine wc_cut (σ := Bool) (fun j_4_6 => bj_4 = j_4_6) (fun j_4_6 => [(6, .bool j_4_6)]) (fun j_4_6 => []) (fun j_4_6 => []) ?_ ?_
     ·
      rcases ite_some hm with ⟨hs48, hm⟩ | ⟨hs48, hm⟩
      ·
       obtain ⟨v51, hc51, hm⟩ := bindO_some hm
       rcases ite_some hm with ⟨hs53, hm⟩ | ⟨hs53, hm⟩
       ·
        obtain ⟨v56, hc56, hm⟩ := bindO_some hm
        rcases ite_some hm with ⟨hs58, hm⟩ | ⟨hs58, hm⟩
        ·
         obtain ⟨v61, hc61, hm⟩ := bindO_some hm
         obtain ⟨v62, hc62, hm⟩ := bindO_some hm
         rcases ite_some hm with ⟨hs64, hm⟩ | ⟨hs64, hm⟩
         ·
          obtain ⟨v68, hc68, hm⟩ := bindO_some hm
          rcases ite_some hm with ⟨hs71, hm⟩ | ⟨hs71, hm⟩
          ·
           refine wc_draw [0,1,2,3,5,6,7,8,10,11,12,13,16,17,18,19,20,22,23,24,26] rfl rfl (fun hok => (xP hok 0 rfl (xP hok 1 rfl (wx_as (d := 48) (v' := .bool true) (S' := [_,_,_,_,_,_,_,_]) rfl rfl (bool_is hs48) (wx_loadH hok 2 2 0 rfl rfl rfl (freshS_eq rfl) rfl rfl rfl rfl (cs := [_,_]) rfl tS_24 tA_24 rfl rfl (wx_loadH hok 3 7 0 rfl rfl rfl (freshS_eq rfl) rfl rfl rfl rfl (cs := [_,_]) rfl tS_24 tA_24 rfl rfl (xS hok 4 rfl (wl_ownLen 3 rfl (fun hzw_2_8_f1_n _ => ?_)))))))))
           subst hzw_2_8_f1_n
           refine wl_lend [] [0,1,2,3,4,5,6,7] [3] rfl rfl rfl (freshS_eq rfl) rfl rfl fn_10 rfl (w_ropewalkkit_KeptToken_W_s N a1 w_2_8_f1_p w_2_8_f1_c v24 l2.length a1 qp2 qc3 l2 _ hc51) (fun F w hφ hh => (ask_cons (own_sli (hh _ (mem_at (k := 0) rfl))) (ask_cons (hφ _ (mem_at (k := 1) rfl)) ask_nil))) (fun _ _ _ hR => by obtain ⟨rfl, rfl, rfl⟩ := hR; exact ⟨rfl, (fun _ h => free_nil h)⟩) rfl rfl (H' := [_,_,_,_,_,_,_,_]) rfl ?_
           rintro _ _ _ ⟨rfl, rfl, rfl⟩
           refine wl_nil (we_x [0,1,2] [] rfl rfl (xP hok 5 rfl (xP hok 6 rfl (wx_as (d := 53) (v' := .bool true) (S' := [_,_,_,_,_,_,_,_,_,_,_,_,_]) rfl rfl (bool_is hs53) (wx_loadH hok 7 0 0 rfl rfl rfl (freshS_eq rfl) rfl rfl rfl rfl (cs := [_,_]) rfl tS_24 tA_24 rfl rfl (wx_loadH hok 8 6 0 rfl rfl rfl (freshS_eq rfl) rfl rfl rfl rfl (cs := [_,_]) rfl tS_24 tA_24 rfl rfl (xS hok 9 rfl (wl_ownLen 1 rfl (fun hzw_2_9_f1_n _ => ?_)))))))))
           subst hzw_2_9_f1_n
           refine wl_lend [] [0,1,2,3,4,5,6,7] [1] rfl rfl rfl (freshS_eq rfl) rfl rfl fn_10 rfl (w_ropewalkkit_KeptToken_W_s N a3 w_2_9_f1_p w_2_9_f1_c v26 l4.length a3 qp4 qc5 l4 _ hc56) (fun F w hφ hh => (ask_cons (own_sli (hh _ (mem_at (k := 0) rfl))) (ask_cons (hφ _ (mem_at (k := 0) rfl)) ask_nil))) (fun _ _ _ hR => by obtain ⟨rfl, rfl, rfl⟩ := hR; exact ⟨rfl, (fun _ h => free_nil h)⟩) rfl rfl (H' := [_,_,_,_,_,_,_,_]) rfl ?_
           rintro _ _ _ ⟨rfl, rfl, rfl⟩
           refine wl_nil (we_x [0,1,2] [7,2] rfl rfl (xP hok 10 rfl (xP hok 11 rfl (wx_as (d := 58) (v' := .bool true) (S' := [_,_,_,_,_,_,_,_,_,_,_,_,_,_,_,_,_,_]) rfl rfl (bool_is hs58) (wx_loadH hok 12 4 0 rfl rfl rfl (freshS_eq rfl) rfl rfl rfl rfl (cs := [_,_]) rfl tS_31 tA_31 rfl rfl (xP hok 13 rfl (xS hok 14 rfl (wC [] [0,1,2,3,4,5,6,7] rfl fn_6 rfl (w_ropewalklaw14_of_s N qp0 qc1 l0 _ hc61) (asK [2] rfl) rfl (H' := [_,_,_,_,_,_,_,_]) rfl ?_))))))))
           rintro _ _ _ ⟨p61_0, c61_1, c61_2, rfl, rfl, rfl⟩
           refine wl_nil (we_x [0,1,2] [5,7,1,8,3] rfl rfl (xS hok 15 rfl (wl_fact (.sli 2 R_Api_TypeD none 0 ([] : List Api_TypeD)) (fun _ _ _ => sli_none) (wl_fact (.sli 2 R_Api_TypeD none 0 ([] : List Api_TypeD)) (fun _ _ _ => sli_none) (wl_ownLen 6 rfl (fun hzc22_2 _ => ?_))))))
           subst hzc22_2
           refine wl_ownLen 0 rfl (fun hzc61_2 _ => ?_)
           subst hzc61_2
           refine wl_lend [] [0,1,2,3,4,5,6,7,8] [6,0] rfl rfl rfl (freshS_eq rfl) rfl rfl fn_11 rfl (w_ropewalkkit_SameRules_s N none 0 ([] : List Api_TypeD) p22_0 c22_1 v22 none 0 ([] : List Api_TypeD) p61_0 c61_1 v61 _ hc62) (fun F w hφ hh => (ask_cons (hφ _ (mem_at (k := 1) rfl)) (ask_cons (own_sli (hh _ (mem_at (k := 0) rfl))) (ask_cons (hφ _ (mem_at (k := 0) rfl)) (ask_cons (own_sli (hh _ (mem_at (k := 1) rfl))) ask_nil))))) (fun _ _ _ hR => by obtain ⟨rfl, rfl, rfl⟩ := hR; exact ⟨rfl, (fun _ h => free_nil h)⟩) rfl rfl (H' := [_,_,_,_,_,_,_,_,_]) rfl ?_
           rintro _ _ _ ⟨rfl, rfl, rfl⟩
           refine wl_nil (we_x [2,3,4] [7,1,8,3] rfl rfl (xP hok 16 rfl (xP hok 17 rfl (wx_as (d := 64) (v' := .bool true) (S' := [_,_,_,_,_,_,_,_,_,_,_,_,_,_,_,_,_,_,_,_,_,_,_,_]) rfl rfl (bool_is hs64) (wx_loadH hok 18 5 0 rfl rfl rfl (freshS_eq rfl) rfl rfl rfl rfl (cs := [_,_]) rfl tS_31 tA_31 rfl rfl (wx_loadH hok 19 8 0 rfl rfl rfl (freshS_eq rfl) rfl rfl rfl rfl (cs := [_,_]) rfl tS_24 tA_24 rfl rfl (wx_loadH hok 20 8 0 rfl rfl rfl (freshS_eq rfl) rfl rfl rfl rfl (cs := [_,_]) rfl tS_24 tA_24 rfl rfl (xS hok 21 rfl (wl_fact (.sli 2 R_Api_TypeD none 0 ([] : List Api_TypeD)) (fun _ _ _ => sli_none) (wl_lend [] [0,1,2,3,4,5,6,7,8] [6] rfl rfl rfl (freshS_eq rfl) rfl rfl fn_8 rfl (w_agenda_Better_v2_s N none 0 ([] : List Api_TypeD) p22_0 c22_1 v22 a1 qp2 qc3 l2 a1 _ hc68) (fun F w hφ hh => (ask_cons (hφ _ (mem_at (k := 0) rfl)) (ask_cons (own_sli (hh _ (mem_at (k := 0) rfl))) (ask_cons (hφ _ (mem_at (k := 4) rfl)) ask_nil)))) (fun _ _ _ hR => by obtain ⟨rfl, rfl, rfl⟩ := hR; exact ⟨rfl, (fun _ h => free_nil h)⟩) rfl rfl (H' := [_,_,_,_,_,_,_,_,_]) rfl ?_))))))))))
           rintro _ _ _ ⟨rfl, rfl, rfl⟩
           refine wl_nil (we_x [1,2,3,4,5] [5,7,1,8,3] rfl rfl (xP hok 22 rfl (xP hok 23 rfl (xP hok 24 rfl (xS hok 25 rfl (wl_as (d := 71) (v' := .bool true) (S' := [_,_,_,_,_,_,_,_,_,_,_,_,_,_,_,_,_,_,_,_,_,_,_,_,_,_,_,_,_,_,_]) rfl rfl (bool_is hs71) (wC [] [0,1,2,3,4,5,6,7,8] rfl fn_5 rfl aw_5 (asK [] rfl) rfl (H' := [_,_,_,_,_,_,_,_,_]) rfl ?_)))))))
           rintro _ _ _ ⟨rfl, rfl, rfl⟩
           refine wl_nil (we_x [0,1,2,3,4,5] [8,8,5,5,7,1,8,3] rfl rfl (xP hok 26 rfl (xS hok 27 rfl (wP rfl (wl_nil (we_x [0,1,2,3,4,5] [] rfl rfl (wx_done hok rfl ?_)))))))
           have hE := (Option.some.inj hm).symm
           refine we_pick [] rfl (H' := []) rfl ?_
           refine we_join true hE [6] rfl (asK [] rfl) rfl
          ·
           refine wc_draw [0,1,2,3,5,6,7,8,10,11,12,13,16,17,18,19,20,22,23,24,26] rfl rfl (fun hok => (xP hok 0 rfl (xP hok 1 rfl (wx_as (d := 48) (v' := .bool true) (S' := [_,_,_,_,_,_,_,_]) rfl rfl (bool_is hs48) (wx_loadH hok 2 2 0 rfl rfl rfl (freshS_eq rfl) rfl rfl rfl rfl (cs := [_,_]) rfl tS_24 tA_24 rfl rfl (wx_loadH hok 3 7 0 rfl rfl rfl (freshS_eq rfl) rfl rfl rfl rfl (cs := [_,_]) rfl tS_24 tA_24 rfl rfl (xS hok 4 rfl (wl_ownLen 3 rfl (fun hzw_2_8_f1_n _ => ?_)))))))))
           subst hzw_2_8_f1_n
           refine wl_lend [] [0,1,2,3,4,5,6,7] [3] rfl rfl rfl (freshS_eq rfl) rfl rfl fn_10 rfl (w_ropewalkkit_KeptToken_W_s N a1 w_2_8_f1_p w_2_8_f1_c v24 l2.length a1 qp2 qc3 l2 _ hc51) (fun F w hφ hh => (ask_cons (own_sli (hh _ (mem_at (k := 0) rfl))) (ask_cons (hφ _ (mem_at (k := 1) rfl)) ask_nil))) (fun _ _ _ hR => by obtain ⟨rfl, rfl, rfl⟩ := hR; exact ⟨rfl, (fun _ h => free_nil h)⟩) rfl rfl (H' := [_,_,_,_,_,_,_,_]) rfl ?_
           rintro _ _ _ ⟨rfl, rfl, rfl⟩
           refine wl_nil (we_x [0,1,2] [] rfl rfl (xP hok 5 rfl (xP hok 6 rfl (wx_as (d := 53) (v' := .bool true) (S' := [_,_,_,_,_,_,_,_,_,_,_,_,_]) rfl rfl (bool_is hs53) (wx_loadH hok 7 0 0 rfl rfl rfl (freshS_eq rfl) rfl rfl rfl rfl (cs := [_,_]) rfl tS_24 tA_24 rfl rfl (wx_loadH hok 8 6 0 rfl rfl rfl (freshS_eq rfl) rfl rfl rfl rfl (cs := [_,_]) rfl tS_24 tA_24 rfl rfl (xS hok 9 rfl (wl_ownLen 1 rfl (fun hzw_2_9_f1_n _ => ?_)))))))))
           subst hzw_2_9_f1_n
           refine wl_lend [] [0,1,2,3,4,5,6,7] [1] rfl rfl rfl (freshS_eq rfl) rfl rfl fn_10 rfl (w_ropewalkkit_KeptToken_W_s N a3 w_2_9_f1_p w_2_9_f1_c v26 l4.length a3 qp4 qc5 l4 _ hc56) (fun F w hφ hh => (ask_cons (own_sli (hh _ (mem_at (k := 0) rfl))) (ask_cons (hφ _ (mem_at (k := 0) rfl)) ask_nil))) (fun _ _ _ hR => by obtain ⟨rfl, rfl, rfl⟩ := hR; exact ⟨rfl, (fun _ h => free_nil h)⟩) rfl rfl (H' := [_,_,_,_,_,_,_,_]) rfl ?_
           rintro _ _ _ ⟨rfl, rfl, rfl⟩
           refine wl_nil (we_x [0,1,2] [7,2] rfl rfl (xP hok 10 rfl (xP hok 11 rfl (wx_as (d := 58) (v' := .bool true) (S' := [_,_,_,_,_,_,_,_,_,_,_,_,_,_,_,_,_,_]) rfl rfl (bool_is hs58) (wx_loadH hok 12 4 0 rfl rfl rfl (freshS_eq rfl) rfl rfl rfl rfl (cs := [_,_]) rfl tS_31 tA_31 rfl rfl (xP hok 13 rfl (xS hok 14 rfl (wC [] [0,1,2,3,4,5,6,7] rfl fn_6 rfl (w_ropewalklaw14_of_s N qp0 qc1 l0 _ hc61) (asK [2] rfl) rfl (H' := [_,_,_,_,_,_,_,_]) rfl ?_))))))))
           rintro _ _ _ ⟨p61_0, c61_1, c61_2, rfl, rfl, rfl⟩
           refine wl_nil (we_x [0,1,2] [5,7,1,8,3] rfl rfl (xS hok 15 rfl (wl_fact (.sli 2 R_Api_TypeD none 0 ([] : List Api_TypeD)) (fun _ _ _ => sli_none) (wl_fact (.sli 2 R_Api_TypeD none 0 ([] : List Api_TypeD)) (fun _ _ _ => sli_none) (wl_ownLen 6 rfl (fun hzc22_2 _ => ?_))))))
           subst hzc22_2
           refine wl_ownLen 0 rfl (fun hzc61_2 _ => ?_)
           subst hzc61_2
           refine wl_lend [] [0,1,2,3,4,5,6,7,8] [6,0] rfl rfl rfl (freshS_eq rfl) rfl rfl fn_11 rfl (w_ropewalkkit_SameRules_s N none 0 ([] : List Api_TypeD) p22_0 c22_1 v22 none 0 ([] : List Api_TypeD) p61_0 c61_1 v61 _ hc62) (fun F w hφ hh => (ask_cons (hφ _ (mem_at (k := 1) rfl)) (ask_cons (own_sli (hh _ (mem_at (k := 0) rfl))) (ask_cons (hφ _ (mem_at (k := 0) rfl)) (ask_cons (own_sli (hh _ (mem_at (k := 1) rfl))) ask_nil))))) (fun _ _ _ hR => by obtain ⟨rfl, rfl, rfl⟩ := hR; exact ⟨rfl, (fun _ h => free_nil h)⟩) rfl rfl (H' := [_,_,_,_,_,_,_,_,_]) rfl ?_
           rintro _ _ _ ⟨rfl, rfl, rfl⟩
           refine wl_nil (we_x [2,3,4] [7,1,8,3] rfl rfl (xP hok 16 rfl (xP hok 17 rfl (wx_as (d := 64) (v' := .bool true) (S' := [_,_,_,_,_,_,_,_,_,_,_,_,_,_,_,_,_,_,_,_,_,_,_,_]) rfl rfl (bool_is hs64) (wx_loadH hok 18 5 0 rfl rfl rfl (freshS_eq rfl) rfl rfl rfl rfl (cs := [_,_]) rfl tS_31 tA_31 rfl rfl (wx_loadH hok 19 8 0 rfl rfl rfl (freshS_eq rfl) rfl rfl rfl rfl (cs := [_,_]) rfl tS_24 tA_24 rfl rfl (wx_loadH hok 20 8 0 rfl rfl rfl (freshS_eq rfl) rfl rfl rfl rfl (cs := [_,_]) rfl tS_24 tA_24 rfl rfl (xS hok 21 rfl (wl_fact (.sli 2 R_Api_TypeD none 0 ([] : List Api_TypeD)) (fun _ _ _ => sli_none) (wl_lend [] [0,1,2,3,4,5,6,7,8] [6] rfl rfl rfl (freshS_eq rfl) rfl rfl fn_8 rfl (w_agenda_Better_v2_s N none 0 ([] : List Api_TypeD) p22_0 c22_1 v22 a1 qp2 qc3 l2 a1 _ hc68) (fun F w hφ hh => (ask_cons (hφ _ (mem_at (k := 0) rfl)) (ask_cons (own_sli (hh _ (mem_at (k := 0) rfl))) (ask_cons (hφ _ (mem_at (k := 4) rfl)) ask_nil)))) (fun _ _ _ hR => by obtain ⟨rfl, rfl, rfl⟩ := hR; exact ⟨rfl, (fun _ h => free_nil h)⟩) rfl rfl (H' := [_,_,_,_,_,_,_,_,_]) rfl ?_))))))))))
           rintro _ _ _ ⟨rfl, rfl, rfl⟩
           refine wl_nil (we_x [1,2,3,4,5] [5,7,1,8,3] rfl rfl (xP hok 22 rfl (xP hok 23 rfl (xP hok 24 rfl (xS hok 25 rfl (wl_as (d := 71) (v' := .bool false) (S' := [_,_,_,_,_,_,_,_,_,_,_,_,_,_,_,_,_,_,_,_,_,_,_,_,_,_,_,_,_,_,_]) rfl rfl (bool_is hs71) (wO rfl (wl_nil (we_x [0,1,2,3,4,5] [8,8,5,5,7,1,8,3] rfl rfl (xP hok 26 rfl (xS hok 27 rfl (wP rfl (wl_nil ?_)))))))))))))
           refine we_x [0,1,2,3,4,5] [] rfl rfl (wx_done hok rfl ?_)
           have hE := (Option.some.inj hm).symm
           refine we_pick [] rfl (H' := []) rfl ?_
           refine we_join false hE [6] rfl (asK [] rfl) rfl
         ·
          refine wc_draw [0,1,2,3,5,6,7,8,10,11,12,13,16,17,18,19,20,22,23,24,26] rfl rfl (fun hok => (xP hok 0 rfl (xP hok 1 rfl (wx_as (d := 48) (v' := .bool true) (S' := [_,_,_,_,_,_,_,_]) rfl rfl (bool_is hs48) (wx_loadH hok 2 2 0 rfl rfl rfl (freshS_eq rfl) rfl rfl rfl rfl (cs := [_,_]) rfl tS_24 tA_24 rfl rfl (wx_loadH hok 3 7 0 rfl rfl rfl (freshS_eq rfl) rfl rfl rfl rfl (cs := [_,_]) rfl tS_24 tA_24 rfl rfl (xS hok 4 rfl (wl_ownLen 3 rfl (fun hzw_2_8_f1_n _ => ?_)))))))))
          subst hzw_2_8_f1_n
          refine wl_lend [] [0,1,2,3,4,5,6,7] [3] rfl rfl rfl (freshS_eq rfl) rfl rfl fn_10 rfl (w_ropewalkkit_KeptToken_W_s N a1 w_2_8_f1_p w_2_8_f1_c v24 l2.length a1 qp2 qc3 l2 _ hc51) (fun F w hφ hh => (ask_cons (own_sli (hh _ (mem_at (k := 0) rfl))) (ask_cons (hφ _ (mem_at (k := 1) rfl)) ask_nil))) (fun _ _ _ hR => by obtain ⟨rfl, rfl, rfl⟩ := hR; exact ⟨rfl, (fun _ h => free_nil h)⟩) rfl rfl (H' := [_,_,_,_,_,_,_,_]) rfl ?_
          rintro _ _ _ ⟨rfl, rfl, rfl⟩
          refine wl_nil (we_x [0,1,2] [] rfl rfl (xP hok 5 rfl (xP hok 6 rfl (wx_as (d := 53) (v' := .bool true) (S' := [_,_,_,_,_,_,_,_,_,_,_,_,_]) rfl rfl (bool_is hs53) (wx_loadH hok 7 0 0 rfl rfl rfl (freshS_eq rfl) rfl rfl rfl rfl (cs := [_,_]) rfl tS_24 tA_24 rfl rfl (wx_loadH hok 8 6 0 rfl rfl rfl (freshS_eq rfl) rfl rfl rfl rfl (cs := [_,_]) rfl tS_24 tA_24 rfl rfl (xS hok 9 rfl (wl_ownLen 1 rfl (fun hzw_2_9_f1_n _ => ?_)))))))))
          subst hzw_2_9_f1_n
          refine wl_lend [] [0,1,2,3,4,5,6,7] [1] rfl rfl rfl (freshS_eq rfl) rfl rfl fn_10 rfl (w_ropewalkkit_KeptToken_W_s N a3 w_2_9_f1_p w_2_9_f1_c v26 l4.length a3 qp4 qc5 l4 _ hc56) (fun F w hφ hh => (ask_cons (own_sli (hh _ (mem_at (k := 0) rfl))) (ask_cons (hφ _ (mem_at (k := 0) rfl)) ask_nil))) (fun _ _ _ hR => by obtain ⟨rfl, rfl, rfl⟩ := hR; exact ⟨rfl, (fun _ h => free_nil h)⟩) rfl rfl (H' := [_,_,_,_,_,_,_,_]) rfl ?_
          rintro _ _ _ ⟨rfl, rfl, rfl⟩
          refine wl_nil (we_x [0,1,2] [7,2] rfl rfl (xP hok 10 rfl (xP hok 11 rfl (wx_as (d := 58) (v' := .bool true) (S' := [_,_,_,_,_,_,_,_,_,_,_,_,_,_,_,_,_,_]) rfl rfl (bool_is hs58) (wx_loadH hok 12 4 0 rfl rfl rfl (freshS_eq rfl) rfl rfl rfl rfl (cs := [_,_]) rfl tS_31 tA_31 rfl rfl (xP hok 13 rfl (xS hok 14 rfl (wC [] [0,1,2,3,4,5,6,7] rfl fn_6 rfl (w_ropewalklaw14_of_s N qp0 qc1 l0 _ hc61) (asK [2] rfl) rfl (H' := [_,_,_,_,_,_,_,_]) rfl ?_))))))))
          rintro _ _ _ ⟨p61_0, c61_1, c61_2, rfl, rfl, rfl⟩
          refine wl_nil (we_x [0,1,2] [5,7,1,8,3] rfl rfl (xS hok 15 rfl (wl_fact (.sli 2 R_Api_TypeD none 0 ([] : List Api_TypeD)) (fun _ _ _ => sli_none) (wl_fact (.sli 2 R_Api_TypeD none 0 ([] : List Api_TypeD)) (fun _ _ _ => sli_none) (wl_ownLen 6 rfl (fun hzc22_2 _ => ?_))))))
          subst hzc22_2
          refine wl_ownLen 0 rfl (fun hzc61_2 _ => ?_)
          subst hzc61_2
          refine wl_lend [] [0,1,2,3,4,5,6,7,8] [6,0] rfl rfl rfl (freshS_eq rfl) rfl rfl fn_11 rfl (w_ropewalkkit_SameRules_s N none 0 ([] : List Api_TypeD) p22_0 c22_1 v22 none 0 ([] : List Api_TypeD) p61_0 c61_1 v61 _ hc62) (fun F w hφ hh => (ask_cons (hφ _ (mem_at (k := 1) rfl)) (ask_cons (own_sli (hh _ (mem_at (k := 0) rfl))) (ask_cons (hφ _ (mem_at (k := 0) rfl)) (ask_cons (own_sli (hh _ (mem_at (k := 1) rfl))) ask_nil))))) (fun _ _ _ hR => by obtain ⟨rfl, rfl, rfl⟩ := hR; exact ⟨rfl, (fun _ h => free_nil h)⟩) rfl rfl (H' := [_,_,_,_,_,_,_,_,_]) rfl ?_
          rintro _ _ _ ⟨rfl, rfl, rfl⟩
          refine wl_nil (we_x [2,3,4] [7,1,8,3] rfl rfl (xP hok 16 rfl (xP hok 17 rfl (wx_as (d := 64) (v' := .bool false) (S' := [_,_,_,_,_,_,_,_,_,_,_,_,_,_,_,_,_,_,_,_,_,_,_,_]) rfl rfl (bool_is hs64) (xO hok 18 rfl (xO hok 19 rfl (xO hok 20 rfl (xS hok 21 rfl (wO rfl (wl_nil (we_x [0,1,2,3,4] [5,7,1,8,3] rfl rfl (xO hok 22 rfl (xP hok 23 rfl ?_)))))))))))))
          refine xP hok 24 rfl (xS hok 25 rfl (wO rfl (wl_nil (we_x [0,1,2,3,4] [5,7,1,8,3] rfl rfl (xP hok 26 rfl (xS hok 27 rfl (wP rfl (wl_nil (we_x [0,1,2,3,4] [] rfl rfl (wx_done hok rfl ?_))))))))))
          have hE := (Option.some.inj hm).symm
          refine we_pick [] rfl (H' := []) rfl ?_
          refine we_join false hE [6] rfl (asK [] rfl) rfl
        ·
         refine wc_draw [0,1,2,3,5,6,7,8,10,11,12,13,16,17,18,19,20,22,23,24,26] rfl rfl (fun hok => (xP hok 0 rfl (xP hok 1 rfl (wx_as (d := 48) (v' := .bool true) (S' := [_,_,_,_,_,_,_,_]) rfl rfl (bool_is hs48) (wx_loadH hok 2 2 0 rfl rfl rfl (freshS_eq rfl) rfl rfl rfl rfl (cs := [_,_]) rfl tS_24 tA_24 rfl rfl (wx_loadH hok 3 7 0 rfl rfl rfl (freshS_eq rfl) rfl rfl rfl rfl (cs := [_,_]) rfl tS_24 tA_24 rfl rfl (xS hok 4 rfl (wl_ownLen 3 rfl (fun hzw_2_8_f1_n _ => ?_)))))))))
         subst hzw_2_8_f1_n
         refine wl_lend [] [0,1,2,3,4,5,6,7] [3] rfl rfl rfl (freshS_eq rfl) rfl rfl fn_10 rfl (w_ropewalkkit_KeptToken_W_s N a1 w_2_8_f1_p w_2_8_f1_c v24 l2.length a1 qp2 qc3 l2 _ hc51) (fun F w hφ hh => (ask_cons (own_sli (hh _ (mem_at (k := 0) rfl))) (ask_cons (hφ _ (mem_at (k := 1) rfl)) ask_nil))) (fun _ _ _ hR => by obtain ⟨rfl, rfl, rfl⟩ := hR; exact ⟨rfl, (fun _ h => free_nil h)⟩) rfl rfl (H' := [_,_,_,_,_,_,_,_]) rfl ?_
         rintro _ _ _ ⟨rfl, rfl, rfl⟩
         refine wl_nil (we_x [0,1,2] [] rfl rfl (xP hok 5 rfl (xP hok 6 rfl (wx_as (d := 53) (v' := .bool true) (S' := [_,_,_,_,_,_,_,_,_,_,_,_,_]) rfl rfl (bool_is hs53) (wx_loadH hok 7 0 0 rfl rfl rfl (freshS_eq rfl) rfl rfl rfl rfl (cs := [_,_]) rfl tS_24 tA_24 rfl rfl (wx_loadH hok 8 6 0 rfl rfl rfl (freshS_eq rfl) rfl rfl rfl rfl (cs := [_,_]) rfl tS_24 tA_24 rfl rfl (xS hok 9 rfl (wl_ownLen 1 rfl (fun hzw_2_9_f1_n _ => ?_)))))))))
         subst hzw_2_9_f1_n
         refine wl_lend [] [0,1,2,3,4,5,6,7] [1] rfl rfl rfl (freshS_eq rfl) rfl rfl fn_10 rfl (w_ropewalkkit_KeptToken_W_s N a3 w_2_9_f1_p w_2_9_f1_c v26 l4.length a3 qp4 qc5 l4 _ hc56) (fun F w hφ hh => (ask_cons (own_sli (hh _ (mem_at (k := 0) rfl))) (ask_cons (hφ _ (mem_at (k := 0) rfl)) ask_nil))) (fun _ _ _ hR => by obtain ⟨rfl, rfl, rfl⟩ := hR; exact ⟨rfl, (fun _ h => free_nil h)⟩) rfl rfl (H' := [_,_,_,_,_,_,_,_]) rfl ?_
         rintro _ _ _ ⟨rfl, rfl, rfl⟩
         refine wl_nil (we_x [0,1,2] [7,2] rfl rfl (xP hok 10 rfl (xP hok 11 rfl (wx_as (d := 58) (v' := .bool false) (S' := [_,_,_,_,_,_,_,_,_,_,_,_,_,_,_,_,_,_]) rfl rfl (bool_is hs58) (xO hok 12 rfl (xO hok 13 rfl (xS hok 14 rfl (wO rfl (wl_nil (we_x [0,1,2] [6,0,7,2] rfl rfl (xS hok 15 rfl (wO rfl (wl_nil ?_)))))))))))))
         refine we_x [0,1,2] [6,0,7,2] rfl rfl (xP hok 16 rfl (xP hok 17 rfl (xO hok 18 rfl (xO hok 19 rfl (xO hok 20 rfl (xS hok 21 rfl (wO rfl (wl_nil (we_x [0,1,2] [6,0,7,2] rfl rfl (xO hok 22 rfl (xP hok 23 rfl (xP hok 24 rfl (xS hok 25 rfl ?_)))))))))))))
         refine wO rfl (wl_nil (we_x [0,1,2] [6,0,7,2] rfl rfl (xP hok 26 rfl (xS hok 27 rfl (wP rfl (wl_nil (we_x [0,1,2] [] rfl rfl (wx_done hok rfl ?_))))))))
         have hE := (Option.some.inj hm).symm
         refine we_pick [] rfl (H' := []) rfl ?_
         refine we_join false hE [6] rfl (asK [] rfl) rfl
       ·
        refine wc_draw [0,1,2,3,5,6,7,8,10,11,12,13,16,17,18,19,20,22,23,24,26] rfl rfl (fun hok => (xP hok 0 rfl (xP hok 1 rfl (wx_as (d := 48) (v' := .bool true) (S' := [_,_,_,_,_,_,_,_]) rfl rfl (bool_is hs48) (wx_loadH hok 2 2 0 rfl rfl rfl (freshS_eq rfl) rfl rfl rfl rfl (cs := [_,_]) rfl tS_24 tA_24 rfl rfl (wx_loadH hok 3 7 0 rfl rfl rfl (freshS_eq rfl) rfl rfl rfl rfl (cs := [_,_]) rfl tS_24 tA_24 rfl rfl (xS hok 4 rfl (wl_ownLen 3 rfl (fun hzw_2_8_f1_n _ => ?_)))))))))
        subst hzw_2_8_f1_n
        refine wl_lend [] [0,1,2,3,4,5,6,7] [3] rfl rfl rfl (freshS_eq rfl) rfl rfl fn_10 rfl (w_ropewalkkit_KeptToken_W_s N a1 w_2_8_f1_p w_2_8_f1_c v24 l2.length a1 qp2 qc3 l2 _ hc51) (fun F w hφ hh => (ask_cons (own_sli (hh _ (mem_at (k := 0) rfl))) (ask_cons (hφ _ (mem_at (k := 1) rfl)) ask_nil))) (fun _ _ _ hR => by obtain ⟨rfl, rfl, rfl⟩ := hR; exact ⟨rfl, (fun _ h => free_nil h)⟩) rfl rfl (H' := [_,_,_,_,_,_,_,_]) rfl ?_
        rintro _ _ _ ⟨rfl, rfl, rfl⟩
        refine wl_nil (we_x [0,1,2] [] rfl rfl (xP hok 5 rfl (xP hok 6 rfl (wx_as (d := 53) (v' := .bool false) (S' := [_,_,_,_,_,_,_,_,_,_,_,_,_]) rfl rfl (bool_is hs53) (xO hok 7 rfl (xO hok 8 rfl (xS hok 9 rfl (wO rfl (wl_nil (we_x [0,1,2] [7,2] rfl rfl (xP hok 10 rfl (xP hok 11 rfl (xO hok 12 rfl ?_)))))))))))))
        refine xO hok 13 rfl (xS hok 14 rfl (wO rfl (wl_nil (we_x [0,1,2] [7,2] rfl rfl (xS hok 15 rfl (wO rfl (wl_nil (we_x [0,1,2] [7,2] rfl rfl (xP hok 16 rfl (xP hok 17 rfl (xO hok 18 rfl (xO hok 19 rfl (xO hok 20 rfl ?_)))))))))))))
        refine xS hok 21 rfl (wO rfl (wl_nil (we_x [0,1,2] [7,2] rfl rfl (xO hok 22 rfl (xP hok 23 rfl (xP hok 24 rfl (xS hok 25 rfl (wO rfl (wl_nil (we_x [0,1,2] [7,2] rfl rfl (xP hok 26 rfl (xS hok 27 rfl (wP rfl ?_)))))))))))))
        refine wl_nil (we_x [0,1,2] [] rfl rfl (wx_done hok rfl ?_))
        have hE := (Option.some.inj hm).symm
        refine we_pick [] rfl (H' := []) rfl ?_
        refine we_join false hE [6] rfl (asK [] rfl) rfl
      ·
       refine wc_draw [0,1,2,3,5,6,7,8,10,11,12,13,16,17,18,19,20,22,23,24,26] rfl rfl (fun hok => (xP hok 0 rfl (xP hok 1 rfl (wx_as (d := 48) (v' := .bool false) (S' := [_,_,_,_,_,_,_,_]) rfl rfl (bool_is hs48) (xO hok 2 rfl (xO hok 3 rfl (xS hok 4 rfl (wO rfl (wl_nil (we_x [0,1,2] [] rfl rfl (xP hok 5 rfl (xP hok 6 rfl (xO hok 7 rfl (xO hok 8 rfl ?_))))))))))))))
       refine xS hok 9 rfl (wO rfl (wl_nil (we_x [0,1,2] [] rfl rfl (xP hok 10 rfl (xP hok 11 rfl (xO hok 12 rfl (xO hok 13 rfl (xS hok 14 rfl (wO rfl (wl_nil (we_x [0,1,2] [] rfl rfl (xS hok 15 rfl (wO rfl ?_)))))))))))))
       refine wl_nil (we_x [0,1,2] [] rfl rfl (xP hok 16 rfl (xP hok 17 rfl (xO hok 18 rfl (xO hok 19 rfl (xO hok 20 rfl (xS hok 21 rfl (wO rfl (wl_nil (we_x [0,1,2] [] rfl rfl (xO hok 22 rfl (xP hok 23 rfl (xP hok 24 rfl ?_)))))))))))))
       refine xS hok 25 rfl (wO rfl (wl_nil (we_x [0,1,2] [] rfl rfl (xP hok 26 rfl (xS hok 27 rfl (wP rfl (wl_nil (we_x [0,1,2] [] rfl rfl (wx_done hok rfl ?_)))))))))
       have hE := (Option.some.inj hm).symm
       refine we_pick [] rfl (H' := []) rfl ?_
       refine we_join false hE [6] rfl (asK [] rfl) rfl
     ·
      rintro j_4_6 hE
      try dsimp only
      have hm := hLj_4
      rw [hE] at hm
      refine wc_ret ?_
      have hE := (Option.some.inj hm).symm
      replace hE := hE.symm
      subst hE
      refine ret_one (Hr := []) [] Tryd.results3 (res_tmp rfl) ⟨rfl, rfl, rfl⟩ (asK [] rfl) rfl rfl (.inl rfl)
end Go.Proofs.YtkliokdpcdhjcaaDoor
