import Derived.Test.YtegkmbkbaenkcaaXW1
namespace Go.Proofs.Ytegkmbkbaenkcaa
open Go.RowKit
set_option maxRecDepth 100000
set_option maxHeartbeats 4000000
theorem w_ropewalklaw20_links_s (N : Nat) (qp0 : Option Addr) (qc1 : Nat) (l0 : List (Int × Int)) (qp2 : Option Addr) (qc3 : Nat) (l1 : List (Int × Int)) (o0 : Bool) (hm : m_ropewalklaw20_links N l0 l1 = some o0) : Spec Try.prog 19 [.slice qp0 l0.length qc1, .slice qp2 l1.length qc3] [.sli 2 R_a2_i64 qp0 qc1 l0, .sli 2 R_a2_i64 qp2 qc3 l1] [] (fun v Φr Hr => v = .bool o0 ∧ Φr = [] ∧ Hr = []) := by
 unfold m_ropewalklaw20_links at hm
 refine spec_of Try.func19 rfl Try.ntmps19 rfl (S := [_,_]) rfl (fun C => (wc_seq (wc_region (wP rfl (wl_nil (we_then (wc_keep [0,1] (S' := [_,_]) rfl (wc_seq (wc_seq (wc_region (wP rfl (wN rfl tE_45 (wP rfl (wN rfl tE_45 ?_))))))))))))))
 refine wP rfl (wl_as (d := 10) (v' := .bool (l0.length != l1.length)) (S' := [_,_,_,_,_,_]) rfl rfl (natne (a := l0.length) (b := l1.length)) (wl_nil (we_then (wc_keep [10,0,1] (S' := [_,_,_]) rfl ?_))))
 refine wc_cond rfl (fun hb10 => ?_) (fun hb10 => ?_)
 ·
  replace hm := iteT hm hb10
  refine wc_keep [] (S' := []) rfl (wc_seq (wc_region (wP rfl (wl_nil (we_then (wc_ret (we_then_ret ?_)))))))
  have hE := (Option.some.inj hm).symm
  replace hE := hE.symm
  subst hE
  refine ret_one (Hr := []) [] Try.results19 (res_tmp rfl) ⟨rfl, rfl, rfl⟩ (asK [] rfl) rfl rfl (.inl rfl)
 ·
  replace hm := iteF hm hb10
  refine wc_keep [0,1] (S' := [_,_]) rfl (wc_skip (we_then (wc_seq ?_)))
  obtain ⟨bj_1, hm, hLj_1⟩ := bindS_some hm
  refine wc_cut (σ := Unit) (fun _ => bj_1 = .inl ()) (fun _ => []) (fun _ => []) (fun _ => []) ?_ ?_
  ·
   refine wc_seq (wc_region (wP rfl (wl_nil (we_then (wc_block (wc_loop (σ := Nat × Nat) (fun (nu1, u1_5) => iter (m_ropewalklaw20_links_L1 N l0 l1) nu1 u1_5 = some bj_1) (fun (nu1, u1_5) => nu1) (fun (nu1, u1_5) => [(5, .int .i64 ((u1_5 : Nat) : Int)), (0, .slice qp0 l0.length qc1), (1, .slice qp2 l1.length qc3)]) (fun (nu1, u1_5) => [.sli 2 R_a2_i64 qp0 qc1 l0, .sli 2 R_a2_i64 qp2 qc3 l1]) (fun (nu1, u1_5) => []) (N, 0) hm [5,0,1] rfl (asK [0,1] rfl) rfl (fun s_ hm => ?_)))))))
   obtain ⟨nu1, u1_5⟩ := s_
   try dsimp only at hm ⊢
   obtain ⟨mu1, bu1, hnu1, hq, hLu1⟩ := iter_some hm
   clear hm
   subst hnu1
   replace hm := hq
   clear hq
   unfold m_ropewalklaw20_links_L1 at hm
   try dsimp only at hm
   refine wc_seq (wc_seq (wc_region (wP rfl (wP rfl (wN rfl tE_45 (wP rfl (wl_as (d := 14) (v' := .bool (decide (u1_5 < l0.length))) (S' := [_,_,_,_,_,_]) rfl rfl (natlt (a := u1_5) (b := l0.length)) (wl_nil (we_then (wc_keep [14,5,0,1] (S' := [_,_,_,_]) rfl ?_))))))))))
   refine wc_cond rfl (fun hb14 => ?_) (fun hb14 => ?_)
   ·
    replace hm := iteT hm hb14
    refine wc_keep [5,0,1] (S' := [_,_,_]) rfl (wc_skip (we_then (wc_seq (wc_block (wc_seq ?_)))))
    obtain ⟨x19, hx19, hm⟩ := bindO_some hm
    obtain ⟨x23, hx23, hm⟩ := bindO_some hm
    refine wc_draw [0,1,2,3,4,5,6,7,8] rfl rfl (fun hok => (xP hok 0 rfl (xP hok 1 rfl (wx_indexA hok 2 0 u1_5 rfl rfl rfl (freshS_eq rfl) rfl rfl rfl rfl rfl rfl hx19 tE_45 tS_48 (fun b19 q19 cs19 hlx19 => (wx_openR R_a2_i64_opens 1 rfl (fun r19 er19 _ => ?_)))))))
    subst er19
    refine wx_load hok 3 0 0 rfl rfl rfl (freshS_eq rfl) rfl rfl rfl rfl (cs := [_,_]) rfl tS_48 tA_48 rfl rfl (xP hok 4 rfl (xP hok 5 rfl (wx_indexA hok 6 3 u1_5 rfl rfl rfl (freshS_eq rfl) rfl rfl rfl rfl rfl rfl hx23 tE_45 tS_48 (fun b23 q23 cs23 hlx23 => (wx_openR R_a2_i64_opens 1 rfl (fun r23 er23 _ => ?_))))))
    subst er23
    refine wx_load hok 7 0 0 rfl rfl rfl (freshS_eq rfl) rfl rfl rfl rfl (cs := [_,_]) rfl tS_48 tA_48 rfl rfl (wx_bin hok 8 rfl rfl rfl (freshS_eq rfl) rfl rfl rfl rfl (neqD_48 _ _ x19.1 x19.2 x23.1 x23.2) (wx_done hok rfl (we_then (wc_keep [25,5,0,1] (S' := [_,_,_,_]) rfl ?_))))
    refine wc_cond rfl (fun hb25 => ?_) (fun hb25 => ?_)
    ·
     replace hm := iteT hm hb25
     refine wc_keep [] (S' := []) rfl (wc_seq (wc_region (wP rfl (wl_nil (we_then (wc_ret (we_block_ret (we_then_ret (we_then_ret (we_block_ret (we_then_ret ?_)))))))))))
     have hE := (Option.some.inj hm).symm
     replace hE := link_inr hLu1 hE
     replace hE := link_inr hLj_1 hE
     replace hE := hE.symm
     subst hE
     refine ret_one (Hr := []) [] Try.results19 (res_tmp rfl) ⟨rfl, rfl, rfl⟩ (asK [] rfl) rfl rfl (.inl rfl)
    ·
     replace hm := iteF hm hb25
     refine wc_keep [5,0,1] (S' := [_,_,_]) rfl (wc_skip (we_block_normal (we_then (wc_region (wP rfl (wP rfl ?_))))))
     obtain ⟨hg16, hm⟩ := gd_some hm
     refine wl_as (d := 16) (v' := .int .i64 ((u1_5 + 1 : Nat) : Int)) (S' := [_,_,_,_]) rfl rfl (nat_add (a := u1_5) (b := 1) hg16) (wl_pure (S' := [_,_,_,_]) rfl rfl rfl rfl rfl (wl_nil ?_))
     have hE := (Option.some.inj hm).symm
     replace hE := link_inl hLu1 hE
     refine we_roundK (_, u1_5 + 1) (Nat.lt_succ_self _) hE [5,0,1] rfl (asK [4,5] rfl) rfl
   ·
    replace hm := iteF hm hb14
    refine wc_keep [] (S' := []) rfl (wc_exit (we_then_exit (we_then_exit (we_block_hit ?_))))
    have hE := (Option.some.inj hm).symm
    replace hE := link_inr hLu1 hE
    refine we_join () hE [] rfl (asK [] rfl) rfl
  ·
   rintro _ hE
   try dsimp only
   have hm := link_inl hLj_1 hE
   try dsimp only at hm
   refine wc_seq (wc_region (wP rfl (wl_nil (we_then (wc_ret ?_)))))
   have hE := (Option.some.inj hm).symm
   replace hE := hE.symm
   subst hE
   refine ret_one (Hr := []) [] Try.results19 (res_tmp rfl) ⟨rfl, rfl, rfl⟩ (asK [] rfl) rfl rfl (.inl rfl)
theorem w_ropewalklaw20_awake_s (N : Nat)  (o0 : Bool) (hm : m_ropewalklaw20_awake N = some o0) : Spec Try.prog 6 [] [] [] (fun v Φr Hr => v = .bool o0 ∧ Φr = [] ∧ Hr = []) := by
 unfold m_ropewalklaw20_awake at hm
 refine spec_of Try.func6 rfl Try.ntmps6 rfl (S := []) rfl (fun C => (wc_seq (wc_region (wP rfl (wl_nil (we_then (wc_keep [] (S' := []) rfl (wc_seq (wc_region ?_)))))))))
 obtain ⟨_, hc9, hm⟩ := bindO_some hm
 try dsimp only at hm
 refine wC [] [] rfl fn_7 rfl (w_net_New_s N  hc9) (asK [] rfl) rfl (H' := []) rfl ?_
 rintro _ _ _ ⟨c9_0, c9_1, rfl, rfl, rfl⟩
 refine wP rfl (wl_nil (we_then (wc_keep [1] (S' := [_]) rfl (wc_seq ?_))))
 obtain ⟨bj_1, hm, hLj_1⟩ := bindO_some hm
 unfold m_ropewalklaw20_awake_C1 at hm
 refine wc_cut (σ := (List ((Int × Int) × List (List Int))) × Bool) (fun (j_1_1_f0_m, j_1_2) => bj_1 = (j_1_1_f0_m, j_1_2)) (fun (j_1_1_f0_m, j_1_2) => [(1, .pointer (some ⟨c9_0,0, none⟩)), (2, .bool j_1_2)]) (fun (j_1_1_f0_m, j_1_2) => []) (fun (j_1_1_f0_m, j_1_2) => [.blk c9_0 [.map (some c9_1)] 54, mapG (keyOfK pairKey57) (Fact.own 28 1 R_l_u8) none c9_1 j_1_1_f0_m]) ?_ ?_
 ·
  refine wc_region (wP rfl (wl_buildSlice rfl rfl rfl (freshS_eq rfl) rfl tE_28 tS_5 tZ_5 rfl (zs := [.int .u8 0]) (by kernel_rfl) rfl (out := [_]) rfl (fun g11 => (wl_row (sz := 1) (m := 1) R_u8 [120] 0 rfl (fun F w hφ => ⟨[.int .u8 120],[], rfl, rfl, ⟨(), rfl, ask_nil⟩, rfl⟩) rfl (by decide) (H' := [_,_,_]) rfl (wl_markRow 0 rfl rfl rfl (freshS_eq rfl) rfl rfl rfl rfl tD_28 tD_5 mkRep_free (H' := [.blk c9_0 [.map (some c9_1)] 54, mapG (keyOfK pairKey57) (Fact.own 28 1 R_l_u8) none c9_1 ([] : List ((Int × Int) × List (List Int)))]) rfl ?_)))))
  obtain ⟨⟨v13_0, v13_1⟩, hc13, hm⟩ := bindO_some hm
  try dsimp only at hm
  refine wC [0,1] [] rfl fn_13 rfl (w_net_Net_Send_s N c9_0 c9_1 ([] : List ((Int × Int) × List (List Int))) 1 2 (some ⟨g11,0, none⟩) 1 [120] _ _ hc13) (asK [0] rfl) rfl (H' := []) rfl ?_
  rintro _ _ _ ⟨rfl, rfl, rfl⟩
  refine wP rfl (wl_as (d := 14) (v' := .bool (v13_0 == 0)) (S' := [_,_,_,_,_]) rfl rfl (nateq (a := v13_0) (b := 0)) (wP rfl ?_))
  refine wl_split (d := 15) (S' := [_,_,_,_,_,_]) rfl rfl (fun hs15 => ?_) (fun hs15 => ?_)
  ·
   replace hm := iteT hm hs15
   refine wP rfl (wl_buildSlice rfl rfl rfl (freshS_eq rfl) rfl tE_28 tS_5 tZ_5 rfl (zs := [.int .u8 0]) (by kernel_rfl) rfl (out := [_]) rfl (fun g17 => (wl_row (sz := 1) (m := 1) R_u8 [121] 0 rfl (fun F w hφ => ⟨[.int .u8 121],[], rfl, rfl, ⟨(), rfl, ask_nil⟩, rfl⟩) rfl (by decide) (H' := [_,_,_]) rfl (wl_markRow 0 rfl rfl rfl (freshS_eq rfl) rfl rfl rfl rfl tD_28 tD_5 mkRep_free (H' := [.blk c9_0 [.map (some c9_1)] 54, mapG (keyOfK pairKey57) (Fact.own 28 1 R_l_u8) none c9_1 v13_1]) rfl ?_))))
   obtain ⟨⟨v19_0, v19_1⟩, hc19, hm⟩ := bindO_some hm
   try dsimp only at hm
   refine wC [0,1] [] rfl fn_13 rfl (w_net_Net_Send_s N c9_0 c9_1 v13_1 1 2 (some ⟨g17,0, none⟩) 1 [121] _ _ hc19) (asK [0] rfl) rfl (H' := []) rfl ?_
   rintro _ _ _ ⟨rfl, rfl, rfl⟩
   refine wP rfl (wl_as (d := 20) (v' := .bool (v19_0 == 0)) (S' := [_,_,_,_,_,_,_,_,_,_,_]) rfl rfl (nateq (a := v19_0) (b := 0)) (wP rfl (wP rfl ?_)))
   refine wl_split (d := 22) (S' := [_,_,_,_,_,_,_,_,_,_,_,_,_]) rfl rfl (fun hs22 => ?_) (fun hs22 => ?_)
   ·
    replace hm := iteT hm hs22
    refine wP rfl ?_
    obtain ⟨v24, hc24, hm⟩ := bindO_some hm
    refine wC [0,1] [] rfl fn_15 rfl (w_net_Net_Count_s N c9_0 c9_1 v19_1 1 2 _ hc24) (asK [] rfl) rfl (H' := []) rfl ?_
    rintro _ _ _ ⟨rfl, rfl, rfl⟩
    refine wP rfl (wl_as (d := 25) (v' := .bool (v24 == 2)) (S' := [_,_,_,_,_,_,_,_,_,_,_,_,_,_,_,_]) rfl rfl (nateq (a := v24) (b := 2)) (wP rfl (wP rfl ?_)))
    refine wl_split (d := 27) (S' := [_,_,_,_,_,_,_,_,_,_,_,_,_,_,_,_,_,_]) rfl rfl (fun hs27 => ?_) (fun hs27 => ?_)
    ·
     replace hm := iteT hm hs27
     refine wP rfl ?_
     obtain ⟨v29, hc29, hm⟩ := bindO_some hm
     refine wC [0,1] [] rfl fn_15 rfl (w_net_Net_Count_s N c9_0 c9_1 v19_1 2 1 _ hc29) (asK [] rfl) rfl (H' := []) rfl ?_
     rintro _ _ _ ⟨rfl, rfl, rfl⟩
     refine wP rfl (wl_as (d := 30) (v' := .bool (v29 == 0)) (S' := [_,_,_,_,_,_,_,_,_,_,_,_,_,_,_,_,_,_,_,_,_]) rfl rfl (nateq (a := v29) (b := 0)) (wP rfl (wP rfl ?_)))
     refine wl_split (d := 32) (S' := [_,_,_,_,_,_,_,_,_,_,_,_,_,_,_,_,_,_,_,_,_,_,_]) rfl rfl (fun hs32 => ?_) (fun hs32 => ?_)
     ·
      replace hm := iteT hm hs32
      refine wP rfl ?_
      obtain ⟨v34, hc34, hm⟩ := bindO_some hm
      refine wC [0,1] [] rfl fn_20 rfl (w_net_Net_Links_s N c9_0 c9_1 v19_1 _ hc34) (asK [] rfl) rfl (H' := []) rfl ?_
      rintro _ _ _ ⟨p34_0, c34_1, c34_2, rfl, rfl, rfl⟩
      refine wl_buildArr rfl rfl rfl (freshS_eq rfl) rfl tZ_48 tArr_48 rfl (out := [_,_]) rfl (wl_buildSlice rfl rfl rfl (freshS_eq rfl) rfl tE_45 tS_48 tZ_48 rfl (zs := [.int .i64 0, .int .i64 0]) (by kernel_rfl) rfl (out := [_,_]) rfl (fun g36 => (wl_row (sz := 2) (m := 1) R_a2_i64 ([(1,2)]) 0 rfl (fun F w hφ => ⟨[.int .i64 1, .int .i64 2],[], rfl, rfl, ⟨(), rfl, ask_nil⟩, rfl⟩) rfl (by decide) (H' := [_,_,_,_]) rfl (wl_ownLen 1 rfl (fun hzc34_2 _ => ?_)))))
      subst hzc34_2
      obtain ⟨v37, hc37, hm⟩ := bindO_some hm
      refine wl_lend [] [0,1,2,3] [1,0] rfl rfl rfl (freshS_eq rfl) rfl rfl fn_19 rfl (w_ropewalklaw20_links_s N p34_0 c34_1 v34 (some ⟨g36,0, none⟩) 1 [(1,2)] _ hc37) (fun F w hφ hh => (ask_cons (own_sli (hh _ (mem_at (k := 0) rfl))) (ask_cons (own_sli (hh _ (mem_at (k := 1) rfl))) ask_nil))) (fun _ _ _ hR => by obtain ⟨rfl, rfl, rfl⟩ := hR; exact ⟨rfl, (fun _ h => free_nil h)⟩) rfl rfl (H' := [_,_,_,_]) rfl ?_
      rintro _ _ _ ⟨rfl, rfl, rfl⟩
      refine wP rfl (wP rfl ?_)
      refine wl_split (d := 39) (S' := [_,_,_,_,_,_,_,_,_,_,_,_,_,_,_,_,_,_,_,_,_,_,_,_,_,_,_,_,_,_]) rfl rfl (fun hs39 => ?_) (fun hs39 => ?_)
      ·
       replace hm := iteT hm hs39
       refine wP rfl ?_
       obtain ⟨⟨v41_0, v41_1⟩, hc41, hm⟩ := bindO_some hm
       try dsimp only at hm
       refine wC [2,3] [0,1] rfl fn_12 rfl (w_net_Net_Double_s N c9_0 c9_1 v19_1 1 2 0 _ _ hc41) (asK [] rfl) rfl (H' := [_,_]) rfl ?_
       rintro _ _ _ ⟨rfl, rfl, rfl⟩
       refine wP rfl (wl_as (d := 42) (v' := .bool (v41_0 == 0)) (S' := [_,_,_,_,_,_,_,_,_,_,_,_,_,_,_,_,_,_,_,_,_,_,_,_,_,_,_,_,_,_,_,_,_]) rfl rfl (nateq (a := v41_0) (b := 0)) (wP rfl (wP rfl (wl_nil ?_))))
       have hE := (Option.some.inj hm).symm
       refine we_pick [0,1] rfl (H' := [_,_]) rfl ?_
       refine we_join (v41_1, v41_0 == 0) hE [1,2] rfl (asK [] rfl) rfl
      ·
       replace hm := iteF hm hs39
       refine wO rfl (wO rfl (wO rfl (wP rfl (wP rfl (wl_nil ?_)))))
       have hE := (Option.some.inj hm).symm
       refine we_pick [2,3] rfl (H' := [_,_]) rfl ?_
       refine we_join (v19_1, false) hE [1,2] rfl (asK [] rfl) rfl
     ·
      replace hm := iteF hm hs32
      refine wO rfl (wO rfl (wO rfl (wO rfl (wO rfl (wP rfl (wP rfl (wO rfl (wO rfl (wO rfl (wP rfl (wP rfl (wl_nil ?_))))))))))))
      have hE := (Option.some.inj hm).symm
      refine we_join (v19_1, false) hE [1,2] rfl (asK [] rfl) rfl
    ·
     replace hm := iteF hm hs27
     refine wO rfl (wO rfl (wO rfl (wP rfl (wP rfl (wO rfl (wO rfl (wO rfl (wO rfl (wO rfl (wP rfl (wP rfl (wO rfl (wO rfl ?_)))))))))))))
     refine wO rfl (wP rfl (wP rfl (wl_nil ?_)))
     have hE := (Option.some.inj hm).symm
     refine we_join (v19_1, false) hE [1,2] rfl (asK [] rfl) rfl
   ·
    replace hm := iteF hm hs22
    refine wO rfl (wO rfl (wO rfl (wP rfl (wP rfl (wO rfl (wO rfl (wO rfl (wP rfl (wP rfl (wO rfl (wO rfl (wO rfl (wO rfl ?_)))))))))))))
    refine wO rfl (wP rfl (wP rfl (wO rfl (wO rfl (wO rfl (wP rfl (wP rfl (wl_nil ?_))))))))
    have hE := (Option.some.inj hm).symm
    refine we_join (v19_1, false) hE [1,2] rfl (asK [] rfl) rfl
  ·
   replace hm := iteF hm hs15
   refine wO rfl (wO rfl (wO rfl (wO rfl (wO rfl (wP rfl (wP rfl (wO rfl (wO rfl (wO rfl (wP rfl (wP rfl (wO rfl (wO rfl ?_)))))))))))))
   refine wO rfl (wP rfl (wP rfl (wO rfl (wO rfl (wO rfl (wO rfl (wO rfl (wP rfl (wP rfl (wO rfl (wO rfl (wO rfl (wP rfl ?_)))))))))))))
   refine wP rfl (wl_nil ?_)
   have hE := (Option.some.inj hm).symm
   refine we_join (v13_1, false) hE [1,2] rfl (asK [] rfl) rfl
 ·
  rintro ⟨j_1_1_f0_m, j_1_2⟩ hE
  try dsimp only
  have hm := hLj_1
  rw [hE] at hm
  try dsimp only at hm
  refine wc_seq (wc_region (wP rfl ?_))
  obtain ⟨⟨v46_0, v46_1, v46_2⟩, hc46, hm⟩ := bindO_some hm
  try dsimp only at hm
  refine wC [0,1] [] rfl fn_9 rfl (w_net_Net_Take_s N c9_0 c9_1 j_1_1_f0_m 1 2 0 _ _ _ hc46) (asK [] rfl) rfl (H' := []) rfl ?_
  rintro _ _ _ ⟨p46_0, c46_1, rfl, rfl, rfl⟩
  refine wP rfl (wP rfl (wP rfl (wP rfl (wP rfl (wl_nil (we_then (wc_keep [4,3,1,2] (S' := [_,_,_,_]) rfl (wc_seq (wc_region (wP rfl ?_))))))))))
  obtain ⟨⟨v51_0, v51_1, v51_2⟩, hc51, hm⟩ := bindO_some hm
  try dsimp only at hm
  refine wC [0,1] [] rfl fn_9 rfl (w_net_Net_Take_s N c9_0 c9_1 v46_2 1 2 1 _ _ _ hc51) (asK [] rfl) rfl (H' := []) rfl ?_
  rintro _ _ _ ⟨p51_0, c51_1, rfl, rfl, rfl⟩
  refine wP rfl (wP rfl (wP rfl (wP rfl (wP rfl (wl_nil (we_then (wc_keep [6,5,4,3,1,2] (S' := [_,_,_,_,_,_]) rfl (wc_seq (wc_region (wP rfl ?_))))))))))
  obtain ⟨⟨v56_0, v56_1, v56_2⟩, hc56, hm⟩ := bindO_some hm
  try dsimp only at hm
  refine wC [0,1] [] rfl fn_9 rfl (w_net_Net_Take_s N c9_0 c9_1 v51_2 1 2 1 _ _ _ hc56) (asK [] rfl) rfl (H' := []) rfl ?_
  rintro _ _ _ ⟨p56_0, c56_1, rfl, rfl, rfl⟩
  refine wP rfl (wP rfl (wP rfl (wP rfl (wP rfl (wl_nil (we_then (wc_keep [8,6,5,4,3,1,2] (S' := [_,_,_,_,_,_,_]) rfl (wc_seq ?_))))))))
  obtain ⟨bj_2, hm, hLj_2⟩ := bindO_some hm
  unfold m_ropewalklaw20_awake_C2 at hm
  refine wc_cut (σ := Bool) (fun j_2_0 => bj_2 = j_2_0) (fun j_2_0 => [(0, .bool j_2_0)]) (fun j_2_0 => []) (fun j_2_0 => []) ?_ ?_
  ·
   refine wc_region (wP rfl (wP rfl ?_))
   refine wl_split (d := 60) (S' := [_,_,_,_,_,_,_,_]) rfl rfl (fun hs60 => ?_) (fun hs60 => ?_)
   ·
    replace hm := iteT hm hs60
    refine wP rfl (wP rfl (wl_as (d := 62) (v' := .bool (v46_1 == 0)) (S' := [_,_,_,_,_,_,_,_,_,_]) rfl rfl (nateq (a := v46_1) (b := 0)) (wP rfl (wP rfl ?_))))
    refine wl_split (d := 64) (S' := [_,_,_,_,_,_,_,_,_,_,_,_]) rfl rfl (fun hs64 => ?_) (fun hs64 => ?_)
    ·
     replace hm := iteT hm hs64
     refine wP rfl (wP rfl (wl_as (d := 66) (v' := .bool (v51_1 == 0)) (S' := [_,_,_,_,_,_,_,_,_,_,_,_,_,_]) rfl rfl (nateq (a := v51_1) (b := 0)) (wP rfl (wP rfl ?_))))
     refine wl_split (d := 68) (S' := [_,_,_,_,_,_,_,_,_,_,_,_,_,_,_,_]) rfl rfl (fun hs68 => ?_) (fun hs68 => ?_)
     ·
      replace hm := iteT hm hs68
      refine wP rfl (wP rfl (wl_as (d := 70) (v' := .bool (v56_1 == 6)) (S' := [_,_,_,_,_,_,_,_,_,_,_,_,_,_,_,_,_,_]) rfl rfl (nateq (a := v56_1) (b := 6)) (wP rfl (wP rfl ?_))))
      refine wl_split (d := 72) (S' := [_,_,_,_,_,_,_,_,_,_,_,_,_,_,_,_,_,_,_,_]) rfl rfl (fun hs72 => ?_) (fun hs72 => ?_)
      ·
       replace hm := iteT hm hs72
       refine wP rfl (wl_bytesStr 2 rfl rfl rfl (freshS_eq rfl) rfl rfl rfl tD_28 tD_5 tD_9 (fun _ _ _ _ h => by obtain ⟨_, h, _⟩ := h; exact h) (wP rfl (wP rfl (wP rfl ?_))))
       refine wl_split (d := 77) (S' := [_,_,_,_,_,_,_,_,_,_,_,_,_,_,_,_,_,_,_,_,_,_,_,_,_]) rfl rfl (fun hs77 => ?_) (fun hs77 => ?_)
       ·
        replace hm := iteT hm hs77
        refine wP rfl (wl_bytesStr 1 rfl rfl rfl (freshS_eq rfl) rfl rfl rfl tD_28 tD_5 tD_9 (fun _ _ _ _ h => by obtain ⟨_, h, _⟩ := h; exact h) (wP rfl (wP rfl (wP rfl ?_))))
        refine wl_split (d := 82) (S' := [_,_,_,_,_,_,_,_,_,_,_,_,_,_,_,_,_,_,_,_,_,_,_,_,_,_,_,_,_,_]) rfl rfl (fun hs82 => ?_) (fun hs82 => ?_)
        ·
         replace hm := iteT hm hs82
         refine wP rfl ?_
         obtain ⟨v84, hc84, hm⟩ := bindO_some hm
         refine wC [0,1] [] rfl fn_15 rfl (w_net_Net_Count_s N c9_0 c9_1 v56_2 1 2 _ hc84) (asK [] rfl) rfl (H' := []) rfl ?_
         rintro _ _ _ ⟨rfl, rfl, rfl⟩
         refine wP rfl (wl_as (d := 85) (v' := .bool (v84 == 1)) (S' := [_,_,_,_,_,_,_,_,_,_,_,_,_,_,_,_,_,_,_,_,_,_,_,_,_,_,_,_,_,_,_,_,_]) rfl rfl (nateq (a := v84) (b := 1)) (wP rfl (wP rfl (wl_nil ?_))))
         have hE := (Option.some.inj hm).symm
         refine we_pick [] rfl (H' := []) rfl ?_
         refine we_join (v84 == 1) hE [0] rfl (asK [] rfl) rfl
        ·
         replace hm := iteF hm hs82
         refine wO rfl (wO rfl (wO rfl (wP rfl (wP rfl (wl_nil ?_)))))
         have hE := (Option.some.inj hm).symm
         refine we_pick [] rfl (H' := []) rfl ?_
         refine we_join false hE [0] rfl (asK [] rfl) rfl
       ·
        replace hm := iteF hm hs77
        refine wO rfl (wO rfl (wO rfl (wP rfl (wP rfl (wO rfl (wO rfl (wO rfl (wP rfl (wP rfl (wl_nil ?_))))))))))
        have hE := (Option.some.inj hm).symm
        refine we_pick [] rfl (H' := []) rfl ?_
        refine we_join false hE [0] rfl (asK [] rfl) rfl
      ·
       replace hm := iteF hm hs72
       refine wO rfl (wO rfl (wO rfl (wP rfl (wP rfl (wO rfl (wO rfl (wO rfl (wP rfl (wP rfl (wO rfl (wO rfl (wO rfl (wP rfl ?_)))))))))))))
       refine wP rfl (wl_nil ?_)
       have hE := (Option.some.inj hm).symm
       refine we_pick [] rfl (H' := []) rfl ?_
       refine we_join false hE [0] rfl (asK [] rfl) rfl
     ·
      replace hm := iteF hm hs68
      refine wO rfl (wO rfl (wP rfl (wP rfl (wO rfl (wO rfl (wO rfl (wP rfl (wP rfl (wO rfl (wO rfl (wO rfl (wP rfl (wP rfl ?_)))))))))))))
      refine wO rfl (wO rfl (wO rfl (wP rfl (wP rfl (wl_nil ?_)))))
      have hE := (Option.some.inj hm).symm
      refine we_pick [] rfl (H' := []) rfl ?_
      refine we_join false hE [0] rfl (asK [] rfl) rfl
    ·
     replace hm := iteF hm hs64
     refine wO rfl (wO rfl (wP rfl (wP rfl (wO rfl (wO rfl (wP rfl (wP rfl (wO rfl (wO rfl (wO rfl (wP rfl (wP rfl (wO rfl ?_)))))))))))))
     refine wO rfl (wO rfl (wP rfl (wP rfl (wO rfl (wO rfl (wO rfl (wP rfl (wP rfl (wl_nil ?_)))))))))
     have hE := (Option.some.inj hm).symm
     refine we_pick [] rfl (H' := []) rfl ?_
     refine we_join false hE [0] rfl (asK [] rfl) rfl
   ·
    replace hm := iteF hm hs60
    refine wO rfl (wO rfl (wP rfl (wP rfl (wO rfl (wO rfl (wP rfl (wP rfl (wO rfl (wO rfl (wP rfl (wP rfl (wO rfl (wO rfl ?_)))))))))))))
    refine wO rfl (wP rfl (wP rfl (wO rfl (wO rfl (wO rfl (wP rfl (wP rfl (wO rfl (wO rfl (wO rfl (wP rfl (wP rfl (wl_nil ?_)))))))))))))
    have hE := (Option.some.inj hm).symm
    refine we_pick [] rfl (H' := []) rfl ?_
    refine we_join false hE [0] rfl (asK [] rfl) rfl
  ·
   rintro j_2_0 hE
   try dsimp only
   have hm := hLj_2
   rw [hE] at hm
   refine wc_ret ?_
   have hE := (Option.some.inj hm).symm
   replace hE := hE.symm
   subst hE
   refine ret_one (Hr := []) [] Try.results6 (res_tmp rfl) ⟨rfl, rfl, rfl⟩ (asK [] rfl) rfl rfl (.inl rfl)
theorem w_ropewalklaw20_NetLives_s (N : Nat) (qp0 : Option Addr) (qc1 : Nat) (l0 : List Ropewalklaw20_DoD) (o0 : Bool) (hm : m_ropewalklaw20_NetLives N l0 = some o0) : Spec Try.prog 4 [.slice qp0 l0.length qc1] [.sli 5 R_Ropewalklaw20_DoD qp0 qc1 l0] [] (fun v Φr Hr => v = .bool o0 ∧ Φr = [] ∧ Hr = []) := by
 unfold m_ropewalklaw20_NetLives at hm
 refine spec_of Try.func4 rfl Try.ntmps4 rfl (S := [_]) rfl (fun C => (wc_seq (wc_region (wP rfl (wl_nil (we_then (wc_keep [0] (S' := [_]) rfl (wc_seq ?_))))))))
 obtain ⟨bj_1, hm, hLj_1⟩ := bindO_some hm
 refine wc_cut (σ := (List Ropewalklaw20_DoD) × (Option Addr)) (fun (j_1_0_l, j_1_0_p) => bj_1 = j_1_0_l) (fun (j_1_0_l, j_1_0_p) => [(0, .slice j_1_0_p j_1_0_l.length qc1)]) (fun (j_1_0_l, j_1_0_p) => [.sli 5 R_Ropewalklaw20_DoD j_1_0_p qc1 j_1_0_l]) (fun (j_1_0_l, j_1_0_p) => []) ?_ ?_
 ·
  refine wc_seq (wc_region (wP rfl (wN rfl tE_22 (wP rfl (wl_as (d := 9) (v' := .bool (decide (200 < l0.length))) (S' := [_,_,_]) rfl rfl (natgt (a := l0.length) (b := 200)) (wl_nil (we_then (wc_keep [9,0] (S' := [_,_]) rfl ?_))))))))
  refine wc_cond rfl (fun hb9 => ?_) (fun hb9 => ?_)
  ·
   replace hm := iteT hm hb9
   refine wc_keep [0] (S' := [_]) rfl (wc_region (wP rfl ?_))
   obtain ⟨hg11, hm⟩ := gd_some hm
   refine wl_sliTo 0 rfl rfl rfl (freshS_eq rfl) rfl rfl rfl rfl rfl tE_22 tS_30 hg11 (fun p11 => (wl_pure (S' := [_,_]) rfl rfl rfl rfl rfl (wl_nil ?_)))
   have hE := (Option.some.inj hm).symm
   refine we_join (l0.take 200, p11) hE [0] rfl (asK [0] rfl) rfl
  ·
   replace hm := iteF hm hb9
   refine wc_keep [0] (S' := [_]) rfl (wc_skip ?_)
   have hE := (Option.some.inj hm).symm
   refine we_join (l0, qp0) hE [0] rfl (asK [0] rfl) rfl
 ·
  rintro ⟨j_1_0_l, j_1_0_p⟩ hE
  try dsimp only
  have hm := hLj_1
  rw [hE] at hm
  refine wc_seq (wc_region ?_)
  obtain ⟨_, hc12, hm⟩ := bindO_some hm
  try dsimp only at hm
  refine wC [] [] rfl fn_7 rfl (w_net_New_s N  hc12) (asK [] rfl) rfl (H' := []) rfl ?_
  rintro _ _ _ ⟨c12_0, c12_1, rfl, rfl, rfl⟩
  obtain ⟨_, hc13, hm⟩ := bindO_some hm
  try dsimp only at hm
  refine wC [] [0,1] rfl fn_16 rfl (w_ropewalkref20_New_s N  hc13) (asK [] rfl) rfl (H' := [_,_]) rfl ?_
  rintro _ _ _ ⟨c13_0, rfl, rfl, rfl⟩
  refine wP rfl (wP rfl (wl_nil (we_then (wc_keep [4,3,0] (S' := [_,_,_]) rfl (wc_seq ?_)))))
  obtain ⟨bj_2, hm, hLj_2⟩ := bindS_some hm
  refine wc_cut (σ := Unit) (fun _ => bj_2 = .inl ()) (fun _ => []) (fun _ => []) (fun _ => []) ?_ ?_
  ·
   refine wc_seq (wc_region (wP rfl (wl_nil (we_then (wc_block (wc_rowNil 64 3 R_Ropewalkref20_packetD (wc_pick [1,0,2,3] rfl (H' := [_,_,_,_]) rfl (wc_loop (σ := Nat × Nat × (List Ropewalkref20_packetD) × (List ((Int × Int) × List (List Int))) × (Option Addr) × Nat × Nat) (fun (nu1, u1_5, u1_4_f0_l, u1_3_f0_m, u1_4_f0_p, u1_4_f0_c, u1_4_f0_n) => iter (m_ropewalklaw20_NetLives_L1 N j_1_0_l) nu1 (u1_5, u1_4_f0_l, u1_3_f0_m) = some bj_2) (fun (nu1, u1_5, u1_4_f0_l, u1_3_f0_m, u1_4_f0_p, u1_4_f0_c, u1_4_f0_n) => nu1) (fun (nu1, u1_5, u1_4_f0_l, u1_3_f0_m, u1_4_f0_p, u1_4_f0_c, u1_4_f0_n) => [(5, .int .i64 ((u1_5 : Nat) : Int)), (4, .pointer (some ⟨c13_0,0, none⟩)), (3, .pointer (some ⟨c12_0,0, none⟩)), (0, .slice j_1_0_p j_1_0_l.length qc1)]) (fun (nu1, u1_5, u1_4_f0_l, u1_3_f0_m, u1_4_f0_p, u1_4_f0_c, u1_4_f0_n) => [.sli 5 R_Ropewalklaw20_DoD j_1_0_p qc1 j_1_0_l]) (fun (nu1, u1_5, u1_4_f0_l, u1_3_f0_m, u1_4_f0_p, u1_4_f0_c, u1_4_f0_n) => [.blk c13_0 [.slice u1_4_f0_p u1_4_f0_n u1_4_f0_c] 62, .own 64 3 R_Ropewalkref20_packetD (.slice u1_4_f0_p u1_4_f0_n u1_4_f0_c) u1_4_f0_l, .blk c12_0 [.map (some c12_1)] 54, mapG (keyOfK pairKey57) (Fact.own 28 1 R_l_u8) none c12_1 u1_3_f0_m]) (N, 0,[], ([] : List ((Int × Int) × List (List Int))), none, 0,0) hm [5,4,3,0] rfl (asK [0] rfl) rfl (fun s_ hm => ?_)))))))))
   obtain ⟨nu1, u1_5, u1_4_f0_l, u1_3_f0_m, u1_4_f0_p, u1_4_f0_c, u1_4_f0_n⟩ := s_
   try dsimp only at hm ⊢
   obtain ⟨mu1, bu1, hnu1, hq, hLu1⟩ := iter_some hm
   clear hm
   subst hnu1
   replace hm := hq
   clear hq
   unfold m_ropewalklaw20_NetLives_L1 at hm
   try dsimp only at hm
   refine wc_seq (wc_seq (wc_region (wP rfl (wP rfl (wN rfl tE_22 (wP rfl (wl_as (d := 17) (v' := .bool (decide (u1_5 < j_1_0_l.length))) (S' := [_,_,_,_,_,_,_]) rfl rfl (natlt (a := u1_5) (b := j_1_0_l.length)) (wl_nil (we_then (wc_keep [17,5,4,3,0] (S' := [_,_,_,_,_]) rfl ?_))))))))))
   refine wc_cond rfl (fun hb17 => ?_) (fun hb17 => ?_)
   ·
    replace hm := iteT hm hb17
    refine wc_keep [5,4,3,0] (S' := [_,_,_,_]) rfl (wc_skip (we_then (wc_seq (wc_block (wc_seq (wc_region (wP rfl (wP rfl ?_))))))))
    obtain ⟨x22, hx22, hm⟩ := bindO_some hm
    refine wl_indexA 0 u1_5 rfl rfl rfl (freshS_eq rfl) rfl rfl rfl rfl rfl hx22 tE_22 tS_30 (fun b22 q22 cs22 hlx22 => (wl_open R_Ropewalklaw20_DoD_opens 1 rfl (fun r22 er22 _ => ?_)))
    subst er22
    refine wl_load 1 0 rfl rfl rfl (freshS_eq rfl) rfl rfl rfl (cs := [_,_,_,_,_]) rfl tS_30 tA_30 rfl rfl (wl_alloc rfl rfl rfl (freshS_eq rfl) rfl tZ_30 rfl (fun g6 => (wS 0 0 rfl tS_30 (all' := [_,_,_,_,_]) rfl (H' := [_,_,_,_,_]) rfl (wl_nil (we_then (wc_keep [6,5,4,3,0] (S' := [_,_,_,_,_]) rfl (wc_seq ?_)))))))
    obtain ⟨bj_3, hm, hLj_3⟩ := bindO_some hm
    unfold m_ropewalklaw20_NetLives_C3 at hm
    refine wc_cut (σ := (List Ropewalkref20_packetD) × (List ((Int × Int) × List (List Int))) × Bool × (Option Addr) × Nat × Nat) (fun (j_3_4_f0_l, j_3_3_f0_m, j_3_66, j_3_4_f0_p, j_3_4_f0_c, j_3_4_f0_n) => bj_3 = (j_3_4_f0_l, j_3_3_f0_m, j_3_66)) (fun (j_3_4_f0_l, j_3_3_f0_m, j_3_66, j_3_4_f0_p, j_3_4_f0_c, j_3_4_f0_n) => [(5, .int .i64 ((u1_5 : Nat) : Int)), (4, .pointer (some ⟨c13_0,0, none⟩)), (3, .pointer (some ⟨c12_0,0, none⟩)), (0, .slice j_1_0_p j_1_0_l.length qc1), (66, .bool j_3_66)]) (fun (j_3_4_f0_l, j_3_3_f0_m, j_3_66, j_3_4_f0_p, j_3_4_f0_c, j_3_4_f0_n) => [.sli 5 R_Ropewalklaw20_DoD j_1_0_p qc1 j_1_0_l]) (fun (j_3_4_f0_l, j_3_3_f0_m, j_3_66, j_3_4_f0_p, j_3_4_f0_c, j_3_4_f0_n) => [.blk c13_0 [.slice j_3_4_f0_p j_3_4_f0_n j_3_4_f0_c] 62, .own 64 3 R_Ropewalkref20_packetD (.slice j_3_4_f0_p j_3_4_f0_n j_3_4_f0_c) j_3_4_f0_l, .blk c12_0 [.map (some c12_1)] 54, mapG (keyOfK pairKey57) (Fact.own 28 1 R_l_u8) none c12_1 j_3_3_f0_m]) ?_ ?_
    ·
     obtain ⟨⟨v27_0, v27_1, v27_2⟩, hc27, hm⟩ := bindO_some hm
     try dsimp only at hm
     rcases ite_some hm with ⟨hs29, hm⟩ | ⟨hs29, hm⟩
     ·
      refine wc_draw [0,1,2,4,5,6,7,8,9,10,12,13,14,15,16,18,19,20,21,22,23,24,25,27,28,29,30,31,33,34,35,36,38,41,42] rfl rfl (fun hok => (xP hok 0 rfl (xP hok 1 rfl (wx_loadH hok 2 0 0 rfl rfl rfl (freshS_eq rfl) rfl rfl rfl rfl (cs := [_,_,_,_,_]) rfl tS_30 tA_30 rfl rfl (xS hok 3 rfl (wC [3,4,1,2] [0] rfl fn_17 rfl (w_ropewalklaw20_step_s N c12_0 c12_1 u1_3_f0_m c13_0 u1_4_f0_p u1_4_f0_n u1_4_f0_c u1_4_f0_l x22.op x22.from_ x22.to_ x22.at_ r22.1 r22.2 x22.b _ _ _ hc27) (asK [0] rfl) rfl (H' := [_]) rfl ?_))))))
      rintro _ _ _ ⟨p27_0, c27_1, c27_2, rfl, rfl, rfl⟩
      refine wl_nil (we_x [0,1,2,3] [] rfl rfl (xP hok 4 rfl (xP hok 5 rfl (wx_as (d := 29) (v' := .bool true) (S' := [_,_,_,_,_,_,_,_,_,_]) rfl rfl (bool_is hs29) (xO hok 6 rfl (xO hok 7 rfl (xO hok 8 rfl (xO hok 9 rfl (xO hok 10 rfl (xO hok 12 rfl (xO hok 13 rfl (xO hok 14 rfl (xO hok 15 rfl ?_)))))))))))))
      refine xO hok 16 rfl (xS hok 11 rfl (wO rfl (wl_nil (we_x [0,1,2,3] [4] rfl rfl (xS hok 17 rfl (wO rfl (wl_nil (we_x [0,1,2,3] [4] rfl rfl (xO hok 18 rfl (xP hok 19 rfl (xP hok 20 rfl (xO hok 21 rfl (xO hok 22 rfl ?_)))))))))))))
      refine xO hok 23 rfl (xO hok 24 rfl (xO hok 25 rfl (xO hok 27 rfl (xO hok 28 rfl (xO hok 29 rfl (xO hok 30 rfl (xO hok 31 rfl (xS hok 26 rfl (wO rfl (wl_nil (we_x [0,1,2,3] [4] rfl rfl (xS hok 32 rfl (wO rfl ?_)))))))))))))
      refine wl_nil (we_x [0,1,2,3] [4] rfl rfl (xO hok 33 rfl (xP hok 34 rfl (xP hok 35 rfl (xO hok 36 rfl (xO hok 38 rfl (xS hok 37 rfl (wO rfl (wl_nil (we_x [0,1,2,3] [4] rfl rfl (xS hok 39 rfl (wO rfl (wl_nil ?_)))))))))))))
      refine we_x [0,1,2,3] [4] rfl rfl (xS hok 40 rfl (wO rfl (wl_nil (we_x [0,1,2,3] [4] rfl rfl (xO hok 41 rfl (xP hok 42 rfl (wx_done hok rfl ?_)))))))
      have hE := (Option.some.inj hm).symm
      refine we_pick [2,3,0,1] rfl (H' := [_,_,_,_]) rfl ?_
      refine we_join (v27_2, v27_1, true, p27_0, c27_1, c27_2) hE [5,4,3,0,66] rfl (asK [3] rfl) rfl
     ·
      obtain ⟨v35, hc35, hm⟩ := bindO_some hm
      obtain ⟨v41, hc41, hm⟩ := bindO_some hm
      rcases ite_some hm with ⟨hs44, hm⟩ | ⟨hs44, hm⟩
      ·
       refine wc_draw [0,1,2,4,5,6,7,8,9,10,12,13,14,15,16,18,19,20,21,22,23,24,25,27,28,29,30,31,33,34,35,36,38,41,42] rfl rfl (fun hok => (xP hok 0 rfl (xP hok 1 rfl (wx_loadH hok 2 0 0 rfl rfl rfl (freshS_eq rfl) rfl rfl rfl rfl (cs := [_,_,_,_,_]) rfl tS_30 tA_30 rfl rfl (xS hok 3 rfl (wC [3,4,1,2] [0] rfl fn_17 rfl (w_ropewalklaw20_step_s N c12_0 c12_1 u1_3_f0_m c13_0 u1_4_f0_p u1_4_f0_n u1_4_f0_c u1_4_f0_l x22.op x22.from_ x22.to_ x22.at_ r22.1 r22.2 x22.b _ _ _ hc27) (asK [0] rfl) rfl (H' := [_]) rfl ?_))))))
       rintro _ _ _ ⟨p27_0, c27_1, c27_2, rfl, rfl, rfl⟩
       refine wl_nil (we_x [0,1,2,3] [] rfl rfl (xP hok 4 rfl (xP hok 5 rfl (wx_as (d := 29) (v' := .bool false) (S' := [_,_,_,_,_,_,_,_,_,_]) rfl rfl (bool_is hs29) (xP hok 6 rfl (wx_fieldAddr hok 7 rfl rfl rfl (freshS_eq rfl) rfl rfl rfl tF_30_1 (wx_loadH hok 8 4 1 rfl rfl rfl (freshS_eq rfl) rfl rfl rfl rfl (cs := [_]) rfl tS_3 tA_3 rfl rfl (wx_fieldAddr hok 9 rfl rfl rfl (freshS_eq rfl) rfl rfl rfl tF_30_2 (wx_loadH hok 10 4 2 rfl rfl rfl (freshS_eq rfl) rfl rfl rfl rfl (cs := [_]) rfl tS_3 tA_3 rfl rfl (xP hok 12 rfl (wx_fieldAddr hok 13 rfl rfl rfl (freshS_eq rfl) rfl rfl rfl tF_30_1 (wx_loadH hok 14 4 1 rfl rfl rfl (freshS_eq rfl) rfl rfl rfl rfl (cs := [_]) rfl tS_3 tA_3 rfl rfl (wx_fieldAddr hok 15 rfl rfl rfl (freshS_eq rfl) rfl rfl rfl tF_30_2 ?_)))))))))))))
       refine wx_loadH hok 16 4 2 rfl rfl rfl (freshS_eq rfl) rfl rfl rfl rfl (cs := [_]) rfl tS_3 tA_3 rfl rfl (xS hok 11 rfl (wC [0,1] [2,3,4] rfl fn_15 rfl (w_net_Net_Count_s N c12_0 c12_1 v27_1 x22.from_ x22.to_ _ hc35) (asK [] rfl) rfl (H' := [_,_,_]) rfl ?_))
       rintro _ _ _ ⟨rfl, rfl, rfl⟩
       refine wl_nil (we_x [0,1,2,3] [4,4,4] rfl rfl (xS hok 17 rfl (wC [2,3] [0,1,4] rfl fn_18 rfl (w_ropewalkref20_Net_Count_s N c13_0 p27_0 c27_2 c27_1 v27_2 x22.from_ x22.to_ _ hc41) (asK [] rfl) rfl (H' := [_,_,_]) rfl ?_)))
       rintro _ _ _ ⟨rfl, rfl, rfl⟩
       refine wl_nil (we_x [0,1,2,3] [4,4,4] rfl rfl (xP hok 18 rfl (wx_as (d := 42) (v' := .bool (v35 != v41)) (S' := [_,_,_,_,_,_,_,_,_,_,_,_,_,_,_,_,_,_,_,_,_,_,_]) rfl rfl (natne (a := v35) (b := v41)) (xP hok 19 rfl (xP hok 20 rfl (wx_as (d := 44) (v' := .bool true) (S' := [_,_,_,_,_,_,_,_,_,_,_,_,_,_,_,_,_,_,_,_,_,_,_,_,_]) rfl rfl (bool_is hs44) (xO hok 21 rfl (xO hok 22 rfl (xO hok 23 rfl (xO hok 24 rfl (xO hok 25 rfl (xO hok 27 rfl (xO hok 28 rfl ?_)))))))))))))
       refine xO hok 29 rfl (xO hok 30 rfl (xO hok 31 rfl (xS hok 26 rfl (wO rfl (wl_nil (we_x [0,1,2,3] [4,4,4,4,4] rfl rfl (xS hok 32 rfl (wO rfl (wl_nil (we_x [0,1,2,3] [4,4,4,4,4] rfl rfl (xO hok 33 rfl (xP hok 34 rfl (xP hok 35 rfl ?_)))))))))))))
       refine xO hok 36 rfl (xO hok 38 rfl (xS hok 37 rfl (wO rfl (wl_nil (we_x [0,1,2,3] [4,4,4,4,4] rfl rfl (xS hok 39 rfl (wO rfl (wl_nil (we_x [0,1,2,3] [4,4,4,4,4] rfl rfl (xS hok 40 rfl (wO rfl (wl_nil (we_x [0,1,2,3] [4,4,4,4,4] rfl rfl ?_)))))))))))))
       refine xO hok 41 rfl (xP hok 42 rfl (wx_done hok rfl ?_))
       have hE := (Option.some.inj hm).symm
       refine we_pick [0,1,2,3] rfl (H' := [_,_,_,_]) rfl ?_
       refine we_join (v27_2, v27_1, true, p27_0, c27_1, c27_2) hE [5,4,3,0,66] rfl (asK [3] rfl) rfl
      ·
       obtain ⟨v50, hc50, hm⟩ := bindO_some hm
       obtain ⟨v56, hc56, hm⟩ := bindO_some hm
       rcases ite_some hm with ⟨hs59, hm⟩ | ⟨hs59, hm⟩
       ·
        refine wc_draw [0,1,2,4,5,6,7,8,9,10,12,13,14,15,16,18,19,20,21,22,23,24,25,27,28,29,30,31,33,34,35,36,38,41,42] rfl rfl (fun hok => (xP hok 0 rfl (xP hok 1 rfl (wx_loadH hok 2 0 0 rfl rfl rfl (freshS_eq rfl) rfl rfl rfl rfl (cs := [_,_,_,_,_]) rfl tS_30 tA_30 rfl rfl (xS hok 3 rfl (wC [3,4,1,2] [0] rfl fn_17 rfl (w_ropewalklaw20_step_s N c12_0 c12_1 u1_3_f0_m c13_0 u1_4_f0_p u1_4_f0_n u1_4_f0_c u1_4_f0_l x22.op x22.from_ x22.to_ x22.at_ r22.1 r22.2 x22.b _ _ _ hc27) (asK [0] rfl) rfl (H' := [_]) rfl ?_))))))
        rintro _ _ _ ⟨p27_0, c27_1, c27_2, rfl, rfl, rfl⟩
        refine wl_nil (we_x [0,1,2,3] [] rfl rfl (xP hok 4 rfl (xP hok 5 rfl (wx_as (d := 29) (v' := .bool false) (S' := [_,_,_,_,_,_,_,_,_,_]) rfl rfl (bool_is hs29) (xP hok 6 rfl (wx_fieldAddr hok 7 rfl rfl rfl (freshS_eq rfl) rfl rfl rfl tF_30_1 (wx_loadH hok 8 4 1 rfl rfl rfl (freshS_eq rfl) rfl rfl rfl rfl (cs := [_]) rfl tS_3 tA_3 rfl rfl (wx_fieldAddr hok 9 rfl rfl rfl (freshS_eq rfl) rfl rfl rfl tF_30_2 (wx_loadH hok 10 4 2 rfl rfl rfl (freshS_eq rfl) rfl rfl rfl rfl (cs := [_]) rfl tS_3 tA_3 rfl rfl (xP hok 12 rfl (wx_fieldAddr hok 13 rfl rfl rfl (freshS_eq rfl) rfl rfl rfl tF_30_1 (wx_loadH hok 14 4 1 rfl rfl rfl (freshS_eq rfl) rfl rfl rfl rfl (cs := [_]) rfl tS_3 tA_3 rfl rfl (wx_fieldAddr hok 15 rfl rfl rfl (freshS_eq rfl) rfl rfl rfl tF_30_2 ?_)))))))))))))
        refine wx_loadH hok 16 4 2 rfl rfl rfl (freshS_eq rfl) rfl rfl rfl rfl (cs := [_]) rfl tS_3 tA_3 rfl rfl (xS hok 11 rfl (wC [0,1] [2,3,4] rfl fn_15 rfl (w_net_Net_Count_s N c12_0 c12_1 v27_1 x22.from_ x22.to_ _ hc35) (asK [] rfl) rfl (H' := [_,_,_]) rfl ?_))
        rintro _ _ _ ⟨rfl, rfl, rfl⟩
        refine wl_nil (we_x [0,1,2,3] [4,4,4] rfl rfl (xS hok 17 rfl (wC [2,3] [0,1,4] rfl fn_18 rfl (w_ropewalkref20_Net_Count_s N c13_0 p27_0 c27_2 c27_1 v27_2 x22.from_ x22.to_ _ hc41) (asK [] rfl) rfl (H' := [_,_,_]) rfl ?_)))
        rintro _ _ _ ⟨rfl, rfl, rfl⟩
        refine wl_nil (we_x [0,1,2,3] [4,4,4] rfl rfl (xP hok 18 rfl (wx_as (d := 42) (v' := .bool (v35 != v41)) (S' := [_,_,_,_,_,_,_,_,_,_,_,_,_,_,_,_,_,_,_,_,_,_,_]) rfl rfl (natne (a := v35) (b := v41)) (xP hok 19 rfl (xP hok 20 rfl (wx_as (d := 44) (v' := .bool false) (S' := [_,_,_,_,_,_,_,_,_,_,_,_,_,_,_,_,_,_,_,_,_,_,_,_,_]) rfl rfl (bool_is hs44) (xP hok 21 rfl (wx_fieldAddr hok 22 rfl rfl rfl (freshS_eq rfl) rfl rfl rfl tF_30_2 (wx_loadH hok 23 4 2 rfl rfl rfl (freshS_eq rfl) rfl rfl rfl rfl (cs := [_]) rfl tS_3 tA_3 rfl rfl (wx_fieldAddr hok 24 rfl rfl rfl (freshS_eq rfl) rfl rfl rfl tF_30_1 (wx_loadH hok 25 4 1 rfl rfl rfl (freshS_eq rfl) rfl rfl rfl rfl (cs := [_]) rfl tS_3 tA_3 rfl rfl (xP hok 27 rfl (wx_fieldAddr hok 28 rfl rfl rfl (freshS_eq rfl) rfl rfl rfl tF_30_2 ?_)))))))))))))
        refine wx_loadH hok 29 4 2 rfl rfl rfl (freshS_eq rfl) rfl rfl rfl rfl (cs := [_]) rfl tS_3 tA_3 rfl rfl (wx_fieldAddr hok 30 rfl rfl rfl (freshS_eq rfl) rfl rfl rfl tF_30_1 (wx_loadH hok 31 4 1 rfl rfl rfl (freshS_eq rfl) rfl rfl rfl rfl (cs := [_]) rfl tS_3 tA_3 rfl rfl (xS hok 26 rfl (wC [2,3] [0,1,4] rfl fn_15 rfl (w_net_Net_Count_s N c12_0 c12_1 v27_1 x22.to_ x22.from_ _ hc50) (asK [] rfl) rfl (H' := [_,_,_]) rfl ?_))))
        rintro _ _ _ ⟨rfl, rfl, rfl⟩
        refine wl_nil (we_x [0,1,2,3] [4,4,4,4,4,4,4] rfl rfl (xS hok 32 rfl (wC [2,3] [0,1,4] rfl fn_18 rfl (w_ropewalkref20_Net_Count_s N c13_0 p27_0 c27_2 c27_1 v27_2 x22.to_ x22.from_ _ hc56) (asK [] rfl) rfl (H' := [_,_,_]) rfl ?_)))
        rintro _ _ _ ⟨rfl, rfl, rfl⟩
        refine wl_nil (we_x [0,1,2,3] [4,4,4,4,4,4,4] rfl rfl (xP hok 33 rfl (wx_as (d := 57) (v' := .bool (v50 != v56)) (S' := [_,_,_,_,_,_,_,_,_,_,_,_,_,_,_,_,_,_,_,_,_,_,_,_,_,_,_,_,_,_,_,_,_,_,_,_,_,_]) rfl rfl (natne (a := v50) (b := v56)) (xP hok 34 rfl (xP hok 35 rfl (wx_as (d := 59) (v' := .bool true) (S' := [_,_,_,_,_,_,_,_,_,_,_,_,_,_,_,_,_,_,_,_,_,_,_,_,_,_,_,_,_,_,_,_,_,_,_,_,_,_,_,_]) rfl rfl (bool_is hs59) (xO hok 36 rfl (xO hok 38 rfl (xS hok 37 rfl (wO rfl (wl_nil (we_x [0,1,2,3] [4,4,4,4,4,4,4,4,4] rfl rfl (xS hok 39 rfl ?_)))))))))))))
        refine wO rfl (wl_nil (we_x [0,1,2,3] [4,4,4,4,4,4,4,4,4] rfl rfl (xS hok 40 rfl (wO rfl (wl_nil (we_x [0,1,2,3] [4,4,4,4,4,4,4,4,4] rfl rfl (xO hok 41 rfl (xP hok 42 rfl (wx_done hok rfl ?_)))))))))
        have hE := (Option.some.inj hm).symm
        refine we_pick [0,1,2,3] rfl (H' := [_,_,_,_]) rfl ?_
        refine we_join (v27_2, v27_1, true, p27_0, c27_1, c27_2) hE [5,4,3,0,66] rfl (asK [3] rfl) rfl
       ·
        obtain ⟨v61, hc61, hm⟩ := bindO_some hm
        obtain ⟨v63, hc63, hm⟩ := bindO_some hm
        obtain ⟨v64, hc64, hm⟩ := bindO_some hm
        refine wc_draw [0,1,2,4,5,6,7,8,9,10,12,13,14,15,16,18,19,20,21,22,23,24,25,27,28,29,30,31,33,34,35,36,38,41,42] rfl rfl (fun hok => (xP hok 0 rfl (xP hok 1 rfl (wx_loadH hok 2 0 0 rfl rfl rfl (freshS_eq rfl) rfl rfl rfl rfl (cs := [_,_,_,_,_]) rfl tS_30 tA_30 rfl rfl (xS hok 3 rfl (wC [3,4,1,2] [0] rfl fn_17 rfl (w_ropewalklaw20_step_s N c12_0 c12_1 u1_3_f0_m c13_0 u1_4_f0_p u1_4_f0_n u1_4_f0_c u1_4_f0_l x22.op x22.from_ x22.to_ x22.at_ r22.1 r22.2 x22.b _ _ _ hc27) (asK [0] rfl) rfl (H' := [_]) rfl ?_))))))
        rintro _ _ _ ⟨p27_0, c27_1, c27_2, rfl, rfl, rfl⟩
        refine wl_nil (we_x [0,1,2,3] [] rfl rfl (xP hok 4 rfl (xP hok 5 rfl (wx_as (d := 29) (v' := .bool false) (S' := [_,_,_,_,_,_,_,_,_,_]) rfl rfl (bool_is hs29) (xP hok 6 rfl (wx_fieldAddr hok 7 rfl rfl rfl (freshS_eq rfl) rfl rfl rfl tF_30_1 (wx_loadH hok 8 4 1 rfl rfl rfl (freshS_eq rfl) rfl rfl rfl rfl (cs := [_]) rfl tS_3 tA_3 rfl rfl (wx_fieldAddr hok 9 rfl rfl rfl (freshS_eq rfl) rfl rfl rfl tF_30_2 (wx_loadH hok 10 4 2 rfl rfl rfl (freshS_eq rfl) rfl rfl rfl rfl (cs := [_]) rfl tS_3 tA_3 rfl rfl (xP hok 12 rfl (wx_fieldAddr hok 13 rfl rfl rfl (freshS_eq rfl) rfl rfl rfl tF_30_1 (wx_loadH hok 14 4 1 rfl rfl rfl (freshS_eq rfl) rfl rfl rfl rfl (cs := [_]) rfl tS_3 tA_3 rfl rfl (wx_fieldAddr hok 15 rfl rfl rfl (freshS_eq rfl) rfl rfl rfl tF_30_2 ?_)))))))))))))
        refine wx_loadH hok 16 4 2 rfl rfl rfl (freshS_eq rfl) rfl rfl rfl rfl (cs := [_]) rfl tS_3 tA_3 rfl rfl (xS hok 11 rfl (wC [0,1] [2,3,4] rfl fn_15 rfl (w_net_Net_Count_s N c12_0 c12_1 v27_1 x22.from_ x22.to_ _ hc35) (asK [] rfl) rfl (H' := [_,_,_]) rfl ?_))
        rintro _ _ _ ⟨rfl, rfl, rfl⟩
        refine wl_nil (we_x [0,1,2,3] [4,4,4] rfl rfl (xS hok 17 rfl (wC [2,3] [0,1,4] rfl fn_18 rfl (w_ropewalkref20_Net_Count_s N c13_0 p27_0 c27_2 c27_1 v27_2 x22.from_ x22.to_ _ hc41) (asK [] rfl) rfl (H' := [_,_,_]) rfl ?_)))
        rintro _ _ _ ⟨rfl, rfl, rfl⟩
        refine wl_nil (we_x [0,1,2,3] [4,4,4] rfl rfl (xP hok 18 rfl (wx_as (d := 42) (v' := .bool (v35 != v41)) (S' := [_,_,_,_,_,_,_,_,_,_,_,_,_,_,_,_,_,_,_,_,_,_,_]) rfl rfl (natne (a := v35) (b := v41)) (xP hok 19 rfl (xP hok 20 rfl (wx_as (d := 44) (v' := .bool false) (S' := [_,_,_,_,_,_,_,_,_,_,_,_,_,_,_,_,_,_,_,_,_,_,_,_,_]) rfl rfl (bool_is hs44) (xP hok 21 rfl (wx_fieldAddr hok 22 rfl rfl rfl (freshS_eq rfl) rfl rfl rfl tF_30_2 (wx_loadH hok 23 4 2 rfl rfl rfl (freshS_eq rfl) rfl rfl rfl rfl (cs := [_]) rfl tS_3 tA_3 rfl rfl (wx_fieldAddr hok 24 rfl rfl rfl (freshS_eq rfl) rfl rfl rfl tF_30_1 (wx_loadH hok 25 4 1 rfl rfl rfl (freshS_eq rfl) rfl rfl rfl rfl (cs := [_]) rfl tS_3 tA_3 rfl rfl (xP hok 27 rfl (wx_fieldAddr hok 28 rfl rfl rfl (freshS_eq rfl) rfl rfl rfl tF_30_2 ?_)))))))))))))
        refine wx_loadH hok 29 4 2 rfl rfl rfl (freshS_eq rfl) rfl rfl rfl rfl (cs := [_]) rfl tS_3 tA_3 rfl rfl (wx_fieldAddr hok 30 rfl rfl rfl (freshS_eq rfl) rfl rfl rfl tF_30_1 (wx_loadH hok 31 4 1 rfl rfl rfl (freshS_eq rfl) rfl rfl rfl rfl (cs := [_]) rfl tS_3 tA_3 rfl rfl (xS hok 26 rfl (wC [2,3] [0,1,4] rfl fn_15 rfl (w_net_Net_Count_s N c12_0 c12_1 v27_1 x22.to_ x22.from_ _ hc50) (asK [] rfl) rfl (H' := [_,_,_]) rfl ?_))))
        rintro _ _ _ ⟨rfl, rfl, rfl⟩
        refine wl_nil (we_x [0,1,2,3] [4,4,4,4,4,4,4] rfl rfl (xS hok 32 rfl (wC [2,3] [0,1,4] rfl fn_18 rfl (w_ropewalkref20_Net_Count_s N c13_0 p27_0 c27_2 c27_1 v27_2 x22.to_ x22.from_ _ hc56) (asK [] rfl) rfl (H' := [_,_,_]) rfl ?_)))
        rintro _ _ _ ⟨rfl, rfl, rfl⟩
        refine wl_nil (we_x [0,1,2,3] [4,4,4,4,4,4,4] rfl rfl (xP hok 33 rfl (wx_as (d := 57) (v' := .bool (v50 != v56)) (S' := [_,_,_,_,_,_,_,_,_,_,_,_,_,_,_,_,_,_,_,_,_,_,_,_,_,_,_,_,_,_,_,_,_,_,_,_,_,_]) rfl rfl (natne (a := v50) (b := v56)) (xP hok 34 rfl (xP hok 35 rfl (wx_as (d := 59) (v' := .bool false) (S' := [_,_,_,_,_,_,_,_,_,_,_,_,_,_,_,_,_,_,_,_,_,_,_,_,_,_,_,_,_,_,_,_,_,_,_,_,_,_,_,_]) rfl rfl (bool_is hs59) (xP hok 36 rfl (xP hok 38 rfl (xS hok 37 rfl (wC [2,3] [0,1,4] rfl fn_20 rfl (w_net_Net_Links_s N c12_0 c12_1 v27_1 _ hc61) (asK [] rfl) rfl (H' := [_,_,_]) rfl ?_))))))))))
        rintro _ _ _ ⟨p61_0, c61_1, c61_2, rfl, rfl, rfl⟩
        refine wl_nil (we_x [0,1,2,3] [5,5,5,5,5,5,5,5,5] rfl rfl (xS hok 39 rfl (wC [3,4] [0,1,2,5] rfl fn_21 rfl (w_ropewalkref20_Net_Links_s N c13_0 p27_0 c27_2 c27_1 v27_2 _ hc63) (asK [] rfl) rfl (H' := [_,_,_,_]) rfl ?_)))
        rintro _ _ _ ⟨p63_0, c63_1, c63_2, rfl, rfl, rfl⟩
        refine wl_nil (we_x [0,1,2,3] [6,6,6,6,6,6,6,6,6] rfl rfl (xS hok 40 rfl (wl_ownLen 3 rfl (fun hzc61_2 _ => ?_))))
        subst hzc61_2
        refine wl_ownLen 0 rfl (fun hzc63_2 _ => ?_)
        subst hzc63_2
        refine wl_lend [] [0,1,2,3,4,5,6] [3,0] rfl rfl rfl (freshS_eq rfl) rfl rfl fn_19 rfl (w_ropewalklaw20_links_s N p61_0 c61_1 v61 p63_0 c63_1 v63 _ hc64) (fun F w hφ hh => (ask_cons (own_sli (hh _ (mem_at (k := 0) rfl))) (ask_cons (own_sli (hh _ (mem_at (k := 1) rfl))) ask_nil))) (fun _ _ _ hR => by obtain ⟨rfl, rfl, rfl⟩ := hR; exact ⟨rfl, (fun _ h => free_nil h)⟩) rfl rfl (H' := [_,_,_,_,_,_,_]) rfl ?_
        rintro _ _ _ ⟨rfl, rfl, rfl⟩
        refine wl_nil (we_x [0,1,2,3] [6,6,6,6,6,6,6,6,6] rfl rfl (xP hok 41 rfl (xP hok 42 rfl (wx_done hok rfl ?_))))
        have hE := (Option.some.inj hm).symm
        refine we_pick [1,2,4,5] rfl (H' := [_,_,_,_]) rfl ?_
        refine we_join (v27_2, v27_1, !v64, p27_0, c27_1, c27_2) hE [5,4,3,0,66] rfl (asK [3] rfl) rfl
    ·
     rintro ⟨j_3_4_f0_l, j_3_3_f0_m, j_3_66, j_3_4_f0_p, j_3_4_f0_c, j_3_4_f0_n⟩ hE
     try dsimp only
     have hm := hLj_3
     rw [hE] at hm
     try dsimp only at hm
     refine wc_cond rfl (fun hb66 => ?_) (fun hb66 => ?_)
     ·
      replace hm := iteT hm hb66
      refine wc_keep [] (S' := []) rfl (wc_seq (wc_region (wP rfl (wl_nil (we_then (wc_ret (we_block_ret (we_then_ret (we_then_ret (we_block_ret (we_then_ret ?_)))))))))))
      have hE := (Option.some.inj hm).symm
      replace hE := link_inr hLu1 hE
      replace hE := link_inr hLj_2 hE
      replace hE := hE.symm
      subst hE
      refine ret_one (Hr := []) [] Try.results4 (res_tmp rfl) ⟨rfl, rfl, rfl⟩ (asK [] rfl) rfl rfl (.inl rfl)
     ·
      replace hm := iteF hm hb66
      refine wc_keep [5,4,3,0] (S' := [_,_,_,_]) rfl (wc_skip (we_block_normal (we_then (wc_region (wP rfl (wP rfl ?_))))))
      obtain ⟨hg19, hm⟩ := gd_some hm
      refine wl_as (d := 19) (v' := .int .i64 ((u1_5 + 1 : Nat) : Int)) (S' := [_,_,_,_,_]) rfl rfl (nat_add (a := u1_5) (b := 1) hg19) (wl_pure (S' := [_,_,_,_,_]) rfl rfl rfl rfl rfl (wl_nil ?_))
      have hE := (Option.some.inj hm).symm
      replace hE := link_inl hLu1 hE
      refine we_roundK (_, u1_5 + 1, j_3_4_f0_l, j_3_3_f0_m, j_3_4_f0_p, j_3_4_f0_c, j_3_4_f0_n) (Nat.lt_succ_self _) hE [5,4,3,0] rfl (asK [0] rfl) rfl
   ·
    replace hm := iteF hm hb17
    refine wc_keep [] (S' := []) rfl (wc_exit (we_then_exit (we_then_exit (we_block_hit ?_))))
    have hE := (Option.some.inj hm).symm
    replace hE := link_inr hLu1 hE
    refine we_pick [] rfl (H' := []) rfl ?_
    refine we_join () hE [] rfl (asK [] rfl) rfl
  ·
   rintro _ hE
   try dsimp only
   have hm := link_inl hLj_2 hE
   try dsimp only at hm
   refine wc_seq (wc_region ?_)
   obtain ⟨v67, hc67, hm⟩ := bindO_some hm
   refine wC [] [] rfl fn_6 rfl (w_ropewalklaw20_awake_s N _ hc67) (asK [] rfl) rfl (H' := []) rfl ?_
   rintro _ _ _ ⟨rfl, rfl, rfl⟩
   refine wP rfl (wl_nil (we_then (wc_keep [2] (S' := [_]) rfl (wc_ret ?_))))
   have hE := (Option.some.inj hm).symm
   replace hE := hE.symm
   subst hE
   refine ret_one (Hr := []) [] Try.results4 (res_tmp rfl) ⟨rfl, rfl, rfl⟩ (asK [] rfl) rfl rfl (.inl rfl)
end Go.Proofs.Ytegkmbkbaenkcaa
