import Derived.Test.YtegkmbkbaenkcaaXW1
namespace Go.Proofs.Ytegkmbkbaenkcaa
open Go.RowKit
set_option maxRecDepth 100000
set_option maxHeartbeats 4000000
theorem w_ropewalklaw20_links_s (N : Nat) (qp0 : Option Addr) (qc1 : Nat) (l0 : List (Int × Int)) (qp2 : Option Addr) (qc3 : Nat) (l1 : List (Int × Int)) (o0 : Bool) (hm : m_ropewalklaw20_links N l0 l1 = some o0) : Spec Try.prog 19 [.slice qp0 l0.length qc1, .slice qp2 l1.length qc3] [.sli 2 R_a2_i64 qp0 qc1 l0, .sli 2 R_a2_i64 qp2 qc3 l1] [] (fun v Φr Hr => v = .bool o0 ∧ Φr = [] ∧ Hr = []) := by
 unfold m_ropewalklaw20_links at hm
 refine spec_of Try.func19 rfl Try.ntmps19 rfl (S := [_,_]) rfl (fun C => (wc_seq (wc_region (wP rfl (wl_nil (we_then (wc_keep [0,1] (S' := [_,_]) rfl (wc_seq (wc_seq (wc_region (wP rfl (wN rfl tE_45 (wP rfl (wN rfl tE_45 ?_))))))))))))))
 refine wP rfl (wl_as (d := 10) (v' := .bool (l0.length != l1.length)) (S' := [_,_,_,_,_,_]) rfl rfl (natne (a := l0.length) (b := l1.length)) (wl_nil (we_then (wc_keep [10,0,1] (S' := [_,_,_]) rfl ?_))))
 refine wc_cond rfl (fun hb10 => ?_) (fun hb10 => ?_)
 ·
  replace hm := iteT hm hb10
  refine wc_keep [] (S' := []) rfl (wc_seq (wc_region (wP rfl (wl_nil (we_then (wc_ret (we_then_ret ?_)))))))
  have hE := (Option.some.inj hm).symm
  replace hE := hE.symm
  subst hE
  refine ret_one (Hr := []) [] Try.results19 (res_tmp rfl) ⟨rfl, rfl, rfl⟩ (asK [] rfl) rfl rfl (.inl rfl)
 ·
  replace hm := iteF hm hb10
  refine wc_keep [0,1] (S' := [_,_]) rfl (wc_skip (we_then (wc_seq ?_)))
  obtain ⟨bj_1, hm, hLj_1⟩ := bindS_some hm
  refine wc_cut (σ := Unit) (fun _ => bj_1 = .inl ()) (fun _ => []) (fun _ => []) (fun _ => []) ?_ ?_
  ·
   refine wc_seq (wc_region (wP rfl (wl_nil (we_then (wc_block (wc_loop (σ := Nat × Nat) (fun (nu1, u1_5) => iter (m_ropewalklaw20_links_L1 N l0 l1) nu1 u1_5 = some bj_1) (fun (nu1, u1_5) => nu1) (fun (nu1, u1_5) => [(5, .int .i64 ((u1_5 : Nat) : Int)), (0, .slice qp0 l0.length qc1), (1, .slice qp2 l1.length qc3)]) (fun (nu1, u1_5) => [.sli 2 R_a2_i64 qp0 qc1 l0, .sli 2 R_a2_i64 qp2 qc3 l1]) (fun (nu1, u1_5) => []) (N, 0) hm [5,0,1] rfl (asK [0,1] rfl) rfl (fun s_ hm => ?_)))))))
   obtain ⟨nu1, u1_5⟩ := s_
   try dsimp only at hm ⊢
   obtain ⟨mu1, bu1, hnu1, hq, hLu1⟩ := iter_some hm
   clear hm
   subst hnu1
   replace hm := hq
   clear hq
   unfold m_ropewalklaw20_links_L1 at hm
   try dsimp only at hm
   refine wc_seq (wc_seq (wc_region (wP rfl (wP rfl (wN rfl tE_45 (wP rfl (wl_as (d := 14) (v' := .bool (decide (u1_5 < l0.length))) (S' := [_,_,_,_,_,_]) rfl rfl (natlt (a := u1_5) (b := l0.length)) (wl_nil (we_then (wc_keep [14,5,0,1] (S' := [_,_,_,_]) rfl ?_))))))))))
   refine wc_cond rfl (fun hb14 => ?_) (fun hb14 => ?_)
   ·
    replace hm := iteT hm hb14
    refine wc_keep [5,0,1] (S' := [_,_,_]) rfl (wc_skip (we_then (wc_seq (wc_block (wc_seq ?_)))))
    obtain ⟨x19, hx19, hm⟩ := bindO_some hm
    obtain ⟨x23, hx23, hm⟩ := bindO_some hm
    refine wc_draw [0,1,2,3,4,5,6,7,8] rfl rfl (fun hok => (xP hok 0 rfl (xP hok 1 rfl (wx_indexA hok 2 0 u1_5 rfl rfl rfl (freshS_eq rfl) rfl rfl rfl rfl rfl rfl hx19 tE_45 tS_48 (fun b19 q19 cs19 hlx19 => (wx_openR R_a2_i64_opens 1 rfl (fun r19 er19 _ => ?_)))))))
    subst er19
    refine wx_load hok 3 0 0 rfl rfl rfl (freshS_eq rfl) rfl rfl rfl rfl (cs := [_,_]) rfl tS_48 tA_48 rfl rfl (xP hok 4 rfl (xP hok 5 rfl (wx_indexA hok 6 3 u1_5 rfl rfl rfl (freshS_eq rfl) rfl rfl rfl rfl rfl rfl hx23 tE_45 tS_48 (fun b23 q23 cs23 hlx23 => (wx_openR R_a2_i64_opens 1 rfl (fun r23 er23 _ => ?_))))))
    subst er23
    refine wx_load hok 7 0 0 rfl rfl rfl (freshS_eq rfl) rfl rfl rfl rfl (cs := [_,_]) rfl tS_48 tA_48 rfl rfl (wx_bin hok 8 rfl rfl rfl (freshS_eq rfl) rfl rfl rfl rfl (neqD_48 _ _ x19.1 x19.2 x23.1 x23.2) (wx_done hok rfl (we_then (wc_keep [25,5,0,1] (S' := [_,_,_,_]) rfl ?_))))
    refine wc_cond rfl (fun hb25 => ?_) (fun hb25 => ?_)
    ·
     replace hm := iteT hm hb25
     refine wc_keep [] (S' := []) rfl (wc_seq (wc_region (wP rfl (wl_nil (we_then (wc_ret (we_block_ret (we_then_ret (we_then_ret (we_block_ret (we_then_ret ?_)))))))))))
     have hE := (Option.some.inj hm).symm
     replace hE := link_inr hLu1 hE
     replace hE := link_inr hLj_1 hE
     replace hE := hE.symm
     subst hE
     refine ret_one (Hr := []) [] Try.results19 (res_tmp rfl) ⟨rfl, rfl, rfl⟩ (asK [] rfl) rfl rfl (.inl rfl)
    ·
     replace hm := iteF hm hb25
     refine wc_keep [5,0,1] (S' := [_,_,_]) rfl (wc_skip (we_block_normal (we_then (wc_region (wP rfl (wP rfl ?_))))))
     obtain ⟨hg16, hm⟩ := gd_some hm
     refine wl_as (d := 16) (v' := .int .i64 ((u1_5 + 1 : Nat) : Int)) (S' := [_,_,_,_]) rfl rfl (nat_add (a := u1_5) (b := 1) hg16) (wl_pure (S' := [_,_,_,_]) rfl rfl rfl rfl rfl (wl_nil ?_))
     have hE := (Option.some.inj hm).symm
     replace hE := link_inl hLu1 hE
     refine we_roundK (_, u1_5 + 1) (Nat.lt_succ_self _) hE [5,0,1] rfl (asK [4,5] rfl) rfl
   ·
    replace hm := iteF hm hb14
    refine wc_keep [] (S' := []) rfl (wc_exit (we_then_exit (we_then_exit (we_block_hit ?_))))
    have hE := (Option.some.inj hm).symm
    replace hE := link_inr hLu1 hE
    refine we_join () hE [] rfl (asK [] rfl) rfl
  ·
   rintro _ hE
   try dsimp only
   have hm := link_inl hLj_1 hE
   try dsimp only at hm
   refine wc_seq (wc_region (wP rfl (wl_nil (we_then (wc_ret ?_)))))
   have hE := (Option.some.inj hm).symm
   replace hE := hE.symm
   subst hE
   refine ret_one (Hr := []) [] Try.results19 (res_tmp rfl) ⟨rfl, rfl, rfl⟩ (asK [] rfl) rfl rfl (.inl rfl)
theorem w_ropewalklaw20_awake_s (N : Nat)  (o0 : Bool) (hm : m_ropewalklaw20_awake N = some o0) : Spec Try.prog 6 [] [] [] (fun v Φr Hr => v = .bool o0 ∧ Φr = [] ∧ Hr = []) := by
 unfold m_ropewalklaw20_awake at hm
 refine spec_of Try.func6 rfl Try.ntmps6 rfl (S := []) rfl (fun C => (wc_seq (wc_region (wP rfl (wl_nil (we_then (wc_keep [] (S' := []) rfl (wc_seq (wc_region ?_)))))))))
 obtain ⟨_, hc9, hm⟩ := bindO_some hm
 try dsimp only at hm
 refine wC [] [] rfl fn_7 rfl (w_net_New_s N  hc9) (asK [] rfl) rfl (H' := []) rfl ?_
 rintro _ _ _ ⟨c9_0, c9_1, rfl, rfl, rfl⟩
 refine wP rfl (wl_nil (we_then (wc_keep [1] (S' := [_]) rfl (wc_seq ?_))))
 obtain ⟨bj_1, hm, hLj_1⟩ := bindO_some hm
 unfold m_ropewalklaw20_awake_C1 at hm
 refine wc_cut (σ := (List ((Int × Int) × List (List Int))) × Bool) (fun (j_1_1_f0_m, j_1_2) => bj_1 = (j_1_1_f0_m, j_1_2)) (fun (j_1_1_f0_m, j_1_2) => [(1, .pointer (some ⟨c9_0,0, none⟩)), (2, .bool j_1_2)]) (fun (j_1_1_f0_m, j_1_2) => []) (fun (j_1_1_f0_m, j_1_2) => [.blk c9_0 [.map (some c9_1)] 54, mapG (keyOfK pairKey57) (Fact.own 28 1 R_l_u8) none c9_1 j_1_1_f0_m]) ?_ ?_
 ·
  refine wc_region (wP rfl (wl_buildSlice rfl rfl rfl (freshS_eq rfl) rfl tE_28 tS_5 tZ_5 rfl (zs := [.int .u8 0]) (by kernel_rfl) rfl (out := [_]) rfl (fun g11 => (wl_row (sz := 1) (m := 1) R_u8 [120] 0 rfl (fun F w hφ => ⟨[.int .u8 120],[], rfl, rfl, ⟨(), rfl, ask_nil⟩, rfl⟩) rfl (by decide) (H' := [_,_,_]) rfl (wl_markRow 0 rfl rfl rfl (freshS_eq rfl) rfl rfl rfl rfl tD_28 tD_5 mkRep_free (H' := [.blk c9_0 [.map (some c9_1)] 54, mapG (keyOfK pairKey57) (Fact.own 28 1 R_l_u8) none c9_1 ([] : List ((Int × Int) × List (List Int)))]) rfl ?_)))))
  obtain ⟨⟨v13_0, v13_1⟩, hc13, hm⟩ := bindO_some hm
  try dsimp only at hm
  refine wC [0,1] [] rfl fn_13 rfl (w_net_Net_Send_s N c9_0 c9_1 ([] : List ((Int × Int) × List (List Int))) 1 2 (some ⟨g11,0, none⟩) 1 [120] _ _ hc13) (asK [0] rfl) rfl (H' := []) rfl ?_
  rintro _ _ _ ⟨rfl, rfl, rfl⟩
  refine wP rfl (wl_as (d := 14) (v' := .bool (v13_0 == 0)) (S' := [_,_,_,_,_]) rfl rfl (nateq (a := v13_0) (b := 0)) (wP rfl ?_))
  refine wl_split (d := 15) (S' := [_,_,_,_,_,_]) rfl rfl (fun hs15 => ?_) (fun hs15 => ?_)
  ·
   replace hm := iteT hm hs15
   refine wP rfl (wl_buildSlice rfl rfl rfl (freshS_eq rfl) rfl tE_28 tS_5 tZ_5 rfl (zs := [.int .u8 0]) (by kernel_rfl) rfl (out := [_]) rfl (fun g17 => (wl_row (sz := 1) (m := 1) R_u8 [121] 0 rfl (fun F w hφ => ⟨[.int .u8 121],[], rfl, rfl, ⟨(), rfl, ask_nil⟩, rfl⟩) rfl (by decide) (H' := [_,_,_]) rfl (wl_markRow 0 rfl rfl rfl (freshS_eq rfl) rfl rfl rfl rfl tD_28 tD_5 mkRep_free (H' := [.blk c9_0 [.map (some c9_1)] 54, mapG (keyOfK pairKey57) (Fact.own 28 1 R_l_u8) none c9_1 v13_1]) rfl ?_))))
   obtain ⟨⟨v19_0, v19_1⟩, hc19, hm⟩ := bindO_some hm
   try dsimp only at hm
   refine wC [0,1] [] rfl fn_13 rfl (w_net_Net_Send_s N c9_0 c9_1 v13_1 1 2 (some ⟨g17,0, none⟩) 1 [121] _ _ hc19) (asK [0] rfl) rfl (H' := []) rfl ?_
   rintro _ _ _ ⟨rfl, rfl, rfl⟩
   refine wP rfl (wl_as (d := 20) (v' := .bool (v19_0 == 0)) (S' := [_,_,_,_,_,_,_,_,_,_,_]) rfl rfl (nateq (a := v19_0) (b := 0)) (wP rfl (wP rfl ?_)))
   refine wl_split (d := 22) (S' := [_,_,_,_,_,_,_,_,_,_,_,_,_]) rfl rfl (fun hs22 => ?_) (fun hs22 => ?_)
   ·
    replace hm := iteT hm hs22
    refine wP rfl ?_
    obtain ⟨v24, hc24, hm⟩ := bindO_some hm
    refine wC [0,1] [] rfl fn_15 rfl (w_net_Net_Count_s N c9_0 c9_1 v19_1 1 2 _ hc24) (asK [] rfl) rfl (H' := []) rfl ?_
    rintro _ _ _ ⟨rfl, rfl, rfl⟩
    refine wP rfl (wl_as (d := 25) (v' := .bool (v24 == 2)) (S' := [_,_,_,_,_,_,_,_,_,_,_,_,_,_,_,_]) rfl rfl (nateq (a := v24) (b := 2)) (wP rfl (wP rfl ?_)))
    refine wl_split (d := 27) (S' := [_,_,_,_,_,_,_,_,_,_,_,_,_,_,_,_,_,_]) rfl rfl (fun hs27 => ?_) (fun hs27 => ?_)
    ·
     replace hm := iteT hm hs27
     refine wP rfl ?_
     obtain ⟨v29, hc29, hm⟩ := bindO_some hm
     refine wC [0,1] [] rfl fn_15 rfl (w_net_Net_Count_s N c9_0 c9_1 v19_1 2 1 _ hc29) (asK [] rfl) rfl (H' := []) rfl ?_
     rintro _ _ _ ⟨rfl, rfl, rfl⟩
     refine wP rfl (wl_as (d := 30) (v' := .bool (v29 == 0)) (S' := [_,_,_,_,_,_,_,_,_,_,_,_,_,_,_,_,_,_,_,_,_]) rfl rfl (nateq (a := v29) (b := 0)) (wP rfl (wP rfl ?_)))
     refine wl_split (d := 32) (S' := [_,_,_,_,_,_,_,_,_,_,_,_,_,_,_,_,_,_,_,_,_,_,_]) rfl rfl (fun hs32 => ?_) (fun hs32 => ?_)
     ·
      replace hm := iteT hm hs32
      refine wP rfl ?_
      obtain ⟨v34, hc34, hm⟩ := bindO_some hm
      refine wC [0,1] [] rfl fn_20 rfl (w_net_Net_Links_s N c9_0 c9_1 v19_1 _ hc34) (asK [] rfl) rfl (H' := []) rfl ?_
      rintro _ _ _ ⟨p34_0, c34_1, c34_2, rfl, rfl, rfl⟩
      refine wl_buildArr rfl rfl rfl (freshS_eq rfl) rfl tZ_48 tArr_48 rfl (out := [_,_]) rfl (wl_buildSlice rfl rfl rfl (freshS_eq rfl) rfl tE_45 tS_48 tZ_48 rfl (zs := [.int .i64 0, .int .i64 0]) (by kernel_rfl) rfl (out := [_,_]) rfl (fun g36 => (wl_row (sz := 2) (m := 1) R_a2_i64 ([(1,2)]) 0 rfl (fun F w hφ => ⟨[.int .i64 1, .int .i64 2],[], rfl, rfl, ⟨(), rfl, ask_nil⟩, rfl⟩) rfl (by decide) (H' := [_,_,_,_]) rfl (wl_ownLen 1 rfl (fun hzc34_2 _ => ?_)))))
      subst hzc34_2
      obtain ⟨v37, hc37, hm⟩ := bindO_some hm
      refine wl_lend [] [0,1,2,3] [1,0] rfl rfl rfl (freshS_eq rfl) rfl rfl fn_19 rfl (w_ropewalklaw20_links_s N p34_0 c34_1 v34 (some ⟨g36,0, none⟩) 1 [(1,2)] _ hc37) (fun F w hφ hh => (ask_cons (own_sli (hh _ (mem_at (k := 0) rfl))) (ask_cons (own_sli (hh _ (mem_at (k := 1) rfl))) ask_nil))) (fun _ _ _ hR => by obtain ⟨rfl, rfl, rfl⟩ := hR; exact ⟨rfl, (fun _ h => free_nil h)⟩) rfl rfl (H' := [_,_,_,_]) rfl ?_
      rintro _ _ _ ⟨rfl, rfl, rfl⟩
      refine wP rfl (wP rfl ?_)
      refine wl_split (d := 39) (S' := [_,_,_,_,_,_,_,_,_,_,_,_,_,_,_,_,_,_,_,_,_,_,_,_,_,_,_,_,_,_]) rfl rfl (fun hs39 => ?_) (fun hs39 => ?_)
      ·
       replace hm := iteT hm hs39
       refine wP rfl ?_
       obtain ⟨⟨v41_0, v41_1⟩, hc41, hm⟩ := bindO_some hm
       try dsimp only at hm
       refine wC [2,3] [0,1] rfl fn_12 rfl (w_net_Net_Double_s N c9_0 c9_1 v19_1 1 2 0 _ _ hc41) (asK [] rfl) rfl (H' := [_,_]) rfl ?_
       rintro _ _ _ ⟨rfl, rfl, rfl⟩
       refine wP rfl (wl_as (d := 42) (v' := .bool (v41_0 == 0)) (S' := [_,_,_,_,_,_,_,_,_,_,_,_,_,_,_,_,_,_,_,_,_,_,_,_,_,_,_,_,_,_,_,_,_]) rfl rfl (nateq (a := v41_0) (b := 0)) (wP rfl (wP rfl (wl_nil ?_))))
       have hE := (Option.some.inj hm).symm
       refine we_pick [0,1] rfl (H' := [_,_]) rfl ?_
       refine we_join (v41_1, v41_0 == 0) hE [1,2] rfl (asK [] rfl) rfl
      ·
       replace hm := iteF hm hs39
       refine wO rfl (wO rfl (wO rfl (wP rfl (wP rfl (wl_nil ?_)))))
       have hE := (Option.some.inj hm).symm
       refine we_pick [2,3] rfl (H' := [_,_]) rfl ?_
       refine we_join (v19_1, false) hE [1,2] rfl (asK [] rfl) rfl
     ·
      replace hm := iteF hm hs32
      refine wO rfl (wO rfl (wO rfl (wO rfl (wO rfl (wP rfl (wP rfl (wO rfl (wO rfl (wO rfl (wP rfl (wP rfl (wl_nil ?_))))))))))))
      have hE := (Option.some.inj hm).symm
      refine we_join (v19_1, false) hE [1,2] rfl (asK [] rfl) rfl
    ·
     replace hm := iteF hm hs27
     refine wO rfl (wO rfl (wO rfl (wP rfl (wP rfl (wO rfl (wO rfl (wO rfl (wO rfl (wO rfl (wP rfl (wP rfl (wO rfl (wO rfl ?_)))))))))))))
     refine wO rfl (wP rfl (wP rfl (wl_nil ?_)))
     have hE := (Option.some.inj hm).symm
     refine we_join (v19_1, false) hE [1,2] rfl (asK [] rfl) rfl
   ·
    replace hm := iteF hm hs22
    refine wO rfl (wO rfl (wO rfl (wP rfl (wP rfl (wO rfl (wO rfl (wO rfl (wP rfl (wP rfl (wO rfl (wO rfl (wO rfl (wO rfl ?_)))))))))))))
    refine wO rfl (wP rfl (wP rfl (wO rfl (wO rfl (wO rfl (wP rfl (wP rfl (wl_nil ?_))))))))
    have hE := (Option.some.inj hm).symm
    refine we_join (v19_1, false) hE [1,2] rfl (asK [] rfl) rfl
  ·
   replace hm := iteF hm hs15
   refine wO rfl (wO rfl (wO rfl (wO rfl (wO rfl (wP rfl (wP rfl (wO rfl (wO rfl (wO rfl (wP rfl (wP rfl (wO rfl (wO rfl ?_)))))))))))))
   refine wO rfl (wP rfl (wP rfl (wO rfl (wO rfl (wO rfl (wO rfl (wO rfl (wP rfl (wP rfl (wO rfl (wO rfl (wO rfl (wP rfl ?_)))))))))))))
   refine wP rfl (wl_nil ?_)
   have hE := (Option.some.inj hm).symm
   refine we_join (v13_1, false) hE [1,2] rfl (asK [] rfl) rfl
 ·
  rintro ⟨j_1_1_f0_m, j_1_2⟩ hE
  try dsimp only
  have hm := hLj_1
  rw [hE] at hm
  try dsimp only at hm
  refine wc_seq (wc_region (wP rfl ?_))
  obtain ⟨⟨v46_0, v46_1, v46_2⟩, hc46, hm⟩ := bindO_some hm
  try dsimp only at hm
  refine wC [0,1] [] rfl fn_9 rfl (w_net_Net_Take_s N c9_0 c9_1 j_1_1_f0_m 1 2 0 _ _ _ hc46) (asK [] rfl) rfl (H' := []) rfl ?_
  rintro _ _ _ ⟨p46_0, c46_1, rfl, rfl, rfl⟩
  refine wP rfl (wP rfl (wP rfl (wP rfl (wP rfl (wl_nil (we_then (wc_keep [4,3,1,2] (S' := [_,_,_,_]) rfl (wc_seq (wc_region (wP rfl ?_))))))))))
  obtain ⟨⟨v51_0, v51_1, v51_2⟩, hc51, hm⟩ := bindO_some hm
  try dsimp only at hm
  refine wC [0,1] [] rfl fn_9 rfl (w_net_Net_Take_s N c9_0 c9_1 v46_2 1 2 1 _ _ _ hc51) (asK [] rfl) rfl (H' := []) rfl ?_
  rintro _ _ _ ⟨p51_0, c51_1, rfl, rfl, rfl⟩
  refine wP rfl (wP rfl (wP rfl (wP rfl (wP rfl (wl_nil (we_then (wc_keep [6,5,4,3,1,2] (S' := [_,_,_,_,_,_]) rfl (wc_seq (wc_region (wP rfl ?_))))))))))
  obtain ⟨⟨v56_0, v56_1, v56_2⟩, hc56, hm⟩ := bindO_some hm
  try dsimp only at hm
  refine wC [0,1] [] rfl fn_9 rfl (w_net_Net_Take_s N c9_0 c9_1 v51_2 1 2 1 _ _ _ hc56) (asK [] rfl) rfl (H' := []) rfl ?_
  rintro _ _ _ ⟨p56_0, c56_1, rfl, rfl, rfl⟩
  refine wP rfl (wP rfl (wP rfl (wP rfl (wP rfl (wl_nil (we_then (wc_keep [8,6,5,4,3,1,2] (S' := [_,_,_,_,_,_,_]) rfl (wc_seq ?_))))))))
  obtain ⟨bj_2, hm, hLj_2⟩ := bindO_some hm
  unfold m_ropewalklaw20_awake_C2 at hm
  refine wc_cut (σ := Bool) (fun j_2_0 => bj_2 = j_2_0) (fun j_2_0 => [(0, .bool j_2_0)]) (fun j_2_0 => []) (fun j_2_0 => []) ?_ ?_
  ·
   refine wc_region (wP rfl (wP rfl ?_))
   refine wl_split (d := 60) (S' := [_,_,_,_,_,_,_,_]) rfl rfl (fun hs60 => ?_) (fun hs60 => ?_)
   ·
    replace hm := iteT hm hs60
    refine wP rfl (wP rfl (wl_as (d := 62) (v' := .bool (v46_1 == 0)) (S' := [_,_,_,_,_,_,_,_,_,_]) rfl rfl (nateq (a := v46_1) (b := 0)) (wP rfl (wP rfl ?_))))
    refine wl_split (d := 64) (S' := [_,_,_,_,_,_,_,_,_,_,_,_]) rfl rfl (fun hs64 => ?_) (fun hs64 => ?_)
    ·
     replace hm := iteT hm hs64
     refine wP rfl (wP rfl (wl_as (d := 66) (v' := .bool (v51_1 == 0)) (S' := [_,_,_,_,_,_,_,_,_,_,_,_,_,_]) rfl rfl (nateq (a := v51_1) (b := 0)) (wP rfl (wP rfl ?_))))
     refine wl_split (d := 68) (S' := [_,_,_,_,_,_,_,_,_,_,_,_,_,_,_,_]) rfl rfl (fun hs68 => ?_) (fun hs68 => ?_)
     ·
      replace hm := iteT hm hs68
      refine wP rfl (wP rfl (wl_as (d := 70) (v' := .bool (v56_1 == 6)) (S' := [_,_,_,_,_,_,_,_,_,_,_,_,_,_,_,_,_,_]) rfl rfl (nateq (a := v56_1) (b := 6)) (wP rfl (wP rfl ?_))))
      refine wl_split (d := 72) (S' := [_,_,_,_,_,_,_,_,_,_,_,_,_,_,_,_,_,_,_,_]) rfl rfl (fun hs72 => ?_) (fun hs72 => ?_)
      ·
       replace hm := iteT hm hs72
       refine wP rfl (wl_bytesStr 2 rfl rfl rfl (freshS_eq rfl) rfl rfl rfl tD_28 tD_5 tD_9 (fun _ _ _ _ h => by obtain ⟨_, h, _⟩ := h; exact h) (wP rfl (wP rfl (wP rfl ?_))))
       refine wl_split (d := 77) (S' := [_,_,_,_,_,_,_,_,_,_,_,_,_,_,_,_,_,_,_,_,_,_,_,_,_]) rfl rfl (fun hs77 => ?_) (fun hs77 => ?_)
       ·
        replace hm := iteT hm hs77
        refine wP rfl (wl_bytesStr 1 rfl rfl rfl (freshS_eq rfl) rfl rfl rfl tD_28 tD_5 tD_9 (fun _ _ _ _ h => by obtain ⟨_, h, _⟩ := h; exact h) (wP rfl (wP rfl (wP rfl ?_))))
        refine wl_split (d := 82) (S' := [_,_,_,_,_,_,_,_,_,_,_,_,_,_,_,_,_,_,_,_,_,_,_,_,_,_,_,_,_,_]) rfl rfl (fun hs82 => ?_) (fun hs82 => ?_)
        ·
         replace hm := iteT hm hs82
         refine wP rfl ?_
         obtain ⟨v84, hc84, hm⟩ := bindO_some hm
         refine wC [0,1] [] rfl fn_15 rfl (w_net_Net_Count_s N c9_0 c9_1 v56_2 1 2 _ hc84) (asK [] rfl) rfl (H' := []) rfl ?_
         rintro _ _ _ ⟨rfl, rfl, rfl⟩
         refine wP rfl (wl_as (d := 85) (v' := .bool (v84 == 1)) (S' := [_,_,_,_,_,_,_,_,_,_,_,_,_,_,_,_,_,_,_,_,_,_,_,_,_,_,_,_,_,_,_,_,_]) rfl rfl (nateq (a := v84) (b := 1)) (wP rfl (wP rfl (wl_nil ?_))))
         have hE := (Option.some.inj hm).symm
         refine we_pick [] rfl (H' := []) rfl ?_
         refine we_join (v84 == 1) hE [0] rfl (asK [] rfl) rfl
        ·
         replace hm := iteF hm hs82
         refine wO rfl (wO rfl (wO rfl (wP rfl (wP rfl (wl_nil ?_)))))
         have hE := (Option.some.inj hm).symm
         refine we_pick [] rfl (H' := []) rfl ?_
         refine we_join false hE [0] rfl (asK [] rfl) rfl
       ·
        replace hm := iteF hm hs77
        refine wO rfl (wO rfl (wO rfl (wP rfl (wP rfl (wO rfl (wO rfl (wO rfl (wP rfl (wP rfl (wl_nil ?_))))))))))
        have hE := (Option.some.inj hm).symm
        refine we_pick [] rfl (H' := []) rfl ?_
        refine we_join false hE [0] rfl (asK [] rfl) rfl
      ·
       replace hm := iteF hm hs72
       refine wO rfl (wO rfl (wO rfl (wP rfl (wP rfl (wO rfl (wO rfl (wO rfl (wP rfl (wP rfl (wO rfl (wO rfl (wO rfl (wP rfl ?_)))))))))))))
       refine wP rfl (wl_nil ?_)
       have hE := (Option.some.inj hm).symm
       refine we_pick [] rfl (H' := []) rfl ?_
       refine we_join false hE [0] rfl (asK [] rfl) rfl
     ·
      replace hm := iteF hm hs68
      refine wO rfl (wO rfl (wP rfl (wP rfl (wO rfl (wO rfl (wO rfl (wP rfl (wP rfl (wO rfl (wO rfl (wO rfl (wP rfl (wP rfl ?_)))))))))))))
      refine wO rfl (wO rfl (wO rfl (wP rfl (wP rfl (wl_nil ?_)))))
      have hE := (Option.some.inj hm).symm
      refine we_pick [] rfl (H' := []) rfl ?_
      refine we_join false hE [0] rfl (asK [] rfl) rfl
    ·
     replace hm := iteF hm hs64
     refine wO rfl (wO rfl (wP rfl (wP rfl (wO rfl (wO rfl (wP rfl (wP rfl (wO rfl (wO rfl (wO rfl (wP rfl (wP rfl (wO rfl ?_)))))))))))))
     refine wO rfl (wO rfl (wP rfl (wP rfl (wO rfl (wO rfl (wO rfl (wP rfl (wP rfl (wl_nil ?_)))))))))
     have hE := (Option.some.inj hm).symm
     refine we_pick [] rfl (H' := []) rfl ?_
     refine we_join false hE [0] rfl (asK [] rfl) rfl
   ·
    replace hm := iteF hm hs60
    refine wO rfl (wO rfl (wP rfl (wP rfl (wO rfl (wO rfl (wP rfl (wP rfl (wO rfl (wO rfl (wP rfl (wP rfl (wO rfl (wO rfl ?_)))))))))))))
    refine wO rfl (wP rfl (wP rfl (wO rfl (wO rfl (wO rfl (wP rfl (wP rfl (wO rfl (wO rfl (wO rfl (wP rfl (wP rfl (wl_nil ?_)))))))))))))
    have hE := (Option.some.inj hm).symm
    refine we_pick [] rfl (H' := []) rfl ?_
    refine we_join false hE [0] rfl (asK [] rfl) rfl
  ·
   rintro j_2_0 hE
   try dsimp only
   have hm := hLj_2
   rw [hE] at hm
   refine wc_ret ?_
   have hE := (Option.some.inj hm).symm
   replace hE := hE.symm
   subst hE
   refine ret_one (Hr := []) [] Try.results6 (res_tmp rfl) ⟨rfl, rfl, rfl⟩ (asK [] rfl) rfl rfl (.inl rfl)
theorem Clone35o_s (p : Option Addr) (c : Nat) (l : List Int) (hb : l.length ≤ 140737488355328) : Spec Try.prog 35 [.slice p l.length c] [] [.own 5 1 R_u8 (.slice p l.length c) l] (fun v Φr Hr => ∃ p' c', v = .slice p' l.length c' ∧ Φr = [] ∧ Hr = [.own 5 1 R_u8 v l, .own 5 1 R_u8 (.slice p l.length c) l]) := by
 refine spec_of Try.func35 rfl Try.ntmps35 rfl (S := [_]) rfl (fun C => (wc_ownNil 0 rfl (fun isnil => (wc_seq (wc_region (wP rfl (wl_nil (we_then (wc_seq (wc_seq (wc_region (wP rfl (wl_eqlNil rfl rfl rfl (freshS_eq rfl) rfl rfl rfl tE_28 (wl_nil (we_then ?_)))))))))))))))
 refine wc_keep [4,2,0] (S' := [_,_,_]) rfl ?_
 refine wc_cond rfl (fun h4 => ?_) (fun h4 => ?_)
 ·
  replace h4 := isNone_true h4
  obtain rfl := isnil h4
  subst h4
  refine wc_rowNil 5 1 R_u8 (wc_seq (wc_region (wl_pure (S' := [_,_]) rfl rfl rfl rfl rfl (wl_nil (we_then (wc_ret (we_then_ret (ret_one (Hr := [.own 5 1 R_u8 (.slice none 0 0) [], .own 5 1 R_u8 (.slice none ([] : List Int).length c) ([] : List Int)]) [0,1] Try.results35 (res_tmp rfl) ?_ (asK [] rfl) rfl rfl (.inl rfl)))))))))
  exact ⟨none, 0, rfl, rfl, rfl⟩
 ·
  replace h4 := isNone_false h4
  refine wc_skip (we_then (wc_seq (wc_region (wl_buildSlice rfl rfl rfl (freshS_eq rfl) rfl tE_28 tS_5 tZ_5 rfl (zs := []) (by kernel_rfl) rfl (out := []) rfl (fun g5 => (wP rfl (wl_row (sz := 1) (m := 0) R_u8 [] 0 rfl (fun F w hφ => rfl) rfl (by decide) (H' := [_,_]) rfl (wl_appendO 0 1 rfl rfl rfl (freshS_eq rfl) rfl rfl rfl rfl rfl tE_28 tR_5 rfl rfl (by simp; omega) (by simp; omega) (H2 := fun p7 c7 => [.own 5 1 R_u8 (.slice p7 (l).length c7) l, .own 5 1 R_u8 (.slice p l.length c) l]) (fun _ _ => rfl) (fun p7 c7 => (wl_pure (S' := [_,_,_,_,_]) rfl rfl rfl rfl rfl (wl_nil (we_then (wc_keep [2,4,0] (S' := [_,_,_]) rfl (wc_ret (ret_one (Hr := [.own 5 1 R_u8 (.slice p7 (l).length c7) l, .own 5 1 R_u8 (.slice p l.length c) l]) [0,1] Try.results35 (res_tmp rfl) ?_ (asK [] rfl) rfl rfl (.inl rfl))))))))))))))))
  exact ⟨_,_, rfl, rfl, rfl⟩
theorem w_net_bags_put_v2_s (N : Nat) (qb0 : Nat) (e0 : List ((Int × Int) × List (List Int))) (a1 : Int) (a2 : Int) (qp1 : Option Addr) (qn2 : Nat) (qc3 : Nat) (l3 : List Int) (o0 : Nat) (o1 : List ((Int × Int) × List (List Int))) (hm : m_net_bags_put N e0 a1 a2 l3 = some (o0, o1)) : Spec Try.prog 27 [.map (some qb0), .agg #[.int .i64 a1, .int .i64 a2], .slice qp1 qn2 qc3] [] [mapG (keyOfK pairKey57) (Fact.own 28 1 R_l_u8) none qb0 e0, .own 5 1 R_u8 (.slice qp1 qn2 qc3) l3] (fun v Φr Hr => v = .int .i64 ((o0 : Nat) : Int) ∧ Φr = [] ∧ Hr = [mapG (keyOfK pairKey57) (Fact.own 28 1 R_l_u8) none qb0 o1, .own 5 1 R_u8 (.slice qp1 qn2 qc3) l3]) := by
 unfold m_net_bags_put at hm
 refine spec_of Try.func27 rfl Try.ntmps27 rfl (S := [_,_,_]) rfl (fun C => (wc_seq (wc_region (wB rfl (fun g4 => (wP rfl (wl_nil (we_then (wc_keep [4,0,2] (S' := [_,_,_]) rfl (wc_seq (wc_block (wc_seq (wc_region (wP rfl (wl_bin rfl rfl rfl (freshS_eq rfl) rfl rfl rfl (eqlM tM_50 _ _ _) ?_)))))))))))))))
 refine wP rfl (wl_nil (we_then (wc_keep [7,4,0,2] (S' := [_,_,_,_]) rfl (wc_false rfl (wc_keep [4,0,2] (S' := [_,_,_]) rfl (wc_seq (wc_region (wP rfl (wl_ownLen 2 rfl (fun hl12 _ => (wN rfl tE_28 (wl_as (d := 12) (v' := .int .i64 ((l3.length : Nat) : Int)) (S' := [_,_,_,_]) rfl rfl (len_is hl12) (wP rfl (wl_as (d := 13) (v' := .bool (decide (1048576 < l3.length))) (S' := [_,_,_,_,_]) rfl rfl (natgt (a := l3.length) (b := 1048576)) ?_))))))))))))))
 refine wP rfl (wl_nil (we_then (wc_keep [10,4,0,2] (S' := [_,_,_,_]) rfl ?_)))
 refine wc_cond rfl (fun hb10 => ?_) (fun hb10 => ?_)
 ·
  replace hm := iteT hm hb10
  refine wc_keep [] (S' := []) rfl (wc_seq (wc_region (wP rfl (wl_nil (we_then (wc_ret (we_block_ret (we_then_ret ?_))))))))
  have hE := (Option.some.inj hm).symm
  obtain ⟨hE0, hE1⟩ := Prod.mk.inj hE
  clear hE
  replace hE0 := hE0.symm
  subst hE0
  replace hE1 := hE1.symm
  subst hE1
  refine ret_one (Hr := [_,_]) [1,2] Try.results27 (res_tmp rfl) ⟨rfl, rfl, rfl⟩ (asK [] rfl) rfl rfl (.inl rfl)
 ·
  replace hm := iteF hm hb10
  refine wc_keep [4,0,2] (S' := [_,_,_]) rfl (wc_seq (wc_region (wP rfl (wl_loadH 0 0 rfl rfl rfl (freshS_eq rfl) rfl rfl rfl (cs := [_,_]) rfl tS_57 tA_57 rfl rfl ?_))))
  obtain ⟨hk17_0, hm⟩ := gd_some hm
  obtain ⟨hk17_1, hm⟩ := gd_some hm
  obtain ⟨l17, hl17, hm⟩ := bindO_some hm
  refine wl_lookG (i := (a1, a2)) (l := l17) form_own 1 rfl rfl rfl (freshS_eq rfl) rfl rfl rfl rfl tZG_26 tM_50 ⟨hk17_0, hk17_1⟩ (Option.some.inj hl17) (fun p17 c17 => (wN rfl tE_26 (wP rfl (wl_as (d := 19) (v' := .bool (decide (64 ≤ l17.length))) (S' := [_,_,_,_,_,_,_]) rfl rfl (natge (a := l17.length) (b := 64)) (wP rfl (wl_nil (we_then (wc_keep [14,4,0,2] (S' := [_,_,_,_]) rfl ?_))))))))
  refine wc_cond rfl (fun hb14 => ?_) (fun hb14 => ?_)
  ·
   replace hm := iteT hm hb14
   refine wc_keep [] (S' := []) rfl (wc_seq (wc_region (wP rfl (wl_nil (we_then (wc_ret (we_block_ret (we_then_ret ?_))))))))
   have hE := (Option.some.inj hm).symm
   obtain ⟨hE0, hE1⟩ := Prod.mk.inj hE
   clear hE
   replace hE0 := hE0.symm
   subst hE0
   replace hE1 := hE1.symm
   subst hE1
   refine we_sh [.blk g4 [.int .i64 a1, .int .i64 a2] 57, mapG (keyOfK pairKey57) (Fact.own 28 1 R_l_u8) none qb0 e0, .own 5 1 R_u8 (.slice qp1 qn2 qc3) l3] (fun _ h => h.closeG 2 0 rfl rfl rfl (Option.some.inj hl17)) ?_
   skip
   refine ret_one (Hr := [_,_]) [1,2] Try.results27 (res_tmp rfl) ⟨rfl, rfl, rfl⟩ (asK [] rfl) rfl rfl (.inl rfl)
  ·
   replace hm := iteF hm hb14
   refine wc_keep [4,0,2] (S' := [_,_,_]) rfl (wc_skip (we_block_normal (we_then (wc_seq ?_))))
   obtain ⟨hg24, hm⟩ := gd_some hm
   skip
   obtain ⟨l26, hl26, hm⟩ := bindO_some hm
   obtain ⟨hg27, hm⟩ := gd_some hm
   refine wc_draw [0,1,2,6,8] rfl rfl (fun hok => (xP hok 0 rfl (wx_loadH hok 1 1 0 rfl rfl rfl (freshS_eq rfl) rfl rfl rfl rfl (cs := [_,_]) rfl tS_57 tA_57 rfl rfl (xP hok 2 rfl (xS hok 3 rfl (wl_ownLen 3 rfl (fun hzqn2 _ => ?_)))))))
   subst hzqn2
   refine wC [3] [0,1,2] rfl fn_35 rfl (Clone35o_s qp1 qc3 l3 hg24) (asK [] rfl) rfl (H' := [_,_,_]) rfl ?_
   rintro _ _ _ ⟨p24, c24, rfl, rfl, rfl⟩
   refine wl_nil (we_x [] [3] rfl rfl (xS hok 4 rfl (wl_buildSlice rfl rfl rfl (freshS_eq rfl) rfl tE_26 tS_28 tZ_28 rfl (zs := [.slice none 0 0]) (by kernel_rfl) rfl (out := [_]) rfl (fun g25 => (wl_nil (we_x [] [4] rfl rfl (xS hok 5 rfl (wl_sh [.blk g25 [.slice p24 l3.length c24] 28, .own 5 1 R_u8 (.slice p24 l3.length c24) l3, .own 5 1 R_u8 (.slice qp1 l3.length qc3) l3, .blk g4 [.int .i64 a1, .int .i64 a2] 57, mapG (keyOfK pairKey57) (Fact.own 28 1 R_l_u8) none qb0 e0] (fun _ h => h.closeG 5 3 rfl rfl rfl (Option.some.inj hl17)) ?_))))))))
   skip
   refine wl_entryG (i := (a1, a2)) (l := l26) form_own 4 rfl rfl rfl (freshS_eq rfl) rfl rfl rfl rfl tZG_26 tM_50 ⟨hk17_0, hk17_1⟩ (Option.some.inj hl26) (fun p26 c26 g26 => (wl_nil (we_x [] [] rfl rfl (xP hok 6 rfl (xP hok 8 rfl (xS hok 7 rfl (wl_freeze 2 rfl (H' := [_,_,_,_,_]) rfl (wl_fact (.sli 1 R_u8 p24 c24 l3) (fun F w hφ => own_sli (hφ _ (mem_at (k := 0) rfl))) (wl_appendH [l3] 0 1 rfl rfl rfl (freshS_eq rfl) rfl rfl rfl rfl rfl (fun F w hφ => ⟨[.slice p24 l3.length c24],[], rfl, rfl, ⟨(p24, c24), rfl, (ask_cons (hφ _ (mem_at (k := 0) rfl)) ask_nil)⟩, rfl⟩) tE_26 tR_28 rfl rfl (Nat.le_trans hg27 (by decide)) (Nat.le_trans (Nat.mul_le_mul_right _ hg27) (by decide)) (H2 := fun p27 c27 => [.own 28 1 R_l_u8 (.slice p27 ((l26 ++ [l3]).length) c27) (l26 ++ [l3]), _,_,_,_]) (fun _ _ => rfl) (fun p27 c27 => (wl_drop 1 rfl (H' := [_,_,_,_]) rfl (wl_nil (we_x [] [2] rfl rfl (xS hok 9 rfl (wl_entryStore (i := (a1, a2)) (u := .slice p27 ((l26 ++ [l3]).length) c27) 3 (l26 ++ [l3]) rfl rfl rfl rfl rfl rfl rfl tM_50 ⟨hk17_0, hk17_1⟩ rfl (H' := [_,_,_, mapG (keyOfK pairKey57) (Fact.own 28 1 R_l_u8) (some ((a1, a2), .slice p27 ((l26 ++ [l3]).length) c27)) qb0 (mput (a1, a2) (l26 ++ [l3]) e0)]) rfl ?_)))))))))))))))
   refine wl_nil (we_x [0,1] [] rfl rfl (wx_done hok rfl (we_then (wc_keep [] (S' := []) rfl (wc_seq (wc_region (wP rfl (wl_nil (we_then (wc_ret ?_))))))))))
   have hE := (Option.some.inj hm).symm
   obtain ⟨hE0, hE1⟩ := Prod.mk.inj hE
   clear hE
   replace hE0 := hE0.symm
   subst hE0
   replace hE1 := hE1.symm
   subst hE1
   refine we_sh [.own 5 1 R_u8 (.slice qp1 l3.length qc3) l3, .blk g4 [.int .i64 a1, .int .i64 a2] 57, mapG (keyOfK pairKey57) (Fact.own 28 1 R_l_u8) none qb0 (mput (a1, a2) (l26 ++ [l3]) e0)] (fun _ h => h.closeG 3 0 rfl rfl rfl (by rw [mlook_mput]; rfl)) ?_
   skip
   refine ret_one (Hr := [_,_]) [2,0] Try.results27 (res_tmp rfl) ⟨rfl, rfl, rfl⟩ (asK [] rfl) rfl rfl (.inl rfl)
theorem w_net_Net_Send_v2_s (N : Nat) (qg0 : Nat) (qb1 : Nat) (e0 : List ((Int × Int) × List (List Int))) (a1 : Int) (a2 : Int) (qp2 : Option Addr) (qn3 : Nat) (qc4 : Nat) (l3 : List Int) (o0 : Nat) (o1 : List ((Int × Int) × List (List Int))) (hm : m_net_Net_Send N e0 a1 a2 l3 = some (o0, o1)) : Spec Try.prog 13 [.pointer (some ⟨qg0,0, none⟩), .int .i64 a1, .int .i64 a2, .slice qp2 qn3 qc4] [] [.blk qg0 [.map (some qb1)] 54, mapG (keyOfK pairKey57) (Fact.own 28 1 R_l_u8) none qb1 e0, .own 5 1 R_u8 (.slice qp2 qn3 qc4) l3] (fun v Φr Hr => v = .int .i64 ((o0 : Nat) : Int) ∧ Φr = [] ∧ Hr = [.blk qg0 [.map (some qb1)] 54, mapG (keyOfK pairKey57) (Fact.own 28 1 R_l_u8) none qb1 o1, .own 5 1 R_u8 (.slice qp2 qn3 qc4) l3]) := by
 unfold m_net_Net_Send at hm
 refine spec_of Try.func13 rfl Try.ntmps13 rfl (S := [_,_,_,_]) rfl (fun C => (wc_seq (wc_region (wP rfl (wl_nil (we_then (wc_keep [0,1,2,3] (S' := [_,_,_,_]) rfl (wc_seq (wc_region (wP rfl ?_))))))))))
 obtain ⟨_, hc10, hm⟩ := bindO_some hm
 try dsimp only at hm
 refine wC [0,1] [2] rfl fn_24 rfl (w_net_Net_all_s N qg0 qb1 e0 hc10) (asK [] rfl) rfl (H' := [_]) rfl ?_
 rintro _ _ _ ⟨rfl, rfl, rfl⟩
 refine wP rfl (wP rfl (wl_buildArr rfl rfl rfl (freshS_eq rfl) rfl tZ_57 tArr_57 rfl (out := [_,_]) rfl (wP rfl (wl_ownLen 2 rfl (fun hzqn3 _ => ?_)))))
 subst hzqn3
 obtain ⟨⟨v15_0, v15_1⟩, hc15, hm⟩ := bindO_some hm
 try dsimp only at hm
 refine wC [0,2] [1] rfl fn_27 rfl (w_net_bags_put_v2_s N qb1 e0 a1 a2 qp2 l3.length qc4 l3 _ _ hc15) (asK [] rfl) rfl (H' := [_]) rfl ?_
 rintro _ _ _ ⟨rfl, rfl, rfl⟩
 refine wP rfl (wl_nil (we_then (wc_keep [8] (S' := [_]) rfl (wc_ret ?_))))
 have hE := (Option.some.inj hm).symm
 obtain ⟨hE0, hE1⟩ := Prod.mk.inj hE
 clear hE
 replace hE0 := hE0.symm
 subst hE0
 replace hE1 := hE1.symm
 subst hE1
 refine ret_one (Hr := [_,_,_]) [2,0,1] Try.results13 (res_tmp rfl) ⟨rfl, rfl, rfl⟩ (asK [] rfl) rfl rfl (.inl rfl)
theorem w_ropewalklaw20_NetNumbers_s (N : Nat)  (o0 : Bool) (hm : m_ropewalklaw20_NetNumbers N = some o0) : Spec Try.prog 5 [] [] [] (fun v Φr Hr => v = .bool o0 ∧ Φr = [] ∧ Hr = []) := by
 unfold m_ropewalklaw20_NetNumbers at hm
 refine spec_of Try.func5 rfl Try.ntmps5 rfl (S := []) rfl (fun C => (wc_seq (wc_region (wP rfl (wl_nil (we_then (wc_keep [] (S' := []) rfl (wc_seq (wc_region ?_)))))))))
 obtain ⟨_, hc18, hm⟩ := bindO_some hm
 try dsimp only at hm
 refine wC [] [] rfl fn_7 rfl (w_net_New_s N  hc18) (asK [] rfl) rfl (H' := []) rfl ?_
 rintro _ _ _ ⟨c18_0, c18_1, rfl, rfl, rfl⟩
 refine wP rfl (wl_nil (we_then (wc_keep [1] (S' := [_]) rfl (wc_seq (wc_region (wP rfl (wP rfl (wl_nil (we_then (wc_seq ?_))))))))))
 obtain ⟨bj_1, hm, hLj_1⟩ := bindS_some hm
 refine wc_cut (σ := List ((Int × Int) × List (List Int))) (fun j_1_1_f0_m => bj_1 = .inl j_1_1_f0_m) (fun j_1_1_f0_m => [(1, .pointer (some ⟨c18_0,0, none⟩)), (2, .int .i64 (-9223372036854775808)), (3, .int .i64 9223372036854775807)]) (fun j_1_1_f0_m => []) (fun j_1_1_f0_m => [.blk c18_0 [.map (some c18_1)] 54, mapG (keyOfK pairKey57) (Fact.own 28 1 R_l_u8) none c18_1 j_1_1_f0_m]) ?_ ?_
 ·
  refine wc_seq (wc_region (wP rfl (wl_nil (we_then (wc_block (wc_loop (σ := Nat × Nat × (List ((Int × Int) × List (List Int)))) (fun (nu1, u1_4, u1_1_f0_m) => iter (m_ropewalklaw20_NetNumbers_L1 N) nu1 (u1_4, u1_1_f0_m) = some bj_1) (fun (nu1, u1_4, u1_1_f0_m) => nu1) (fun (nu1, u1_4, u1_1_f0_m) => [(4, .int .i64 ((u1_4 : Nat) : Int)), (3, .int .i64 9223372036854775807), (2, .int .i64 (-9223372036854775808)), (1, .pointer (some ⟨c18_0,0, none⟩))]) (fun (nu1, u1_4, u1_1_f0_m) => []) (fun (nu1, u1_4, u1_1_f0_m) => [.blk c18_0 [.map (some c18_1)] 54, mapG (keyOfK pairKey57) (Fact.own 28 1 R_l_u8) none c18_1 u1_1_f0_m]) (N, 0, ([] : List ((Int × Int) × List (List Int)))) hm [4,3,2,1] rfl (asK [] rfl) rfl (fun s_ hm => ?_)))))))
  obtain ⟨nu1, u1_4, u1_1_f0_m⟩ := s_
  try dsimp only at hm ⊢
  obtain ⟨mu1, bu1, hnu1, hq, hLu1⟩ := iter_some hm
  clear hm
  subst hnu1
  replace hm := hq
  clear hq
  unfold m_ropewalklaw20_NetNumbers_L1 at hm
  try dsimp only at hm
  refine wc_seq (wc_seq (wc_region (wP rfl (wP rfl (wl_as (d := 20) (v' := .bool (decide (u1_4 < 64))) (S' := [_,_,_,_,_]) rfl rfl (natlt (a := u1_4) (b := 64)) (wl_nil (we_then (wc_keep [20,4,3,2,1] (S' := [_,_,_,_,_]) rfl ?_))))))))
  refine wc_cond rfl (fun hb20 => ?_) (fun hb20 => ?_)
  ·
   replace hm := iteT hm hb20
   refine wc_keep [4,3,2,1] (S' := [_,_,_,_]) rfl (wc_skip (we_then (wc_seq (wc_block (wc_seq (wc_region (wP rfl (wP rfl (wP rfl (wP rfl (wl_reck rfl rfl rfl (freshS_eq rfl) (rk_conv rfl rfl tI_3 tI_5) (wl_buildSlice rfl rfl rfl (freshS_eq rfl) rfl tE_28 tS_5 tZ_5 rfl (zs := [.int .u8 0]) (by kernel_rfl) rfl (out := [_]) rfl (fun g28 => (wl_row (sz := 1) (m := 1) R_u8 ([(IntKind.wrap .u8 ((u1_4 : Nat) : Int))]) 0 rfl (fun F w hφ => ⟨[.int .u8 (IntKind.wrap .u8 ((u1_4 : Nat) : Int))],[], rfl, rfl, ⟨(), rfl, ask_nil⟩, rfl⟩) rfl (by decide) (H' := [_,_,_]) rfl ?_))))))))))))))
   obtain ⟨⟨v29_0, v29_1⟩, hc29, hm⟩ := bindO_some hm
   try dsimp only at hm
   refine wC [1,2,0] [] rfl fn_13 rfl (w_net_Net_Send_v2_s N c18_0 c18_1 u1_1_f0_m (-9223372036854775808) 9223372036854775807 (some ⟨g28,0, none⟩) ([(IntKind.wrap .u8 ((u1_4 : Nat) : Int))].length) 1 [(IntKind.wrap .u8 ((u1_4 : Nat) : Int))] _ _ hc29) (asK [] rfl) rfl (H' := []) rfl ?_
   rintro _ _ _ ⟨rfl, rfl, rfl⟩
   refine wP rfl (wl_as (d := 30) (v' := .bool (v29_0 != 0)) (S' := [_,_,_,_,_,_,_,_,_,_,_]) rfl rfl (natne (a := v29_0) (b := 0)) (wl_nil (we_then (wc_keep [30,4,3,2,1] (S' := [_,_,_,_,_]) rfl ?_))))
   refine wc_cond rfl (fun hb30 => ?_) (fun hb30 => ?_)
   ·
    replace hm := iteT hm hb30
    refine wc_keep [] (S' := []) rfl (wc_seq (wc_region (wP rfl (wl_nil (we_then (wc_ret (we_block_ret (we_then_ret (we_then_ret (we_block_ret (we_then_ret ?_)))))))))))
    have hE := (Option.some.inj hm).symm
    replace hE := link_inr hLu1 hE
    replace hE := link_inr hLj_1 hE
    replace hE := hE.symm
    subst hE
    refine ret_one (Hr := []) [] Try.results5 (res_tmp rfl) ⟨rfl, rfl, rfl⟩ (asK [] rfl) rfl rfl (.inl rfl)
   ·
    replace hm := iteF hm hb30
    refine wc_keep [4,3,2,1] (S' := [_,_,_,_]) rfl (wc_skip (we_block_normal (we_then (wc_region (wP rfl (wP rfl ?_))))))
    obtain ⟨hg22, hm⟩ := gd_some hm
    refine wl_as (d := 22) (v' := .int .i64 ((u1_4 + 1 : Nat) : Int)) (S' := [_,_,_,_,_]) rfl rfl (nat_add (a := u1_4) (b := 1) hg22) (wl_pure (S' := [_,_,_,_,_]) rfl rfl rfl rfl rfl (wl_nil ?_))
    have hE := (Option.some.inj hm).symm
    replace hE := link_inl hLu1 hE
    refine we_pick [0,1] rfl (H' := [_,_]) rfl ?_
    refine we_roundK (_, u1_4 + 1, v29_1) (Nat.lt_succ_self _) hE [4,3,2,1] rfl (asK [] rfl) rfl
  ·
   replace hm := iteF hm hb20
   refine wc_keep [3,2,1] (S' := [_,_,_]) rfl (wc_exit (we_then_exit (we_then_exit (we_block_hit ?_))))
   have hE := (Option.some.inj hm).symm
   replace hE := link_inr hLu1 hE
   refine we_join u1_1_f0_m hE [1,2,3] rfl (asK [] rfl) rfl
 ·
  rintro j_1_1_f0_m hE
  try dsimp only
  have hm := link_inl hLj_1 hE
  refine wc_seq (wc_seq ?_)
  obtain ⟨bj_2, hm, hLj_2⟩ := bindO_some hm
  unfold m_ropewalklaw20_NetNumbers_C2 at hm
  refine wc_cut (σ := (List ((Int × Int) × List (List Int))) × Bool) (fun (j_2_1_f0_m, j_2_64) => bj_2 = (j_2_1_f0_m, j_2_64)) (fun (j_2_1_f0_m, j_2_64) => [(1, .pointer (some ⟨c18_0,0, none⟩)), (2, .int .i64 (-9223372036854775808)), (3, .int .i64 9223372036854775807), (64, .bool j_2_64)]) (fun (j_2_1_f0_m, j_2_64) => []) (fun (j_2_1_f0_m, j_2_64) => [.blk c18_0 [.map (some c18_1)] 54, mapG (keyOfK pairKey57) (Fact.own 28 1 R_l_u8) none c18_1 j_2_1_f0_m]) ?_ ?_
  ·
   refine wc_region (wP rfl (wP rfl (wP rfl (wl_fact (.sli 1 R_u8 none 0 ([] : List Int)) (fun _ _ _ => sli_none) ?_))))
   obtain ⟨⟨v34_0, v34_1⟩, hc34, hm⟩ := bindO_some hm
   try dsimp only at hm
   refine wC [0,1] [] rfl fn_13 rfl (w_net_Net_Send_s N c18_0 c18_1 j_1_1_f0_m (-9223372036854775808) 9223372036854775807 none 0 ([] : List Int) _ _ hc34) (asK [0] rfl) rfl (H' := []) rfl ?_
   rintro _ _ _ ⟨rfl, rfl, rfl⟩
   refine wP rfl (wl_as (d := 35) (v' := .bool (v34_0 != 5)) (S' := [_,_,_,_,_,_,_]) rfl rfl (natne (a := v34_0) (b := 5)) (wP rfl ?_))
   refine wl_split (d := 36) (S' := [_,_,_,_,_,_,_,_]) rfl rfl (fun hs36 => ?_) (fun hs36 => ?_)
   ·
    replace hm := iteT hm hs36
    refine wO rfl (wO rfl (wO rfl (wO rfl (wO rfl (wO rfl (wP rfl (wP rfl (wO rfl (wO rfl (wO rfl (wO rfl (wO rfl (wP rfl ?_)))))))))))))
    refine wP rfl (wO rfl (wO rfl (wO rfl (wO rfl (wO rfl (wP rfl (wP rfl (wO rfl (wO rfl (wO rfl (wO rfl (wO rfl (wP rfl ?_)))))))))))))
    refine wl_nil ?_
    have hE := (Option.some.inj hm).symm
    refine we_join (v34_1, true) hE [1,2,3,64] rfl (asK [] rfl) rfl
   ·
    replace hm := iteF hm hs36
    refine wP rfl (wP rfl (wP rfl ?_))
    obtain ⟨hg40, hm⟩ := gd_some hm
    refine wl_makeSlice (m := 1048577) R_u8 0 rfl rfl rfl (freshS_eq rfl) rfl rfl rfl rfl rfl tE_28 tR_5 rfl rfl (fun _ _ => ⟨(), rfl, ask_nil⟩) (Nat.le_trans (Nat.mul_le_mul_left _ hg40) (by decide)) (Nat.le_trans hg40 (by decide)) (fun g40 => ?_)
    obtain ⟨lz40, hlz40, hm⟩ := bindO_some hm
    refine wl_hAs 0 (φ' := .own 5 1 R_u8 (.slice (some ⟨g40,0, none⟩) 1048577 1048577) lz40) rfl (by rw [Option.some.inj hlz40]) (H' := [_,_,_]) rfl (wl_ownLen 0 rfl (fun hz3 _ => (wl_at 0 (v' := .slice (some ⟨g40,0, none⟩) lz40.length 1048577) rfl (by first | rfl | rw [hz3]) (wl_hAs 0 (φ' := .own 5 1 R_u8 (.slice (some ⟨g40,0, none⟩) lz40.length 1048577) lz40) rfl (by first | rfl | rw [hz3]) (H' := [_,_,_]) rfl ?_))))
    obtain ⟨⟨v41_0, v41_1⟩, hc41, hm⟩ := bindO_some hm
    try dsimp only at hm
    refine wC [1,2,0] [] rfl fn_13 rfl (w_net_Net_Send_v2_s N c18_0 c18_1 v34_1 (-9223372036854775808) 9223372036854775807 (some ⟨g40,0, none⟩) lz40.length 1048577 lz40 _ _ hc41) (asK [] rfl) rfl (H' := []) rfl ?_
    rintro _ _ _ ⟨rfl, rfl, rfl⟩
    refine wP rfl (wl_as (d := 42) (v' := .bool (v41_0 != 3)) (S' := [_,_,_,_,_,_,_,_,_,_,_,_,_,_]) rfl rfl (natne (a := v41_0) (b := 3)) (wP rfl (wP rfl ?_)))
    refine wl_split (d := 44) (S' := [_,_,_,_,_,_,_,_,_,_,_,_,_,_,_,_]) rfl rfl (fun hs44 => ?_) (fun hs44 => ?_)
    ·
     replace hm := iteT hm hs44
     refine wO rfl (wO rfl (wO rfl (wO rfl (wO rfl (wP rfl (wP rfl (wO rfl (wO rfl (wO rfl (wO rfl (wO rfl (wP rfl (wP rfl ?_)))))))))))))
     refine wO rfl (wO rfl (wO rfl (wO rfl (wO rfl (wP rfl (wl_nil ?_))))))
     have hE := (Option.some.inj hm).symm
     refine we_pick [0,1] rfl (H' := [_,_]) rfl ?_
     refine we_join (v41_1, true) hE [1,2,3,64] rfl (asK [] rfl) rfl
    ·
     replace hm := iteF hm hs44
     refine wP rfl (wP rfl (wP rfl ?_))
     obtain ⟨⟨v48_0, v48_1⟩, hc48, hm⟩ := bindO_some hm
     try dsimp only at hm
     refine wC [0,1] [2] rfl fn_12 rfl (w_net_Net_Double_s N c18_0 c18_1 v41_1 (-9223372036854775808) 9223372036854775807 0 _ _ hc48) (asK [] rfl) rfl (H' := [_]) rfl ?_
     rintro _ _ _ ⟨rfl, rfl, rfl⟩
     refine wP rfl (wl_as (d := 49) (v' := .bool (v48_0 != 5)) (S' := [_,_,_,_,_,_,_,_,_,_,_,_,_,_,_,_,_,_,_,_,_]) rfl rfl (natne (a := v48_0) (b := 5)) (wP rfl (wP rfl ?_)))
     refine wl_split (d := 51) (S' := [_,_,_,_,_,_,_,_,_,_,_,_,_,_,_,_,_,_,_,_,_,_,_]) rfl rfl (fun hs51 => ?_) (fun hs51 => ?_)
     ·
      replace hm := iteT hm hs51
      refine wO rfl (wO rfl (wO rfl (wO rfl (wO rfl (wP rfl (wP rfl (wO rfl (wO rfl (wO rfl (wO rfl (wO rfl (wP rfl (wl_nil ?_)))))))))))))
      have hE := (Option.some.inj hm).symm
      refine we_pick [0,1] rfl (H' := [_,_]) rfl ?_
      refine we_join (v48_1, true) hE [1,2,3,64] rfl (asK [] rfl) rfl
     ·
      replace hm := iteF hm hs51
      refine wP rfl (wP rfl (wP rfl ?_))
      obtain ⟨⟨v55_0, v55_1⟩, hc55, hm⟩ := bindO_some hm
      try dsimp only at hm
      refine wC [0,1] [2] rfl fn_12 rfl (w_net_Net_Double_s N c18_0 c18_1 v48_1 (-9223372036854775808) 9223372036854775807 64 _ _ hc55) (asK [] rfl) rfl (H' := [_]) rfl ?_
      rintro _ _ _ ⟨rfl, rfl, rfl⟩
      refine wP rfl (wl_as (d := 56) (v' := .bool (v55_0 != 6)) (S' := [_,_,_,_,_,_,_,_,_,_,_,_,_,_,_,_,_,_,_,_,_,_,_,_,_,_,_,_]) rfl rfl (natne (a := v55_0) (b := 6)) (wP rfl (wP rfl ?_)))
      refine wl_split (d := 58) (S' := [_,_,_,_,_,_,_,_,_,_,_,_,_,_,_,_,_,_,_,_,_,_,_,_,_,_,_,_,_,_]) rfl rfl (fun hs58 => ?_) (fun hs58 => ?_)
      ·
       replace hm := iteT hm hs58
       refine wO rfl (wO rfl (wO rfl (wO rfl (wO rfl (wP rfl (wl_nil ?_))))))
       have hE := (Option.some.inj hm).symm
       refine we_pick [0,1] rfl (H' := [_,_]) rfl ?_
       refine we_join (v55_1, true) hE [1,2,3,64] rfl (asK [] rfl) rfl
      ·
       replace hm := iteF hm hs58
       refine wP rfl (wP rfl (wP rfl ?_))
       obtain ⟨v62, hc62, hm⟩ := bindO_some hm
       refine wC [0,1] [2] rfl fn_15 rfl (w_net_Net_Count_s N c18_0 c18_1 v55_1 (-9223372036854775808) 9223372036854775807 _ hc62) (asK [] rfl) rfl (H' := [_]) rfl ?_
       rintro _ _ _ ⟨rfl, rfl, rfl⟩
       refine wP rfl (wl_as (d := 63) (v' := .bool (v62 != 64)) (S' := [_,_,_,_,_,_,_,_,_,_,_,_,_,_,_,_,_,_,_,_,_,_,_,_,_,_,_,_,_,_,_,_,_,_,_]) rfl rfl (natne (a := v62) (b := 64)) (wP rfl (wl_nil ?_)))
       have hE := (Option.some.inj hm).symm
       refine we_pick [0,1] rfl (H' := [_,_]) rfl ?_
       refine we_join (v55_1, v62 != 64) hE [1,2,3,64] rfl (asK [] rfl) rfl
  ·
   rintro ⟨j_2_1_f0_m, j_2_64⟩ hE
   try dsimp only
   have hm := hLj_2
   rw [hE] at hm
   try dsimp only at hm
   refine wc_cond rfl (fun hb64 => ?_) (fun hb64 => ?_)
   ·
    replace hm := iteT hm hb64
    refine wc_keep [] (S' := []) rfl (wc_seq (wc_region (wP rfl (wl_nil (we_then (wc_ret (we_then_ret ?_)))))))
    have hE := (Option.some.inj hm).symm
    replace hE := hE.symm
    subst hE
    refine ret_one (Hr := []) [] Try.results5 (res_tmp rfl) ⟨rfl, rfl, rfl⟩ (asK [] rfl) rfl rfl (.inl rfl)
   ·
    replace hm := iteF hm hb64
    refine wc_keep [1,2,3] (S' := [_,_,_]) rfl (wc_skip (we_then (wc_seq (wc_region (wP rfl (wP rfl (wP rfl ?_)))))))
    obtain ⟨⟨v69_0, v69_1, v69_2⟩, hc69, hm⟩ := bindO_some hm
    try dsimp only at hm
    refine wC [0,1] [] rfl fn_9 rfl (w_net_Net_Take_s N c18_0 c18_1 j_2_1_f0_m (-9223372036854775808) 9223372036854775807 64 _ _ _ hc69) (asK [] rfl) rfl (H' := []) rfl ?_
    rintro _ _ _ ⟨p69_0, c69_1, rfl, rfl, rfl⟩
    refine wP rfl (wP rfl (wP rfl (wP rfl (wP rfl (wl_nil (we_then (wc_keep [6,1,2,3] (S' := [_,_,_,_]) rfl (wc_seq (wc_region (wP rfl (wP rfl (wP rfl ?_))))))))))))
    obtain ⟨⟨v76_0, v76_1, v76_2⟩, hc76, hm⟩ := bindO_some hm
    try dsimp only at hm
    refine wC [0,1] [] rfl fn_9 rfl (w_net_Net_Take_s N c18_0 c18_1 v69_2 (-9223372036854775808) 9223372036854775807 (-1) _ _ _ hc76) (asK [] rfl) rfl (H' := []) rfl ?_
    rintro _ _ _ ⟨p76_0, c76_1, rfl, rfl, rfl⟩
    refine wP rfl (wP rfl (wP rfl (wP rfl (wP rfl (wl_nil (we_then (wc_keep [8,6,1,2,3] (S' := [_,_,_,_,_]) rfl (wc_seq (wc_region (wP rfl (wP rfl (wP rfl ?_))))))))))))
    obtain ⟨⟨v83_0, v83_1, v83_2⟩, hc83, hm⟩ := bindO_some hm
    try dsimp only at hm
    refine wC [0,1] [] rfl fn_9 rfl (w_net_Net_Take_s N c18_0 c18_1 v76_2 (-9223372036854775808) 9223372036854775807 63 _ _ _ hc83) (asK [] rfl) rfl (H' := []) rfl ?_
    rintro _ _ _ ⟨p83_0, c83_1, rfl, rfl, rfl⟩
    refine wP rfl (wP rfl (wP rfl (wP rfl (wP rfl (wl_nil (we_then (wc_keep [10,9,8,6,1,2,3] (S' := [_,_,_,_,_,_,_]) rfl (wc_seq (wc_region (wP rfl (wP rfl (wP rfl ?_))))))))))))
    obtain ⟨⟨v89_0, v89_1⟩, hc89, hm⟩ := bindO_some hm
    try dsimp only at hm
    refine wC [0,1] [] rfl fn_12 rfl (w_net_Net_Double_s N c18_0 c18_1 v83_2 (-9223372036854775808) 9223372036854775807 62 _ _ hc89) (asK [] rfl) rfl (H' := []) rfl ?_
    rintro _ _ _ ⟨rfl, rfl, rfl⟩
    refine wP rfl (wl_nil (we_then (wc_keep [11,10,9,8,6,1,2,3] (S' := [_,_,_,_,_,_,_,_]) rfl (wc_seq (wc_region (wP rfl (wP rfl (wP rfl ?_))))))))
    obtain ⟨⟨v94_0, v94_1, v94_2⟩, hc94, hm⟩ := bindO_some hm
    try dsimp only at hm
    refine wC [0,1] [] rfl fn_9 rfl (w_net_Net_Take_s N c18_0 c18_1 v89_1 (-9223372036854775808) 9223372036854775807 63 _ _ _ hc94) (asK [] rfl) rfl (H' := []) rfl ?_
    rintro _ _ _ ⟨p94_0, c94_1, rfl, rfl, rfl⟩
    refine wP rfl (wP rfl (wP rfl (wP rfl (wP rfl (wl_nil (we_then (wc_keep [13,12,11,10,9,8,6,1,2,3] (S' := [_,_,_,_,_,_,_,_,_,_]) rfl (wc_seq (wc_region (wP rfl (wP rfl (wP rfl ?_))))))))))))
    obtain ⟨⟨v100_0, v100_1⟩, hc100, hm⟩ := bindO_some hm
    try dsimp only at hm
    refine wC [0,1] [] rfl fn_22 rfl (w_net_Net_Drop_s N c18_0 c18_1 v94_2 (-9223372036854775808) 9223372036854775807 0 _ _ hc100) (asK [] rfl) rfl (H' := []) rfl ?_
    rintro _ _ _ ⟨rfl, rfl, rfl⟩
    refine wP rfl (wl_nil (we_then (wc_keep [14,13,12,11,10,9,8,6,1,2,3] (S' := [_,_,_,_,_,_,_,_,_,_,_]) rfl (wc_seq (wc_region (wP rfl (wP rfl (wP rfl ?_))))))))
    obtain ⟨⟨v105_0, v105_1, v105_2⟩, hc105, hm⟩ := bindO_some hm
    try dsimp only at hm
    refine wC [0,1] [] rfl fn_9 rfl (w_net_Net_Take_s N c18_0 c18_1 v100_1 (-9223372036854775808) 9223372036854775807 0 _ _ _ hc105) (asK [] rfl) rfl (H' := []) rfl ?_
    rintro _ _ _ ⟨p105_0, c105_1, rfl, rfl, rfl⟩
    refine wP rfl (wP rfl (wP rfl (wP rfl (wP rfl (wl_nil (we_then (wc_keep [16,15,14,13,12,11,10,9,8,6,1,2,3] (S' := [_,_,_,_,_,_,_,_,_,_,_,_,_]) rfl (wc_seq (wc_seq ?_)))))))))
    obtain ⟨bj_3, hm, hLj_3⟩ := bindO_some hm
    unfold m_ropewalklaw20_NetNumbers_C3 at hm
    refine wc_cut (σ := Bool) (fun j_3_165 => bj_3 = j_3_165) (fun j_3_165 => [(165, .bool j_3_165)]) (fun j_3_165 => []) (fun j_3_165 => []) ?_ ?_
    ·
     refine wc_region (wP rfl (wP rfl (wl_as (d := 109) (v' := .bool (v69_1 != 6)) (S' := [_,_,_,_,_,_,_,_,_,_,_,_,_,_]) rfl rfl (natne (a := v69_1) (b := 6)) (wP rfl ?_))))
     refine wl_split (d := 110) (S' := [_,_,_,_,_,_,_,_,_,_,_,_,_,_,_]) rfl rfl (fun hs110 => ?_) (fun hs110 => ?_)
     ·
      replace hm := iteT hm hs110
      refine wO rfl (wO rfl (wP rfl (wP rfl (wO rfl (wO rfl (wP rfl (wP rfl (wO rfl (wO rfl (wP rfl (wP rfl (wO rfl (wO rfl ?_)))))))))))))
      refine wP rfl (wP rfl (wO rfl (wO rfl (wP rfl (wP rfl (wO rfl (wO rfl (wP rfl (wP rfl (wO rfl (wO rfl (wO rfl (wO rfl ?_)))))))))))))
      refine wP rfl (wP rfl (wO rfl (wO rfl (wO rfl (wO rfl (wP rfl (wP rfl (wO rfl (wO rfl (wO rfl (wO rfl (wP rfl (wP rfl ?_)))))))))))))
      refine wO rfl (wO rfl (wO rfl (wO rfl (wO rfl (wP rfl (wP rfl (wO rfl (wO rfl (wO rfl (wO rfl (wO rfl (wP rfl (wl_nil ?_)))))))))))))
      have hE := (Option.some.inj hm).symm
      refine we_pick [] rfl (H' := []) rfl ?_
      refine we_join true hE [165] rfl (asK [] rfl) rfl
     ·
      replace hm := iteF hm hs110
      refine wP rfl (wP rfl (wl_as (d := 112) (v' := .bool (v76_1 != 6)) (S' := [_,_,_,_,_,_,_,_,_,_,_,_,_,_,_,_,_]) rfl rfl (natne (a := v76_1) (b := 6)) (wP rfl (wP rfl ?_))))
      refine wl_split (d := 114) (S' := [_,_,_,_,_,_,_,_,_,_,_,_,_,_,_,_,_,_,_]) rfl rfl (fun hs114 => ?_) (fun hs114 => ?_)
      ·
       replace hm := iteT hm hs114
       refine wO rfl (wO rfl (wP rfl (wP rfl (wO rfl (wO rfl (wP rfl (wP rfl (wO rfl (wO rfl (wP rfl (wP rfl (wO rfl (wO rfl ?_)))))))))))))
       refine wP rfl (wP rfl (wO rfl (wO rfl (wP rfl (wP rfl (wO rfl (wO rfl (wO rfl (wO rfl (wP rfl (wP rfl (wO rfl (wO rfl ?_)))))))))))))
       refine wO rfl (wO rfl (wP rfl (wP rfl (wO rfl (wO rfl (wO rfl (wO rfl (wP rfl (wP rfl (wO rfl (wO rfl (wO rfl (wO rfl ?_)))))))))))))
       refine wO rfl (wP rfl (wP rfl (wO rfl (wO rfl (wO rfl (wO rfl (wO rfl (wP rfl (wl_nil ?_)))))))))
       have hE := (Option.some.inj hm).symm
       refine we_pick [] rfl (H' := []) rfl ?_
       refine we_join true hE [165] rfl (asK [] rfl) rfl
      ·
       replace hm := iteF hm hs114
       refine wP rfl (wP rfl (wl_as (d := 116) (v' := .bool (v83_1 != 0)) (S' := [_,_,_,_,_,_,_,_,_,_,_,_,_,_,_,_,_,_,_,_,_]) rfl rfl (natne (a := v83_1) (b := 0)) (wP rfl (wP rfl ?_))))
       refine wl_split (d := 118) (S' := [_,_,_,_,_,_,_,_,_,_,_,_,_,_,_,_,_,_,_,_,_,_,_]) rfl rfl (fun hs118 => ?_) (fun hs118 => ?_)
       ·
        replace hm := iteT hm hs118
        refine wO rfl (wO rfl (wP rfl (wP rfl (wO rfl (wO rfl (wP rfl (wP rfl (wO rfl (wO rfl (wP rfl (wP rfl (wO rfl (wO rfl ?_)))))))))))))
        refine wP rfl (wP rfl (wO rfl (wO rfl (wO rfl (wO rfl (wP rfl (wP rfl (wO rfl (wO rfl (wO rfl (wO rfl (wP rfl (wP rfl ?_)))))))))))))
        refine wO rfl (wO rfl (wO rfl (wO rfl (wP rfl (wP rfl (wO rfl (wO rfl (wO rfl (wO rfl (wO rfl (wP rfl (wP rfl (wO rfl ?_)))))))))))))
        refine wO rfl (wO rfl (wO rfl (wO rfl (wP rfl (wl_nil ?_)))))
        have hE := (Option.some.inj hm).symm
        refine we_pick [] rfl (H' := []) rfl ?_
        refine we_join true hE [165] rfl (asK [] rfl) rfl
       ·
        replace hm := iteF hm hs118
        refine wP rfl (wP rfl (wl_as (d := 120) (v' := .bool (v89_0 != 0)) (S' := [_,_,_,_,_,_,_,_,_,_,_,_,_,_,_,_,_,_,_,_,_,_,_,_,_]) rfl rfl (natne (a := v89_0) (b := 0)) (wP rfl (wP rfl ?_))))
        refine wl_split (d := 122) (S' := [_,_,_,_,_,_,_,_,_,_,_,_,_,_,_,_,_,_,_,_,_,_,_,_,_,_,_]) rfl rfl (fun hs122 => ?_) (fun hs122 => ?_)
        ·
         replace hm := iteT hm hs122
         refine wO rfl (wO rfl (wP rfl (wP rfl (wO rfl (wO rfl (wP rfl (wP rfl (wO rfl (wO rfl (wP rfl (wP rfl (wO rfl (wO rfl ?_)))))))))))))
         refine wO rfl (wO rfl (wP rfl (wP rfl (wO rfl (wO rfl (wO rfl (wO rfl (wP rfl (wP rfl (wO rfl (wO rfl (wO rfl (wO rfl ?_)))))))))))))
         refine wP rfl (wP rfl (wO rfl (wO rfl (wO rfl (wO rfl (wO rfl (wP rfl (wP rfl (wO rfl (wO rfl (wO rfl (wO rfl (wO rfl ?_)))))))))))))
         refine wP rfl (wl_nil ?_)
         have hE := (Option.some.inj hm).symm
         refine we_pick [] rfl (H' := []) rfl ?_
         refine we_join true hE [165] rfl (asK [] rfl) rfl
        ·
         replace hm := iteF hm hs122
         refine wP rfl (wP rfl (wl_as (d := 124) (v' := .bool (v94_1 != 0)) (S' := [_,_,_,_,_,_,_,_,_,_,_,_,_,_,_,_,_,_,_,_,_,_,_,_,_,_,_,_,_]) rfl rfl (natne (a := v94_1) (b := 0)) (wP rfl (wP rfl ?_))))
         refine wl_split (d := 126) (S' := [_,_,_,_,_,_,_,_,_,_,_,_,_,_,_,_,_,_,_,_,_,_,_,_,_,_,_,_,_,_,_]) rfl rfl (fun hs126 => ?_) (fun hs126 => ?_)
         ·
          replace hm := iteT hm hs126
          refine wO rfl (wO rfl (wP rfl (wP rfl (wO rfl (wO rfl (wP rfl (wP rfl (wO rfl (wO rfl (wO rfl (wO rfl (wP rfl (wP rfl ?_)))))))))))))
          refine wO rfl (wO rfl (wO rfl (wO rfl (wP rfl (wP rfl (wO rfl (wO rfl (wO rfl (wO rfl (wP rfl (wP rfl (wO rfl (wO rfl ?_)))))))))))))
          refine wO rfl (wO rfl (wO rfl (wP rfl (wP rfl (wO rfl (wO rfl (wO rfl (wO rfl (wO rfl (wP rfl (wl_nil ?_)))))))))))
          have hE := (Option.some.inj hm).symm
          refine we_pick [] rfl (H' := []) rfl ?_
          refine we_join true hE [165] rfl (asK [] rfl) rfl
         ·
          replace hm := iteF hm hs126
          refine wP rfl (wP rfl (wl_as (d := 128) (v' := .bool (v100_0 != 0)) (S' := [_,_,_,_,_,_,_,_,_,_,_,_,_,_,_,_,_,_,_,_,_,_,_,_,_,_,_,_,_,_,_,_,_]) rfl rfl (natne (a := v100_0) (b := 0)) (wP rfl (wP rfl ?_))))
          refine wl_split (d := 130) (S' := [_,_,_,_,_,_,_,_,_,_,_,_,_,_,_,_,_,_,_,_,_,_,_,_,_,_,_,_,_,_,_,_,_,_,_]) rfl rfl (fun hs130 => ?_) (fun hs130 => ?_)
          ·
           replace hm := iteT hm hs130
           refine wO rfl (wO rfl (wP rfl (wP rfl (wO rfl (wO rfl (wO rfl (wO rfl (wP rfl (wP rfl (wO rfl (wO rfl (wO rfl (wO rfl ?_)))))))))))))
           refine wP rfl (wP rfl (wO rfl (wO rfl (wO rfl (wO rfl (wP rfl (wP rfl (wO rfl (wO rfl (wO rfl (wO rfl (wO rfl (wP rfl ?_)))))))))))))
           refine wP rfl (wO rfl (wO rfl (wO rfl (wO rfl (wO rfl (wP rfl (wl_nil ?_)))))))
           have hE := (Option.some.inj hm).symm
           refine we_pick [] rfl (H' := []) rfl ?_
           refine we_join true hE [165] rfl (asK [] rfl) rfl
          ·
           replace hm := iteF hm hs130
           refine wP rfl (wP rfl (wl_as (d := 132) (v' := .bool (v105_1 != 0)) (S' := [_,_,_,_,_,_,_,_,_,_,_,_,_,_,_,_,_,_,_,_,_,_,_,_,_,_,_,_,_,_,_,_,_,_,_,_,_]) rfl rfl (natne (a := v105_1) (b := 0)) (wP rfl (wP rfl ?_))))
           refine wl_split (d := 134) (S' := [_,_,_,_,_,_,_,_,_,_,_,_,_,_,_,_,_,_,_,_,_,_,_,_,_,_,_,_,_,_,_,_,_,_,_,_,_,_,_]) rfl rfl (fun hs134 => ?_) (fun hs134 => ?_)
           ·
            replace hm := iteT hm hs134
            refine wO rfl (wO rfl (wO rfl (wO rfl (wP rfl (wP rfl (wO rfl (wO rfl (wO rfl (wO rfl (wP rfl (wP rfl (wO rfl (wO rfl ?_)))))))))))))
            refine wO rfl (wO rfl (wP rfl (wP rfl (wO rfl (wO rfl (wO rfl (wO rfl (wO rfl (wP rfl (wP rfl (wO rfl (wO rfl (wO rfl ?_)))))))))))))
            refine wO rfl (wO rfl (wP rfl (wl_nil ?_)))
            have hE := (Option.some.inj hm).symm
            refine we_pick [] rfl (H' := []) rfl ?_
            refine we_join true hE [165] rfl (asK [] rfl) rfl
           ·
            replace hm := iteF hm hs134
            refine wP rfl (wl_buildSlice rfl rfl rfl (freshS_eq rfl) rfl tE_28 tS_5 tZ_5 rfl (zs := [.int .u8 0]) (by kernel_rfl) rfl (out := [_]) rfl (fun g136 => (wl_row (sz := 1) (m := 1) R_u8 [63] 0 rfl (fun F w hφ => ⟨[.int .u8 63],[], rfl, rfl, ⟨(), rfl, ask_nil⟩, rfl⟩) rfl (by decide) (H' := [_,_,_]) rfl ?_)))
            obtain ⟨v137, hc137, hm⟩ := bindO_some hm
            refine wl_lend [] [0,1,2] [0] rfl rfl rfl (freshS_eq rfl) rfl rfl fn_23 rfl (w_ropewalkkit_SameBytes_s N p83_0 c83_1 v83_0 (some ⟨g136,0, none⟩) 1 [63] _ hc137) (fun F w hφ hh => (ask_cons (hφ _ (mem_at (k := 2) rfl)) (ask_cons (own_sli (hh _ (mem_at (k := 0) rfl))) ask_nil))) (fun _ _ _ hR => by obtain ⟨rfl, rfl, rfl⟩ := hR; exact ⟨rfl, (fun _ h => free_nil h)⟩) rfl rfl (H' := [_,_,_]) rfl ?_
            rintro _ _ _ ⟨rfl, rfl, rfl⟩
            refine wP rfl (wP rfl (wP rfl ?_))
            refine wl_split (d := 140) (S' := [_,_,_,_,_,_,_,_,_,_,_,_,_,_,_,_,_,_,_,_,_,_,_,_,_,_,_,_,_,_,_,_,_,_,_,_,_,_,_,_,_,_,_,_,_]) rfl rfl (fun hs140 => ?_) (fun hs140 => ?_)
            ·
             replace hm := iteT hm hs140
             refine wO rfl (wO rfl (wO rfl (wO rfl (wP rfl (wP rfl (wO rfl (wO rfl (wO rfl (wO rfl (wP rfl (wP rfl (wO rfl (wO rfl ?_)))))))))))))
             refine wO rfl (wO rfl (wO rfl (wP rfl (wP rfl (wO rfl (wO rfl (wO rfl (wO rfl (wO rfl (wP rfl (wl_nil ?_)))))))))))
             have hE := (Option.some.inj hm).symm
             refine we_pick [] rfl (H' := []) rfl ?_
             refine we_join true hE [165] rfl (asK [] rfl) rfl
            ·
             replace hm := iteF hm hs140
             refine wP rfl (wl_buildSlice rfl rfl rfl (freshS_eq rfl) rfl tE_28 tS_5 tZ_5 rfl (zs := [.int .u8 0]) (by kernel_rfl) rfl (out := [_]) rfl (fun g142 => (wl_row (sz := 1) (m := 1) R_u8 [62] 0 rfl (fun F w hφ => ⟨[.int .u8 62],[], rfl, rfl, ⟨(), rfl, ask_nil⟩, rfl⟩) rfl (by decide) (H' := [_,_,_,_]) rfl ?_)))
             obtain ⟨v143, hc143, hm⟩ := bindO_some hm
             refine wl_lend [] [0,1,2,3] [0] rfl rfl rfl (freshS_eq rfl) rfl rfl fn_23 rfl (w_ropewalkkit_SameBytes_s N p94_0 c94_1 v94_0 (some ⟨g142,0, none⟩) 1 [62] _ hc143) (fun F w hφ hh => (ask_cons (hφ _ (mem_at (k := 1) rfl)) (ask_cons (own_sli (hh _ (mem_at (k := 0) rfl))) ask_nil))) (fun _ _ _ hR => by obtain ⟨rfl, rfl, rfl⟩ := hR; exact ⟨rfl, (fun _ h => free_nil h)⟩) rfl rfl (H' := [_,_,_,_]) rfl ?_
             rintro _ _ _ ⟨rfl, rfl, rfl⟩
             refine wP rfl (wP rfl (wP rfl ?_))
             refine wl_split (d := 146) (S' := [_,_,_,_,_,_,_,_,_,_,_,_,_,_,_,_,_,_,_,_,_,_,_,_,_,_,_,_,_,_,_,_,_,_,_,_,_,_,_,_,_,_,_,_,_,_,_,_,_,_,_]) rfl rfl (fun hs146 => ?_) (fun hs146 => ?_)
             ·
              replace hm := iteT hm hs146
              refine wO rfl (wO rfl (wO rfl (wO rfl (wP rfl (wP rfl (wO rfl (wO rfl (wO rfl (wO rfl (wO rfl (wP rfl (wP rfl (wO rfl ?_)))))))))))))
              refine wO rfl (wO rfl (wO rfl (wO rfl (wP rfl (wl_nil ?_)))))
              have hE := (Option.some.inj hm).symm
              refine we_pick [] rfl (H' := []) rfl ?_
              refine we_join true hE [165] rfl (asK [] rfl) rfl
             ·
              replace hm := iteF hm hs146
              refine wP rfl (wl_buildSlice rfl rfl rfl (freshS_eq rfl) rfl tE_28 tS_5 tZ_5 rfl (zs := [.int .u8 0]) (by kernel_rfl) rfl (out := [_]) rfl (fun g148 => (wl_row (sz := 1) (m := 1) R_u8 [1] 0 rfl (fun F w hφ => ⟨[.int .u8 1],[], rfl, rfl, ⟨(), rfl, ask_nil⟩, rfl⟩) rfl (by decide) (H' := [_,_,_,_,_]) rfl ?_)))
              obtain ⟨v149, hc149, hm⟩ := bindO_some hm
              refine wl_lend [] [0,1,2,3,4] [0] rfl rfl rfl (freshS_eq rfl) rfl rfl fn_23 rfl (w_ropewalkkit_SameBytes_s N p105_0 c105_1 v105_0 (some ⟨g148,0, none⟩) 1 [1] _ hc149) (fun F w hφ hh => (ask_cons (hφ _ (mem_at (k := 0) rfl)) (ask_cons (own_sli (hh _ (mem_at (k := 0) rfl))) ask_nil))) (fun _ _ _ hR => by obtain ⟨rfl, rfl, rfl⟩ := hR; exact ⟨rfl, (fun _ h => free_nil h)⟩) rfl rfl (H' := [_,_,_,_,_]) rfl ?_
              rintro _ _ _ ⟨rfl, rfl, rfl⟩
              refine wP rfl (wP rfl (wP rfl ?_))
              refine wl_split (d := 152) (S' := [_,_,_,_,_,_,_,_,_,_,_,_,_,_,_,_,_,_,_,_,_,_,_,_,_,_,_,_,_,_,_,_,_,_,_,_,_,_,_,_,_,_,_,_,_,_,_,_,_,_,_,_,_,_,_,_,_]) rfl rfl (fun hs152 => ?_) (fun hs152 => ?_)
              ·
               replace hm := iteT hm hs152
               refine wO rfl (wO rfl (wO rfl (wO rfl (wO rfl (wP rfl (wP rfl (wO rfl (wO rfl (wO rfl (wO rfl (wO rfl (wP rfl (wl_nil ?_)))))))))))))
               have hE := (Option.some.inj hm).symm
               refine we_pick [] rfl (H' := []) rfl ?_
               refine we_join true hE [165] rfl (asK [] rfl) rfl
              ·
               replace hm := iteF hm hs152
               refine wP rfl (wP rfl (wP rfl ?_))
               obtain ⟨⟨v156_0, v156_1⟩, hc156, hm⟩ := bindO_some hm
               try dsimp only at hm
               refine wC [3,4] [0,1,2] rfl fn_22 rfl (w_net_Net_Drop_s N c18_0 c18_1 v105_2 (-9223372036854775808) 9223372036854775807 61 _ _ hc156) (asK [] rfl) rfl (H' := [_,_,_]) rfl ?_
               rintro _ _ _ ⟨rfl, rfl, rfl⟩
               refine wP rfl (wl_as (d := 157) (v' := .bool (v156_0 != 6)) (S' := [_,_,_,_,_,_,_,_,_,_,_,_,_,_,_,_,_,_,_,_,_,_,_,_,_,_,_,_,_,_,_,_,_,_,_,_,_,_,_,_,_,_,_,_,_,_,_,_,_,_,_,_,_,_,_,_,_,_,_,_,_,_]) rfl rfl (natne (a := v156_0) (b := 6)) (wP rfl (wP rfl ?_)))
               refine wl_split (d := 159) (S' := [_,_,_,_,_,_,_,_,_,_,_,_,_,_,_,_,_,_,_,_,_,_,_,_,_,_,_,_,_,_,_,_,_,_,_,_,_,_,_,_,_,_,_,_,_,_,_,_,_,_,_,_,_,_,_,_,_,_,_,_,_,_,_,_]) rfl rfl (fun hs159 => ?_) (fun hs159 => ?_)
               ·
                replace hm := iteT hm hs159
                refine wO rfl (wO rfl (wO rfl (wO rfl (wO rfl (wP rfl (wl_nil ?_))))))
                have hE := (Option.some.inj hm).symm
                refine we_pick [] rfl (H' := []) rfl ?_
                refine we_join true hE [165] rfl (asK [] rfl) rfl
               ·
                replace hm := iteF hm hs159
                refine wP rfl (wP rfl (wP rfl ?_))
                obtain ⟨⟨v163_0, v163_1⟩, hc163, hm⟩ := bindO_some hm
                try dsimp only at hm
                refine wC [0,1] [2,3,4] rfl fn_22 rfl (w_net_Net_Drop_s N c18_0 c18_1 v156_1 (-9223372036854775808) 9223372036854775807 (-1) _ _ hc163) (asK [] rfl) rfl (H' := [_,_,_]) rfl ?_
                rintro _ _ _ ⟨rfl, rfl, rfl⟩
                refine wP rfl (wl_as (d := 164) (v' := .bool (v163_0 != 6)) (S' := [_,_,_,_,_,_,_,_,_,_,_,_,_,_,_,_,_,_,_,_,_,_,_,_,_,_,_,_,_,_,_,_,_,_,_,_,_,_,_,_,_,_,_,_,_,_,_,_,_,_,_,_,_,_,_,_,_,_,_,_,_,_,_,_,_,_,_,_,_]) rfl rfl (natne (a := v163_0) (b := 6)) (wP rfl (wl_nil ?_)))
                have hE := (Option.some.inj hm).symm
                refine we_pick [] rfl (H' := []) rfl ?_
                refine we_join (v163_0 != 6) hE [165] rfl (asK [] rfl) rfl
    ·
     rintro j_3_165 hE
     try dsimp only
     have hm := hLj_3
     rw [hE] at hm
     refine wc_cond rfl (fun hb165 => ?_) (fun hb165 => ?_)
     ·
      replace hm := iteT hm hb165
      refine wc_keep [] (S' := []) rfl (wc_seq (wc_region (wP rfl (wl_nil (we_then (wc_ret (we_then_ret ?_)))))))
      have hE := (Option.some.inj hm).symm
      replace hE := hE.symm
      subst hE
      refine ret_one (Hr := []) [] Try.results5 (res_tmp rfl) ⟨rfl, rfl, rfl⟩ (asK [] rfl) rfl rfl (.inl rfl)
     ·
      replace hm := iteF hm hb165
      refine wc_keep [] (S' := []) rfl (wc_skip (we_then (wc_seq (wc_region ?_))))
      obtain ⟨_, hc166, hm⟩ := bindO_some hm
      try dsimp only at hm
      refine wC [] [] rfl fn_7 rfl (w_net_New_s N  hc166) (asK [] rfl) rfl (H' := []) rfl ?_
      rintro _ _ _ ⟨c166_0, c166_1, rfl, rfl, rfl⟩
      refine wP rfl (wl_nil (we_then (wc_keep [17] (S' := [_]) rfl (wc_seq (wc_seq ?_)))))
      obtain ⟨bj_4, hm, hLj_4⟩ := bindO_some hm
      unfold m_ropewalklaw20_NetNumbers_C4 at hm
      refine wc_cut (σ := (List ((Int × Int) × List (List Int))) × Bool) (fun (j_4_17_f0_m, j_4_201) => bj_4 = (j_4_17_f0_m, j_4_201)) (fun (j_4_17_f0_m, j_4_201) => [(17, .pointer (some ⟨c166_0,0, none⟩)), (201, .bool j_4_201)]) (fun (j_4_17_f0_m, j_4_201) => []) (fun (j_4_17_f0_m, j_4_201) => [.blk c166_0 [.map (some c166_1)] 54, mapG (keyOfK pairKey57) (Fact.own 28 1 R_l_u8) none c166_1 j_4_17_f0_m]) ?_ ?_
      ·
       refine wc_region (wP rfl ?_)
       obtain ⟨hg168, hm⟩ := gd_some hm
       refine wl_makeSlice (m := 1048577) R_u8 0 rfl rfl rfl (freshS_eq rfl) rfl rfl rfl rfl rfl tE_28 tR_5 rfl rfl (fun _ _ => ⟨(), rfl, ask_nil⟩) (Nat.le_trans (Nat.mul_le_mul_left _ hg168) (by decide)) (Nat.le_trans hg168 (by decide)) (fun g168 => ?_)
       obtain ⟨lz168, hlz168, hm⟩ := bindO_some hm
       refine wl_hAs 0 (φ' := .own 5 1 R_u8 (.slice (some ⟨g168,0, none⟩) 1048577 1048577) lz168) rfl (by rw [Option.some.inj hlz168]) (H' := [_,_,_]) rfl (wl_ownLen 0 rfl (fun hz7 _ => (wl_at 0 (v' := .slice (some ⟨g168,0, none⟩) lz168.length 1048577) rfl (by first | rfl | rw [hz7]) (wl_hAs 0 (φ' := .own 5 1 R_u8 (.slice (some ⟨g168,0, none⟩) lz168.length 1048577) lz168) rfl (by first | rfl | rw [hz7]) (H' := [_,_,_]) rfl ?_))))
       obtain ⟨⟨v169_0, v169_1⟩, hc169, hm⟩ := bindO_some hm
       try dsimp only at hm
       refine wC [1,2,0] [] rfl fn_13 rfl (w_net_Net_Send_v2_s N c166_0 c166_1 ([] : List ((Int × Int) × List (List Int))) 1 1 (some ⟨g168,0, none⟩) lz168.length 1048577 lz168 _ _ hc169) (asK [] rfl) rfl (H' := []) rfl ?_
       rintro _ _ _ ⟨rfl, rfl, rfl⟩
       refine wP rfl (wl_as (d := 170) (v' := .bool (v169_0 != 3)) (S' := [_,_,_,_]) rfl rfl (natne (a := v169_0) (b := 3)) (wP rfl ?_))
       refine wl_split (d := 171) (S' := [_,_,_,_,_]) rfl rfl (fun hs171 => ?_) (fun hs171 => ?_)
       ·
        replace hm := iteT hm hs171
        refine wO rfl (wO rfl (wO rfl (wO rfl (wP rfl (wP rfl (wO rfl (wO rfl (wO rfl (wP rfl (wP rfl (wO rfl (wO rfl (wO rfl ?_)))))))))))))
        refine wP rfl (wP rfl (wO rfl (wO rfl (wO rfl (wP rfl (wP rfl (wO rfl (wO rfl (wO rfl (wP rfl (wP rfl (wO rfl (wO rfl ?_)))))))))))))
        refine wO rfl (wP rfl (wl_nil ?_))
        have hE := (Option.some.inj hm).symm
        refine we_pick [0,1] rfl (H' := [_,_]) rfl ?_
        refine we_join (v169_1, true) hE [17,201] rfl (asK [] rfl) rfl
       ·
        replace hm := iteF hm hs171
        refine wP rfl ?_
        obtain ⟨hg173, hm⟩ := gd_some hm
        refine wl_makeSlice (m := 1048576) R_u8 0 rfl rfl rfl (freshS_eq rfl) rfl rfl rfl rfl rfl tE_28 tR_5 rfl rfl (fun _ _ => ⟨(), rfl, ask_nil⟩) (Nat.le_trans (Nat.mul_le_mul_left _ hg173) (by decide)) (Nat.le_trans hg173 (by decide)) (fun g173 => ?_)
        obtain ⟨lz173, hlz173, hm⟩ := bindO_some hm
        refine wl_hAs 0 (φ' := .own 5 1 R_u8 (.slice (some ⟨g173,0, none⟩) 1048576 1048576) lz173) rfl (by rw [Option.some.inj hlz173]) (H' := [_,_,_,_]) rfl (wl_ownLen 0 rfl (fun hz8 _ => (wl_at 0 (v' := .slice (some ⟨g173,0, none⟩) lz173.length 1048576) rfl (by first | rfl | rw [hz8]) (wl_hAs 0 (φ' := .own 5 1 R_u8 (.slice (some ⟨g173,0, none⟩) lz173.length 1048576) lz173) rfl (by first | rfl | rw [hz8]) (H' := [_,_,_,_]) rfl ?_))))
        obtain ⟨⟨v174_0, v174_1⟩, hc174, hm⟩ := bindO_some hm
        try dsimp only at hm
        refine wC [1,2,0] [3] rfl fn_13 rfl (w_net_Net_Send_v2_s N c166_0 c166_1 v169_1 1 1 (some ⟨g173,0, none⟩) lz173.length 1048576 lz173 _ _ hc174) (asK [] rfl) rfl (H' := [_]) rfl ?_
        rintro _ _ _ ⟨rfl, rfl, rfl⟩
        refine wP rfl (wl_as (d := 175) (v' := .bool (v174_0 != 0)) (S' := [_,_,_,_,_,_,_,_,_]) rfl rfl (natne (a := v174_0) (b := 0)) (wP rfl (wP rfl ?_)))
        refine wl_split (d := 177) (S' := [_,_,_,_,_,_,_,_,_,_,_]) rfl rfl (fun hs177 => ?_) (fun hs177 => ?_)
        ·
         replace hm := iteT hm hs177
         refine wO rfl (wO rfl (wO rfl (wP rfl (wP rfl (wO rfl (wO rfl (wO rfl (wP rfl (wP rfl (wO rfl (wO rfl (wO rfl (wP rfl ?_)))))))))))))
         refine wP rfl (wO rfl (wO rfl (wO rfl (wP rfl (wP rfl (wO rfl (wO rfl (wO rfl (wP rfl (wl_nil ?_))))))))))
         have hE := (Option.some.inj hm).symm
         refine we_pick [0,1] rfl (H' := [_,_]) rfl ?_
         refine we_join (v174_1, true) hE [17,201] rfl (asK [] rfl) rfl
        ·
         replace hm := iteF hm hs177
         refine wP rfl (wl_fact (.sli 1 R_u8 none 0 ([] : List Int)) (fun _ _ _ => sli_none) ?_)
         obtain ⟨⟨v179_0, v179_1⟩, hc179, hm⟩ := bindO_some hm
         try dsimp only at hm
         refine wC [0,1] [2,3] rfl fn_13 rfl (w_net_Net_Send_s N c166_0 c166_1 v174_1 1 1 none 0 ([] : List Int) _ _ hc179) (asK [0] rfl) rfl (H' := [_,_]) rfl ?_
         rintro _ _ _ ⟨rfl, rfl, rfl⟩
         refine wP rfl (wl_as (d := 180) (v' := .bool (v179_0 != 0)) (S' := [_,_,_,_,_,_,_,_,_,_,_,_,_,_]) rfl rfl (natne (a := v179_0) (b := 0)) (wP rfl (wP rfl ?_)))
         refine wl_split (d := 182) (S' := [_,_,_,_,_,_,_,_,_,_,_,_,_,_,_,_]) rfl rfl (fun hs182 => ?_) (fun hs182 => ?_)
         ·
          replace hm := iteT hm hs182
          refine wO rfl (wO rfl (wO rfl (wP rfl (wP rfl (wO rfl (wO rfl (wO rfl (wP rfl (wP rfl (wO rfl (wO rfl (wO rfl (wP rfl ?_)))))))))))))
          refine wP rfl (wO rfl (wO rfl (wO rfl (wP rfl (wl_nil ?_)))))
          have hE := (Option.some.inj hm).symm
          refine we_pick [0,1] rfl (H' := [_,_]) rfl ?_
          refine we_join (v179_1, true) hE [17,201] rfl (asK [] rfl) rfl
         ·
          replace hm := iteF hm hs182
          refine wP rfl (wl_fact (.sli 1 R_u8 none 0 ([] : List Int)) (fun _ _ _ => sli_none) ?_)
          obtain ⟨⟨v184_0, v184_1⟩, hc184, hm⟩ := bindO_some hm
          try dsimp only at hm
          refine wC [0,1] [2,3] rfl fn_13 rfl (w_net_Net_Send_s N c166_0 c166_1 v179_1 3 2 none 0 ([] : List Int) _ _ hc184) (asK [0] rfl) rfl (H' := [_,_]) rfl ?_
          rintro _ _ _ ⟨rfl, rfl, rfl⟩
          refine wP rfl (wl_as (d := 185) (v' := .bool (v184_0 != 0)) (S' := [_,_,_,_,_,_,_,_,_,_,_,_,_,_,_,_,_,_,_]) rfl rfl (natne (a := v184_0) (b := 0)) (wP rfl (wP rfl ?_)))
          refine wl_split (d := 187) (S' := [_,_,_,_,_,_,_,_,_,_,_,_,_,_,_,_,_,_,_,_,_]) rfl rfl (fun hs187 => ?_) (fun hs187 => ?_)
          ·
           replace hm := iteT hm hs187
           refine wO rfl (wO rfl (wO rfl (wP rfl (wP rfl (wO rfl (wO rfl (wO rfl (wP rfl (wP rfl (wO rfl (wO rfl (wO rfl (wP rfl ?_)))))))))))))
           refine wl_nil ?_
           have hE := (Option.some.inj hm).symm
           refine we_pick [0,1] rfl (H' := [_,_]) rfl ?_
           refine we_join (v184_1, true) hE [17,201] rfl (asK [] rfl) rfl
          ·
           replace hm := iteF hm hs187
           refine wP rfl (wl_fact (.sli 1 R_u8 none 0 ([] : List Int)) (fun _ _ _ => sli_none) ?_)
           obtain ⟨⟨v189_0, v189_1⟩, hc189, hm⟩ := bindO_some hm
           try dsimp only at hm
           refine wC [0,1] [2,3] rfl fn_13 rfl (w_net_Net_Send_s N c166_0 c166_1 v184_1 2 3 none 0 ([] : List Int) _ _ hc189) (asK [0] rfl) rfl (H' := [_,_]) rfl ?_
           rintro _ _ _ ⟨rfl, rfl, rfl⟩
           refine wP rfl (wl_as (d := 190) (v' := .bool (v189_0 != 0)) (S' := [_,_,_,_,_,_,_,_,_,_,_,_,_,_,_,_,_,_,_,_,_,_,_,_]) rfl rfl (natne (a := v189_0) (b := 0)) (wP rfl (wP rfl ?_)))
           refine wl_split (d := 192) (S' := [_,_,_,_,_,_,_,_,_,_,_,_,_,_,_,_,_,_,_,_,_,_,_,_,_,_]) rfl rfl (fun hs192 => ?_) (fun hs192 => ?_)
           ·
            replace hm := iteT hm hs192
            refine wO rfl (wO rfl (wO rfl (wP rfl (wP rfl (wO rfl (wO rfl (wO rfl (wP rfl (wl_nil ?_)))))))))
            have hE := (Option.some.inj hm).symm
            refine we_pick [0,1] rfl (H' := [_,_]) rfl ?_
            refine we_join (v189_1, true) hE [17,201] rfl (asK [] rfl) rfl
           ·
            replace hm := iteF hm hs192
            refine wP rfl (wl_fact (.sli 1 R_u8 none 0 ([] : List Int)) (fun _ _ _ => sli_none) ?_)
            obtain ⟨⟨v194_0, v194_1⟩, hc194, hm⟩ := bindO_some hm
            try dsimp only at hm
            refine wC [0,1] [2,3] rfl fn_13 rfl (w_net_Net_Send_s N c166_0 c166_1 v189_1 2 (-3) none 0 ([] : List Int) _ _ hc194) (asK [0] rfl) rfl (H' := [_,_]) rfl ?_
            rintro _ _ _ ⟨rfl, rfl, rfl⟩
            refine wP rfl (wl_as (d := 195) (v' := .bool (v194_0 != 0)) (S' := [_,_,_,_,_,_,_,_,_,_,_,_,_,_,_,_,_,_,_,_,_,_,_,_,_,_,_,_,_]) rfl rfl (natne (a := v194_0) (b := 0)) (wP rfl (wP rfl ?_)))
            refine wl_split (d := 197) (S' := [_,_,_,_,_,_,_,_,_,_,_,_,_,_,_,_,_,_,_,_,_,_,_,_,_,_,_,_,_,_,_]) rfl rfl (fun hs197 => ?_) (fun hs197 => ?_)
            ·
             replace hm := iteT hm hs197
             refine wO rfl (wO rfl (wO rfl (wP rfl (wl_nil ?_))))
             have hE := (Option.some.inj hm).symm
             refine we_pick [0,1] rfl (H' := [_,_]) rfl ?_
             refine we_join (v194_1, true) hE [17,201] rfl (asK [] rfl) rfl
            ·
             replace hm := iteF hm hs197
             refine wP rfl (wl_fact (.sli 1 R_u8 none 0 ([] : List Int)) (fun _ _ _ => sli_none) ?_)
             obtain ⟨⟨v199_0, v199_1⟩, hc199, hm⟩ := bindO_some hm
             try dsimp only at hm
             refine wC [0,1] [2,3] rfl fn_13 rfl (w_net_Net_Send_s N c166_0 c166_1 v194_1 (-1) 3 none 0 ([] : List Int) _ _ hc199) (asK [0] rfl) rfl (H' := [_,_]) rfl ?_
             rintro _ _ _ ⟨rfl, rfl, rfl⟩
             refine wP rfl (wl_as (d := 200) (v' := .bool (v199_0 != 0)) (S' := [_,_,_,_,_,_,_,_,_,_,_,_,_,_,_,_,_,_,_,_,_,_,_,_,_,_,_,_,_,_,_,_,_,_]) rfl rfl (natne (a := v199_0) (b := 0)) (wP rfl (wl_nil ?_)))
             have hE := (Option.some.inj hm).symm
             refine we_pick [0,1] rfl (H' := [_,_]) rfl ?_
             refine we_join (v199_1, v199_0 != 0) hE [17,201] rfl (asK [] rfl) rfl
      ·
       rintro ⟨j_4_17_f0_m, j_4_201⟩ hE
       try dsimp only
       have hm := hLj_4
       rw [hE] at hm
       try dsimp only at hm
       refine wc_cond rfl (fun hb201 => ?_) (fun hb201 => ?_)
       ·
        replace hm := iteT hm hb201
        refine wc_keep [] (S' := []) rfl (wc_seq (wc_region (wP rfl (wl_nil (we_then (wc_ret (we_then_ret ?_)))))))
        have hE := (Option.some.inj hm).symm
        replace hE := hE.symm
        subst hE
        refine ret_one (Hr := []) [] Try.results5 (res_tmp rfl) ⟨rfl, rfl, rfl⟩ (asK [] rfl) rfl rfl (.inl rfl)
       ·
        replace hm := iteF hm hb201
        refine wc_keep [17] (S' := [_]) rfl (wc_skip (we_then (wc_seq (wc_seq (wc_region (wP rfl ?_))))))
        obtain ⟨v203, hc203, hm⟩ := bindO_some hm
        refine wC [0,1] [] rfl fn_20 rfl (w_net_Net_Links_s N c166_0 c166_1 j_4_17_f0_m _ hc203) (asK [] rfl) rfl (H' := []) rfl ?_
        rintro _ _ _ ⟨p203_0, c203_1, c203_2, rfl, rfl, rfl⟩
        refine wl_buildArr rfl rfl rfl (freshS_eq rfl) rfl tZ_48 tArr_48 rfl (out := [_,_]) rfl (wl_buildArr rfl rfl rfl (freshS_eq rfl) rfl tZ_48 tArr_48 rfl (out := [_,_]) rfl (wl_buildArr rfl rfl rfl (freshS_eq rfl) rfl tZ_48 tArr_48 rfl (out := [_,_]) rfl (wl_buildArr rfl rfl rfl (freshS_eq rfl) rfl tZ_48 tArr_48 rfl (out := [_,_]) rfl (wl_buildArr rfl rfl rfl (freshS_eq rfl) rfl tZ_48 tArr_48 rfl (out := [_,_]) rfl (wl_buildSlice rfl rfl rfl (freshS_eq rfl) rfl tE_45 tS_48 tZ_48 rfl (zs := [.int .i64 0, .int .i64 0, .int .i64 0, .int .i64 0, .int .i64 0, .int .i64 0, .int .i64 0, .int .i64 0, .int .i64 0, .int .i64 0]) (by kernel_rfl) rfl (out := [_,_,_,_,_,_,_,_,_,_]) rfl (fun g209 => (wl_row (sz := 2) (m := 5) R_a2_i64 ([(-1,3), (1,1), (2, -3), (2,3), (3,2)]) 0 rfl (fun F w hφ => ⟨[.int .i64 (-1), .int .i64 3],[.int .i64 1, .int .i64 1, .int .i64 2, .int .i64 (-3), .int .i64 2, .int .i64 3, .int .i64 3, .int .i64 2], rfl, rfl, ⟨(), rfl, ask_nil⟩, ⟨[.int .i64 1, .int .i64 1],[.int .i64 2, .int .i64 (-3), .int .i64 2, .int .i64 3, .int .i64 3, .int .i64 2], rfl, rfl, ⟨(), rfl, ask_nil⟩, ⟨[.int .i64 2, .int .i64 (-3)],[.int .i64 2, .int .i64 3, .int .i64 3, .int .i64 2], rfl, rfl, ⟨(), rfl, ask_nil⟩, ⟨[.int .i64 2, .int .i64 3],[.int .i64 3, .int .i64 2], rfl, rfl, ⟨(), rfl, ask_nil⟩, ⟨[.int .i64 3, .int .i64 2],[], rfl, rfl, ⟨(), rfl, ask_nil⟩, rfl⟩⟩⟩⟩⟩) rfl (by decide) (H' := [_,_,_,_]) rfl (wl_ownLen 1 rfl (fun hzc203_2 _ => ?_)))))))))
        subst hzc203_2
        obtain ⟨v210, hc210, hm⟩ := bindO_some hm
        refine wl_lend [] [0,1,2,3] [1,0] rfl rfl rfl (freshS_eq rfl) rfl rfl fn_19 rfl (w_ropewalklaw20_links_s N p203_0 c203_1 v203 (some ⟨g209,0, none⟩) 5 [(-1,3), (1,1), (2, -3), (2,3), (3,2)] _ hc210) (fun F w hφ hh => (ask_cons (own_sli (hh _ (mem_at (k := 0) rfl))) (ask_cons (own_sli (hh _ (mem_at (k := 1) rfl))) ask_nil))) (fun _ _ _ hR => by obtain ⟨rfl, rfl, rfl⟩ := hR; exact ⟨rfl, (fun _ h => free_nil h)⟩) rfl rfl (H' := [_,_,_,_]) rfl ?_
        rintro _ _ _ ⟨rfl, rfl, rfl⟩
        refine wP rfl (wl_nil (we_then (wc_keep [211,17] (S' := [_,_]) rfl ?_)))
        refine wc_cond rfl (fun hb211 => ?_) (fun hb211 => ?_)
        ·
         replace hm := iteT hm hb211
         refine wc_keep [] (S' := []) rfl (wc_seq (wc_region (wP rfl (wl_nil (we_then (wc_ret (we_then_ret ?_)))))))
         have hE := (Option.some.inj hm).symm
         replace hE := hE.symm
         subst hE
         refine ret_one (Hr := []) [] Try.results5 (res_tmp rfl) ⟨rfl, rfl, rfl⟩ (asK [] rfl) rfl rfl (.inl rfl)
        ·
         replace hm := iteF hm hb211
         refine wc_keep [17] (S' := [_]) rfl (wc_skip (we_then (wc_seq (wc_region (wP rfl ?_)))))
         obtain ⟨⟨v213_0, v213_1⟩, hc213, hm⟩ := bindO_some hm
         try dsimp only at hm
         refine wC [2,3] [0,1] rfl fn_22 rfl (w_net_Net_Drop_s N c166_0 c166_1 j_4_17_f0_m 3 2 0 _ _ hc213) (asK [] rfl) rfl (H' := [_,_]) rfl ?_
         rintro _ _ _ ⟨rfl, rfl, rfl⟩
         refine wl_nil (we_then (wc_keep [17] (S' := [_]) rfl (wc_seq (wc_region (wP rfl ?_)))))
         obtain ⟨⟨v215_0, v215_1, v215_2⟩, hc215, hm⟩ := bindO_some hm
         try dsimp only at hm
         refine wC [0,1] [2,3] rfl fn_9 rfl (w_net_Net_Take_s N c166_0 c166_1 v213_1 1 1 0 _ _ _ hc215) (asK [] rfl) rfl (H' := [_,_]) rfl ?_
         rintro _ _ _ ⟨p215_0, c215_1, rfl, rfl, rfl⟩
         refine wl_nil (we_then (wc_keep [17] (S' := [_]) rfl (wc_seq (wc_region (wP rfl ?_)))))
         obtain ⟨⟨v217_0, v217_1, v217_2⟩, hc217, hm⟩ := bindO_some hm
         try dsimp only at hm
         refine wC [0,1] [2,3] rfl fn_9 rfl (w_net_Net_Take_s N c166_0 c166_1 v215_2 1 1 0 _ _ _ hc217) (asK [] rfl) rfl (H' := [_,_]) rfl ?_
         rintro _ _ _ ⟨p217_0, c217_1, rfl, rfl, rfl⟩
         refine wl_nil (we_then (wc_keep [17] (S' := [_]) rfl (wc_seq (wc_region (wP rfl ?_)))))
         obtain ⟨v219, hc219, hm⟩ := bindO_some hm
         refine wC [0,1] [2,3] rfl fn_20 rfl (w_net_Net_Links_s N c166_0 c166_1 v217_2 _ hc219) (asK [] rfl) rfl (H' := [_,_]) rfl ?_
         rintro _ _ _ ⟨p219_0, c219_1, c219_2, rfl, rfl, rfl⟩
         refine wl_buildArr rfl rfl rfl (freshS_eq rfl) rfl tZ_48 tArr_48 rfl (out := [_,_]) rfl (wl_buildArr rfl rfl rfl (freshS_eq rfl) rfl tZ_48 tArr_48 rfl (out := [_,_]) rfl (wl_buildArr rfl rfl rfl (freshS_eq rfl) rfl tZ_48 tArr_48 rfl (out := [_,_]) rfl (wl_buildSlice rfl rfl rfl (freshS_eq rfl) rfl tE_45 tS_48 tZ_48 rfl (zs := [.int .i64 0, .int .i64 0, .int .i64 0, .int .i64 0, .int .i64 0, .int .i64 0]) (by kernel_rfl) rfl (out := [_,_,_,_,_,_]) rfl (fun g223 => (wl_row (sz := 2) (m := 3) R_a2_i64 ([(-1,3), (2, -3), (2,3)]) 0 rfl (fun F w hφ => ⟨[.int .i64 (-1), .int .i64 3],[.int .i64 2, .int .i64 (-3), .int .i64 2, .int .i64 3], rfl, rfl, ⟨(), rfl, ask_nil⟩, ⟨[.int .i64 2, .int .i64 (-3)],[.int .i64 2, .int .i64 3], rfl, rfl, ⟨(), rfl, ask_nil⟩, ⟨[.int .i64 2, .int .i64 3],[], rfl, rfl, ⟨(), rfl, ask_nil⟩, rfl⟩⟩⟩) rfl (by decide) (H' := [_,_,_,_,_,_]) rfl (wl_ownLen 1 rfl (fun hzc219_2 _ => ?_)))))))
         subst hzc219_2
         obtain ⟨v224, hc224, hm⟩ := bindO_some hm
         refine wl_lend [] [0,1,2,3,4,5] [1,0] rfl rfl rfl (freshS_eq rfl) rfl rfl fn_19 rfl (w_ropewalklaw20_links_s N p219_0 c219_1 v219 (some ⟨g223,0, none⟩) 3 [(-1,3), (2, -3), (2,3)] _ hc224) (fun F w hφ hh => (ask_cons (own_sli (hh _ (mem_at (k := 0) rfl))) (ask_cons (own_sli (hh _ (mem_at (k := 1) rfl))) ask_nil))) (fun _ _ _ hR => by obtain ⟨rfl, rfl, rfl⟩ := hR; exact ⟨rfl, (fun _ h => free_nil h)⟩) rfl rfl (H' := [_,_,_,_,_,_]) rfl ?_
         rintro _ _ _ ⟨rfl, rfl, rfl⟩
         refine wP rfl ?_
         refine wl_split (d := 225) (S' := [_,_,_,_,_,_,_,_]) rfl rfl (fun hs225 => ?_) (fun hs225 => ?_)
         ·
          replace hm := iteT hm hs225
          refine wP rfl (wP rfl ?_)
          obtain ⟨v228, hc228, hm⟩ := bindO_some hm
          refine wC [] [0,1,2,3,4,5] rfl fn_6 rfl (w_ropewalklaw20_awake_s N _ hc228) (asK [] rfl) rfl (H' := [_,_,_,_,_,_]) rfl ?_
          rintro _ _ _ ⟨rfl, rfl, rfl⟩
          refine wP rfl (wP rfl (wl_nil (we_then (wc_keep [0] (S' := [_]) rfl (wc_ret ?_)))))
          have hE := (Option.some.inj hm).symm
          replace hE := hE.symm
          subst hE
          refine ret_one (Hr := []) [] Try.results5 (res_tmp rfl) ⟨rfl, rfl, rfl⟩ (asK [] rfl) rfl rfl (.inl rfl)
         ·
          replace hm := iteF hm hs225
          refine wP rfl (wP rfl (wO rfl (wP rfl (wP rfl (wl_nil (we_then (wc_keep [0] (S' := [_]) rfl (wc_ret ?_))))))))
          have hE := (Option.some.inj hm).symm
          replace hE := hE.symm
          subst hE
          refine ret_one (Hr := []) [] Try.results5 (res_tmp rfl) ⟨rfl, rfl, rfl⟩ (asK [] rfl) rfl rfl (.inl rfl)
end Go.Proofs.Ytegkmbkbaenkcaa
