import Derived.Test.YtegkmbkbaenkcaaXW1
namespace Go.Proofs.Ytegkmbkbaenkcaa
open Go.RowKit
set_option maxRecDepth 100000
set_option maxHeartbeats 4000000
theorem w_ropewalklaw20_links_s (N : Nat) (qp0 : Option Addr) (qc1 : Nat) (l0 : List (Int × Int)) (qp2 : Option Addr) (qc3 : Nat) (l1 : List (Int × Int)) (o0 : Bool) (hm : m_ropewalklaw20_links N l0 l1 = some o0) : Spec Try.prog 19 [.slice qp0 l0.length qc1, .slice qp2 l1.length qc3] [.sli 2 R_a2_i64 qp0 qc1 l0, .sli 2 R_a2_i64 qp2 qc3 l1] [] (fun v Φr Hr => v = .bool o0 ∧ Φr = [] ∧ Hr = []) := by
 unfold m_ropewalklaw20_links at hm
 refine spec_of Try.func19 rfl Try.ntmps19 rfl (S := [_,_]) rfl (fun C => (wc_seq (wc_region (wP rfl (wl_nil (we_then (wc_keep [0,1] (S' := [_,_]) rfl (wc_seq (wc_seq (wc_region (wP rfl (wN rfl tE_45 (wP rfl (wN rfl tE_45 ?_))))))))))))))
 refine wP rfl (wl_as (d := 10) (v' := .bool (l0.length != l1.length)) (S' := [_,_,_,_,_,_]) rfl rfl (natne (a := l0.length) (b := l1.length)) (wl_nil (we_then (wc_keep [10,0,1] (S' := [_,_,_]) rfl ?_))))
 refine wc_cond rfl (fun hb10 => ?_) (fun hb10 => ?_)
 ·
  replace hm := iteT hm hb10
  refine wc_keep [] (S' := []) rfl (wc_seq (wc_region (wP rfl (wl_nil (we_then (wc_ret (we_then_ret ?_)))))))
  have hE := (Option.some.inj hm).symm
  replace hE := hE.symm
  subst hE
  refine ret_one (Hr := []) [] Try.results19 (res_tmp rfl) ⟨rfl, rfl, rfl⟩ (asK [] rfl) rfl rfl (.inl rfl)
 ·
  replace hm := iteF hm hb10
  refine wc_keep [0,1] (S' := [_,_]) rfl (wc_skip (we_then (wc_seq ?_)))
  obtain ⟨bj_1, hm, hLj_1⟩ := bindS_some hm
  refine wc_cut (σ := Unit) (fun _ => bj_1 = .inl ()) (fun _ => []) (fun _ => []) (fun _ => []) ?_ ?_
  ·
   refine wc_seq (wc_region (wP rfl (wl_nil (we_then (wc_block (wc_loop (σ := Nat × Nat) (fun (nu1, u1_5) => iter (m_ropewalklaw20_links_L1 N l0 l1) nu1 u1_5 = some bj_1) (fun (nu1, u1_5) => nu1) (fun (nu1, u1_5) => [(5, .int .i64 ((u1_5 : Nat) : Int)), (0, .slice qp0 l0.length qc1), (1, .slice qp2 l1.length qc3)]) (fun (nu1, u1_5) => [.sli 2 R_a2_i64 qp0 qc1 l0, .sli 2 R_a2_i64 qp2 qc3 l1]) (fun (nu1, u1_5) => []) (N, 0) hm [5,0,1] rfl (asK [0,1] rfl) rfl (fun s_ hm => ?_)))))))
   obtain ⟨nu1, u1_5⟩ := s_
   try dsimp only at hm ⊢
   obtain ⟨mu1, bu1, hnu1, hq, hLu1⟩ := iter_some hm
   clear hm
   subst hnu1
   replace hm := hq
   clear hq
   unfold m_ropewalklaw20_links_L1 at hm
   try dsimp only at hm
   refine wc_seq (wc_seq (wc_region (wP rfl (wP rfl (wN rfl tE_45 (wP rfl (wl_as (d := 14) (v' := .bool (decide (u1_5 < l0.length))) (S' := [_,_,_,_,_,_]) rfl rfl (natlt (a := u1_5) (b := l0.length)) (wl_nil (we_then (wc_keep [14,5,0,1] (S' := [_,_,_,_]) rfl ?_))))))))))
   refine wc_cond rfl (fun hb14 => ?_) (fun hb14 => ?_)
   ·
    replace hm := iteT hm hb14
    refine wc_keep [5,0,1] (S' := [_,_,_]) rfl (wc_skip (we_then (wc_seq (wc_block (wc_seq ?_)))))
    obtain ⟨x19, hx19, hm⟩ := bindO_some hm
    obtain ⟨x23, hx23, hm⟩ := bindO_some hm
    refine wc_draw [0,1,2,3,4,5,6,7,8] rfl rfl (fun hok => (xP hok 0 rfl (xP hok 1 rfl (wx_indexA hok 2 0 u1_5 rfl rfl rfl (freshS_eq rfl) rfl rfl rfl rfl rfl rfl hx19 tE_45 tS_48 (fun b19 q19 cs19 hlx19 => (wx_openR R_a2_i64_opens 1 rfl (fun r19 er19 _ => ?_)))))))
    subst er19
    refine wx_load hok 3 0 0 rfl rfl rfl (freshS_eq rfl) rfl rfl rfl rfl (cs := [_,_]) rfl tS_48 tA_48 rfl rfl (xP hok 4 rfl (xP hok 5 rfl (wx_indexA hok 6 3 u1_5 rfl rfl rfl (freshS_eq rfl) rfl rfl rfl rfl rfl rfl hx23 tE_45 tS_48 (fun b23 q23 cs23 hlx23 => (wx_openR R_a2_i64_opens 1 rfl (fun r23 er23 _ => ?_))))))
    subst er23
    refine wx_load hok 7 0 0 rfl rfl rfl (freshS_eq rfl) rfl rfl rfl rfl (cs := [_,_]) rfl tS_48 tA_48 rfl rfl (wx_bin hok 8 rfl rfl rfl (freshS_eq rfl) rfl rfl rfl rfl (neqD_48 _ _ x19.1 x19.2 x23.1 x23.2) (wx_done hok rfl (we_then (wc_keep [25,5,0,1] (S' := [_,_,_,_]) rfl ?_))))
    refine wc_cond rfl (fun hb25 => ?_) (fun hb25 => ?_)
    ·
     replace hm := iteT hm hb25
     refine wc_keep [] (S' := []) rfl (wc_seq (wc_region (wP rfl (wl_nil (we_then (wc_ret (we_block_ret (we_then_ret (we_then_ret (we_block_ret (we_then_ret ?_)))))))))))
     have hE := (Option.some.inj hm).symm
     replace hE := link_inr hLu1 hE
     replace hE := link_inr hLj_1 hE
     replace hE := hE.symm
     subst hE
     refine ret_one (Hr := []) [] Try.results19 (res_tmp rfl) ⟨rfl, rfl, rfl⟩ (asK [] rfl) rfl rfl (.inl rfl)
    ·
     replace hm := iteF hm hb25
     refine wc_keep [5,0,1] (S' := [_,_,_]) rfl (wc_skip (we_block_normal (we_then (wc_region (wP rfl (wP rfl ?_))))))
     obtain ⟨hg16, hm⟩ := gd_some hm
     refine wl_as (d := 16) (v' := .int .i64 ((u1_5 + 1 : Nat) : Int)) (S' := [_,_,_,_]) rfl rfl (nat_add (a := u1_5) (b := 1) hg16) (wl_pure (S' := [_,_,_,_]) rfl rfl rfl rfl rfl (wl_nil ?_))
     have hE := (Option.some.inj hm).symm
     replace hE := link_inl hLu1 hE
     refine we_roundK (_, u1_5 + 1) (Nat.lt_succ_self _) hE [5,0,1] rfl (asK [4,5] rfl) rfl
   ·
    replace hm := iteF hm hb14
    refine wc_keep [] (S' := []) rfl (wc_exit (we_then_exit (we_then_exit (we_block_hit ?_))))
    have hE := (Option.some.inj hm).symm
    replace hE := link_inr hLu1 hE
    refine we_join () hE [] rfl (asK [] rfl) rfl
  ·
   rintro _ hE
   try dsimp only
   have hm := link_inl hLj_1 hE
   try dsimp only at hm
   refine wc_seq (wc_region (wP rfl (wl_nil (we_then (wc_ret ?_)))))
   have hE := (Option.some.inj hm).symm
   replace hE := hE.symm
   subst hE
   refine ret_one (Hr := []) [] Try.results19 (res_tmp rfl) ⟨rfl, rfl, rfl⟩ (asK [] rfl) rfl rfl (.inl rfl)
theorem w_ropewalklaw20_awake_s (N : Nat)  (o0 : Bool) (hm : m_ropewalklaw20_awake N = some o0) : Spec Try.prog 6 [] [] [] (fun v Φr Hr => v = .bool o0 ∧ Φr = [] ∧ Hr = []) := by
 unfold m_ropewalklaw20_awake at hm
 refine spec_of Try.func6 rfl Try.ntmps6 rfl (S := []) rfl (fun C => (wc_seq (wc_region (wP rfl (wl_nil (we_then (wc_keep [] (S' := []) rfl (wc_seq (wc_region ?_)))))))))
 obtain ⟨_, hc9, hm⟩ := bindO_some hm
 try dsimp only at hm
 refine wC [] [] rfl fn_7 rfl (w_net_New_s N  hc9) (asK [] rfl) rfl (H' := []) rfl ?_
 rintro _ _ _ ⟨c9_0, c9_1, rfl, rfl, rfl⟩
 refine wP rfl (wl_nil (we_then (wc_keep [1] (S' := [_]) rfl (wc_seq ?_))))
 obtain ⟨bj_1, hm, hLj_1⟩ := bindO_some hm
 unfold m_ropewalklaw20_awake_C1 at hm
 refine wc_cut (σ := (List ((Int × Int) × List (List Int))) × Bool) (fun (j_1_1_f0_m, j_1_2) => bj_1 = (j_1_1_f0_m, j_1_2)) (fun (j_1_1_f0_m, j_1_2) => [(1, .pointer (some ⟨c9_0,0, none⟩)), (2, .bool j_1_2)]) (fun (j_1_1_f0_m, j_1_2) => []) (fun (j_1_1_f0_m, j_1_2) => [.blk c9_0 [.map (some c9_1)] 54, mapG (keyOfK pairKey57) (Fact.own 28 1 R_l_u8) none c9_1 j_1_1_f0_m]) ?_ ?_
 ·
  refine wc_region (wP rfl (wl_buildSlice rfl rfl rfl (freshS_eq rfl) rfl tE_28 tS_5 tZ_5 rfl (zs := [.int .u8 0]) (by kernel_rfl) rfl (out := [_]) rfl (fun g11 => (wl_row (sz := 1) (m := 1) R_u8 [120] 0 rfl (fun F w hφ => ⟨[.int .u8 120],[], rfl, rfl, ⟨(), rfl, ask_nil⟩, rfl⟩) rfl (by decide) (H' := [_,_,_]) rfl (wl_markRow 0 rfl rfl rfl (freshS_eq rfl) rfl rfl rfl rfl tD_28 tD_5 mkRep_free (H' := [.blk c9_0 [.map (some c9_1)] 54, mapG (keyOfK pairKey57) (Fact.own 28 1 R_l_u8) none c9_1 ([] : List ((Int × Int) × List (List Int)))]) rfl ?_)))))
  obtain ⟨⟨v13_0, v13_1⟩, hc13, hm⟩ := bindO_some hm
  try dsimp only at hm
  refine wC [0,1] [] rfl fn_13 rfl (w_net_Net_Send_s N c9_0 c9_1 ([] : List ((Int × Int) × List (List Int))) 1 2 (some ⟨g11,0, none⟩) 1 [120] _ _ hc13) (asK [0] rfl) rfl (H' := []) rfl ?_
  rintro _ _ _ ⟨rfl, rfl, rfl⟩
  refine wP rfl (wl_as (d := 14) (v' := .bool (v13_0 == 0)) (S' := [_,_,_,_,_]) rfl rfl (nateq (a := v13_0) (b := 0)) (wP rfl ?_))
  refine wl_split (d := 15) (S' := [_,_,_,_,_,_]) rfl rfl (fun hs15 => ?_) (fun hs15 => ?_)
  ·
   replace hm := iteT hm hs15
   refine wP rfl (wl_buildSlice rfl rfl rfl (freshS_eq rfl) rfl tE_28 tS_5 tZ_5 rfl (zs := [.int .u8 0]) (by kernel_rfl) rfl (out := [_]) rfl (fun g17 => (wl_row (sz := 1) (m := 1) R_u8 [121] 0 rfl (fun F w hφ => ⟨[.int .u8 121],[], rfl, rfl, ⟨(), rfl, ask_nil⟩, rfl⟩) rfl (by decide) (H' := [_,_,_]) rfl (wl_markRow 0 rfl rfl rfl (freshS_eq rfl) rfl rfl rfl rfl tD_28 tD_5 mkRep_free (H' := [.blk c9_0 [.map (some c9_1)] 54, mapG (keyOfK pairKey57) (Fact.own 28 1 R_l_u8) none c9_1 v13_1]) rfl ?_))))
   obtain ⟨⟨v19_0, v19_1⟩, hc19, hm⟩ := bindO_some hm
   try dsimp only at hm
   refine wC [0,1] [] rfl fn_13 rfl (w_net_Net_Send_s N c9_0 c9_1 v13_1 1 2 (some ⟨g17,0, none⟩) 1 [121] _ _ hc19) (asK [0] rfl) rfl (H' := []) rfl ?_
   rintro _ _ _ ⟨rfl, rfl, rfl⟩
   refine wP rfl (wl_as (d := 20) (v' := .bool (v19_0 == 0)) (S' := [_,_,_,_,_,_,_,_,_,_,_]) rfl rfl (nateq (a := v19_0) (b := 0)) (wP rfl (wP rfl ?_)))
   refine wl_split (d := 22) (S' := [_,_,_,_,_,_,_,_,_,_,_,_,_]) rfl rfl (fun hs22 => ?_) (fun hs22 => ?_)
   ·
    replace hm := iteT hm hs22
    refine wP rfl ?_
    obtain ⟨v24, hc24, hm⟩ := bindO_some hm
    refine wC [0,1] [] rfl fn_15 rfl (w_net_Net_Count_s N c9_0 c9_1 v19_1 1 2 _ hc24) (asK [] rfl) rfl (H' := []) rfl ?_
    rintro _ _ _ ⟨rfl, rfl, rfl⟩
    refine wP rfl (wl_as (d := 25) (v' := .bool (v24 == 2)) (S' := [_,_,_,_,_,_,_,_,_,_,_,_,_,_,_,_]) rfl rfl (nateq (a := v24) (b := 2)) (wP rfl (wP rfl ?_)))
    refine wl_split (d := 27) (S' := [_,_,_,_,_,_,_,_,_,_,_,_,_,_,_,_,_,_]) rfl rfl (fun hs27 => ?_) (fun hs27 => ?_)
    ·
     replace hm := iteT hm hs27
     refine wP rfl ?_
     obtain ⟨v29, hc29, hm⟩ := bindO_some hm
     refine wC [0,1] [] rfl fn_15 rfl (w_net_Net_Count_s N c9_0 c9_1 v19_1 2 1 _ hc29) (asK [] rfl) rfl (H' := []) rfl ?_
     rintro _ _ _ ⟨rfl, rfl, rfl⟩
     refine wP rfl (wl_as (d := 30) (v' := .bool (v29 == 0)) (S' := [_,_,_,_,_,_,_,_,_,_,_,_,_,_,_,_,_,_,_,_,_]) rfl rfl (nateq (a := v29) (b := 0)) (wP rfl (wP rfl ?_)))
     refine wl_split (d := 32) (S' := [_,_,_,_,_,_,_,_,_,_,_,_,_,_,_,_,_,_,_,_,_,_,_]) rfl rfl (fun hs32 => ?_) (fun hs32 => ?_)
     ·
      replace hm := iteT hm hs32
      refine wP rfl ?_
      obtain ⟨v34, hc34, hm⟩ := bindO_some hm
      refine wC [0,1] [] rfl fn_20 rfl (w_net_Net_Links_s N c9_0 c9_1 v19_1 _ hc34) (asK [] rfl) rfl (H' := []) rfl ?_
      rintro _ _ _ ⟨p34_0, c34_1, c34_2, rfl, rfl, rfl⟩
      refine wl_buildArr rfl rfl rfl (freshS_eq rfl) rfl tZ_48 tArr_48 rfl (out := [_,_]) rfl (wl_buildSlice rfl rfl rfl (freshS_eq rfl) rfl tE_45 tS_48 tZ_48 rfl (zs := [.int .i64 0, .int .i64 0]) (by kernel_rfl) rfl (out := [_,_]) rfl (fun g36 => (wl_row (sz := 2) (m := 1) R_a2_i64 ([(1,2)]) 0 rfl (fun F w hφ => ⟨[.int .i64 1, .int .i64 2],[], rfl, rfl, ⟨(), rfl, ask_nil⟩, rfl⟩) rfl (by decide) (H' := [_,_,_,_]) rfl (wl_ownLen 1 rfl (fun hzc34_2 _ => ?_)))))
      subst hzc34_2
      obtain ⟨v37, hc37, hm⟩ := bindO_some hm
      refine wl_lend [] [0,1,2,3] [1,0] rfl rfl rfl (freshS_eq rfl) rfl rfl fn_19 rfl (w_ropewalklaw20_links_s N p34_0 c34_1 v34 (some ⟨g36,0, none⟩) 1 [(1,2)] _ hc37) (fun F w hφ hh => (ask_cons (own_sli (hh _ (mem_at (k := 0) rfl))) (ask_cons (own_sli (hh _ (mem_at (k := 1) rfl))) ask_nil))) (fun _ _ _ hR => by obtain ⟨rfl, rfl, rfl⟩ := hR; exact ⟨rfl, (fun _ h => free_nil h)⟩) rfl rfl (H' := [_,_,_,_]) rfl ?_
      rintro _ _ _ ⟨rfl, rfl, rfl⟩
      refine wP rfl (wP rfl ?_)
      refine wl_split (d := 39) (S' := [_,_,_,_,_,_,_,_,_,_,_,_,_,_,_,_,_,_,_,_,_,_,_,_,_,_,_,_,_,_]) rfl rfl (fun hs39 => ?_) (fun hs39 => ?_)
      ·
       replace hm := iteT hm hs39
       refine wP rfl ?_
       obtain ⟨⟨v41_0, v41_1⟩, hc41, hm⟩ := bindO_some hm
       try dsimp only at hm
       refine wC [2,3] [0,1] rfl fn_12 rfl (w_net_Net_Double_s N c9_0 c9_1 v19_1 1 2 0 _ _ hc41) (asK [] rfl) rfl (H' := [_,_]) rfl ?_
       rintro _ _ _ ⟨rfl, rfl, rfl⟩
       refine wP rfl (wl_as (d := 42) (v' := .bool (v41_0 == 0)) (S' := [_,_,_,_,_,_,_,_,_,_,_,_,_,_,_,_,_,_,_,_,_,_,_,_,_,_,_,_,_,_,_,_,_]) rfl rfl (nateq (a := v41_0) (b := 0)) (wP rfl (wP rfl (wl_nil ?_))))
       have hE := (Option.some.inj hm).symm
       refine we_pick [0,1] rfl (H' := [_,_]) rfl ?_
       refine we_join (v41_1, v41_0 == 0) hE [1,2] rfl (asK [] rfl) rfl
      ·
       replace hm := iteF hm hs39
       refine wO rfl (wO rfl (wO rfl (wP rfl (wP rfl (wl_nil ?_)))))
       have hE := (Option.some.inj hm).symm
       refine we_pick [2,3] rfl (H' := [_,_]) rfl ?_
       refine we_join (v19_1, false) hE [1,2] rfl (asK [] rfl) rfl
     ·
      replace hm := iteF hm hs32
      refine wO rfl (wO rfl (wO rfl (wO rfl (wO rfl (wP rfl (wP rfl (wO rfl (wO rfl (wO rfl (wP rfl (wP rfl (wl_nil ?_))))))))))))
      have hE := (Option.some.inj hm).symm
      refine we_join (v19_1, false) hE [1,2] rfl (asK [] rfl) rfl
    ·
     replace hm := iteF hm hs27
     refine wO rfl (wO rfl (wO rfl (wP rfl (wP rfl (wO rfl (wO rfl (wO rfl (wO rfl (wO rfl (wP rfl (wP rfl (wO rfl (wO rfl ?_)))))))))))))
     refine wO rfl (wP rfl (wP rfl (wl_nil ?_)))
     have hE := (Option.some.inj hm).symm
     refine we_join (v19_1, false) hE [1,2] rfl (asK [] rfl) rfl
   ·
    replace hm := iteF hm hs22
    refine wO rfl (wO rfl (wO rfl (wP rfl (wP rfl (wO rfl (wO rfl (wO rfl (wP rfl (wP rfl (wO rfl (wO rfl (wO rfl (wO rfl ?_)))))))))))))
    refine wO rfl (wP rfl (wP rfl (wO rfl (wO rfl (wO rfl (wP rfl (wP rfl (wl_nil ?_))))))))
    have hE := (Option.some.inj hm).symm
    refine we_join (v19_1, false) hE [1,2] rfl (asK [] rfl) rfl
  ·
   replace hm := iteF hm hs15
   refine wO rfl (wO rfl (wO rfl (wO rfl (wO rfl (wP rfl (wP rfl (wO rfl (wO rfl (wO rfl (wP rfl (wP rfl (wO rfl (wO rfl ?_)))))))))))))
   refine wO rfl (wP rfl (wP rfl (wO rfl (wO rfl (wO rfl (wO rfl (wO rfl (wP rfl (wP rfl (wO rfl (wO rfl (wO rfl (wP rfl ?_)))))))))))))
   refine wP rfl (wl_nil ?_)
   have hE := (Option.some.inj hm).symm
   refine we_join (v13_1, false) hE [1,2] rfl (asK [] rfl) rfl
 ·
  rintro ⟨j_1_1_f0_m, j_1_2⟩ hE
  try dsimp only
  have hm := hLj_1
  rw [hE] at hm
  try dsimp only at hm
  refine wc_seq (wc_region (wP rfl ?_))
  obtain ⟨⟨v46_0, v46_1, v46_2⟩, hc46, hm⟩ := bindO_some hm
  try dsimp only at hm
  refine wC [0,1] [] rfl fn_9 rfl (w_net_Net_Take_s N c9_0 c9_1 j_1_1_f0_m 1 2 0 _ _ _ hc46) (asK [] rfl) rfl (H' := []) rfl ?_
  rintro _ _ _ ⟨p46_0, c46_1, rfl, rfl, rfl⟩
  refine wP rfl (wP rfl (wP rfl (wP rfl (wP rfl (wl_nil (we_then (wc_keep [4,3,1,2] (S' := [_,_,_,_]) rfl (wc_seq (wc_region (wP rfl ?_))))))))))
  obtain ⟨⟨v51_0, v51_1, v51_2⟩, hc51, hm⟩ := bindO_some hm
  try dsimp only at hm
  refine wC [0,1] [] rfl fn_9 rfl (w_net_Net_Take_s N c9_0 c9_1 v46_2 1 2 1 _ _ _ hc51) (asK [] rfl) rfl (H' := []) rfl ?_
  rintro _ _ _ ⟨p51_0, c51_1, rfl, rfl, rfl⟩
  refine wP rfl (wP rfl (wP rfl (wP rfl (wP rfl (wl_nil (we_then (wc_keep [6,5,4,3,1,2] (S' := [_,_,_,_,_,_]) rfl (wc_seq (wc_region (wP rfl ?_))))))))))
  obtain ⟨⟨v56_0, v56_1, v56_2⟩, hc56, hm⟩ := bindO_some hm
  try dsimp only at hm
  refine wC [0,1] [] rfl fn_9 rfl (w_net_Net_Take_s N c9_0 c9_1 v51_2 1 2 1 _ _ _ hc56) (asK [] rfl) rfl (H' := []) rfl ?_
  rintro _ _ _ ⟨p56_0, c56_1, rfl, rfl, rfl⟩
  refine wP rfl (wP rfl (wP rfl (wP rfl (wP rfl (wl_nil (we_then (wc_keep [8,6,5,4,3,1,2] (S' := [_,_,_,_,_,_,_]) rfl (wc_seq ?_))))))))
  obtain ⟨bj_2, hm, hLj_2⟩ := bindO_some hm
  unfold m_ropewalklaw20_awake_C2 at hm
  refine wc_cut (σ := Bool) (fun j_2_0 => bj_2 = j_2_0) (fun j_2_0 => [(0, .bool j_2_0)]) (fun j_2_0 => []) (fun j_2_0 => []) ?_ ?_
  ·
   refine wc_region (wP rfl (wP rfl ?_))
   refine wl_split (d := 60) (S' := [_,_,_,_,_,_,_,_]) rfl rfl (fun hs60 => ?_) (fun hs60 => ?_)
   ·
    replace hm := iteT hm hs60
    refine wP rfl (wP rfl (wl_as (d := 62) (v' := .bool (v46_1 == 0)) (S' := [_,_,_,_,_,_,_,_,_,_]) rfl rfl (nateq (a := v46_1) (b := 0)) (wP rfl (wP rfl ?_))))
    refine wl_split (d := 64) (S' := [_,_,_,_,_,_,_,_,_,_,_,_]) rfl rfl (fun hs64 => ?_) (fun hs64 => ?_)
    ·
     replace hm := iteT hm hs64
     refine wP rfl (wP rfl (wl_as (d := 66) (v' := .bool (v51_1 == 0)) (S' := [_,_,_,_,_,_,_,_,_,_,_,_,_,_]) rfl rfl (nateq (a := v51_1) (b := 0)) (wP rfl (wP rfl ?_))))
     refine wl_split (d := 68) (S' := [_,_,_,_,_,_,_,_,_,_,_,_,_,_,_,_]) rfl rfl (fun hs68 => ?_) (fun hs68 => ?_)
     ·
      replace hm := iteT hm hs68
      refine wP rfl (wP rfl (wl_as (d := 70) (v' := .bool (v56_1 == 6)) (S' := [_,_,_,_,_,_,_,_,_,_,_,_,_,_,_,_,_,_]) rfl rfl (nateq (a := v56_1) (b := 6)) (wP rfl (wP rfl ?_))))
      refine wl_split (d := 72) (S' := [_,_,_,_,_,_,_,_,_,_,_,_,_,_,_,_,_,_,_,_]) rfl rfl (fun hs72 => ?_) (fun hs72 => ?_)
      ·
       replace hm := iteT hm hs72
       refine wP rfl (wl_bytesStr 2 rfl rfl rfl (freshS_eq rfl) rfl rfl rfl tD_28 tD_5 tD_9 (fun _ _ _ _ h => by obtain ⟨_, h, _⟩ := h; exact h) (wP rfl (wP rfl (wP rfl ?_))))
       refine wl_split (d := 77) (S' := [_,_,_,_,_,_,_,_,_,_,_,_,_,_,_,_,_,_,_,_,_,_,_,_,_]) rfl rfl (fun hs77 => ?_) (fun hs77 => ?_)
       ·
        replace hm := iteT hm hs77
        refine wP rfl (wl_bytesStr 1 rfl rfl rfl (freshS_eq rfl) rfl rfl rfl tD_28 tD_5 tD_9 (fun _ _ _ _ h => by obtain ⟨_, h, _⟩ := h; exact h) (wP rfl (wP rfl (wP rfl ?_))))
        refine wl_split (d := 82) (S' := [_,_,_,_,_,_,_,_,_,_,_,_,_,_,_,_,_,_,_,_,_,_,_,_,_,_,_,_,_,_]) rfl rfl (fun hs82 => ?_) (fun hs82 => ?_)
        ·
         replace hm := iteT hm hs82
         refine wP rfl ?_
         obtain ⟨v84, hc84, hm⟩ := bindO_some hm
         refine wC [0,1] [] rfl fn_15 rfl (w_net_Net_Count_s N c9_0 c9_1 v56_2 1 2 _ hc84) (asK [] rfl) rfl (H' := []) rfl ?_
         rintro _ _ _ ⟨rfl, rfl, rfl⟩
         refine wP rfl (wl_as (d := 85) (v' := .bool (v84 == 1)) (S' := [_,_,_,_,_,_,_,_,_,_,_,_,_,_,_,_,_,_,_,_,_,_,_,_,_,_,_,_,_,_,_,_,_]) rfl rfl (nateq (a := v84) (b := 1)) (wP rfl (wP rfl (wl_nil ?_))))
         have hE := (Option.some.inj hm).symm
         refine we_pick [] rfl (H' := []) rfl ?_
         refine we_join (v84 == 1) hE [0] rfl (asK [] rfl) rfl
        ·
         replace hm := iteF hm hs82
         refine wO rfl (wO rfl (wO rfl (wP rfl (wP rfl (wl_nil ?_)))))
         have hE := (Option.some.inj hm).symm
         refine we_pick [] rfl (H' := []) rfl ?_
         refine we_join false hE [0] rfl (asK [] rfl) rfl
       ·
        replace hm := iteF hm hs77
        refine wO rfl (wO rfl (wO rfl (wP rfl (wP rfl (wO rfl (wO rfl (wO rfl (wP rfl (wP rfl (wl_nil ?_))))))))))
        have hE := (Option.some.inj hm).symm
        refine we_pick [] rfl (H' := []) rfl ?_
        refine we_join false hE [0] rfl (asK [] rfl) rfl
      ·
       replace hm := iteF hm hs72
       refine wO rfl (wO rfl (wO rfl (wP rfl (wP rfl (wO rfl (wO rfl (wO rfl (wP rfl (wP rfl (wO rfl (wO rfl (wO rfl (wP rfl ?_)))))))))))))
       refine wP rfl (wl_nil ?_)
       have hE := (Option.some.inj hm).symm
       refine we_pick [] rfl (H' := []) rfl ?_
       refine we_join false hE [0] rfl (asK [] rfl) rfl
     ·
      replace hm := iteF hm hs68
      refine wO rfl (wO rfl (wP rfl (wP rfl (wO rfl (wO rfl (wO rfl (wP rfl (wP rfl (wO rfl (wO rfl (wO rfl (wP rfl (wP rfl ?_)))))))))))))
      refine wO rfl (wO rfl (wO rfl (wP rfl (wP rfl (wl_nil ?_)))))
      have hE := (Option.some.inj hm).symm
      refine we_pick [] rfl (H' := []) rfl ?_
      refine we_join false hE [0] rfl (asK [] rfl) rfl
    ·
     replace hm := iteF hm hs64
     refine wO rfl (wO rfl (wP rfl (wP rfl (wO rfl (wO rfl (wP rfl (wP rfl (wO rfl (wO rfl (wO rfl (wP rfl (wP rfl (wO rfl ?_)))))))))))))
     refine wO rfl (wO rfl (wP rfl (wP rfl (wO rfl (wO rfl (wO rfl (wP rfl (wP rfl (wl_nil ?_)))))))))
     have hE := (Option.some.inj hm).symm
     refine we_pick [] rfl (H' := []) rfl ?_
     refine we_join false hE [0] rfl (asK [] rfl) rfl
   ·
    replace hm := iteF hm hs60
    refine wO rfl (wO rfl (wP rfl (wP rfl (wO rfl (wO rfl (wP rfl (wP rfl (wO rfl (wO rfl (wP rfl (wP rfl (wO rfl (wO rfl ?_)))))))))))))
    refine wO rfl (wP rfl (wP rfl (wO rfl (wO rfl (wO rfl (wP rfl (wP rfl (wO rfl (wO rfl (wO rfl (wP rfl (wP rfl (wl_nil ?_)))))))))))))
    have hE := (Option.some.inj hm).symm
    refine we_pick [] rfl (H' := []) rfl ?_
    refine we_join false hE [0] rfl (asK [] rfl) rfl
  ·
   rintro j_2_0 hE
   try dsimp only
   have hm := hLj_2
   rw [hE] at hm
   refine wc_ret ?_
   have hE := (Option.some.inj hm).symm
   replace hE := hE.symm
   subst hE
   refine ret_one (Hr := []) [] Try.results6 (res_tmp rfl) ⟨rfl, rfl, rfl⟩ (asK [] rfl) rfl rfl (.inl rfl)
theorem w_ropewalklaw20_place_s (N : Nat) (qp0 : Option Addr) (qc1 : Nat) (l0 : List (List Int)) (qp2 : Option Addr) (qc3 : Nat) (l1 : List Int) (o0 : Int) (hm : m_ropewalklaw20_place N l0 l1 = some o0) : Spec Try.prog 10 [.slice qp0 l0.length qc1, .slice qp2 l1.length qc3] [.sli 1 R_l_u8 qp0 qc1 l0, .sli 1 R_u8 qp2 qc3 l1] [] (fun v Φr Hr => v = .int .i64 o0 ∧ Φr = [] ∧ Hr = []) := by
 unfold m_ropewalklaw20_place at hm
 refine spec_of Try.func10 rfl Try.ntmps10 rfl (S := [_,_]) rfl (fun C => (wc_seq (wc_region (wP rfl (wl_nil (we_then (wc_keep [0,1] (S' := [_,_]) rfl (wc_seq ?_))))))))
 obtain ⟨bj_1, hm, hLj_1⟩ := bindS_some hm
 refine wc_cut (σ := Unit) (fun _ => bj_1 = .inl ()) (fun _ => []) (fun _ => []) (fun _ => []) ?_ ?_
 ·
  refine wc_seq (wc_region (wP rfl (wl_nil (we_then (wc_block (wc_loop (σ := Nat × Nat) (fun (nu1, u1_5) => iter (m_ropewalklaw20_place_L1 N l0 l1) nu1 u1_5 = some bj_1) (fun (nu1, u1_5) => nu1) (fun (nu1, u1_5) => [(5, .int .i64 ((u1_5 : Nat) : Int)), (0, .slice qp0 l0.length qc1), (1, .slice qp2 l1.length qc3)]) (fun (nu1, u1_5) => [.sli 1 R_l_u8 qp0 qc1 l0, .sli 1 R_u8 qp2 qc3 l1]) (fun (nu1, u1_5) => []) (N, 0) hm [5,0,1] rfl (asK [0,1] rfl) rfl (fun s_ hm => ?_)))))))
  obtain ⟨nu1, u1_5⟩ := s_
  try dsimp only at hm ⊢
  obtain ⟨mu1, bu1, hnu1, hq, hLu1⟩ := iter_some hm
  clear hm
  subst hnu1
  replace hm := hq
  clear hq
  unfold m_ropewalklaw20_place_L1 at hm
  try dsimp only at hm
  refine wc_seq (wc_seq (wc_region (wP rfl (wP rfl (wN rfl tE_26 (wP rfl (wl_as (d := 9) (v' := .bool (decide (u1_5 < l0.length))) (S' := [_,_,_,_,_,_]) rfl rfl (natlt (a := u1_5) (b := l0.length)) (wl_nil (we_then (wc_keep [9,5,0,1] (S' := [_,_,_,_]) rfl ?_))))))))))
  refine wc_cond rfl (fun hb9 => ?_) (fun hb9 => ?_)
  ·
   replace hm := iteT hm hb9
   refine wc_keep [5,0,1] (S' := [_,_,_]) rfl (wc_skip (we_then (wc_seq (wc_block (wc_seq (wc_region (wP rfl (wP rfl ?_))))))))
   obtain ⟨x14, hx14, hm⟩ := bindO_some hm
   refine wl_indexA 0 u1_5 rfl rfl rfl (freshS_eq rfl) rfl rfl rfl rfl rfl hx14 tE_26 tS_28 (fun b14 q14 cs14 hlx14 => (wl_open R_l_u8_opens 1 rfl (fun r14 er14 _ => ?_)))
   subst er14
   refine wl_load 1 0 rfl rfl rfl (freshS_eq rfl) rfl rfl rfl (cs := [_]) rfl tS_28 tA_28 rfl rfl (wP rfl ?_)
   obtain ⟨v17, hc17, hm⟩ := bindO_some hm
   refine wC [] [] rfl fn_23 rfl (w_ropewalkkit_SameBytes_s N r14.1 r14.2 x14 qp2 qc3 l1 _ hc17) (asK [0,4] rfl) rfl (H' := []) rfl ?_
   rintro _ _ _ ⟨rfl, rfl, rfl⟩
   refine wl_nil (we_then (wc_keep [17,5,0,1] (S' := [_,_,_,_]) rfl ?_))
   refine wc_cond rfl (fun hb17 => ?_) (fun hb17 => ?_)
   ·
    replace hm := iteT hm hb17
    refine wc_keep [5] (S' := [_]) rfl (wc_seq (wc_region (wP rfl (wP rfl (wl_nil (we_then (wc_keep [4] (S' := [_]) rfl (wc_ret (we_block_ret (we_then_ret (we_then_ret (we_block_ret (we_then_ret ?_)))))))))))))
    have hE := (Option.some.inj hm).symm
    replace hE := link_inr hLu1 hE
    replace hE := link_inr hLj_1 hE
    replace hE := hE.symm
    subst hE
    refine ret_one (Hr := []) [] Try.results10 (res_tmp rfl) ⟨rfl, rfl, rfl⟩ (asK [] rfl) rfl rfl (.inl rfl)
   ·
    replace hm := iteF hm hb17
    refine wc_keep [5,0,1] (S' := [_,_,_]) rfl (wc_skip (we_block_normal (we_then (wc_region (wP rfl (wP rfl ?_))))))
    obtain ⟨hg11, hm⟩ := gd_some hm
    refine wl_as (d := 11) (v' := .int .i64 ((u1_5 + 1 : Nat) : Int)) (S' := [_,_,_,_]) rfl rfl (nat_add (a := u1_5) (b := 1) hg11) (wl_pure (S' := [_,_,_,_]) rfl rfl rfl rfl rfl (wl_nil ?_))
    have hE := (Option.some.inj hm).symm
    replace hE := link_inl hLu1 hE
    refine we_roundK (_, u1_5 + 1) (Nat.lt_succ_self _) hE [5,0,1] rfl (asK [3,4] rfl) rfl
  ·
   replace hm := iteF hm hb9
   refine wc_keep [] (S' := []) rfl (wc_exit (we_then_exit (we_then_exit (we_block_hit ?_))))
   have hE := (Option.some.inj hm).symm
   replace hE := link_inr hLu1 hE
   refine we_join () hE [] rfl (asK [] rfl) rfl
 ·
  rintro _ hE
  try dsimp only
  have hm := link_inl hLj_1 hE
  try dsimp only at hm
  refine wc_seq (wc_region (wP rfl (wl_nil (we_then (wc_ret ?_)))))
  have hE := (Option.some.inj hm).symm
  replace hE := hE.symm
  subst hE
  refine ret_one (Hr := []) [] Try.results10 (res_tmp rfl) ⟨rfl, rfl, rfl⟩ (asK [] rfl) rfl rfl (.inl rfl)
theorem w_ropewalklaw20_peeked_s (N : Nat) (qg0 : Nat) (qb1 : Nat) (e0 : List ((Int × Int) × List (List Int))) (a1 : Int) (a2 : Int) (a3 : Int) (o2 : List Int) (o3 : List ((Int × Int) × List (List Int))) (hm : m_ropewalklaw20_peeked N e0 a1 a2 a3 = some (o2, o3)) : Spec Try.prog 11 [.pointer (some ⟨qg0,0, none⟩), .int .i64 a1, .int .i64 a2, .int .i64 a3] [] [.blk qg0 [.map (some qb1)] 54, mapG (keyOfK pairKey57) (Fact.own 28 1 R_l_u8) none qb1 e0] (fun v Φr Hr => ∃ (o0 : Option Addr) (o1 : Nat), v = .slice o0 o2.length o1 ∧ Φr = [.sli 1 R_u8 o0 o1 o2] ∧ Hr = [.blk qg0 [.map (some qb1)] 54, mapG (keyOfK pairKey57) (Fact.own 28 1 R_l_u8) none qb1 o3]) := by
 unfold m_ropewalklaw20_peeked at hm
 refine spec_of Try.func11 rfl Try.ntmps11 rfl (S := [_,_,_,_]) rfl (fun C => (wc_seq (wc_region (wP rfl (wl_nil (we_then (wc_keep [0,1,2,3] (S' := [_,_,_,_]) rfl (wc_seq (wc_region (wP rfl (wl_nil (we_then (wc_seq ?_)))))))))))))
 obtain ⟨bj_1, hm, hLj_1⟩ := bindO_some hm
 refine wc_cut (σ := (List ((Int × Int) × List (List Int))) × (List (List Int)) × (Option Addr) × Nat × Nat) (fun (j_1_0_f0_m, j_1_9_l, j_1_9_p, j_1_9_c, j_1_9_n) => bj_1 = (j_1_0_f0_m, j_1_9_l)) (fun (j_1_0_f0_m, j_1_9_l, j_1_9_p, j_1_9_c, j_1_9_n) => [(0, .pointer (some ⟨qg0,0, none⟩)), (1, .int .i64 a1), (2, .int .i64 a2), (9, .slice j_1_9_p j_1_9_n j_1_9_c)]) (fun (j_1_0_f0_m, j_1_9_l, j_1_9_p, j_1_9_c, j_1_9_n) => []) (fun (j_1_0_f0_m, j_1_9_l, j_1_9_p, j_1_9_c, j_1_9_n) => [.blk qg0 [.map (some qb1)] 54, mapG (keyOfK pairKey57) (Fact.own 28 1 R_l_u8) none qb1 j_1_0_f0_m, .own 28 1 R_l_u8 (.slice j_1_9_p j_1_9_n j_1_9_c) j_1_9_l]) ?_ ?_
 ·
  refine wc_seq (wc_region (wP rfl (wl_nil (we_then (wc_block (wc_rowNil 28 1 R_l_u8 (wc_loop (σ := Nat × Nat × (List (List Int)) × (List ((Int × Int) × List (List Int))) × (Option Addr) × Nat × Nat) (fun (nu1, u1_10, u1_9_l, u1_0_f0_m, u1_9_p, u1_9_c, u1_9_n) => iter (m_ropewalklaw20_peeked_L1 N a3 a1 a2) nu1 (u1_10, u1_9_l, u1_0_f0_m) = some bj_1) (fun (nu1, u1_10, u1_9_l, u1_0_f0_m, u1_9_p, u1_9_c, u1_9_n) => nu1) (fun (nu1, u1_10, u1_9_l, u1_0_f0_m, u1_9_p, u1_9_c, u1_9_n) => [(10, .int .i64 ((u1_10 : Nat) : Int)), (9, .slice u1_9_p u1_9_n u1_9_c), (0, .pointer (some ⟨qg0,0, none⟩)), (1, .int .i64 a1), (2, .int .i64 a2), (3, .int .i64 a3)]) (fun (nu1, u1_10, u1_9_l, u1_0_f0_m, u1_9_p, u1_9_c, u1_9_n) => []) (fun (nu1, u1_10, u1_9_l, u1_0_f0_m, u1_9_p, u1_9_c, u1_9_n) => [.own 28 1 R_l_u8 (.slice u1_9_p u1_9_n u1_9_c) u1_9_l, .blk qg0 [.map (some qb1)] 54, mapG (keyOfK pairKey57) (Fact.own 28 1 R_l_u8) none qb1 u1_0_f0_m]) (N, 0,[], e0, none, 0,0) hm [10,9,0,1,2,3] rfl (asK [] rfl) rfl (fun s_ hm => ?_))))))))
  obtain ⟨nu1, u1_10, u1_9_l, u1_0_f0_m, u1_9_p, u1_9_c, u1_9_n⟩ := s_
  try dsimp only at hm ⊢
  obtain ⟨mu1, bu1, hnu1, hq, hLu1⟩ := iter_some hm
  clear hm
  subst hnu1
  replace hm := hq
  clear hq
  unfold m_ropewalklaw20_peeked_L1 at hm
  try dsimp only at hm
  refine wc_seq (wc_seq ?_)
  obtain ⟨bj_2, hm, hLj_2⟩ := bindO_some hm
  refine wc_cut (σ := Bool) (fun j_2_19 => bj_2 = j_2_19) (fun j_2_19 => [(10, .int .i64 ((u1_10 : Nat) : Int)), (9, .slice u1_9_p u1_9_n u1_9_c), (0, .pointer (some ⟨qg0,0, none⟩)), (1, .int .i64 a1), (2, .int .i64 a2), (3, .int .i64 a3), (19, .bool j_2_19)]) (fun j_2_19 => []) (fun j_2_19 => [.own 28 1 R_l_u8 (.slice u1_9_p u1_9_n u1_9_c) u1_9_l, .blk qg0 [.map (some qb1)] 54, mapG (keyOfK pairKey57) (Fact.own 28 1 R_l_u8) none qb1 u1_0_f0_m]) ?_ ?_
  ·
   refine wc_region (wP rfl (wP rfl (wl_as (d := 15) (v' := .bool (decide (u1_10 < 64))) (S' := [_,_,_,_,_,_,_]) rfl rfl (natlt (a := u1_10) (b := 64)) (wP rfl ?_))))
   refine wl_split (d := 16) (S' := [_,_,_,_,_,_,_,_]) rfl rfl (fun hs16 => ?_) (fun hs16 => ?_)
   ·
    replace hm := iteT hm hs16
    refine wP rfl (wP rfl (wP rfl (wl_nil ?_)))
    have hE := (Option.some.inj hm).symm
    refine we_join (decide (a3 ≥ 0)) hE [10,9,0,1,2,3,19] rfl (asK [] rfl) rfl
   ·
    replace hm := iteF hm hs16
    refine wO rfl (wO rfl (wP rfl (wl_nil ?_)))
    have hE := (Option.some.inj hm).symm
    refine we_join false hE [10,9,0,1,2,3,19] rfl (asK [] rfl) rfl
  ·
   rintro j_2_19 hE
   try dsimp only
   have hm := hLj_2
   rw [hE] at hm
   refine wc_cond rfl (fun hb19 => ?_) (fun hb19 => ?_)
   ·
    replace hm := iteT hm hb19
    refine wc_keep [10,9,0,1,2,3] (S' := [_,_,_,_,_,_]) rfl (wc_skip (we_then (wc_seq (wc_block (wc_seq (wc_region (wP rfl (wP rfl (wP rfl (wP rfl ?_))))))))))
    obtain ⟨⟨v27_0, v27_1, v27_2⟩, hc27, hm⟩ := bindO_some hm
    try dsimp only at hm
    refine wC [1,2] [0] rfl fn_9 rfl (w_net_Net_Take_s N qg0 qb1 u1_0_f0_m a1 a2 a3 _ _ _ hc27) (asK [] rfl) rfl (H' := [_]) rfl ?_
    rintro _ _ _ ⟨p27_0, c27_1, rfl, rfl, rfl⟩
    refine wP rfl (wP rfl (wP rfl (wP rfl (wP rfl (wl_nil (we_then (wc_keep [12,11,10,9,0,1,2,3] (S' := [_,_,_,_,_,_,_,_]) rfl (wc_seq (wc_seq (wc_region (wP rfl (wP rfl (wl_as (d := 31) (v' := .bool (v27_1 != 0)) (S' := [_,_,_,_,_,_,_,_,_]) rfl rfl (natne (a := v27_1) (b := 0)) ?_)))))))))))))
    refine wl_nil (we_then (wc_keep [31,11,10,9,0,1,2,3] (S' := [_,_,_,_,_,_,_,_]) rfl ?_))
    refine wc_cond rfl (fun hb31 => ?_) (fun hb31 => ?_)
    ·
     replace hm := iteT hm hb31
     refine wc_keep [9,0,1,2] (S' := [_,_,_,_]) rfl (wc_exit (we_then_exit (we_block_miss (by decide) (we_then_exit (we_then_exit (we_block_hit ?_))))))
     have hE := (Option.some.inj hm).symm
     replace hE := link_inr hLu1 hE
     refine we_join (v27_2, u1_9_l, u1_9_p, u1_9_c, u1_9_n) hE [0,1,2,9] rfl (asK [] rfl) rfl
    ·
     replace hm := iteF hm hb31
     refine wc_keep [11,10,9,0,1,2,3] (S' := [_,_,_,_,_,_,_]) rfl (wc_skip (we_then (wc_region (wP rfl (wP rfl (wl_buildSlice rfl rfl rfl (freshS_eq rfl) rfl tE_26 tS_28 tZ_28 rfl (zs := [.slice none 0 0]) (by kernel_rfl) rfl (out := [_]) rfl (fun g34 => ?_)))))))
     obtain ⟨hg35, hm⟩ := gd_some hm
     refine wl_appendH [v27_0] 3 0 rfl rfl rfl (freshS_eq rfl) rfl rfl rfl rfl rfl (fun F w hφ => ⟨[.slice p27_0 v27_0.length c27_1],[], rfl, rfl, ⟨(p27_0, c27_1), rfl, (ask_cons (hφ _ (mem_at (k := 0) rfl)) ask_nil)⟩, rfl⟩) tE_26 tR_28 rfl rfl (Nat.le_trans hg35 (by decide)) (Nat.le_trans (Nat.mul_le_mul_right _ hg35) (by decide)) (H2 := fun p35 c35 => [_,_,_, .own 28 1 R_l_u8 (.slice p35 ((u1_9_l ++ [v27_0]).length) c35) (u1_9_l ++ [v27_0])]) (fun _ _ => rfl) (fun p35 c35 => (wl_drop 0 rfl (H' := [_,_,_]) rfl (wl_pure (S' := [_,_,_,_,_,_,_,_,_,_]) rfl rfl rfl rfl rfl (wl_nil (we_block_normal (we_then (wc_keep [9,10,0,1,2,3] (S' := [_,_,_,_,_,_]) rfl (wc_region (wP rfl (wP rfl ?_))))))))))
     obtain ⟨hg21, hm⟩ := gd_some hm
     refine wl_as (d := 21) (v' := .int .i64 ((u1_10 + 1 : Nat) : Int)) (S' := [_,_,_,_,_,_,_]) rfl rfl (nat_add (a := u1_10) (b := 1) hg21) (wl_pure (S' := [_,_,_,_,_,_,_]) rfl rfl rfl rfl rfl (wl_nil ?_))
     have hE := (Option.some.inj hm).symm
     replace hE := link_inl hLu1 hE
     refine we_pick [2,0,1] rfl (H' := [_,_,_]) rfl ?_
     refine we_roundK (_, u1_10 + 1, u1_9_l ++ [v27_0], v27_2, p35, c35, (u1_9_l ++ [v27_0]).length) (Nat.lt_succ_self _) hE [10,9,0,1,2,3] rfl (asK [] rfl) rfl
   ·
    replace hm := iteF hm hb19
    refine wc_keep [9,0,1,2] (S' := [_,_,_,_]) rfl (wc_exit (we_then_exit (we_then_exit (we_block_hit ?_))))
    have hE := (Option.some.inj hm).symm
    replace hE := link_inr hLu1 hE
    refine we_pick [1,2,0] rfl (H' := [_,_,_]) rfl ?_
    refine we_join (u1_0_f0_m, u1_9_l, u1_9_p, u1_9_c, u1_9_n) hE [0,1,2,9] rfl (asK [] rfl) rfl
 ·
  rintro ⟨j_1_0_f0_m, j_1_9_l, j_1_9_p, j_1_9_c, j_1_9_n⟩ hE
  try dsimp only
  have hm := hLj_1
  rw [hE] at hm
  try dsimp only at hm
  refine wc_seq ?_
  obtain ⟨bj_3, hm, hLj_3⟩ := bindO_some hm
  refine wc_cut (σ := List ((Int × Int) × List (List Int))) (fun j_3_r0_f0_m => bj_3 = j_3_r0_f0_m) (fun j_3_r0_f0_m => [(9, .slice j_1_9_p j_1_9_n j_1_9_c)]) (fun j_3_r0_f0_m => []) (fun j_3_r0_f0_m => [.own 28 1 R_l_u8 (.slice j_1_9_p j_1_9_n j_1_9_c) j_1_9_l, .blk qg0 [.map (some qb1)] 54, mapG (keyOfK pairKey57) (Fact.own 28 1 R_l_u8) none qb1 j_3_r0_f0_m]) ?_ ?_
  ·
   refine wc_seq (wc_region (wP rfl (wl_nil (we_then (wc_block (wc_loop (σ := Nat × Nat × (List ((Int × Int) × List (List Int)))) (fun (nu2, u2_13, u2_0_f0_m) => iter (m_ropewalklaw20_peeked_L2 N j_1_9_l a1 a2) nu2 (u2_13, u2_0_f0_m) = some bj_3) (fun (nu2, u2_13, u2_0_f0_m) => nu2) (fun (nu2, u2_13, u2_0_f0_m) => [(13, .int .i64 ((u2_13 : Nat) : Int)), (0, .pointer (some ⟨qg0,0, none⟩)), (1, .int .i64 a1), (2, .int .i64 a2), (9, .slice j_1_9_p j_1_9_n j_1_9_c)]) (fun (nu2, u2_13, u2_0_f0_m) => []) (fun (nu2, u2_13, u2_0_f0_m) => [.blk qg0 [.map (some qb1)] 54, mapG (keyOfK pairKey57) (Fact.own 28 1 R_l_u8) none qb1 u2_0_f0_m, .own 28 1 R_l_u8 (.slice j_1_9_p j_1_9_n j_1_9_c) j_1_9_l]) (N, 0, j_1_0_f0_m) hm [13,0,1,2,9] rfl (asK [] rfl) rfl (fun s_ hm => ?_)))))))
   obtain ⟨nu2, u2_13, u2_0_f0_m⟩ := s_
   try dsimp only at hm ⊢
   obtain ⟨mu2, bu2, hnu2, hq, hLu2⟩ := iter_some hm
   clear hm
   subst hnu2
   replace hm := hq
   clear hq
   unfold m_ropewalklaw20_peeked_L2 at hm
   try dsimp only at hm
   refine wc_seq (wc_seq (wc_region (wP rfl (wP rfl (wl_ownLen 2 rfl (fun hl38 _ => (wN rfl tE_26 (wl_as (d := 38) (v' := .int .i64 ((j_1_9_l.length : Nat) : Int)) (S' := [_,_,_,_,_,_,_]) rfl rfl (len_is hl38) (wP rfl (wl_as (d := 39) (v' := .bool (decide (u2_13 < j_1_9_l.length))) (S' := [_,_,_,_,_,_,_,_]) rfl rfl (natlt (a := u2_13) (b := j_1_9_l.length)) (wl_nil (we_then (wc_keep [39,13,0,1,2,9] (S' := [_,_,_,_,_,_]) rfl ?_)))))))))))))
   refine wc_cond rfl (fun hb39 => ?_) (fun hb39 => ?_)
   ·
    replace hm := iteT hm hb39
    refine wc_keep [13,0,1,2,9] (S' := [_,_,_,_,_]) rfl (wc_skip (we_then (wc_seq (wc_block (wc_region (wP rfl (wP rfl (wP rfl (wP rfl (wP rfl ?_))))))))))
    obtain ⟨x47, hx47, hm⟩ := bindO_some hm
    refine wl_indexH 2 u2_13 rfl rfl rfl (freshS_eq rfl) rfl rfl rfl rfl rfl (get_lt hx47) tE_26 tS_28 (fun g47 eg47 => ?_)
    subst eg47
    refine wl_loadRow R_l_u8_opens 2 u2_13 0 rfl rfl rfl (freshS_eq rfl) rfl rfl rfl hx47 tS_28 tA_28 (v := fun r48 => .slice r48.1 x47.length r48.2) (fun _ => rfl) (fun _ => rfl) (fun r48 _ => ?_)
    obtain ⟨⟨v49_0, v49_1⟩, hc49, hm⟩ := bindO_some hm
    try dsimp only at hm
    refine wC [0,1] [2] rfl fn_13 rfl (w_net_Net_Send_s N qg0 qb1 u2_0_f0_m a1 a2 r48.1 r48.2 x47 _ _ hc49) (asK [0] rfl) rfl (H' := [_]) rfl ?_
    rintro _ _ _ ⟨rfl, rfl, rfl⟩
    refine wl_nil (we_block_normal (we_then (wc_keep [13,0,1,2,9] (S' := [_,_,_,_,_]) rfl (wc_region (wP rfl (wP rfl ?_))))))
    obtain ⟨hg41, hm⟩ := gd_some hm
    refine wl_as (d := 41) (v' := .int .i64 ((u2_13 + 1 : Nat) : Int)) (S' := [_,_,_,_,_,_]) rfl rfl (nat_add (a := u2_13) (b := 1) hg41) (wl_pure (S' := [_,_,_,_,_,_]) rfl rfl rfl rfl rfl (wl_nil ?_))
    have hE := (Option.some.inj hm).symm
    replace hE := link_inl hLu2 hE
    refine we_roundK (_, u2_13 + 1, v49_1) (Nat.lt_succ_self _) hE [13,0,1,2,9] rfl (asK [] rfl) rfl
   ·
    replace hm := iteF hm hb39
    refine wc_keep [9] (S' := [_]) rfl (wc_exit (we_then_exit (we_then_exit (we_block_hit ?_))))
    have hE := (Option.some.inj hm).symm
    replace hE := link_inr hLu2 hE
    refine we_pick [2,0,1] rfl (H' := [_,_,_]) rfl ?_
    refine we_join u2_0_f0_m hE [9] rfl (asK [] rfl) rfl
  ·
   rintro j_3_r0_f0_m hE
   try dsimp only
   have hm := hLj_3
   rw [hE] at hm
   refine wc_seq (wc_seq (wc_region (wP rfl (wl_ownLen 0 rfl (fun hl51 _ => (wN rfl tE_26 (wl_as (d := 51) (v' := .int .i64 ((j_1_9_l.length : Nat) : Int)) (S' := [_,_]) rfl rfl (len_is hl51) (wP rfl (wl_as (d := 52) (v' := .bool (j_1_9_l.length == 0)) (S' := [_,_,_]) rfl rfl (nateq (a := j_1_9_l.length) (b := 0)) (wl_nil (we_then (wc_keep [52,9] (S' := [_,_]) rfl ?_))))))))))))
   refine wc_cond rfl (fun hb52 => ?_) (fun hb52 => ?_)
   ·
    replace hm := iteT hm hb52
    refine wc_keep [] (S' := []) rfl (wc_seq (wc_region (wP rfl (wl_nil (we_then (wc_ret (we_then_ret ?_)))))))
    have hE := (Option.some.inj hm).symm
    obtain ⟨hE0, hE1⟩ := Prod.mk.inj hE
    clear hE
    replace hE0 := hE0.symm
    subst hE0
    replace hE1 := hE1.symm
    subst hE1
    refine we_fact (.sli 1 R_u8 none 0 ([] : List Int)) (fun _ _ _ => sli_none) ?_
    refine ret_one (Hr := [_,_]) [1,2] Try.results11 (res_tmp rfl) ⟨none, 0, rfl, rfl, rfl⟩ (asK [0] rfl) rfl rfl (.inl rfl)
   ·
    replace hm := iteF hm hb52
    refine wc_keep [9] (S' := [_]) rfl (wc_skip (we_then (wc_seq (wc_region (wP rfl ?_)))))
    obtain ⟨x54, hx54, hm⟩ := bindO_some hm
    refine wl_indexH 0 0 rfl rfl rfl (freshS_eq rfl) rfl rfl rfl rfl rfl (get_lt hx54) tE_26 tS_28 (fun g54 eg54 => ?_)
    subst eg54
    refine wl_loadRow R_l_u8_opens 0 0 0 rfl rfl rfl (freshS_eq rfl) rfl rfl rfl hx54 tS_28 tA_28 (v := fun r55 => .slice r55.1 x54.length r55.2) (fun _ => rfl) (fun _ => rfl) (fun r55 _ => (wP rfl (wl_nil (we_then (wc_keep [8] (S' := [_]) rfl (wc_ret ?_))))))
    have hE := (Option.some.inj hm).symm
    obtain ⟨hE0, hE1⟩ := Prod.mk.inj hE
    clear hE
    replace hE0 := hE0.symm
    subst hE0
    replace hE1 := hE1.symm
    subst hE1
    refine ret_one (Hr := [_,_]) [1,2] Try.results11 (res_tmp rfl) ⟨r55.1, r55.2, rfl, rfl, rfl⟩ (asK [0] rfl) rfl rfl (.inl rfl)
theorem w_ropewalkkit_CopyBytes_s (N : Nat) (qp0 : Option Addr) (qc1 : Nat) (l0 : List Int)  (hm : m_ropewalkkit_CopyBytes N l0 = some ()) : Spec Try.prog 14 [.slice qp0 l0.length qc1] [.sli 1 R_u8 qp0 qc1 l0] [] (fun v Φr Hr => ∃ (o0 : Option Addr) (o1 : Nat), v = .slice o0 (l0).length o1 ∧ Φr = [] ∧ Hr = [.own 5 1 R_u8 (.slice o0 (l0).length o1) l0]) := by
 unfold m_ropewalkkit_CopyBytes at hm
 refine spec_of Try.func14 rfl Try.ntmps14 rfl (S := [_]) rfl (fun C => (wc_seq (wc_region (wP rfl (wl_nil (we_then (wc_keep [0] (S' := [_]) rfl (wc_seq (wc_region (wP rfl (wl_nil (we_then (wc_seq (wc_region ?_))))))))))))))
 refine wP rfl (wP rfl (wl_rowNil 5 1 R_u8 ?_))
 obtain ⟨hg6, hm⟩ := gd_some hm
 refine wl_append 0 0 rfl rfl rfl (freshS_eq rfl) rfl rfl rfl rfl rfl tE_28 tR_5 rfl rfl (Nat.le_trans hg6 (by decide)) (Nat.le_trans (Nat.mul_le_mul_right _ hg6) (by decide)) (H2 := fun p6 c6 => [.own 5 1 R_u8 (.slice p6 (l0).length c6) l0]) (fun _ _ => rfl) (fun p6 c6 => (wP rfl (wl_nil (we_then (wc_keep [2] (S' := [_]) rfl (wc_ret ?_))))))
 have hE := (Option.some.inj hm).symm
 refine ret_one (Hr := [_]) [0] Try.results14 (res_tmp rfl) ⟨p6, c6, rfl, rfl, rfl⟩ (asK [] rfl) rfl rfl (.inl rfl)
end Go.Proofs.Ytegkmbkbaenkcaa
