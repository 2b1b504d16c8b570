import Derived.Test.YtegkmbkbaenkcaaGreatXW1
namespace Go.Proofs.YtegkmbkbaenkcaaGreat
open Go.RowKit
set_option maxRecDepth 100000
set_option maxHeartbeats 4000000
theorem w_ropewalklaw20_NetKeeps_s (N : Nat) (qp0 : Option Addr) (qc1 : Nat) (l0 : List Int) (o0 : Bool) (hm : m_ropewalklaw20_NetKeeps N l0 = some o0) : Spec Tryz.prog 3 [.slice qp0 l0.length qc1] [.sli 1 R_u8 qp0 qc1 l0] [] (fun v Φr Hr => v = .bool o0 ∧ Φr = [] ∧ Hr = []) := by
 unfold m_ropewalklaw20_NetKeeps at hm
 refine spec_of Tryz.func3 rfl Tryz.ntmps3 rfl (S := [_]) rfl (fun C => (wc_seq (wc_region (wP rfl (wl_nil (we_then (wc_keep [0] (S' := [_]) rfl (wc_seq (wc_seq (wc_region (wP rfl (wN rfl tE_22 (wP rfl (wl_as (d := 13) (v' := .bool (decide (10000 < l0.length))) (S' := [_,_,_]) rfl rfl (natgt (a := l0.length) (b := 10000)) ?_))))))))))))))
 refine wl_nil (we_then (wc_keep [13,0] (S' := [_,_]) rfl ?_))
 refine wc_cond rfl (fun hb13 => ?_) (fun hb13 => ?_)
 ·
  replace hm := iteT hm hb13
  refine wc_keep [] (S' := []) rfl (wc_seq (wc_region (wC [] [] rfl fn_4 rfl aw_4 (asK [] rfl) rfl (H' := []) rfl ?_)))
  rintro _ _ _ ⟨rfl, rfl, rfl⟩
  refine wP rfl (wl_nil (we_then (wc_keep [2] (S' := [_]) rfl (wc_ret (we_then_ret ?_)))))
  have hE := (Option.some.inj hm).symm
  replace hE := hE.symm
  subst hE
  refine ret_one (Hr := []) [] Tryz.results3 (res_tmp rfl) ⟨rfl, rfl, rfl⟩ (asK [] rfl) rfl rfl (.inl rfl)
 ·
  replace hm := iteF hm hb13
  refine wc_keep [0] (S' := [_]) rfl (wc_skip (we_then (wc_seq (wc_region ?_))))
  obtain ⟨_, hc15, hm⟩ := bindO_some hm
  try dsimp only at hm
  refine wC [] [] rfl fn_5 rfl (w_net_New_s N  hc15) (asK [] rfl) rfl (H' := []) rfl ?_
  rintro _ _ _ ⟨c15_0, c15_1, rfl, rfl, rfl⟩
  refine wP rfl (wl_nil (we_then (wc_keep [3,0] (S' := [_,_]) rfl (wc_seq (wc_region (wP rfl ?_))))))
  obtain ⟨v17, hc17, hm⟩ := bindO_some hm
  refine wC [] [0,1] rfl fn_6 rfl (w_ropewalkkit_LentBytes_s N qp0 qc1 l0 _ hc17) (asK [0] rfl) rfl (H' := [_,_]) rfl ?_
  rintro _ _ _ ⟨p17_0, c17_1, c17_2, rfl, rfl, rfl⟩
  refine wP rfl (wl_nil (we_then (wc_keep [4,3,0] (S' := [_,_,_]) rfl (wc_seq (wc_region (wP rfl (wP rfl (wl_ownLen 0 rfl (fun hzc17_2 _ => ?_)))))))))
  subst hzc17_2
  obtain ⟨hzl2, hm⟩ := gd_some hm
  refine wl_at 0 (v' := .slice p17_0 ((v17.take l0.length).length) c17_1) rfl (by rw [take_len hzl2]) (wl_at 2 (v' := .slice p17_0 ((v17.take l0.length).length) c17_1) rfl (by rw [take_len hzl2]) ?_)
  obtain ⟨⟨v20_0, v20_1⟩, hc20, hm⟩ := bindO_some hm
  try dsimp only at hm
  refine wl_lend [1,2] [0] [0] rfl rfl rfl (freshS_eq rfl) rfl rfl fn_7 rfl (w_net_Net_Send_s N c15_0 c15_1 ([] : List ((Int × Int) × List (List Int))) 1 2 p17_0 c17_1 (v17.take l0.length) _ _ hc20) (fun F w hφ hh => (ask_cons (sli_take (own_sli (hh _ (mem_at (k := 0) rfl))) l0.length) ask_nil)) (fun _ _ _ hR => by obtain ⟨rfl, rfl, rfl⟩ := hR; exact ⟨rfl, (free_cons (blk_free) (free_cons (mapG_free (fun _ _ => tree_free T_l_u8_free)) (fun _ h => free_nil h)))⟩) rfl rfl (H' := [_]) rfl ?_
  rintro _ _ _ ⟨rfl, rfl, rfl⟩
  refine wl_at 1 (v' := .slice p17_0 l0.length c17_1) rfl (by rw [take_len hzl2]) (wl_at 3 (v' := .slice p17_0 l0.length c17_1) rfl (by rw [take_len hzl2]) (wl_nil (we_then (wc_keep [4,3,0] (S' := [_,_,_]) rfl (wc_seq (wc_region (wP rfl ?_)))))))
  obtain ⟨⟨v22_0, v22_1⟩, hc22, hm⟩ := bindO_some hm
  try dsimp only at hm
  refine wC [0,1] [2] rfl fn_8 rfl (w_net_Net_Double_s N c15_0 c15_1 v20_1 1 2 0 _ _ hc22) (asK [] rfl) rfl (H' := [_]) rfl ?_
  rintro _ _ _ ⟨rfl, rfl, rfl⟩
  refine wl_nil (we_then (wc_keep [4,3,0] (S' := [_,_,_]) rfl (wc_seq (wc_region (wP rfl ?_)))))
  obtain ⟨⟨v24_0, v24_1⟩, hc24, hm⟩ := bindO_some hm
  try dsimp only at hm
  refine wC [0,1] [2] rfl fn_8 rfl (w_net_Net_Double_s N c15_0 c15_1 v22_1 1 2 1 _ _ hc24) (asK [] rfl) rfl (H' := [_]) rfl ?_
  rintro _ _ _ ⟨rfl, rfl, rfl⟩
  refine wl_nil (we_then (wc_keep [4,3,0] (S' := [_,_,_]) rfl (wc_seq (wc_seq (wc_region (wP rfl (wP rfl ?_)))))))
  obtain ⟨v27, hc27, hm⟩ := bindO_some hm
  refine wl_lend [] [0,1,2] [2] rfl rfl rfl (freshS_eq rfl) rfl rfl fn_9 rfl (w_ropewalkkit_KeptBytes_W_s N p17_0 c17_1 v17 l0.length qp0 qc1 l0 _ hc27) (fun F w hφ hh => (ask_cons (own_sli (hh _ (mem_at (k := 0) rfl))) (ask_cons (hφ _ (mem_at (k := 0) rfl)) ask_nil))) (fun _ _ _ hR => by obtain ⟨rfl, rfl, rfl⟩ := hR; exact ⟨rfl, (fun _ h => free_nil h)⟩) rfl rfl (H' := [_,_,_]) rfl ?_
  rintro _ _ _ ⟨rfl, rfl, rfl⟩
  refine wP rfl (wl_nil (we_then (wc_keep [28,4,3,0] (S' := [_,_,_,_]) rfl ?_)))
  refine wc_cond rfl (fun hb28 => ?_) (fun hb28 => ?_)
  ·
   replace hm := iteT hm hb28
   refine wc_keep [] (S' := []) rfl (wc_seq (wc_region (wP rfl (wl_nil (we_then (wc_ret (we_then_ret ?_)))))))
   have hE := (Option.some.inj hm).symm
   replace hE := hE.symm
   subst hE
   refine ret_one (Hr := []) [] Tryz.results3 (res_tmp rfl) ⟨rfl, rfl, rfl⟩ (asK [] rfl) rfl rfl (.inl rfl)
  ·
   replace hm := iteF hm hb28
   refine wc_keep [4,3,0] (S' := [_,_,_]) rfl (wc_skip (we_then (wc_seq (wc_region (wP rfl ?_)))))
   obtain ⟨v30, hc30, hm⟩ := bindO_some hm
   refine wC [2] [0,1] rfl fn_10 rfl (w_ropewalkkit_OverBytes_V_s N p17_0 v17.length c17_1 v17 l0.length _ hc30) (asK [] rfl) rfl (H' := [_,_]) rfl ?_
   rintro _ _ _ ⟨rfl, rfl, rfl⟩
   refine wl_nil (we_then (wc_keep [3,0] (S' := [_,_]) rfl (wc_seq (wc_region (wP rfl ?_)))))
   obtain ⟨⟨v33_0, v33_1, v33_2⟩, hc33, hm⟩ := bindO_some hm
   try dsimp only at hm
   refine wC [1,2] [0] rfl fn_11 rfl (w_net_Net_Take_s N c15_0 c15_1 v24_1 1 2 0 _ _ _ hc33) (asK [] rfl) rfl (H' := [_]) rfl ?_
   rintro _ _ _ ⟨p33_0, c33_1, c33_2, rfl, rfl, rfl⟩
   refine wP rfl (wP rfl (wP rfl (wP rfl (wP rfl (wl_nil (we_then (wc_keep [5,3,0] (S' := [_,_,_]) rfl (wc_seq (wc_region (wP rfl ?_))))))))))
   obtain ⟨⟨v38_0, v38_1, v38_2⟩, hc38, hm⟩ := bindO_some hm
   try dsimp only at hm
   refine wC [1,2] [0,3] rfl fn_11 rfl (w_net_Net_Take_s N c15_0 c15_1 v33_2 1 2 0 _ _ _ hc38) (asK [] rfl) rfl (H' := [_,_]) rfl ?_
   rintro _ _ _ ⟨p38_0, c38_1, c38_2, rfl, rfl, rfl⟩
   refine wP rfl (wP rfl (wP rfl (wP rfl (wP rfl (wl_nil (we_then (wc_keep [7,5,3,0] (S' := [_,_,_,_]) rfl (wc_seq (wc_seq ?_)))))))))
   obtain ⟨bj_1, hm, hLj_1⟩ := bindO_some hm
   refine wc_cut (σ := (List Int) × (List Int) × Bool) (fun (j_1_7_l, j_1_5_l, j_1_51) => bj_1 = (j_1_7_l, j_1_5_l, j_1_51)) (fun (j_1_7_l, j_1_5_l, j_1_51) => [(7, .slice p38_0 c38_2 c38_1), (5, .slice p33_0 c33_2 c33_1), (3, .pointer (some ⟨c15_0,0, none⟩)), (0, .slice qp0 l0.length qc1), (51, .bool j_1_51)]) (fun (j_1_7_l, j_1_5_l, j_1_51) => [.sli 1 R_u8 qp0 qc1 l0]) (fun (j_1_7_l, j_1_5_l, j_1_51) => [.own 5 1 R_u8 (.slice p38_0 c38_2 c38_1) j_1_7_l, .own 5 1 R_u8 (.slice p33_0 c33_2 c33_1) j_1_5_l, .blk c15_0 [.map (some c15_1)] 47, mapG (keyOfK pairKey51) (treeF T_l_u8 22 1) none c15_1 v38_2]) ?_ ?_
   ·
    refine wc_region (wP rfl (wP rfl (wl_ownLen 3 rfl (fun hzc33_2 _ => ?_))))
    subst hzc33_2
    obtain ⟨v43, hc43, hm⟩ := bindO_some hm
    refine wl_lend [] [0,1,2,3,4] [3] rfl rfl rfl (freshS_eq rfl) rfl rfl fn_12 rfl (w_ropewalkkit_SameBytes_s N p33_0 c33_1 v33_0 qp0 qc1 l0 _ hc43) (fun F w hφ hh => (ask_cons (own_sli (hh _ (mem_at (k := 0) rfl))) (ask_cons (hφ _ (mem_at (k := 0) rfl)) ask_nil))) (fun _ _ _ hR => by obtain ⟨rfl, rfl, rfl⟩ := hR; exact ⟨rfl, (fun _ h => free_nil h)⟩) rfl rfl (H' := [_,_,_,_,_]) rfl ?_
    rintro _ _ _ ⟨rfl, rfl, rfl⟩
    refine wP rfl (wP rfl ?_)
    refine wl_split (d := 45) (S' := [_,_,_,_,_,_,_,_]) rfl rfl (fun hs45 => ?_) (fun hs45 => ?_)
    ·
     replace hm := iteT hm hs45
     refine wO rfl (wO rfl (wO rfl (wO rfl (wO rfl (wP rfl (wl_nil ?_))))))
     have hE := (Option.some.inj hm).symm
     refine we_pick [0,3,1,2] rfl (H' := [_,_,_,_]) rfl ?_
     refine we_join (v38_0, v33_0, true) hE [7,5,3,0,51] rfl (asK [0] rfl) rfl
    ·
     replace hm := iteF hm hs45
     refine wP rfl (wP rfl (wl_buildSlice rfl rfl rfl (freshS_eq rfl) rfl tE_35 tS_22 tZ_22 rfl (zs := [.slice none 0 0, .slice none 0 0]) (by kernel_rfl) rfl (out := [_,_]) rfl (fun g48 => (wl_ownLen 1 rfl (fun hzc38_2 _ => ?_)))))
     subst hzc38_2
     refine wl_row (sz := 1) (m := 2) T_l_u8.pair ([(v33_0, (p33_0, c33_1)), (v38_0, (p38_0, c38_1))]) 0 rfl (fun F w hφ => ⟨[.slice p33_0 v33_0.length c33_1],[.slice p38_0 v38_0.length c38_1], rfl, rfl, rfl, ⟨[.slice p38_0 v38_0.length c38_1],[], rfl, rfl, rfl, rfl⟩⟩) rfl (by decide) (H' := [_,_,_,_,_,_]) rfl (wl_sh [bagF T_l_u8 [] none, _,_,_,_,_,_] (fun _ h => h.bagNil T_l_u8) (wl_pick [5,0,1,2,3,4,6] rfl (H' := [_,_,_,_,_,_,_]) rfl (wl_sh [bagF T_l_u8 ([(v33_0, (p33_0, c33_1))]) none, _,_,_,_,_] (fun _ h => Holds.bagPush (T := T_l_u8) (x := v33_0) (r := (p33_0, c33_1)) (zs := []) (H := [_,_,_,_,_,_]) h 0 rfl) (wl_pick [2,0,1,3,4,5] rfl (H' := [_,_,_,_,_,_]) rfl (wl_sh [bagF T_l_u8 (([(v33_0, (p33_0, c33_1))]) ++ [(v38_0, (p38_0, c38_1))]) none, _,_,_,_] (fun _ h => Holds.bagPush (T := T_l_u8) (x := v38_0) (r := (p38_0, c38_1)) (zs := [(v33_0, (p33_0, c33_1))]) (H := [_,_,_,_,_]) h 0 rfl) (wl_hAs 0 (φ' := bagF T_l_u8 ([(v33_0, (p33_0, c33_1)), (v38_0, (p38_0, c38_1))]) none) rfl rfl (H' := [_,_,_,_,_]) rfl (wl_ownLen 1 rfl (fun hzt3 _ => ?_))))))))
     replace hzt3 := hzt3.trans (pair_len (show ([(v33_0, (p33_0, c33_1)), (v38_0, (p38_0, c38_1))]).map (·.1) = [v33_0, v38_0] from rfl))
     refine wl_at 0 (v' := .slice (some ⟨g48,0, none⟩) ([v33_0, v38_0].length) 2) rfl (by rw [hzt3]) (wl_hAs 1 (φ' := .own 22 1 T_l_u8.pair (.slice (some ⟨g48,0, none⟩) ([v33_0, v38_0].length) 2) ([(v33_0, (p33_0, c33_1)), (v38_0, (p38_0, c38_1))])) rfl (by rw [hzt3]) (H' := [_,_,_,_,_]) rfl ?_)
     obtain ⟨hap49, hm⟩ := gd_some hm
     refine wC [1,0] [2,3,4] rfl fn_13 rfl (ap_ApartBytes (some ⟨g48,0, none⟩) ([v33_0, v38_0].length) 2 [(v33_0, (p33_0, c33_1)), (v38_0, (p38_0, c38_1))] (by rw [pair_len (show ([(v33_0, (p33_0, c33_1)), (v38_0, (p38_0, c38_1))]).map (·.1) = [v33_0, v38_0] from rfl)]) (by rw [pair_len (show ([(v33_0, (p33_0, c33_1)), (v38_0, (p38_0, c38_1))]).map (·.1) = [v33_0, v38_0] from rfl)]; exact hap49.1) (fun z hz => hap49.2 z.1 (by rw [← (show ([(v33_0, (p33_0, c33_1)), (v38_0, (p38_0, c38_1))]).map (·.1) = [v33_0, v38_0] from rfl)]; exact List.mem_map_of_mem hz))) (asK [] rfl) rfl (H' := [_,_,_]) rfl ?_
     rintro _ _ _ ⟨r5_49, hfe49, rfl, rfl, rfl⟩
     refine wl_sh [.own 5 1 R_u8 (.slice p38_0 v38_0.length c38_1) ((List.range v38_0.length).map (fun i => (z_markByte ((1 : Nat) : Int) ((i : Nat) : Int)))), .own 5 1 R_u8 (.slice p33_0 v33_0.length c33_1) ((List.range v33_0.length).map (fun i => (z_markByte ((0 : Nat) : Int) ((i : Nat) : Int)))), flatF 5 1 [],_,_,_] (fun _ h => h.flBack2 (R := R_u8) (f := fun j i => (z_markByte ((j : Nat) : Int) ((i : Nat) : Int))) (h0 := (p33_0, v33_0.length, c33_1)) (h1 := (p38_0, v38_0.length, c38_1)) (fun _ _ _ _ => ⟨(), rfl, ask_nil⟩) 0 rfl hfe49) (wl_drop 2 rfl (H' := [_,_,_,_,_]) rfl (wP rfl (wP rfl (wl_nil ?_))))
     have hE := (Option.some.inj hm).symm
     refine we_pick [0,1,2,3] rfl (H' := [_,_,_,_]) rfl ?_
     refine we_join (((List.range v38_0.length).map (fun i => (z_markByte ((1 : Nat) : Int) ((i : Nat) : Int)))), ((List.range v33_0.length).map (fun i => (z_markByte ((0 : Nat) : Int) ((i : Nat) : Int)))), false) hE [7,5,3,0,51] rfl (asK [0] rfl) rfl
   ·
    rintro ⟨j_1_7_l, j_1_5_l, j_1_51⟩ hE
    try dsimp only
    have hm := hLj_1
    rw [hE] at hm
    try dsimp only at hm
    refine wc_cond rfl (fun hb51 => ?_) (fun hb51 => ?_)
    ·
     replace hm := iteT hm hb51
     refine wc_keep [] (S' := []) rfl (wc_seq (wc_region (wP rfl (wl_nil (we_then (wc_ret (we_then_ret ?_)))))))
     have hE := (Option.some.inj hm).symm
     replace hE := hE.symm
     subst hE
     refine ret_one (Hr := []) [] Tryz.results3 (res_tmp rfl) ⟨rfl, rfl, rfl⟩ (asK [] rfl) rfl rfl (.inl rfl)
    ·
     replace hm := iteF hm hb51
     refine wc_keep [7,5,3,0] (S' := [_,_,_,_]) rfl (wc_skip (we_then (wc_seq (wc_region (wP rfl (wl_ownLen 1 rfl (fun hzc33_2 _ => ?_)))))))
     subst hzc33_2
     obtain ⟨v53, hc53, hm⟩ := bindO_some hm
     refine wC [1] [0,2,3] rfl fn_14 rfl (w_ropewalkkit_TurnBytes_v2_s N p33_0 j_1_5_l.length c33_1 j_1_5_l _ hc53) (asK [] rfl) rfl (H' := [_,_,_]) rfl ?_
     rintro _ _ _ ⟨rfl, rfl, rfl⟩
     refine wl_nil (we_then (wc_keep [7,3,0] (S' := [_,_,_]) rfl (wc_seq (wc_region (wP rfl (wl_ownLen 1 rfl (fun hzc38_2 _ => ?_)))))))
     subst hzc38_2
     obtain ⟨v55, hc55, hm⟩ := bindO_some hm
     refine wC [1] [0,2,3] rfl fn_14 rfl (w_ropewalkkit_TurnBytes_v2_s N p38_0 j_1_7_l.length c38_1 j_1_7_l _ hc55) (asK [] rfl) rfl (H' := [_,_,_]) rfl ?_
     rintro _ _ _ ⟨rfl, rfl, rfl⟩
     refine wl_nil (we_then (wc_keep [3,0] (S' := [_,_]) rfl (wc_seq (wc_region (wP rfl ?_)))))
     obtain ⟨⟨v58_0, v58_1, v58_2⟩, hc58, hm⟩ := bindO_some hm
     try dsimp only at hm
     refine wC [2,3] [0,1] rfl fn_11 rfl (w_net_Net_Take_s N c15_0 c15_1 v38_2 1 2 0 _ _ _ hc58) (asK [] rfl) rfl (H' := [_,_]) rfl ?_
     rintro _ _ _ ⟨p58_0, c58_1, c58_2, rfl, rfl, rfl⟩
     refine wP rfl (wP rfl (wP rfl (wP rfl (wP rfl (wl_nil (we_then (wc_keep [10,9,0] (S' := [_,_,_]) rfl (wc_seq (wc_region (wP rfl (wP rfl (wl_as (d := 62) (v' := .bool (v58_1 == 0)) (S' := [_,_,_,_]) rfl rfl (nateq (a := v58_1) (b := 0)) (wP rfl ?_)))))))))))))
     refine wl_split (d := 63) (S' := [_,_,_,_,_]) rfl rfl (fun hs63 => ?_) (fun hs63 => ?_)
     ·
      replace hm := iteT hm hs63
      refine wP rfl (wP rfl (wl_ownLen 0 rfl (fun hzc58_2 _ => ?_)))
      subst hzc58_2
      obtain ⟨v66, hc66, hm⟩ := bindO_some hm
      refine wl_lend [] [0,1,2,3,4] [0] rfl rfl rfl (freshS_eq rfl) rfl rfl fn_12 rfl (w_ropewalkkit_SameBytes_s N p58_0 c58_1 v58_0 qp0 qc1 l0 _ hc66) (fun F w hφ hh => (ask_cons (own_sli (hh _ (mem_at (k := 0) rfl))) (ask_cons (hφ _ (mem_at (k := 0) rfl)) ask_nil))) (fun _ _ _ hR => by obtain ⟨rfl, rfl, rfl⟩ := hR; exact ⟨rfl, (fun _ h => free_nil h)⟩) rfl rfl (H' := [_,_,_,_,_]) rfl ?_
      rintro _ _ _ ⟨rfl, rfl, rfl⟩
      refine wP rfl (wP rfl ?_)
      refine wl_split (d := 68) (S' := [_,_,_,_,_,_,_,_,_,_]) rfl rfl (fun hs68 => ?_) (fun hs68 => ?_)
      ·
       replace hm := iteT hm hs68
       refine wC [] [0,1,2,3,4] rfl fn_4 rfl aw_4 (asK [] rfl) rfl (H' := [_,_,_,_,_]) rfl ?_
       rintro _ _ _ ⟨rfl, rfl, rfl⟩
       refine wP rfl (wP rfl (wl_nil (we_then (wc_keep [2] (S' := [_]) rfl (wc_ret ?_)))))
       have hE := (Option.some.inj hm).symm
       replace hE := hE.symm
       subst hE
       refine ret_one (Hr := []) [] Tryz.results3 (res_tmp rfl) ⟨rfl, rfl, rfl⟩ (asK [] rfl) rfl rfl (.inl rfl)
      ·
       replace hm := iteF hm hs68
       refine wO rfl (wP rfl (wP rfl (wl_nil (we_then (wc_keep [2] (S' := [_]) rfl (wc_ret ?_))))))
       have hE := (Option.some.inj hm).symm
       replace hE := hE.symm
       subst hE
       refine ret_one (Hr := []) [] Tryz.results3 (res_tmp rfl) ⟨rfl, rfl, rfl⟩ (asK [] rfl) rfl rfl (.inl rfl)
     ·
      replace hm := iteF hm hs63
      refine wO rfl (wO rfl (wO rfl (wP rfl (wP rfl (wO rfl (wP rfl (wP rfl (wl_nil (we_then (wc_keep [2] (S' := [_]) rfl (wc_ret ?_)))))))))))
      have hE := (Option.some.inj hm).symm
      replace hE := hE.symm
      subst hE
      refine ret_one (Hr := []) [] Tryz.results3 (res_tmp rfl) ⟨rfl, rfl, rfl⟩ (asK [] rfl) rfl rfl (.inl rfl)
end Go.Proofs.YtegkmbkbaenkcaaGreat
