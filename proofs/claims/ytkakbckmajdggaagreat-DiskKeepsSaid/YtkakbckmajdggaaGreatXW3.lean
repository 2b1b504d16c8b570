import Derived.Test.YtkakbckmajdggaaGreatXW2
namespace Go.Proofs.YtkakbckmajdggaaGreat
open Go.RowKit
set_option maxRecDepth 100000
set_option maxHeartbeats 4000000
theorem w_ropewalklaw17_DiskKeeps_s (N : Nat) (qp0 : Option Addr) (qc1 : Nat) (l0 : List Int) (qp2 : Option Addr) (qc3 : Nat) (l1 : List Int) (o0 : Bool) (hm : m_ropewalklaw17_DiskKeeps N l0 l1 = some o0) : Spec Tryz.prog 3 [.slice qp0 l0.length qc1, .slice qp2 l1.length qc3] [.sli 1 R_u8 qp0 qc1 l0, .sli 1 R_u8 qp2 qc3 l1] [] (fun v Φr Hr => v = .bool o0 ∧ Φr = [] ∧ Hr = []) := by
 unfold m_ropewalklaw17_DiskKeeps at hm
 refine spec_of Tryz.func3 rfl Tryz.ntmps3 rfl (S := [_,_]) rfl (fun C => (wc_seq (wc_region (wP rfl (wl_nil (we_then (wc_keep [0,1] (S' := [_,_]) rfl (wc_seq (wc_seq (wc_region (wP rfl (wN rfl tE_22 (wP rfl (wN rfl tE_22 ?_))))))))))))))
 refine wl_reck rfl rfl rfl (freshS_eq rfl) (rk_max rfl rfl rfl) (wl_as (d := 21) (v' := .int .i64 ((max l0.length l1.length : Nat) : Int)) (S' := [_,_,_,_,_,_]) rfl rfl (maxI_nat (a := l0.length) (b := l1.length)) (wP rfl (wl_as (d := 22) (v' := .bool (decide (10000 < (max l0.length l1.length)))) (S' := [_,_,_,_,_,_,_]) rfl rfl (natgt (a := max l0.length l1.length) (b := 10000)) (wl_nil (we_then (wc_keep [22,0,1] (S' := [_,_,_]) rfl ?_))))))
 refine wc_cond rfl (fun hb22 => ?_) (fun hb22 => ?_)
 ·
  replace hm := iteT hm hb22
  refine wc_keep [] (S' := []) rfl (wc_seq (wc_region ?_))
  obtain ⟨v23, hc23, hm⟩ := bindO_some hm
  refine wC [] [] rfl fn_4 rfl (w_ropewalklaw17_awake_s N _ hc23) (asK [] rfl) rfl (H' := []) rfl ?_
  rintro _ _ _ ⟨rfl, rfl, rfl⟩
  refine wP rfl (wl_nil (we_then (wc_keep [4] (S' := [_]) rfl (wc_ret (we_then_ret ?_)))))
  have hE := (Option.some.inj hm).symm
  replace hE := hE.symm
  subst hE
  refine ret_one (Hr := []) [] Tryz.results3 (res_tmp rfl) ⟨rfl, rfl, rfl⟩ (asK [] rfl) rfl rfl (.inl rfl)
 ·
  replace hm := iteF hm hb22
  refine wc_keep [0,1] (S' := [_,_]) rfl (wc_skip (we_then (wc_seq (wc_region ?_))))
  obtain ⟨_, hc24, hm⟩ := bindO_some hm
  try dsimp only at hm
  refine wC [] [] rfl fn_5 rfl (w_disk_New_s N 1048576 hc24) (asK [] rfl) rfl (H' := []) rfl ?_
  rintro _ _ _ ⟨c24_0, c24_1, rfl, rfl, rfl⟩
  refine wP rfl (wl_nil (we_then (wc_keep [5,0,1] (S' := [_,_,_]) rfl (wc_seq (wc_region (wP rfl ?_))))))
  obtain ⟨v26, hc26, hm⟩ := bindO_some hm
  refine wC [] [0,1] rfl fn_6 rfl (w_ropewalkkit_LentBytes_s N qp0 qc1 l0 _ hc26) (asK [0] rfl) rfl (H' := [_,_]) rfl ?_
  rintro _ _ _ ⟨p26_0, c26_1, c26_2, rfl, rfl, rfl⟩
  refine wP rfl (wl_nil (we_then (wc_keep [6,5,0,1] (S' := [_,_,_,_]) rfl (wc_seq (wc_region (wP rfl (wP rfl (wl_ownLen 0 rfl (fun hzc26_2 _ => ?_)))))))))
  subst hzc26_2
  obtain ⟨⟨v29_0, v29_1⟩, hc29, hm⟩ := bindO_some hm
  try dsimp only at hm
  refine wC [1,2,0] [] rfl fn_7 rfl (w_disk_Disk_Append_V_s N c24_0 (maxI 1048576 0) c24_1 ([] : List (ByteArray × Disk_rowsD)) (⟨#[97]⟩ : ByteArray) p26_0 v26.length c26_1 v26 l0.length _ _ hc29) (asK [] rfl) rfl (H' := []) rfl ?_
  rintro _ _ _ ⟨rfl, rfl, rfl⟩
  refine wP rfl (wl_nil (we_then (wc_keep [7,6,5,0,1] (S' := [_,_,_,_,_]) rfl (wc_seq (wc_seq ?_)))))
  obtain ⟨bj_1, hm, hLj_1⟩ := bindO_some hm
  refine wc_cut (σ := Bool) (fun j_1_37 => bj_1 = j_1_37) (fun j_1_37 => [(6, .slice p26_0 l0.length c26_1), (5, .pointer (some ⟨c24_0,0, none⟩)), (0, .slice qp0 l0.length qc1), (1, .slice qp2 l1.length qc3), (37, .bool j_1_37)]) (fun j_1_37 => [.sli 1 R_u8 qp0 qc1 l0, .sli 1 R_u8 qp2 qc3 l1]) (fun j_1_37 => [.own 5 1 R_u8 (.slice p26_0 v26.length c26_1) v26, .blk c24_0 [.int .i64 (maxI 1048576 0), .map (some c24_1)] 45, mapP (keyStr (tStr_run tT_9)) true R_Disk_rowsD c24_1 v29_1]) ?_ ?_
  ·
   refine wc_region (wP rfl (wP rfl (wP rfl ?_)))
   refine wl_split (d := 32) (S' := [_,_,_,_,_,_,_]) rfl rfl (fun hs32 => ?_) (fun hs32 => ?_)
   ·
    replace hm := iteT hm hs32
    refine wO rfl (wO rfl (wO rfl (wO rfl (wP rfl (wl_nil ?_)))))
    have hE := (Option.some.inj hm).symm
    refine we_pick [2,0,1] rfl (H' := [_,_,_]) rfl ?_
    refine we_join true hE [6,5,0,1,37] rfl (asK [0,1] rfl) rfl
   ·
    replace hm := iteF hm hs32
    refine wP rfl (wP rfl ?_)
    obtain ⟨v35, hc35, hm⟩ := bindO_some hm
    refine wl_lend [] [0,1,2] [2] rfl rfl rfl (freshS_eq rfl) rfl rfl fn_8 rfl (w_ropewalkkit_KeptBytes_W_s N p26_0 c26_1 v26 l0.length qp0 qc1 l0 _ hc35) (fun F w hφ hh => (ask_cons (own_sli (hh _ (mem_at (k := 0) rfl))) (ask_cons (hφ _ (mem_at (k := 0) rfl)) ask_nil))) (fun _ _ _ hR => by obtain ⟨rfl, rfl, rfl⟩ := hR; exact ⟨rfl, (fun _ h => free_nil h)⟩) rfl rfl (H' := [_,_,_]) rfl ?_
    rintro _ _ _ ⟨rfl, rfl, rfl⟩
    refine wP rfl (wP rfl (wl_nil ?_))
    have hE := (Option.some.inj hm).symm
    refine we_pick [2,0,1] rfl (H' := [_,_,_]) rfl ?_
    refine we_join (!v35) hE [6,5,0,1,37] rfl (asK [0,1] rfl) rfl
  ·
   rintro j_1_37 hE
   try dsimp only
   have hm := hLj_1
   rw [hE] at hm
   refine wc_cond rfl (fun hb37 => ?_) (fun hb37 => ?_)
   ·
    replace hm := iteT hm hb37
    refine wc_keep [] (S' := []) rfl (wc_seq (wc_region (wP rfl (wl_nil (we_then (wc_ret (we_then_ret ?_)))))))
    have hE := (Option.some.inj hm).symm
    replace hE := hE.symm
    subst hE
    refine ret_one (Hr := []) [] Tryz.results3 (res_tmp rfl) ⟨rfl, rfl, rfl⟩ (asK [] rfl) rfl rfl (.inl rfl)
   ·
    replace hm := iteF hm hb37
    refine wc_keep [6,5,0,1] (S' := [_,_,_,_]) rfl (wc_skip (we_then (wc_seq (wc_region (wP rfl ?_)))))
    obtain ⟨v39, hc39, hm⟩ := bindO_some hm
    refine wC [0] [1,2] rfl fn_9 rfl (w_ropewalkkit_OverBytes_V_s N p26_0 v26.length c26_1 v26 l0.length _ hc39) (asK [] rfl) rfl (H' := [_,_]) rfl ?_
    rintro _ _ _ ⟨rfl, rfl, rfl⟩
    refine wl_nil (we_then (wc_keep [5,0,1] (S' := [_,_,_]) rfl (wc_seq (wc_region (wP rfl ?_)))))
    obtain ⟨⟨v42_0, v42_1, v42_2⟩, hc42, hm⟩ := bindO_some hm
    try dsimp only at hm
    refine wC [1,2] [0] rfl fn_10 rfl (w_disk_Disk_Read_s N c24_0 (maxI 1048576 0) c24_1 v29_1 (⟨#[97]⟩ : ByteArray) _ _ _ hc42) (asK [] rfl) rfl (H' := [_]) rfl ?_
    rintro _ _ _ ⟨p42_0, c42_1, c42_2, rfl, rfl, rfl⟩
    refine wP rfl (wP rfl (wP rfl (wP rfl (wP rfl (wl_nil (we_then (wc_keep [9,8,5,0,1] (S' := [_,_,_,_,_]) rfl (wc_seq (wc_region (wP rfl ?_))))))))))
    obtain ⟨⟨v47_0, v47_1, v47_2⟩, hc47, hm⟩ := bindO_some hm
    try dsimp only at hm
    refine wC [1,2] [0,3] rfl fn_10 rfl (w_disk_Disk_Read_s N c24_0 (maxI 1048576 0) c24_1 v42_2 (⟨#[97]⟩ : ByteArray) _ _ _ hc47) (asK [] rfl) rfl (H' := [_,_]) rfl ?_
    rintro _ _ _ ⟨p47_0, c47_1, c47_2, rfl, rfl, rfl⟩
    refine wP rfl (wP rfl (wP rfl (wP rfl (wP rfl (wl_nil (we_then (wc_keep [11,10,9,8,5,0,1] (S' := [_,_,_,_,_,_,_]) rfl (wc_seq (wc_region (wP rfl ?_))))))))))
    obtain ⟨v51, hc51, hm⟩ := bindO_some hm
    refine wC [1,2] [0,3,4] rfl fn_11 rfl (w_disk_Disk_List_s N c24_0 (maxI 1048576 0) c24_1 v47_2 _ hc51) (asK [] rfl) rfl (H' := [_,_,_]) rfl ?_
    rintro _ _ _ ⟨p51_0, c51_1, c51_2, rfl, rfl, rfl⟩
    refine wP rfl ?_
    obtain ⟨v53, hc53, hm⟩ := bindO_some hm
    refine wC [1,2] [0,3,4,5] rfl fn_11 rfl (w_disk_Disk_List_s N c24_0 (maxI 1048576 0) c24_1 v47_2 _ hc53) (asK [] rfl) rfl (H' := [_,_,_,_]) rfl ?_
    rintro _ _ _ ⟨p53_0, c53_1, c53_2, rfl, rfl, rfl⟩
    refine wl_buildSlice rfl rfl rfl (freshS_eq rfl) rfl tE_35 tS_33 tZ_33 rfl (zs := [.slice none 0 0, .slice none 0 0]) (by kernel_rfl) rfl (out := [_,_]) rfl (fun g54 => (wP rfl (wl_nil (we_then (wc_keep [12,11,10,9,8,5,0,1] (S' := [_,_,_,_,_,_,_,_]) rfl (wc_seq (wc_seq ?_)))))))
    obtain ⟨bj_2, hm, hLj_2⟩ := bindO_some hm
    unfold m_ropewalklaw17_DiskKeeps_C2 at hm
    refine wc_cut (σ := (List Int) × Bool) (fun (j_2_8_l, j_2_75) => bj_2 = (j_2_8_l, j_2_75)) (fun (j_2_8_l, j_2_75) => [(8, .slice p42_0 c42_2 c42_1), (5, .pointer (some ⟨c24_0,0, none⟩)), (0, .slice qp0 l0.length qc1), (1, .slice qp2 l1.length qc3), (75, .bool j_2_75)]) (fun (j_2_8_l, j_2_75) => [.sli 1 R_u8 qp0 qc1 l0, .sli 1 R_u8 qp2 qc3 l1]) (fun (j_2_8_l, j_2_75) => [.own 5 1 R_u8 (.slice p42_0 c42_2 c42_1) j_2_8_l, .blk c24_0 [.int .i64 (maxI 1048576 0), .map (some c24_1)] 45, mapP (keyStr (tStr_run tT_9)) true R_Disk_rowsD c24_1 v47_2]) ?_ ?_
    ·
     refine wc_region (wP rfl (wP rfl (wP rfl (wl_as (d := 57) (v' := .bool (v42_1 != v47_1)) (S' := [_,_,_,_,_,_,_,_,_,_]) rfl rfl (natne (a := v42_1) (b := v47_1)) (wP rfl ?_)))))
     refine wl_split (d := 58) (S' := [_,_,_,_,_,_,_,_,_,_,_]) rfl rfl (fun hs58 => ?_) (fun hs58 => ?_)
     ·
      replace hm := iteT hm hs58
      refine wO rfl (wO rfl (wO rfl (wO rfl (wP rfl (wP rfl (wO rfl (wO rfl (wO rfl (wO rfl (wO rfl (wP rfl (wP rfl (wO rfl ?_)))))))))))))
      refine wO rfl (wO rfl (wP rfl (wl_nil ?_)))
      have hE := (Option.some.inj hm).symm
      refine we_pick [6,2,3] rfl (H' := [_,_,_]) rfl ?_
      refine we_join (v42_0, true) hE [8,5,0,1,75] rfl (asK [0,1] rfl) rfl
     ·
      replace hm := iteF hm hs58
      refine wP rfl (wP rfl (wl_ownLen 6 rfl (fun hzc42_2 _ => ?_)))
      subst hzc42_2
      obtain ⟨v61, hc61, hm⟩ := bindO_some hm
      refine wl_lend [] [0,1,2,3,4,5,6,7] [6] rfl rfl rfl (freshS_eq rfl) rfl rfl fn_12 rfl (w_ropewalkkit_SameBytes_s N p42_0 c42_1 v42_0 qp0 qc1 l0 _ hc61) (fun F w hφ hh => (ask_cons (own_sli (hh _ (mem_at (k := 0) rfl))) (ask_cons (hφ _ (mem_at (k := 0) rfl)) ask_nil))) (fun _ _ _ hR => by obtain ⟨rfl, rfl, rfl⟩ := hR; exact ⟨rfl, (fun _ h => free_nil h)⟩) rfl rfl (H' := [_,_,_,_,_,_,_,_]) rfl ?_
      rintro _ _ _ ⟨rfl, rfl, rfl⟩
      refine wP rfl (wP rfl (wP rfl ?_))
      refine wl_split (d := 64) (S' := [_,_,_,_,_,_,_,_,_,_,_,_,_,_,_,_,_]) rfl rfl (fun hs64 => ?_) (fun hs64 => ?_)
      ·
       replace hm := iteT hm hs64
       refine wO rfl (wO rfl (wO rfl (wO rfl (wO rfl (wP rfl (wP rfl (wO rfl (wO rfl (wO rfl (wP rfl (wl_nil ?_)))))))))))
       have hE := (Option.some.inj hm).symm
       refine we_pick [6,2,3] rfl (H' := [_,_,_]) rfl ?_
       refine we_join (v42_0, true) hE [8,5,0,1,75] rfl (asK [0,1] rfl) rfl
      ·
       replace hm := iteF hm hs64
       refine wP rfl (wP rfl (wl_buildSlice rfl rfl rfl (freshS_eq rfl) rfl tE_37 tS_22 tZ_22 rfl (zs := [.slice none 0 0, .slice none 0 0]) (by kernel_rfl) rfl (out := [_,_]) rfl (fun g67 => (wl_ownLen 6 rfl (fun hzc47_2 _ => ?_)))))
       subst hzc47_2
       refine wl_row (sz := 1) (m := 2) T_l_u8.pair ([(v42_0, (p42_0, c42_1)), (v47_0, (p47_0, c47_1))]) 0 rfl (fun F w hφ => ⟨[.slice p42_0 v42_0.length c42_1],[.slice p47_0 v47_0.length c47_1], rfl, rfl, rfl, ⟨[.slice p47_0 v47_0.length c47_1],[], rfl, rfl, rfl, rfl⟩⟩) rfl (by decide) (H' := [_,_,_,_,_,_,_,_,_]) rfl (wl_sh [bagF T_l_u8 [] none, _,_,_,_,_,_,_,_,_] (fun _ h => h.bagNil T_l_u8) (wl_pick [8,0,1,2,3,4,5,6,7,9] rfl (H' := [_,_,_,_,_,_,_,_,_,_]) rfl (wl_sh [bagF T_l_u8 ([(v42_0, (p42_0, c42_1))]) none, _,_,_,_,_,_,_,_] (fun _ h => Holds.bagPush (T := T_l_u8) (x := v42_0) (r := (p42_0, c42_1)) (zs := []) (H := [_,_,_,_,_,_,_,_,_]) h 0 rfl) (wl_pick [7,0,1,2,3,4,5,6,8] rfl (H' := [_,_,_,_,_,_,_,_,_]) rfl (wl_sh [bagF T_l_u8 (([(v42_0, (p42_0, c42_1))]) ++ [(v47_0, (p47_0, c47_1))]) none, _,_,_,_,_,_,_] (fun _ h => Holds.bagPush (T := T_l_u8) (x := v47_0) (r := (p47_0, c47_1)) (zs := [(v42_0, (p42_0, c42_1))]) (H := [_,_,_,_,_,_,_,_]) h 0 rfl) (wl_hAs 0 (φ' := bagF T_l_u8 ([(v42_0, (p42_0, c42_1)), (v47_0, (p47_0, c47_1))]) none) rfl rfl (H' := [_,_,_,_,_,_,_,_]) rfl (wl_ownLen 1 rfl (fun hzt5 _ => ?_))))))))
       replace hzt5 := hzt5.trans (pair_len (show ([(v42_0, (p42_0, c42_1)), (v47_0, (p47_0, c47_1))]).map (·.1) = [v42_0, v47_0] from rfl))
       refine wl_at 0 (v' := .slice (some ⟨g67,0, none⟩) ([v42_0, v47_0].length) 2) rfl (by rw [hzt5]) (wl_hAs 1 (φ' := .own 22 1 T_l_u8.pair (.slice (some ⟨g67,0, none⟩) ([v42_0, v47_0].length) 2) ([(v42_0, (p42_0, c42_1)), (v47_0, (p47_0, c47_1))])) rfl (by rw [hzt5]) (H' := [_,_,_,_,_,_,_,_]) rfl ?_)
       obtain ⟨hap68, hm⟩ := gd_some hm
       refine wC [1,0] [2,3,4,5,6,7] rfl fn_13 rfl (ap_ApartBytes (some ⟨g67,0, none⟩) ([v42_0, v47_0].length) 2 [(v42_0, (p42_0, c42_1)), (v47_0, (p47_0, c47_1))] (by rw [pair_len (show ([(v42_0, (p42_0, c42_1)), (v47_0, (p47_0, c47_1))]).map (·.1) = [v42_0, v47_0] from rfl)]) (by rw [pair_len (show ([(v42_0, (p42_0, c42_1)), (v47_0, (p47_0, c47_1))]).map (·.1) = [v42_0, v47_0] from rfl)]; exact hap68.1) (fun z hz => hap68.2 z.1 (by rw [← (show ([(v42_0, (p42_0, c42_1)), (v47_0, (p47_0, c47_1))]).map (·.1) = [v42_0, v47_0] from rfl)]; exact List.mem_map_of_mem hz))) (asK [] rfl) rfl (H' := [_,_,_,_,_,_]) rfl ?_
       rintro _ _ _ ⟨r4_68, r5_68, hfe68, rfl, rfl, rfl⟩
       refine wl_sh [.own 5 1 R_u8 (.slice p47_0 v47_0.length c47_1) ((List.range v47_0.length).map (fun i => (z_markByte ((1 : Nat) : Int) ((i : Nat) : Int)))), .own 5 1 R_u8 (.slice p42_0 v42_0.length c42_1) ((List.range v42_0.length).map (fun i => (z_markByte ((0 : Nat) : Int) ((i : Nat) : Int)))), _, flatF 5 1 [],_,_,_,_,_,_] (fun _ h => h.flBack2 (R := R_u8) (f := fun j i => (z_markByte ((j : Nat) : Int) ((i : Nat) : Int))) (h0 := (p42_0, v42_0.length, c42_1)) (h1 := (p47_0, v47_0.length, c47_1)) (fun _ _ _ _ => ⟨(), rfl, ask_nil⟩) 1 rfl hfe68) (wl_drop 2 rfl (H' := [_,_,_,_,_,_,_,_,_]) rfl (wl_drop 2 rfl (H' := [_,_,_,_,_,_,_,_]) rfl (wP rfl (wP rfl (wP rfl (wP rfl (wl_ownLen 6 rfl (fun hzc51_2 _ => ?_))))))))
       subst hzc51_2
       refine wl_ownLen 3 rfl (fun hzc53_2 _ => ?_)
       subst hzc53_2
       refine wl_row (sz := 1) (m := 2) T_l_str.pair ([(v51, (p51_0, c51_1)), (v53, (p53_0, c53_1))]) 2 rfl (fun F w hφ => ⟨[.slice p51_0 v51.length c51_1],[.slice p53_0 v53.length c53_1], rfl, rfl, rfl, ⟨[.slice p53_0 v53.length c53_1],[], rfl, rfl, rfl, rfl⟩⟩) rfl (by decide) (H' := [_,_,_,_,_,_,_,_]) rfl (wl_sh [bagF T_l_str [] none, _,_,_,_,_,_,_,_] (fun _ h => h.bagNil T_l_str) (wl_pick [7,0,1,2,3,4,5,6,8] rfl (H' := [_,_,_,_,_,_,_,_,_]) rfl (wl_sh [bagF T_l_str ([(v51, (p51_0, c51_1))]) none, _,_,_,_,_,_,_] (fun _ h => Holds.bagPush (T := T_l_str) (x := v51) (r := (p51_0, c51_1)) (zs := []) (H := [_,_,_,_,_,_,_,_]) h 0 rfl) (wl_pick [4,0,1,2,3,5,6,7] rfl (H' := [_,_,_,_,_,_,_,_]) rfl (wl_sh [bagF T_l_str (([(v51, (p51_0, c51_1))]) ++ [(v53, (p53_0, c53_1))]) none, _,_,_,_,_,_] (fun _ h => Holds.bagPush (T := T_l_str) (x := v53) (r := (p53_0, c53_1)) (zs := [(v51, (p51_0, c51_1))]) (H := [_,_,_,_,_,_,_]) h 0 rfl) (wl_hAs 0 (φ' := bagF T_l_str ([(v51, (p51_0, c51_1)), (v53, (p53_0, c53_1))]) none) rfl rfl (H' := [_,_,_,_,_,_,_]) rfl (wl_ownLen 3 rfl (fun hzt6 _ => ?_))))))))
       replace hzt6 := hzt6.trans (pair_len (show ([(v51, (p51_0, c51_1)), (v53, (p53_0, c53_1))]).map (·.1) = [v51, v53] from rfl))
       refine wl_at 0 (v' := .slice (some ⟨g54,0, none⟩) ([v51, v53].length) 2) rfl (by rw [hzt6]) (wl_at 18 (v' := .slice (some ⟨g54,0, none⟩) ([v51, v53].length) 2) rfl (by rw [hzt6]) (wl_hAs 3 (φ' := .own 33 1 T_l_str.pair (.slice (some ⟨g54,0, none⟩) ([v51, v53].length) 2) ([(v51, (p51_0, c51_1)), (v53, (p53_0, c53_1))])) rfl (by rw [hzt6]) (H' := [_,_,_,_,_,_,_]) rfl ?_))
       obtain ⟨hap73, hm⟩ := gd_some hm
       refine wC [3,0] [1,2,4,5,6] rfl fn_14 rfl (ap_ApartTexts (some ⟨g54,0, none⟩) ([v51, v53].length) 2 [(v51, (p51_0, c51_1)), (v53, (p53_0, c53_1))] (by rw [pair_len (show ([(v51, (p51_0, c51_1)), (v53, (p53_0, c53_1))]).map (·.1) = [v51, v53] from rfl)]) (by rw [pair_len (show ([(v51, (p51_0, c51_1)), (v53, (p53_0, c53_1))]).map (·.1) = [v51, v53] from rfl)]; exact hap73.1) (fun z hz => hap73.2 z.1 (by rw [← (show ([(v51, (p51_0, c51_1)), (v53, (p53_0, c53_1))]).map (·.1) = [v51, v53] from rfl)]; exact List.mem_map_of_mem hz))) (asK [] rfl) rfl (H' := [_,_,_,_,_]) rfl ?_
       rintro _ _ _ ⟨r4_73, r5_73, hfe73, rfl, rfl, rfl⟩
       refine wl_sh [.own 9 1 R_str (.slice p53_0 v53.length c53_1) ((List.range v53.length).map (fun i => (z_markText ((1 : Nat) : Int) ((i : Nat) : Int)))), .own 9 1 R_str (.slice p51_0 v51.length c51_1) ((List.range v51.length).map (fun i => (z_markText ((0 : Nat) : Int) ((i : Nat) : Int)))), flatF 9 1 [],_,_,_,_,_,_] (fun _ h => h.flBack2 (R := R_str) (f := fun j i => (z_markText ((j : Nat) : Int) ((i : Nat) : Int))) (h0 := (p51_0, v51.length, c51_1)) (h1 := (p53_0, v53.length, c53_1)) (fun _ _ _ _ => ⟨(), rfl, ask_nil⟩) 0 rfl hfe73) (wl_drop 2 rfl (H' := [_,_,_,_,_,_,_,_]) rfl (wl_drop 2 rfl (H' := [_,_,_,_,_,_,_]) rfl (wP rfl (wP rfl (wl_nil ?_)))))
       have hE := (Option.some.inj hm).symm
       refine we_pick [3,4,5] rfl (H' := [_,_,_]) rfl ?_
       refine we_join (((List.range v42_0.length).map (fun i => (z_markByte ((0 : Nat) : Int) ((i : Nat) : Int)))), false) hE [8,5,0,1,75] rfl (asK [0,1] rfl) rfl
    ·
     rintro ⟨j_2_8_l, j_2_75⟩ hE
     try dsimp only
     have hm := hLj_2
     rw [hE] at hm
     try dsimp only at hm
     refine wc_cond rfl (fun hb75 => ?_) (fun hb75 => ?_)
     ·
      replace hm := iteT hm hb75
      refine wc_keep [] (S' := []) rfl (wc_seq (wc_region (wP rfl (wl_nil (we_then (wc_ret (we_then_ret ?_)))))))
      have hE := (Option.some.inj hm).symm
      replace hE := hE.symm
      subst hE
      refine ret_one (Hr := []) [] Tryz.results3 (res_tmp rfl) ⟨rfl, rfl, rfl⟩ (asK [] rfl) rfl rfl (.inl rfl)
     ·
      replace hm := iteF hm hb75
      refine wc_keep [8,5,0,1] (S' := [_,_,_,_]) rfl (wc_skip (we_then (wc_seq (wc_region (wP rfl (wl_ownLen 0 rfl (fun hzc42_2 _ => ?_)))))))
      subst hzc42_2
      obtain ⟨v77, hc77, hm⟩ := bindO_some hm
      refine wC [0] [1,2] rfl fn_15 rfl (w_ropewalkkit_TurnBytes_v2_s N p42_0 j_2_8_l.length c42_1 j_2_8_l _ hc77) (asK [] rfl) rfl (H' := [_,_]) rfl ?_
      rintro _ _ _ ⟨rfl, rfl, rfl⟩
      refine wl_nil (we_then (wc_keep [5,0,1] (S' := [_,_,_]) rfl (wc_seq (wc_region (wP rfl (wP rfl ?_))))))
      obtain ⟨⟨v80_0, v80_1⟩, hc80, hm⟩ := bindO_some hm
      try dsimp only at hm
      refine wC [1,2] [0] rfl fn_7 rfl (w_disk_Disk_Append_s N c24_0 (maxI 1048576 0) c24_1 v47_2 (⟨#[97]⟩ : ByteArray) qp2 qc3 l1 _ _ hc80) (asK [1] rfl) rfl (H' := [_]) rfl ?_
      rintro _ _ _ ⟨rfl, rfl, rfl⟩
      refine wP rfl (wl_nil (we_then (wc_keep [13,5,0,1] (S' := [_,_,_,_]) rfl (wc_seq (wc_region (wP rfl ?_))))))
      obtain ⟨⟨v83_0, v83_1, v83_2⟩, hc83, hm⟩ := bindO_some hm
      try dsimp only at hm
      refine wC [0,1] [2] rfl fn_10 rfl (w_disk_Disk_Read_s N c24_0 (maxI 1048576 0) c24_1 v80_1 (⟨#[97]⟩ : ByteArray) _ _ _ hc83) (asK [] rfl) rfl (H' := [_]) rfl ?_
      rintro _ _ _ ⟨p83_0, c83_1, c83_2, rfl, rfl, rfl⟩
      refine wP rfl (wP rfl (wP rfl (wP rfl (wP rfl (wl_nil (we_then (wc_keep [15,14,13,0,1] (S' := [_,_,_,_,_]) rfl (wc_seq (wc_region (wP rfl ?_))))))))))
      obtain ⟨_, hc87, hm⟩ := bindO_some hm
      try dsimp only at hm
      refine wC [] [0,1,2,3] rfl fn_16 rfl (w_ropewalkkit_CopyBytes_s N qp0 qc1 l0 hc87) (asK [0] rfl) rfl (H' := [_,_,_,_]) rfl ?_
      rintro _ _ _ ⟨p87_0, c87_1, rfl, rfl, rfl⟩
      refine wP rfl ?_
      obtain ⟨hg89, hm⟩ := gd_some hm
      refine wl_append 0 1 rfl rfl rfl (freshS_eq rfl) rfl rfl rfl rfl rfl tE_22 tR_5 rfl rfl (Nat.le_trans hg89 (by decide)) (Nat.le_trans (Nat.mul_le_mul_right _ hg89) (by decide)) (H2 := fun p89 c89 => [.own 5 1 R_u8 (.slice p89 ((l0 ++ l1).length) c89) (l0 ++ l1), _,_,_,_]) (fun _ _ => rfl) (fun p89 c89 => (wP rfl (wl_nil (we_then (wc_keep [16,15,14,13] (S' := [_,_,_,_]) rfl (wc_seq ?_))))))
      obtain ⟨bj_3, hm, hLj_3⟩ := bindO_some hm
      unfold m_ropewalklaw17_DiskKeeps_C3 at hm
      refine wc_cut (σ := Bool) (fun j_3_4 => bj_3 = j_3_4) (fun j_3_4 => [(4, .bool j_3_4)]) (fun j_3_4 => []) (fun j_3_4 => []) ?_ ?_
      ·
       refine wc_region (wP rfl (wP rfl (wP rfl ?_)))
       refine wl_split (d := 92) (S' := [_,_,_,_,_,_]) rfl rfl (fun hs92 => ?_) (fun hs92 => ?_)
       ·
        replace hm := iteT hm hs92
        refine wP rfl (wP rfl (wl_as (d := 94) (v' := .bool (v83_1 == 0)) (S' := [_,_,_,_,_,_,_,_]) rfl rfl (nateq (a := v83_1) (b := 0)) (wP rfl (wP rfl ?_))))
        refine wl_split (d := 96) (S' := [_,_,_,_,_,_,_,_,_,_]) rfl rfl (fun hs96 => ?_) (fun hs96 => ?_)
        ·
         replace hm := iteT hm hs96
         refine wP rfl (wP rfl (wl_ownLen 1 rfl (fun hzc83_2 _ => ?_)))
         subst hzc83_2
         obtain ⟨v99, hc99, hm⟩ := bindO_some hm
         refine wl_lend [] [0,1,2,3,4] [1,0] rfl rfl rfl (freshS_eq rfl) rfl rfl fn_12 rfl (w_ropewalkkit_SameBytes_s N p83_0 c83_1 v83_0 p89 c89 (l0 ++ l1) _ hc99) (fun F w hφ hh => (ask_cons (own_sli (hh _ (mem_at (k := 0) rfl))) (ask_cons (own_sli (hh _ (mem_at (k := 1) rfl))) ask_nil))) (fun _ _ _ hR => by obtain ⟨rfl, rfl, rfl⟩ := hR; exact ⟨rfl, (fun _ h => free_nil h)⟩) rfl rfl (H' := [_,_,_,_,_]) rfl ?_
         rintro _ _ _ ⟨rfl, rfl, rfl⟩
         refine wP rfl (wP rfl ?_)
         refine wl_split (d := 101) (S' := [_,_,_,_,_,_,_,_,_,_,_,_,_,_,_]) rfl rfl (fun hs101 => ?_) (fun hs101 => ?_)
         ·
          replace hm := iteT hm hs101
          obtain ⟨v102, hc102, hm⟩ := bindO_some hm
          refine wC [] [0,1,2,3,4] rfl fn_4 rfl (w_ropewalklaw17_awake_s N _ hc102) (asK [] rfl) rfl (H' := [_,_,_,_,_]) rfl ?_
          rintro _ _ _ ⟨rfl, rfl, rfl⟩
          refine wP rfl (wP rfl (wl_nil ?_))
          have hE := (Option.some.inj hm).symm
          refine we_pick [] rfl (H' := []) rfl ?_
          refine we_join v102 hE [4] rfl (asK [] rfl) rfl
         ·
          replace hm := iteF hm hs101
          refine wO rfl (wP rfl (wP rfl (wl_nil ?_)))
          have hE := (Option.some.inj hm).symm
          refine we_pick [] rfl (H' := []) rfl ?_
          refine we_join false hE [4] rfl (asK [] rfl) rfl
        ·
         replace hm := iteF hm hs96
         refine wO rfl (wO rfl (wO rfl (wP rfl (wP rfl (wO rfl (wP rfl (wP rfl (wl_nil ?_))))))))
         have hE := (Option.some.inj hm).symm
         refine we_pick [] rfl (H' := []) rfl ?_
         refine we_join false hE [4] rfl (asK [] rfl) rfl
       ·
        replace hm := iteF hm hs92
        refine wO rfl (wO rfl (wP rfl (wP rfl (wO rfl (wO rfl (wO rfl (wP rfl (wP rfl (wO rfl (wP rfl (wP rfl (wl_nil ?_))))))))))))
        have hE := (Option.some.inj hm).symm
        refine we_pick [] rfl (H' := []) rfl ?_
        refine we_join false hE [4] rfl (asK [] rfl) rfl
      ·
       rintro j_3_4 hE
       try dsimp only
       have hm := hLj_3
       rw [hE] at hm
       refine wc_ret ?_
       have hE := (Option.some.inj hm).symm
       replace hE := hE.symm
       subst hE
       refine ret_one (Hr := []) [] Tryz.results3 (res_tmp rfl) ⟨rfl, rfl, rfl⟩ (asK [] rfl) rfl rfl (.inl rfl)
end Go.Proofs.YtkakbckmajdggaaGreat
