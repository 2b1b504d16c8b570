import Derived.Test.YtkakbckmajdggaaXW1
namespace Go.Proofs.Ytkakbckmajdggaa
open Go.RowKit
set_option maxRecDepth 100000
set_option maxHeartbeats 4000000
theorem w_ropewalkkit_SameBytes_s (N : Nat) (qp0 : Option Addr) (qc1 : Nat) (l0 : List Int) (qp2 : Option Addr) (qc3 : Nat) (l1 : List Int) (o0 : Bool) (hm : m_ropewalkkit_SameBytes N l0 l1 = some o0) : Spec Try.prog 18 [.slice qp0 l0.length qc1, .slice qp2 l1.length qc3] [.sli 1 R_u8 qp0 qc1 l0, .sli 1 R_u8 qp2 qc3 l1] [] (fun v Φr Hr => v = .bool o0 ∧ Φr = [] ∧ Hr = []) := by
 unfold m_ropewalkkit_SameBytes at hm
 refine spec_of Try.func18 rfl Try.ntmps18 rfl (S := [_,_]) rfl (fun C => (wc_seq (wc_region (wP rfl (wl_nil (we_then (wc_keep [0,1] (S' := [_,_]) rfl (wc_seq (wc_seq (wc_region (wP rfl (wN rfl tE_27 (wP rfl (wN rfl tE_27 ?_))))))))))))))
 refine wP rfl (wl_as (d := 10) (v' := .bool (l0.length != l1.length)) (S' := [_,_,_,_,_,_]) rfl rfl (natne (a := l0.length) (b := l1.length)) (wl_nil (we_then (wc_keep [10,0,1] (S' := [_,_,_]) rfl ?_))))
 refine wc_cond rfl (fun hb10 => ?_) (fun hb10 => ?_)
 ·
  replace hm := iteT hm hb10
  refine wc_keep [] (S' := []) rfl (wc_seq (wc_region (wP rfl (wl_nil (we_then (wc_ret (we_then_ret ?_)))))))
  have hE := (Option.some.inj hm).symm
  replace hE := hE.symm
  subst hE
  refine ret_one (Hr := []) [] Try.results18 (res_tmp rfl) ⟨rfl, rfl, rfl⟩ (asK [] rfl) rfl rfl (.inl rfl)
 ·
  replace hm := iteF hm hb10
  refine wc_keep [0,1] (S' := [_,_]) rfl (wc_skip (we_then (wc_seq ?_)))
  obtain ⟨bj_1, hm, hLj_1⟩ := bindS_some hm
  refine wc_cut (σ := Unit) (fun _ => bj_1 = .inl ()) (fun _ => []) (fun _ => []) (fun _ => []) ?_ ?_
  ·
   refine wc_seq (wc_region (wP rfl (wl_nil (we_then (wc_block (wc_loop (σ := Nat × Nat) (fun (nu1, u1_5) => iter (m_ropewalkkit_SameBytes_L1 N l0 l1) nu1 u1_5 = some bj_1) (fun (nu1, u1_5) => nu1) (fun (nu1, u1_5) => [(5, .int .i64 ((u1_5 : Nat) : Int)), (0, .slice qp0 l0.length qc1), (1, .slice qp2 l1.length qc3)]) (fun (nu1, u1_5) => [.sli 1 R_u8 qp0 qc1 l0, .sli 1 R_u8 qp2 qc3 l1]) (fun (nu1, u1_5) => []) (N, 0) hm [5,0,1] rfl (asK [0,1] rfl) rfl (fun s_ hm => ?_)))))))
   obtain ⟨nu1, u1_5⟩ := s_
   try dsimp only at hm ⊢
   obtain ⟨mu1, bu1, hnu1, hq, hLu1⟩ := iter_some hm
   clear hm
   subst hnu1
   replace hm := hq
   clear hq
   unfold m_ropewalkkit_SameBytes_L1 at hm
   try dsimp only at hm
   refine wc_seq (wc_seq (wc_region (wP rfl (wP rfl (wN rfl tE_27 (wP rfl (wl_as (d := 14) (v' := .bool (decide (u1_5 < l0.length))) (S' := [_,_,_,_,_,_]) rfl rfl (natlt (a := u1_5) (b := l0.length)) (wl_nil (we_then (wc_keep [14,5,0,1] (S' := [_,_,_,_]) rfl ?_))))))))))
   refine wc_cond rfl (fun hb14 => ?_) (fun hb14 => ?_)
   ·
    replace hm := iteT hm hb14
    refine wc_keep [5,0,1] (S' := [_,_,_]) rfl (wc_skip (we_then (wc_seq (wc_block (wc_seq ?_)))))
    obtain ⟨x19, hx19, hm⟩ := bindO_some hm
    obtain ⟨x23, hx23, hm⟩ := bindO_some hm
    refine wc_draw [0,1,2,3,4,5,6,7,8] rfl rfl (fun hok => (xP hok 0 rfl (xP hok 1 rfl (wx_indexA hok 2 0 u1_5 rfl rfl rfl (freshS_eq rfl) rfl rfl rfl rfl rfl rfl hx19 tE_27 tS_5 (fun b19 q19 cs19 hlx19 => (wx_openR R_u8_opens 1 rfl (fun r19 er19 _ => ?_)))))))
    subst er19
    refine wx_load hok 3 0 0 rfl rfl rfl (freshS_eq rfl) rfl rfl rfl rfl (cs := [_]) rfl tS_5 tA_5 rfl rfl (xP hok 4 rfl (xP hok 5 rfl (wx_indexA hok 6 3 u1_5 rfl rfl rfl (freshS_eq rfl) rfl rfl rfl rfl rfl rfl hx23 tE_27 tS_5 (fun b23 q23 cs23 hlx23 => (wx_openR R_u8_opens 1 rfl (fun r23 er23 _ => ?_))))))
    subst er23
    refine wx_load hok 7 0 0 rfl rfl rfl (freshS_eq rfl) rfl rfl rfl rfl (cs := [_]) rfl tS_5 tA_5 rfl rfl (xP hok 8 rfl (wx_done hok rfl (we_then (wc_keep [25,5,0,1] (S' := [_,_,_,_]) rfl ?_))))
    refine wc_cond rfl (fun hb25 => ?_) (fun hb25 => ?_)
    ·
     replace hm := iteT hm hb25
     refine wc_keep [] (S' := []) rfl (wc_seq (wc_region (wP rfl (wl_nil (we_then (wc_ret (we_block_ret (we_then_ret (we_then_ret (we_block_ret (we_then_ret ?_)))))))))))
     have hE := (Option.some.inj hm).symm
     replace hE := link_inr hLu1 hE
     replace hE := link_inr hLj_1 hE
     replace hE := hE.symm
     subst hE
     refine ret_one (Hr := []) [] Try.results18 (res_tmp rfl) ⟨rfl, rfl, rfl⟩ (asK [] rfl) rfl rfl (.inl rfl)
    ·
     replace hm := iteF hm hb25
     refine wc_keep [5,0,1] (S' := [_,_,_]) rfl (wc_skip (we_block_normal (we_then (wc_region (wP rfl (wP rfl ?_))))))
     obtain ⟨hg16, hm⟩ := gd_some hm
     refine wl_as (d := 16) (v' := .int .i64 ((u1_5 + 1 : Nat) : Int)) (S' := [_,_,_,_]) rfl rfl (nat_add (a := u1_5) (b := 1) hg16) (wl_pure (S' := [_,_,_,_]) rfl rfl rfl rfl rfl (wl_nil ?_))
     have hE := (Option.some.inj hm).symm
     replace hE := link_inl hLu1 hE
     refine we_roundK (_, u1_5 + 1) (Nat.lt_succ_self _) hE [5,0,1] rfl (asK [4,5] rfl) rfl
   ·
    replace hm := iteF hm hb14
    refine wc_keep [] (S' := []) rfl (wc_exit (we_then_exit (we_then_exit (we_block_hit ?_))))
    have hE := (Option.some.inj hm).symm
    replace hE := link_inr hLu1 hE
    refine we_join () hE [] rfl (asK [] rfl) rfl
  ·
   rintro _ hE
   try dsimp only
   have hm := link_inl hLj_1 hE
   try dsimp only at hm
   refine wc_seq (wc_region (wP rfl (wl_nil (we_then (wc_ret ?_)))))
   have hE := (Option.some.inj hm).symm
   replace hE := hE.symm
   subst hE
   refine ret_one (Hr := []) [] Try.results18 (res_tmp rfl) ⟨rfl, rfl, rfl⟩ (asK [] rfl) rfl rfl (.inl rfl)
theorem w_disk_Disk_Rename_1_s (N : Nat) (qp0 : Option Addr) (qc1 : Nat) (l0 : List Int) (qp2 : Option Addr) (qc3 : Nat) (l1 : List Int) (qg4 : Nat) (qg5 : Nat) (a2 : Int) (qb6 : Nat) (e3 : List (ByteArray × Disk_rowsD)) (qg7 : Nat) (a4 : ByteArray)  (hm : m_disk_Disk_Rename_1 N l0 l1 a2 e3 a4 = some ()) : Spec Try.prog 58 [.agg #[.slice qp0 l0.length qc1, .slice qp2 l1.length qc3], .pointer (some ⟨qg4,0, none⟩), .pointer (some ⟨qg7,0, none⟩)] [.sli 1 R_u8 qp0 qc1 l0, .sli 1 R_u8 qp2 qc3 l1] [.blk qg4 [.pointer (some ⟨qg5,0, none⟩)] 24, .blk qg5 [.int .i64 a2, .map (some qb6)] 59, mapP (keyStr (tStr_run tT_9)) true R_Disk_rowsD qb6 e3, .blk qg7 [.string a4] 9] (fun v Φr Hr => v = .tuple #[.agg #[.slice qp0 l0.length qc1, .slice qp2 l1.length qc3], .int .i64 0] ∧ Φr = [.sli 1 R_u8 qp0 qc1 l0, .sli 1 R_u8 qp2 qc3 l1] ∧ Hr = [.blk qg4 [.pointer (some ⟨qg5,0, none⟩)] 24, .blk qg5 [.int .i64 a2, .map (some qb6)] 59, mapP (keyStr (tStr_run tT_9)) true R_Disk_rowsD qb6 (mputP ltB a4 (⟨l0, l1⟩ : Disk_rowsD) e3), .blk qg7 [.string a4] 9]) := by
 unfold m_disk_Disk_Rename_1 at hm
 refine spec_of Try.func58 rfl Try.ntmps58 rfl (S := [_,_,_]) rfl (fun C => (wc_seq (wc_region (wB rfl (fun g3 => (wl_alloc rfl rfl rfl (freshS_eq rfl) rfl tZ_69 rfl (fun g4 => (wP rfl (wl_nil (we_then (wc_keep [4,3,1,2] (S' := [_,_,_,_]) rfl (wc_seq (wc_draw [0,1,2,3,4,5] rfl rfl (fun hok => (wx_loadH hok 0 2 0 rfl rfl rfl (freshS_eq rfl) rfl rfl rfl rfl (cs := [_]) rfl tS_24 tA_24 rfl rfl (xP hok 1 rfl (wx_fieldAddr hok 2 rfl rfl rfl (freshS_eq rfl) rfl rfl rfl tF_59_1 ?_)))))))))))))))))
 refine wx_loadH hok 3 3 1 rfl rfl rfl (freshS_eq rfl) rfl rfl rfl rfl (cs := [_]) rfl tS_57 tA_57 rfl rfl (wx_loadH hok 4 5 0 rfl rfl rfl (freshS_eq rfl) rfl rfl rfl rfl (cs := [_]) rfl tS_9 tA_9 rfl rfl (wx_loadH hok 5 1 0 rfl rfl rfl (freshS_eq rfl) rfl rfl rfl rfl (cs := [_,_]) rfl tS_69 tA_69 rfl rfl (xS hok 6 rfl (wl_mapPutP (i := a4) (u := (⟨l0, l1⟩ : Disk_rowsD)) (cs := [.slice qp0 l0.length qc1, .slice qp2 l1.length qc3]) ltB 4 rfl rfl (.inl rfl) rfl rfl rfl rfl tM_57 trivial rfl (fun F w hφ => ⟨((qp0, qc1), (qp2, qc3)), rfl, (ask_cons (hφ _ (mem_at (k := 0) rfl)) (ask_cons (hφ _ (mem_at (k := 1) rfl)) ask_nil))⟩) (H' := [.blk g4 [.slice none 0 0, .slice none 0 0] 69, .blk g3 [.slice qp0 l0.length qc1, .slice qp2 l1.length qc3] 69, .blk qg4 [.pointer (some ⟨qg5,0, none⟩)] 24, .blk qg5 [.int .i64 a2, .map (some qb6)] 59, mapP (keyStr (tStr_run tT_9)) true R_Disk_rowsD qb6 (mputP ltB a4 (⟨l0, l1⟩ : Disk_rowsD) e3), .blk qg7 [.string a4] 9]) rfl (wl_nil (we_x [0,1] [] rfl rfl (wx_done hok rfl (we_then (wc_keep [4,3] (S' := [_,_]) rfl (wc_seq (wc_region (wl_loadH 1 0 rfl rfl rfl (freshS_eq rfl) rfl rfl rfl (cs := [_,_]) rfl tS_69 tA_69 rfl rfl (wS 0 0 rfl tS_69 (all' := [_,_]) rfl (H' := [_,_,_,_,_,_]) rfl ?_)))))))))))))
 refine wP rfl (wl_nil (we_then (wc_keep [5,4] (S' := [_,_]) rfl (wc_ret ?_))))
 have hE := (Option.some.inj hm).symm
 refine ret_two (Hr := [_,_,_,_]) [2,3,4,5] Try.results58 (res_cell 0 rfl rfl tS_69 tA_69 rfl rfl) (res_tmp rfl) ⟨rfl, rfl, rfl⟩ (asK [0,1] rfl) rfl rfl (.inl rfl)
theorem w_disk_Disk_turn_v13_s (N : Nat) (qg0 : Nat) (a0 : Int) (qb1 : Nat) (e1 : List (ByteArray × Disk_rowsD)) (a2 : ByteArray) (qg2 : Nat) (qg3 : Nat) (a3 : ByteArray) (o0 : Nat) (o1 : List (ByteArray × Disk_rowsD)) (hm : m_disk_Disk_turn_v13 N a0 e1 a2 a3 = some (o0, o1)) : Spec Try.prog 41 [.pointer (some ⟨qg0,0, none⟩), .string a2, .func (.func 58) #[] #[.pointer (some ⟨qg2,0, none⟩), .pointer (some ⟨qg3,0, none⟩)]] [] [.blk qg0 [.int .i64 a0, .map (some qb1)] 59, mapP (keyStr (tStr_run tT_9)) true R_Disk_rowsD qb1 e1, .blk qg2 [.pointer (some ⟨qg0,0, none⟩)] 24, .blk qg3 [.string a3] 9] (fun v Φr Hr => v = .int .i64 ((o0 : Nat) : Int) ∧ Φr = [] ∧ Hr = [.blk qg0 [.int .i64 a0, .map (some qb1)] 59, mapP (keyStr (tStr_run tT_9)) true R_Disk_rowsD qb1 o1, .blk qg2 [.pointer (some ⟨qg0,0, none⟩)] 24, .blk qg3 [.string a3] 9]) := by
 unfold m_disk_Disk_turn_v13 at hm
 refine spec_of Try.func41 rfl Try.ntmps41 rfl (S := [_,_,_]) rfl (fun C => (wc_seq (wc_region (wP rfl (wl_nil (we_then (wc_keep [0,1,2] (S' := [_,_,_]) rfl (wc_seq (wc_seq (wc_region (wP rfl ?_)))))))))))
 obtain ⟨_, hc13, hm⟩ := bindO_some hm
 try dsimp only at hm
 refine wC [0,1] [2,3] rfl fn_35 rfl (w_disk_Disk_is_s N qg0 a0 qb1 e1 hc13) (asK [] rfl) rfl (H' := [_,_]) rfl ?_
 rintro _ _ _ ⟨rfl, rfl, rfl⟩
 refine wP rfl (wl_nil (we_then (wc_keep [7,0,1,2] (S' := [_,_,_,_]) rfl (wc_seq (wc_region (wP rfl (wP rfl (wl_as (d := 15) (v' := .bool false) (S' := [_,_,_,_,_]) rfl rfl rfl (wl_nil (we_then (wc_keep [15,7,0,1,2] (S' := [_,_,_,_,_]) rfl (wc_false rfl (wc_keep [0,1,2] (S' := [_,_,_]) rfl ?_)))))))))))))
 refine wc_skip (we_then (wc_seq ?_))
 obtain ⟨bj_1, hm, hLj_1⟩ := bindO_some hm
 refine wc_cut (σ := (List Int) × (List Int) × Bool × Nat × (Option Addr) × Nat × (Option Addr) × Nat) (fun (j_1_8_f0_l, j_1_8_f1_l, j_1_9, j_1_8_g, j_1_8_f0_p, j_1_8_f0_c, j_1_8_f1_p, j_1_8_f1_c) => bj_1 = (j_1_8_f0_l, j_1_8_f1_l, j_1_9)) (fun (j_1_8_f0_l, j_1_8_f1_l, j_1_9, j_1_8_g, j_1_8_f0_p, j_1_8_f0_c, j_1_8_f1_p, j_1_8_f1_c) => [(0, .pointer (some ⟨qg0,0, none⟩)), (1, .string a2), (2, .func (.func 58) #[] #[.pointer (some ⟨qg2,0, none⟩), .pointer (some ⟨qg3,0, none⟩)]), (8, .pointer (some ⟨j_1_8_g, 0, none⟩)), (9, .bool j_1_9)]) (fun (j_1_8_f0_l, j_1_8_f1_l, j_1_9, j_1_8_g, j_1_8_f0_p, j_1_8_f0_c, j_1_8_f1_p, j_1_8_f1_c) => [.sli 1 R_u8 j_1_8_f0_p j_1_8_f0_c j_1_8_f0_l, .sli 1 R_u8 j_1_8_f1_p j_1_8_f1_c j_1_8_f1_l]) (fun (j_1_8_f0_l, j_1_8_f1_l, j_1_9, j_1_8_g, j_1_8_f0_p, j_1_8_f0_c, j_1_8_f1_p, j_1_8_f1_c) => [.blk qg0 [.int .i64 a0, .map (some qb1)] 59, mapP (keyStr (tStr_run tT_9)) true R_Disk_rowsD qb1 e1, .blk qg2 [.pointer (some ⟨qg0,0, none⟩)] 24, .blk qg3 [.string a3] 9, .blk j_1_8_g [.slice j_1_8_f0_p j_1_8_f0_l.length j_1_8_f0_c, .slice j_1_8_f1_p j_1_8_f1_l.length j_1_8_f1_c] 69]) ?_ ?_
 ·
  refine wc_region (wP rfl (wP rfl (wF rfl tF_59_1 (wD 0 1 rfl tS_57 tA_57 rfl (wP rfl ?_)))))
  rcases optE_some hm with ⟨hq23, hm⟩ | ⟨x23, hq23, hm⟩
  ·
   refine wl_lookNoP (i := a2) 1 rfl rfl rfl (freshS_eq rfl) rfl rfl rfl rfl tZ_69 tM_57 trivial hq23 (v := .tuple #[.agg #[.slice none 0 0, .slice none 0 0], .bool false]) rfl (wP rfl (wP rfl (wP rfl (wl_alloc rfl rfl rfl (freshS_eq rfl) rfl tZ_69 rfl (fun g8 => (wS 0 0 rfl tS_69 (all' := [_,_]) rfl (H' := [_,_,_,_,_]) rfl (wP rfl (wl_nil ?_))))))))
   have hE := (Option.some.inj hm).symm
   refine we_fact (.sli 1 R_u8 none 0 ([] : List Int)) (fun _ _ _ => sli_none) (we_fact (.sli 1 R_u8 none 0 ([] : List Int)) (fun _ _ _ => sli_none) (we_pick [1,2,3,4,0] rfl (H' := [_,_,_,_,_]) rfl ?_))
   refine we_join ([],[], false, g8, none, 0, none, 0) hE [0,1,2,8,9] rfl (asK [1,0] rfl) rfl
  ·
   refine wl_lookYesP (i := a2) (a := x23) R_Disk_rowsD_opens 1 rfl rfl rfl (freshS_eq rfl) rfl rfl rfl rfl tM_57 trivial hq23 (u := fun r23 => .agg #[.slice r23.1.1 x23.firm.length r23.1.2, .slice r23.2.1 x23.loose.length r23.2.2]) (fun _ => rfl) (v := fun r23 => .tuple #[.agg #[.slice r23.1.1 x23.firm.length r23.1.2, .slice r23.2.1 x23.loose.length r23.2.2], .bool true]) (fun _ => rfl) (fun r23 _ => (wP rfl (wP rfl (wP rfl (wl_alloc rfl rfl rfl (freshS_eq rfl) rfl tZ_69 rfl (fun g8 => (wS 0 0 rfl tS_69 (all' := [_,_]) rfl (H' := [_,_,_,_,_]) rfl (wP rfl (wl_nil ?_)))))))))
   have hE := (Option.some.inj hm).symm
   refine we_pick [1,2,3,4,0] rfl (H' := [_,_,_,_,_]) rfl ?_
   refine we_join (x23.firm, x23.loose, true, g8, r23.1.1, r23.1.2, r23.2.1, r23.2.2) hE [0,1,2,8,9] rfl (asK [0,1] rfl) rfl
 ·
  rintro ⟨j_1_8_f0_l, j_1_8_f1_l, j_1_9, j_1_8_g, j_1_8_f0_p, j_1_8_f0_c, j_1_8_f1_p, j_1_8_f1_c⟩ hE
  try dsimp only
  have hm := hLj_1
  rw [hE] at hm
  try dsimp only at hm
  refine wc_seq (wc_seq (wc_region (wP rfl (wP rfl (wl_nil (we_then (wc_keep [27,0,1,2,8] (S' := [_,_,_,_,_]) rfl ?_)))))))
  refine wc_cond rfl (fun hb27 => ?_) (fun hb27 => ?_)
  ·
   replace hm := iteT hm hb27
   refine wc_keep [] (S' := []) rfl (wc_seq (wc_region (wP rfl (wl_nil (we_then (wc_ret (we_then_ret ?_)))))))
   have hE := (Option.some.inj hm).symm
   obtain ⟨hE0, hE1⟩ := Prod.mk.inj hE
   clear hE
   replace hE0 := hE0.symm
   subst hE0
   replace hE1 := hE1.symm
   subst hE1
   refine ret_one (Hr := [_,_,_,_]) [0,1,2,3] Try.results41 (res_tmp rfl) ⟨rfl, rfl, rfl⟩ (asK [] rfl) rfl rfl (.inl rfl)
  ·
   replace hm := iteF hm hb27
   refine wc_keep [0,1,2,8] (S' := [_,_,_,_]) rfl (wc_skip (we_then (wc_seq (wc_region (wP rfl (wl_loadH 4 0 rfl rfl rfl (freshS_eq rfl) rfl rfl rfl (cs := [_,_]) rfl tS_69 tA_69 rfl rfl ?_))))))
   obtain ⟨_, hc31, hm⟩ := bindO_some hm
   try dsimp only at hm
   refine wl_callDyn [2,0,1,3] [4] rfl rfl rfl (freshS_eq rfl) rfl rfl rfl fn_58 rfl rfl (w_disk_Disk_Rename_1_s N j_1_8_f0_p j_1_8_f0_c j_1_8_f0_l j_1_8_f1_p j_1_8_f1_c j_1_8_f1_l qg2 qg0 a0 qb1 e1 qg3 a3 hc31) (asK [0,1] rfl) rfl (H' := [_]) rfl ?_
   rintro _ _ _ ⟨rfl, rfl, rfl⟩
   refine wP rfl (wP rfl (wP rfl (wl_alloc rfl rfl rfl (freshS_eq rfl) rfl tZ_69 rfl (fun g10 => (wS 0 0 rfl tS_69 (all' := [_,_]) rfl (H' := [_,_,_,_,_,_]) rfl (wP rfl (wl_nil (we_then (wc_keep [11,10,0,1] (S' := [_,_,_,_]) rfl (wc_seq (wc_seq (wc_region (wP rfl (wP rfl ?_))))))))))))))
   refine wl_as (d := 35) (v' := .bool true) (S' := [_,_,_,_,_]) rfl rfl rfl (wl_nil (we_then (wc_keep [35,11,10,0,1] (S' := [_,_,_,_,_]) rfl (wc_true rfl (wc_keep [11,10,0,1] (S' := [_,_,_,_]) rfl (wc_draw [0,1,2,3,4,5] rfl rfl (fun hok => (xP hok 0 rfl (xP hok 1 rfl (wx_fieldAddr hok 2 rfl rfl rfl (freshS_eq rfl) rfl rfl rfl tF_59_1 (wx_loadH hok 3 2 1 rfl rfl rfl (freshS_eq rfl) rfl rfl rfl rfl (cs := [_]) rfl tS_57 tA_57 rfl rfl (xP hok 4 rfl (wx_loadH hok 5 0 0 rfl rfl rfl (freshS_eq rfl) rfl rfl rfl rfl (cs := [_,_]) rfl tS_69 tA_69 rfl rfl (xS hok 6 rfl ?_))))))))))))))
   refine wl_mapPutP (i := a2) (u := (⟨j_1_8_f0_l, j_1_8_f1_l⟩ : Disk_rowsD)) (cs := [.slice j_1_8_f0_p j_1_8_f0_l.length j_1_8_f0_c, .slice j_1_8_f1_p j_1_8_f1_l.length j_1_8_f1_c]) ltB 3 rfl rfl (.inl rfl) rfl rfl rfl rfl tM_57 trivial rfl (fun F w hφ => ⟨((j_1_8_f0_p, j_1_8_f0_c), (j_1_8_f1_p, j_1_8_f1_c)), rfl, (ask_cons (hφ _ (mem_at (k := 0) rfl)) (ask_cons (hφ _ (mem_at (k := 1) rfl)) ask_nil))⟩) (H' := [.blk g10 [.slice j_1_8_f0_p j_1_8_f0_l.length j_1_8_f0_c, .slice j_1_8_f1_p j_1_8_f1_l.length j_1_8_f1_c] 69, .blk qg2 [.pointer (some ⟨qg0,0, none⟩)] 24, .blk qg0 [.int .i64 a0, .map (some qb1)] 59, mapP (keyStr (tStr_run tT_9)) true R_Disk_rowsD qb1 (mputP ltB a2 (⟨j_1_8_f0_l, j_1_8_f1_l⟩ : Disk_rowsD) (mputP ltB a3 (⟨j_1_8_f0_l, j_1_8_f1_l⟩ : Disk_rowsD) e1)), .blk qg3 [.string a3] 9, .blk j_1_8_g [.slice j_1_8_f0_p j_1_8_f0_l.length j_1_8_f0_c, .slice j_1_8_f1_p j_1_8_f1_l.length j_1_8_f1_c] 69]) rfl (wl_nil (we_x [0,1,0,1] [] rfl rfl (wx_done hok rfl (we_then (wc_keep [11] (S' := [_]) rfl (wc_seq (wc_region (wP rfl (wP rfl (wl_nil (we_then (wc_keep [6] (S' := [_]) rfl (wc_ret ?_)))))))))))))
   have hE := (Option.some.inj hm).symm
   obtain ⟨hE0, hE1⟩ := Prod.mk.inj hE
   clear hE
   replace hE0 := hE0.symm
   subst hE0
   replace hE1 := hE1.symm
   subst hE1
   refine ret_one (Hr := [_,_,_,_]) [2,3,1,4] Try.results41 (res_tmp rfl) ⟨rfl, rfl, rfl⟩ (asK [] rfl) rfl rfl (.inl rfl)
theorem w_disk_Disk_Rename_v3_s (N : Nat) (qg0 : Nat) (a0 : Int) (qb1 : Nat) (e1 : List (ByteArray × Disk_rowsD)) (a2 : ByteArray) (a3 : ByteArray) (o0 : Nat) (o1 : List (ByteArray × Disk_rowsD)) (hm : m_disk_Disk_Rename_v3 N a0 e1 a2 a3 = some (o0, o1)) : Spec Try.prog 29 [.pointer (some ⟨qg0,0, none⟩), .string a2, .string a3] [] [.blk qg0 [.int .i64 a0, .map (some qb1)] 59, mapP (keyStr (tStr_run tT_9)) true R_Disk_rowsD qb1 e1] (fun v Φr Hr => v = .int .i64 ((o0 : Nat) : Int) ∧ Φr = [] ∧ Hr = [.blk qg0 [.int .i64 a0, .map (some qb1)] 59, mapP (keyStr (tStr_run tT_9)) true R_Disk_rowsD qb1 o1]) := by
 unfold m_disk_Disk_Rename_v3 at hm
 refine spec_of Try.func29 rfl Try.ntmps29 rfl (S := [_,_,_]) rfl (fun C => (wc_seq (wc_region (wB rfl (fun g3 => (wB rfl (fun g5 => (wP rfl (wl_nil (we_then (wc_keep [5,3,1] (S' := [_,_,_]) rfl (wc_seq (wc_seq (wc_region (wD 1 0 rfl tS_24 tA_24 rfl ?_)))))))))))))))
 obtain ⟨_, hc9, hm⟩ := bindO_some hm
 try dsimp only at hm
 refine wC [2,3] [0,1] rfl fn_35 rfl (w_disk_Disk_is_s N qg0 a0 qb1 e1 hc9) (asK [] rfl) rfl (H' := [_,_]) rfl ?_
 rintro _ _ _ ⟨rfl, rfl, rfl⟩
 refine wP rfl (wl_as (d := 10) (v' := .bool true) (S' := [_,_,_,_,_]) rfl rfl rfl (wP rfl (wP rfl (wD 2 0 rfl tS_9 tA_9 rfl (wl_buildSlice rfl rfl rfl (freshS_eq rfl) rfl tE_26 tS_9 tZ_9 rfl (zs := [.string ((⟨#[]⟩ : ByteArray)), .string ((⟨#[]⟩ : ByteArray))]) (by kernel_rfl) rfl (out := [_,_]) rfl (fun g14 => (wl_row (sz := 1) (m := 2) R_str ([a2, a3]) 0 rfl (fun F w hφ => ⟨[.string a2],[.string a3], rfl, rfl, ⟨(), rfl, ask_nil⟩, ⟨[.string a3],[], rfl, rfl, ⟨(), rfl, ask_nil⟩, rfl⟩⟩) rfl (by decide) (H' := [_,_,_,_,_]) rfl ?_)))))))
 obtain ⟨v15, hc15, hm⟩ := bindO_some hm
 refine wl_lend [] [0,1,2,3,4] [0] rfl rfl rfl (freshS_eq rfl) rfl rfl fn_39 rfl (w_disk_fit_s N (some ⟨g14,0, none⟩) 2 [a2, a3] _ hc15) (fun F w hφ hh => (ask_cons (own_sli (hh _ (mem_at (k := 0) rfl))) ask_nil)) (fun _ _ _ hR => by obtain ⟨rfl, rfl, rfl⟩ := hR; exact ⟨rfl, (fun _ h => free_nil h)⟩) rfl rfl (H' := [_,_,_,_,_]) rfl ?_
 rintro _ _ _ ⟨rfl, rfl, rfl⟩
 refine wP rfl (wP rfl (wl_nil (we_then (wc_keep [17,5,3,1] (S' := [_,_,_,_]) rfl ?_))))
 refine wc_cond rfl (fun hb17 => ?_) (fun hb17 => ?_)
 ·
  replace hm := iteT hm hb17
  refine wc_keep [] (S' := []) rfl (wc_seq (wc_region (wP rfl (wl_nil (we_then (wc_ret (we_then_ret ?_)))))))
  have hE := (Option.some.inj hm).symm
  obtain ⟨hE0, hE1⟩ := Prod.mk.inj hE
  clear hE
  replace hE0 := hE0.symm
  subst hE0
  replace hE1 := hE1.symm
  subst hE1
  refine ret_one (Hr := [_,_]) [1,2] Try.results29 (res_tmp rfl) ⟨rfl, rfl, rfl⟩ (asK [] rfl) rfl rfl (.inl rfl)
 ·
  replace hm := iteF hm hb17
  refine wc_keep [5,3,1] (S' := [_,_,_]) rfl (wc_skip (we_then (wc_seq (wc_region (wD 4 0 rfl tS_24 tA_24 rfl (wP rfl (wl_makeFunc rfl rfl rfl (freshS_eq rfl) rfl rfl ?_)))))))
  obtain ⟨⟨v21_0, v21_1⟩, hc21, hm⟩ := bindO_some hm
  try dsimp only at hm
  refine wC [1,2,4,3] [0] rfl fn_41 rfl (w_disk_Disk_turn_v13_s N qg0 a0 qb1 e1 a2 g3 g5 a3 _ _ hc21) (asK [] rfl) rfl (H' := [_]) rfl ?_
  rintro _ _ _ ⟨rfl, rfl, rfl⟩
  refine wP rfl (wl_nil (we_then (wc_keep [7,5,3,1] (S' := [_,_,_,_]) rfl (wc_seq ?_))))
  obtain ⟨bj_1, hm, hLj_1⟩ := bindO_some hm
  unfold m_disk_Disk_Rename_v3_C1 at hm
  refine wc_cut (σ := List (ByteArray × Disk_rowsD)) (fun j_1_r0_f1_m => bj_1 = j_1_r0_f1_m) (fun j_1_r0_f1_m => [(7, .int .i64 ((v21_0 : Nat) : Int))]) (fun j_1_r0_f1_m => []) (fun j_1_r0_f1_m => [.blk qg0 [.int .i64 a0, .map (some qb1)] 59, mapP (keyStr (tStr_run tT_9)) true R_Disk_rowsD qb1 j_1_r0_f1_m]) ?_ ?_
  ·
   refine wc_seq ?_
   obtain ⟨bj_2, hm, hLj_2⟩ := bindO_some hm
   refine wc_cut (σ := Bool) (fun j_2_28 => bj_2 = j_2_28) (fun j_2_28 => [(7, .int .i64 ((v21_0 : Nat) : Int)), (3, .pointer (some ⟨g3,0, none⟩)), (1, .string a2), (28, .bool j_2_28)]) (fun j_2_28 => []) (fun j_2_28 => [.blk g3 [.pointer (some ⟨qg0,0, none⟩)] 24, .blk qg0 [.int .i64 a0, .map (some qb1)] 59, mapP (keyStr (tStr_run tT_9)) true R_Disk_rowsD qb1 v21_1]) ?_ ?_
   ·
    refine wc_region (wP rfl (wP rfl (wl_as (d := 23) (v' := .bool (v21_0 == 0)) (S' := [_,_,_,_,_]) rfl rfl (nateq (a := v21_0) (b := 0)) (wP rfl ?_))))
    refine wl_split (d := 24) (S' := [_,_,_,_,_,_]) rfl rfl (fun hs24 => ?_) (fun hs24 => ?_)
    ·
     replace hm := iteT hm hs24
     refine wP rfl (wD 3 0 rfl tS_9 tA_9 rfl (wP rfl (wP rfl (wl_nil ?_))))
     have hE := (Option.some.inj hm).symm
     refine we_pick [2,0,1] rfl (H' := [_,_,_]) rfl ?_
     refine we_join (!(a2.toList == a3.toList)) hE [7,3,1,28] rfl (asK [] rfl) rfl
    ·
     replace hm := iteF hm hs24
     refine wO rfl (wO rfl (wO rfl (wP rfl (wl_nil ?_))))
     have hE := (Option.some.inj hm).symm
     refine we_pick [2,0,1] rfl (H' := [_,_,_]) rfl ?_
     refine we_join false hE [7,3,1,28] rfl (asK [] rfl) rfl
   ·
    rintro j_2_28 hE
    try dsimp only
    have hm := hLj_2
    rw [hE] at hm
    refine wc_cond rfl (fun hb28 => ?_) (fun hb28 => ?_)
    ·
     replace hm := iteT hm hb28
     refine wc_keep [7,3,1] (S' := [_,_,_]) rfl (wc_region (wD 0 0 rfl tS_24 tA_24 rfl (wP rfl (wF rfl tF_59_1 (wD 1 1 rfl tS_57 tA_57 rfl (wP rfl (wl_delP (i := a2) 2 rfl rfl rfl rfl rfl rfl tM_57 trivial (H' := [.blk g3 [.pointer (some ⟨qg0,0, none⟩)] 24, .blk qg0 [.int .i64 a0, .map (some qb1)] 59, mapP (keyStr (tStr_run tT_9)) true R_Disk_rowsD qb1 (mdel a2 v21_1)]) rfl (wl_nil ?_))))))))
     have hE := (Option.some.inj hm).symm
     refine we_pick [1,2] rfl (H' := [_,_]) rfl ?_
     refine we_join (mdel a2 v21_1) hE [7] rfl (asK [] rfl) rfl
    ·
     replace hm := iteF hm hb28
     refine wc_keep [7] (S' := [_]) rfl (wc_skip ?_)
     have hE := (Option.some.inj hm).symm
     refine we_pick [1,2] rfl (H' := [_,_]) rfl ?_
     refine we_join v21_1 hE [7] rfl (asK [] rfl) rfl
  ·
   rintro j_1_r0_f1_m hE
   try dsimp only
   have hm := hLj_1
   rw [hE] at hm
   refine wc_seq (wc_region (wP rfl (wP rfl (wl_nil (we_then (wc_keep [6] (S' := [_]) rfl (wc_ret ?_)))))))
   have hE := (Option.some.inj hm).symm
   obtain ⟨hE0, hE1⟩ := Prod.mk.inj hE
   clear hE
   replace hE0 := hE0.symm
   subst hE0
   replace hE1 := hE1.symm
   subst hE1
   refine ret_one (Hr := [_,_]) [0,1] Try.results29 (res_tmp rfl) ⟨rfl, rfl, rfl⟩ (asK [] rfl) rfl rfl (.inl rfl)
theorem w_ropewalkkit_SameTexts_s (N : Nat) (qp0 : Option Addr) (qc1 : Nat) (l0 : List ByteArray) (qp2 : Option Addr) (qc3 : Nat) (l1 : List ByteArray) (o0 : Bool) (hm : m_ropewalkkit_SameTexts N l0 l1 = some o0) : Spec Try.prog 14 [.slice qp0 l0.length qc1, .slice qp2 l1.length qc3] [.sli 1 R_str qp0 qc1 l0, .sli 1 R_str qp2 qc3 l1] [] (fun v Φr Hr => v = .bool o0 ∧ Φr = [] ∧ Hr = []) := by
 unfold m_ropewalkkit_SameTexts at hm
 refine spec_of Try.func14 rfl Try.ntmps14 rfl (S := [_,_]) rfl (fun C => (wc_seq (wc_region (wP rfl (wl_nil (we_then (wc_keep [0,1] (S' := [_,_]) rfl (wc_seq (wc_seq (wc_region (wP rfl (wN rfl tE_26 (wP rfl (wN rfl tE_26 ?_))))))))))))))
 refine wP rfl (wl_as (d := 10) (v' := .bool (l0.length != l1.length)) (S' := [_,_,_,_,_,_]) rfl rfl (natne (a := l0.length) (b := l1.length)) (wl_nil (we_then (wc_keep [10,0,1] (S' := [_,_,_]) rfl ?_))))
 refine wc_cond rfl (fun hb10 => ?_) (fun hb10 => ?_)
 ·
  replace hm := iteT hm hb10
  refine wc_keep [] (S' := []) rfl (wc_seq (wc_region (wP rfl (wl_nil (we_then (wc_ret (we_then_ret ?_)))))))
  have hE := (Option.some.inj hm).symm
  replace hE := hE.symm
  subst hE
  refine ret_one (Hr := []) [] Try.results14 (res_tmp rfl) ⟨rfl, rfl, rfl⟩ (asK [] rfl) rfl rfl (.inl rfl)
 ·
  replace hm := iteF hm hb10
  refine wc_keep [0,1] (S' := [_,_]) rfl (wc_skip (we_then (wc_seq ?_)))
  obtain ⟨bj_1, hm, hLj_1⟩ := bindS_some hm
  refine wc_cut (σ := Unit) (fun _ => bj_1 = .inl ()) (fun _ => []) (fun _ => []) (fun _ => []) ?_ ?_
  ·
   refine wc_seq (wc_region (wP rfl (wl_nil (we_then (wc_block (wc_loop (σ := Nat × Nat) (fun (nu1, u1_5) => iter (m_ropewalkkit_SameTexts_L1 N l0 l1) nu1 u1_5 = some bj_1) (fun (nu1, u1_5) => nu1) (fun (nu1, u1_5) => [(5, .int .i64 ((u1_5 : Nat) : Int)), (0, .slice qp0 l0.length qc1), (1, .slice qp2 l1.length qc3)]) (fun (nu1, u1_5) => [.sli 1 R_str qp0 qc1 l0, .sli 1 R_str qp2 qc3 l1]) (fun (nu1, u1_5) => []) (N, 0) hm [5,0,1] rfl (asK [0,1] rfl) rfl (fun s_ hm => ?_)))))))
   obtain ⟨nu1, u1_5⟩ := s_
   try dsimp only at hm ⊢
   obtain ⟨mu1, bu1, hnu1, hq, hLu1⟩ := iter_some hm
   clear hm
   subst hnu1
   replace hm := hq
   clear hq
   unfold m_ropewalkkit_SameTexts_L1 at hm
   try dsimp only at hm
   refine wc_seq (wc_seq (wc_region (wP rfl (wP rfl (wN rfl tE_26 (wP rfl (wl_as (d := 14) (v' := .bool (decide (u1_5 < l0.length))) (S' := [_,_,_,_,_,_]) rfl rfl (natlt (a := u1_5) (b := l0.length)) (wl_nil (we_then (wc_keep [14,5,0,1] (S' := [_,_,_,_]) rfl ?_))))))))))
   refine wc_cond rfl (fun hb14 => ?_) (fun hb14 => ?_)
   ·
    replace hm := iteT hm hb14
    refine wc_keep [5,0,1] (S' := [_,_,_]) rfl (wc_skip (we_then (wc_seq (wc_block (wc_seq ?_)))))
    obtain ⟨x19, hx19, hm⟩ := bindO_some hm
    obtain ⟨x23, hx23, hm⟩ := bindO_some hm
    refine wc_draw [0,1,2,3,4,5,6,7,8] rfl rfl (fun hok => (xP hok 0 rfl (xP hok 1 rfl (wx_indexA hok 2 0 u1_5 rfl rfl rfl (freshS_eq rfl) rfl rfl rfl rfl rfl rfl hx19 tE_26 tS_9 (fun b19 q19 cs19 hlx19 => (wx_openR R_str_opens 1 rfl (fun r19 er19 _ => ?_)))))))
    subst er19
    refine wx_load hok 3 0 0 rfl rfl rfl (freshS_eq rfl) rfl rfl rfl rfl (cs := [_]) rfl tS_9 tA_9 rfl rfl (xP hok 4 rfl (xP hok 5 rfl (wx_indexA hok 6 3 u1_5 rfl rfl rfl (freshS_eq rfl) rfl rfl rfl rfl rfl rfl hx23 tE_26 tS_9 (fun b23 q23 cs23 hlx23 => (wx_openR R_str_opens 1 rfl (fun r23 er23 _ => ?_))))))
    subst er23
    refine wx_load hok 7 0 0 rfl rfl rfl (freshS_eq rfl) rfl rfl rfl rfl (cs := [_]) rfl tS_9 tA_9 rfl rfl (xP hok 8 rfl (wx_done hok rfl (we_then (wc_keep [25,5,0,1] (S' := [_,_,_,_]) rfl ?_))))
    refine wc_cond rfl (fun hb25 => ?_) (fun hb25 => ?_)
    ·
     replace hm := iteT hm hb25
     refine wc_keep [] (S' := []) rfl (wc_seq (wc_region (wP rfl (wl_nil (we_then (wc_ret (we_block_ret (we_then_ret (we_then_ret (we_block_ret (we_then_ret ?_)))))))))))
     have hE := (Option.some.inj hm).symm
     replace hE := link_inr hLu1 hE
     replace hE := link_inr hLj_1 hE
     replace hE := hE.symm
     subst hE
     refine ret_one (Hr := []) [] Try.results14 (res_tmp rfl) ⟨rfl, rfl, rfl⟩ (asK [] rfl) rfl rfl (.inl rfl)
    ·
     replace hm := iteF hm hb25
     refine wc_keep [5,0,1] (S' := [_,_,_]) rfl (wc_skip (we_block_normal (we_then (wc_region (wP rfl (wP rfl ?_))))))
     obtain ⟨hg16, hm⟩ := gd_some hm
     refine wl_as (d := 16) (v' := .int .i64 ((u1_5 + 1 : Nat) : Int)) (S' := [_,_,_,_]) rfl rfl (nat_add (a := u1_5) (b := 1) hg16) (wl_pure (S' := [_,_,_,_]) rfl rfl rfl rfl rfl (wl_nil ?_))
     have hE := (Option.some.inj hm).symm
     replace hE := link_inl hLu1 hE
     refine we_roundK (_, u1_5 + 1) (Nat.lt_succ_self _) hE [5,0,1] rfl (asK [4,5] rfl) rfl
   ·
    replace hm := iteF hm hb14
    refine wc_keep [] (S' := []) rfl (wc_exit (we_then_exit (we_then_exit (we_block_hit ?_))))
    have hE := (Option.some.inj hm).symm
    replace hE := link_inr hLu1 hE
    refine we_join () hE [] rfl (asK [] rfl) rfl
  ·
   rintro _ hE
   try dsimp only
   have hm := link_inl hLj_1 hE
   try dsimp only at hm
   refine wc_seq (wc_region (wP rfl (wl_nil (we_then (wc_ret ?_)))))
   have hE := (Option.some.inj hm).symm
   replace hE := hE.symm
   subst hE
   refine ret_one (Hr := []) [] Try.results14 (res_tmp rfl) ⟨rfl, rfl, rfl⟩ (asK [] rfl) rfl rfl (.inl rfl)
theorem w_ropewalkkit_Pick_s (N : Nat) (a0 : Int) (a1 : Int) (o0 : Int) (hm : m_ropewalkkit_Pick N a0 a1 = some o0) : Spec Try.prog 23 [.int .i64 a0, .int .i64 a1] [] [] (fun v Φr Hr => v = .int .i64 o0 ∧ Φr = [] ∧ Hr = []) := by
 unfold m_ropewalkkit_Pick at hm
 refine spec_of Try.func23 rfl Try.ntmps23 rfl (S := [_,_]) rfl (fun C => (wc_seq (wc_region (wP rfl (wl_nil (we_then (wc_keep [0,1] (S' := [_,_]) rfl (wc_seq (wc_seq (wc_region (wP rfl (wP rfl (wl_nil (we_then ?_))))))))))))))
 refine wc_keep [6,0,1] (S' := [_,_,_]) rfl ?_
 refine wc_cond rfl (fun hb6 => ?_) (fun hb6 => ?_)
 ·
  replace hm := iteT hm hb6
  refine wc_keep [] (S' := []) rfl (wc_seq (wc_region (wP rfl (wl_nil (we_then (wc_ret (we_then_ret ?_)))))))
  have hE := (Option.some.inj hm).symm
  replace hE := hE.symm
  subst hE
  refine ret_one (Hr := []) [] Try.results23 (res_tmp rfl) ⟨rfl, rfl, rfl⟩ (asK [] rfl) rfl rfl (.inl rfl)
 ·
  replace hm := iteF hm hb6
  refine wc_keep [0,1] (S' := [_,_]) rfl (wc_skip (we_then (wc_seq (wc_region (wP rfl (wP rfl ?_))))))
  obtain ⟨hg9, hm⟩ := gd_some hm
  refine wl_bin rfl rfl rfl (freshS_eq rfl) rfl rfl rfl (run_rem hg9) (wl_pure (S' := [_,_,_,_]) rfl rfl rfl rfl rfl (wl_nil (we_then (wc_keep [0,1] (S' := [_,_]) rfl (wc_seq ?_)))))
  obtain ⟨bj_1, hm, hLj_1⟩ := bindO_some hm
  refine wc_cut (σ := Int) (fun j_1_0 => bj_1 = j_1_0) (fun j_1_0 => [(0, .int .i64 j_1_0)]) (fun j_1_0 => []) (fun j_1_0 => []) ?_ ?_
  ·
   refine wc_seq (wc_region (wP rfl (wP rfl (wl_nil (we_then (wc_keep [11,0,1] (S' := [_,_,_]) rfl ?_))))))
   refine wc_cond rfl (fun hb11 => ?_) (fun hb11 => ?_)
   ·
    replace hm := iteT hm hb11
    refine wc_keep [0,1] (S' := [_,_]) rfl (wc_region (wP rfl (wP rfl (wP rfl ?_))))
    obtain ⟨hg14, hm⟩ := gd_some hm
    refine wl_as (d := 14) (v' := .int .i64 ((Int.tmod a0 a1) + a1)) (S' := [_,_,_,_]) rfl rfl (i64_in hg14) (wl_pure (S' := [_,_,_,_]) rfl rfl rfl rfl rfl (wl_nil ?_))
    have hE := (Option.some.inj hm).symm
    refine we_join ((Int.tmod a0 a1) + a1) hE [0] rfl (asK [] rfl) rfl
   ·
    replace hm := iteF hm hb11
    refine wc_keep [0] (S' := [_]) rfl (wc_skip ?_)
    have hE := (Option.some.inj hm).symm
    refine we_join (Int.tmod a0 a1) hE [0] rfl (asK [] rfl) rfl
  ·
   rintro j_1_0 hE
   try dsimp only
   have hm := hLj_1
   rw [hE] at hm
   refine wc_seq (wc_region (wP rfl (wP rfl (wl_nil (we_then (wc_keep [4] (S' := [_]) rfl (wc_ret ?_)))))))
   have hE := (Option.some.inj hm).symm
   replace hE := hE.symm
   subst hE
   refine ret_one (Hr := []) [] Try.results23 (res_tmp rfl) ⟨rfl, rfl, rfl⟩ (asK [] rfl) rfl rfl (.inl rfl)
theorem w_disk_Disk_Cut_1_s (N : Nat) (qp0 : Option Addr) (qc1 : Nat) (l0 : List Int) (qp2 : Option Addr) (qc3 : Nat) (l1 : List Int) (qg4 : Nat) (a2 : Int) (o2 : List Int) (o5 : List Int) (o6 : Nat) (hm : m_disk_Disk_Cut_1 N l0 l1 a2 = some (o2, o5, o6)) : Spec Try.prog 59 [.agg #[.slice qp0 l0.length qc1, .slice qp2 l1.length qc3], .pointer (some ⟨qg4,0, none⟩)] [.sli 1 R_u8 qp0 qc1 l0, .sli 1 R_u8 qp2 qc3 l1] [.blk qg4 [.int .i64 a2] 3] (fun v Φr Hr => ∃ (o0 : Option Addr) (o1 : Nat) (o3 : Option Addr) (o4 : Nat), v = .tuple #[.agg #[.slice o0 o2.length o1, .slice o3 o5.length o4], .int .i64 ((o6 : Nat) : Int)] ∧ Φr = [.sli 1 R_u8 o0 o1 o2, .sli 1 R_u8 o3 o4 o5] ∧ Hr = [.blk qg4 [.int .i64 a2] 3]) := by
 unfold m_disk_Disk_Cut_1 at hm
 refine spec_of Try.func59 rfl Try.ntmps59 rfl (S := [_,_]) rfl (fun C => (wc_seq (wc_region (wB rfl (fun g2 => (wl_alloc rfl rfl rfl (freshS_eq rfl) rfl tZ_69 rfl (fun g3 => (wP rfl (wl_nil (we_then (wc_keep [3,2,1] (S' := [_,_,_]) rfl (wc_seq (wc_seq ?_)))))))))))))
 obtain ⟨bj_1, hm, hLj_1⟩ := bindO_some hm
 refine wc_cut (σ := Bool) (fun j_1_12 => bj_1 = j_1_12) (fun j_1_12 => [(3, .pointer (some ⟨g3,0, none⟩)), (2, .pointer (some ⟨g2,0, none⟩)), (1, .pointer (some ⟨qg4,0, none⟩)), (12, .bool j_1_12)]) (fun j_1_12 => [.sli 1 R_u8 qp0 qc1 l0, .sli 1 R_u8 qp2 qc3 l1]) (fun j_1_12 => [.blk g3 [.slice none 0 0, .slice none 0 0] 69, .blk g2 [.slice qp0 l0.length qc1, .slice qp2 l1.length qc3] 69, .blk qg4 [.int .i64 a2] 3]) ?_ ?_
 ·
  rcases ite_some hm with ⟨hs7, hm⟩ | ⟨hs7, hm⟩
  ·
   refine wc_draw [0,1,2,3,4,6,7] rfl rfl (fun hok => (wx_loadH hok 0 2 0 rfl rfl rfl (freshS_eq rfl) rfl rfl rfl rfl (cs := [_]) rfl tS_3 tA_3 rfl rfl (xP hok 1 rfl (xP hok 2 rfl (wx_as (d := 7) (v' := .bool true) (S' := [_,_,_,_,_]) rfl rfl (bool_is hs7) (xO hok 3 rfl (xO hok 4 rfl (xS hok 5 rfl (wO rfl (wl_nil (we_x [0,1] [2] rfl rfl (xO hok 6 rfl (xP hok 7 rfl (wx_done hok rfl ?_))))))))))))))
   have hE := (Option.some.inj hm).symm
   refine we_join true hE [3,2,1,12] rfl (asK [0,1] rfl) rfl
  ·
   obtain ⟨_, hc10, hm⟩ := bindO_some hm
   try dsimp only at hm
   refine wc_draw [0,1,2,3,4,6,7] rfl rfl (fun hok => (wx_loadH hok 0 2 0 rfl rfl rfl (freshS_eq rfl) rfl rfl rfl rfl (cs := [_]) rfl tS_3 tA_3 rfl rfl (xP hok 1 rfl (xP hok 2 rfl (wx_as (d := 7) (v' := .bool false) (S' := [_,_,_,_,_]) rfl rfl (bool_is hs7) (wx_loadH hok 3 2 0 rfl rfl rfl (freshS_eq rfl) rfl rfl rfl rfl (cs := [_]) rfl tS_3 tA_3 rfl rfl (wx_loadH hok 4 1 0 rfl rfl rfl (freshS_eq rfl) rfl rfl rfl rfl (cs := [_,_]) rfl tS_69 tA_69 rfl rfl (xS hok 5 rfl (wC [] [0,1,2] rfl fn_40 rfl (w_disk_rows_size_s N qp0 qc1 l0 qp2 qc3 l1 hc10) (asK [0,1] rfl) rfl (H' := [_,_,_]) rfl ?_)))))))))
   rintro _ _ _ ⟨rfl, rfl, rfl⟩
   refine wl_nil (we_x [0,1] [2,2] rfl rfl (xP hok 6 rfl (xP hok 7 rfl (wx_done hok rfl ?_))))
   have hE := (Option.some.inj hm).symm
   refine we_join (decide (a2 > ((l0.length + l1.length : Nat) : Int))) hE [3,2,1,12] rfl (asK [0,1] rfl) rfl
 ·
  rintro j_1_12 hE
  try dsimp only
  have hm := hLj_1
  rw [hE] at hm
  refine wc_cond rfl (fun hb12 => ?_) (fun hb12 => ?_)
  ·
   replace hm := iteT hm hb12
   refine wc_keep [3,2] (S' := [_,_]) rfl (wc_seq (wc_region (wl_loadH 1 0 rfl rfl rfl (freshS_eq rfl) rfl rfl rfl (cs := [_,_]) rfl tS_69 tA_69 rfl rfl (wS 0 0 rfl tS_69 (all' := [_,_]) rfl (H' := [_,_,_]) rfl (wP rfl (wl_nil (we_then (wc_keep [4,3] (S' := [_,_]) rfl (wc_ret (we_then_ret ?_))))))))))
   have hE := (Option.some.inj hm).symm
   obtain ⟨hE0, hF1⟩ := Prod.mk.inj hE
   obtain ⟨hE1, hE2⟩ := Prod.mk.inj hF1
   clear hE hF1
   replace hE0 := hE0.symm
   subst hE0
   replace hE1 := hE1.symm
   subst hE1
   replace hE2 := hE2.symm
   subst hE2
   refine ret_two (Hr := [_]) [2] Try.results59 (res_cell 0 rfl rfl tS_69 tA_69 rfl rfl) (res_tmp rfl) ⟨qp0, qc1, qp2, qc3, rfl, rfl, rfl⟩ (asK [0,1] rfl) rfl rfl (.inl rfl)
  ·
   replace hm := iteF hm hb12
   refine wc_keep [3,2,1] (S' := [_,_,_]) rfl (wc_skip (we_then (wc_seq ?_)))
   obtain ⟨v15, hc15, hm⟩ := bindO_some hm
   obtain ⟨hn18_1, hm⟩ := gd_some hm
   obtain ⟨hn18_2, hm⟩ := gd_some hm
   obtain ⟨hn18_1, hm⟩ := gd_some hm
   obtain ⟨hn18_2, hm⟩ := gd_some hm
   obtain ⟨hg18, hm⟩ := gd_some hm
   refine wc_draw [0,2,3,5] rfl rfl (fun hok => (wx_loadH hok 0 1 0 rfl rfl rfl (freshS_eq rfl) rfl rfl rfl rfl (cs := [_,_]) rfl tS_69 tA_69 rfl rfl (wx_loadH hok 2 2 0 rfl rfl rfl (freshS_eq rfl) rfl rfl rfl rfl (cs := [_]) rfl tS_3 tA_3 rfl rfl (wx_loadH hok 3 2 0 rfl rfl rfl (freshS_eq rfl) rfl rfl rfl rfl (cs := [_]) rfl tS_3 tA_3 rfl rfl (xS hok 1 rfl (wC [] [0,1,2] rfl fn_43 rfl (w_disk_rows_whole_s N qp0 qc1 l0 qp2 qc3 l1 _ hc15) (asK [0,1] rfl) rfl (H' := [_,_,_]) rfl ?_))))))
   rintro _ _ _ ⟨p15_0, c15_1, c15_2, rfl, rfl, rfl⟩
   refine wl_nil (we_x [0,1] [3,3] rfl rfl (xS hok 4 rfl (wl_ownLen 0 rfl (fun hzc15_2 _ => ?_))))
   subst hzc15_2
   refine wl_freeze 0 rfl (H' := [_,_,_]) rfl (wl_fact (.sli 1 R_u8 p15_0 c15_1 v15) (fun F w hφ => own_sli (hφ _ (mem_at (k := 0) rfl))) (wl_sliTo3 0 rfl rfl rfl (freshS_eq rfl) rfl rfl rfl rfl (toNat_eq hn18_1) rfl (toNat_eq hn18_2) tE_27 tS_5 hg18.1 hg18.2 (fun p18 => (wl_nil (we_x [3,4] [1] rfl rfl (wx_build hok 5 rfl rfl rfl (freshS_eq rfl) rfl rfl tZ_69 tP_69 rfl (out := [_,_]) rfl (xS hok 6 rfl (wS 0 0 rfl tS_69 (all' := [_,_]) rfl (H' := [_,_,_]) rfl (wl_nil (we_x [0,1,2,3,4] [] rfl rfl (xS hok 7 rfl (wP rfl (wl_nil (we_x [0,1,2,3,4] [] rfl rfl ?_))))))))))))))
   refine wx_done hok rfl (we_then (wc_keep [4,3] (S' := [_,_]) rfl (wc_ret ?_)))
   have hE := (Option.some.inj hm).symm
   obtain ⟨hE0, hF1⟩ := Prod.mk.inj hE
   obtain ⟨hE1, hE2⟩ := Prod.mk.inj hF1
   clear hE hF1
   replace hE0 := hE0.symm
   subst hE0
   replace hE1 := hE1.symm
   subst hE1
   replace hE2 := hE2.symm
   subst hE2
   refine we_fact (.sli 1 R_u8 none 0 ([] : List Int)) (fun _ _ _ => sli_none) ?_
   refine ret_two (Hr := [_]) [2] Try.results59 (res_cell 0 rfl rfl tS_69 tA_69 rfl rfl) (res_tmp rfl) ⟨p18, a2.toNat, none, 0, rfl, rfl, rfl⟩ (asK [1,0] rfl) rfl rfl (.inl rfl)
theorem w_disk_Disk_turn_v14_s (N : Nat) (qg0 : Nat) (a0 : Int) (qb1 : Nat) (e1 : List (ByteArray × Disk_rowsD)) (a2 : ByteArray) (qg2 : Nat) (a3 : Int) (o0 : Nat) (o1 : List (ByteArray × Disk_rowsD)) (hm : m_disk_Disk_turn_v14 N a0 e1 a2 a3 = some (o0, o1)) : Spec Try.prog 41 [.pointer (some ⟨qg0,0, none⟩), .string a2, .func (.func 59) #[] #[.pointer (some ⟨qg2,0, none⟩)]] [] [.blk qg0 [.int .i64 a0, .map (some qb1)] 59, mapP (keyStr (tStr_run tT_9)) true R_Disk_rowsD qb1 e1, .blk qg2 [.int .i64 a3] 3] (fun v Φr Hr => v = .int .i64 ((o0 : Nat) : Int) ∧ Φr = [] ∧ Hr = [.blk qg0 [.int .i64 a0, .map (some qb1)] 59, mapP (keyStr (tStr_run tT_9)) true R_Disk_rowsD qb1 o1, .blk qg2 [.int .i64 a3] 3]) := by
 unfold m_disk_Disk_turn_v14 at hm
 refine spec_of Try.func41 rfl Try.ntmps41 rfl (S := [_,_,_]) rfl (fun C => (wc_seq (wc_region (wP rfl (wl_nil (we_then (wc_keep [0,1,2] (S' := [_,_,_]) rfl (wc_seq (wc_seq (wc_region (wP rfl ?_)))))))))))
 obtain ⟨_, hc13, hm⟩ := bindO_some hm
 try dsimp only at hm
 refine wC [0,1] [2] rfl fn_35 rfl (w_disk_Disk_is_s N qg0 a0 qb1 e1 hc13) (asK [] rfl) rfl (H' := [_]) rfl ?_
 rintro _ _ _ ⟨rfl, rfl, rfl⟩
 refine wP rfl (wl_nil (we_then (wc_keep [7,0,1,2] (S' := [_,_,_,_]) rfl (wc_seq (wc_region (wP rfl (wP rfl (wl_as (d := 15) (v' := .bool false) (S' := [_,_,_,_,_]) rfl rfl rfl (wl_nil (we_then (wc_keep [15,7,0,1,2] (S' := [_,_,_,_,_]) rfl (wc_false rfl (wc_keep [0,1,2] (S' := [_,_,_]) rfl ?_)))))))))))))
 refine wc_skip (we_then (wc_seq ?_))
 obtain ⟨bj_1, hm, hLj_1⟩ := bindO_some hm
 refine wc_cut (σ := (List Int) × (List Int) × Bool × Nat × (Option Addr) × Nat × (Option Addr) × Nat) (fun (j_1_8_f0_l, j_1_8_f1_l, j_1_9, j_1_8_g, j_1_8_f0_p, j_1_8_f0_c, j_1_8_f1_p, j_1_8_f1_c) => bj_1 = (j_1_8_f0_l, j_1_8_f1_l, j_1_9)) (fun (j_1_8_f0_l, j_1_8_f1_l, j_1_9, j_1_8_g, j_1_8_f0_p, j_1_8_f0_c, j_1_8_f1_p, j_1_8_f1_c) => [(0, .pointer (some ⟨qg0,0, none⟩)), (1, .string a2), (2, .func (.func 59) #[] #[.pointer (some ⟨qg2,0, none⟩)]), (8, .pointer (some ⟨j_1_8_g, 0, none⟩)), (9, .bool j_1_9)]) (fun (j_1_8_f0_l, j_1_8_f1_l, j_1_9, j_1_8_g, j_1_8_f0_p, j_1_8_f0_c, j_1_8_f1_p, j_1_8_f1_c) => [.sli 1 R_u8 j_1_8_f0_p j_1_8_f0_c j_1_8_f0_l, .sli 1 R_u8 j_1_8_f1_p j_1_8_f1_c j_1_8_f1_l]) (fun (j_1_8_f0_l, j_1_8_f1_l, j_1_9, j_1_8_g, j_1_8_f0_p, j_1_8_f0_c, j_1_8_f1_p, j_1_8_f1_c) => [.blk qg0 [.int .i64 a0, .map (some qb1)] 59, mapP (keyStr (tStr_run tT_9)) true R_Disk_rowsD qb1 e1, .blk qg2 [.int .i64 a3] 3, .blk j_1_8_g [.slice j_1_8_f0_p j_1_8_f0_l.length j_1_8_f0_c, .slice j_1_8_f1_p j_1_8_f1_l.length j_1_8_f1_c] 69]) ?_ ?_
 ·
  refine wc_region (wP rfl (wP rfl (wF rfl tF_59_1 (wD 0 1 rfl tS_57 tA_57 rfl (wP rfl ?_)))))
  rcases optE_some hm with ⟨hq23, hm⟩ | ⟨x23, hq23, hm⟩
  ·
   refine wl_lookNoP (i := a2) 1 rfl rfl rfl (freshS_eq rfl) rfl rfl rfl rfl tZ_69 tM_57 trivial hq23 (v := .tuple #[.agg #[.slice none 0 0, .slice none 0 0], .bool false]) rfl (wP rfl (wP rfl (wP rfl (wl_alloc rfl rfl rfl (freshS_eq rfl) rfl tZ_69 rfl (fun g8 => (wS 0 0 rfl tS_69 (all' := [_,_]) rfl (H' := [_,_,_,_]) rfl (wP rfl (wl_nil ?_))))))))
   have hE := (Option.some.inj hm).symm
   refine we_fact (.sli 1 R_u8 none 0 ([] : List Int)) (fun _ _ _ => sli_none) (we_fact (.sli 1 R_u8 none 0 ([] : List Int)) (fun _ _ _ => sli_none) (we_pick [1,2,3,0] rfl (H' := [_,_,_,_]) rfl ?_))
   refine we_join ([],[], false, g8, none, 0, none, 0) hE [0,1,2,8,9] rfl (asK [1,0] rfl) rfl
  ·
   refine wl_lookYesP (i := a2) (a := x23) R_Disk_rowsD_opens 1 rfl rfl rfl (freshS_eq rfl) rfl rfl rfl rfl tM_57 trivial hq23 (u := fun r23 => .agg #[.slice r23.1.1 x23.firm.length r23.1.2, .slice r23.2.1 x23.loose.length r23.2.2]) (fun _ => rfl) (v := fun r23 => .tuple #[.agg #[.slice r23.1.1 x23.firm.length r23.1.2, .slice r23.2.1 x23.loose.length r23.2.2], .bool true]) (fun _ => rfl) (fun r23 _ => (wP rfl (wP rfl (wP rfl (wl_alloc rfl rfl rfl (freshS_eq rfl) rfl tZ_69 rfl (fun g8 => (wS 0 0 rfl tS_69 (all' := [_,_]) rfl (H' := [_,_,_,_]) rfl (wP rfl (wl_nil ?_)))))))))
   have hE := (Option.some.inj hm).symm
   refine we_pick [1,2,3,0] rfl (H' := [_,_,_,_]) rfl ?_
   refine we_join (x23.firm, x23.loose, true, g8, r23.1.1, r23.1.2, r23.2.1, r23.2.2) hE [0,1,2,8,9] rfl (asK [0,1] rfl) rfl
 ·
  rintro ⟨j_1_8_f0_l, j_1_8_f1_l, j_1_9, j_1_8_g, j_1_8_f0_p, j_1_8_f0_c, j_1_8_f1_p, j_1_8_f1_c⟩ hE
  try dsimp only
  have hm := hLj_1
  rw [hE] at hm
  try dsimp only at hm
  refine wc_seq (wc_seq (wc_region (wP rfl (wP rfl (wl_nil (we_then (wc_keep [27,0,1,2,8] (S' := [_,_,_,_,_]) rfl ?_)))))))
  refine wc_cond rfl (fun hb27 => ?_) (fun hb27 => ?_)
  ·
   replace hm := iteT hm hb27
   refine wc_keep [] (S' := []) rfl (wc_seq (wc_region (wP rfl (wl_nil (we_then (wc_ret (we_then_ret ?_)))))))
   have hE := (Option.some.inj hm).symm
   obtain ⟨hE0, hE1⟩ := Prod.mk.inj hE
   clear hE
   replace hE0 := hE0.symm
   subst hE0
   replace hE1 := hE1.symm
   subst hE1
   refine ret_one (Hr := [_,_,_]) [0,1,2] Try.results41 (res_tmp rfl) ⟨rfl, rfl, rfl⟩ (asK [] rfl) rfl rfl (.inl rfl)
  ·
   replace hm := iteF hm hb27
   refine wc_keep [0,1,2,8] (S' := [_,_,_,_]) rfl (wc_skip (we_then (wc_seq (wc_region (wP rfl (wl_loadH 3 0 rfl rfl rfl (freshS_eq rfl) rfl rfl rfl (cs := [_,_]) rfl tS_69 tA_69 rfl rfl ?_))))))
   obtain ⟨⟨v31_0, v31_1, v31_2⟩, hc31, hm⟩ := bindO_some hm
   try dsimp only at hm
   refine wl_callDyn [2] [0,1,3] rfl rfl rfl (freshS_eq rfl) rfl rfl rfl fn_59 rfl rfl (w_disk_Disk_Cut_1_s N j_1_8_f0_p j_1_8_f0_c j_1_8_f0_l j_1_8_f1_p j_1_8_f1_c j_1_8_f1_l qg2 a3 _ _ _ hc31) (asK [0,1] rfl) rfl (H' := [_,_,_]) rfl ?_
   rintro _ _ _ ⟨p31_0, c31_1, p31_2, c31_3, rfl, rfl, rfl⟩
   refine wP rfl (wP rfl (wP rfl (wl_alloc rfl rfl rfl (freshS_eq rfl) rfl tZ_69 rfl (fun g10 => (wS 0 0 rfl tS_69 (all' := [_,_]) rfl (H' := [_,_,_,_,_]) rfl (wP rfl (wl_nil (we_then (wc_keep [11,10,0,1] (S' := [_,_,_,_]) rfl (wc_seq ?_))))))))))
   obtain ⟨bj_2, hm, hLj_2⟩ := bindO_some hm
   refine wc_cut (σ := List (ByteArray × Disk_rowsD)) (fun j_2_r0_f1_m => bj_2 = j_2_r0_f1_m) (fun j_2_r0_f1_m => [(11, .int .i64 ((v31_2 : Nat) : Int))]) (fun j_2_r0_f1_m => []) (fun j_2_r0_f1_m => [.blk qg0 [.int .i64 a0, .map (some qb1)] 59, mapP (keyStr (tStr_run tT_9)) true R_Disk_rowsD qb1 j_2_r0_f1_m, .blk qg2 [.int .i64 a3] 3]) ?_ ?_
   ·
    refine wc_seq (wc_region (wP rfl (wP rfl (wl_as (d := 35) (v' := .bool (v31_2 == 0)) (S' := [_,_,_,_,_]) rfl rfl (nateq (a := v31_2) (b := 0)) (wl_nil (we_then (wc_keep [35,11,10,0,1] (S' := [_,_,_,_,_]) rfl ?_)))))))
    refine wc_cond rfl (fun hb35 => ?_) (fun hb35 => ?_)
    ·
     replace hm := iteT hm hb35
     refine wc_keep [11,10,0,1] (S' := [_,_,_,_]) rfl (wc_draw [0,1,2,3,4,5] rfl rfl (fun hok => (xP hok 0 rfl (xP hok 1 rfl (wx_fieldAddr hok 2 rfl rfl rfl (freshS_eq rfl) rfl rfl rfl tF_59_1 (wx_loadH hok 3 2 1 rfl rfl rfl (freshS_eq rfl) rfl rfl rfl rfl (cs := [_]) rfl tS_57 tA_57 rfl rfl (xP hok 4 rfl (wx_loadH hok 5 0 0 rfl rfl rfl (freshS_eq rfl) rfl rfl rfl rfl (cs := [_,_]) rfl tS_69 tA_69 rfl rfl (xS hok 6 rfl (wl_mapPutP (i := a2) (u := (⟨v31_0, v31_1⟩ : Disk_rowsD)) (cs := [.slice p31_0 v31_0.length c31_1, .slice p31_2 v31_1.length c31_3]) ltB 3 rfl rfl (.inl rfl) rfl rfl rfl rfl tM_57 trivial rfl (fun F w hφ => ⟨((p31_0, c31_1), (p31_2, c31_3)), rfl, (ask_cons (hφ _ (mem_at (k := 0) rfl)) (ask_cons (hφ _ (mem_at (k := 1) rfl)) ask_nil))⟩) (H' := [.blk g10 [.slice p31_0 v31_0.length c31_1, .slice p31_2 v31_1.length c31_3] 69, .blk qg2 [.int .i64 a3] 3, .blk qg0 [.int .i64 a0, .map (some qb1)] 59, mapP (keyStr (tStr_run tT_9)) true R_Disk_rowsD qb1 (mputP ltB a2 (⟨v31_0, v31_1⟩ : Disk_rowsD) e1), .blk j_1_8_g [.slice j_1_8_f0_p j_1_8_f0_l.length j_1_8_f0_c, .slice j_1_8_f1_p j_1_8_f1_l.length j_1_8_f1_c] 69]) rfl (wl_nil (we_x [0,1,2,3] [] rfl rfl (wx_done hok rfl ?_)))))))))))))
     have hE := (Option.some.inj hm).symm
     refine we_pick [2,3,1] rfl (H' := [_,_,_]) rfl ?_
     refine we_join (mputP ltB a2 (⟨v31_0, v31_1⟩ : Disk_rowsD) e1) hE [11] rfl (asK [] rfl) rfl
    ·
     replace hm := iteF hm hb35
     refine wc_keep [11] (S' := [_]) rfl (wc_skip ?_)
     have hE := (Option.some.inj hm).symm
     refine we_pick [2,3,1] rfl (H' := [_,_,_]) rfl ?_
     refine we_join e1 hE [11] rfl (asK [] rfl) rfl
   ·
    rintro j_2_r0_f1_m hE
    try dsimp only
    have hm := hLj_2
    rw [hE] at hm
    refine wc_seq (wc_region (wP rfl (wP rfl (wl_nil (we_then (wc_keep [6] (S' := [_]) rfl (wc_ret ?_)))))))
    have hE := (Option.some.inj hm).symm
    obtain ⟨hE0, hE1⟩ := Prod.mk.inj hE
    clear hE
    replace hE0 := hE0.symm
    subst hE0
    replace hE1 := hE1.symm
    subst hE1
    refine ret_one (Hr := [_,_,_]) [0,1,2] Try.results41 (res_tmp rfl) ⟨rfl, rfl, rfl⟩ (asK [] rfl) rfl rfl (.inl rfl)
theorem w_disk_Disk_Cut_v3_s (N : Nat) (qg0 : Nat) (a0 : Int) (qb1 : Nat) (e1 : List (ByteArray × Disk_rowsD)) (a2 : ByteArray) (a3 : Int) (o0 : Nat) (o1 : List (ByteArray × Disk_rowsD)) (hm : m_disk_Disk_Cut_v3 N a0 e1 a2 a3 = some (o0, o1)) : Spec Try.prog 30 [.pointer (some ⟨qg0,0, none⟩), .string a2, .int .i64 a3] [] [.blk qg0 [.int .i64 a0, .map (some qb1)] 59, mapP (keyStr (tStr_run tT_9)) true R_Disk_rowsD qb1 e1] (fun v Φr Hr => v = .int .i64 ((o0 : Nat) : Int) ∧ Φr = [] ∧ Hr = [.blk qg0 [.int .i64 a0, .map (some qb1)] 59, mapP (keyStr (tStr_run tT_9)) true R_Disk_rowsD qb1 o1]) := by
 unfold m_disk_Disk_Cut_v3 at hm
 refine spec_of Try.func30 rfl Try.ntmps30 rfl (S := [_,_,_]) rfl (fun C => (wc_seq (wc_region (wB rfl (fun g5 => (wP rfl (wl_nil (we_then (wc_keep [5,0,1] (S' := [_,_,_]) rfl (wc_seq (wc_region (wP rfl (wP rfl (wl_makeFunc rfl rfl rfl (freshS_eq rfl) rfl rfl ?_))))))))))))))
 obtain ⟨⟨v10_0, v10_1⟩, hc10, hm⟩ := bindO_some hm
 try dsimp only at hm
 refine wC [1,2,0] [] rfl fn_41 rfl (w_disk_Disk_turn_v14_s N qg0 a0 qb1 e1 a2 g5 a3 _ _ hc10) (asK [] rfl) rfl (H' := []) rfl ?_
 rintro _ _ _ ⟨rfl, rfl, rfl⟩
 refine wP rfl (wl_nil (we_then (wc_keep [6] (S' := [_]) rfl (wc_ret ?_))))
 have hE := (Option.some.inj hm).symm
 obtain ⟨hE0, hE1⟩ := Prod.mk.inj hE
 clear hE
 replace hE0 := hE0.symm
 subst hE0
 replace hE1 := hE1.symm
 subst hE1
 refine ret_one (Hr := [_,_]) [0,1] Try.results30 (res_tmp rfl) ⟨rfl, rfl, rfl⟩ (asK [] rfl) rfl rfl (.inl rfl)
theorem w_disk_Disk_Remove_1_s (N : Nat) (qp0 : Option Addr) (qc1 : Nat) (l0 : List Int) (qp2 : Option Addr) (qc3 : Nat) (l1 : List Int)  (hm : m_disk_Disk_Remove_1 N l0 l1 = some ()) : Spec Try.prog 60 [.agg #[.slice qp0 l0.length qc1, .slice qp2 l1.length qc3]] [.sli 1 R_u8 qp0 qc1 l0, .sli 1 R_u8 qp2 qc3 l1] [] (fun v Φr Hr => v = .tuple #[.agg #[.slice qp0 l0.length qc1, .slice qp2 l1.length qc3], .int .i64 0] ∧ Φr = [.sli 1 R_u8 qp0 qc1 l0, .sli 1 R_u8 qp2 qc3 l1] ∧ Hr = []) := by
 unfold m_disk_Disk_Remove_1 at hm
 refine spec_of Try.func60 rfl Try.ntmps60 rfl (S := [_]) rfl (fun C => (wc_seq (wc_region (wB rfl (fun g1 => (wl_alloc rfl rfl rfl (freshS_eq rfl) rfl tZ_69 rfl (fun g2 => (wP rfl (wl_nil (we_then (wc_keep [2,1] (S' := [_,_]) rfl (wc_seq (wc_region (wl_loadH 1 0 rfl rfl rfl (freshS_eq rfl) rfl rfl rfl (cs := [_,_]) rfl tS_69 tA_69 rfl rfl (wS 0 0 rfl tS_69 (all' := [_,_]) rfl (H' := [_,_]) rfl (wP rfl ?_))))))))))))))))
 refine wl_nil (we_then (wc_keep [3,2] (S' := [_,_]) rfl (wc_ret ?_)))
 have hE := (Option.some.inj hm).symm
 refine ret_two (Hr := []) [] Try.results60 (res_cell 0 rfl rfl tS_69 tA_69 rfl rfl) (res_tmp rfl) ⟨rfl, rfl, rfl⟩ (asK [0,1] rfl) rfl rfl (.inl rfl)
theorem w_disk_Disk_turn_v15_s (N : Nat) (qg0 : Nat) (a0 : Int) (qb1 : Nat) (e1 : List (ByteArray × Disk_rowsD)) (a2 : ByteArray) (o0 : Nat) (o1 : List (ByteArray × Disk_rowsD)) (hm : m_disk_Disk_turn_v15 N a0 e1 a2 = some (o0, o1)) : Spec Try.prog 41 [.pointer (some ⟨qg0,0, none⟩), .string a2, .func (.func 60) #[] #[]] [] [.blk qg0 [.int .i64 a0, .map (some qb1)] 59, mapP (keyStr (tStr_run tT_9)) true R_Disk_rowsD qb1 e1] (fun v Φr Hr => v = .int .i64 ((o0 : Nat) : Int) ∧ Φr = [] ∧ Hr = [.blk qg0 [.int .i64 a0, .map (some qb1)] 59, mapP (keyStr (tStr_run tT_9)) true R_Disk_rowsD qb1 o1]) := by
 unfold m_disk_Disk_turn_v15 at hm
 refine spec_of Try.func41 rfl Try.ntmps41 rfl (S := [_,_,_]) rfl (fun C => (wc_seq (wc_region (wP rfl (wl_nil (we_then (wc_keep [0,1,2] (S' := [_,_,_]) rfl (wc_seq (wc_seq (wc_region (wP rfl ?_)))))))))))
 obtain ⟨_, hc13, hm⟩ := bindO_some hm
 try dsimp only at hm
 refine wC [0,1] [] rfl fn_35 rfl (w_disk_Disk_is_s N qg0 a0 qb1 e1 hc13) (asK [] rfl) rfl (H' := []) rfl ?_
 rintro _ _ _ ⟨rfl, rfl, rfl⟩
 refine wP rfl (wl_nil (we_then (wc_keep [7,0,1,2] (S' := [_,_,_,_]) rfl (wc_seq (wc_region (wP rfl (wP rfl (wl_as (d := 15) (v' := .bool false) (S' := [_,_,_,_,_]) rfl rfl rfl (wl_nil (we_then (wc_keep [15,7,0,1,2] (S' := [_,_,_,_,_]) rfl (wc_false rfl (wc_keep [0,1,2] (S' := [_,_,_]) rfl ?_)))))))))))))
 refine wc_skip (we_then (wc_seq ?_))
 obtain ⟨bj_1, hm, hLj_1⟩ := bindO_some hm
 refine wc_cut (σ := (List Int) × (List Int) × Bool × Nat × (Option Addr) × Nat × (Option Addr) × Nat) (fun (j_1_8_f0_l, j_1_8_f1_l, j_1_9, j_1_8_g, j_1_8_f0_p, j_1_8_f0_c, j_1_8_f1_p, j_1_8_f1_c) => bj_1 = (j_1_8_f0_l, j_1_8_f1_l, j_1_9)) (fun (j_1_8_f0_l, j_1_8_f1_l, j_1_9, j_1_8_g, j_1_8_f0_p, j_1_8_f0_c, j_1_8_f1_p, j_1_8_f1_c) => [(0, .pointer (some ⟨qg0,0, none⟩)), (1, .string a2), (2, .func (.func 60) #[] #[]), (8, .pointer (some ⟨j_1_8_g, 0, none⟩)), (9, .bool j_1_9)]) (fun (j_1_8_f0_l, j_1_8_f1_l, j_1_9, j_1_8_g, j_1_8_f0_p, j_1_8_f0_c, j_1_8_f1_p, j_1_8_f1_c) => [.sli 1 R_u8 j_1_8_f0_p j_1_8_f0_c j_1_8_f0_l, .sli 1 R_u8 j_1_8_f1_p j_1_8_f1_c j_1_8_f1_l]) (fun (j_1_8_f0_l, j_1_8_f1_l, j_1_9, j_1_8_g, j_1_8_f0_p, j_1_8_f0_c, j_1_8_f1_p, j_1_8_f1_c) => [.blk qg0 [.int .i64 a0, .map (some qb1)] 59, mapP (keyStr (tStr_run tT_9)) true R_Disk_rowsD qb1 e1, .blk j_1_8_g [.slice j_1_8_f0_p j_1_8_f0_l.length j_1_8_f0_c, .slice j_1_8_f1_p j_1_8_f1_l.length j_1_8_f1_c] 69]) ?_ ?_
 ·
  refine wc_region (wP rfl (wP rfl (wF rfl tF_59_1 (wD 0 1 rfl tS_57 tA_57 rfl (wP rfl ?_)))))
  rcases optE_some hm with ⟨hq23, hm⟩ | ⟨x23, hq23, hm⟩
  ·
   refine wl_lookNoP (i := a2) 1 rfl rfl rfl (freshS_eq rfl) rfl rfl rfl rfl tZ_69 tM_57 trivial hq23 (v := .tuple #[.agg #[.slice none 0 0, .slice none 0 0], .bool false]) rfl (wP rfl (wP rfl (wP rfl (wl_alloc rfl rfl rfl (freshS_eq rfl) rfl tZ_69 rfl (fun g8 => (wS 0 0 rfl tS_69 (all' := [_,_]) rfl (H' := [_,_,_]) rfl (wP rfl (wl_nil ?_))))))))
   have hE := (Option.some.inj hm).symm
   refine we_fact (.sli 1 R_u8 none 0 ([] : List Int)) (fun _ _ _ => sli_none) (we_fact (.sli 1 R_u8 none 0 ([] : List Int)) (fun _ _ _ => sli_none) (we_pick [1,2,0] rfl (H' := [_,_,_]) rfl ?_))
   refine we_join ([],[], false, g8, none, 0, none, 0) hE [0,1,2,8,9] rfl (asK [1,0] rfl) rfl
  ·
   refine wl_lookYesP (i := a2) (a := x23) R_Disk_rowsD_opens 1 rfl rfl rfl (freshS_eq rfl) rfl rfl rfl rfl tM_57 trivial hq23 (u := fun r23 => .agg #[.slice r23.1.1 x23.firm.length r23.1.2, .slice r23.2.1 x23.loose.length r23.2.2]) (fun _ => rfl) (v := fun r23 => .tuple #[.agg #[.slice r23.1.1 x23.firm.length r23.1.2, .slice r23.2.1 x23.loose.length r23.2.2], .bool true]) (fun _ => rfl) (fun r23 _ => (wP rfl (wP rfl (wP rfl (wl_alloc rfl rfl rfl (freshS_eq rfl) rfl tZ_69 rfl (fun g8 => (wS 0 0 rfl tS_69 (all' := [_,_]) rfl (H' := [_,_,_]) rfl (wP rfl (wl_nil ?_)))))))))
   have hE := (Option.some.inj hm).symm
   refine we_pick [1,2,0] rfl (H' := [_,_,_]) rfl ?_
   refine we_join (x23.firm, x23.loose, true, g8, r23.1.1, r23.1.2, r23.2.1, r23.2.2) hE [0,1,2,8,9] rfl (asK [0,1] rfl) rfl
 ·
  rintro ⟨j_1_8_f0_l, j_1_8_f1_l, j_1_9, j_1_8_g, j_1_8_f0_p, j_1_8_f0_c, j_1_8_f1_p, j_1_8_f1_c⟩ hE
  try dsimp only
  have hm := hLj_1
  rw [hE] at hm
  try dsimp only at hm
  refine wc_seq (wc_seq (wc_region (wP rfl (wP rfl (wl_nil (we_then (wc_keep [27,0,1,2,8] (S' := [_,_,_,_,_]) rfl ?_)))))))
  refine wc_cond rfl (fun hb27 => ?_) (fun hb27 => ?_)
  ·
   replace hm := iteT hm hb27
   refine wc_keep [] (S' := []) rfl (wc_seq (wc_region (wP rfl (wl_nil (we_then (wc_ret (we_then_ret ?_)))))))
   have hE := (Option.some.inj hm).symm
   obtain ⟨hE0, hE1⟩ := Prod.mk.inj hE
   clear hE
   replace hE0 := hE0.symm
   subst hE0
   replace hE1 := hE1.symm
   subst hE1
   refine ret_one (Hr := [_,_]) [0,1] Try.results41 (res_tmp rfl) ⟨rfl, rfl, rfl⟩ (asK [] rfl) rfl rfl (.inl rfl)
  ·
   replace hm := iteF hm hb27
   refine wc_keep [0,1,2,8] (S' := [_,_,_,_]) rfl (wc_skip (we_then (wc_seq (wc_region (wP rfl (wl_loadH 2 0 rfl rfl rfl (freshS_eq rfl) rfl rfl rfl (cs := [_,_]) rfl tS_69 tA_69 rfl rfl ?_))))))
   obtain ⟨_, hc31, hm⟩ := bindO_some hm
   try dsimp only at hm
   refine wl_callDyn [] [0,1,2] rfl rfl rfl (freshS_eq rfl) rfl rfl rfl fn_60 rfl rfl (w_disk_Disk_Remove_1_s N j_1_8_f0_p j_1_8_f0_c j_1_8_f0_l j_1_8_f1_p j_1_8_f1_c j_1_8_f1_l hc31) (asK [0,1] rfl) rfl (H' := [_,_,_]) rfl ?_
   rintro _ _ _ ⟨rfl, rfl, rfl⟩
   refine wP rfl (wP rfl (wP rfl (wl_alloc rfl rfl rfl (freshS_eq rfl) rfl tZ_69 rfl (fun g10 => (wS 0 0 rfl tS_69 (all' := [_,_]) rfl (H' := [_,_,_,_]) rfl (wP rfl (wl_nil (we_then (wc_keep [11,10,0,1] (S' := [_,_,_,_]) rfl (wc_seq (wc_seq (wc_region (wP rfl (wP rfl ?_))))))))))))))
   refine wl_as (d := 35) (v' := .bool true) (S' := [_,_,_,_,_]) rfl rfl rfl (wl_nil (we_then (wc_keep [35,11,10,0,1] (S' := [_,_,_,_,_]) rfl (wc_true rfl (wc_keep [11,10,0,1] (S' := [_,_,_,_]) rfl (wc_draw [0,1,2,3,4,5] rfl rfl (fun hok => (xP hok 0 rfl (xP hok 1 rfl (wx_fieldAddr hok 2 rfl rfl rfl (freshS_eq rfl) rfl rfl rfl tF_59_1 (wx_loadH hok 3 1 1 rfl rfl rfl (freshS_eq rfl) rfl rfl rfl rfl (cs := [_]) rfl tS_57 tA_57 rfl rfl (xP hok 4 rfl (wx_loadH hok 5 0 0 rfl rfl rfl (freshS_eq rfl) rfl rfl rfl rfl (cs := [_,_]) rfl tS_69 tA_69 rfl rfl (xS hok 6 rfl ?_))))))))))))))
   refine wl_mapPutP (i := a2) (u := (⟨j_1_8_f0_l, j_1_8_f1_l⟩ : Disk_rowsD)) (cs := [.slice j_1_8_f0_p j_1_8_f0_l.length j_1_8_f0_c, .slice j_1_8_f1_p j_1_8_f1_l.length j_1_8_f1_c]) ltB 2 rfl rfl (.inl rfl) rfl rfl rfl rfl tM_57 trivial rfl (fun F w hφ => ⟨((j_1_8_f0_p, j_1_8_f0_c), (j_1_8_f1_p, j_1_8_f1_c)), rfl, (ask_cons (hφ _ (mem_at (k := 0) rfl)) (ask_cons (hφ _ (mem_at (k := 1) rfl)) ask_nil))⟩) (H' := [.blk g10 [.slice j_1_8_f0_p j_1_8_f0_l.length j_1_8_f0_c, .slice j_1_8_f1_p j_1_8_f1_l.length j_1_8_f1_c] 69, .blk qg0 [.int .i64 a0, .map (some qb1)] 59, mapP (keyStr (tStr_run tT_9)) true R_Disk_rowsD qb1 (mputP ltB a2 (⟨j_1_8_f0_l, j_1_8_f1_l⟩ : Disk_rowsD) e1), .blk j_1_8_g [.slice j_1_8_f0_p j_1_8_f0_l.length j_1_8_f0_c, .slice j_1_8_f1_p j_1_8_f1_l.length j_1_8_f1_c] 69]) rfl (wl_nil (we_x [0,1,0,1] [] rfl rfl (wx_done hok rfl (we_then (wc_keep [11] (S' := [_]) rfl (wc_seq (wc_region (wP rfl (wP rfl (wl_nil (we_then (wc_keep [6] (S' := [_]) rfl (wc_ret ?_)))))))))))))
   have hE := (Option.some.inj hm).symm
   obtain ⟨hE0, hE1⟩ := Prod.mk.inj hE
   clear hE
   replace hE0 := hE0.symm
   subst hE0
   replace hE1 := hE1.symm
   subst hE1
   refine ret_one (Hr := [_,_]) [1,2] Try.results41 (res_tmp rfl) ⟨rfl, rfl, rfl⟩ (asK [] rfl) rfl rfl (.inl rfl)
theorem w_disk_Disk_Remove_v3_s (N : Nat) (qg0 : Nat) (a0 : Int) (qb1 : Nat) (e1 : List (ByteArray × Disk_rowsD)) (a2 : ByteArray) (o0 : Nat) (o1 : List (ByteArray × Disk_rowsD)) (hm : m_disk_Disk_Remove_v3 N a0 e1 a2 = some (o0, o1)) : Spec Try.prog 31 [.pointer (some ⟨qg0,0, none⟩), .string a2] [] [.blk qg0 [.int .i64 a0, .map (some qb1)] 59, mapP (keyStr (tStr_run tT_9)) true R_Disk_rowsD qb1 e1] (fun v Φr Hr => v = .int .i64 ((o0 : Nat) : Int) ∧ Φr = [] ∧ Hr = [.blk qg0 [.int .i64 a0, .map (some qb1)] 59, mapP (keyStr (tStr_run tT_9)) true R_Disk_rowsD qb1 o1]) := by
 unfold m_disk_Disk_Remove_v3 at hm
 refine spec_of Try.func31 rfl Try.ntmps31 rfl (S := [_,_]) rfl (fun C => (wc_seq (wc_region (wP rfl (wl_nil (we_then (wc_keep [0,1] (S' := [_,_]) rfl (wc_seq (wc_region (wP rfl (wP rfl ?_)))))))))))
 obtain ⟨⟨v8_0, v8_1⟩, hc8, hm⟩ := bindO_some hm
 try dsimp only at hm
 refine wC [0,1] [] rfl fn_41 rfl (w_disk_Disk_turn_v15_s N qg0 a0 qb1 e1 a2 _ _ hc8) (asK [] rfl) rfl (H' := []) rfl ?_
 rintro _ _ _ ⟨rfl, rfl, rfl⟩
 refine wP rfl (wl_nil (we_then (wc_keep [5,0,1] (S' := [_,_,_]) rfl (wc_seq ?_))))
 obtain ⟨bj_1, hm, hLj_1⟩ := bindO_some hm
 refine wc_cut (σ := List (ByteArray × Disk_rowsD)) (fun j_1_r0_f1_m => bj_1 = j_1_r0_f1_m) (fun j_1_r0_f1_m => [(5, .int .i64 ((v8_0 : Nat) : Int))]) (fun j_1_r0_f1_m => []) (fun j_1_r0_f1_m => [.blk qg0 [.int .i64 a0, .map (some qb1)] 59, mapP (keyStr (tStr_run tT_9)) true R_Disk_rowsD qb1 j_1_r0_f1_m]) ?_ ?_
 ·
  refine wc_seq (wc_region (wP rfl (wP rfl (wl_as (d := 10) (v' := .bool (v8_0 == 0)) (S' := [_,_,_,_]) rfl rfl (nateq (a := v8_0) (b := 0)) (wl_nil (we_then (wc_keep [10,5,0,1] (S' := [_,_,_,_]) rfl ?_)))))))
  refine wc_cond rfl (fun hb10 => ?_) (fun hb10 => ?_)
  ·
   replace hm := iteT hm hb10
   refine wc_keep [5,0,1] (S' := [_,_,_]) rfl (wc_region (wP rfl (wP rfl (wF rfl tF_59_1 (wD 0 1 rfl tS_57 tA_57 rfl (wP rfl (wl_delP (i := a2) 1 rfl rfl rfl rfl rfl rfl tM_57 trivial (H' := [.blk qg0 [.int .i64 a0, .map (some qb1)] 59, mapP (keyStr (tStr_run tT_9)) true R_Disk_rowsD qb1 (mdel a2 v8_1)]) rfl (wl_nil ?_))))))))
   have hE := (Option.some.inj hm).symm
   refine we_join (mdel a2 v8_1) hE [5] rfl (asK [] rfl) rfl
  ·
   replace hm := iteF hm hb10
   refine wc_keep [5] (S' := [_]) rfl (wc_skip ?_)
   have hE := (Option.some.inj hm).symm
   refine we_join v8_1 hE [5] rfl (asK [] rfl) rfl
 ·
  rintro j_1_r0_f1_m hE
  try dsimp only
  have hm := hLj_1
  rw [hE] at hm
  refine wc_seq (wc_region (wP rfl (wP rfl (wl_nil (we_then (wc_keep [4] (S' := [_]) rfl (wc_ret ?_)))))))
  have hE := (Option.some.inj hm).symm
  obtain ⟨hE0, hE1⟩ := Prod.mk.inj hE
  clear hE
  replace hE0 := hE0.symm
  subst hE0
  replace hE1 := hE1.symm
  subst hE1
  refine ret_one (Hr := [_,_]) [0,1] Try.results31 (res_tmp rfl) ⟨rfl, rfl, rfl⟩ (asK [] rfl) rfl rfl (.inl rfl)
end Go.Proofs.Ytkakbckmajdggaa
