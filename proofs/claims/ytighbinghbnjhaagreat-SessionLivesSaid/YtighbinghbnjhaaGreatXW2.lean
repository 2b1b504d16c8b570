import Derived.Test.YtighbinghbnjhaaGreatXW1
namespace Go.Proofs.YtighbinghbnjhaaGreat
open Go.RowKit
set_option maxRecDepth 100000
set_option maxHeartbeats 4000000
theorem w_session_all_s (N : Nat) (qp0 : Option Addr) (qc1 : Nat) (l0 : List SessD) (o2 : List SessD) (hm : m_session_all N l0 = some o2) : Spec Tryz.prog 25 [.slice qp0 l0.length qc1] [.sli 6 R_SessD qp0 qc1 l0] [] (fun v Φr Hr => ∃ (o0 : Option Addr) (o1 : Nat), v = .slice o0 l0.length o1 ∧ Φr = [] ∧ Hr = [treeF T_SessD 31 6 (.slice o0 l0.length o1) o2]) := by
 unfold m_session_all at hm
 refine spec_of Tryz.func25 rfl Tryz.ntmps25 rfl (S := [_]) rfl (fun C => (wc_seq (wc_region (wP rfl (wl_nil (we_then (wc_keep [0] (S' := [_]) rfl (wc_seq (wc_region (wP rfl ?_))))))))))
 obtain ⟨hg6, hm⟩ := gd_some hm
 refine wC [] [] rfl fn_49 rfl (Clone49f_s qp0 qc1 l0 hg6) (asK [0] rfl) rfl (H' := []) rfl ?_
 rintro _ _ _ ⟨p6, c6, rfl, rfl, rfl⟩
 refine wP rfl (wl_nil (we_then (wc_keep [3] (S' := [_]) rfl (wc_seq ?_))))
 obtain ⟨bj_1, hm, hLj_1⟩ := bindO_some hm
 refine wc_cut (σ := (List SessD) × Nat) (fun (j_1_3_l, j_1_sh0) => bj_1 = (j_1_3_l, j_1_sh0)) (fun (j_1_3_l, j_1_sh0) => [(3, .slice p6 l0.length c6)]) (fun (j_1_3_l, j_1_sh0) => []) (fun (j_1_3_l, j_1_sh0) => [shellF T_SessD R_SessD 31 6 (.slice p6 l0.length c6) j_1_3_l j_1_sh0]) ?_ ?_
 ·
  refine wc_seq (wc_region (wP rfl (wN rfl tE_22 (wP rfl (wl_nil (we_then (wc_keep [9,8,3] (S' := [_,_,_]) rfl (wc_block (wc_sh [shellF T_SessD R_SessD 31 6 (.slice p6 l0.length c6) l0 0] (fun _ h => h.toShell T_SessD_cells 0 rfl) (wc_loop (σ := Nat × Nat × (List SessD)) (fun (nu1, u1_9, u1_3_l) => iter (m_session_all_L1 N l0) nu1 (u1_9, u1_3_l) = some bj_1) (fun (nu1, u1_9, u1_3_l) => nu1) (fun (nu1, u1_9, u1_3_l) => [(9, .int .i64 ((u1_9 : Nat) : Int)), (8, .int .i64 ((l0.length : Nat) : Int)), (3, .slice p6 l0.length c6)]) (fun (nu1, u1_9, u1_3_l) => []) (fun (nu1, u1_9, u1_3_l) => [shellF T_SessD R_SessD 31 6 (.slice p6 l0.length c6) u1_3_l u1_9]) (N, 0, l0) hm [9,8,3] rfl (asK [] rfl) rfl (fun s_ hm => ?_)))))))))))
  obtain ⟨nu1, u1_9, u1_3_l⟩ := s_
  try dsimp only at hm ⊢
  obtain ⟨mu1, bu1, hnu1, hq, hLu1⟩ := iter_some hm
  clear hm
  subst hnu1
  replace hm := hq
  clear hq
  unfold m_session_all_L1 at hm
  try dsimp only at hm
  refine wc_seq (wc_region (wP rfl (wl_as (d := 10) (v' := .bool (decide (u1_9 < l0.length))) (S' := [_,_,_]) rfl rfl (natlt (a := u1_9) (b := l0.length)) (wl_nil (we_then (wc_seq ?_))))))
  refine wc_cond rfl (fun hb10 => ?_) (fun hb10 => ?_)
  ·
   replace hm := iteT hm hb10
   refine wc_keep [9,8,3] (S' := [_,_,_]) rfl (wc_skip (we_then (wc_seq (wc_block (wc_seq (wc_region (wP rfl (wP rfl (wl_nil (we_then (wc_keep [4,9,8,3] (S' := [_,_,_,_]) rfl (wc_region (wP rfl ?_)))))))))))))
   refine wP rfl (wP rfl (wP rfl (wl_shellOut 0 rfl (fun zz16 hzz16 => ?_))))
   obtain ⟨x16, hx16, hm⟩ := bindO_some hm
   obtain ⟨rr16, hrr16⟩ := zip_at hzz16 hx16
   refine wl_indexH 1 u1_9 rfl rfl rfl (freshS_eq rfl) rfl rfl rfl rfl rfl (get_lt hrr16) tE_22 tS_31 (fun g16 eg16 => ?_)
   subst eg16
   refine wF rfl tF_31_2 ?_
   obtain ⟨x18, hx18, hm⟩ := bindO_some hm
   obtain ⟨rr18, hrr18⟩ := zip_at hzz16 hx18
   refine wl_fact (.sli 3 R_FactD rr18.1.1 rr18.1.2 x18.r.facts) (fun F w hφ => T_SessD_read _ _ F w ((hφ _ (mem_at (k := 0) rfl)) u1_9 _ hrr18 (Nat.le_refl _)) _ (mem_at (k := 0) rfl)) (wl_fact (.sli 3 R_V rr18.2.1 rr18.2.2 x18.r.said) (fun F w hφ => T_SessD_read _ _ F w ((hφ _ (mem_at (k := 1) rfl)) u1_9 _ hrr18 (Nat.le_refl _)) _ (mem_at (k := 1) rfl)) (wl_loadRow pair_opens 1 u1_9 2 rfl rfl rfl (freshS_eq rfl) rfl rfl rfl hrr18 tS_29 tA_29 (v := fun _ => .agg #[.int .i64 (x18.r.err), .int .i64 (x18.r.num), .slice rr18.1.1 x18.r.facts.length rr18.1.2, .slice rr18.2.1 x18.r.said.length rr18.2.2]) (fun _ => rfl) (fun _ => rfl) (fun _ _ => ?_)))
   obtain ⟨v19, hc19, hm⟩ := bindO_some hm
   refine wC [] [0,1] rfl fn_46 rfl (w_session_own_s N x18.r.err x18.r.num rr18.1.1 rr18.1.2 x18.r.facts rr18.2.1 rr18.2.2 x18.r.said _ hc19) (asK [1,0] rfl) rfl (H' := [_,_]) rfl ?_
   rintro _ _ _ ⟨p19_0, c19_1, p19_2, c19_3, rfl, rfl, rfl⟩
   obtain ⟨x20, hx20, hm⟩ := bindO_some hm
   obtain ⟨rr20, hrr20⟩ := zip_at hzz16 hx20
   refine wl_indexK 3 u1_9 rfl rfl rfl (freshS_eq rfl) rfl rfl rfl rfl rfl (get_lt hrr20) tE_22 tS_31 (wF rfl tF_31_2 ?_)
   obtain ⟨x1031, hx1031, hm⟩ := bindO_some hm
   obtain ⟨rr1031, hrr1031⟩ := zip_at hzz16 hx1031
   refine wl_treeLen 0 rfl (fun hzt12 _ => (wl_at 2 (v' := .agg #[.int .i64 (x18.r.err), .int .i64 (x18.r.num), .slice p19_0 v19.length c19_1, .slice p19_2 x18.r.said.length c19_3]) rfl (by rw [hzt12]) (wl_hAs 0 (φ' := treeF T_FactD 55 3 (.slice p19_0 v19.length c19_1) v19) rfl (by rw [hzt12]) (H' := [_,_,_,_]) rfl (wl_storePart (u := ((⟨x1031.id, x1031.seq, (⟨x18.r.err, x18.r.num, v19, x18.r.said⟩ : ReplyD)⟩ : SessD), ((p19_0, c19_1), (p19_2, c19_3)))) 3 u1_9 2 rfl rfl rfl rfl rfl hrr1031 rfl rfl tS_29 rfl rfl (fun F w hφ ds hd => by cases hd; rfl) rfl (H' := [_,_,_,_]) rfl (wl_fact (laterF T_SessD R_SessD (zz16.set u1_9 ((⟨x1031.id, x1031.seq, (⟨x18.r.err, x18.r.num, v19, x18.r.said⟩ : ReplyD)⟩ : SessD), ((p19_0, c19_1), (p19_2, c19_3)))) (u1_9 + 1)) (fun F w hφ => later_set (hφ _ (mem_at (k := 2) rfl))) (wl_pick [1,0,2,3] rfl (H' := [_,_,_,_]) rfl (wl_sh [bagF T_SessD ((zz16.take u1_9) ++ [((⟨x1031.id, x1031.seq, (⟨x18.r.err, x18.r.num, v19, x18.r.said⟩ : ReplyD)⟩ : SessD), ((p19_0, c19_1), (p19_2, c19_3)))]) none, _] (fun _ h => Holds.bagPush (T := T_SessD) (x := (⟨x1031.id, x1031.seq, (⟨x18.r.err, x18.r.num, v19, x18.r.said⟩ : ReplyD)⟩ : SessD)) (r := ((p19_0, c19_1), (p19_2, c19_3))) (zs := zz16.take u1_9) (H := [_,_]) h 0 rfl) (wl_hAs 0 (φ' := bagF T_SessD ((zz16.set u1_9 ((⟨x1031.id, x1031.seq, (⟨x18.r.err, x18.r.num, v19, x18.r.said⟩ : ReplyD)⟩ : SessD), ((p19_0, c19_1), (p19_2, c19_3)))).take (u1_9 + 1)) none) rfl (by rw [take_setZ hrr1031]) (H' := [_,_]) rfl ?_))))))))
   have hzs12 : List.map (fun x : SessD × ((Option Addr × Nat) × (Option Addr × Nat)) => x.1) (zz16.set u1_9 ((⟨x1031.id, x1031.seq, (⟨x18.r.err, x18.r.num, v19, x18.r.said⟩ : ReplyD)⟩ : SessD), ((p19_0, c19_1), (p19_2, c19_3)))) = u1_3_l.set u1_9 (⟨x1031.id, x1031.seq, (⟨x18.r.err, x18.r.num, v19, x18.r.said⟩ : ReplyD)⟩ : SessD) := pair_set hzz16
   refine wl_nil (we_block_normal (we_then (wc_keep [9,8,3] (S' := [_,_,_]) rfl (wc_region (wP rfl ?_)))))
   obtain ⟨hg22, hm⟩ := gd_some hm
   refine wl_as (d := 22) (v' := .int .i64 ((u1_9 + 1 : Nat) : Int)) (S' := [_,_,_]) rfl rfl (nat_add (a := u1_9) (b := 1) hg22) (wl_pure (S' := [_,_,_]) rfl rfl rfl rfl rfl (wl_nil ?_))
   have hE := (Option.some.inj hm).symm
   replace hE := link_inl hLu1 hE
   refine we_sh [shellF T_SessD R_SessD 31 6 (.slice (some ⟨g16,0, none⟩) l0.length c6) (u1_3_l.set u1_9 (⟨x1031.id, x1031.seq, (⟨x18.r.err, x18.r.num, v19, x18.r.said⟩ : ReplyD)⟩ : SessD)) (u1_9 + 1)] (fun _ h => h.shellIn 1 0 0 rfl rfl rfl rfl hzs12) ?_
   refine we_roundK (_, u1_9 + 1, (u1_3_l.set u1_9 (⟨x1031.id, x1031.seq, (⟨x18.r.err, x18.r.num, v19, x18.r.said⟩ : ReplyD)⟩ : SessD))) (Nat.lt_succ_self _) hE [9,8,3] rfl (asK [] rfl) rfl
  ·
   replace hm := iteF hm hb10
   refine wc_keep [3] (S' := [_]) rfl (wc_exit (we_then_exit (we_then_exit (we_block_hit ?_))))
   have hE := (Option.some.inj hm).symm
   replace hE := link_inr hLu1 hE
   refine we_join (u1_3_l, u1_9) hE [3] rfl (asK [] rfl) rfl
 ·
  rintro ⟨j_1_3_l, j_1_sh0⟩ hE
  try dsimp only
  have hm := hLj_1
  rw [hE] at hm
  try dsimp only at hm
  refine wc_seq (wc_region (wP rfl (wP rfl (wl_nil (we_then (wc_keep [2] (S' := [_]) rfl (wc_ret ?_)))))))
  obtain ⟨hgs13, hm⟩ := gd_some hm
  refine we_sh [treeF T_SessD 31 6 (.slice p6 l0.length c6) j_1_3_l] (fun _ h => h.shellDone 0 rfl hgs13) ?_
  have hE := (Option.some.inj hm).symm
  replace hE := hE.symm
  subst hE
  refine ret_one (Hr := [_]) [0] Tryz.results25 (res_tmp rfl) ⟨p6, c6, rfl, rfl, rfl⟩ (asK [] rfl) rfl rfl (.inl rfl)
theorem w_session_Of_s0 (N : Nat) (a0 : Int) (qp0 : Option Addr) (qc1 : Nat) (l1 : List SessD)  (hm : m_session_Of N a0 l1 = some (.inl ())) : Spec Tryz.prog 10 [.int .i64 a0, .slice qp0 l1.length qc1] [.sli 6 R_SessD qp0 qc1 l1] [] (fun v Φr Hr => v = .tuple #[.pointer none, .int .i64 4] ∧ Φr = [] ∧ Hr = []) := by
 unfold m_session_Of at hm
 refine spec_of Tryz.func10 rfl Tryz.ntmps10 rfl (S := [_,_]) rfl (fun C => (wc_seq (wc_region (wP rfl (wP rfl (wl_nil (we_then (wc_keep [0,1] (S' := [_,_]) rfl (wc_seq (wc_seq ?_))))))))))
 obtain ⟨bj_1, hm, hLj_1⟩ := bindO_some hm
 refine wc_cut (σ := Bool) (fun j_1_19 => bj_1 = j_1_19) (fun j_1_19 => [(0, .int .i64 a0), (1, .slice qp0 l1.length qc1), (19, .bool j_1_19)]) (fun j_1_19 => [.sli 6 R_SessD qp0 qc1 l1]) (fun j_1_19 => []) ?_ ?_
 ·
  refine wc_region (wP rfl (wP rfl (wP rfl ?_)))
  refine wl_split (d := 11) (S' := [_,_,_,_]) rfl rfl (fun hs11 => ?_) (fun hs11 => ?_)
  ·
   replace hm := iteT hm hs11
   refine wO rfl (wO rfl (wP rfl (wP rfl (wO rfl (wO rfl (wO rfl (wP rfl (wl_nil ?_))))))))
   have hE := (Option.some.inj hm).symm
   refine we_join true hE [0,1,19] rfl (asK [0] rfl) rfl
  ·
   replace hm := iteF hm hs11
   refine wP rfl (wP rfl (wP rfl (wP rfl ?_)))
   refine wl_split (d := 15) (S' := [_,_,_,_,_,_,_,_]) rfl rfl (fun hs15 => ?_) (fun hs15 => ?_)
   ·
    replace hm := iteT hm hs15
    refine wO rfl (wO rfl (wO rfl (wP rfl (wl_nil ?_))))
    have hE := (Option.some.inj hm).symm
    refine we_join true hE [0,1,19] rfl (asK [0] rfl) rfl
   ·
    replace hm := iteF hm hs15
    refine wP rfl (wN rfl tE_22 (wP rfl (wl_as (d := 18) (v' := .bool (decide (32 < l1.length))) (S' := [_,_,_,_,_,_,_,_,_,_,_]) rfl rfl (natgt (a := l1.length) (b := 32)) (wP rfl (wl_nil ?_)))))
    have hE := (Option.some.inj hm).symm
    refine we_join (decide (32 < l1.length)) hE [0,1,19] rfl (asK [0] rfl) rfl
 ·
  rintro j_1_19 hE
  try dsimp only
  have hm := hLj_1
  rw [hE] at hm
  refine wc_cond rfl (fun hb19 => ?_) (fun hb19 => ?_)
  ·
   replace hm := iteT hm hb19
   refine wc_keep [] (S' := []) rfl (wc_seq (wc_region (wP rfl (wP rfl (wl_nil (we_then (wc_ret (we_then_ret ?_))))))))
   have hE := (Option.some.inj hm).symm
   replace hE := Sum.inl.inj hE
   refine ret_two (Hr := []) [] Tryz.results10 (res_tmp rfl) (res_tmp rfl) ⟨rfl, rfl, rfl⟩ (asK [] rfl) rfl rfl (.inl rfl)
  ·
   replace hm := iteF hm hb19
   refine wc_keep [0,1] (S' := [_,_]) rfl (wc_skip (we_then (wc_seq (wc_region (wP rfl (wl_nil (we_then (wc_seq ?_))))))))
   obtain ⟨bj_2, hm, hLj_2⟩ := bindS_some hm
   refine wc_cut (σ := Unit) (fun _ => bj_2 = .inl ()) (fun _ => [(0, .int .i64 a0), (1, .slice qp0 l1.length qc1)]) (fun _ => [.sli 6 R_SessD qp0 qc1 l1]) (fun _ => []) ?_ ?_
   ·
    refine wc_seq (wc_region (wP rfl (wN rfl tE_22 (wP rfl (wl_nil (we_then (wc_block (wc_loop (σ := Nat × Nat × Int) (fun (nu1, u1_22, u1_6) => iter (m_session_Of_L1 N l1 a0) nu1 (u1_22, u1_6) = some bj_2) (fun (nu1, u1_22, u1_6) => nu1) (fun (nu1, u1_22, u1_6) => [(22, .int .i64 ((u1_22 : Nat) : Int)), (21, .int .i64 ((l1.length : Nat) : Int)), (20, .slice qp0 l1.length qc1), (6, .int .i64 u1_6), (0, .int .i64 a0), (1, .slice qp0 l1.length qc1)]) (fun (nu1, u1_22, u1_6) => [.sli 6 R_SessD qp0 qc1 l1]) (fun (nu1, u1_22, u1_6) => []) (N, 0,0) hm [22,21,20,6,0,1] rfl (asK [0] rfl) rfl (fun s_ hm => ?_)))))))))
    obtain ⟨nu1, u1_22, u1_6⟩ := s_
    try dsimp only at hm ⊢
    obtain ⟨mu1, bu1, hnu1, hq, hLu1⟩ := iter_some hm
    clear hm
    subst hnu1
    replace hm := hq
    clear hq
    unfold m_session_Of_L1 at hm
    try dsimp only at hm
    refine wc_seq (wc_region (wP rfl (wl_as (d := 23) (v' := .bool (decide (u1_22 < l1.length))) (S' := [_,_,_,_,_,_]) rfl rfl (natlt (a := u1_22) (b := l1.length)) (wl_nil (we_then (wc_seq ?_))))))
    refine wc_cond rfl (fun hb23 => ?_) (fun hb23 => ?_)
    ·
     replace hm := iteT hm hb23
     refine wc_keep [22,21,20,6,0,1] (S' := [_,_,_,_,_,_]) rfl (wc_skip (we_then (wc_seq (wc_block (wc_seq (wc_region ?_))))))
     obtain ⟨x24, hx24, hm⟩ := bindO_some hm
     refine wl_indexA 0 u1_22 rfl rfl rfl (freshS_eq rfl) rfl rfl rfl rfl rfl hx24 tE_22 tS_31 (fun b24 q24 cs24 hlx24 => (wl_open R_SessD_opens 1 rfl (fun r24 er24 _ => ?_)))
     subst er24
     refine wl_load 2 0 rfl rfl rfl (freshS_eq rfl) rfl rfl rfl (cs := [_,_,_,_,_,_]) rfl tS_31 tA_31 rfl rfl (wl_alloc rfl rfl rfl (freshS_eq rfl) rfl tZ_31 rfl (fun g8 => (wS 0 0 rfl tS_31 (all' := [_,_,_,_,_,_]) rfl (H' := [_]) rfl (wl_nil (we_then (wc_keep [8,22,21,20,6,0,1] (S' := [_,_,_,_,_,_,_]) rfl (wc_seq (wc_seq ?_))))))))
     obtain ⟨bj_3, hm, hLj_3⟩ := bindO_some hm
     refine wc_cut (σ := Bool) (fun j_3_40 => bj_3 = j_3_40) (fun j_3_40 => [(8, .pointer (some ⟨g8,0, none⟩)), (22, .int .i64 ((u1_22 : Nat) : Int)), (21, .int .i64 ((l1.length : Nat) : Int)), (20, .slice qp0 l1.length qc1), (0, .int .i64 a0), (1, .slice qp0 l1.length qc1), (40, .bool j_3_40)]) (fun j_3_40 => [.sli 3 R_FactD r24.1.1 r24.1.2 x24.r.facts, .sli 3 R_V r24.2.1 r24.2.2 x24.r.said, .sli 6 R_SessD qp0 qc1 l1]) (fun j_3_40 => [.blk g8 [.int .i64 (x24.id), .int .i64 (x24.seq), .int .i64 (x24.r.err), .int .i64 (x24.r.num), .slice r24.1.1 x24.r.facts.length r24.1.2, .slice r24.2.1 x24.r.said.length r24.2.2] 31]) ?_ ?_
     ·
      refine wc_region (wF rfl tF_31_0 (wD 0 0 rfl tS_3 tA_3 rfl (wP rfl (wP rfl (wP rfl ?_)))))
      refine wl_split (d := 30) (S' := [_,_,_,_,_,_,_,_,_,_,_]) rfl rfl (fun hs30 => ?_) (fun hs30 => ?_)
      ·
       replace hm := iteT hm hs30
       refine wO rfl (wO rfl (wO rfl (wO rfl (wP rfl (wP rfl (wO rfl (wO rfl (wO rfl (wP rfl (wl_nil ?_))))))))))
       have hE := (Option.some.inj hm).symm
       refine we_join true hE [8,22,21,20,0,1,40] rfl (asK [0,1,4] rfl) rfl
      ·
       replace hm := iteF hm hs30
       refine wF rfl tF_31_0 (wD 0 0 rfl tS_3 tA_3 rfl (wP rfl (wP rfl (wP rfl (wP rfl ?_)))))
       refine wl_split (d := 36) (S' := [_,_,_,_,_,_,_,_,_,_,_,_,_,_,_,_,_]) rfl rfl (fun hs36 => ?_) (fun hs36 => ?_)
       ·
        replace hm := iteT hm hs36
        refine wO rfl (wO rfl (wO rfl (wP rfl (wl_nil ?_))))
        have hE := (Option.some.inj hm).symm
        refine we_join true hE [8,22,21,20,0,1,40] rfl (asK [0,1,4] rfl) rfl
       ·
        replace hm := iteF hm hs36
        refine wF rfl tF_31_1 (wD 0 1 rfl tS_3 tA_3 rfl (wP rfl (wP rfl (wl_nil ?_))))
        have hE := (Option.some.inj hm).symm
        refine we_join (decide (x24.seq < 0)) hE [8,22,21,20,0,1,40] rfl (asK [0,1,4] rfl) rfl
     ·
      rintro j_3_40 hE
      try dsimp only
      have hm := hLj_3
      rw [hE] at hm
      refine wc_cond rfl (fun hb40 => ?_) (fun hb40 => ?_)
      ·
       replace hm := iteT hm hb40
       refine wc_keep [] (S' := []) rfl (wc_seq (wc_region (wP rfl (wP rfl (wl_nil (we_then (wc_ret (we_then_ret (we_block_ret (we_then_ret (we_then_ret (we_block_ret (we_then_ret ?_)))))))))))))
       have hE := (Option.some.inj hm).symm
       replace hE := link_inr hLu1 hE
       replace hE := link_inr hLj_2 hE
       replace hE := Sum.inl.inj hE
       refine ret_two (Hr := []) [] Tryz.results10 (res_tmp rfl) (res_tmp rfl) ⟨rfl, rfl, rfl⟩ (asK [] rfl) rfl rfl (.inl rfl)
      ·
       replace hm := iteF hm hb40
       refine wc_keep [8,22,21,20,0,1] (S' := [_,_,_,_,_,_]) rfl (wc_skip (we_then (wc_region (wF rfl tF_31_0 (wD 0 0 rfl tS_3 tA_3 rfl (wP rfl (wl_nil (we_block_normal (we_then (wc_keep [6,22,21,20,0,1] (S' := [_,_,_,_,_,_]) rfl (wc_region (wP rfl ?_))))))))))))
       obtain ⟨hg43, hm⟩ := gd_some hm
       refine wl_as (d := 43) (v' := .int .i64 ((u1_22 + 1 : Nat) : Int)) (S' := [_,_,_,_,_,_]) rfl rfl (nat_add (a := u1_22) (b := 1) hg43) (wl_pure (S' := [_,_,_,_,_,_]) rfl rfl rfl rfl rfl (wl_nil ?_))
       have hE := (Option.some.inj hm).symm
       replace hE := link_inl hLu1 hE
       refine we_pick [] rfl (H' := []) rfl ?_
       refine we_roundK (_, u1_22 + 1, x24.id) (Nat.lt_succ_self _) hE [22,21,20,6,0,1] rfl (asK [2] rfl) rfl
    ·
     replace hm := iteF hm hb23
     refine wc_keep [0,1] (S' := [_,_]) rfl (wc_exit (we_then_exit (we_then_exit (we_block_hit ?_))))
     have hE := (Option.some.inj hm).symm
     replace hE := link_inr hLu1 hE
     refine we_join () hE [0,1] rfl (asK [0] rfl) rfl
   ·
    rintro _ hE
    try dsimp only
    have hm := link_inl hLj_2 hE
    try dsimp only at hm
    refine wc_seq (wc_region (wP rfl ?_))
    obtain ⟨v45, hc45, hm⟩ := bindO_some hm
    refine wC [] [] rfl fn_25 rfl (w_session_all_s N qp0 qc1 l1 _ hc45) (asK [0] rfl) rfl (H' := []) rfl ?_
    rintro _ _ _ ⟨p45_0, c45_1, rfl, rfl, rfl⟩
    refine wl_build rfl rfl rfl (freshS_eq rfl) rfl tZ_63 tP_63 rfl (out := [_]) rfl (wP rfl (wl_build rfl rfl rfl (freshS_eq rfl) rfl tZ_65 tP_65 rfl (out := [_,_]) rfl (wB rfl (fun g49 => (wP rfl (wP rfl (wl_nil (we_then (wc_keep [5,4] (S' := [_,_]) rfl (wc_ret ?_))))))))))
    have hE := (Option.some.inj hm).symm
    cases hE
theorem w_session_Of_s1 (N : Nat) (a0 : Int) (qp0 : Option Addr) (qc1 : Nat) (l1 : List SessD) (o3 : List SessD) (hm : m_session_Of N a0 l1 = some (.inr o3)) : Spec Tryz.prog 10 [.int .i64 a0, .slice qp0 l1.length qc1] [.sli 6 R_SessD qp0 qc1 l1] [] (fun v Φr Hr => ∃ (o0 : Nat) (o1 : Option Addr) (o2 : Nat), v = .tuple #[.pointer (some ⟨o0,0, none⟩), .int .i64 0] ∧ Φr = [] ∧ Hr = [.blk o0 [.slice o1 l1.length o2, .int .i64 a0] 65, treeF T_SessD 31 6 (.slice o1 l1.length o2) o3]) := by
 unfold m_session_Of at hm
 refine spec_of Tryz.func10 rfl Tryz.ntmps10 rfl (S := [_,_]) rfl (fun C => (wc_seq (wc_region (wP rfl (wP rfl (wl_nil (we_then (wc_keep [0,1] (S' := [_,_]) rfl (wc_seq (wc_seq ?_))))))))))
 obtain ⟨bj_1, hm, hLj_1⟩ := bindO_some hm
 refine wc_cut (σ := Bool) (fun j_1_19 => bj_1 = j_1_19) (fun j_1_19 => [(0, .int .i64 a0), (1, .slice qp0 l1.length qc1), (19, .bool j_1_19)]) (fun j_1_19 => [.sli 6 R_SessD qp0 qc1 l1]) (fun j_1_19 => []) ?_ ?_
 ·
  refine wc_region (wP rfl (wP rfl (wP rfl ?_)))
  refine wl_split (d := 11) (S' := [_,_,_,_]) rfl rfl (fun hs11 => ?_) (fun hs11 => ?_)
  ·
   replace hm := iteT hm hs11
   refine wO rfl (wO rfl (wP rfl (wP rfl (wO rfl (wO rfl (wO rfl (wP rfl (wl_nil ?_))))))))
   have hE := (Option.some.inj hm).symm
   refine we_join true hE [0,1,19] rfl (asK [0] rfl) rfl
  ·
   replace hm := iteF hm hs11
   refine wP rfl (wP rfl (wP rfl (wP rfl ?_)))
   refine wl_split (d := 15) (S' := [_,_,_,_,_,_,_,_]) rfl rfl (fun hs15 => ?_) (fun hs15 => ?_)
   ·
    replace hm := iteT hm hs15
    refine wO rfl (wO rfl (wO rfl (wP rfl (wl_nil ?_))))
    have hE := (Option.some.inj hm).symm
    refine we_join true hE [0,1,19] rfl (asK [0] rfl) rfl
   ·
    replace hm := iteF hm hs15
    refine wP rfl (wN rfl tE_22 (wP rfl (wl_as (d := 18) (v' := .bool (decide (32 < l1.length))) (S' := [_,_,_,_,_,_,_,_,_,_,_]) rfl rfl (natgt (a := l1.length) (b := 32)) (wP rfl (wl_nil ?_)))))
    have hE := (Option.some.inj hm).symm
    refine we_join (decide (32 < l1.length)) hE [0,1,19] rfl (asK [0] rfl) rfl
 ·
  rintro j_1_19 hE
  try dsimp only
  have hm := hLj_1
  rw [hE] at hm
  refine wc_cond rfl (fun hb19 => ?_) (fun hb19 => ?_)
  ·
   replace hm := iteT hm hb19
   refine wc_keep [] (S' := []) rfl (wc_seq (wc_region (wP rfl (wP rfl (wl_nil (we_then (wc_ret (we_then_ret ?_))))))))
   have hE := (Option.some.inj hm).symm
   cases hE
  ·
   replace hm := iteF hm hb19
   refine wc_keep [0,1] (S' := [_,_]) rfl (wc_skip (we_then (wc_seq (wc_region (wP rfl (wl_nil (we_then (wc_seq ?_))))))))
   obtain ⟨bj_2, hm, hLj_2⟩ := bindS_some hm
   refine wc_cut (σ := Unit) (fun _ => bj_2 = .inl ()) (fun _ => [(0, .int .i64 a0), (1, .slice qp0 l1.length qc1)]) (fun _ => [.sli 6 R_SessD qp0 qc1 l1]) (fun _ => []) ?_ ?_
   ·
    refine wc_seq (wc_region (wP rfl (wN rfl tE_22 (wP rfl (wl_nil (we_then (wc_block (wc_loop (σ := Nat × Nat × Int) (fun (nu1, u1_22, u1_6) => iter (m_session_Of_L1 N l1 a0) nu1 (u1_22, u1_6) = some bj_2) (fun (nu1, u1_22, u1_6) => nu1) (fun (nu1, u1_22, u1_6) => [(22, .int .i64 ((u1_22 : Nat) : Int)), (21, .int .i64 ((l1.length : Nat) : Int)), (20, .slice qp0 l1.length qc1), (6, .int .i64 u1_6), (0, .int .i64 a0), (1, .slice qp0 l1.length qc1)]) (fun (nu1, u1_22, u1_6) => [.sli 6 R_SessD qp0 qc1 l1]) (fun (nu1, u1_22, u1_6) => []) (N, 0,0) hm [22,21,20,6,0,1] rfl (asK [0] rfl) rfl (fun s_ hm => ?_)))))))))
    obtain ⟨nu1, u1_22, u1_6⟩ := s_
    try dsimp only at hm ⊢
    obtain ⟨mu1, bu1, hnu1, hq, hLu1⟩ := iter_some hm
    clear hm
    subst hnu1
    replace hm := hq
    clear hq
    unfold m_session_Of_L1 at hm
    try dsimp only at hm
    refine wc_seq (wc_region (wP rfl (wl_as (d := 23) (v' := .bool (decide (u1_22 < l1.length))) (S' := [_,_,_,_,_,_]) rfl rfl (natlt (a := u1_22) (b := l1.length)) (wl_nil (we_then (wc_seq ?_))))))
    refine wc_cond rfl (fun hb23 => ?_) (fun hb23 => ?_)
    ·
     replace hm := iteT hm hb23
     refine wc_keep [22,21,20,6,0,1] (S' := [_,_,_,_,_,_]) rfl (wc_skip (we_then (wc_seq (wc_block (wc_seq (wc_region ?_))))))
     obtain ⟨x24, hx24, hm⟩ := bindO_some hm
     refine wl_indexA 0 u1_22 rfl rfl rfl (freshS_eq rfl) rfl rfl rfl rfl rfl hx24 tE_22 tS_31 (fun b24 q24 cs24 hlx24 => (wl_open R_SessD_opens 1 rfl (fun r24 er24 _ => ?_)))
     subst er24
     refine wl_load 2 0 rfl rfl rfl (freshS_eq rfl) rfl rfl rfl (cs := [_,_,_,_,_,_]) rfl tS_31 tA_31 rfl rfl (wl_alloc rfl rfl rfl (freshS_eq rfl) rfl tZ_31 rfl (fun g8 => (wS 0 0 rfl tS_31 (all' := [_,_,_,_,_,_]) rfl (H' := [_]) rfl (wl_nil (we_then (wc_keep [8,22,21,20,6,0,1] (S' := [_,_,_,_,_,_,_]) rfl (wc_seq (wc_seq ?_))))))))
     obtain ⟨bj_3, hm, hLj_3⟩ := bindO_some hm
     refine wc_cut (σ := Bool) (fun j_3_40 => bj_3 = j_3_40) (fun j_3_40 => [(8, .pointer (some ⟨g8,0, none⟩)), (22, .int .i64 ((u1_22 : Nat) : Int)), (21, .int .i64 ((l1.length : Nat) : Int)), (20, .slice qp0 l1.length qc1), (0, .int .i64 a0), (1, .slice qp0 l1.length qc1), (40, .bool j_3_40)]) (fun j_3_40 => [.sli 3 R_FactD r24.1.1 r24.1.2 x24.r.facts, .sli 3 R_V r24.2.1 r24.2.2 x24.r.said, .sli 6 R_SessD qp0 qc1 l1]) (fun j_3_40 => [.blk g8 [.int .i64 (x24.id), .int .i64 (x24.seq), .int .i64 (x24.r.err), .int .i64 (x24.r.num), .slice r24.1.1 x24.r.facts.length r24.1.2, .slice r24.2.1 x24.r.said.length r24.2.2] 31]) ?_ ?_
     ·
      refine wc_region (wF rfl tF_31_0 (wD 0 0 rfl tS_3 tA_3 rfl (wP rfl (wP rfl (wP rfl ?_)))))
      refine wl_split (d := 30) (S' := [_,_,_,_,_,_,_,_,_,_,_]) rfl rfl (fun hs30 => ?_) (fun hs30 => ?_)
      ·
       replace hm := iteT hm hs30
       refine wO rfl (wO rfl (wO rfl (wO rfl (wP rfl (wP rfl (wO rfl (wO rfl (wO rfl (wP rfl (wl_nil ?_))))))))))
       have hE := (Option.some.inj hm).symm
       refine we_join true hE [8,22,21,20,0,1,40] rfl (asK [0,1,4] rfl) rfl
      ·
       replace hm := iteF hm hs30
       refine wF rfl tF_31_0 (wD 0 0 rfl tS_3 tA_3 rfl (wP rfl (wP rfl (wP rfl (wP rfl ?_)))))
       refine wl_split (d := 36) (S' := [_,_,_,_,_,_,_,_,_,_,_,_,_,_,_,_,_]) rfl rfl (fun hs36 => ?_) (fun hs36 => ?_)
       ·
        replace hm := iteT hm hs36
        refine wO rfl (wO rfl (wO rfl (wP rfl (wl_nil ?_))))
        have hE := (Option.some.inj hm).symm
        refine we_join true hE [8,22,21,20,0,1,40] rfl (asK [0,1,4] rfl) rfl
       ·
        replace hm := iteF hm hs36
        refine wF rfl tF_31_1 (wD 0 1 rfl tS_3 tA_3 rfl (wP rfl (wP rfl (wl_nil ?_))))
        have hE := (Option.some.inj hm).symm
        refine we_join (decide (x24.seq < 0)) hE [8,22,21,20,0,1,40] rfl (asK [0,1,4] rfl) rfl
     ·
      rintro j_3_40 hE
      try dsimp only
      have hm := hLj_3
      rw [hE] at hm
      refine wc_cond rfl (fun hb40 => ?_) (fun hb40 => ?_)
      ·
       replace hm := iteT hm hb40
       refine wc_keep [] (S' := []) rfl (wc_seq (wc_region (wP rfl (wP rfl (wl_nil (we_then (wc_ret (we_then_ret (we_block_ret (we_then_ret (we_then_ret (we_block_ret (we_then_ret ?_)))))))))))))
       have hE := (Option.some.inj hm).symm
       replace hE := link_inr hLu1 hE
       replace hE := link_inr hLj_2 hE
       cases hE
      ·
       replace hm := iteF hm hb40
       refine wc_keep [8,22,21,20,0,1] (S' := [_,_,_,_,_,_]) rfl (wc_skip (we_then (wc_region (wF rfl tF_31_0 (wD 0 0 rfl tS_3 tA_3 rfl (wP rfl (wl_nil (we_block_normal (we_then (wc_keep [6,22,21,20,0,1] (S' := [_,_,_,_,_,_]) rfl (wc_region (wP rfl ?_))))))))))))
       obtain ⟨hg43, hm⟩ := gd_some hm
       refine wl_as (d := 43) (v' := .int .i64 ((u1_22 + 1 : Nat) : Int)) (S' := [_,_,_,_,_,_]) rfl rfl (nat_add (a := u1_22) (b := 1) hg43) (wl_pure (S' := [_,_,_,_,_,_]) rfl rfl rfl rfl rfl (wl_nil ?_))
       have hE := (Option.some.inj hm).symm
       replace hE := link_inl hLu1 hE
       refine we_pick [] rfl (H' := []) rfl ?_
       refine we_roundK (_, u1_22 + 1, x24.id) (Nat.lt_succ_self _) hE [22,21,20,6,0,1] rfl (asK [2] rfl) rfl
    ·
     replace hm := iteF hm hb23
     refine wc_keep [0,1] (S' := [_,_]) rfl (wc_exit (we_then_exit (we_then_exit (we_block_hit ?_))))
     have hE := (Option.some.inj hm).symm
     replace hE := link_inr hLu1 hE
     refine we_join () hE [0,1] rfl (asK [0] rfl) rfl
   ·
    rintro _ hE
    try dsimp only
    have hm := link_inl hLj_2 hE
    try dsimp only at hm
    refine wc_seq (wc_region (wP rfl ?_))
    obtain ⟨v45, hc45, hm⟩ := bindO_some hm
    refine wC [] [] rfl fn_25 rfl (w_session_all_s N qp0 qc1 l1 _ hc45) (asK [0] rfl) rfl (H' := []) rfl ?_
    rintro _ _ _ ⟨p45_0, c45_1, rfl, rfl, rfl⟩
    refine wl_build rfl rfl rfl (freshS_eq rfl) rfl tZ_63 tP_63 rfl (out := [_]) rfl (wP rfl (wl_build rfl rfl rfl (freshS_eq rfl) rfl tZ_65 tP_65 rfl (out := [_,_]) rfl (wB rfl (fun g49 => (wP rfl (wP rfl (wl_nil (we_then (wc_keep [5,4] (S' := [_,_]) rfl (wc_ret ?_))))))))))
    have hE := (Option.some.inj hm).symm
    replace hE := Sum.inr.inj hE
    replace hE := hE.symm
    subst hE
    refine ret_two (Hr := [_,_]) [0,1] Tryz.results10 (res_tmp rfl) (res_tmp rfl) ⟨g49, p45_0, c45_1, rfl, rfl, rfl⟩ (asK [] rfl) rfl rfl (.inl rfl)
theorem w_ropewalkkit_CopyValues_s (N : Nat) (qp0 : Option Addr) (qc1 : Nat) (l0 : List V)  (hm : m_ropewalkkit_CopyValues N l0 = some ()) : Spec Tryz.prog 99 [.slice qp0 l0.length qc1] [.sli 3 R_V qp0 qc1 l0] [] (fun v Φr Hr => ∃ (o0 : Option Addr) (o1 : Nat), v = .slice o0 (l0).length o1 ∧ Φr = [] ∧ Hr = [.own 149 3 R_V (.slice o0 (l0).length o1) l0]) := by
 unfold m_ropewalkkit_CopyValues at hm
 refine spec_of Tryz.func99 rfl Tryz.ntmps99 rfl (S := [_]) rfl (fun C => (wc_seq (wc_region (wP rfl (wl_nil (we_then (wc_keep [0] (S' := [_]) rfl (wc_seq (wc_region (wP rfl (wl_nil (we_then (wc_seq (wc_region ?_))))))))))))))
 refine wP rfl (wP rfl (wl_rowNil 149 3 R_V ?_))
 obtain ⟨hg6, hm⟩ := gd_some hm
 refine wl_append 0 0 rfl rfl rfl (freshS_eq rfl) rfl rfl rfl rfl rfl tE_27 tR_149 rfl rfl (Nat.le_trans hg6 (by decide)) (Nat.le_trans (Nat.mul_le_mul_right _ hg6) (by decide)) (H2 := fun p6 c6 => [.own 149 3 R_V (.slice p6 (l0).length c6) l0]) (fun _ _ => rfl) (fun p6 c6 => (wP rfl (wl_nil (we_then (wc_keep [2] (S' := [_]) rfl (wc_ret ?_))))))
 have hE := (Option.some.inj hm).symm
 refine ret_one (Hr := [_]) [0] Tryz.results99 (res_tmp rfl) ⟨p6, c6, rfl, rfl, rfl⟩ (asK [] rfl) rfl rfl (.inl rfl)
theorem w_ropewalkkit_CopyFact_s (N : Nat) (a0 : Int) (a1 : Int) (qp0 : Option Addr) (qc1 : Nat) (l2 : List V)  (hm : m_ropewalkkit_CopyFact N a0 a1 l2 = some ()) : Spec Tryz.prog 144 [.agg #[.int .i64 a0, .int .i64 a1, .slice qp0 l2.length qc1]] [.sli 3 R_V qp0 qc1 l2] [] (fun v Φr Hr => ∃ (o0 : Option Addr) (o1 : Nat), v = .agg #[.int .i64 a0, .int .i64 a1, .slice o0 (l2).length o1] ∧ Φr = [] ∧ Hr = [.own 149 3 R_V (.slice o0 (l2).length o1) l2]) := by
 unfold m_ropewalkkit_CopyFact at hm
 refine spec_of Tryz.func144 rfl Tryz.ntmps144 rfl (S := [_]) rfl (fun C => (wc_seq (wc_region (wB rfl (fun g1 => (wl_alloc rfl rfl rfl (freshS_eq rfl) rfl tZ_55 rfl (fun g2 => (wl_nil (we_then (wc_keep [2,1] (S' := [_,_]) rfl (wc_seq (wc_region (wF rfl tF_55_2 (wD 1 2 rfl tS_27 tA_27 rfl ?_))))))))))))))
 obtain ⟨_, hc5, hm⟩ := bindO_some hm
 try dsimp only at hm
 refine wC [] [0,1] rfl fn_99 rfl (w_ropewalkkit_CopyValues_s N qp0 qc1 l2 hc5) (asK [0] rfl) rfl (H' := [_,_]) rfl ?_
 rintro _ _ _ ⟨p5_0, c5_1, rfl, rfl, rfl⟩
 refine wF rfl tF_55_2 (wS 2 2 rfl tS_27 (all' := [_,_,_]) rfl (H' := [_,_,_]) rfl (wl_nil (we_then (wc_keep [2,1] (S' := [_,_]) rfl (wc_seq (wc_region (wl_loadH 2 0 rfl rfl rfl (freshS_eq rfl) rfl rfl rfl (cs := [_,_,_]) rfl tS_55 tA_55 rfl rfl (wS 1 0 rfl tS_55 (all' := [_,_,_]) rfl (H' := [_,_,_]) rfl (wl_nil (we_then (wc_keep [2] (S' := [_]) rfl (wc_ret ?_))))))))))))
 have hE := (Option.some.inj hm).symm
 refine ret_one (Hr := [_]) [0] Tryz.results144 (res_cell 1 rfl rfl tS_55 tA_55 rfl rfl) ⟨p5_0, c5_1, rfl, rfl, rfl⟩ (asK [] rfl) rfl rfl (.inl rfl)
theorem w_ropewalkkit_CopyFacts_s (N : Nat) (qp0 : Option Addr) (qc1 : Nat) (l0 : List FactD) (o2 : List FactD) (hm : m_ropewalkkit_CopyFacts N l0 = some o2) : Spec Tryz.prog 98 [.slice qp0 l0.length qc1] [.sli 3 R_FactD qp0 qc1 l0] [] (fun v Φr Hr => ∃ (o0 : Option Addr) (o1 : Nat) (o3 : Nat), v = .slice o0 o3 o1 ∧ Φr = [] ∧ Hr = [treeF T_FactD 55 3 (.slice o0 o3 o1) o2]) := by
 unfold m_ropewalkkit_CopyFacts at hm
 refine spec_of Tryz.func98 rfl Tryz.ntmps98 rfl (S := [_]) rfl (fun C => (wc_seq (wc_region (wP rfl (wl_nil (we_then (wc_keep [0] (S' := [_]) rfl (wc_seq (wc_region (wP rfl (wl_nil (we_then (wc_seq ?_)))))))))))))
 obtain ⟨bj_1, hm, hLj_1⟩ := bindO_some hm
 refine wc_cut (σ := (List FactD) × (Option Addr) × Nat × Nat) (fun (j_1_3_l, j_1_3_p, j_1_3_c, j_1_3_n) => bj_1 = j_1_3_l) (fun (j_1_3_l, j_1_3_p, j_1_3_c, j_1_3_n) => [(3, .slice j_1_3_p j_1_3_n j_1_3_c)]) (fun (j_1_3_l, j_1_3_p, j_1_3_c, j_1_3_n) => []) (fun (j_1_3_l, j_1_3_p, j_1_3_c, j_1_3_n) => [treeF T_FactD 55 3 (.slice j_1_3_p j_1_3_n j_1_3_c) j_1_3_l]) ?_ ?_
 ·
  refine wc_seq (wc_region (wP rfl (wl_nil (we_then (wc_block (wc_sh [treeF T_FactD 55 3 (.slice none 0 0) []] (fun _ h => h.treeNil T_FactD 55 3) (wc_loop (σ := Nat × Nat × (List FactD) × (Option Addr) × Nat × Nat) (fun (nu1, u1_4, u1_3_l, u1_3_p, u1_3_c, u1_3_n) => iter (m_ropewalkkit_CopyFacts_L1 N l0) nu1 (u1_4, u1_3_l) = some bj_1) (fun (nu1, u1_4, u1_3_l, u1_3_p, u1_3_c, u1_3_n) => nu1) (fun (nu1, u1_4, u1_3_l, u1_3_p, u1_3_c, u1_3_n) => [(4, .int .i64 ((u1_4 : Nat) : Int)), (3, .slice u1_3_p u1_3_n u1_3_c), (0, .slice qp0 l0.length qc1)]) (fun (nu1, u1_4, u1_3_l, u1_3_p, u1_3_c, u1_3_n) => [.sli 3 R_FactD qp0 qc1 l0]) (fun (nu1, u1_4, u1_3_l, u1_3_p, u1_3_c, u1_3_n) => [treeF T_FactD 55 3 (.slice u1_3_p u1_3_n u1_3_c) u1_3_l]) (N, 0,[], none, 0,0) hm [4,3,0] rfl (asK [0] rfl) rfl (fun s_ hm => ?_))))))))
  obtain ⟨nu1, u1_4, u1_3_l, u1_3_p, u1_3_c, u1_3_n⟩ := s_
  try dsimp only at hm ⊢
  obtain ⟨mu1, bu1, hnu1, hq, hLu1⟩ := iter_some hm
  clear hm
  subst hnu1
  replace hm := hq
  clear hq
  unfold m_ropewalkkit_CopyFacts_L1 at hm
  try dsimp only at hm
  refine wc_seq (wc_seq (wc_region (wP rfl (wP rfl (wN rfl tE_26 (wP rfl (wl_as (d := 9) (v' := .bool (decide (u1_4 < l0.length))) (S' := [_,_,_,_,_,_]) rfl rfl (natlt (a := u1_4) (b := l0.length)) (wl_nil (we_then (wc_keep [9,4,3,0] (S' := [_,_,_,_]) rfl ?_))))))))))
  refine wc_cond rfl (fun hb9 => ?_) (fun hb9 => ?_)
  ·
   replace hm := iteT hm hb9
   refine wc_keep [4,3,0] (S' := [_,_,_]) rfl (wc_skip (we_then (wc_seq (wc_block (wc_seq (wc_region (wP rfl (wP rfl ?_))))))))
   obtain ⟨x14, hx14, hm⟩ := bindO_some hm
   refine wl_indexA 0 u1_4 rfl rfl rfl (freshS_eq rfl) rfl rfl rfl rfl rfl hx14 tE_26 tS_55 (fun b14 q14 cs14 hlx14 => (wl_open R_FactD_opens 1 rfl (fun r14 er14 _ => ?_)))
   subst er14
   refine wl_load 1 0 rfl rfl rfl (freshS_eq rfl) rfl rfl rfl (cs := [_,_,_]) rfl tS_55 tA_55 rfl rfl ?_
   obtain ⟨_, hc16, hm⟩ := bindO_some hm
   try dsimp only at hm
   refine wC [] [0] rfl fn_144 rfl (w_ropewalkkit_CopyFact_s N x14.id x14.ty r14.1 r14.2 x14.args hc16) (asK [0] rfl) rfl (H' := [_]) rfl ?_
   rintro _ _ _ ⟨p16_0, c16_1, rfl, rfl, rfl⟩
   refine wl_alloc rfl rfl rfl (freshS_eq rfl) rfl tZ_55 rfl (fun g5 => (wS 0 0 rfl tS_55 (all' := [_,_,_]) rfl (H' := [_,_,_]) rfl (wl_nil (we_then (wc_keep [5,4,3,0] (S' := [_,_,_,_]) rfl (wc_region (wP rfl (wl_loadH 0 0 rfl rfl rfl (freshS_eq rfl) rfl rfl rfl (cs := [_,_,_]) rfl tS_55 tA_55 rfl rfl (wl_buildSlice rfl rfl rfl (freshS_eq rfl) rfl tE_26 tS_55 tZ_55 rfl (zs := [.int .i64 0, .int .i64 0, .slice none 0 0]) (by kernel_rfl) rfl (out := [_,_,_]) rfl (fun g19 => (wl_treeLen 3 rfl (fun hzt19 _ => ?_))))))))))))
   subst hzt19
   refine wl_ownLen 2 rfl (fun hz20 _ => (wl_at 1 (v' := .agg #[.int .i64 (x14.id), .int .i64 (x14.ty), .slice p16_0 x14.args.length c16_1]) rfl (by rw [hz20]) (wl_hAs 0 (φ' := .blk g19 [.int .i64 (x14.id), .int .i64 (x14.ty), .slice p16_0 x14.args.length c16_1] 55) rfl (by rw [hz20]) (H' := [_,_,_,_]) rfl (wl_hAs 1 (φ' := .blk g5 [.int .i64 (x14.id), .int .i64 (x14.ty), .slice p16_0 x14.args.length c16_1] 55) rfl (by rw [hz20]) (H' := [_,_,_,_]) rfl (wl_hAs 2 (φ' := .own 149 3 R_V (.slice p16_0 x14.args.length c16_1) x14.args) rfl (by rw [hz20]) (H' := [_,_,_,_]) rfl (wl_treeOut 3 rfl (fun zz20 hzz20 => ?_)))))))
   obtain ⟨hg20, hm⟩ := gd_some hm
   have hzs12 : List.map (fun x : FactD × (Option Addr × Nat) => x.1) (zz20 ++ [(x14, (p16_0, c16_1))]) = u1_3_l ++ [x14] := pair_app hzz20 (us := [x14]) rfl
   have hgl20 : zz20.length + ([(x14, (p16_0, c16_1))] : List (FactD × (Option Addr × Nat))).length ≤ 3518437208883 := by rw [pair_len hzz20]; exact hg20
   refine wl_appendH (R := T_FactD.pair) ([(x14, (p16_0, c16_1))]) 4 1 rfl rfl rfl (freshS_eq rfl) rfl rfl rfl rfl rfl (fun F w hφ => ⟨[.int .i64 (x14.id), .int .i64 (x14.ty), .slice p16_0 x14.args.length c16_1],[], rfl, rfl, rfl, rfl⟩) tE_26 tR_55 rfl rfl (Nat.le_trans hgl20 (by decide)) (Nat.le_trans (Nat.mul_le_mul_right _ hgl20) (by decide)) (H2 := fun p20 c20 => [_,_,_,_, .own 55 3 T_FactD.pair (.slice p20 ((zz20 ++ [(x14, (p16_0, c16_1))]).length) c20) (zz20 ++ [(x14, (p16_0, c16_1))])]) (fun _ _ => rfl) (fun p20 c20 => (wl_drop 1 rfl (H' := [_,_,_,_]) rfl (wl_as (d := 20) (v' := .slice p20 ((u1_3_l ++ [x14]).length) c20) (S' := [_,_,_,_,_,_,_]) rfl rfl (by rw [pair_len hzs12]) (wl_hAs 3 (φ' := .own 55 3 T_FactD.pair (.slice p20 ((u1_3_l ++ [x14]).length) c20) (zz20 ++ [(x14, (p16_0, c16_1))])) rfl (by rw [pair_len hzs12]) (H' := [_,_,_,_]) rfl (wl_pick [2,0,1,3] rfl (H' := [_,_,_,_]) rfl (wl_sh [bagF T_FactD (zz20 ++ [(x14, (p16_0, c16_1))]) none, _,_] (fun _ h => Holds.bagPush (T := T_FactD) (x := x14) (r := (p16_0, c16_1)) (zs := zz20) (H := [_,_,_]) h 0 rfl) (wl_sh [_, treeF T_FactD 55 3 (.slice p20 ((u1_3_l ++ [x14]).length) c20) (u1_3_l ++ [x14])] (fun _ h => h.treeIn 2 0 rfl rfl rfl hzs12) (wl_pure (S' := [_,_,_,_,_,_,_]) rfl rfl rfl rfl rfl (wl_nil (we_block_normal (we_then (wc_keep [3,4,0] (S' := [_,_,_]) rfl (wc_region (wP rfl ?_))))))))))))))
   refine wP rfl ?_
   obtain ⟨hg11, hm⟩ := gd_some hm
   refine wl_as (d := 11) (v' := .int .i64 ((u1_4 + 1 : Nat) : Int)) (S' := [_,_,_,_]) rfl rfl (nat_add (a := u1_4) (b := 1) hg11) (wl_pure (S' := [_,_,_,_]) rfl rfl rfl rfl rfl (wl_nil ?_))
   have hE := (Option.some.inj hm).symm
   replace hE := link_inl hLu1 hE
   refine we_pick [1] rfl (H' := [_]) rfl ?_
   refine we_roundK (_, u1_4 + 1, u1_3_l ++ [x14], p20, c20, (u1_3_l ++ [x14]).length) (Nat.lt_succ_self _) hE [4,3,0] rfl (asK [3] rfl) rfl
  ·
   replace hm := iteF hm hb9
   refine wc_keep [3] (S' := [_]) rfl (wc_exit (we_then_exit (we_then_exit (we_block_hit ?_))))
   have hE := (Option.some.inj hm).symm
   replace hE := link_inr hLu1 hE
   refine we_join (u1_3_l, u1_3_p, u1_3_c, u1_3_n) hE [3] rfl (asK [] rfl) rfl
 ·
  rintro ⟨j_1_3_l, j_1_3_p, j_1_3_c, j_1_3_n⟩ hE
  try dsimp only
  have hm := hLj_1
  rw [hE] at hm
  refine wc_seq (wc_region (wP rfl (wP rfl (wl_nil (we_then (wc_keep [2] (S' := [_]) rfl (wc_ret ?_)))))))
  have hE := (Option.some.inj hm).symm
  replace hE := hE.symm
  subst hE
  refine ret_one (Hr := [_]) [0] Tryz.results98 (res_tmp rfl) ⟨j_1_3_p, j_1_3_c, j_1_3_n, rfl, rfl, rfl⟩ (asK [] rfl) rfl rfl (.inl rfl)
theorem w_ropewalkkit_CopyReply_s (N : Nat) (a0 : Int) (a1 : Int) (qp0 : Option Addr) (qc1 : Nat) (l2 : List FactD) (qp2 : Option Addr) (qc3 : Nat) (l3 : List V) (o2 : List FactD) (hm : m_ropewalkkit_CopyReply N a0 a1 l2 l3 = some o2) : Spec Tryz.prog 54 [.agg #[.int .i64 a0, .int .i64 a1, .slice qp0 l2.length qc1, .slice qp2 l3.length qc3]] [.sli 3 R_FactD qp0 qc1 l2, .sli 3 R_V qp2 qc3 l3] [] (fun v Φr Hr => ∃ (o0 : Option Addr) (o1 : Nat) (o3 : Nat) (o4 : Option Addr) (o5 : Nat), v = .agg #[.int .i64 a0, .int .i64 a1, .slice o0 o3 o1, .slice o4 (l3).length o5] ∧ Φr = [] ∧ Hr = [treeF T_FactD 55 3 (.slice o0 o3 o1) o2, .own 149 3 R_V (.slice o4 (l3).length o5) l3]) := by
 unfold m_ropewalkkit_CopyReply at hm
 refine spec_of Tryz.func54 rfl Tryz.ntmps54 rfl (S := [_]) rfl (fun C => (wc_seq (wc_region (wB rfl (fun g1 => (wl_alloc rfl rfl rfl (freshS_eq rfl) rfl tZ_29 rfl (fun g2 => (wl_nil (we_then (wc_keep [2,1] (S' := [_,_]) rfl (wc_seq (wc_region (wF rfl tF_29_2 (wD 1 2 rfl tS_26 tA_26 rfl ?_))))))))))))))
 obtain ⟨v5, hc5, hm⟩ := bindO_some hm
 refine wC [] [0,1] rfl fn_98 rfl (w_ropewalkkit_CopyFacts_s N qp0 qc1 l2 _ hc5) (asK [0] rfl) rfl (H' := [_,_]) rfl ?_
 rintro _ _ _ ⟨p5_0, c5_1, c5_2, rfl, rfl, rfl⟩
 refine wF rfl tF_29_2 (wS 2 2 rfl tS_26 (all' := [_,_,_,_]) rfl (H' := [_,_,_]) rfl (wl_nil (we_then (wc_keep [2,1] (S' := [_,_]) rfl (wc_seq (wc_region (wF rfl tF_29_3 (wD 2 3 rfl tS_27 tA_27 rfl ?_))))))))
 obtain ⟨_, hc9, hm⟩ := bindO_some hm
 try dsimp only at hm
 refine wC [] [0,1,2] rfl fn_99 rfl (w_ropewalkkit_CopyValues_s N qp2 qc3 l3 hc9) (asK [1] rfl) rfl (H' := [_,_,_]) rfl ?_
 rintro _ _ _ ⟨p9_0, c9_1, rfl, rfl, rfl⟩
 refine wF rfl tF_29_3 (wS 3 3 rfl tS_27 (all' := [_,_,_,_]) rfl (H' := [_,_,_,_]) rfl (wl_nil (we_then (wc_keep [2,1] (S' := [_,_]) rfl (wc_seq (wc_region (wl_loadH 3 0 rfl rfl rfl (freshS_eq rfl) rfl rfl rfl (cs := [_,_,_,_]) rfl tS_29 tA_29 rfl rfl (wS 2 0 rfl tS_29 (all' := [_,_,_,_]) rfl (H' := [_,_,_,_]) rfl (wl_nil (we_then (wc_keep [2] (S' := [_]) rfl (wc_ret ?_))))))))))))
 have hE := (Option.some.inj hm).symm
 replace hE := hE.symm
 subst hE
 refine ret_one (Hr := [_,_]) [1,0] Tryz.results54 (res_cell 2 rfl rfl tS_29 tA_29 rfl rfl) ⟨p5_0, c5_1, c5_2, p9_0, c9_1, rfl, rfl, rfl⟩ (asK [] rfl) rfl rfl (.inl rfl)
theorem w_ropewalkkit_CopySession_s (N : Nat) (a0 : Int) (a1 : Int) (a2 : Int) (a3 : Int) (qp0 : Option Addr) (qc1 : Nat) (l4 : List FactD) (qp2 : Option Addr) (qc3 : Nat) (l5 : List V) (o2 : List FactD) (hm : m_ropewalkkit_CopySession N a0 a1 a2 a3 l4 l5 = some o2) : Spec Tryz.prog 50 [.agg #[.int .i64 a0, .int .i64 a1, .int .i64 a2, .int .i64 a3, .slice qp0 l4.length qc1, .slice qp2 l5.length qc3]] [.sli 3 R_FactD qp0 qc1 l4, .sli 3 R_V qp2 qc3 l5] [] (fun v Φr Hr => ∃ (o0 : Option Addr) (o1 : Nat) (o3 : Nat) (o4 : Option Addr) (o5 : Nat), v = .agg #[.int .i64 a0, .int .i64 a1, .int .i64 a2, .int .i64 a3, .slice o0 o3 o1, .slice o4 (l5).length o5] ∧ Φr = [] ∧ Hr = [treeF T_FactD 55 3 (.slice o0 o3 o1) o2, .own 149 3 R_V (.slice o4 (l5).length o5) l5]) := by
 unfold m_ropewalkkit_CopySession at hm
 refine spec_of Tryz.func50 rfl Tryz.ntmps50 rfl (S := [_]) rfl (fun C => (wc_seq (wc_region (wB rfl (fun g1 => (wl_alloc rfl rfl rfl (freshS_eq rfl) rfl tZ_31 rfl (fun g2 => (wl_nil (we_then (wc_keep [2,1] (S' := [_,_]) rfl (wc_seq (wc_region (wF rfl tF_31_2 (wl_loadH 1 2 rfl rfl rfl (freshS_eq rfl) rfl rfl rfl (cs := [_,_,_,_]) rfl tS_29 tA_29 rfl rfl ?_))))))))))))))
 obtain ⟨v5, hc5, hm⟩ := bindO_some hm
 refine wC [] [0,1] rfl fn_54 rfl (w_ropewalkkit_CopyReply_s N a2 a3 qp0 qc1 l4 qp2 qc3 l5 _ hc5) (asK [0,1] rfl) rfl (H' := [_,_]) rfl ?_
 rintro _ _ _ ⟨p5_0, c5_1, c5_2, p5_3, c5_4, rfl, rfl, rfl⟩
 refine wF rfl tF_31_2 (wS 3 2 rfl tS_29 (all' := [_,_,_,_,_,_]) rfl (H' := [_,_,_,_]) rfl (wl_nil (we_then (wc_keep [2,1] (S' := [_,_]) rfl (wc_seq (wc_region (wl_loadH 3 0 rfl rfl rfl (freshS_eq rfl) rfl rfl rfl (cs := [_,_,_,_,_,_]) rfl tS_31 tA_31 rfl rfl (wS 2 0 rfl tS_31 (all' := [_,_,_,_,_,_]) rfl (H' := [_,_,_,_]) rfl (wl_nil (we_then (wc_keep [2] (S' := [_]) rfl (wc_ret ?_))))))))))))
 have hE := (Option.some.inj hm).symm
 replace hE := hE.symm
 subst hE
 refine ret_one (Hr := [_,_]) [0,1] Tryz.results50 (res_cell 2 rfl rfl tS_31 tA_31 rfl rfl) ⟨p5_0, c5_1, c5_2, p5_3, c5_4, rfl, rfl, rfl⟩ (asK [] rfl) rfl rfl (.inl rfl)
theorem w_ropewalkkit_CopySessions_s (N : Nat) (qp0 : Option Addr) (qc1 : Nat) (l0 : List SessD) (o2 : List SessD) (hm : m_ropewalkkit_CopySessions N l0 = some o2) : Spec Tryz.prog 26 [.slice qp0 l0.length qc1] [.sli 6 R_SessD qp0 qc1 l0] [] (fun v Φr Hr => ∃ (o0 : Option Addr) (o1 : Nat) (o3 : Nat), v = .slice o0 o3 o1 ∧ Φr = [] ∧ Hr = [treeF T_SessD 31 6 (.slice o0 o3 o1) o2]) := by
 unfold m_ropewalkkit_CopySessions at hm
 refine spec_of Tryz.func26 rfl Tryz.ntmps26 rfl (S := [_]) rfl (fun C => (wc_seq (wc_region (wP rfl (wl_nil (we_then (wc_keep [0] (S' := [_]) rfl (wc_seq (wc_region (wP rfl (wl_nil (we_then (wc_seq ?_)))))))))))))
 obtain ⟨bj_1, hm, hLj_1⟩ := bindO_some hm
 refine wc_cut (σ := (List SessD) × (Option Addr) × Nat × Nat) (fun (j_1_3_l, j_1_3_p, j_1_3_c, j_1_3_n) => bj_1 = j_1_3_l) (fun (j_1_3_l, j_1_3_p, j_1_3_c, j_1_3_n) => [(3, .slice j_1_3_p j_1_3_n j_1_3_c)]) (fun (j_1_3_l, j_1_3_p, j_1_3_c, j_1_3_n) => []) (fun (j_1_3_l, j_1_3_p, j_1_3_c, j_1_3_n) => [treeF T_SessD 31 6 (.slice j_1_3_p j_1_3_n j_1_3_c) j_1_3_l]) ?_ ?_
 ·
  refine wc_seq (wc_region (wP rfl (wl_nil (we_then (wc_block (wc_sh [treeF T_SessD 31 6 (.slice none 0 0) []] (fun _ h => h.treeNil T_SessD 31 6) (wc_loop (σ := Nat × Nat × (List SessD) × (Option Addr) × Nat × Nat) (fun (nu1, u1_4, u1_3_l, u1_3_p, u1_3_c, u1_3_n) => iter (m_ropewalkkit_CopySessions_L1 N l0) nu1 (u1_4, u1_3_l) = some bj_1) (fun (nu1, u1_4, u1_3_l, u1_3_p, u1_3_c, u1_3_n) => nu1) (fun (nu1, u1_4, u1_3_l, u1_3_p, u1_3_c, u1_3_n) => [(4, .int .i64 ((u1_4 : Nat) : Int)), (3, .slice u1_3_p u1_3_n u1_3_c), (0, .slice qp0 l0.length qc1)]) (fun (nu1, u1_4, u1_3_l, u1_3_p, u1_3_c, u1_3_n) => [.sli 6 R_SessD qp0 qc1 l0]) (fun (nu1, u1_4, u1_3_l, u1_3_p, u1_3_c, u1_3_n) => [treeF T_SessD 31 6 (.slice u1_3_p u1_3_n u1_3_c) u1_3_l]) (N, 0,[], none, 0,0) hm [4,3,0] rfl (asK [0] rfl) rfl (fun s_ hm => ?_))))))))
  obtain ⟨nu1, u1_4, u1_3_l, u1_3_p, u1_3_c, u1_3_n⟩ := s_
  try dsimp only at hm ⊢
  obtain ⟨mu1, bu1, hnu1, hq, hLu1⟩ := iter_some hm
  clear hm
  subst hnu1
  replace hm := hq
  clear hq
  unfold m_ropewalkkit_CopySessions_L1 at hm
  try dsimp only at hm
  refine wc_seq (wc_seq (wc_region (wP rfl (wP rfl (wN rfl tE_22 (wP rfl (wl_as (d := 9) (v' := .bool (decide (u1_4 < l0.length))) (S' := [_,_,_,_,_,_]) rfl rfl (natlt (a := u1_4) (b := l0.length)) (wl_nil (we_then (wc_keep [9,4,3,0] (S' := [_,_,_,_]) rfl ?_))))))))))
  refine wc_cond rfl (fun hb9 => ?_) (fun hb9 => ?_)
  ·
   replace hm := iteT hm hb9
   refine wc_keep [4,3,0] (S' := [_,_,_]) rfl (wc_skip (we_then (wc_seq (wc_block (wc_seq (wc_region (wP rfl (wP rfl ?_))))))))
   obtain ⟨x14, hx14, hm⟩ := bindO_some hm
   refine wl_indexA 0 u1_4 rfl rfl rfl (freshS_eq rfl) rfl rfl rfl rfl rfl hx14 tE_22 tS_31 (fun b14 q14 cs14 hlx14 => (wl_open R_SessD_opens 1 rfl (fun r14 er14 _ => ?_)))
   subst er14
   refine wl_load 2 0 rfl rfl rfl (freshS_eq rfl) rfl rfl rfl (cs := [_,_,_,_,_,_]) rfl tS_31 tA_31 rfl rfl ?_
   obtain ⟨v16, hc16, hm⟩ := bindO_some hm
   refine wC [] [0] rfl fn_50 rfl (w_ropewalkkit_CopySession_s N x14.id x14.seq x14.r.err x14.r.num r14.1.1 r14.1.2 x14.r.facts r14.2.1 r14.2.2 x14.r.said _ hc16) (asK [0,1] rfl) rfl (H' := [_]) rfl ?_
   rintro _ _ _ ⟨p16_0, c16_1, c16_2, p16_3, c16_4, rfl, rfl, rfl⟩
   refine wl_alloc rfl rfl rfl (freshS_eq rfl) rfl tZ_31 rfl (fun g5 => (wS 0 0 rfl tS_31 (all' := [_,_,_,_,_,_]) rfl (H' := [_,_,_,_]) rfl (wl_nil (we_then (wc_keep [5,4,3,0] (S' := [_,_,_,_]) rfl (wc_region (wP rfl (wl_loadH 0 0 rfl rfl rfl (freshS_eq rfl) rfl rfl rfl (cs := [_,_,_,_,_,_]) rfl tS_31 tA_31 rfl rfl (wl_buildSlice rfl rfl rfl (freshS_eq rfl) rfl tE_22 tS_31 tZ_31 rfl (zs := [.int .i64 0, .int .i64 0, .int .i64 0, .int .i64 0, .slice none 0 0, .slice none 0 0]) (by kernel_rfl) rfl (out := [_,_,_,_,_,_]) rfl (fun g19 => (wl_treeLen 4 rfl (fun hzt30 _ => ?_))))))))))))
   subst hzt30
   refine wl_treeLen 2 rfl (fun hzt31 _ => ?_)
   subst hzt31
   refine wl_ownLen 3 rfl (fun hz32 _ => (wl_at 1 (v' := .agg #[.int .i64 (x14.id), .int .i64 (x14.seq), .int .i64 (x14.r.err), .int .i64 (x14.r.num), .slice p16_0 v16.length c16_1, .slice p16_3 x14.r.said.length c16_4]) rfl (by rw [hz32]) (wl_hAs 0 (φ' := .blk g19 [.int .i64 (x14.id), .int .i64 (x14.seq), .int .i64 (x14.r.err), .int .i64 (x14.r.num), .slice p16_0 v16.length c16_1, .slice p16_3 x14.r.said.length c16_4] 31) rfl (by rw [hz32]) (H' := [_,_,_,_,_]) rfl (wl_hAs 1 (φ' := .blk g5 [.int .i64 (x14.id), .int .i64 (x14.seq), .int .i64 (x14.r.err), .int .i64 (x14.r.num), .slice p16_0 v16.length c16_1, .slice p16_3 x14.r.said.length c16_4] 31) rfl (by rw [hz32]) (H' := [_,_,_,_,_]) rfl (wl_hAs 3 (φ' := .own 149 3 R_V (.slice p16_3 x14.r.said.length c16_4) x14.r.said) rfl (by rw [hz32]) (H' := [_,_,_,_,_]) rfl (wl_treeOut 4 rfl (fun zz20 hzz20 => ?_)))))))
   obtain ⟨hg20, hm⟩ := gd_some hm
   have hzs12 : List.map (fun x : SessD × ((Option Addr × Nat) × (Option Addr × Nat)) => x.1) (zz20 ++ [((⟨x14.id, x14.seq, (⟨x14.r.err, x14.r.num, v16, x14.r.said⟩ : ReplyD)⟩ : SessD), ((p16_0, c16_1), (p16_3, c16_4)))]) = u1_3_l ++ [(⟨x14.id, x14.seq, (⟨x14.r.err, x14.r.num, v16, x14.r.said⟩ : ReplyD)⟩ : SessD)] := pair_app hzz20 (us := [(⟨x14.id, x14.seq, (⟨x14.r.err, x14.r.num, v16, x14.r.said⟩ : ReplyD)⟩ : SessD)]) rfl
   have hgl20 : zz20.length + ([((⟨x14.id, x14.seq, (⟨x14.r.err, x14.r.num, v16, x14.r.said⟩ : ReplyD)⟩ : SessD), ((p16_0, c16_1), (p16_3, c16_4)))] : List (SessD × ((Option Addr × Nat) × (Option Addr × Nat)))).length ≤ 1759218604441 := by rw [pair_len hzz20]; exact hg20
   refine wl_appendH (R := T_SessD.pair) ([((⟨x14.id, x14.seq, (⟨x14.r.err, x14.r.num, v16, x14.r.said⟩ : ReplyD)⟩ : SessD), ((p16_0, c16_1), (p16_3, c16_4)))]) 5 1 rfl rfl rfl (freshS_eq rfl) rfl rfl rfl rfl rfl (fun F w hφ => ⟨[.int .i64 (x14.id), .int .i64 (x14.seq), .int .i64 (x14.r.err), .int .i64 (x14.r.num), .slice p16_0 v16.length c16_1, .slice p16_3 x14.r.said.length c16_4],[], rfl, rfl, rfl, rfl⟩) tE_22 tR_31 rfl rfl (Nat.le_trans hgl20 (by decide)) (Nat.le_trans (Nat.mul_le_mul_right _ hgl20) (by decide)) (H2 := fun p20 c20 => [_,_,_,_,_, .own 31 6 T_SessD.pair (.slice p20 ((zz20 ++ [((⟨x14.id, x14.seq, (⟨x14.r.err, x14.r.num, v16, x14.r.said⟩ : ReplyD)⟩ : SessD), ((p16_0, c16_1), (p16_3, c16_4)))]).length) c20) (zz20 ++ [((⟨x14.id, x14.seq, (⟨x14.r.err, x14.r.num, v16, x14.r.said⟩ : ReplyD)⟩ : SessD), ((p16_0, c16_1), (p16_3, c16_4)))])]) (fun _ _ => rfl) (fun p20 c20 => (wl_drop 1 rfl (H' := [_,_,_,_,_]) rfl (wl_as (d := 20) (v' := .slice p20 ((u1_3_l ++ [(⟨x14.id, x14.seq, (⟨x14.r.err, x14.r.num, v16, x14.r.said⟩ : ReplyD)⟩ : SessD)]).length) c20) (S' := [_,_,_,_,_,_,_]) rfl rfl (by rw [pair_len hzs12]) (wl_hAs 4 (φ' := .own 31 6 T_SessD.pair (.slice p20 ((u1_3_l ++ [(⟨x14.id, x14.seq, (⟨x14.r.err, x14.r.num, v16, x14.r.said⟩ : ReplyD)⟩ : SessD)]).length) c20) (zz20 ++ [((⟨x14.id, x14.seq, (⟨x14.r.err, x14.r.num, v16, x14.r.said⟩ : ReplyD)⟩ : SessD), ((p16_0, c16_1), (p16_3, c16_4)))])) rfl (by rw [pair_len hzs12]) (H' := [_,_,_,_,_]) rfl (wl_pick [3,2,0,1,4] rfl (H' := [_,_,_,_,_]) rfl (wl_sh [bagF T_SessD (zz20 ++ [((⟨x14.id, x14.seq, (⟨x14.r.err, x14.r.num, v16, x14.r.said⟩ : ReplyD)⟩ : SessD), ((p16_0, c16_1), (p16_3, c16_4)))]) none, _,_] (fun _ h => Holds.bagPush (T := T_SessD) (x := (⟨x14.id, x14.seq, (⟨x14.r.err, x14.r.num, v16, x14.r.said⟩ : ReplyD)⟩ : SessD)) (r := ((p16_0, c16_1), (p16_3, c16_4))) (zs := zz20) (H := [_,_,_]) h 0 rfl) (wl_sh [_, treeF T_SessD 31 6 (.slice p20 ((u1_3_l ++ [(⟨x14.id, x14.seq, (⟨x14.r.err, x14.r.num, v16, x14.r.said⟩ : ReplyD)⟩ : SessD)]).length) c20) (u1_3_l ++ [(⟨x14.id, x14.seq, (⟨x14.r.err, x14.r.num, v16, x14.r.said⟩ : ReplyD)⟩ : SessD)])] (fun _ h => h.treeIn 2 0 rfl rfl rfl hzs12) (wl_pure (S' := [_,_,_,_,_,_,_]) rfl rfl rfl rfl rfl (wl_nil (we_block_normal (we_then (wc_keep [3,4,0] (S' := [_,_,_]) rfl (wc_region (wP rfl ?_))))))))))))))
   refine wP rfl ?_
   obtain ⟨hg11, hm⟩ := gd_some hm
   refine wl_as (d := 11) (v' := .int .i64 ((u1_4 + 1 : Nat) : Int)) (S' := [_,_,_,_]) rfl rfl (nat_add (a := u1_4) (b := 1) hg11) (wl_pure (S' := [_,_,_,_]) rfl rfl rfl rfl rfl (wl_nil ?_))
   have hE := (Option.some.inj hm).symm
   replace hE := link_inl hLu1 hE
   refine we_pick [1] rfl (H' := [_]) rfl ?_
   refine we_roundK (_, u1_4 + 1, (u1_3_l ++ [(⟨x14.id, x14.seq, (⟨x14.r.err, x14.r.num, v16, x14.r.said⟩ : ReplyD)⟩ : SessD)]), p20, c20, ((u1_3_l ++ [(⟨x14.id, x14.seq, (⟨x14.r.err, x14.r.num, v16, x14.r.said⟩ : ReplyD)⟩ : SessD)]).length)) (Nat.lt_succ_self _) hE [4,3,0] rfl (asK [4] rfl) rfl
  ·
   replace hm := iteF hm hb9
   refine wc_keep [3] (S' := [_]) rfl (wc_exit (we_then_exit (we_then_exit (we_block_hit ?_))))
   have hE := (Option.some.inj hm).symm
   replace hE := link_inr hLu1 hE
   refine we_join (u1_3_l, u1_3_p, u1_3_c, u1_3_n) hE [3] rfl (asK [] rfl) rfl
 ·
  rintro ⟨j_1_3_l, j_1_3_p, j_1_3_c, j_1_3_n⟩ hE
  try dsimp only
  have hm := hLj_1
  rw [hE] at hm
  refine wc_seq (wc_region (wP rfl (wP rfl (wl_nil (we_then (wc_keep [2] (S' := [_]) rfl (wc_ret ?_)))))))
  have hE := (Option.some.inj hm).symm
  replace hE := hE.symm
  subst hE
  refine ret_one (Hr := [_]) [0] Tryz.results26 (res_tmp rfl) ⟨j_1_3_p, j_1_3_c, j_1_3_n, rfl, rfl, rfl⟩ (asK [] rfl) rfl rfl (.inl rfl)
theorem w_ropewalkref27_Of_s0 (N : Nat) (a0 : Int) (qp0 : Option Addr) (qc1 : Nat) (l1 : List SessD)  (hm : m_ropewalkref27_Of N a0 l1 = some (.inl ())) : Spec Tryz.prog 11 [.int .i64 a0, .slice qp0 l1.length qc1] [.sli 6 R_SessD qp0 qc1 l1] [] (fun v Φr Hr => v = .tuple #[.pointer none, .int .i64 4] ∧ Φr = [] ∧ Hr = []) := by
 unfold m_ropewalkref27_Of at hm
 refine spec_of Tryz.func11 rfl Tryz.ntmps11 rfl (S := [_,_]) rfl (fun C => (wc_seq (wc_region (wP rfl (wP rfl (wl_nil (we_then (wc_keep [0,1] (S' := [_,_]) rfl (wc_seq (wc_seq ?_))))))))))
 obtain ⟨bj_1, hm, hLj_1⟩ := bindO_some hm
 refine wc_cut (σ := Bool) (fun j_1_18 => bj_1 = j_1_18) (fun j_1_18 => [(0, .int .i64 a0), (1, .slice qp0 l1.length qc1), (18, .bool j_1_18)]) (fun j_1_18 => [.sli 6 R_SessD qp0 qc1 l1]) (fun j_1_18 => []) ?_ ?_
 ·
  refine wc_region (wP rfl (wP rfl (wP rfl ?_)))
  refine wl_split (d := 10) (S' := [_,_,_,_]) rfl rfl (fun hs10 => ?_) (fun hs10 => ?_)
  ·
   replace hm := iteT hm hs10
   refine wO rfl (wO rfl (wP rfl (wP rfl (wO rfl (wO rfl (wO rfl (wP rfl (wl_nil ?_))))))))
   have hE := (Option.some.inj hm).symm
   refine we_join true hE [0,1,18] rfl (asK [0] rfl) rfl
  ·
   replace hm := iteF hm hs10
   refine wP rfl (wP rfl (wP rfl (wP rfl ?_)))
   refine wl_split (d := 14) (S' := [_,_,_,_,_,_,_,_]) rfl rfl (fun hs14 => ?_) (fun hs14 => ?_)
   ·
    replace hm := iteT hm hs14
    refine wO rfl (wO rfl (wO rfl (wP rfl (wl_nil ?_))))
    have hE := (Option.some.inj hm).symm
    refine we_join true hE [0,1,18] rfl (asK [0] rfl) rfl
   ·
    replace hm := iteF hm hs14
    refine wP rfl (wN rfl tE_22 (wP rfl (wl_as (d := 17) (v' := .bool (decide (32 < l1.length))) (S' := [_,_,_,_,_,_,_,_,_,_,_]) rfl rfl (natgt (a := l1.length) (b := 32)) (wP rfl (wl_nil ?_)))))
    have hE := (Option.some.inj hm).symm
    refine we_join (decide (32 < l1.length)) hE [0,1,18] rfl (asK [0] rfl) rfl
 ·
  rintro j_1_18 hE
  try dsimp only
  have hm := hLj_1
  rw [hE] at hm
  refine wc_cond rfl (fun hb18 => ?_) (fun hb18 => ?_)
  ·
   replace hm := iteT hm hb18
   refine wc_keep [] (S' := []) rfl (wc_seq (wc_region (wP rfl (wP rfl (wl_nil (we_then (wc_ret (we_then_ret ?_))))))))
   have hE := (Option.some.inj hm).symm
   replace hE := Sum.inl.inj hE
   refine ret_two (Hr := []) [] Tryz.results11 (res_tmp rfl) (res_tmp rfl) ⟨rfl, rfl, rfl⟩ (asK [] rfl) rfl rfl (.inl rfl)
  ·
   replace hm := iteF hm hb18
   refine wc_keep [0,1] (S' := [_,_]) rfl (wc_skip (we_then (wc_seq (wc_region (wP rfl (wl_nil (we_then (wc_seq ?_))))))))
   obtain ⟨bj_2, hm, hLj_2⟩ := bindS_some hm
   refine wc_cut (σ := Unit) (fun _ => bj_2 = .inl ()) (fun _ => [(0, .int .i64 a0), (1, .slice qp0 l1.length qc1)]) (fun _ => [.sli 6 R_SessD qp0 qc1 l1]) (fun _ => []) ?_ ?_
   ·
    refine wc_seq (wc_region (wP rfl (wl_nil (we_then (wc_block (wc_loop (σ := Nat × Nat × Int) (fun (nu1, u1_7, u1_6) => iter (m_ropewalkref27_Of_L1 N l1 a0) nu1 (u1_7, u1_6) = some bj_2) (fun (nu1, u1_7, u1_6) => nu1) (fun (nu1, u1_7, u1_6) => [(7, .int .i64 ((u1_7 : Nat) : Int)), (6, .int .i64 u1_6), (0, .int .i64 a0), (1, .slice qp0 l1.length qc1)]) (fun (nu1, u1_7, u1_6) => [.sli 6 R_SessD qp0 qc1 l1]) (fun (nu1, u1_7, u1_6) => []) (N, 0,0) hm [7,6,0,1] rfl (asK [0] rfl) rfl (fun s_ hm => ?_)))))))
    obtain ⟨nu1, u1_7, u1_6⟩ := s_
    try dsimp only at hm ⊢
    obtain ⟨mu1, bu1, hnu1, hq, hLu1⟩ := iter_some hm
    clear hm
    subst hnu1
    replace hm := hq
    clear hq
    unfold m_ropewalkref27_Of_L1 at hm
    try dsimp only at hm
    refine wc_seq (wc_seq (wc_region (wP rfl (wP rfl (wN rfl tE_22 (wP rfl (wl_as (d := 22) (v' := .bool (decide (u1_7 < l1.length))) (S' := [_,_,_,_,_,_,_]) rfl rfl (natlt (a := u1_7) (b := l1.length)) (wl_nil (we_then (wc_keep [22,7,6,0,1] (S' := [_,_,_,_,_]) rfl ?_))))))))))
    refine wc_cond rfl (fun hb22 => ?_) (fun hb22 => ?_)
    ·
     replace hm := iteT hm hb22
     refine wc_keep [7,6,0,1] (S' := [_,_,_,_]) rfl (wc_skip (we_then (wc_seq (wc_block (wc_seq (wc_seq ?_))))))
     obtain ⟨bj_3, hm, hLj_3⟩ := bindO_some hm
     unfold m_ropewalkref27_Of_C3 at hm
     refine wc_cut (σ := Bool) (fun j_3_48 => bj_3 = j_3_48) (fun j_3_48 => [(7, .int .i64 ((u1_7 : Nat) : Int)), (0, .int .i64 a0), (1, .slice qp0 l1.length qc1), (48, .bool j_3_48)]) (fun j_3_48 => [.sli 6 R_SessD qp0 qc1 l1]) (fun j_3_48 => []) ?_ ?_
     ·
      refine wc_region (wP rfl (wP rfl ?_))
      obtain ⟨x27, hx27, hm⟩ := bindO_some hm
      refine wl_indexA 0 u1_7 rfl rfl rfl (freshS_eq rfl) rfl rfl rfl rfl rfl hx27 tE_22 tS_31 (fun b27 q27 cs27 hlx27 => (wl_open R_SessD_opens 1 rfl (fun r27 er27 _ => ?_)))
      subst er27
      refine wF rfl tF_31_0 (wl_load 2 0 rfl rfl rfl (freshS_eq rfl) rfl rfl rfl (cs := [_]) rfl tS_3 tA_3 rfl rfl (wP rfl (wP rfl (wP rfl ?_))))
      refine wl_split (d := 32) (S' := [_,_,_,_,_,_,_,_,_,_,_]) rfl rfl (fun hs32 => ?_) (fun hs32 => ?_)
      ·
       replace hm := iteT hm hs32
       refine wO rfl (wO rfl (wO rfl (wO rfl (wO rfl (wO rfl (wO rfl (wP rfl (wP rfl (wO rfl (wO rfl (wO rfl (wO rfl (wO rfl ?_)))))))))))))
       refine wO rfl (wP rfl (wl_nil ?_))
       have hE := (Option.some.inj hm).symm
       refine we_join true hE [7,0,1,48] rfl (asK [4] rfl) rfl
      ·
       replace hm := iteF hm hs32
       refine wP rfl (wP rfl ?_)
       obtain ⟨x35, hx35, hm⟩ := bindO_some hm
       refine wl_indexA 4 u1_7 rfl rfl rfl (freshS_eq rfl) rfl rfl rfl rfl rfl hx35 tE_22 tS_31 (fun b35 q35 cs35 hlx35 => (wl_open R_SessD_opens 1 rfl (fun r35 er35 _ => ?_)))
       subst er35
       refine wF rfl tF_31_0 (wl_load 2 0 rfl rfl rfl (freshS_eq rfl) rfl rfl rfl (cs := [_]) rfl tS_3 tA_3 rfl rfl (wP rfl (wP rfl (wP rfl (wP rfl ?_)))))
       refine wl_split (d := 41) (S' := [_,_,_,_,_,_,_,_,_,_,_,_,_,_,_,_,_,_,_,_]) rfl rfl (fun hs41 => ?_) (fun hs41 => ?_)
       ·
        replace hm := iteT hm hs41
        refine wO rfl (wO rfl (wO rfl (wO rfl (wO rfl (wO rfl (wP rfl (wl_nil ?_)))))))
        have hE := (Option.some.inj hm).symm
        refine we_join true hE [7,0,1,48] rfl (asK [8] rfl) rfl
       ·
        replace hm := iteF hm hs41
        refine wP rfl (wP rfl ?_)
        obtain ⟨x44, hx44, hm⟩ := bindO_some hm
        refine wl_indexA 8 u1_7 rfl rfl rfl (freshS_eq rfl) rfl rfl rfl rfl rfl hx44 tE_22 tS_31 (fun b44 q44 cs44 hlx44 => (wl_open R_SessD_opens 1 rfl (fun r44 er44 _ => ?_)))
        subst er44
        refine wF rfl tF_31_1 (wl_load 2 1 rfl rfl rfl (freshS_eq rfl) rfl rfl rfl (cs := [_]) rfl tS_3 tA_3 rfl rfl (wP rfl (wP rfl (wl_nil ?_))))
        have hE := (Option.some.inj hm).symm
        refine we_join (decide (x44.seq < 0)) hE [7,0,1,48] rfl (asK [12] rfl) rfl
     ·
      rintro j_3_48 hE
      try dsimp only
      have hm := hLj_3
      rw [hE] at hm
      refine wc_cond rfl (fun hb48 => ?_) (fun hb48 => ?_)
      ·
       replace hm := iteT hm hb48
       refine wc_keep [] (S' := []) rfl (wc_seq (wc_region (wP rfl (wP rfl (wl_nil (we_then (wc_ret (we_then_ret (we_block_ret (we_then_ret (we_then_ret (we_block_ret (we_then_ret ?_)))))))))))))
       have hE := (Option.some.inj hm).symm
       replace hE := link_inr hLu1 hE
       replace hE := link_inr hLj_2 hE
       replace hE := Sum.inl.inj hE
       refine ret_two (Hr := []) [] Tryz.results11 (res_tmp rfl) (res_tmp rfl) ⟨rfl, rfl, rfl⟩ (asK [] rfl) rfl rfl (.inl rfl)
      ·
       replace hm := iteF hm hb48
       refine wc_keep [7,0,1] (S' := [_,_,_]) rfl (wc_skip (we_then (wc_region (wP rfl (wP rfl ?_)))))
       obtain ⟨x51, hx51, hm⟩ := bindO_some hm
       refine wl_indexA 0 u1_7 rfl rfl rfl (freshS_eq rfl) rfl rfl rfl rfl rfl hx51 tE_22 tS_31 (fun b51 q51 cs51 hlx51 => (wl_open R_SessD_opens 1 rfl (fun r51 er51 _ => ?_)))
       subst er51
       refine wF rfl tF_31_0 (wl_load 2 0 rfl rfl rfl (freshS_eq rfl) rfl rfl rfl (cs := [_]) rfl tS_3 tA_3 rfl rfl (wP rfl (wl_nil (we_block_normal (we_then (wc_keep [6,7,0,1] (S' := [_,_,_,_]) rfl (wc_region (wP rfl (wP rfl ?_)))))))))
       obtain ⟨hg24, hm⟩ := gd_some hm
       refine wl_as (d := 24) (v' := .int .i64 ((u1_7 + 1 : Nat) : Int)) (S' := [_,_,_,_,_]) rfl rfl (nat_add (a := u1_7) (b := 1) hg24) (wl_pure (S' := [_,_,_,_,_]) rfl rfl rfl rfl rfl (wl_nil ?_))
       have hE := (Option.some.inj hm).symm
       replace hE := link_inl hLu1 hE
       refine we_roundK (_, u1_7 + 1, x51.id) (Nat.lt_succ_self _) hE [7,6,0,1] rfl (asK [4] rfl) rfl
    ·
     replace hm := iteF hm hb22
     refine wc_keep [0,1] (S' := [_,_]) rfl (wc_exit (we_then_exit (we_then_exit (we_block_hit ?_))))
     have hE := (Option.some.inj hm).symm
     replace hE := link_inr hLu1 hE
     refine we_join () hE [0,1] rfl (asK [0] rfl) rfl
   ·
    rintro _ hE
    try dsimp only
    have hm := link_inl hLj_2 hE
    try dsimp only at hm
    refine wc_seq (wc_region (wP rfl ?_))
    obtain ⟨v55, hc55, hm⟩ := bindO_some hm
    refine wC [] [] rfl fn_26 rfl (w_ropewalkkit_CopySessions_s N qp0 qc1 l1 _ hc55) (asK [0] rfl) rfl (H' := []) rfl ?_
    rintro _ _ _ ⟨p55_0, c55_1, c55_2, rfl, rfl, rfl⟩
    refine wP rfl (wl_build rfl rfl rfl (freshS_eq rfl) rfl tZ_67 tP_67 rfl (out := [_,_]) rfl (wB rfl (fun g58 => (wP rfl (wP rfl (wl_nil (we_then (wc_keep [5,4] (S' := [_,_]) rfl (wc_ret ?_)))))))))
    have hE := (Option.some.inj hm).symm
    cases hE
theorem w_ropewalkref27_Of_s1 (N : Nat) (a0 : Int) (qp0 : Option Addr) (qc1 : Nat) (l1 : List SessD) (o3 : List SessD) (hm : m_ropewalkref27_Of N a0 l1 = some (.inr o3)) : Spec Tryz.prog 11 [.int .i64 a0, .slice qp0 l1.length qc1] [.sli 6 R_SessD qp0 qc1 l1] [] (fun v Φr Hr => ∃ (o0 : Nat) (o1 : Option Addr) (o2 : Nat) (o4 : Nat), v = .tuple #[.pointer (some ⟨o0,0, none⟩), .int .i64 0] ∧ Φr = [] ∧ Hr = [.blk o0 [.slice o1 o4 o2, .int .i64 a0] 67, treeF T_SessD 31 6 (.slice o1 o4 o2) o3]) := by
 unfold m_ropewalkref27_Of at hm
 refine spec_of Tryz.func11 rfl Tryz.ntmps11 rfl (S := [_,_]) rfl (fun C => (wc_seq (wc_region (wP rfl (wP rfl (wl_nil (we_then (wc_keep [0,1] (S' := [_,_]) rfl (wc_seq (wc_seq ?_))))))))))
 obtain ⟨bj_1, hm, hLj_1⟩ := bindO_some hm
 refine wc_cut (σ := Bool) (fun j_1_18 => bj_1 = j_1_18) (fun j_1_18 => [(0, .int .i64 a0), (1, .slice qp0 l1.length qc1), (18, .bool j_1_18)]) (fun j_1_18 => [.sli 6 R_SessD qp0 qc1 l1]) (fun j_1_18 => []) ?_ ?_
 ·
  refine wc_region (wP rfl (wP rfl (wP rfl ?_)))
  refine wl_split (d := 10) (S' := [_,_,_,_]) rfl rfl (fun hs10 => ?_) (fun hs10 => ?_)
  ·
   replace hm := iteT hm hs10
   refine wO rfl (wO rfl (wP rfl (wP rfl (wO rfl (wO rfl (wO rfl (wP rfl (wl_nil ?_))))))))
   have hE := (Option.some.inj hm).symm
   refine we_join true hE [0,1,18] rfl (asK [0] rfl) rfl
  ·
   replace hm := iteF hm hs10
   refine wP rfl (wP rfl (wP rfl (wP rfl ?_)))
   refine wl_split (d := 14) (S' := [_,_,_,_,_,_,_,_]) rfl rfl (fun hs14 => ?_) (fun hs14 => ?_)
   ·
    replace hm := iteT hm hs14
    refine wO rfl (wO rfl (wO rfl (wP rfl (wl_nil ?_))))
    have hE := (Option.some.inj hm).symm
    refine we_join true hE [0,1,18] rfl (asK [0] rfl) rfl
   ·
    replace hm := iteF hm hs14
    refine wP rfl (wN rfl tE_22 (wP rfl (wl_as (d := 17) (v' := .bool (decide (32 < l1.length))) (S' := [_,_,_,_,_,_,_,_,_,_,_]) rfl rfl (natgt (a := l1.length) (b := 32)) (wP rfl (wl_nil ?_)))))
    have hE := (Option.some.inj hm).symm
    refine we_join (decide (32 < l1.length)) hE [0,1,18] rfl (asK [0] rfl) rfl
 ·
  rintro j_1_18 hE
  try dsimp only
  have hm := hLj_1
  rw [hE] at hm
  refine wc_cond rfl (fun hb18 => ?_) (fun hb18 => ?_)
  ·
   replace hm := iteT hm hb18
   refine wc_keep [] (S' := []) rfl (wc_seq (wc_region (wP rfl (wP rfl (wl_nil (we_then (wc_ret (we_then_ret ?_))))))))
   have hE := (Option.some.inj hm).symm
   cases hE
  ·
   replace hm := iteF hm hb18
   refine wc_keep [0,1] (S' := [_,_]) rfl (wc_skip (we_then (wc_seq (wc_region (wP rfl (wl_nil (we_then (wc_seq ?_))))))))
   obtain ⟨bj_2, hm, hLj_2⟩ := bindS_some hm
   refine wc_cut (σ := Unit) (fun _ => bj_2 = .inl ()) (fun _ => [(0, .int .i64 a0), (1, .slice qp0 l1.length qc1)]) (fun _ => [.sli 6 R_SessD qp0 qc1 l1]) (fun _ => []) ?_ ?_
   ·
    refine wc_seq (wc_region (wP rfl (wl_nil (we_then (wc_block (wc_loop (σ := Nat × Nat × Int) (fun (nu1, u1_7, u1_6) => iter (m_ropewalkref27_Of_L1 N l1 a0) nu1 (u1_7, u1_6) = some bj_2) (fun (nu1, u1_7, u1_6) => nu1) (fun (nu1, u1_7, u1_6) => [(7, .int .i64 ((u1_7 : Nat) : Int)), (6, .int .i64 u1_6), (0, .int .i64 a0), (1, .slice qp0 l1.length qc1)]) (fun (nu1, u1_7, u1_6) => [.sli 6 R_SessD qp0 qc1 l1]) (fun (nu1, u1_7, u1_6) => []) (N, 0,0) hm [7,6,0,1] rfl (asK [0] rfl) rfl (fun s_ hm => ?_)))))))
    obtain ⟨nu1, u1_7, u1_6⟩ := s_
    try dsimp only at hm ⊢
    obtain ⟨mu1, bu1, hnu1, hq, hLu1⟩ := iter_some hm
    clear hm
    subst hnu1
    replace hm := hq
    clear hq
    unfold m_ropewalkref27_Of_L1 at hm
    try dsimp only at hm
    refine wc_seq (wc_seq (wc_region (wP rfl (wP rfl (wN rfl tE_22 (wP rfl (wl_as (d := 22) (v' := .bool (decide (u1_7 < l1.length))) (S' := [_,_,_,_,_,_,_]) rfl rfl (natlt (a := u1_7) (b := l1.length)) (wl_nil (we_then (wc_keep [22,7,6,0,1] (S' := [_,_,_,_,_]) rfl ?_))))))))))
    refine wc_cond rfl (fun hb22 => ?_) (fun hb22 => ?_)
    ·
     replace hm := iteT hm hb22
     refine wc_keep [7,6,0,1] (S' := [_,_,_,_]) rfl (wc_skip (we_then (wc_seq (wc_block (wc_seq (wc_seq ?_))))))
     obtain ⟨bj_3, hm, hLj_3⟩ := bindO_some hm
     refine wc_cut (σ := Bool) (fun j_3_48 => bj_3 = j_3_48) (fun j_3_48 => [(7, .int .i64 ((u1_7 : Nat) : Int)), (0, .int .i64 a0), (1, .slice qp0 l1.length qc1), (48, .bool j_3_48)]) (fun j_3_48 => [.sli 6 R_SessD qp0 qc1 l1]) (fun j_3_48 => []) ?_ ?_
     ·
      refine wc_region (wP rfl (wP rfl ?_))
      obtain ⟨x27, hx27, hm⟩ := bindO_some hm
      refine wl_indexA 0 u1_7 rfl rfl rfl (freshS_eq rfl) rfl rfl rfl rfl rfl hx27 tE_22 tS_31 (fun b27 q27 cs27 hlx27 => (wl_open R_SessD_opens 1 rfl (fun r27 er27 _ => ?_)))
      subst er27
      refine wF rfl tF_31_0 (wl_load 2 0 rfl rfl rfl (freshS_eq rfl) rfl rfl rfl (cs := [_]) rfl tS_3 tA_3 rfl rfl (wP rfl (wP rfl (wP rfl ?_))))
      refine wl_split (d := 32) (S' := [_,_,_,_,_,_,_,_,_,_,_]) rfl rfl (fun hs32 => ?_) (fun hs32 => ?_)
      ·
       replace hm := iteT hm hs32
       refine wO rfl (wO rfl (wO rfl (wO rfl (wO rfl (wO rfl (wO rfl (wP rfl (wP rfl (wO rfl (wO rfl (wO rfl (wO rfl (wO rfl ?_)))))))))))))
       refine wO rfl (wP rfl (wl_nil ?_))
       have hE := (Option.some.inj hm).symm
       refine we_join true hE [7,0,1,48] rfl (asK [4] rfl) rfl
      ·
       replace hm := iteF hm hs32
       refine wP rfl (wP rfl ?_)
       obtain ⟨x35, hx35, hm⟩ := bindO_some hm
       refine wl_indexA 4 u1_7 rfl rfl rfl (freshS_eq rfl) rfl rfl rfl rfl rfl hx35 tE_22 tS_31 (fun b35 q35 cs35 hlx35 => (wl_open R_SessD_opens 1 rfl (fun r35 er35 _ => ?_)))
       subst er35
       refine wF rfl tF_31_0 (wl_load 2 0 rfl rfl rfl (freshS_eq rfl) rfl rfl rfl (cs := [_]) rfl tS_3 tA_3 rfl rfl (wP rfl (wP rfl (wP rfl (wP rfl ?_)))))
       refine wl_split (d := 41) (S' := [_,_,_,_,_,_,_,_,_,_,_,_,_,_,_,_,_,_,_,_]) rfl rfl (fun hs41 => ?_) (fun hs41 => ?_)
       ·
        replace hm := iteT hm hs41
        refine wO rfl (wO rfl (wO rfl (wO rfl (wO rfl (wO rfl (wP rfl (wl_nil ?_)))))))
        have hE := (Option.some.inj hm).symm
        refine we_join true hE [7,0,1,48] rfl (asK [8] rfl) rfl
       ·
        replace hm := iteF hm hs41
        refine wP rfl (wP rfl ?_)
        obtain ⟨x44, hx44, hm⟩ := bindO_some hm
        refine wl_indexA 8 u1_7 rfl rfl rfl (freshS_eq rfl) rfl rfl rfl rfl rfl hx44 tE_22 tS_31 (fun b44 q44 cs44 hlx44 => (wl_open R_SessD_opens 1 rfl (fun r44 er44 _ => ?_)))
        subst er44
        refine wF rfl tF_31_1 (wl_load 2 1 rfl rfl rfl (freshS_eq rfl) rfl rfl rfl (cs := [_]) rfl tS_3 tA_3 rfl rfl (wP rfl (wP rfl (wl_nil ?_))))
        have hE := (Option.some.inj hm).symm
        refine we_join (decide (x44.seq < 0)) hE [7,0,1,48] rfl (asK [12] rfl) rfl
     ·
      rintro j_3_48 hE
      try dsimp only
      have hm := hLj_3
      rw [hE] at hm
      refine wc_cond rfl (fun hb48 => ?_) (fun hb48 => ?_)
      ·
       replace hm := iteT hm hb48
       refine wc_keep [] (S' := []) rfl (wc_seq (wc_region (wP rfl (wP rfl (wl_nil (we_then (wc_ret (we_then_ret (we_block_ret (we_then_ret (we_then_ret (we_block_ret (we_then_ret ?_)))))))))))))
       have hE := (Option.some.inj hm).symm
       replace hE := link_inr hLu1 hE
       replace hE := link_inr hLj_2 hE
       cases hE
      ·
       replace hm := iteF hm hb48
       refine wc_keep [7,0,1] (S' := [_,_,_]) rfl (wc_skip (we_then (wc_region (wP rfl (wP rfl ?_)))))
       obtain ⟨x51, hx51, hm⟩ := bindO_some hm
       refine wl_indexA 0 u1_7 rfl rfl rfl (freshS_eq rfl) rfl rfl rfl rfl rfl hx51 tE_22 tS_31 (fun b51 q51 cs51 hlx51 => (wl_open R_SessD_opens 1 rfl (fun r51 er51 _ => ?_)))
       subst er51
       refine wF rfl tF_31_0 (wl_load 2 0 rfl rfl rfl (freshS_eq rfl) rfl rfl rfl (cs := [_]) rfl tS_3 tA_3 rfl rfl (wP rfl (wl_nil (we_block_normal (we_then (wc_keep [6,7,0,1] (S' := [_,_,_,_]) rfl (wc_region (wP rfl (wP rfl ?_)))))))))
       obtain ⟨hg24, hm⟩ := gd_some hm
       refine wl_as (d := 24) (v' := .int .i64 ((u1_7 + 1 : Nat) : Int)) (S' := [_,_,_,_,_]) rfl rfl (nat_add (a := u1_7) (b := 1) hg24) (wl_pure (S' := [_,_,_,_,_]) rfl rfl rfl rfl rfl (wl_nil ?_))
       have hE := (Option.some.inj hm).symm
       replace hE := link_inl hLu1 hE
       refine we_roundK (_, u1_7 + 1, x51.id) (Nat.lt_succ_self _) hE [7,6,0,1] rfl (asK [4] rfl) rfl
    ·
     replace hm := iteF hm hb22
     refine wc_keep [0,1] (S' := [_,_]) rfl (wc_exit (we_then_exit (we_then_exit (we_block_hit ?_))))
     have hE := (Option.some.inj hm).symm
     replace hE := link_inr hLu1 hE
     refine we_join () hE [0,1] rfl (asK [0] rfl) rfl
   ·
    rintro _ hE
    try dsimp only
    have hm := link_inl hLj_2 hE
    try dsimp only at hm
    refine wc_seq (wc_region (wP rfl ?_))
    obtain ⟨v55, hc55, hm⟩ := bindO_some hm
    refine wC [] [] rfl fn_26 rfl (w_ropewalkkit_CopySessions_s N qp0 qc1 l1 _ hc55) (asK [0] rfl) rfl (H' := []) rfl ?_
    rintro _ _ _ ⟨p55_0, c55_1, c55_2, rfl, rfl, rfl⟩
    refine wP rfl (wl_build rfl rfl rfl (freshS_eq rfl) rfl tZ_67 tP_67 rfl (out := [_,_]) rfl (wB rfl (fun g58 => (wP rfl (wP rfl (wl_nil (we_then (wc_keep [5,4] (S' := [_,_]) rfl (wc_ret ?_)))))))))
    have hE := (Option.some.inj hm).symm
    replace hE := Sum.inr.inj hE
    replace hE := hE.symm
    subst hE
    refine ret_two (Hr := [_,_]) [0,1] Tryz.results11 (res_tmp rfl) (res_tmp rfl) ⟨g58, p55_0, c55_1, c55_2, rfl, rfl, rfl⟩ (asK [] rfl) rfl rfl (.inl rfl)
theorem w_ropewalkkit_SameValues_W_s (N : Nat) (qp0 : Option Addr) (qc1 : Nat) (l0 : List V) (k1 : Nat) (qp2 : Option Addr) (qc3 : Nat) (l2 : List V) (o0 : Bool) (hm : m_ropewalkkit_SameValues_W N l0 k1 l2 = some o0) : Spec Tryz.prog 60 [.slice qp0 k1 qc1, .slice qp2 l2.length qc3] [.sli 3 R_V qp0 qc1 l0, .sli 3 R_V qp2 qc3 l2] [] (fun v Φr Hr => v = .bool o0 ∧ Φr = [] ∧ Hr = []) := by
 unfold m_ropewalkkit_SameValues_W at hm
 refine spec_of Tryz.func60 rfl Tryz.ntmps60 rfl (S := [_,_]) rfl (fun C => (wc_seq (wc_region (wP rfl (wl_nil (we_then (wc_keep [0,1] (S' := [_,_]) rfl (wc_seq (wc_seq (wc_region (wP rfl (wN rfl tE_27 (wP rfl (wN rfl tE_27 ?_))))))))))))))
 refine wP rfl (wl_as (d := 10) (v' := .bool (k1 != l2.length)) (S' := [_,_,_,_,_,_]) rfl rfl (natne (a := k1) (b := l2.length)) (wl_nil (we_then (wc_keep [10,0,1] (S' := [_,_,_]) rfl ?_))))
 refine wc_cond rfl (fun hb10 => ?_) (fun hb10 => ?_)
 ·
  replace hm := iteT hm hb10
  refine wc_keep [] (S' := []) rfl (wc_seq (wc_region (wP rfl (wl_nil (we_then (wc_ret (we_then_ret ?_)))))))
  have hE := (Option.some.inj hm).symm
  replace hE := hE.symm
  subst hE
  refine ret_one (Hr := []) [] Tryz.results60 (res_tmp rfl) ⟨rfl, rfl, rfl⟩ (asK [] rfl) rfl rfl (.inl rfl)
 ·
  replace hm := iteF hm hb10
  refine wc_keep [0,1] (S' := [_,_]) rfl (wc_skip (we_then (wc_seq ?_)))
  obtain ⟨bj_1, hm, hLj_1⟩ := bindS_some hm
  refine wc_cut (σ := Unit) (fun _ => bj_1 = .inl ()) (fun _ => []) (fun _ => []) (fun _ => []) ?_ ?_
  ·
   refine wc_seq (wc_region (wP rfl (wl_nil (we_then (wc_block (wc_loop (σ := Nat × Nat) (fun (nu1, u1_5) => iter (m_ropewalkkit_SameValues_W_L1 N k1 l0 l2) nu1 u1_5 = some bj_1) (fun (nu1, u1_5) => nu1) (fun (nu1, u1_5) => [(5, .int .i64 ((u1_5 : Nat) : Int)), (0, .slice qp0 k1 qc1), (1, .slice qp2 l2.length qc3)]) (fun (nu1, u1_5) => [.sli 3 R_V qp0 qc1 l0, .sli 3 R_V qp2 qc3 l2]) (fun (nu1, u1_5) => []) (N, 0) hm [5,0,1] rfl (asK [0,1] rfl) rfl (fun s_ hm => ?_)))))))
   obtain ⟨nu1, u1_5⟩ := s_
   try dsimp only at hm ⊢
   obtain ⟨mu1, bu1, hnu1, hq, hLu1⟩ := iter_some hm
   clear hm
   subst hnu1
   replace hm := hq
   clear hq
   unfold m_ropewalkkit_SameValues_W_L1 at hm
   try dsimp only at hm
   refine wc_seq (wc_seq (wc_region (wP rfl (wP rfl (wN rfl tE_27 (wP rfl (wl_as (d := 14) (v' := .bool (decide (u1_5 < k1))) (S' := [_,_,_,_,_,_]) rfl rfl (natlt (a := u1_5) (b := k1)) (wl_nil (we_then (wc_keep [14,5,0,1] (S' := [_,_,_,_]) rfl ?_))))))))))
   refine wc_cond rfl (fun hb14 => ?_) (fun hb14 => ?_)
   ·
    replace hm := iteT hm hb14
    refine wc_keep [5,0,1] (S' := [_,_,_]) rfl (wc_skip (we_then (wc_seq (wc_block (wc_seq ?_)))))
    obtain ⟨hqx19, hm⟩ := gd_some hm
    obtain ⟨x19, hx19, hm⟩ := bindO_some hm
    obtain ⟨x23, hx23, hm⟩ := bindO_some hm
    refine wc_draw [0,1,2,3,4,5,6,7,8] rfl rfl (fun hok => (xP hok 0 rfl (xP hok 1 rfl (wx_indexF hok 2 0 u1_5 rfl rfl rfl (freshS_eq rfl) rfl rfl rfl rfl rfl rfl hqx19 hx19 tE_27 tS_149 (fun b19 q19 cs19 hlx19 => (wx_openR R_V_opens 1 rfl (fun r19 er19 _ => ?_)))))))
    subst er19
    refine wx_load hok 3 0 0 rfl rfl rfl (freshS_eq rfl) rfl rfl rfl rfl (cs := [_,_,_]) rfl tS_149 tA_149 rfl rfl (xP hok 4 rfl (xP hok 5 rfl (wx_indexA hok 6 3 u1_5 rfl rfl rfl (freshS_eq rfl) rfl rfl rfl rfl rfl rfl hx23 tE_27 tS_149 (fun b23 q23 cs23 hlx23 => (wx_openR R_V_opens 1 rfl (fun r23 er23 _ => ?_))))))
    subst er23
    refine wx_load hok 7 0 0 rfl rfl rfl (freshS_eq rfl) rfl rfl rfl rfl (cs := [_,_,_]) rfl tS_149 tA_149 rfl rfl (wx_bin hok 8 rfl rfl rfl (freshS_eq rfl) rfl rfl rfl rfl (neqV _ _ x19 x23) (wx_done hok rfl (we_then (wc_keep [25,5,0,1] (S' := [_,_,_,_]) rfl ?_))))
    refine wc_cond rfl (fun hb25 => ?_) (fun hb25 => ?_)
    ·
     replace hm := iteT hm hb25
     refine wc_keep [] (S' := []) rfl (wc_seq (wc_region (wP rfl (wl_nil (we_then (wc_ret (we_block_ret (we_then_ret (we_then_ret (we_block_ret (we_then_ret ?_)))))))))))
     have hE := (Option.some.inj hm).symm
     replace hE := link_inr hLu1 hE
     replace hE := link_inr hLj_1 hE
     replace hE := hE.symm
     subst hE
     refine ret_one (Hr := []) [] Tryz.results60 (res_tmp rfl) ⟨rfl, rfl, rfl⟩ (asK [] rfl) rfl rfl (.inl rfl)
    ·
     replace hm := iteF hm hb25
     refine wc_keep [5,0,1] (S' := [_,_,_]) rfl (wc_skip (we_block_normal (we_then (wc_region (wP rfl (wP rfl ?_))))))
     obtain ⟨hg16, hm⟩ := gd_some hm
     refine wl_as (d := 16) (v' := .int .i64 ((u1_5 + 1 : Nat) : Int)) (S' := [_,_,_,_]) rfl rfl (nat_add (a := u1_5) (b := 1) hg16) (wl_pure (S' := [_,_,_,_]) rfl rfl rfl rfl rfl (wl_nil ?_))
     have hE := (Option.some.inj hm).symm
     replace hE := link_inl hLu1 hE
     refine we_roundK (_, u1_5 + 1) (Nat.lt_succ_self _) hE [5,0,1] rfl (asK [4,5] rfl) rfl
   ·
    replace hm := iteF hm hb14
    refine wc_keep [] (S' := []) rfl (wc_exit (we_then_exit (we_then_exit (we_block_hit ?_))))
    have hE := (Option.some.inj hm).symm
    replace hE := link_inr hLu1 hE
    refine we_join () hE [] rfl (asK [] rfl) rfl
  ·
   rintro _ hE
   try dsimp only
   have hm := link_inl hLj_1 hE
   try dsimp only at hm
   refine wc_seq (wc_region (wP rfl (wl_nil (we_then (wc_ret ?_)))))
   have hE := (Option.some.inj hm).symm
   replace hE := hE.symm
   subst hE
   refine ret_one (Hr := []) [] Tryz.results60 (res_tmp rfl) ⟨rfl, rfl, rfl⟩ (asK [] rfl) rfl rfl (.inl rfl)
theorem w_ropewalkkit_SameFact_W_s (N : Nat) (a0 : Int) (a1 : Int) (qp0 : Option Addr) (qc1 : Nat) (l2 : List V) (k3 : Nat) (a4 : Int) (a5 : Int) (qp2 : Option Addr) (qc3 : Nat) (l6 : List V) (o0 : Bool) (hm : m_ropewalkkit_SameFact_W N a0 a1 l2 k3 a4 a5 l6 = some o0) : Spec Tryz.prog 101 [.agg #[.int .i64 a0, .int .i64 a1, .slice qp0 k3 qc1], .agg #[.int .i64 a4, .int .i64 a5, .slice qp2 l6.length qc3]] [.sli 3 R_V qp0 qc1 l2, .sli 3 R_V qp2 qc3 l6] [] (fun v Φr Hr => v = .bool o0 ∧ Φr = [] ∧ Hr = []) := by
 unfold m_ropewalkkit_SameFact_W at hm
 refine spec_of Tryz.func101 rfl Tryz.ntmps101 rfl (S := [_,_]) rfl (fun C => (wc_seq (wc_region (wB rfl (fun g2 => (wB rfl (fun g3 => (wP rfl (wl_nil (we_then (wc_keep [3,2] (S' := [_,_]) rfl (wc_seq (wc_region (wF rfl tF_55_0 (wD 1 0 rfl tS_3 tA_3 rfl (wF rfl tF_55_0 ?_))))))))))))))))
 refine wD 0 0 rfl tS_3 tA_3 rfl (wP rfl (wP rfl ?_))
 refine wl_split (d := 10) (S' := [_,_,_,_,_,_,_]) rfl rfl (fun hs10 => ?_) (fun hs10 => ?_)
 ·
  replace hm := iteT hm hs10
  refine wF rfl tF_55_1 (wD 1 1 rfl tS_3 tA_3 rfl (wF rfl tF_55_1 (wD 0 1 rfl tS_3 tA_3 rfl (wP rfl (wP rfl (wP rfl ?_))))))
  refine wl_split (d := 17) (S' := [_,_,_,_,_,_,_,_,_,_,_,_,_,_]) rfl rfl (fun hs17 => ?_) (fun hs17 => ?_)
  ·
   replace hm := iteT hm hs17
   refine wF rfl tF_55_2 (wD 1 2 rfl tS_27 tA_27 rfl (wF rfl tF_55_2 (wD 0 2 rfl tS_27 tA_27 rfl ?_)))
   obtain ⟨v22, hc22, hm⟩ := bindO_some hm
   refine wC [] [0,1] rfl fn_60 rfl (w_ropewalkkit_SameValues_W_s N qp0 qc1 l2 k3 qp2 qc3 l6 _ hc22) (asK [0,1] rfl) rfl (H' := [_,_]) rfl ?_
   rintro _ _ _ ⟨rfl, rfl, rfl⟩
   refine wP rfl (wP rfl (wl_nil (we_then (wc_keep [4] (S' := [_]) rfl (wc_ret ?_)))))
   have hE := (Option.some.inj hm).symm
   replace hE := hE.symm
   subst hE
   refine ret_one (Hr := []) [] Tryz.results101 (res_tmp rfl) ⟨rfl, rfl, rfl⟩ (asK [] rfl) rfl rfl (.inl rfl)
  ·
   replace hm := iteF hm hs17
   refine wO rfl (wO rfl (wO rfl (wO rfl (wO rfl (wP rfl (wP rfl (wl_nil (we_then (wc_keep [4] (S' := [_]) rfl (wc_ret ?_))))))))))
   have hE := (Option.some.inj hm).symm
   replace hE := hE.symm
   subst hE
   refine ret_one (Hr := []) [] Tryz.results101 (res_tmp rfl) ⟨rfl, rfl, rfl⟩ (asK [] rfl) rfl rfl (.inl rfl)
 ·
  replace hm := iteF hm hs10
  refine wO rfl (wO rfl (wO rfl (wO rfl (wO rfl (wP rfl (wP rfl (wO rfl (wO rfl (wO rfl (wO rfl (wO rfl (wP rfl (wP rfl ?_)))))))))))))
  refine wl_nil (we_then (wc_keep [4] (S' := [_]) rfl (wc_ret ?_)))
  have hE := (Option.some.inj hm).symm
  replace hE := hE.symm
  subst hE
  refine ret_one (Hr := []) [] Tryz.results101 (res_tmp rfl) ⟨rfl, rfl, rfl⟩ (asK [] rfl) rfl rfl (.inl rfl)
theorem w_ropewalkkit_SameFacts_W_s (N : Nat) (qp0 : Option Addr) (qc1 : Nat) (l0 : List FactDS) (k1 : Nat) (qp2 : Option Addr) (qc3 : Nat) (l2 : List FactD) (o0 : Bool) (hm : m_ropewalkkit_SameFacts_W N l0 k1 l2 = some o0) : Spec Tryz.prog 59 [.slice qp0 k1 qc1, .slice qp2 l2.length qc3] [.sli 3 RS_FactD qp0 qc1 l0, .sli 3 R_FactD qp2 qc3 l2] [] (fun v Φr Hr => v = .bool o0 ∧ Φr = [] ∧ Hr = []) := by
 unfold m_ropewalkkit_SameFacts_W at hm
 refine spec_of Tryz.func59 rfl Tryz.ntmps59 rfl (S := [_,_]) rfl (fun C => (wc_seq (wc_region (wP rfl (wl_nil (we_then (wc_keep [0,1] (S' := [_,_]) rfl (wc_seq (wc_seq (wc_region (wP rfl (wN rfl tE_26 (wP rfl (wN rfl tE_26 ?_))))))))))))))
 refine wP rfl (wl_as (d := 10) (v' := .bool (k1 != l2.length)) (S' := [_,_,_,_,_,_]) rfl rfl (natne (a := k1) (b := l2.length)) (wl_nil (we_then (wc_keep [10,0,1] (S' := [_,_,_]) rfl ?_))))
 refine wc_cond rfl (fun hb10 => ?_) (fun hb10 => ?_)
 ·
  replace hm := iteT hm hb10
  refine wc_keep [] (S' := []) rfl (wc_seq (wc_region (wP rfl (wl_nil (we_then (wc_ret (we_then_ret ?_)))))))
  have hE := (Option.some.inj hm).symm
  replace hE := hE.symm
  subst hE
  refine ret_one (Hr := []) [] Tryz.results59 (res_tmp rfl) ⟨rfl, rfl, rfl⟩ (asK [] rfl) rfl rfl (.inl rfl)
 ·
  replace hm := iteF hm hb10
  refine wc_keep [0,1] (S' := [_,_]) rfl (wc_skip (we_then (wc_seq ?_)))
  obtain ⟨bj_1, hm, hLj_1⟩ := bindS_some hm
  refine wc_cut (σ := Unit) (fun _ => bj_1 = .inl ()) (fun _ => []) (fun _ => []) (fun _ => []) ?_ ?_
  ·
   refine wc_seq (wc_region (wP rfl (wl_nil (we_then (wc_block (wc_loop (σ := Nat × Nat) (fun (nu1, u1_5) => iter (m_ropewalkkit_SameFacts_W_L1 N k1 l0 l2) nu1 u1_5 = some bj_1) (fun (nu1, u1_5) => nu1) (fun (nu1, u1_5) => [(5, .int .i64 ((u1_5 : Nat) : Int)), (0, .slice qp0 k1 qc1), (1, .slice qp2 l2.length qc3)]) (fun (nu1, u1_5) => [.sli 3 RS_FactD qp0 qc1 l0, .sli 3 R_FactD qp2 qc3 l2]) (fun (nu1, u1_5) => []) (N, 0) hm [5,0,1] rfl (asK [0,1] rfl) rfl (fun s_ hm => ?_)))))))
   obtain ⟨nu1, u1_5⟩ := s_
   try dsimp only at hm ⊢
   obtain ⟨mu1, bu1, hnu1, hq, hLu1⟩ := iter_some hm
   clear hm
   subst hnu1
   replace hm := hq
   clear hq
   unfold m_ropewalkkit_SameFacts_W_L1 at hm
   try dsimp only at hm
   refine wc_seq (wc_seq (wc_region (wP rfl (wP rfl (wN rfl tE_26 (wP rfl (wl_as (d := 14) (v' := .bool (decide (u1_5 < k1))) (S' := [_,_,_,_,_,_]) rfl rfl (natlt (a := u1_5) (b := k1)) (wl_nil (we_then (wc_keep [14,5,0,1] (S' := [_,_,_,_]) rfl ?_))))))))))
   refine wc_cond rfl (fun hb14 => ?_) (fun hb14 => ?_)
   ·
    replace hm := iteT hm hb14
    refine wc_keep [5,0,1] (S' := [_,_,_]) rfl (wc_skip (we_then (wc_seq (wc_block (wc_seq ?_)))))
    obtain ⟨hqx19, hm⟩ := gd_some hm
    obtain ⟨x19, hx19, hm⟩ := bindO_some hm
    obtain ⟨x23, hx23, hm⟩ := bindO_some hm
    obtain ⟨v25, hc25, hm⟩ := bindO_some hm
    refine wc_draw [0,1,2,3,4,5,6,7,9] rfl rfl (fun hok => (xP hok 0 rfl (xP hok 1 rfl (wx_indexF hok 2 0 u1_5 rfl rfl rfl (freshS_eq rfl) rfl rfl rfl rfl rfl rfl hqx19 hx19 tE_26 tS_55 (fun b19 q19 cs19 hlx19 => (wx_openR RS_FactD_opens 1 rfl (fun r19 er19 _ => ?_)))))))
    subst er19
    refine wx_load hok 3 1 0 rfl rfl rfl (freshS_eq rfl) rfl rfl rfl rfl (cs := [_,_,_]) rfl tS_55 tA_55 rfl rfl (xP hok 4 rfl (xP hok 5 rfl (wx_indexA hok 6 4 u1_5 rfl rfl rfl (freshS_eq rfl) rfl rfl rfl rfl rfl rfl hx23 tE_26 tS_55 (fun b23 q23 cs23 hlx23 => (wx_openR R_FactD_opens 1 rfl (fun r23 er23 _ => ?_))))))
    subst er23
    refine wx_load hok 7 1 0 rfl rfl rfl (freshS_eq rfl) rfl rfl rfl rfl (cs := [_,_,_]) rfl tS_55 tA_55 rfl rfl (xS hok 8 rfl (wC [] [] rfl fn_101 rfl (w_ropewalkkit_SameFact_W_s N x19.id x19.ty r19.1 r19.2 (x19.args ++ x19.argsT) x19.args.length x23.id x23.ty r23.1 r23.2 x23.args _ hc25) (asK [3,0] rfl) rfl (H' := []) rfl ?_))
    rintro _ _ _ ⟨rfl, rfl, rfl⟩
    refine wl_nil (we_x [0,1,2,3,4,5,6,7] [] rfl rfl (xP hok 9 rfl (wx_done hok rfl (we_then (wc_keep [26,5,0,1] (S' := [_,_,_,_]) rfl ?_)))))
    refine wc_cond rfl (fun hb26 => ?_) (fun hb26 => ?_)
    ·
     replace hm := iteT hm hb26
     refine wc_keep [] (S' := []) rfl (wc_seq (wc_region (wP rfl (wl_nil (we_then (wc_ret (we_block_ret (we_then_ret (we_then_ret (we_block_ret (we_then_ret ?_)))))))))))
     have hE := (Option.some.inj hm).symm
     replace hE := link_inr hLu1 hE
     replace hE := link_inr hLj_1 hE
     replace hE := hE.symm
     subst hE
     refine ret_one (Hr := []) [] Tryz.results59 (res_tmp rfl) ⟨rfl, rfl, rfl⟩ (asK [] rfl) rfl rfl (.inl rfl)
    ·
     replace hm := iteF hm hb26
     refine wc_keep [5,0,1] (S' := [_,_,_]) rfl (wc_skip (we_block_normal (we_then (wc_region (wP rfl (wP rfl ?_))))))
     obtain ⟨hg16, hm⟩ := gd_some hm
     refine wl_as (d := 16) (v' := .int .i64 ((u1_5 + 1 : Nat) : Int)) (S' := [_,_,_,_]) rfl rfl (nat_add (a := u1_5) (b := 1) hg16) (wl_pure (S' := [_,_,_,_]) rfl rfl rfl rfl rfl (wl_nil ?_))
     have hE := (Option.some.inj hm).symm
     replace hE := link_inl hLu1 hE
     refine we_roundK (_, u1_5 + 1) (Nat.lt_succ_self _) hE [5,0,1] rfl (asK [6,7] rfl) rfl
   ·
    replace hm := iteF hm hb14
    refine wc_keep [] (S' := []) rfl (wc_exit (we_then_exit (we_then_exit (we_block_hit ?_))))
    have hE := (Option.some.inj hm).symm
    replace hE := link_inr hLu1 hE
    refine we_join () hE [] rfl (asK [] rfl) rfl
  ·
   rintro _ hE
   try dsimp only
   have hm := link_inl hLj_1 hE
   try dsimp only at hm
   refine wc_seq (wc_region (wP rfl (wl_nil (we_then (wc_ret ?_)))))
   have hE := (Option.some.inj hm).symm
   replace hE := hE.symm
   subst hE
   refine ret_one (Hr := []) [] Tryz.results59 (res_tmp rfl) ⟨rfl, rfl, rfl⟩ (asK [] rfl) rfl rfl (.inl rfl)
theorem w_ropewalkkit_SameReply_W_s (N : Nat) (a0 : Int) (a1 : Int) (qp0 : Option Addr) (qc1 : Nat) (l2 : List FactDS) (k3 : Nat) (qp2 : Option Addr) (qc3 : Nat) (l4 : List V) (k5 : Nat) (a6 : Int) (a7 : Int) (qp4 : Option Addr) (qc5 : Nat) (l8 : List FactD) (qp6 : Option Addr) (qc7 : Nat) (l9 : List V) (o0 : Bool) (hm : m_ropewalkkit_SameReply_W N a0 a1 l2 k3 l4 k5 a6 a7 l8 l9 = some o0) : Spec Tryz.prog 38 [.agg #[.int .i64 a0, .int .i64 a1, .slice qp0 k3 qc1, .slice qp2 k5 qc3], .agg #[.int .i64 a6, .int .i64 a7, .slice qp4 l8.length qc5, .slice qp6 l9.length qc7]] [.sli 3 RS_FactD qp0 qc1 l2, .sli 3 R_V qp2 qc3 l4, .sli 3 R_FactD qp4 qc5 l8, .sli 3 R_V qp6 qc7 l9] [] (fun v Φr Hr => v = .bool o0 ∧ Φr = [] ∧ Hr = []) := by
 unfold m_ropewalkkit_SameReply_W at hm
 refine spec_of Tryz.func38 rfl Tryz.ntmps38 rfl (S := [_,_]) rfl (fun C => (wc_seq (wc_region (wB rfl (fun g2 => (wB rfl (fun g3 => (wP rfl (wl_nil (we_then (wc_keep [3,2] (S' := [_,_]) rfl (wc_seq ?_))))))))))))
 obtain ⟨bj_1, hm, hLj_1⟩ := bindO_some hm
 unfold m_ropewalkkit_SameReply_W_C1 at hm
 refine wc_cut (σ := Bool) (fun j_1_4 => bj_1 = j_1_4) (fun j_1_4 => [(4, .bool j_1_4)]) (fun j_1_4 => []) (fun j_1_4 => []) ?_ ?_
 ·
  refine wc_region (wF rfl tF_29_0 (wD 1 0 rfl tS_25 tA_25 rfl (wF rfl tF_29_0 (wD 0 0 rfl tS_25 tA_25 rfl (wP rfl (wP rfl ?_))))))
  refine wl_split (d := 10) (S' := [_,_,_,_,_,_,_]) rfl rfl (fun hs10 => ?_) (fun hs10 => ?_)
  ·
   replace hm := iteT hm hs10
   refine wF rfl tF_29_1 (wD 1 1 rfl tS_3 tA_3 rfl (wF rfl tF_29_1 (wD 0 1 rfl tS_3 tA_3 rfl (wP rfl (wP rfl (wP rfl ?_))))))
   refine wl_split (d := 17) (S' := [_,_,_,_,_,_,_,_,_,_,_,_,_,_]) rfl rfl (fun hs17 => ?_) (fun hs17 => ?_)
   ·
    replace hm := iteT hm hs17
    refine wF rfl tF_29_2 (wD 1 2 rfl tS_26 tA_26 rfl (wF rfl tF_29_2 (wD 0 2 rfl tS_26 tA_26 rfl ?_)))
    obtain ⟨v22, hc22, hm⟩ := bindO_some hm
    refine wC [] [0,1] rfl fn_59 rfl (w_ropewalkkit_SameFacts_W_s N qp0 qc1 l2 k3 qp4 qc5 l8 _ hc22) (asK [0,2] rfl) rfl (H' := [_,_]) rfl ?_
    rintro _ _ _ ⟨rfl, rfl, rfl⟩
    refine wP rfl (wP rfl ?_)
    refine wl_split (d := 24) (S' := [_,_,_,_,_,_,_,_,_,_,_,_,_,_,_,_,_,_,_,_,_]) rfl rfl (fun hs24 => ?_) (fun hs24 => ?_)
    ·
     replace hm := iteT hm hs24
     refine wF rfl tF_29_3 (wD 1 3 rfl tS_27 tA_27 rfl (wF rfl tF_29_3 (wD 0 3 rfl tS_27 tA_27 rfl ?_)))
     obtain ⟨v29, hc29, hm⟩ := bindO_some hm
     refine wC [] [0,1] rfl fn_60 rfl (w_ropewalkkit_SameValues_W_s N qp2 qc3 l4 k5 qp6 qc7 l9 _ hc29) (asK [1,3] rfl) rfl (H' := [_,_]) rfl ?_
     rintro _ _ _ ⟨rfl, rfl, rfl⟩
     refine wP rfl (wP rfl (wl_nil ?_))
     have hE := (Option.some.inj hm).symm
     refine we_pick [] rfl (H' := []) rfl ?_
     refine we_join v29 hE [4] rfl (asK [] rfl) rfl
    ·
     replace hm := iteF hm hs24
     refine wO rfl (wO rfl (wO rfl (wO rfl (wO rfl (wP rfl (wP rfl (wl_nil ?_)))))))
     have hE := (Option.some.inj hm).symm
     refine we_pick [] rfl (H' := []) rfl ?_
     refine we_join false hE [4] rfl (asK [] rfl) rfl
   ·
    replace hm := iteF hm hs17
    refine wO rfl (wO rfl (wO rfl (wO rfl (wO rfl (wP rfl (wP rfl (wO rfl (wO rfl (wO rfl (wO rfl (wO rfl (wP rfl (wP rfl ?_)))))))))))))
    refine wl_nil ?_
    have hE := (Option.some.inj hm).symm
    refine we_pick [] rfl (H' := []) rfl ?_
    refine we_join false hE [4] rfl (asK [] rfl) rfl
  ·
   replace hm := iteF hm hs10
   refine wO rfl (wO rfl (wO rfl (wO rfl (wO rfl (wP rfl (wP rfl (wO rfl (wO rfl (wO rfl (wO rfl (wO rfl (wP rfl (wP rfl ?_)))))))))))))
   refine wO rfl (wO rfl (wO rfl (wO rfl (wO rfl (wP rfl (wP rfl (wl_nil ?_)))))))
   have hE := (Option.some.inj hm).symm
   refine we_pick [] rfl (H' := []) rfl ?_
   refine we_join false hE [4] rfl (asK [] rfl) rfl
 ·
  rintro j_1_4 hE
  try dsimp only
  have hm := hLj_1
  rw [hE] at hm
  refine wc_ret ?_
  have hE := (Option.some.inj hm).symm
  replace hE := hE.symm
  subst hE
  refine ret_one (Hr := []) [] Tryz.results38 (res_tmp rfl) ⟨rfl, rfl, rfl⟩ (asK [] rfl) rfl rfl (.inl rfl)
theorem w_ropewalkkit_SameSession_W_s (N : Nat) (a0 : Int) (a1 : Int) (a2 : Int) (a3 : Int) (qp0 : Option Addr) (qc1 : Nat) (l4 : List FactDS) (k5 : Nat) (qp2 : Option Addr) (qc3 : Nat) (l6 : List V) (k7 : Nat) (a8 : Int) (a9 : Int) (a10 : Int) (a11 : Int) (qp4 : Option Addr) (qc5 : Nat) (l12 : List FactD) (qp6 : Option Addr) (qc7 : Nat) (l13 : List V) (o0 : Bool) (hm : m_ropewalkkit_SameSession_W N a0 a1 a2 a3 l4 k5 l6 k7 a8 a9 a10 a11 l12 l13 = some o0) : Spec Tryz.prog 28 [.agg #[.int .i64 a0, .int .i64 a1, .int .i64 a2, .int .i64 a3, .slice qp0 k5 qc1, .slice qp2 k7 qc3], .agg #[.int .i64 a8, .int .i64 a9, .int .i64 a10, .int .i64 a11, .slice qp4 l12.length qc5, .slice qp6 l13.length qc7]] [.sli 3 RS_FactD qp0 qc1 l4, .sli 3 R_V qp2 qc3 l6, .sli 3 R_FactD qp4 qc5 l12, .sli 3 R_V qp6 qc7 l13] [] (fun v Φr Hr => v = .bool o0 ∧ Φr = [] ∧ Hr = []) := by
 unfold m_ropewalkkit_SameSession_W at hm
 refine spec_of Tryz.func28 rfl Tryz.ntmps28 rfl (S := [_,_]) rfl (fun C => (wc_seq (wc_region (wB rfl (fun g2 => (wB rfl (fun g3 => (wP rfl (wl_nil (we_then (wc_keep [3,2] (S' := [_,_]) rfl (wc_seq (wc_region (wF rfl tF_31_0 (wD 1 0 rfl tS_3 tA_3 rfl (wF rfl tF_31_0 ?_))))))))))))))))
 refine wD 0 0 rfl tS_3 tA_3 rfl (wP rfl (wP rfl ?_))
 refine wl_split (d := 10) (S' := [_,_,_,_,_,_,_]) rfl rfl (fun hs10 => ?_) (fun hs10 => ?_)
 ·
  replace hm := iteT hm hs10
  refine wF rfl tF_31_1 (wD 1 1 rfl tS_3 tA_3 rfl (wF rfl tF_31_1 (wD 0 1 rfl tS_3 tA_3 rfl (wP rfl (wP rfl (wP rfl ?_))))))
  refine wl_split (d := 17) (S' := [_,_,_,_,_,_,_,_,_,_,_,_,_,_]) rfl rfl (fun hs17 => ?_) (fun hs17 => ?_)
  ·
   replace hm := iteT hm hs17
   refine wF rfl tF_31_2 (wl_loadH 1 2 rfl rfl rfl (freshS_eq rfl) rfl rfl rfl (cs := [_,_,_,_]) rfl tS_29 tA_29 rfl rfl (wF rfl tF_31_2 (wl_loadH 0 2 rfl rfl rfl (freshS_eq rfl) rfl rfl rfl (cs := [_,_,_,_]) rfl tS_29 tA_29 rfl rfl ?_)))
   obtain ⟨v22, hc22, hm⟩ := bindO_some hm
   refine wC [] [0,1] rfl fn_38 rfl (w_ropewalkkit_SameReply_W_s N a2 a3 qp0 qc1 l4 k5 qp2 qc3 l6 k7 a10 a11 qp4 qc5 l12 qp6 qc7 l13 _ hc22) (asK [0,1,2,3] rfl) rfl (H' := [_,_]) rfl ?_
   rintro _ _ _ ⟨rfl, rfl, rfl⟩
   refine wP rfl (wP rfl (wl_nil (we_then (wc_keep [4] (S' := [_]) rfl (wc_ret ?_)))))
   have hE := (Option.some.inj hm).symm
   replace hE := hE.symm
   subst hE
   refine ret_one (Hr := []) [] Tryz.results28 (res_tmp rfl) ⟨rfl, rfl, rfl⟩ (asK [] rfl) rfl rfl (.inl rfl)
  ·
   replace hm := iteF hm hs17
   refine wO rfl (wO rfl (wO rfl (wO rfl (wO rfl (wP rfl (wP rfl (wl_nil (we_then (wc_keep [4] (S' := [_]) rfl (wc_ret ?_))))))))))
   have hE := (Option.some.inj hm).symm
   replace hE := hE.symm
   subst hE
   refine ret_one (Hr := []) [] Tryz.results28 (res_tmp rfl) ⟨rfl, rfl, rfl⟩ (asK [] rfl) rfl rfl (.inl rfl)
 ·
  replace hm := iteF hm hs10
  refine wO rfl (wO rfl (wO rfl (wO rfl (wO rfl (wP rfl (wP rfl (wO rfl (wO rfl (wO rfl (wO rfl (wO rfl (wP rfl (wP rfl ?_)))))))))))))
  refine wl_nil (we_then (wc_keep [4] (S' := [_]) rfl (wc_ret ?_)))
  have hE := (Option.some.inj hm).symm
  replace hE := hE.symm
  subst hE
  refine ret_one (Hr := []) [] Tryz.results28 (res_tmp rfl) ⟨rfl, rfl, rfl⟩ (asK [] rfl) rfl rfl (.inl rfl)
theorem w_ropewalkkit_KeptValues_W_s (N : Nat) (qp0 : Option Addr) (qc1 : Nat) (l0 : List V) (k1 : Nat) (qp2 : Option Addr) (qc3 : Nat) (l2 : List V) (o0 : Bool) (hm : m_ropewalkkit_KeptValues_W N l0 k1 l2 = some o0) : Spec Tryz.prog 56 [.slice qp0 k1 qc1, .slice qp2 l2.length qc3] [.sli 3 R_V qp0 qc1 l0, .sli 3 R_V qp2 qc3 l2] [] (fun v Φr Hr => v = .bool o0 ∧ Φr = [] ∧ Hr = []) := by
 unfold m_ropewalkkit_KeptValues_W at hm
 refine spec_of Tryz.func56 rfl Tryz.ntmps56 rfl (S := [_,_]) rfl (fun C => (wc_seq (wc_region (wP rfl (wl_nil (we_then (wc_keep [0,1] (S' := [_,_]) rfl (wc_seq (wc_seq (wc_region (wP rfl (wN rfl tE_27 (wP rfl (wN rfl tE_27 ?_))))))))))))))
 refine wP rfl (wl_as (d := 11) (v' := .bool (k1 != l2.length)) (S' := [_,_,_,_,_,_]) rfl rfl (natne (a := k1) (b := l2.length)) (wl_nil (we_then (wc_keep [11,0,1] (S' := [_,_,_]) rfl ?_))))
 refine wc_cond rfl (fun hb11 => ?_) (fun hb11 => ?_)
 ·
  replace hm := iteT hm hb11
  refine wc_keep [] (S' := []) rfl (wc_seq (wc_region (wP rfl (wl_nil (we_then (wc_ret (we_then_ret ?_)))))))
  have hE := (Option.some.inj hm).symm
  replace hE := hE.symm
  subst hE
  refine ret_one (Hr := []) [] Tryz.results56 (res_tmp rfl) ⟨rfl, rfl, rfl⟩ (asK [] rfl) rfl rfl (.inl rfl)
 ·
  replace hm := iteF hm hb11
  refine wc_keep [0,1] (S' := [_,_]) rfl (wc_skip (we_then (wc_seq (wc_region (wP rfl (wP rfl (wN rfl tE_27 (wP rfl ?_))))))))
  obtain ⟨hg15, hm⟩ := gd_some hm
  refine wl_as (d := 15) (v' := .int .i64 ((l2.length + 12 : Nat) : Int)) (S' := [_,_,_,_,_]) rfl rfl (nat_add (a := l2.length) (b := 12) hg15) ?_
  obtain ⟨hg16, hm⟩ := gd_some hm
  refine wl_sliToF 0 rfl rfl rfl (freshS_eq rfl) rfl rfl rfl rfl rfl tE_27 tS_149 hg16 (fun p16 => (wP rfl (wl_nil (we_then (wc_keep [5,1] (S' := [_,_]) rfl (wc_seq ?_))))))
  obtain ⟨bj_1, hm, hLj_1⟩ := bindS_some hm
  refine wc_cut (σ := Unit) (fun _ => bj_1 = .inl ()) (fun _ => []) (fun _ => []) (fun _ => []) ?_ ?_
  ·
   refine wc_seq (wc_region (wP rfl (wl_nil (we_then (wc_block (wc_loop (σ := Nat × Nat) (fun (nu1, u1_6) => iter (m_ropewalkkit_KeptValues_W_L1 N l0 l2) nu1 u1_6 = some bj_1) (fun (nu1, u1_6) => nu1) (fun (nu1, u1_6) => [(6, .int .i64 ((u1_6 : Nat) : Int)), (5, .slice p16 ((l0.take (l2.length + 12)).length) qc1), (1, .slice qp2 l2.length qc3)]) (fun (nu1, u1_6) => [.sli 3 R_V p16 qc1 (l0.take (l2.length + 12)), .sli 3 R_V qp2 qc3 l2]) (fun (nu1, u1_6) => []) (N, 0) hm [6,5,1] rfl (asK [0,2] rfl) rfl (fun s_ hm => ?_)))))))
   obtain ⟨nu1, u1_6⟩ := s_
   try dsimp only at hm ⊢
   obtain ⟨mu1, bu1, hnu1, hq, hLu1⟩ := iter_some hm
   clear hm
   subst hnu1
   replace hm := hq
   clear hq
   unfold m_ropewalkkit_KeptValues_W_L1 at hm
   try dsimp only at hm
   refine wc_seq (wc_seq (wc_region (wP rfl (wP rfl (wN rfl tE_27 (wP rfl (wl_as (d := 20) (v' := .bool (decide (u1_6 < ((l0.take (l2.length + 12)).length)))) (S' := [_,_,_,_,_,_]) rfl rfl (natlt (a := u1_6) (b := (l0.take (l2.length + 12)).length)) (wl_nil (we_then (wc_keep [20,6,5,1] (S' := [_,_,_,_]) rfl ?_))))))))))
   refine wc_cond rfl (fun hb20 => ?_) (fun hb20 => ?_)
   ·
    replace hm := iteT hm hb20
    refine wc_keep [6,5,1] (S' := [_,_,_]) rfl (wc_skip (we_then (wc_seq (wc_block (wc_seq ?_)))))
    obtain ⟨bj_2, hm, hLj_2⟩ := bindO_some hm
    unfold m_ropewalkkit_KeptValues_W_C2 at hm
    refine wc_cut (σ := Bool) (fun j_2_57 => bj_2 = j_2_57) (fun j_2_57 => [(6, .int .i64 ((u1_6 : Nat) : Int)), (5, .slice p16 ((l0.take (l2.length + 12)).length) qc1), (1, .slice qp2 l2.length qc3), (57, .bool j_2_57)]) (fun j_2_57 => [.sli 3 R_V p16 qc1 (l0.take (l2.length + 12)), .sli 3 R_V qp2 qc3 l2]) (fun j_2_57 => []) ?_ ?_
    ·
     rcases ite_some hm with ⟨hs27, hm⟩ | ⟨hs27, hm⟩
     ·
      obtain ⟨x30, hx30, hm⟩ := bindO_some hm
      obtain ⟨x34, hx34, hm⟩ := bindO_some hm
      rcases ite_some hm with ⟨hs39, hm⟩ | ⟨hs39, hm⟩
      ·
       refine wc_draw [0,1,2,3,4,5,6,7,8,9,10,11,12,13,14,15,16,17,18,19,20,21,22,23,24,25,26,27,28,29,31,32,33,34] rfl rfl (fun hok => (xP hok 0 rfl (xP hok 1 rfl (wx_len hok 2 rfl rfl rfl (freshS_eq rfl) rfl rfl rfl tE_27 (xP hok 3 rfl (wx_as (d := 26) (v' := .bool (decide (u1_6 < l2.length))) (S' := [_,_,_,_,_,_]) rfl rfl (natlt (a := u1_6) (b := l2.length)) (xP hok 4 rfl (wx_as (d := 27) (v' := .bool true) (S' := [_,_,_,_,_,_,_]) rfl rfl (bool_is hs27) (xP hok 5 rfl (xP hok 6 rfl (wx_indexA hok 7 0 u1_6 rfl rfl rfl (freshS_eq rfl) rfl rfl rfl rfl rfl rfl hx30 tE_27 tS_149 (fun b30 q30 cs30 hlx30 => (wx_openR R_V_opens 1 rfl (fun r30 er30 _ => ?_))))))))))))))
       subst er30
       refine wx_load hok 8 0 0 rfl rfl rfl (freshS_eq rfl) rfl rfl rfl rfl (cs := [_,_,_]) rfl tS_149 tA_149 rfl rfl (xP hok 9 rfl (xP hok 10 rfl (wx_indexA hok 11 3 u1_6 rfl rfl rfl (freshS_eq rfl) rfl rfl rfl rfl rfl rfl hx34 tE_27 tS_149 (fun b34 q34 cs34 hlx34 => (wx_openR R_V_opens 1 rfl (fun r34 er34 _ => ?_))))))
       subst er34
       refine wx_load hok 12 0 0 rfl rfl rfl (freshS_eq rfl) rfl rfl rfl rfl (cs := [_,_,_]) rfl tS_149 tA_149 rfl rfl (wx_bin hok 13 rfl rfl rfl (freshS_eq rfl) rfl rfl rfl rfl (eqlV _ _ x30 x34) (xP hok 14 rfl (xP hok 15 rfl (xP hok 16 rfl (wx_as (d := 39) (v' := .bool true) (S' := [_,_,_,_,_,_,_,_,_,_,_,_,_,_,_,_,_,_,_]) rfl rfl (bool_is hs39) (xO hok 17 rfl (xO hok 18 rfl (xO hok 19 rfl (xO hok 20 rfl (xO hok 21 rfl (xO hok 22 rfl (xO hok 23 rfl (xO hok 24 rfl ?_)))))))))))))
       refine xO hok 25 rfl (xO hok 26 rfl (xO hok 27 rfl (xO hok 28 rfl (xO hok 29 rfl (xS hok 30 rfl (wO rfl (wl_nil (we_x [0,1,2,3,4,5] [] rfl rfl (xO hok 31 rfl (xO hok 32 rfl (xO hok 33 rfl (xP hok 34 rfl (wx_done hok rfl ?_)))))))))))))
       have hE := (Option.some.inj hm).symm
       refine we_join true hE [6,5,1,57] rfl (asK [4,5] rfl) rfl
      ·
       rcases ite_some hm with ⟨hs44, hm⟩ | ⟨hs44, hm⟩
       ·
        obtain ⟨x47, hx47, hm⟩ := bindO_some hm
        obtain ⟨hg52, hm⟩ := gd_some hm
        obtain ⟨_, hc53, hm⟩ := bindO_some hm
        try dsimp only at hm
        refine wc_draw [0,1,2,3,4,5,6,7,8,9,10,11,12,13,14,15,16,17,18,19,20,21,22,23,24,25,26,27,28,29,31,32,33,34] rfl rfl (fun hok => (xP hok 0 rfl (xP hok 1 rfl (wx_len hok 2 rfl rfl rfl (freshS_eq rfl) rfl rfl rfl tE_27 (xP hok 3 rfl (wx_as (d := 26) (v' := .bool (decide (u1_6 < l2.length))) (S' := [_,_,_,_,_,_]) rfl rfl (natlt (a := u1_6) (b := l2.length)) (xP hok 4 rfl (wx_as (d := 27) (v' := .bool true) (S' := [_,_,_,_,_,_,_]) rfl rfl (bool_is hs27) (xP hok 5 rfl (xP hok 6 rfl (wx_indexA hok 7 0 u1_6 rfl rfl rfl (freshS_eq rfl) rfl rfl rfl rfl rfl rfl hx30 tE_27 tS_149 (fun b30 q30 cs30 hlx30 => (wx_openR R_V_opens 1 rfl (fun r30 er30 _ => ?_))))))))))))))
        subst er30
        refine wx_load hok 8 0 0 rfl rfl rfl (freshS_eq rfl) rfl rfl rfl rfl (cs := [_,_,_]) rfl tS_149 tA_149 rfl rfl (xP hok 9 rfl (xP hok 10 rfl (wx_indexA hok 11 3 u1_6 rfl rfl rfl (freshS_eq rfl) rfl rfl rfl rfl rfl rfl hx34 tE_27 tS_149 (fun b34 q34 cs34 hlx34 => (wx_openR R_V_opens 1 rfl (fun r34 er34 _ => ?_))))))
        subst er34
        refine wx_load hok 12 0 0 rfl rfl rfl (freshS_eq rfl) rfl rfl rfl rfl (cs := [_,_,_]) rfl tS_149 tA_149 rfl rfl (wx_bin hok 13 rfl rfl rfl (freshS_eq rfl) rfl rfl rfl rfl (eqlV _ _ x30 x34) (xP hok 14 rfl (xP hok 15 rfl (xP hok 16 rfl (wx_as (d := 39) (v' := .bool false) (S' := [_,_,_,_,_,_,_,_,_,_,_,_,_,_,_,_,_,_,_]) rfl rfl (bool_is hs39) (xP hok 17 rfl (xP hok 18 rfl (wx_len hok 19 rfl rfl rfl (freshS_eq rfl) rfl rfl rfl tE_27 (xP hok 20 rfl (wx_as (d := 43) (v' := .bool (decide (l2.length ≤ u1_6))) (S' := [_,_,_,_,_,_,_,_,_,_,_,_,_,_,_,_,_,_,_,_,_,_,_]) rfl rfl (natge (a := u1_6) (b := l2.length)) (xP hok 21 rfl (wx_as (d := 44) (v' := .bool true) (S' := [_,_,_,_,_,_,_,_,_,_,_,_,_,_,_,_,_,_,_,_,_,_,_,_]) rfl rfl (bool_is hs44) (xP hok 22 rfl ?_)))))))))))))
        refine xP hok 23 rfl (wx_indexA hok 24 4 u1_6 rfl rfl rfl (freshS_eq rfl) rfl rfl rfl rfl rfl rfl hx47 tE_27 tS_149 (fun b47 q47 cs47 hlx47 => (wx_openR R_V_opens 1 rfl (fun r47 er47 _ => ?_))))
        subst er47
        refine wx_load hok 25 0 0 rfl rfl rfl (freshS_eq rfl) rfl rfl rfl rfl (cs := [_,_,_]) rfl tS_149 tA_149 rfl rfl (xP hok 26 rfl (xP hok 27 rfl (wx_len hok 28 rfl rfl rfl (freshS_eq rfl) rfl rfl rfl tE_27 (xP hok 29 rfl (wx_as (d := 52) (v' := .int .i64 (((u1_6 : Nat) : Int) - ((l2.length : Nat) : Int))) (S' := [_,_,_,_,_,_,_,_,_,_,_,_,_,_,_,_,_,_,_,_,_,_,_,_,_,_,_,_,_,_,_,_]) rfl rfl (i64_in hg52) (xS hok 30 rfl (wC [] [] rfl fn_97 rfl (w_ropewalkkit_markValue_s N 1 (((u1_6 : Nat) : Int) - ((l2.length : Nat) : Int)) hc53) (asK [] rfl) rfl (H' := []) rfl ?_)))))))
        rintro _ _ _ ⟨rfl, rfl, rfl⟩
        refine wl_nil (we_x [0,1,2,3,4,5,6,7] [] rfl rfl (wx_bin hok 31 rfl rfl rfl (freshS_eq rfl) rfl rfl rfl rfl (eqlV _ _ x47 (⟨0, IntKind.wrap .i64 ((IntKind.wrap .i64 (1000003 * (IntKind.wrap .i64 (1 + 7)))) + (((u1_6 : Nat) : Int) - ((l2.length : Nat) : Int))), (⟨#[]⟩ : ByteArray)⟩ : V)) (xP hok 32 rfl (xP hok 33 rfl (xP hok 34 rfl (wx_done hok rfl ?_))))))
        have hE := (Option.some.inj hm).symm
        refine we_join (!(decide (x47 = (⟨0, IntKind.wrap .i64 ((IntKind.wrap .i64 (1000003 * (IntKind.wrap .i64 (1 + 7)))) + (((u1_6 : Nat) : Int) - ((l2.length : Nat) : Int))), (⟨#[]⟩ : ByteArray)⟩ : V)))) hE [6,5,1,57] rfl (asK [6,7] rfl) rfl
       ·
        refine wc_draw [0,1,2,3,4,5,6,7,8,9,10,11,12,13,14,15,16,17,18,19,20,21,22,23,24,25,26,27,28,29,31,32,33,34] rfl rfl (fun hok => (xP hok 0 rfl (xP hok 1 rfl (wx_len hok 2 rfl rfl rfl (freshS_eq rfl) rfl rfl rfl tE_27 (xP hok 3 rfl (wx_as (d := 26) (v' := .bool (decide (u1_6 < l2.length))) (S' := [_,_,_,_,_,_]) rfl rfl (natlt (a := u1_6) (b := l2.length)) (xP hok 4 rfl (wx_as (d := 27) (v' := .bool true) (S' := [_,_,_,_,_,_,_]) rfl rfl (bool_is hs27) (xP hok 5 rfl (xP hok 6 rfl (wx_indexA hok 7 0 u1_6 rfl rfl rfl (freshS_eq rfl) rfl rfl rfl rfl rfl rfl hx30 tE_27 tS_149 (fun b30 q30 cs30 hlx30 => (wx_openR R_V_opens 1 rfl (fun r30 er30 _ => ?_))))))))))))))
        subst er30
        refine wx_load hok 8 0 0 rfl rfl rfl (freshS_eq rfl) rfl rfl rfl rfl (cs := [_,_,_]) rfl tS_149 tA_149 rfl rfl (xP hok 9 rfl (xP hok 10 rfl (wx_indexA hok 11 3 u1_6 rfl rfl rfl (freshS_eq rfl) rfl rfl rfl rfl rfl rfl hx34 tE_27 tS_149 (fun b34 q34 cs34 hlx34 => (wx_openR R_V_opens 1 rfl (fun r34 er34 _ => ?_))))))
        subst er34
        refine wx_load hok 12 0 0 rfl rfl rfl (freshS_eq rfl) rfl rfl rfl rfl (cs := [_,_,_]) rfl tS_149 tA_149 rfl rfl (wx_bin hok 13 rfl rfl rfl (freshS_eq rfl) rfl rfl rfl rfl (eqlV _ _ x30 x34) (xP hok 14 rfl (xP hok 15 rfl (xP hok 16 rfl (wx_as (d := 39) (v' := .bool false) (S' := [_,_,_,_,_,_,_,_,_,_,_,_,_,_,_,_,_,_,_]) rfl rfl (bool_is hs39) (xP hok 17 rfl (xP hok 18 rfl (wx_len hok 19 rfl rfl rfl (freshS_eq rfl) rfl rfl rfl tE_27 (xP hok 20 rfl (wx_as (d := 43) (v' := .bool (decide (l2.length ≤ u1_6))) (S' := [_,_,_,_,_,_,_,_,_,_,_,_,_,_,_,_,_,_,_,_,_,_,_]) rfl rfl (natge (a := u1_6) (b := l2.length)) (xP hok 21 rfl (wx_as (d := 44) (v' := .bool false) (S' := [_,_,_,_,_,_,_,_,_,_,_,_,_,_,_,_,_,_,_,_,_,_,_,_]) rfl rfl (bool_is hs44) (xO hok 22 rfl ?_)))))))))))))
        refine xO hok 23 rfl (xO hok 24 rfl (xO hok 25 rfl (xO hok 26 rfl (xO hok 27 rfl (xO hok 28 rfl (xO hok 29 rfl (xS hok 30 rfl (wO rfl (wl_nil (we_x [0,1,2,3,4,5] [] rfl rfl (xO hok 31 rfl (xO hok 32 rfl (xP hok 33 rfl ?_)))))))))))))
        refine xP hok 34 rfl (wx_done hok rfl ?_)
        have hE := (Option.some.inj hm).symm
        refine we_join false hE [6,5,1,57] rfl (asK [4,5] rfl) rfl
     ·
      rcases ite_some hm with ⟨hs44, hm⟩ | ⟨hs44, hm⟩
      ·
       obtain ⟨x47, hx47, hm⟩ := bindO_some hm
       obtain ⟨hg52, hm⟩ := gd_some hm
       obtain ⟨_, hc53, hm⟩ := bindO_some hm
       try dsimp only at hm
       refine wc_draw [0,1,2,3,4,5,6,7,8,9,10,11,12,13,14,15,16,17,18,19,20,21,22,23,24,25,26,27,28,29,31,32,33,34] rfl rfl (fun hok => (xP hok 0 rfl (xP hok 1 rfl (wx_len hok 2 rfl rfl rfl (freshS_eq rfl) rfl rfl rfl tE_27 (xP hok 3 rfl (wx_as (d := 26) (v' := .bool (decide (u1_6 < l2.length))) (S' := [_,_,_,_,_,_]) rfl rfl (natlt (a := u1_6) (b := l2.length)) (xP hok 4 rfl (wx_as (d := 27) (v' := .bool false) (S' := [_,_,_,_,_,_,_]) rfl rfl (bool_is hs27) (xO hok 5 rfl (xO hok 6 rfl (xO hok 7 rfl (xO hok 8 rfl (xO hok 9 rfl (xO hok 10 rfl ?_))))))))))))))
       refine xO hok 11 rfl (xO hok 12 rfl (xO hok 13 rfl (xO hok 14 rfl (xP hok 15 rfl (xP hok 16 rfl (xP hok 17 rfl (xP hok 18 rfl (wx_len hok 19 rfl rfl rfl (freshS_eq rfl) rfl rfl rfl tE_27 (xP hok 20 rfl (wx_as (d := 43) (v' := .bool (decide (l2.length ≤ u1_6))) (S' := [_,_,_,_,_,_,_,_,_,_,_,_,_,_,_,_,_,_,_,_,_,_,_]) rfl rfl (natge (a := u1_6) (b := l2.length)) (xP hok 21 rfl (wx_as (d := 44) (v' := .bool true) (S' := [_,_,_,_,_,_,_,_,_,_,_,_,_,_,_,_,_,_,_,_,_,_,_,_]) rfl rfl (bool_is hs44) (xP hok 22 rfl ?_)))))))))))))
       refine xP hok 23 rfl (wx_indexA hok 24 0 u1_6 rfl rfl rfl (freshS_eq rfl) rfl rfl rfl rfl rfl rfl hx47 tE_27 tS_149 (fun b47 q47 cs47 hlx47 => (wx_openR R_V_opens 1 rfl (fun r47 er47 _ => ?_))))
       subst er47
       refine wx_load hok 25 0 0 rfl rfl rfl (freshS_eq rfl) rfl rfl rfl rfl (cs := [_,_,_]) rfl tS_149 tA_149 rfl rfl (xP hok 26 rfl (xP hok 27 rfl (wx_len hok 28 rfl rfl rfl (freshS_eq rfl) rfl rfl rfl tE_27 (xP hok 29 rfl (wx_as (d := 52) (v' := .int .i64 (((u1_6 : Nat) : Int) - ((l2.length : Nat) : Int))) (S' := [_,_,_,_,_,_,_,_,_,_,_,_,_,_,_,_,_,_,_,_,_,_,_,_,_,_,_,_,_,_,_,_]) rfl rfl (i64_in hg52) (xS hok 30 rfl (wC [] [] rfl fn_97 rfl (w_ropewalkkit_markValue_s N 1 (((u1_6 : Nat) : Int) - ((l2.length : Nat) : Int)) hc53) (asK [] rfl) rfl (H' := []) rfl ?_)))))))
       rintro _ _ _ ⟨rfl, rfl, rfl⟩
       refine wl_nil (we_x [0,1,2,3] [] rfl rfl (wx_bin hok 31 rfl rfl rfl (freshS_eq rfl) rfl rfl rfl rfl (eqlV _ _ x47 (⟨0, IntKind.wrap .i64 ((IntKind.wrap .i64 (1000003 * (IntKind.wrap .i64 (1 + 7)))) + (((u1_6 : Nat) : Int) - ((l2.length : Nat) : Int))), (⟨#[]⟩ : ByteArray)⟩ : V)) (xP hok 32 rfl (xP hok 33 rfl (xP hok 34 rfl (wx_done hok rfl ?_))))))
       have hE := (Option.some.inj hm).symm
       refine we_join (!(decide (x47 = (⟨0, IntKind.wrap .i64 ((IntKind.wrap .i64 (1000003 * (IntKind.wrap .i64 (1 + 7)))) + (((u1_6 : Nat) : Int) - ((l2.length : Nat) : Int))), (⟨#[]⟩ : ByteArray)⟩ : V)))) hE [6,5,1,57] rfl (asK [2,3] rfl) rfl
      ·
       refine wc_draw [0,1,2,3,4,5,6,7,8,9,10,11,12,13,14,15,16,17,18,19,20,21,22,23,24,25,26,27,28,29,31,32,33,34] rfl rfl (fun hok => (xP hok 0 rfl (xP hok 1 rfl (wx_len hok 2 rfl rfl rfl (freshS_eq rfl) rfl rfl rfl tE_27 (xP hok 3 rfl (wx_as (d := 26) (v' := .bool (decide (u1_6 < l2.length))) (S' := [_,_,_,_,_,_]) rfl rfl (natlt (a := u1_6) (b := l2.length)) (xP hok 4 rfl (wx_as (d := 27) (v' := .bool false) (S' := [_,_,_,_,_,_,_]) rfl rfl (bool_is hs27) (xO hok 5 rfl (xO hok 6 rfl (xO hok 7 rfl (xO hok 8 rfl (xO hok 9 rfl (xO hok 10 rfl ?_))))))))))))))
       refine xO hok 11 rfl (xO hok 12 rfl (xO hok 13 rfl (xO hok 14 rfl (xP hok 15 rfl (xP hok 16 rfl (xP hok 17 rfl (xP hok 18 rfl (wx_len hok 19 rfl rfl rfl (freshS_eq rfl) rfl rfl rfl tE_27 (xP hok 20 rfl (wx_as (d := 43) (v' := .bool (decide (l2.length ≤ u1_6))) (S' := [_,_,_,_,_,_,_,_,_,_,_,_,_,_,_,_,_,_,_,_,_,_,_]) rfl rfl (natge (a := u1_6) (b := l2.length)) (xP hok 21 rfl (wx_as (d := 44) (v' := .bool false) (S' := [_,_,_,_,_,_,_,_,_,_,_,_,_,_,_,_,_,_,_,_,_,_,_,_]) rfl rfl (bool_is hs44) (xO hok 22 rfl ?_)))))))))))))
       refine xO hok 23 rfl (xO hok 24 rfl (xO hok 25 rfl (xO hok 26 rfl (xO hok 27 rfl (xO hok 28 rfl (xO hok 29 rfl (xS hok 30 rfl (wO rfl (wl_nil (we_x [0,1] [] rfl rfl (xO hok 31 rfl (xO hok 32 rfl (xP hok 33 rfl ?_)))))))))))))
       refine xP hok 34 rfl (wx_done hok rfl ?_)
       have hE := (Option.some.inj hm).symm
       refine we_join false hE [6,5,1,57] rfl (asK [0,1] rfl) rfl
    ·
     rintro j_2_57 hE
     try dsimp only
     have hm := hLj_2
     rw [hE] at hm
     refine wc_cond rfl (fun hb57 => ?_) (fun hb57 => ?_)
     ·
      replace hm := iteT hm hb57
      refine wc_keep [] (S' := []) rfl (wc_seq (wc_region (wP rfl (wl_nil (we_then (wc_ret (we_block_ret (we_then_ret (we_then_ret (we_block_ret (we_then_ret ?_)))))))))))
      have hE := (Option.some.inj hm).symm
      replace hE := link_inr hLu1 hE
      replace hE := link_inr hLj_1 hE
      replace hE := hE.symm
      subst hE
      refine ret_one (Hr := []) [] Tryz.results56 (res_tmp rfl) ⟨rfl, rfl, rfl⟩ (asK [] rfl) rfl rfl (.inl rfl)
     ·
      replace hm := iteF hm hb57
      refine wc_keep [6,5,1] (S' := [_,_,_]) rfl (wc_skip (we_block_normal (we_then (wc_region (wP rfl (wP rfl ?_))))))
      obtain ⟨hg22, hm⟩ := gd_some hm
      refine wl_as (d := 22) (v' := .int .i64 ((u1_6 + 1 : Nat) : Int)) (S' := [_,_,_,_]) rfl rfl (nat_add (a := u1_6) (b := 1) hg22) (wl_pure (S' := [_,_,_,_]) rfl rfl rfl rfl rfl (wl_nil ?_))
      have hE := (Option.some.inj hm).symm
      replace hE := link_inl hLu1 hE
      refine we_roundK (_, u1_6 + 1) (Nat.lt_succ_self _) hE [6,5,1] rfl (asK [0,1] rfl) rfl
   ·
    replace hm := iteF hm hb20
    refine wc_keep [] (S' := []) rfl (wc_exit (we_then_exit (we_then_exit (we_block_hit ?_))))
    have hE := (Option.some.inj hm).symm
    replace hE := link_inr hLu1 hE
    refine we_join () hE [] rfl (asK [] rfl) rfl
  ·
   rintro _ hE
   try dsimp only
   have hm := link_inl hLj_1 hE
   try dsimp only at hm
   refine wc_seq (wc_region (wP rfl (wl_nil (we_then (wc_ret ?_)))))
   have hE := (Option.some.inj hm).symm
   replace hE := hE.symm
   subst hE
   refine ret_one (Hr := []) [] Tryz.results56 (res_tmp rfl) ⟨rfl, rfl, rfl⟩ (asK [] rfl) rfl rfl (.inl rfl)
theorem w_ropewalkkit_KeptFact_W_s (N : Nat) (a0 : Int) (a1 : Int) (qp0 : Option Addr) (qc1 : Nat) (l2 : List V) (k3 : Nat) (a4 : Int) (a5 : Int) (qp2 : Option Addr) (qc3 : Nat) (l6 : List V) (o0 : Bool) (hm : m_ropewalkkit_KeptFact_W N a0 a1 l2 k3 a4 a5 l6 = some o0) : Spec Tryz.prog 100 [.agg #[.int .i64 a0, .int .i64 a1, .slice qp0 k3 qc1], .agg #[.int .i64 a4, .int .i64 a5, .slice qp2 l6.length qc3]] [.sli 3 R_V qp0 qc1 l2, .sli 3 R_V qp2 qc3 l6] [] (fun v Φr Hr => v = .bool o0 ∧ Φr = [] ∧ Hr = []) := by
 unfold m_ropewalkkit_KeptFact_W at hm
 refine spec_of Tryz.func100 rfl Tryz.ntmps100 rfl (S := [_,_]) rfl (fun C => (wc_seq (wc_region (wB rfl (fun g2 => (wB rfl (fun g3 => (wP rfl (wl_nil (we_then (wc_keep [3,2] (S' := [_,_]) rfl (wc_seq (wc_region (wl_loadH 1 0 rfl rfl rfl (freshS_eq rfl) rfl rfl rfl (cs := [_,_,_]) rfl tS_55 tA_55 rfl rfl (wl_loadH 0 0 rfl rfl rfl (freshS_eq rfl) rfl rfl rfl (cs := [_,_,_]) rfl tS_55 tA_55 rfl rfl ?_)))))))))))))))
 obtain ⟨v7, hc7, hm⟩ := bindO_some hm
 refine wC [] [0,1] rfl fn_101 rfl (w_ropewalkkit_SameFact_W_s N a0 a1 qp0 qc1 l2 k3 a4 a5 qp2 qc3 l6 _ hc7) (asK [0,1] rfl) rfl (H' := [_,_]) rfl ?_
 rintro _ _ _ ⟨rfl, rfl, rfl⟩
 refine wP rfl ?_
 refine wl_split (d := 8) (S' := [_,_,_,_,_]) rfl rfl (fun hs8 => ?_) (fun hs8 => ?_)
 ·
  replace hm := iteT hm hs8
  refine wF rfl tF_55_2 (wD 1 2 rfl tS_27 tA_27 rfl (wF rfl tF_55_2 (wD 0 2 rfl tS_27 tA_27 rfl ?_)))
  obtain ⟨v13, hc13, hm⟩ := bindO_some hm
  refine wC [] [0,1] rfl fn_56 rfl (w_ropewalkkit_KeptValues_W_s N qp0 qc1 l2 k3 qp2 qc3 l6 _ hc13) (asK [0,1] rfl) rfl (H' := [_,_]) rfl ?_
  rintro _ _ _ ⟨rfl, rfl, rfl⟩
  refine wP rfl (wP rfl (wl_nil (we_then (wc_keep [4] (S' := [_]) rfl (wc_ret ?_)))))
  have hE := (Option.some.inj hm).symm
  replace hE := hE.symm
  subst hE
  refine ret_one (Hr := []) [] Tryz.results100 (res_tmp rfl) ⟨rfl, rfl, rfl⟩ (asK [] rfl) rfl rfl (.inl rfl)
 ·
  replace hm := iteF hm hs8
  refine wO rfl (wO rfl (wO rfl (wO rfl (wO rfl (wP rfl (wP rfl (wl_nil (we_then (wc_keep [4] (S' := [_]) rfl (wc_ret ?_))))))))))
  have hE := (Option.some.inj hm).symm
  replace hE := hE.symm
  subst hE
  refine ret_one (Hr := []) [] Tryz.results100 (res_tmp rfl) ⟨rfl, rfl, rfl⟩ (asK [] rfl) rfl rfl (.inl rfl)
theorem w_ropewalkkit_KeptFacts_W_s (N : Nat) (qp0 : Option Addr) (qc1 : Nat) (l0 : List FactDS) (k1 : Nat) (qp2 : Option Addr) (qc3 : Nat) (l2 : List FactD) (o0 : Bool) (hm : m_ropewalkkit_KeptFacts_W N l0 k1 l2 = some o0) : Spec Tryz.prog 55 [.slice qp0 k1 qc1, .slice qp2 l2.length qc3] [.sli 3 RS_FactD qp0 qc1 l0, .sli 3 R_FactD qp2 qc3 l2] [] (fun v Φr Hr => v = .bool o0 ∧ Φr = [] ∧ Hr = []) := by
 unfold m_ropewalkkit_KeptFacts_W at hm
 refine spec_of Tryz.func55 rfl Tryz.ntmps55 rfl (S := [_,_]) rfl (fun C => (wc_seq (wc_region (wP rfl (wl_nil (we_then (wc_keep [0,1] (S' := [_,_]) rfl (wc_seq (wc_seq (wc_region (wP rfl (wN rfl tE_26 (wP rfl (wN rfl tE_26 ?_))))))))))))))
 refine wP rfl (wl_as (d := 11) (v' := .bool (k1 != l2.length)) (S' := [_,_,_,_,_,_]) rfl rfl (natne (a := k1) (b := l2.length)) (wl_nil (we_then (wc_keep [11,0,1] (S' := [_,_,_]) rfl ?_))))
 refine wc_cond rfl (fun hb11 => ?_) (fun hb11 => ?_)
 ·
  replace hm := iteT hm hb11
  refine wc_keep [] (S' := []) rfl (wc_seq (wc_region (wP rfl (wl_nil (we_then (wc_ret (we_then_ret ?_)))))))
  have hE := (Option.some.inj hm).symm
  replace hE := hE.symm
  subst hE
  refine ret_one (Hr := []) [] Tryz.results55 (res_tmp rfl) ⟨rfl, rfl, rfl⟩ (asK [] rfl) rfl rfl (.inl rfl)
 ·
  replace hm := iteF hm hb11
  refine wc_keep [0,1] (S' := [_,_]) rfl (wc_skip (we_then (wc_seq (wc_region (wP rfl (wP rfl (wN rfl tE_26 (wP rfl ?_))))))))
  obtain ⟨hg15, hm⟩ := gd_some hm
  refine wl_as (d := 15) (v' := .int .i64 ((l2.length + 12 : Nat) : Int)) (S' := [_,_,_,_,_]) rfl rfl (nat_add (a := l2.length) (b := 12) hg15) ?_
  obtain ⟨hg16, hm⟩ := gd_some hm
  refine wl_sliToF 0 rfl rfl rfl (freshS_eq rfl) rfl rfl rfl rfl rfl tE_26 tS_55 hg16 (fun p16 => (wP rfl (wl_nil (we_then (wc_keep [5,1] (S' := [_,_]) rfl (wc_seq ?_))))))
  obtain ⟨bj_1, hm, hLj_1⟩ := bindS_some hm
  refine wc_cut (σ := Unit) (fun _ => bj_1 = .inl ()) (fun _ => []) (fun _ => []) (fun _ => []) ?_ ?_
  ·
   refine wc_seq (wc_region (wP rfl (wl_nil (we_then (wc_block (wc_loop (σ := Nat × Nat) (fun (nu1, u1_6) => iter (m_ropewalkkit_KeptFacts_W_L1 N l0 l2) nu1 u1_6 = some bj_1) (fun (nu1, u1_6) => nu1) (fun (nu1, u1_6) => [(6, .int .i64 ((u1_6 : Nat) : Int)), (5, .slice p16 ((l0.take (l2.length + 12)).length) qc1), (1, .slice qp2 l2.length qc3)]) (fun (nu1, u1_6) => [.sli 3 RS_FactD p16 qc1 (l0.take (l2.length + 12)), .sli 3 R_FactD qp2 qc3 l2]) (fun (nu1, u1_6) => []) (N, 0) hm [6,5,1] rfl (asK [0,2] rfl) rfl (fun s_ hm => ?_)))))))
   obtain ⟨nu1, u1_6⟩ := s_
   try dsimp only at hm ⊢
   obtain ⟨mu1, bu1, hnu1, hq, hLu1⟩ := iter_some hm
   clear hm
   subst hnu1
   replace hm := hq
   clear hq
   unfold m_ropewalkkit_KeptFacts_W_L1 at hm
   try dsimp only at hm
   refine wc_seq (wc_seq (wc_region (wP rfl (wP rfl (wN rfl tE_26 (wP rfl (wl_as (d := 20) (v' := .bool (decide (u1_6 < ((l0.take (l2.length + 12)).length)))) (S' := [_,_,_,_,_,_]) rfl rfl (natlt (a := u1_6) (b := (l0.take (l2.length + 12)).length)) (wl_nil (we_then (wc_keep [20,6,5,1] (S' := [_,_,_,_]) rfl ?_))))))))))
   refine wc_cond rfl (fun hb20 => ?_) (fun hb20 => ?_)
   ·
    replace hm := iteT hm hb20
    refine wc_keep [6,5,1] (S' := [_,_,_]) rfl (wc_skip (we_then (wc_seq (wc_block (wc_seq ?_)))))
    obtain ⟨bj_2, hm, hLj_2⟩ := bindO_some hm
    unfold m_ropewalkkit_KeptFacts_W_C2 at hm
    refine wc_cut (σ := Bool) (fun j_2_57 => bj_2 = j_2_57) (fun j_2_57 => [(6, .int .i64 ((u1_6 : Nat) : Int)), (5, .slice p16 ((l0.take (l2.length + 12)).length) qc1), (1, .slice qp2 l2.length qc3), (57, .bool j_2_57)]) (fun j_2_57 => [.sli 3 RS_FactD p16 qc1 (l0.take (l2.length + 12)), .sli 3 R_FactD qp2 qc3 l2]) (fun j_2_57 => []) ?_ ?_
    ·
     rcases ite_some hm with ⟨hs27, hm⟩ | ⟨hs27, hm⟩
     ·
      obtain ⟨x30, hx30, hm⟩ := bindO_some hm
      obtain ⟨x34, hx34, hm⟩ := bindO_some hm
      obtain ⟨v36, hc36, hm⟩ := bindO_some hm
      rcases ite_some hm with ⟨hs39, hm⟩ | ⟨hs39, hm⟩
      ·
       refine wc_draw [0,1,2,3,4,5,6,7,8,9,10,11,12,14,15,16,17,18,19,20,21,22,23,24,25,26,27,28,29,32,33,34] rfl rfl (fun hok => (xP hok 0 rfl (xP hok 1 rfl (wx_len hok 2 rfl rfl rfl (freshS_eq rfl) rfl rfl rfl tE_26 (xP hok 3 rfl (wx_as (d := 26) (v' := .bool (decide (u1_6 < l2.length))) (S' := [_,_,_,_,_,_]) rfl rfl (natlt (a := u1_6) (b := l2.length)) (xP hok 4 rfl (wx_as (d := 27) (v' := .bool true) (S' := [_,_,_,_,_,_,_]) rfl rfl (bool_is hs27) (xP hok 5 rfl (xP hok 6 rfl (wx_indexA hok 7 0 u1_6 rfl rfl rfl (freshS_eq rfl) rfl rfl rfl rfl rfl rfl hx30 tE_26 tS_55 (fun b30 q30 cs30 hlx30 => (wx_openR RS_FactD_opens 1 rfl (fun r30 er30 _ => ?_))))))))))))))
       subst er30
       refine wx_load hok 8 1 0 rfl rfl rfl (freshS_eq rfl) rfl rfl rfl rfl (cs := [_,_,_]) rfl tS_55 tA_55 rfl rfl (xP hok 9 rfl (xP hok 10 rfl (wx_indexA hok 11 4 u1_6 rfl rfl rfl (freshS_eq rfl) rfl rfl rfl rfl rfl rfl hx34 tE_26 tS_55 (fun b34 q34 cs34 hlx34 => (wx_openR R_FactD_opens 1 rfl (fun r34 er34 _ => ?_))))))
       subst er34
       refine wx_load hok 12 1 0 rfl rfl rfl (freshS_eq rfl) rfl rfl rfl rfl (cs := [_,_,_]) rfl tS_55 tA_55 rfl rfl (xS hok 13 rfl (wC [] [] rfl fn_100 rfl (w_ropewalkkit_KeptFact_W_s N x30.id x30.ty r30.1 r30.2 (x30.args ++ x30.argsT) x30.args.length x34.id x34.ty r34.1 r34.2 x34.args _ hc36) (asK [3,0] rfl) rfl (H' := []) rfl ?_))
       rintro _ _ _ ⟨rfl, rfl, rfl⟩
       refine wl_nil (we_x [0,1,2,3,4,5,6,7] [] rfl rfl (xP hok 14 rfl (xP hok 15 rfl (xP hok 16 rfl (wx_as (d := 39) (v' := .bool true) (S' := [_,_,_,_,_,_,_,_,_,_,_,_,_,_,_,_,_,_,_]) rfl rfl (bool_is hs39) (xO hok 17 rfl (xO hok 18 rfl (xO hok 19 rfl (xO hok 20 rfl (xO hok 21 rfl (xO hok 22 rfl (xO hok 23 rfl (xO hok 24 rfl ?_)))))))))))))
       refine xO hok 25 rfl (xO hok 26 rfl (xO hok 27 rfl (xO hok 28 rfl (xO hok 29 rfl (xS hok 30 rfl (wO rfl (wl_nil (we_x [0,1,2,3,4,5,6,7] [] rfl rfl (xS hok 31 rfl (wO rfl (wl_nil (we_x [0,1,2,3,4,5,6,7] [] rfl rfl (xO hok 32 rfl ?_)))))))))))))
       refine xO hok 33 rfl (xP hok 34 rfl (wx_done hok rfl ?_))
       have hE := (Option.some.inj hm).symm
       refine we_join true hE [6,5,1,57] rfl (asK [6,7] rfl) rfl
      ·
       rcases ite_some hm with ⟨hs44, hm⟩ | ⟨hs44, hm⟩
       ·
        obtain ⟨x47, hx47, hm⟩ := bindO_some hm
        obtain ⟨hg52, hm⟩ := gd_some hm
        obtain ⟨_, hc53, hm⟩ := bindO_some hm
        try dsimp only at hm
        obtain ⟨v54, hc54, hm⟩ := bindO_some hm
        refine wc_draw [0,1,2,3,4,5,6,7,8,9,10,11,12,14,15,16,17,18,19,20,21,22,23,24,25,26,27,28,29,32,33,34] rfl rfl (fun hok => (xP hok 0 rfl (xP hok 1 rfl (wx_len hok 2 rfl rfl rfl (freshS_eq rfl) rfl rfl rfl tE_26 (xP hok 3 rfl (wx_as (d := 26) (v' := .bool (decide (u1_6 < l2.length))) (S' := [_,_,_,_,_,_]) rfl rfl (natlt (a := u1_6) (b := l2.length)) (xP hok 4 rfl (wx_as (d := 27) (v' := .bool true) (S' := [_,_,_,_,_,_,_]) rfl rfl (bool_is hs27) (xP hok 5 rfl (xP hok 6 rfl (wx_indexA hok 7 0 u1_6 rfl rfl rfl (freshS_eq rfl) rfl rfl rfl rfl rfl rfl hx30 tE_26 tS_55 (fun b30 q30 cs30 hlx30 => (wx_openR RS_FactD_opens 1 rfl (fun r30 er30 _ => ?_))))))))))))))
        subst er30
        refine wx_load hok 8 1 0 rfl rfl rfl (freshS_eq rfl) rfl rfl rfl rfl (cs := [_,_,_]) rfl tS_55 tA_55 rfl rfl (xP hok 9 rfl (xP hok 10 rfl (wx_indexA hok 11 4 u1_6 rfl rfl rfl (freshS_eq rfl) rfl rfl rfl rfl rfl rfl hx34 tE_26 tS_55 (fun b34 q34 cs34 hlx34 => (wx_openR R_FactD_opens 1 rfl (fun r34 er34 _ => ?_))))))
        subst er34
        refine wx_load hok 12 1 0 rfl rfl rfl (freshS_eq rfl) rfl rfl rfl rfl (cs := [_,_,_]) rfl tS_55 tA_55 rfl rfl (xS hok 13 rfl (wC [] [] rfl fn_100 rfl (w_ropewalkkit_KeptFact_W_s N x30.id x30.ty r30.1 r30.2 (x30.args ++ x30.argsT) x30.args.length x34.id x34.ty r34.1 r34.2 x34.args _ hc36) (asK [3,0] rfl) rfl (H' := []) rfl ?_))
        rintro _ _ _ ⟨rfl, rfl, rfl⟩
        refine wl_nil (we_x [0,1,2,3,4,5,6,7] [] rfl rfl (xP hok 14 rfl (xP hok 15 rfl (xP hok 16 rfl (wx_as (d := 39) (v' := .bool false) (S' := [_,_,_,_,_,_,_,_,_,_,_,_,_,_,_,_,_,_,_]) rfl rfl (bool_is hs39) (xP hok 17 rfl (xP hok 18 rfl (wx_len hok 19 rfl rfl rfl (freshS_eq rfl) rfl rfl rfl tE_26 (xP hok 20 rfl (wx_as (d := 43) (v' := .bool (decide (l2.length ≤ u1_6))) (S' := [_,_,_,_,_,_,_,_,_,_,_,_,_,_,_,_,_,_,_,_,_,_,_]) rfl rfl (natge (a := u1_6) (b := l2.length)) (xP hok 21 rfl (wx_as (d := 44) (v' := .bool true) (S' := [_,_,_,_,_,_,_,_,_,_,_,_,_,_,_,_,_,_,_,_,_,_,_,_]) rfl rfl (bool_is hs44) (xP hok 22 rfl ?_)))))))))))))
        refine xP hok 23 rfl (wx_indexA hok 24 6 u1_6 rfl rfl rfl (freshS_eq rfl) rfl rfl rfl rfl rfl rfl hx47 tE_26 tS_55 (fun b47 q47 cs47 hlx47 => (wx_openR RS_FactD_opens 1 rfl (fun r47 er47 _ => ?_))))
        subst er47
        refine wx_load hok 25 1 0 rfl rfl rfl (freshS_eq rfl) rfl rfl rfl rfl (cs := [_,_,_]) rfl tS_55 tA_55 rfl rfl (xP hok 26 rfl (xP hok 27 rfl (wx_len hok 28 rfl rfl rfl (freshS_eq rfl) rfl rfl rfl tE_26 (xP hok 29 rfl (wx_as (d := 52) (v' := .int .i64 (((u1_6 : Nat) : Int) - ((l2.length : Nat) : Int))) (S' := [_,_,_,_,_,_,_,_,_,_,_,_,_,_,_,_,_,_,_,_,_,_,_,_,_,_,_,_,_,_,_,_]) rfl rfl (i64_in hg52) (xS hok 30 rfl (wC [] [] rfl fn_96 rfl (w_ropewalkkit_markFact_s N 1 (((u1_6 : Nat) : Int) - ((l2.length : Nat) : Int)) hc53) (asK [] rfl) rfl (H' := []) rfl ?_)))))))
        rintro _ _ _ ⟨rfl, rfl, rfl⟩
        refine wl_nil (we_x [0,1,2,3,4,5,6,7,8,9,10] [] rfl rfl (xS hok 31 rfl (wl_fact (.sli 3 R_V none 0 ([] : List V)) (fun _ _ _ => sli_none) (wC [] [] rfl fn_101 rfl (w_ropewalkkit_SameFact_W_s N x47.id x47.ty r47.1 r47.2 (x47.args ++ x47.argsT) x47.args.length (IntKind.wrap .i64 ((IntKind.wrap .i64 (1000003 * (IntKind.wrap .i64 (1 + 7)))) + (((u1_6 : Nat) : Int) - ((l2.length : Nat) : Int)))) 0 none 0 ([] : List V) _ hc54) (asK [1,0] rfl) rfl (H' := []) rfl ?_))))
        rintro _ _ _ ⟨rfl, rfl, rfl⟩
        refine wl_nil (we_x [1,2,3,4,5,6,7,8,9,10,11] [] rfl rfl (xP hok 32 rfl (xP hok 33 rfl (xP hok 34 rfl (wx_done hok rfl ?_)))))
        have hE := (Option.some.inj hm).symm
        refine we_join (!v54) hE [6,5,1,57] rfl (asK [10,11] rfl) rfl
       ·
        refine wc_draw [0,1,2,3,4,5,6,7,8,9,10,11,12,14,15,16,17,18,19,20,21,22,23,24,25,26,27,28,29,32,33,34] rfl rfl (fun hok => (xP hok 0 rfl (xP hok 1 rfl (wx_len hok 2 rfl rfl rfl (freshS_eq rfl) rfl rfl rfl tE_26 (xP hok 3 rfl (wx_as (d := 26) (v' := .bool (decide (u1_6 < l2.length))) (S' := [_,_,_,_,_,_]) rfl rfl (natlt (a := u1_6) (b := l2.length)) (xP hok 4 rfl (wx_as (d := 27) (v' := .bool true) (S' := [_,_,_,_,_,_,_]) rfl rfl (bool_is hs27) (xP hok 5 rfl (xP hok 6 rfl (wx_indexA hok 7 0 u1_6 rfl rfl rfl (freshS_eq rfl) rfl rfl rfl rfl rfl rfl hx30 tE_26 tS_55 (fun b30 q30 cs30 hlx30 => (wx_openR RS_FactD_opens 1 rfl (fun r30 er30 _ => ?_))))))))))))))
        subst er30
        refine wx_load hok 8 1 0 rfl rfl rfl (freshS_eq rfl) rfl rfl rfl rfl (cs := [_,_,_]) rfl tS_55 tA_55 rfl rfl (xP hok 9 rfl (xP hok 10 rfl (wx_indexA hok 11 4 u1_6 rfl rfl rfl (freshS_eq rfl) rfl rfl rfl rfl rfl rfl hx34 tE_26 tS_55 (fun b34 q34 cs34 hlx34 => (wx_openR R_FactD_opens 1 rfl (fun r34 er34 _ => ?_))))))
        subst er34
        refine wx_load hok 12 1 0 rfl rfl rfl (freshS_eq rfl) rfl rfl rfl rfl (cs := [_,_,_]) rfl tS_55 tA_55 rfl rfl (xS hok 13 rfl (wC [] [] rfl fn_100 rfl (w_ropewalkkit_KeptFact_W_s N x30.id x30.ty r30.1 r30.2 (x30.args ++ x30.argsT) x30.args.length x34.id x34.ty r34.1 r34.2 x34.args _ hc36) (asK [3,0] rfl) rfl (H' := []) rfl ?_))
        rintro _ _ _ ⟨rfl, rfl, rfl⟩
        refine wl_nil (we_x [0,1,2,3,4,5,6,7] [] rfl rfl (xP hok 14 rfl (xP hok 15 rfl (xP hok 16 rfl (wx_as (d := 39) (v' := .bool false) (S' := [_,_,_,_,_,_,_,_,_,_,_,_,_,_,_,_,_,_,_]) rfl rfl (bool_is hs39) (xP hok 17 rfl (xP hok 18 rfl (wx_len hok 19 rfl rfl rfl (freshS_eq rfl) rfl rfl rfl tE_26 (xP hok 20 rfl (wx_as (d := 43) (v' := .bool (decide (l2.length ≤ u1_6))) (S' := [_,_,_,_,_,_,_,_,_,_,_,_,_,_,_,_,_,_,_,_,_,_,_]) rfl rfl (natge (a := u1_6) (b := l2.length)) (xP hok 21 rfl (wx_as (d := 44) (v' := .bool false) (S' := [_,_,_,_,_,_,_,_,_,_,_,_,_,_,_,_,_,_,_,_,_,_,_,_]) rfl rfl (bool_is hs44) (xO hok 22 rfl ?_)))))))))))))
        refine xO hok 23 rfl (xO hok 24 rfl (xO hok 25 rfl (xO hok 26 rfl (xO hok 27 rfl (xO hok 28 rfl (xO hok 29 rfl (xS hok 30 rfl (wO rfl (wl_nil (we_x [0,1,2,3,4,5,6,7] [] rfl rfl (xS hok 31 rfl (wO rfl (wl_nil ?_)))))))))))))
        refine we_x [0,1,2,3,4,5,6,7] [] rfl rfl (xO hok 32 rfl (xP hok 33 rfl (xP hok 34 rfl (wx_done hok rfl ?_))))
        have hE := (Option.some.inj hm).symm
        refine we_join false hE [6,5,1,57] rfl (asK [6,7] rfl) rfl
     ·
      rcases ite_some hm with ⟨hs44, hm⟩ | ⟨hs44, hm⟩
      ·
       obtain ⟨x47, hx47, hm⟩ := bindO_some hm
       obtain ⟨hg52, hm⟩ := gd_some hm
       obtain ⟨_, hc53, hm⟩ := bindO_some hm
       try dsimp only at hm
       obtain ⟨v54, hc54, hm⟩ := bindO_some hm
       refine wc_draw [0,1,2,3,4,5,6,7,8,9,10,11,12,14,15,16,17,18,19,20,21,22,23,24,25,26,27,28,29,32,33,34] rfl rfl (fun hok => (xP hok 0 rfl (xP hok 1 rfl (wx_len hok 2 rfl rfl rfl (freshS_eq rfl) rfl rfl rfl tE_26 (xP hok 3 rfl (wx_as (d := 26) (v' := .bool (decide (u1_6 < l2.length))) (S' := [_,_,_,_,_,_]) rfl rfl (natlt (a := u1_6) (b := l2.length)) (xP hok 4 rfl (wx_as (d := 27) (v' := .bool false) (S' := [_,_,_,_,_,_,_]) rfl rfl (bool_is hs27) (xO hok 5 rfl (xO hok 6 rfl (xO hok 7 rfl (xO hok 8 rfl (xO hok 9 rfl (xO hok 10 rfl ?_))))))))))))))
       refine xO hok 11 rfl (xO hok 12 rfl (xS hok 13 rfl (wO rfl (wl_nil (we_x [0,1] [] rfl rfl (xO hok 14 rfl (xP hok 15 rfl (xP hok 16 rfl (xP hok 17 rfl (xP hok 18 rfl (wx_len hok 19 rfl rfl rfl (freshS_eq rfl) rfl rfl rfl tE_26 (xP hok 20 rfl (wx_as (d := 43) (v' := .bool (decide (l2.length ≤ u1_6))) (S' := [_,_,_,_,_,_,_,_,_,_,_,_,_,_,_,_,_,_,_,_,_,_,_]) rfl rfl (natge (a := u1_6) (b := l2.length)) ?_)))))))))))))
       refine xP hok 21 rfl (wx_as (d := 44) (v' := .bool true) (S' := [_,_,_,_,_,_,_,_,_,_,_,_,_,_,_,_,_,_,_,_,_,_,_,_]) rfl rfl (bool_is hs44) (xP hok 22 rfl (xP hok 23 rfl (wx_indexA hok 24 0 u1_6 rfl rfl rfl (freshS_eq rfl) rfl rfl rfl rfl rfl rfl hx47 tE_26 tS_55 (fun b47 q47 cs47 hlx47 => (wx_openR RS_FactD_opens 1 rfl (fun r47 er47 _ => ?_)))))))
       subst er47
       refine wx_load hok 25 1 0 rfl rfl rfl (freshS_eq rfl) rfl rfl rfl rfl (cs := [_,_,_]) rfl tS_55 tA_55 rfl rfl (xP hok 26 rfl (xP hok 27 rfl (wx_len hok 28 rfl rfl rfl (freshS_eq rfl) rfl rfl rfl tE_26 (xP hok 29 rfl (wx_as (d := 52) (v' := .int .i64 (((u1_6 : Nat) : Int) - ((l2.length : Nat) : Int))) (S' := [_,_,_,_,_,_,_,_,_,_,_,_,_,_,_,_,_,_,_,_,_,_,_,_,_,_,_,_,_,_,_,_]) rfl rfl (i64_in hg52) (xS hok 30 rfl (wC [] [] rfl fn_96 rfl (w_ropewalkkit_markFact_s N 1 (((u1_6 : Nat) : Int) - ((l2.length : Nat) : Int)) hc53) (asK [] rfl) rfl (H' := []) rfl ?_)))))))
       rintro _ _ _ ⟨rfl, rfl, rfl⟩
       refine wl_nil (we_x [0,1,2,3,4] [] rfl rfl (xS hok 31 rfl (wl_fact (.sli 3 R_V none 0 ([] : List V)) (fun _ _ _ => sli_none) (wC [] [] rfl fn_101 rfl (w_ropewalkkit_SameFact_W_s N x47.id x47.ty r47.1 r47.2 (x47.args ++ x47.argsT) x47.args.length (IntKind.wrap .i64 ((IntKind.wrap .i64 (1000003 * (IntKind.wrap .i64 (1 + 7)))) + (((u1_6 : Nat) : Int) - ((l2.length : Nat) : Int)))) 0 none 0 ([] : List V) _ hc54) (asK [1,0] rfl) rfl (H' := []) rfl ?_))))
       rintro _ _ _ ⟨rfl, rfl, rfl⟩
       refine wl_nil (we_x [1,2,3,4,5] [] rfl rfl (xP hok 32 rfl (xP hok 33 rfl (xP hok 34 rfl (wx_done hok rfl ?_)))))
       have hE := (Option.some.inj hm).symm
       refine we_join (!v54) hE [6,5,1,57] rfl (asK [4,5] rfl) rfl
      ·
       refine wc_draw [0,1,2,3,4,5,6,7,8,9,10,11,12,14,15,16,17,18,19,20,21,22,23,24,25,26,27,28,29,32,33,34] rfl rfl (fun hok => (xP hok 0 rfl (xP hok 1 rfl (wx_len hok 2 rfl rfl rfl (freshS_eq rfl) rfl rfl rfl tE_26 (xP hok 3 rfl (wx_as (d := 26) (v' := .bool (decide (u1_6 < l2.length))) (S' := [_,_,_,_,_,_]) rfl rfl (natlt (a := u1_6) (b := l2.length)) (xP hok 4 rfl (wx_as (d := 27) (v' := .bool false) (S' := [_,_,_,_,_,_,_]) rfl rfl (bool_is hs27) (xO hok 5 rfl (xO hok 6 rfl (xO hok 7 rfl (xO hok 8 rfl (xO hok 9 rfl (xO hok 10 rfl ?_))))))))))))))
       refine xO hok 11 rfl (xO hok 12 rfl (xS hok 13 rfl (wO rfl (wl_nil (we_x [0,1] [] rfl rfl (xO hok 14 rfl (xP hok 15 rfl (xP hok 16 rfl (xP hok 17 rfl (xP hok 18 rfl (wx_len hok 19 rfl rfl rfl (freshS_eq rfl) rfl rfl rfl tE_26 (xP hok 20 rfl (wx_as (d := 43) (v' := .bool (decide (l2.length ≤ u1_6))) (S' := [_,_,_,_,_,_,_,_,_,_,_,_,_,_,_,_,_,_,_,_,_,_,_]) rfl rfl (natge (a := u1_6) (b := l2.length)) ?_)))))))))))))
       refine xP hok 21 rfl (wx_as (d := 44) (v' := .bool false) (S' := [_,_,_,_,_,_,_,_,_,_,_,_,_,_,_,_,_,_,_,_,_,_,_,_]) rfl rfl (bool_is hs44) (xO hok 22 rfl (xO hok 23 rfl (xO hok 24 rfl (xO hok 25 rfl (xO hok 26 rfl (xO hok 27 rfl (xO hok 28 rfl (xO hok 29 rfl (xS hok 30 rfl (wO rfl (wl_nil (we_x [0,1] [] rfl rfl ?_)))))))))))))
       refine xS hok 31 rfl (wO rfl (wl_nil (we_x [0,1] [] rfl rfl (xO hok 32 rfl (xP hok 33 rfl (xP hok 34 rfl (wx_done hok rfl ?_)))))))
       have hE := (Option.some.inj hm).symm
       refine we_join false hE [6,5,1,57] rfl (asK [0,1] rfl) rfl
    ·
     rintro j_2_57 hE
     try dsimp only
     have hm := hLj_2
     rw [hE] at hm
     refine wc_cond rfl (fun hb57 => ?_) (fun hb57 => ?_)
     ·
      replace hm := iteT hm hb57
      refine wc_keep [] (S' := []) rfl (wc_seq (wc_region (wP rfl (wl_nil (we_then (wc_ret (we_block_ret (we_then_ret (we_then_ret (we_block_ret (we_then_ret ?_)))))))))))
      have hE := (Option.some.inj hm).symm
      replace hE := link_inr hLu1 hE
      replace hE := link_inr hLj_1 hE
      replace hE := hE.symm
      subst hE
      refine ret_one (Hr := []) [] Tryz.results55 (res_tmp rfl) ⟨rfl, rfl, rfl⟩ (asK [] rfl) rfl rfl (.inl rfl)
     ·
      replace hm := iteF hm hb57
      refine wc_keep [6,5,1] (S' := [_,_,_]) rfl (wc_skip (we_block_normal (we_then (wc_region (wP rfl (wP rfl ?_))))))
      obtain ⟨hg22, hm⟩ := gd_some hm
      refine wl_as (d := 22) (v' := .int .i64 ((u1_6 + 1 : Nat) : Int)) (S' := [_,_,_,_]) rfl rfl (nat_add (a := u1_6) (b := 1) hg22) (wl_pure (S' := [_,_,_,_]) rfl rfl rfl rfl rfl (wl_nil ?_))
      have hE := (Option.some.inj hm).symm
      replace hE := link_inl hLu1 hE
      refine we_roundK (_, u1_6 + 1) (Nat.lt_succ_self _) hE [6,5,1] rfl (asK [0,1] rfl) rfl
   ·
    replace hm := iteF hm hb20
    refine wc_keep [] (S' := []) rfl (wc_exit (we_then_exit (we_then_exit (we_block_hit ?_))))
    have hE := (Option.some.inj hm).symm
    replace hE := link_inr hLu1 hE
    refine we_join () hE [] rfl (asK [] rfl) rfl
  ·
   rintro _ hE
   try dsimp only
   have hm := link_inl hLj_1 hE
   try dsimp only at hm
   refine wc_seq (wc_region (wP rfl (wl_nil (we_then (wc_ret ?_)))))
   have hE := (Option.some.inj hm).symm
   replace hE := hE.symm
   subst hE
   refine ret_one (Hr := []) [] Tryz.results55 (res_tmp rfl) ⟨rfl, rfl, rfl⟩ (asK [] rfl) rfl rfl (.inl rfl)
theorem w_ropewalkkit_KeptReply_W_s (N : Nat) (a0 : Int) (a1 : Int) (qp0 : Option Addr) (qc1 : Nat) (l2 : List FactDS) (k3 : Nat) (qp2 : Option Addr) (qc3 : Nat) (l4 : List V) (k5 : Nat) (a6 : Int) (a7 : Int) (qp4 : Option Addr) (qc5 : Nat) (l8 : List FactD) (qp6 : Option Addr) (qc7 : Nat) (l9 : List V) (o0 : Bool) (hm : m_ropewalkkit_KeptReply_W N a0 a1 l2 k3 l4 k5 a6 a7 l8 l9 = some o0) : Spec Tryz.prog 35 [.agg #[.int .i64 a0, .int .i64 a1, .slice qp0 k3 qc1, .slice qp2 k5 qc3], .agg #[.int .i64 a6, .int .i64 a7, .slice qp4 l8.length qc5, .slice qp6 l9.length qc7]] [.sli 3 RS_FactD qp0 qc1 l2, .sli 3 R_V qp2 qc3 l4, .sli 3 R_FactD qp4 qc5 l8, .sli 3 R_V qp6 qc7 l9] [] (fun v Φr Hr => v = .bool o0 ∧ Φr = [] ∧ Hr = []) := by
 unfold m_ropewalkkit_KeptReply_W at hm
 refine spec_of Tryz.func35 rfl Tryz.ntmps35 rfl (S := [_,_]) rfl (fun C => (wc_seq (wc_region (wB rfl (fun g2 => (wB rfl (fun g3 => (wP rfl (wl_nil (we_then (wc_keep [3,2] (S' := [_,_]) rfl (wc_seq (wc_region (wl_loadH 1 0 rfl rfl rfl (freshS_eq rfl) rfl rfl rfl (cs := [_,_,_,_]) rfl tS_29 tA_29 rfl rfl (wl_loadH 0 0 rfl rfl rfl (freshS_eq rfl) rfl rfl rfl (cs := [_,_,_,_]) rfl tS_29 tA_29 rfl rfl ?_)))))))))))))))
 obtain ⟨v7, hc7, hm⟩ := bindO_some hm
 refine wC [] [0,1] rfl fn_38 rfl (w_ropewalkkit_SameReply_W_s N a0 a1 qp0 qc1 l2 k3 qp2 qc3 l4 k5 a6 a7 qp4 qc5 l8 qp6 qc7 l9 _ hc7) (asK [0,1,2,3] rfl) rfl (H' := [_,_]) rfl ?_
 rintro _ _ _ ⟨rfl, rfl, rfl⟩
 refine wP rfl ?_
 refine wl_split (d := 8) (S' := [_,_,_,_,_]) rfl rfl (fun hs8 => ?_) (fun hs8 => ?_)
 ·
  replace hm := iteT hm hs8
  refine wF rfl tF_29_2 (wD 1 2 rfl tS_26 tA_26 rfl (wF rfl tF_29_2 (wD 0 2 rfl tS_26 tA_26 rfl ?_)))
  obtain ⟨v13, hc13, hm⟩ := bindO_some hm
  refine wC [] [0,1] rfl fn_55 rfl (w_ropewalkkit_KeptFacts_W_s N qp0 qc1 l2 k3 qp4 qc5 l8 _ hc13) (asK [0,2] rfl) rfl (H' := [_,_]) rfl ?_
  rintro _ _ _ ⟨rfl, rfl, rfl⟩
  refine wP rfl (wP rfl ?_)
  refine wl_split (d := 15) (S' := [_,_,_,_,_,_,_,_,_,_,_,_]) rfl rfl (fun hs15 => ?_) (fun hs15 => ?_)
  ·
   replace hm := iteT hm hs15
   refine wF rfl tF_29_3 (wD 1 3 rfl tS_27 tA_27 rfl (wF rfl tF_29_3 (wD 0 3 rfl tS_27 tA_27 rfl ?_)))
   obtain ⟨v20, hc20, hm⟩ := bindO_some hm
   refine wC [] [0,1] rfl fn_56 rfl (w_ropewalkkit_KeptValues_W_s N qp2 qc3 l4 k5 qp6 qc7 l9 _ hc20) (asK [1,3] rfl) rfl (H' := [_,_]) rfl ?_
   rintro _ _ _ ⟨rfl, rfl, rfl⟩
   refine wP rfl (wP rfl (wl_nil (we_then (wc_keep [4] (S' := [_]) rfl (wc_ret ?_)))))
   have hE := (Option.some.inj hm).symm
   replace hE := hE.symm
   subst hE
   refine ret_one (Hr := []) [] Tryz.results35 (res_tmp rfl) ⟨rfl, rfl, rfl⟩ (asK [] rfl) rfl rfl (.inl rfl)
  ·
   replace hm := iteF hm hs15
   refine wO rfl (wO rfl (wO rfl (wO rfl (wO rfl (wP rfl (wP rfl (wl_nil (we_then (wc_keep [4] (S' := [_]) rfl (wc_ret ?_))))))))))
   have hE := (Option.some.inj hm).symm
   replace hE := hE.symm
   subst hE
   refine ret_one (Hr := []) [] Tryz.results35 (res_tmp rfl) ⟨rfl, rfl, rfl⟩ (asK [] rfl) rfl rfl (.inl rfl)
 ·
  replace hm := iteF hm hs8
  refine wO rfl (wO rfl (wO rfl (wO rfl (wO rfl (wP rfl (wP rfl (wO rfl (wO rfl (wO rfl (wO rfl (wO rfl (wP rfl (wP rfl ?_)))))))))))))
  refine wl_nil (we_then (wc_keep [4] (S' := [_]) rfl (wc_ret ?_)))
  have hE := (Option.some.inj hm).symm
  replace hE := hE.symm
  subst hE
  refine ret_one (Hr := []) [] Tryz.results35 (res_tmp rfl) ⟨rfl, rfl, rfl⟩ (asK [] rfl) rfl rfl (.inl rfl)
theorem w_ropewalkkit_KeptSession_W_s (N : Nat) (a0 : Int) (a1 : Int) (a2 : Int) (a3 : Int) (qp0 : Option Addr) (qc1 : Nat) (l4 : List FactDS) (k5 : Nat) (qp2 : Option Addr) (qc3 : Nat) (l6 : List V) (k7 : Nat) (a8 : Int) (a9 : Int) (a10 : Int) (a11 : Int) (qp4 : Option Addr) (qc5 : Nat) (l12 : List FactD) (qp6 : Option Addr) (qc7 : Nat) (l13 : List V) (o0 : Bool) (hm : m_ropewalkkit_KeptSession_W N a0 a1 a2 a3 l4 k5 l6 k7 a8 a9 a10 a11 l12 l13 = some o0) : Spec Tryz.prog 27 [.agg #[.int .i64 a0, .int .i64 a1, .int .i64 a2, .int .i64 a3, .slice qp0 k5 qc1, .slice qp2 k7 qc3], .agg #[.int .i64 a8, .int .i64 a9, .int .i64 a10, .int .i64 a11, .slice qp4 l12.length qc5, .slice qp6 l13.length qc7]] [.sli 3 RS_FactD qp0 qc1 l4, .sli 3 R_V qp2 qc3 l6, .sli 3 R_FactD qp4 qc5 l12, .sli 3 R_V qp6 qc7 l13] [] (fun v Φr Hr => v = .bool o0 ∧ Φr = [] ∧ Hr = []) := by
 unfold m_ropewalkkit_KeptSession_W at hm
 refine spec_of Tryz.func27 rfl Tryz.ntmps27 rfl (S := [_,_]) rfl (fun C => (wc_seq (wc_region (wB rfl (fun g2 => (wB rfl (fun g3 => (wP rfl (wl_nil (we_then (wc_keep [3,2] (S' := [_,_]) rfl (wc_seq (wc_region (wl_loadH 1 0 rfl rfl rfl (freshS_eq rfl) rfl rfl rfl (cs := [_,_,_,_,_,_]) rfl tS_31 tA_31 rfl rfl (wl_loadH 0 0 rfl rfl rfl (freshS_eq rfl) rfl rfl rfl (cs := [_,_,_,_,_,_]) rfl tS_31 tA_31 rfl rfl ?_)))))))))))))))
 obtain ⟨v7, hc7, hm⟩ := bindO_some hm
 refine wC [] [0,1] rfl fn_28 rfl (w_ropewalkkit_SameSession_W_s N a0 a1 a2 a3 qp0 qc1 l4 k5 qp2 qc3 l6 k7 a8 a9 a10 a11 qp4 qc5 l12 qp6 qc7 l13 _ hc7) (asK [0,1,2,3] rfl) rfl (H' := [_,_]) rfl ?_
 rintro _ _ _ ⟨rfl, rfl, rfl⟩
 refine wP rfl ?_
 refine wl_split (d := 8) (S' := [_,_,_,_,_]) rfl rfl (fun hs8 => ?_) (fun hs8 => ?_)
 ·
  replace hm := iteT hm hs8
  refine wF rfl tF_31_2 (wl_loadH 1 2 rfl rfl rfl (freshS_eq rfl) rfl rfl rfl (cs := [_,_,_,_]) rfl tS_29 tA_29 rfl rfl (wF rfl tF_31_2 (wl_loadH 0 2 rfl rfl rfl (freshS_eq rfl) rfl rfl rfl (cs := [_,_,_,_]) rfl tS_29 tA_29 rfl rfl ?_)))
  obtain ⟨v13, hc13, hm⟩ := bindO_some hm
  refine wC [] [0,1] rfl fn_35 rfl (w_ropewalkkit_KeptReply_W_s N a2 a3 qp0 qc1 l4 k5 qp2 qc3 l6 k7 a10 a11 qp4 qc5 l12 qp6 qc7 l13 _ hc13) (asK [0,1,2,3] rfl) rfl (H' := [_,_]) rfl ?_
  rintro _ _ _ ⟨rfl, rfl, rfl⟩
  refine wP rfl (wP rfl (wl_nil (we_then (wc_keep [4] (S' := [_]) rfl (wc_ret ?_)))))
  have hE := (Option.some.inj hm).symm
  replace hE := hE.symm
  subst hE
  refine ret_one (Hr := []) [] Tryz.results27 (res_tmp rfl) ⟨rfl, rfl, rfl⟩ (asK [] rfl) rfl rfl (.inl rfl)
 ·
  replace hm := iteF hm hs8
  refine wO rfl (wO rfl (wO rfl (wO rfl (wO rfl (wP rfl (wP rfl (wl_nil (we_then (wc_keep [4] (S' := [_]) rfl (wc_ret ?_))))))))))
  have hE := (Option.some.inj hm).symm
  replace hE := hE.symm
  subst hE
  refine ret_one (Hr := []) [] Tryz.results27 (res_tmp rfl) ⟨rfl, rfl, rfl⟩ (asK [] rfl) rfl rfl (.inl rfl)
end Go.Proofs.YtighbinghbnjhaaGreat
