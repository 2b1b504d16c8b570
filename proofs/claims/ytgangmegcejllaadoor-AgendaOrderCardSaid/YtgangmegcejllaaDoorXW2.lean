import Derived.Test.YtgangmegcejllaaDoorXW1
namespace Go.Proofs.YtgangmegcejllaaDoor
open Go.RowKit
set_option maxRecDepth 100000
set_option maxHeartbeats 4000000
theorem w_slices_heapSortCmpFunc_Token_v2_s (N : Nat) (qp0 : Option Addr) (qn1 : Nat) (qc2 : Nat) (l0 : List Api_TokenD) (a1 : Int) (a2 : Int) (qp3 : Addr) (qn4 : Nat) (qc5 : Nat) (l3 : List Int) (o0 : List Api_TokenD) (hm : m_slices_heapSortCmpFunc_Token_v2 N l0 a1 a2 l3 = some o0) : Spec Tryd.prog 41 [.slice qp0 qn1 qc2, .int .i64 a1, .int .i64 a2, .func (.func 19) #[.slice (some qp3) qn4 qc5] #[]] [tabF Tryd.prog "internal/strconv.uint64pow10" .u64 Lib.pow10Tab 0 pow10_g] [.own 33 2 R_Api_TokenD (.slice qp0 qn1 qc2) l0, .own 3 1 R_i64 (.slice (some qp3) qn4 qc5) l3] (fun v Φr Hr => v = .tuple #[] ∧ Φr = [] ∧ Hr = [.own 33 2 R_Api_TokenD (.slice qp0 qn1 qc2) o0, .own 3 1 R_i64 (.slice (some qp3) qn4 qc5) l3]) := by
 unfold m_slices_heapSortCmpFunc_Token_v2 at hm
 refine spec_of Tryd.func41 rfl Tryd.ntmps41 rfl (S := [_,_,_,_]) rfl (fun C => (wc_seq (wc_region (wP rfl (wP rfl (wl_nil (we_then (wc_keep [8,0,1,2,3] (S' := [_,_,_,_,_]) rfl (wc_seq (wc_region (wP rfl (wl_nil (we_then (wc_seq ?_))))))))))))))
 refine wc_region (wP rfl (wP rfl (wP rfl ?_)))
 obtain ⟨hg16, hm⟩ := gd_some hm
 refine wl_as (d := 16) (v' := .int .i64 (a2 - a1)) (S' := [_,_,_,_,_,_,_,_]) rfl rfl (i64_in hg16) (wP rfl (wl_nil (we_then (wc_keep [10,9,8,0,3] (S' := [_,_,_,_,_]) rfl (wc_seq ?_)))))
 obtain ⟨bj_1, hm, hLj_1⟩ := bindO_some hm
 refine wc_cut (σ := List Api_TokenD) (fun j_1_0_l => bj_1 = j_1_0_l) (fun j_1_0_l => [(10, .int .i64 (a2 - a1)), (9, .int .i64 0), (8, .int .i64 a1), (0, .slice qp0 qn1 qc2), (3, .func (.func 19) #[.slice (some qp3) qn4 qc5] #[])]) (fun j_1_0_l => [tabF Tryd.prog "internal/strconv.uint64pow10" .u64 Lib.pow10Tab 0 pow10_g]) (fun j_1_0_l => [.own 33 2 R_Api_TokenD (.slice qp0 qn1 qc2) j_1_0_l, .own 3 1 R_i64 (.slice (some qp3) qn4 qc5) l3]) ?_ ?_
 ·
  refine wc_seq (wc_region (wP rfl (wP rfl ?_)))
  obtain ⟨hg18, hm⟩ := gd_some hm
  refine wl_as (d := 18) (v' := .int .i64 ((a2 - a1) - 1)) (S' := [_,_,_,_,_,_]) rfl rfl (i64_in hg18) (wl_bin rfl rfl rfl (freshS_eq rfl) rfl rfl rfl (run_quo (by decide)) (wP rfl (wl_nil (we_then (wc_keep [11,10,9,8,0,3] (S' := [_,_,_,_,_,_]) rfl (wc_block (wc_loop (σ := Nat × Int × (List Api_TokenD)) (fun (nu1, u1_11, u1_0_l) => iter (m_slices_heapSortCmpFunc_Token_v2_L1 N a2 a1 l3) nu1 (u1_11, u1_0_l) = some bj_1) (fun (nu1, u1_11, u1_0_l) => nu1) (fun (nu1, u1_11, u1_0_l) => [(11, .int .i64 u1_11), (10, .int .i64 (a2 - a1)), (9, .int .i64 0), (8, .int .i64 a1), (0, .slice qp0 qn1 qc2), (3, .func (.func 19) #[.slice (some qp3) qn4 qc5] #[])]) (fun (nu1, u1_11, u1_0_l) => [tabF Tryd.prog "internal/strconv.uint64pow10" .u64 Lib.pow10Tab 0 pow10_g]) (fun (nu1, u1_11, u1_0_l) => [.own 33 2 R_Api_TokenD (.slice qp0 qn1 qc2) u1_0_l, .own 3 1 R_i64 (.slice (some qp3) qn4 qc5) l3]) (N, IntKind.wrap .i64 (Int.tdiv ((a2 - a1) - 1) 2), l0) hm [11,10,9,8,0,3] rfl (asK [0] rfl) rfl (fun s_ hm => ?_))))))))
  obtain ⟨nu1, u1_11, u1_0_l⟩ := s_
  try dsimp only at hm ⊢
  obtain ⟨mu1, bu1, hnu1, hq, hLu1⟩ := iter_some hm
  clear hm
  subst hnu1
  replace hm := hq
  clear hq
  unfold m_slices_heapSortCmpFunc_Token_v2_L1 at hm
  try dsimp only at hm
  refine wc_seq (wc_seq (wc_region (wP rfl (wP rfl (wl_nil (we_then (wc_keep [21,11,10,9,8,0,3] (S' := [_,_,_,_,_,_,_]) rfl ?_)))))))
  refine wc_cond rfl (fun hb21 => ?_) (fun hb21 => ?_)
  ·
   replace hm := iteT hm hb21
   refine wc_keep [11,10,9,8,0,3] (S' := [_,_,_,_,_,_]) rfl (wc_skip (we_then (wc_seq (wc_block (wc_region (wP rfl (wP rfl (wP rfl (wP rfl (wP rfl (wl_ownLen 0 rfl (fun hzqn1 _ => ?_))))))))))))
   subst hzqn1
   obtain ⟨v29, hc29, hm⟩ := bindO_some hm
   refine wC [0,1] [] rfl fn_52 rfl (w_slices_siftDownCmpFunc_Token_v2_s N qp0 u1_0_l.length qc2 u1_0_l u1_11 (a2 - a1) a1 qp3 qn4 qc5 l3 _ hc29) (asK [0] rfl) rfl (H' := []) rfl ?_
   rintro _ _ _ ⟨rfl, rfl, rfl⟩
   refine wl_nil (we_block_normal (we_then (wc_keep [11,10,9,8,0,3] (S' := [_,_,_,_,_,_]) rfl (wc_region (wP rfl (wP rfl ?_))))))
   obtain ⟨hg23, hm⟩ := gd_some hm
   refine wl_as (d := 23) (v' := .int .i64 (u1_11 - 1)) (S' := [_,_,_,_,_,_,_]) rfl rfl (i64_in hg23) (wl_pure (S' := [_,_,_,_,_,_,_]) rfl rfl rfl rfl rfl (wl_nil ?_))
   have hE := (Option.some.inj hm).symm
   replace hE := link_inl hLu1 hE
   refine we_roundK (_, u1_11 - 1, v29) (Nat.lt_succ_self _) hE [11,10,9,8,0,3] rfl (asK [0] rfl) rfl
  ·
   replace hm := iteF hm hb21
   refine wc_keep [10,9,8,0,3] (S' := [_,_,_,_,_]) rfl (wc_exit (we_then_exit (we_then_exit (we_block_hit ?_))))
   have hE := (Option.some.inj hm).symm
   replace hE := link_inr hLu1 hE
   refine we_join u1_0_l hE [10,9,8,0,3] rfl (asK [0] rfl) rfl
 ·
  rintro j_1_0_l hE
  try dsimp only
  have hm := hLj_1
  rw [hE] at hm
  refine wc_seq (wc_region (wP rfl (wP rfl ?_)))
  obtain ⟨hg31, hm⟩ := gd_some hm
  refine wl_as (d := 31) (v' := .int .i64 ((a2 - a1) - 1)) (S' := [_,_,_,_,_,_]) rfl rfl (i64_in hg31) (wP rfl (wl_nil (we_then (wc_keep [12,9,8,0,3] (S' := [_,_,_,_,_]) rfl (wc_block (wc_loop (σ := Nat × Int × (List Api_TokenD)) (fun (nu2, u2_12, u2_0_l) => iter (m_slices_heapSortCmpFunc_Token_v2_L2 N a1 l3) nu2 (u2_12, u2_0_l) = some o0) (fun (nu2, u2_12, u2_0_l) => nu2) (fun (nu2, u2_12, u2_0_l) => [(12, .int .i64 u2_12), (9, .int .i64 0), (8, .int .i64 a1), (0, .slice qp0 qn1 qc2), (3, .func (.func 19) #[.slice (some qp3) qn4 qc5] #[])]) (fun (nu2, u2_12, u2_0_l) => [tabF Tryd.prog "internal/strconv.uint64pow10" .u64 Lib.pow10Tab 0 pow10_g]) (fun (nu2, u2_12, u2_0_l) => [.own 33 2 R_Api_TokenD (.slice qp0 qn1 qc2) u2_0_l, .own 3 1 R_i64 (.slice (some qp3) qn4 qc5) l3]) (N, (a2 - a1) - 1, j_1_0_l) hm [12,9,8,0,3] rfl (asK [0] rfl) rfl (fun s_ hm => ?_)))))))
  obtain ⟨nu2, u2_12, u2_0_l⟩ := s_
  try dsimp only at hm ⊢
  obtain ⟨mu2, bu2, hnu2, hq, hLu2⟩ := iter_some hm
  clear hm
  subst hnu2
  replace hm := hq
  clear hq
  unfold m_slices_heapSortCmpFunc_Token_v2_L2 at hm
  try dsimp only at hm
  refine wc_seq (wc_seq (wc_region (wP rfl (wP rfl (wl_nil (we_then (wc_keep [33,12,9,8,0,3] (S' := [_,_,_,_,_,_]) rfl ?_)))))))
  refine wc_cond rfl (fun hb33 => ?_) (fun hb33 => ?_)
  ·
   replace hm := iteT hm hb33
   refine wc_keep [12,9,8,0,3] (S' := [_,_,_,_,_]) rfl (wc_skip (we_then (wc_seq (wc_block (wc_seq ?_)))))
   obtain ⟨hg41, hm⟩ := gd_some hm
   obtain ⟨hg45, hm⟩ := gd_some hm
   obtain ⟨hn46, hm⟩ := gd_some hm
   obtain ⟨x46, hx46, hm⟩ := bindO_some hm
   obtain ⟨hn50, hm⟩ := gd_some hm
   obtain ⟨x50, hx50, hm⟩ := bindO_some hm
   obtain ⟨hn52, hm⟩ := gd_some hm
   obtain ⟨x52, hx52, hm⟩ := bindO_some hm
   obtain ⟨hn53, hm⟩ := gd_some hm
   obtain ⟨x53, hx53, hm⟩ := bindO_some hm
   refine wc_cut (σ := Unit) (fun _ => True) (fun _ => [(12, .int .i64 u2_12), (9, .int .i64 0), (8, .int .i64 a1), (0, .slice qp0 qn1 qc2), (3, .func (.func 19) #[.slice (some qp3) qn4 qc5] #[])]) (fun _ => [tabF Tryd.prog "internal/strconv.uint64pow10" .u64 Lib.pow10Tab 0 pow10_g]) (fun _ => [.own 33 2 R_Api_TokenD (.slice qp0 qn1 qc2) ((u2_0_l.set a1.toNat x46).set ((a1 + u2_12).toNat) x50), .own 3 1 R_i64 (.slice (some qp3) qn4 qc5) l3]) ?_ ?_
   ·
    refine wc_draw [0,1,2,3,4,5,6,7,8,9,10,12,13,14,16,18] rfl rfl (fun hok => (xP hok 0 rfl (xP hok 1 rfl (xP hok 2 rfl (xP hok 3 rfl (xP hok 4 rfl (xP hok 5 rfl (wx_as (d := 41) (v' := .int .i64 (a1 + u2_12)) (S' := [_,_,_,_,_,_,_,_,_,_]) rfl rfl (i64_in hg41) (xP hok 6 rfl (xP hok 7 rfl (xP hok 8 rfl (xP hok 9 rfl (wx_as (d := 45) (v' := .int .i64 (a1 + u2_12)) (S' := [_,_,_,_,_,_,_,_,_,_,_,_,_,_]) rfl rfl (i64_in hg45) (wx_indexH hok 10 0 ((a1 + u2_12).toNat) rfl rfl rfl (freshS_eq rfl) rfl rfl rfl rfl rfl (toNat_eq hn46) (get_lt hx46) tE_23 tS_33 (fun g46 eg46 => ?_)))))))))))))))
    subst eg46
    refine xP hok 12 rfl (xP hok 13 rfl (wx_indexK hok 14 0 a1.toNat rfl rfl rfl (freshS_eq rfl) rfl rfl rfl rfl rfl (toNat_eq hn50) (get_lt hx50) tE_23 tS_33 ?_))
    refine wx_step2 hok 11 15 rfl rfl rfl rfl rfl rfl ?_ ?_
    ·
     refine wl_loadRow R_Api_TokenD_opens 0 ((a1 + u2_12).toNat) 0 rfl rfl rfl (freshS_eq rfl) rfl rfl rfl hx46 tS_33 tA_33 (v := fun r47 => .agg #[.int .i64 (x46.rule), .slice r47.1 x46.ids.length r47.2]) (fun _ => rfl) (fun _ => rfl) (fun r47 _ => (wl_nil (we_x [1] [] rfl rfl (xS hok 15 rfl (wl_loadRow R_Api_TokenD_opens 0 a1.toNat 0 rfl rfl rfl (freshS_eq rfl) rfl rfl rfl hx50 tS_33 tA_33 (v := fun r51 => .agg #[.int .i64 (x50.rule), .slice r51.1 x50.ids.length r51.2]) (fun _ => rfl) (fun _ => rfl) (fun r51 _ => (wl_nil (we_x [1,2] [] rfl rfl (wx_indexK hok 16 0 a1.toNat rfl rfl rfl (freshS_eq rfl) rfl rfl rfl rfl rfl (toNat_eq hn52) (get_lt hx52) tE_23 tS_33 (xS hok 17 rfl (wl_storeRow (u := x46) 0 a1.toNat rfl rfl rfl rfl rfl (get_lt hx52) rfl rfl tS_33 rfl (fun F w hφ => ⟨(r47.1, r47.2), rfl, (ask_cons (hφ _ (mem_at (k := 1) rfl)) ask_nil)⟩) (H' := [_,_]) rfl (wl_nil (we_x [0,1,2] [] rfl rfl (wx_indexK hok 18 0 ((a1 + u2_12).toNat) rfl rfl rfl (freshS_eq rfl) rfl rfl rfl rfl rfl (toNat_eq hn53) (get_lt hx53) tE_23 tS_33 (xS hok 19 rfl ?_)))))))))))))))
     refine wl_storeRow (u := x50) 0 ((a1 + u2_12).toNat) rfl rfl rfl rfl rfl (get_lt hx53) rfl rfl tS_33 rfl (fun F w hφ => ⟨(r51.1, r51.2), rfl, (ask_cons (hφ _ (mem_at (k := 0) rfl)) ask_nil)⟩) (H' := [_,_]) rfl (wl_nil (we_x [0,1,2] [] rfl rfl (wx_done hok rfl ?_)))
     refine we_join () trivial [12,9,8,0,3] rfl (asK [2] rfl) rfl
    ·
     refine wl_loadRow R_Api_TokenD_opens 0 a1.toNat 0 rfl rfl rfl (freshS_eq rfl) rfl rfl rfl hx50 tS_33 tA_33 (v := fun r51 => .agg #[.int .i64 (x50.rule), .slice r51.1 x50.ids.length r51.2]) (fun _ => rfl) (fun _ => rfl) (fun r51 _ => (wl_nil (we_x [1] [] rfl rfl (xS hok 11 rfl (wl_loadRow R_Api_TokenD_opens 0 ((a1 + u2_12).toNat) 0 rfl rfl rfl (freshS_eq rfl) rfl rfl rfl hx46 tS_33 tA_33 (v := fun r47 => .agg #[.int .i64 (x46.rule), .slice r47.1 x46.ids.length r47.2]) (fun _ => rfl) (fun _ => rfl) (fun r47 _ => (wl_nil (we_x [1,2] [] rfl rfl (wx_indexK hok 16 0 a1.toNat rfl rfl rfl (freshS_eq rfl) rfl rfl rfl rfl rfl (toNat_eq hn52) (get_lt hx52) tE_23 tS_33 (xS hok 17 rfl (wl_storeRow (u := x46) 0 a1.toNat rfl rfl rfl rfl rfl (get_lt hx52) rfl rfl tS_33 rfl (fun F w hφ => ⟨(r47.1, r47.2), rfl, (ask_cons (hφ _ (mem_at (k := 0) rfl)) ask_nil)⟩) (H' := [_,_]) rfl (wl_nil (we_x [0,1,2] [] rfl rfl (wx_indexK hok 18 0 ((a1 + u2_12).toNat) rfl rfl rfl (freshS_eq rfl) rfl rfl rfl rfl rfl (toNat_eq hn53) (get_lt hx53) tE_23 tS_33 (xS hok 19 rfl ?_)))))))))))))))
     refine wl_storeRow (u := x50) 0 ((a1 + u2_12).toNat) rfl rfl rfl rfl rfl (get_lt hx53) rfl rfl tS_33 rfl (fun F w hφ => ⟨(r51.1, r51.2), rfl, (ask_cons (hφ _ (mem_at (k := 1) rfl)) ask_nil)⟩) (H' := [_,_]) rfl (wl_nil (we_x [0,1,2] [] rfl rfl (wx_done hok rfl ?_)))
     refine we_join () trivial [12,9,8,0,3] rfl (asK [2] rfl) rfl
   ·
    rintro _ _
    try dsimp only
    refine wc_region (wP rfl (wP rfl (wP rfl (wP rfl (wP rfl (wl_ownLen 0 rfl (fun hzqn1 _ => ?_)))))))
    subst hzqn1
    obtain ⟨v59, hc59, hm⟩ := bindO_some hm
    refine wC [0,1] [] rfl fn_52 rfl (w_slices_siftDownCmpFunc_Token_v2_s N qp0 (((u2_0_l.set a1.toNat x46).set ((a1 + u2_12).toNat) x50).length) qc2 ((u2_0_l.set a1.toNat x46).set ((a1 + u2_12).toNat) x50) 0 u2_12 a1 qp3 qn4 qc5 l3 _ hc59) (asK [0] rfl) rfl (H' := []) rfl ?_
    rintro _ _ _ ⟨rfl, rfl, rfl⟩
    refine wl_nil (we_block_normal (we_then (wc_keep [12,9,8,0,3] (S' := [_,_,_,_,_]) rfl (wc_region (wP rfl (wP rfl ?_))))))
    obtain ⟨hg35, hm⟩ := gd_some hm
    refine wl_as (d := 35) (v' := .int .i64 (u2_12 - 1)) (S' := [_,_,_,_,_,_]) rfl rfl (i64_in hg35) (wl_pure (S' := [_,_,_,_,_,_]) rfl rfl rfl rfl rfl (wl_nil ?_))
    have hE := (Option.some.inj hm).symm
    replace hE := link_inl hLu2 hE
    refine we_roundK (_, u2_12 - 1, v59) (Nat.lt_succ_self _) hE [12,9,8,0,3] rfl (asK [0] rfl) rfl
  ·
   replace hm := iteF hm hb33
   refine wc_keep [] (S' := []) rfl (wc_exit (we_then_exit (we_then_exit (we_block_hit ?_))))
   have hE := (Option.some.inj hm).symm
   replace hE := link_inr hLu2 hE
   replace hE := hE.symm
   subst hE
   refine ret_none (Hr := [_,_]) [0,1] Tryd.results41 ⟨rfl, rfl, rfl⟩ (asK [] rfl) rfl rfl (.inr rfl)
theorem w_slices_reverseRangeCmpFunc_Token_v2_s (N : Nat) (qp0 : Option Addr) (qn1 : Nat) (qc2 : Nat) (l0 : List Api_TokenD) (a1 : Int) (a2 : Int) (qp3 : Addr) (qn4 : Nat) (qc5 : Nat) (l3 : List Int) (o0 : List Api_TokenD) (hm : m_slices_reverseRangeCmpFunc_Token_v2 N l0 a1 a2 l3 = some o0) : Spec Tryd.prog 44 [.slice qp0 qn1 qc2, .int .i64 a1, .int .i64 a2, .func (.func 19) #[.slice (some qp3) qn4 qc5] #[]] [tabF Tryd.prog "internal/strconv.uint64pow10" .u64 Lib.pow10Tab 0 pow10_g] [.own 33 2 R_Api_TokenD (.slice qp0 qn1 qc2) l0, .own 3 1 R_i64 (.slice (some qp3) qn4 qc5) l3] (fun v Φr Hr => v = .tuple #[] ∧ Φr = [] ∧ Hr = [.own 33 2 R_Api_TokenD (.slice qp0 qn1 qc2) o0, .own 3 1 R_i64 (.slice (some qp3) qn4 qc5) l3]) := by
 unfold m_slices_reverseRangeCmpFunc_Token_v2 at hm
 refine spec_of Tryd.func44 rfl Tryd.ntmps44 rfl (S := [_,_,_,_]) rfl (fun C => (wc_seq (wc_region (wP rfl (wP rfl (wl_nil (we_then (wc_keep [8,0,2] (S' := [_,_,_]) rfl (wc_seq (wc_region (wP rfl (wP rfl ?_))))))))))))
 obtain ⟨hg12, hm⟩ := gd_some hm
 refine wl_as (d := 12) (v' := .int .i64 (a2 - 1)) (S' := [_,_,_,_]) rfl rfl (i64_in hg12) (wP rfl (wl_nil (we_then (wc_keep [9,8,0] (S' := [_,_,_]) rfl (wc_block (wc_loop (σ := Nat × Int × Int × (List Api_TokenD)) (fun (nu1, u1_9, u1_8, u1_0_l) => iter (m_slices_reverseRangeCmpFunc_Token_v2_L1 N) nu1 (u1_9, u1_8, u1_0_l) = some o0) (fun (nu1, u1_9, u1_8, u1_0_l) => nu1) (fun (nu1, u1_9, u1_8, u1_0_l) => [(9, .int .i64 u1_9), (8, .int .i64 u1_8), (0, .slice qp0 qn1 qc2)]) (fun (nu1, u1_9, u1_8, u1_0_l) => [tabF Tryd.prog "internal/strconv.uint64pow10" .u64 Lib.pow10Tab 0 pow10_g]) (fun (nu1, u1_9, u1_8, u1_0_l) => [.own 33 2 R_Api_TokenD (.slice qp0 qn1 qc2) u1_0_l, .own 3 1 R_i64 (.slice (some qp3) qn4 qc5) l3]) (N, a2 - 1, a1, l0) hm [9,8,0] rfl (asK [0] rfl) rfl (fun s_ hm => ?_)))))))
 obtain ⟨nu1, u1_9, u1_8, u1_0_l⟩ := s_
 try dsimp only at hm ⊢
 obtain ⟨mu1, bu1, hnu1, hq, hLu1⟩ := iter_some hm
 clear hm
 subst hnu1
 replace hm := hq
 clear hq
 unfold m_slices_reverseRangeCmpFunc_Token_v2_L1 at hm
 try dsimp only at hm
 refine wc_seq (wc_seq (wc_region (wP rfl (wP rfl (wP rfl (wl_nil (we_then (wc_keep [15,9,8,0] (S' := [_,_,_,_]) rfl ?_))))))))
 refine wc_cond rfl (fun hb15 => ?_) (fun hb15 => ?_)
 ·
  replace hm := iteT hm hb15
  refine wc_keep [9,8,0] (S' := [_,_,_]) rfl (wc_skip (we_then (wc_block (wc_seq ?_))))
  obtain ⟨hn22, hm⟩ := gd_some hm
  obtain ⟨x22, hx22, hm⟩ := bindO_some hm
  obtain ⟨hn26, hm⟩ := gd_some hm
  obtain ⟨x26, hx26, hm⟩ := bindO_some hm
  obtain ⟨hn28, hm⟩ := gd_some hm
  obtain ⟨x28, hx28, hm⟩ := bindO_some hm
  obtain ⟨hn29, hm⟩ := gd_some hm
  obtain ⟨x29, hx29, hm⟩ := bindO_some hm
  refine wc_cut (σ := Unit) (fun _ => True) (fun _ => [(9, .int .i64 u1_9), (8, .int .i64 u1_8), (0, .slice qp0 qn1 qc2)]) (fun _ => [tabF Tryd.prog "internal/strconv.uint64pow10" .u64 Lib.pow10Tab 0 pow10_g]) (fun _ => [.own 33 2 R_Api_TokenD (.slice qp0 qn1 qc2) ((u1_0_l.set u1_8.toNat x22).set u1_9.toNat x26), .own 3 1 R_i64 (.slice (some qp3) qn4 qc5) l3]) ?_ ?_
  ·
   refine wc_draw [0,1,2,3,4,5,6,8,9,10,12,14] rfl rfl (fun hok => (xP hok 0 rfl (xP hok 1 rfl (xP hok 2 rfl (xP hok 3 rfl (xP hok 4 rfl (xP hok 5 rfl (wx_indexH hok 6 0 u1_9.toNat rfl rfl rfl (freshS_eq rfl) rfl rfl rfl rfl rfl (toNat_eq hn22) (get_lt hx22) tE_23 tS_33 (fun g22 eg22 => ?_)))))))))
   subst eg22
   refine xP hok 8 rfl (xP hok 9 rfl (wx_indexK hok 10 0 u1_8.toNat rfl rfl rfl (freshS_eq rfl) rfl rfl rfl rfl rfl (toNat_eq hn26) (get_lt hx26) tE_23 tS_33 ?_))
   refine wx_step2 hok 7 11 rfl rfl rfl rfl rfl rfl ?_ ?_
   ·
    refine wl_loadRow R_Api_TokenD_opens 0 u1_9.toNat 0 rfl rfl rfl (freshS_eq rfl) rfl rfl rfl hx22 tS_33 tA_33 (v := fun r23 => .agg #[.int .i64 (x22.rule), .slice r23.1 x22.ids.length r23.2]) (fun _ => rfl) (fun _ => rfl) (fun r23 _ => (wl_nil (we_x [1] [] rfl rfl (xS hok 11 rfl (wl_loadRow R_Api_TokenD_opens 0 u1_8.toNat 0 rfl rfl rfl (freshS_eq rfl) rfl rfl rfl hx26 tS_33 tA_33 (v := fun r27 => .agg #[.int .i64 (x26.rule), .slice r27.1 x26.ids.length r27.2]) (fun _ => rfl) (fun _ => rfl) (fun r27 _ => (wl_nil (we_x [1,2] [] rfl rfl (wx_indexK hok 12 0 u1_8.toNat rfl rfl rfl (freshS_eq rfl) rfl rfl rfl rfl rfl (toNat_eq hn28) (get_lt hx28) tE_23 tS_33 (xS hok 13 rfl (wl_storeRow (u := x22) 0 u1_8.toNat rfl rfl rfl rfl rfl (get_lt hx28) rfl rfl tS_33 rfl (fun F w hφ => ⟨(r23.1, r23.2), rfl, (ask_cons (hφ _ (mem_at (k := 1) rfl)) ask_nil)⟩) (H' := [_,_]) rfl (wl_nil (we_x [0,1,2] [] rfl rfl (wx_indexK hok 14 0 u1_9.toNat rfl rfl rfl (freshS_eq rfl) rfl rfl rfl rfl rfl (toNat_eq hn29) (get_lt hx29) tE_23 tS_33 (xS hok 15 rfl ?_)))))))))))))))
    refine wl_storeRow (u := x26) 0 u1_9.toNat rfl rfl rfl rfl rfl (get_lt hx29) rfl rfl tS_33 rfl (fun F w hφ => ⟨(r27.1, r27.2), rfl, (ask_cons (hφ _ (mem_at (k := 0) rfl)) ask_nil)⟩) (H' := [_,_]) rfl (wl_nil (we_x [0,1,2] [] rfl rfl (wx_done hok rfl ?_)))
    refine we_join () trivial [9,8,0] rfl (asK [2] rfl) rfl
   ·
    refine wl_loadRow R_Api_TokenD_opens 0 u1_8.toNat 0 rfl rfl rfl (freshS_eq rfl) rfl rfl rfl hx26 tS_33 tA_33 (v := fun r27 => .agg #[.int .i64 (x26.rule), .slice r27.1 x26.ids.length r27.2]) (fun _ => rfl) (fun _ => rfl) (fun r27 _ => (wl_nil (we_x [1] [] rfl rfl (xS hok 7 rfl (wl_loadRow R_Api_TokenD_opens 0 u1_9.toNat 0 rfl rfl rfl (freshS_eq rfl) rfl rfl rfl hx22 tS_33 tA_33 (v := fun r23 => .agg #[.int .i64 (x22.rule), .slice r23.1 x22.ids.length r23.2]) (fun _ => rfl) (fun _ => rfl) (fun r23 _ => (wl_nil (we_x [1,2] [] rfl rfl (wx_indexK hok 12 0 u1_8.toNat rfl rfl rfl (freshS_eq rfl) rfl rfl rfl rfl rfl (toNat_eq hn28) (get_lt hx28) tE_23 tS_33 (xS hok 13 rfl (wl_storeRow (u := x22) 0 u1_8.toNat rfl rfl rfl rfl rfl (get_lt hx28) rfl rfl tS_33 rfl (fun F w hφ => ⟨(r23.1, r23.2), rfl, (ask_cons (hφ _ (mem_at (k := 0) rfl)) ask_nil)⟩) (H' := [_,_]) rfl (wl_nil (we_x [0,1,2] [] rfl rfl (wx_indexK hok 14 0 u1_9.toNat rfl rfl rfl (freshS_eq rfl) rfl rfl rfl rfl rfl (toNat_eq hn29) (get_lt hx29) tE_23 tS_33 (xS hok 15 rfl ?_)))))))))))))))
    refine wl_storeRow (u := x26) 0 u1_9.toNat rfl rfl rfl rfl rfl (get_lt hx29) rfl rfl tS_33 rfl (fun F w hφ => ⟨(r27.1, r27.2), rfl, (ask_cons (hφ _ (mem_at (k := 1) rfl)) ask_nil)⟩) (H' := [_,_]) rfl (wl_nil (we_x [0,1,2] [] rfl rfl (wx_done hok rfl ?_)))
    refine we_join () trivial [9,8,0] rfl (asK [2] rfl) rfl
  ·
   rintro _ _
   try dsimp only
   refine wc_seq (wc_region (wP rfl (wP rfl ?_)))
   obtain ⟨hg31, hm⟩ := gd_some hm
   refine wl_as (d := 31) (v' := .int .i64 (u1_8 + 1)) (S' := [_,_,_,_]) rfl rfl (i64_in hg31) (wl_pure (S' := [_,_,_,_]) rfl rfl rfl rfl rfl (wl_nil (we_then (wc_keep [8,9,0] (S' := [_,_,_]) rfl (wc_region (wP rfl (wP rfl ?_)))))))
   obtain ⟨hg33, hm⟩ := gd_some hm
   refine wl_as (d := 33) (v' := .int .i64 (u1_9 - 1)) (S' := [_,_,_,_]) rfl rfl (i64_in hg33) (wl_pure (S' := [_,_,_,_]) rfl rfl rfl rfl rfl (wl_nil (we_block_normal ?_)))
   have hE := (Option.some.inj hm).symm
   replace hE := link_inl hLu1 hE
   refine we_roundK (_, u1_9 - 1, u1_8 + 1, (u1_0_l.set u1_8.toNat x22).set u1_9.toNat x26) (Nat.lt_succ_self _) hE [9,8,0] rfl (asK [0] rfl) rfl
 ·
  replace hm := iteF hm hb15
  refine wc_keep [] (S' := []) rfl (wc_exit (we_then_exit (we_then_exit (we_block_hit ?_))))
  have hE := (Option.some.inj hm).symm
  replace hE := link_inr hLu1 hE
  replace hE := hE.symm
  subst hE
  refine ret_none (Hr := [_,_]) [0,1] Tryd.results44 ⟨rfl, rfl, rfl⟩ (asK [] rfl) rfl rfl (.inr rfl)
theorem w_slices_partialInsertionSortCmpFunc_Token_v2_s (N : Nat) (qp0 : Option Addr) (qn1 : Nat) (qc2 : Nat) (l0 : List Api_TokenD) (a1 : Int) (a2 : Int) (qp3 : Addr) (qn4 : Nat) (qc5 : Nat) (l3 : List Int) (o0 : Bool) (o1 : List Api_TokenD) (hm : m_slices_partialInsertionSortCmpFunc_Token_v2 N l0 a1 a2 l3 = some (o0, o1)) : Spec Tryd.prog 45 [.slice qp0 qn1 qc2, .int .i64 a1, .int .i64 a2, .func (.func 19) #[.slice (some qp3) qn4 qc5] #[]] [tabF Tryd.prog "internal/strconv.uint64pow10" .u64 Lib.pow10Tab 0 pow10_g] [.own 33 2 R_Api_TokenD (.slice qp0 qn1 qc2) l0, .own 3 1 R_i64 (.slice (some qp3) qn4 qc5) l3] (fun v Φr Hr => v = .bool o0 ∧ Φr = [] ∧ Hr = [.own 33 2 R_Api_TokenD (.slice qp0 qn1 qc2) o1, .own 3 1 R_i64 (.slice (some qp3) qn4 qc5) l3]) := by
 unfold m_slices_partialInsertionSortCmpFunc_Token_v2 at hm
 refine spec_of Tryd.func45 rfl Tryd.ntmps45 rfl (S := [_,_,_,_]) rfl (fun C => (wc_seq (wc_region (wP rfl (wl_nil (we_then (wc_keep [0,1,2,3] (S' := [_,_,_,_]) rfl (wc_seq (wc_region (wP rfl (wP rfl ?_)))))))))))
 obtain ⟨hg14, hm⟩ := gd_some hm
 refine wl_as (d := 14) (v' := .int .i64 (a1 + 1)) (S' := [_,_,_,_,_]) rfl rfl (i64_in hg14) (wP rfl (wl_nil (we_then (wc_keep [9,0,1,2,3] (S' := [_,_,_,_,_]) rfl (wc_seq ?_)))))
 obtain ⟨bj_1, hm, hLj_1⟩ := bindS_some hm
 refine wc_cut (σ := List Api_TokenD) (fun j_1_r0_l => bj_1 = .inl j_1_r0_l) (fun j_1_r0_l => []) (fun j_1_r0_l => [tabF Tryd.prog "internal/strconv.uint64pow10" .u64 Lib.pow10Tab 0 pow10_g]) (fun j_1_r0_l => [.own 33 2 R_Api_TokenD (.slice qp0 qn1 qc2) j_1_r0_l, .own 3 1 R_i64 (.slice (some qp3) qn4 qc5) l3]) ?_ ?_
 ·
  refine wc_seq (wc_region (wP rfl (wl_nil (we_then (wc_block (wc_loop (σ := Nat × Nat × Int × (List Api_TokenD)) (fun (nu1, u1_10, u1_9, u1_0_l) => iter (m_slices_partialInsertionSortCmpFunc_Token_v2_L1 N a2 l3 a1) nu1 (u1_10, u1_9, u1_0_l) = some bj_1) (fun (nu1, u1_10, u1_9, u1_0_l) => nu1) (fun (nu1, u1_10, u1_9, u1_0_l) => [(10, .int .i64 ((u1_10 : Nat) : Int)), (9, .int .i64 u1_9), (0, .slice qp0 qn1 qc2), (1, .int .i64 a1), (2, .int .i64 a2), (3, .func (.func 19) #[.slice (some qp3) qn4 qc5] #[])]) (fun (nu1, u1_10, u1_9, u1_0_l) => [tabF Tryd.prog "internal/strconv.uint64pow10" .u64 Lib.pow10Tab 0 pow10_g]) (fun (nu1, u1_10, u1_9, u1_0_l) => [.own 33 2 R_Api_TokenD (.slice qp0 qn1 qc2) u1_0_l, .own 3 1 R_i64 (.slice (some qp3) qn4 qc5) l3]) (N, 0, a1 + 1, l0) hm [10,9,0,1,2,3] rfl (asK [0] rfl) rfl (fun s_ hm => ?_)))))))
  obtain ⟨nu1, u1_10, u1_9, u1_0_l⟩ := s_
  try dsimp only at hm ⊢
  obtain ⟨mu1, bu1, hnu1, hq, hLu1⟩ := iter_some hm
  clear hm
  subst hnu1
  replace hm := hq
  clear hq
  unfold m_slices_partialInsertionSortCmpFunc_Token_v2_L1 at hm
  try dsimp only at hm
  refine wc_seq (wc_seq (wc_region (wP rfl (wP rfl (wl_as (d := 16) (v' := .bool (decide (u1_10 < 5))) (S' := [_,_,_,_,_,_,_]) rfl rfl (natlt (a := u1_10) (b := 5)) (wl_nil (we_then (wc_keep [16,10,9,0,1,2,3] (S' := [_,_,_,_,_,_,_]) rfl ?_))))))))
  refine wc_cond rfl (fun hb16 => ?_) (fun hb16 => ?_)
  ·
   replace hm := iteT hm hb16
   refine wc_keep [10,9,0,1,2,3] (S' := [_,_,_,_,_,_]) rfl (wc_skip (we_then (wc_seq ?_)))
   obtain ⟨bj_2, hm, hLj_2⟩ := bindS_some hm
   unfold m_slices_partialInsertionSortCmpFunc_Token_v2_C2 at hm
   refine wc_cut (σ := Int × (List Api_TokenD)) (fun (j_2_9, j_2_0_l) => bj_2 = .inl (j_2_9, j_2_0_l)) (fun (j_2_9, j_2_0_l) => [(10, .int .i64 ((u1_10 : Nat) : Int)), (9, .int .i64 j_2_9), (0, .slice qp0 qn1 qc2), (1, .int .i64 a1), (2, .int .i64 a2), (3, .func (.func 19) #[.slice (some qp3) qn4 qc5] #[])]) (fun (j_2_9, j_2_0_l) => [tabF Tryd.prog "internal/strconv.uint64pow10" .u64 Lib.pow10Tab 0 pow10_g]) (fun (j_2_9, j_2_0_l) => [.own 33 2 R_Api_TokenD (.slice qp0 qn1 qc2) j_2_0_l, .own 3 1 R_i64 (.slice (some qp3) qn4 qc5) l3]) ?_ ?_
   ·
    refine wc_block (wc_seq ?_)
    obtain ⟨bj_3, hm, hLj_3⟩ := bindO_some hm
    refine wc_cut (σ := Int) (fun j_3_9 => bj_3 = j_3_9) (fun j_3_9 => [(10, .int .i64 ((u1_10 : Nat) : Int)), (9, .int .i64 j_3_9), (0, .slice qp0 qn1 qc2), (1, .int .i64 a1), (2, .int .i64 a2), (3, .func (.func 19) #[.slice (some qp3) qn4 qc5] #[])]) (fun j_3_9 => [tabF Tryd.prog "internal/strconv.uint64pow10" .u64 Lib.pow10Tab 0 pow10_g]) (fun j_3_9 => [.own 33 2 R_Api_TokenD (.slice qp0 qn1 qc2) u1_0_l, .own 3 1 R_i64 (.slice (some qp3) qn4 qc5) l3]) ?_ ?_
    ·
     refine wc_block (wc_loop (σ := Nat × Int) (fun (nu2, u2_9) => iter (m_slices_partialInsertionSortCmpFunc_Token_v2_L2 N a2 u1_0_l l3) nu2 u2_9 = some bj_3) (fun (nu2, u2_9) => nu2) (fun (nu2, u2_9) => [(10, .int .i64 ((u1_10 : Nat) : Int)), (9, .int .i64 u2_9), (0, .slice qp0 qn1 qc2), (1, .int .i64 a1), (2, .int .i64 a2), (3, .func (.func 19) #[.slice (some qp3) qn4 qc5] #[])]) (fun (nu2, u2_9) => [tabF Tryd.prog "internal/strconv.uint64pow10" .u64 Lib.pow10Tab 0 pow10_g]) (fun (nu2, u2_9) => [.own 33 2 R_Api_TokenD (.slice qp0 qn1 qc2) u1_0_l, .own 3 1 R_i64 (.slice (some qp3) qn4 qc5) l3]) (N, u1_9) hm [10,9,0,1,2,3] rfl (asK [0] rfl) rfl (fun s_ hm => ?_))
     obtain ⟨nu2, u2_9⟩ := s_
     try dsimp only at hm ⊢
     obtain ⟨mu2, bu2, hnu2, hq, hLu2⟩ := iter_some hm
     clear hm
     subst hnu2
     replace hm := hq
     clear hq
     unfold m_slices_partialInsertionSortCmpFunc_Token_v2_L2 at hm
     try dsimp only at hm
     refine wc_seq (wc_seq ?_)
     obtain ⟨bj_4, hm, hLj_4⟩ := bindO_some hm
     unfold m_slices_partialInsertionSortCmpFunc_Token_v2_C4 at hm
     refine wc_cut (σ := Bool) (fun j_4_36 => bj_4 = j_4_36) (fun j_4_36 => [(10, .int .i64 ((u1_10 : Nat) : Int)), (9, .int .i64 u2_9), (0, .slice qp0 qn1 qc2), (1, .int .i64 a1), (2, .int .i64 a2), (3, .func (.func 19) #[.slice (some qp3) qn4 qc5] #[]), (36, .bool j_4_36)]) (fun j_4_36 => [tabF Tryd.prog "internal/strconv.uint64pow10" .u64 Lib.pow10Tab 0 pow10_g]) (fun j_4_36 => [.own 33 2 R_Api_TokenD (.slice qp0 qn1 qc2) u1_0_l, .own 3 1 R_i64 (.slice (some qp3) qn4 qc5) l3]) ?_ ?_
     ·
      rcases ite_some hm with ⟨hs22, hm⟩ | ⟨hs22, hm⟩
      ·
       obtain ⟨hn26, hm⟩ := gd_some hm
       obtain ⟨x26, hx26, hm⟩ := bindO_some hm
       obtain ⟨hg30, hm⟩ := gd_some hm
       obtain ⟨hn31, hm⟩ := gd_some hm
       obtain ⟨x31, hx31, hm⟩ := bindO_some hm
       obtain ⟨v33, hc33, hm⟩ := bindO_some hm
       refine wc_draw [0,1,2,3,4,5,6,7,9,10,11,12,15,16,17] rfl rfl (fun hok => (xP hok 0 rfl (xP hok 1 rfl (xP hok 2 rfl (xP hok 3 rfl (wx_as (d := 22) (v' := .bool true) (S' := [_,_,_,_,_,_,_,_,_]) rfl rfl (bool_is hs22) (xP hok 4 rfl (xP hok 5 rfl (xP hok 6 rfl (wx_indexH hok 7 0 u2_9.toNat rfl rfl rfl (freshS_eq rfl) rfl rfl rfl rfl rfl (toNat_eq hn26) (get_lt hx26) tE_23 tS_33 (fun g26 eg26 => ?_)))))))))))
       subst eg26
       refine xP hok 9 rfl (xP hok 10 rfl (xP hok 11 rfl (wx_as (d := 30) (v' := .int .i64 (u2_9 - 1)) (S' := [_,_,_,_,_,_,_,_,_,_,_,_,_,_,_,_]) rfl rfl (i64_in hg30) (wx_indexK hok 12 0 ((u2_9 - 1).toNat) rfl rfl rfl (freshS_eq rfl) rfl rfl rfl rfl rfl (toNat_eq hn31) (get_lt hx31) tE_23 tS_33 ?_))))
       refine wx_step2 hok 8 13 rfl rfl rfl rfl rfl rfl ?_ ?_
       rotate_left
       focus
        refine wl_loadRow R_Api_TokenD_opens 0 ((u2_9 - 1).toNat) 0 rfl rfl rfl (freshS_eq rfl) rfl rfl rfl hx31 tS_33 tA_33 (v := fun r32 => .agg #[.int .i64 (x31.rule), .slice r32.1 x31.ids.length r32.2]) (fun _ => rfl) (fun _ => rfl) (fun r32 _ => (wl_nil (we_x [1] [] rfl rfl (xS hok 8 rfl (wl_loadRow R_Api_TokenD_opens 0 u2_9.toNat 0 rfl rfl rfl (freshS_eq rfl) rfl rfl rfl hx26 tS_33 tA_33 (v := fun r27 => .agg #[.int .i64 (x26.rule), .slice r27.1 x26.ids.length r27.2]) (fun _ => rfl) (fun _ => rfl) (fun r27 _ => (wl_nil (we_x [1,2] [] rfl rfl (xS hok 14 rfl (wl_callDynF (args := [.slice (some qp3) qn4 qc5, .agg #[.int .i64 (x26.rule), .slice r27.1 x26.ids.length r27.2], .agg #[.int .i64 (x31.rule), .slice r32.1 x31.ids.length r32.2]]) [1] [0] rfl rfl rfl (freshS_eq rfl) rfl rfl rfl fn_19 rfl rfl (w_agenda_order_compare_v2_s N qp3 qn4 qc5 l3 x26.rule r27.1 r27.2 x26.ids x31.rule r32.1 r32.2 x31.ids _ hc33) (asK [0,1,2] rfl) rfl (H' := [_]) rfl ?_))))))))))
       rotate_right
       focus
        refine wl_loadRow R_Api_TokenD_opens 0 u2_9.toNat 0 rfl rfl rfl (freshS_eq rfl) rfl rfl rfl hx26 tS_33 tA_33 (v := fun r27 => .agg #[.int .i64 (x26.rule), .slice r27.1 x26.ids.length r27.2]) (fun _ => rfl) (fun _ => rfl) (fun r27 _ => (wl_nil (we_x [1] [] rfl rfl (xS hok 13 rfl (wl_loadRow R_Api_TokenD_opens 0 ((u2_9 - 1).toNat) 0 rfl rfl rfl (freshS_eq rfl) rfl rfl rfl hx31 tS_33 tA_33 (v := fun r32 => .agg #[.int .i64 (x31.rule), .slice r32.1 x31.ids.length r32.2]) (fun _ => rfl) (fun _ => rfl) (fun r32 _ => (wl_nil (we_x [1,2] [] rfl rfl (xS hok 14 rfl (wl_callDynF (args := [.slice (some qp3) qn4 qc5, .agg #[.int .i64 (x26.rule), .slice r27.1 x26.ids.length r27.2], .agg #[.int .i64 (x31.rule), .slice r32.1 x31.ids.length r32.2]]) [1] [0] rfl rfl rfl (freshS_eq rfl) rfl rfl rfl fn_19 rfl rfl (w_agenda_order_compare_v2_s N qp3 qn4 qc5 l3 x26.rule r27.1 r27.2 x26.ids x31.rule r32.1 r32.2 x31.ids _ hc33) (asK [1,0,2] rfl) rfl (H' := [_]) rfl ?_))))))))))
       all_goals
        rintro _ _ _ ⟨rfl, rfl, rfl⟩
        refine wl_nil (we_x [0,1,2] [] rfl rfl (xP hok 15 rfl (xP hok 16 rfl (xP hok 17 rfl (wx_done hok rfl ?_)))))
        have hE := (Option.some.inj hm).symm
        refine we_pick [1,0] rfl (H' := [_,_]) rfl ?_
        refine we_join (!(decide (v33 < 0))) hE [10,9,0,1,2,3,36] rfl (asK [2] rfl) rfl
      ·
       refine wc_draw [0,1,2,3,4,5,6,7,9,10,11,12,15,16,17] rfl rfl (fun hok => (xP hok 0 rfl (xP hok 1 rfl (xP hok 2 rfl (xP hok 3 rfl (wx_as (d := 22) (v' := .bool false) (S' := [_,_,_,_,_,_,_,_,_]) rfl rfl (bool_is hs22) (xO hok 4 rfl (xO hok 5 rfl (xO hok 6 rfl (xO hok 7 rfl (xO hok 9 rfl (xO hok 10 rfl (xO hok 11 rfl (xO hok 12 rfl ?_))))))))))))))
       refine wx_step2 hok 8 13 rfl rfl rfl rfl rfl rfl ?_ ?_
       rotate_left
       focus
        refine wO rfl (wl_nil (we_x [0] [] rfl rfl (xS hok 8 rfl ?_)))
       rotate_right
       focus
        refine wO rfl (wl_nil (we_x [0] [] rfl rfl (xS hok 13 rfl ?_)))
       all_goals
        refine wO rfl (wl_nil (we_x [0] [] rfl rfl (xS hok 14 rfl (wO rfl (wl_nil (we_x [0] [] rfl rfl (xO hok 15 rfl (xO hok 16 rfl (xP hok 17 rfl (wx_done hok rfl ?_))))))))))
        have hE := (Option.some.inj hm).symm
        refine we_join false hE [10,9,0,1,2,3,36] rfl (asK [0] rfl) rfl
     ·
      rintro j_4_36 hE
      try dsimp only
      have hm := hLj_4
      rw [hE] at hm
      refine wc_cond rfl (fun hb36 => ?_) (fun hb36 => ?_)
      ·
       replace hm := iteT hm hb36
       refine wc_keep [10,9,0,1,2,3] (S' := [_,_,_,_,_,_]) rfl (wc_skip (we_then (wc_block (wc_region (wP rfl (wP rfl ?_))))))
       obtain ⟨hg38, hm⟩ := gd_some hm
       refine wl_as (d := 38) (v' := .int .i64 (u2_9 + 1)) (S' := [_,_,_,_,_,_,_]) rfl rfl (i64_in hg38) (wl_pure (S' := [_,_,_,_,_,_,_]) rfl rfl rfl rfl rfl (wl_nil (we_block_normal ?_)))
       have hE := (Option.some.inj hm).symm
       replace hE := link_inl hLu2 hE
       refine we_roundK (_, u2_9 + 1) (Nat.lt_succ_self _) hE [10,9,0,1,2,3] rfl (asK [0] rfl) rfl
      ·
       replace hm := iteF hm hb36
       refine wc_keep [10,9,0,1,2,3] (S' := [_,_,_,_,_,_]) rfl (wc_exit (we_then_exit (we_then_exit (we_block_hit ?_))))
       have hE := (Option.some.inj hm).symm
       replace hE := link_inr hLu2 hE
       refine we_join u2_9 hE [10,9,0,1,2,3] rfl (asK [0] rfl) rfl
    ·
     rintro j_3_9 hE
     try dsimp only
     have hm := hLj_3
     rw [hE] at hm
     refine wc_seq (wc_seq (wc_region (wP rfl (wP rfl (wP rfl (wl_nil (we_then (wc_keep [41,10,9,0,1,2,3] (S' := [_,_,_,_,_,_,_]) rfl ?_))))))))
     refine wc_cond rfl (fun hb41 => ?_) (fun hb41 => ?_)
     ·
      replace hm := iteT hm hb41
      refine wc_keep [] (S' := []) rfl (wc_seq (wc_region (wP rfl (wl_nil (we_then (wc_ret (we_then_ret (we_block_ret (we_then_ret (we_then_ret (we_block_ret (we_then_ret ?_))))))))))))
      have hE := (Option.some.inj hm).symm
      replace hE := link_inr hLj_2 hE
      replace hE := link_inr hLu1 hE
      replace hE := link_inr hLj_1 hE
      obtain ⟨hE0, hE1⟩ := Prod.mk.inj hE
      clear hE
      replace hE0 := hE0.symm
      subst hE0
      replace hE1 := hE1.symm
      subst hE1
      refine ret_one (Hr := [_,_]) [0,1] Tryd.results45 (res_tmp rfl) ⟨rfl, rfl, rfl⟩ (asK [] rfl) rfl rfl (.inl rfl)
     ·
      replace hm := iteF hm hb41
      refine wc_keep [10,9,0,1,2,3] (S' := [_,_,_,_,_,_]) rfl (wc_skip (we_then (wc_seq (wc_seq (wc_region (wP rfl (wP rfl (wP rfl ?_))))))))
      obtain ⟨hg44, hm⟩ := gd_some hm
      refine wl_as (d := 44) (v' := .int .i64 (a2 - a1)) (S' := [_,_,_,_,_,_,_,_]) rfl rfl (i64_in hg44) (wP rfl (wl_nil (we_then (wc_keep [45,10,9,0,1,2,3] (S' := [_,_,_,_,_,_,_]) rfl ?_))))
      refine wc_cond rfl (fun hb45 => ?_) (fun hb45 => ?_)
      ·
       replace hm := iteT hm hb45
       refine wc_keep [] (S' := []) rfl (wc_seq (wc_region (wP rfl (wl_nil (we_then (wc_ret (we_then_ret (we_block_ret (we_then_ret (we_then_ret (we_block_ret (we_then_ret ?_))))))))))))
       have hE := (Option.some.inj hm).symm
       replace hE := link_inr hLj_2 hE
       replace hE := link_inr hLu1 hE
       replace hE := link_inr hLj_1 hE
       obtain ⟨hE0, hE1⟩ := Prod.mk.inj hE
       clear hE
       replace hE0 := hE0.symm
       subst hE0
       replace hE1 := hE1.symm
       subst hE1
       refine ret_one (Hr := [_,_]) [0,1] Tryd.results45 (res_tmp rfl) ⟨rfl, rfl, rfl⟩ (asK [] rfl) rfl rfl (.inl rfl)
      ·
       replace hm := iteF hm hb45
       refine wc_keep [10,9,0,1,2,3] (S' := [_,_,_,_,_,_]) rfl (wc_skip (we_then (wc_seq ?_)))
       obtain ⟨hg50, hm⟩ := gd_some hm
       obtain ⟨hg53, hm⟩ := gd_some hm
       obtain ⟨hn54, hm⟩ := gd_some hm
       obtain ⟨x54, hx54, hm⟩ := bindO_some hm
       obtain ⟨hn58, hm⟩ := gd_some hm
       obtain ⟨x58, hx58, hm⟩ := bindO_some hm
       obtain ⟨hn60, hm⟩ := gd_some hm
       obtain ⟨x60, hx60, hm⟩ := bindO_some hm
       obtain ⟨hn61, hm⟩ := gd_some hm
       obtain ⟨x61, hx61, hm⟩ := bindO_some hm
       refine wc_cut (σ := Unit) (fun _ => True) (fun _ => [(10, .int .i64 ((u1_10 : Nat) : Int)), (9, .int .i64 j_3_9), (0, .slice qp0 qn1 qc2), (1, .int .i64 a1), (2, .int .i64 a2), (3, .func (.func 19) #[.slice (some qp3) qn4 qc5] #[])]) (fun _ => [tabF Tryd.prog "internal/strconv.uint64pow10" .u64 Lib.pow10Tab 0 pow10_g]) (fun _ => [.own 33 2 R_Api_TokenD (.slice qp0 qn1 qc2) ((u1_0_l.set j_3_9.toNat x54).set ((j_3_9 - 1).toNat) x58), .own 3 1 R_i64 (.slice (some qp3) qn4 qc5) l3]) ?_ ?_
       ·
        refine wc_draw [0,1,2,3,4,5,6,7,8,10,11,12,14,16] rfl rfl (fun hok => (xP hok 0 rfl (xP hok 1 rfl (xP hok 2 rfl (xP hok 3 rfl (xP hok 4 rfl (wx_as (d := 50) (v' := .int .i64 (j_3_9 - 1)) (S' := [_,_,_,_,_,_,_,_,_,_]) rfl rfl (i64_in hg50) (xP hok 5 rfl (xP hok 6 rfl (xP hok 7 rfl (wx_as (d := 53) (v' := .int .i64 (j_3_9 - 1)) (S' := [_,_,_,_,_,_,_,_,_,_,_,_,_]) rfl rfl (i64_in hg53) (wx_indexH hok 8 0 ((j_3_9 - 1).toNat) rfl rfl rfl (freshS_eq rfl) rfl rfl rfl rfl rfl (toNat_eq hn54) (get_lt hx54) tE_23 tS_33 (fun g54 eg54 => ?_)))))))))))))
        subst eg54
        refine xP hok 10 rfl (xP hok 11 rfl (wx_indexK hok 12 0 j_3_9.toNat rfl rfl rfl (freshS_eq rfl) rfl rfl rfl rfl rfl (toNat_eq hn58) (get_lt hx58) tE_23 tS_33 ?_))
        refine wx_step2 hok 9 13 rfl rfl rfl rfl rfl rfl ?_ ?_
        ·
         refine wl_loadRow R_Api_TokenD_opens 0 ((j_3_9 - 1).toNat) 0 rfl rfl rfl (freshS_eq rfl) rfl rfl rfl hx54 tS_33 tA_33 (v := fun r55 => .agg #[.int .i64 (x54.rule), .slice r55.1 x54.ids.length r55.2]) (fun _ => rfl) (fun _ => rfl) (fun r55 _ => (wl_nil (we_x [1] [] rfl rfl (xS hok 13 rfl (wl_loadRow R_Api_TokenD_opens 0 j_3_9.toNat 0 rfl rfl rfl (freshS_eq rfl) rfl rfl rfl hx58 tS_33 tA_33 (v := fun r59 => .agg #[.int .i64 (x58.rule), .slice r59.1 x58.ids.length r59.2]) (fun _ => rfl) (fun _ => rfl) (fun r59 _ => (wl_nil (we_x [1,2] [] rfl rfl (wx_indexK hok 14 0 j_3_9.toNat rfl rfl rfl (freshS_eq rfl) rfl rfl rfl rfl rfl (toNat_eq hn60) (get_lt hx60) tE_23 tS_33 (xS hok 15 rfl (wl_storeRow (u := x54) 0 j_3_9.toNat rfl rfl rfl rfl rfl (get_lt hx60) rfl rfl tS_33 rfl (fun F w hφ => ⟨(r55.1, r55.2), rfl, (ask_cons (hφ _ (mem_at (k := 1) rfl)) ask_nil)⟩) (H' := [_,_]) rfl (wl_nil (we_x [0,1,2] [] rfl rfl (wx_indexK hok 16 0 ((j_3_9 - 1).toNat) rfl rfl rfl (freshS_eq rfl) rfl rfl rfl rfl rfl (toNat_eq hn61) (get_lt hx61) tE_23 tS_33 (xS hok 17 rfl ?_)))))))))))))))
         refine wl_storeRow (u := x58) 0 ((j_3_9 - 1).toNat) rfl rfl rfl rfl rfl (get_lt hx61) rfl rfl tS_33 rfl (fun F w hφ => ⟨(r59.1, r59.2), rfl, (ask_cons (hφ _ (mem_at (k := 0) rfl)) ask_nil)⟩) (H' := [_,_]) rfl (wl_nil (we_x [0,1,2] [] rfl rfl (wx_done hok rfl ?_)))
         refine we_join () trivial [10,9,0,1,2,3] rfl (asK [2] rfl) rfl
        ·
         refine wl_loadRow R_Api_TokenD_opens 0 j_3_9.toNat 0 rfl rfl rfl (freshS_eq rfl) rfl rfl rfl hx58 tS_33 tA_33 (v := fun r59 => .agg #[.int .i64 (x58.rule), .slice r59.1 x58.ids.length r59.2]) (fun _ => rfl) (fun _ => rfl) (fun r59 _ => (wl_nil (we_x [1] [] rfl rfl (xS hok 9 rfl (wl_loadRow R_Api_TokenD_opens 0 ((j_3_9 - 1).toNat) 0 rfl rfl rfl (freshS_eq rfl) rfl rfl rfl hx54 tS_33 tA_33 (v := fun r55 => .agg #[.int .i64 (x54.rule), .slice r55.1 x54.ids.length r55.2]) (fun _ => rfl) (fun _ => rfl) (fun r55 _ => (wl_nil (we_x [1,2] [] rfl rfl (wx_indexK hok 14 0 j_3_9.toNat rfl rfl rfl (freshS_eq rfl) rfl rfl rfl rfl rfl (toNat_eq hn60) (get_lt hx60) tE_23 tS_33 (xS hok 15 rfl (wl_storeRow (u := x54) 0 j_3_9.toNat rfl rfl rfl rfl rfl (get_lt hx60) rfl rfl tS_33 rfl (fun F w hφ => ⟨(r55.1, r55.2), rfl, (ask_cons (hφ _ (mem_at (k := 0) rfl)) ask_nil)⟩) (H' := [_,_]) rfl (wl_nil (we_x [0,1,2] [] rfl rfl (wx_indexK hok 16 0 ((j_3_9 - 1).toNat) rfl rfl rfl (freshS_eq rfl) rfl rfl rfl rfl rfl (toNat_eq hn61) (get_lt hx61) tE_23 tS_33 (xS hok 17 rfl ?_)))))))))))))))
         refine wl_storeRow (u := x58) 0 ((j_3_9 - 1).toNat) rfl rfl rfl rfl rfl (get_lt hx61) rfl rfl tS_33 rfl (fun F w hφ => ⟨(r59.1, r59.2), rfl, (ask_cons (hφ _ (mem_at (k := 1) rfl)) ask_nil)⟩) (H' := [_,_]) rfl (wl_nil (we_x [0,1,2] [] rfl rfl (wx_done hok rfl ?_)))
         refine we_join () trivial [10,9,0,1,2,3] rfl (asK [2] rfl) rfl
       ·
        rintro _ _
        try dsimp only
        refine wc_seq ?_
        obtain ⟨bj_6, hm, hLj_6⟩ := bindO_some hm
        refine wc_cut (σ := List Api_TokenD) (fun j_6_0_l => bj_6 = j_6_0_l) (fun j_6_0_l => [(10, .int .i64 ((u1_10 : Nat) : Int)), (9, .int .i64 j_3_9), (0, .slice qp0 qn1 qc2), (1, .int .i64 a1), (2, .int .i64 a2), (3, .func (.func 19) #[.slice (some qp3) qn4 qc5] #[])]) (fun j_6_0_l => [tabF Tryd.prog "internal/strconv.uint64pow10" .u64 Lib.pow10Tab 0 pow10_g]) (fun j_6_0_l => [.own 33 2 R_Api_TokenD (.slice qp0 qn1 qc2) j_6_0_l, .own 3 1 R_i64 (.slice (some qp3) qn4 qc5) l3]) ?_ ?_
        ·
         refine wc_seq (wc_region (wP rfl (wP rfl (wP rfl ?_))))
         obtain ⟨hg64, hm⟩ := gd_some hm
         refine wl_as (d := 64) (v' := .int .i64 (j_3_9 - a1)) (S' := [_,_,_,_,_,_,_,_]) rfl rfl (i64_in hg64) (wP rfl (wl_nil (we_then (wc_keep [65,10,9,0,1,2,3] (S' := [_,_,_,_,_,_,_]) rfl ?_))))
         refine wc_cond rfl (fun hb65 => ?_) (fun hb65 => ?_)
         ·
          replace hm := iteT hm hb65
          refine wc_keep [10,9,0,1,2,3] (S' := [_,_,_,_,_,_]) rfl (wc_seq (wc_region (wP rfl (wP rfl ?_))))
          obtain ⟨hg67, hm⟩ := gd_some hm
          refine wl_as (d := 67) (v' := .int .i64 (j_3_9 - 1)) (S' := [_,_,_,_,_,_,_]) rfl rfl (i64_in hg67) (wP rfl (wl_nil (we_then (wc_keep [11,10,9,0,1,2,3] (S' := [_,_,_,_,_,_,_]) rfl (wc_block (wc_loop (σ := Nat × Int × (List Api_TokenD)) (fun (nu3, u3_11, u3_0_l) => iter (m_slices_partialInsertionSortCmpFunc_Token_v2_L3 N l3) nu3 (u3_11, u3_0_l) = some bj_6) (fun (nu3, u3_11, u3_0_l) => nu3) (fun (nu3, u3_11, u3_0_l) => [(11, .int .i64 u3_11), (10, .int .i64 ((u1_10 : Nat) : Int)), (9, .int .i64 j_3_9), (0, .slice qp0 qn1 qc2), (1, .int .i64 a1), (2, .int .i64 a2), (3, .func (.func 19) #[.slice (some qp3) qn4 qc5] #[])]) (fun (nu3, u3_11, u3_0_l) => [tabF Tryd.prog "internal/strconv.uint64pow10" .u64 Lib.pow10Tab 0 pow10_g]) (fun (nu3, u3_11, u3_0_l) => [.own 33 2 R_Api_TokenD (.slice qp0 qn1 qc2) u3_0_l, .own 3 1 R_i64 (.slice (some qp3) qn4 qc5) l3]) (N, j_3_9 - 1, (u1_0_l.set j_3_9.toNat x54).set ((j_3_9 - 1).toNat) x58) hm [11,10,9,0,1,2,3] rfl (asK [0] rfl) rfl (fun s_ hm => ?_)))))))
          obtain ⟨nu3, u3_11, u3_0_l⟩ := s_
          try dsimp only at hm ⊢
          obtain ⟨mu3, bu3, hnu3, hq, hLu3⟩ := iter_some hm
          clear hm
          subst hnu3
          replace hm := hq
          clear hq
          unfold m_slices_partialInsertionSortCmpFunc_Token_v2_L3 at hm
          try dsimp only at hm
          refine wc_seq (wc_seq (wc_region (wP rfl (wP rfl (wl_nil (we_then (wc_keep [69,11,10,9,0,1,2,3] (S' := [_,_,_,_,_,_,_,_]) rfl ?_)))))))
          refine wc_cond rfl (fun hb69 => ?_) (fun hb69 => ?_)
          ·
           replace hm := iteT hm hb69
           refine wc_keep [11,10,9,0,1,2,3] (S' := [_,_,_,_,_,_,_]) rfl (wc_skip (we_then (wc_seq (wc_block (wc_seq (wc_seq ?_))))))
           obtain ⟨hn75, hm⟩ := gd_some hm
           obtain ⟨x75, hx75, hm⟩ := bindO_some hm
           obtain ⟨hg79, hm⟩ := gd_some hm
           obtain ⟨hn80, hm⟩ := gd_some hm
           obtain ⟨x80, hx80, hm⟩ := bindO_some hm
           obtain ⟨v82, hc82, hm⟩ := bindO_some hm
           refine wc_cut (σ := Unit) (fun _ => True) (fun _ => [(84, .bool (!(decide (v82 < 0)))), (11, .int .i64 u3_11), (10, .int .i64 ((u1_10 : Nat) : Int)), (9, .int .i64 j_3_9), (0, .slice qp0 qn1 qc2), (1, .int .i64 a1), (2, .int .i64 a2), (3, .func (.func 19) #[.slice (some qp3) qn4 qc5] #[])]) (fun _ => [tabF Tryd.prog "internal/strconv.uint64pow10" .u64 Lib.pow10Tab 0 pow10_g]) (fun _ => [.own 33 2 R_Api_TokenD (.slice qp0 qn1 qc2) u3_0_l, .own 3 1 R_i64 (.slice (some qp3) qn4 qc5) l3]) ?_ ?_
           ·
            refine wc_draw [0,1,2,3,5,6,7,8,11,12] rfl rfl (fun hok => (xP hok 0 rfl (xP hok 1 rfl (xP hok 2 rfl (wx_indexH hok 3 0 u3_11.toNat rfl rfl rfl (freshS_eq rfl) rfl rfl rfl rfl rfl (toNat_eq hn75) (get_lt hx75) tE_23 tS_33 (fun g75 eg75 => ?_))))))
            subst eg75
            refine xP hok 5 rfl (xP hok 6 rfl (xP hok 7 rfl (wx_as (d := 79) (v' := .int .i64 (u3_11 - 1)) (S' := [_,_,_,_,_,_,_,_,_,_,_,_,_]) rfl rfl (i64_in hg79) (wx_indexK hok 8 0 ((u3_11 - 1).toNat) rfl rfl rfl (freshS_eq rfl) rfl rfl rfl rfl rfl (toNat_eq hn80) (get_lt hx80) tE_23 tS_33 ?_))))
            refine wx_step2 hok 4 9 rfl rfl rfl rfl rfl rfl ?_ ?_
            rotate_left
            focus
             refine wl_loadRow R_Api_TokenD_opens 0 ((u3_11 - 1).toNat) 0 rfl rfl rfl (freshS_eq rfl) rfl rfl rfl hx80 tS_33 tA_33 (v := fun r81 => .agg #[.int .i64 (x80.rule), .slice r81.1 x80.ids.length r81.2]) (fun _ => rfl) (fun _ => rfl) (fun r81 _ => (wl_nil (we_x [1] [] rfl rfl (xS hok 4 rfl (wl_loadRow R_Api_TokenD_opens 0 u3_11.toNat 0 rfl rfl rfl (freshS_eq rfl) rfl rfl rfl hx75 tS_33 tA_33 (v := fun r76 => .agg #[.int .i64 (x75.rule), .slice r76.1 x75.ids.length r76.2]) (fun _ => rfl) (fun _ => rfl) (fun r76 _ => (wl_nil (we_x [1,2] [] rfl rfl (xS hok 10 rfl (wl_callDynF (args := [.slice (some qp3) qn4 qc5, .agg #[.int .i64 (x75.rule), .slice r76.1 x75.ids.length r76.2], .agg #[.int .i64 (x80.rule), .slice r81.1 x80.ids.length r81.2]]) [1] [0] rfl rfl rfl (freshS_eq rfl) rfl rfl rfl fn_19 rfl rfl (w_agenda_order_compare_v2_s N qp3 qn4 qc5 l3 x75.rule r76.1 r76.2 x75.ids x80.rule r81.1 r81.2 x80.ids _ hc82) (asK [0,1,2] rfl) rfl (H' := [_]) rfl ?_))))))))))
            rotate_right
            focus
             refine wl_loadRow R_Api_TokenD_opens 0 u3_11.toNat 0 rfl rfl rfl (freshS_eq rfl) rfl rfl rfl hx75 tS_33 tA_33 (v := fun r76 => .agg #[.int .i64 (x75.rule), .slice r76.1 x75.ids.length r76.2]) (fun _ => rfl) (fun _ => rfl) (fun r76 _ => (wl_nil (we_x [1] [] rfl rfl (xS hok 9 rfl (wl_loadRow R_Api_TokenD_opens 0 ((u3_11 - 1).toNat) 0 rfl rfl rfl (freshS_eq rfl) rfl rfl rfl hx80 tS_33 tA_33 (v := fun r81 => .agg #[.int .i64 (x80.rule), .slice r81.1 x80.ids.length r81.2]) (fun _ => rfl) (fun _ => rfl) (fun r81 _ => (wl_nil (we_x [1,2] [] rfl rfl (xS hok 10 rfl (wl_callDynF (args := [.slice (some qp3) qn4 qc5, .agg #[.int .i64 (x75.rule), .slice r76.1 x75.ids.length r76.2], .agg #[.int .i64 (x80.rule), .slice r81.1 x80.ids.length r81.2]]) [1] [0] rfl rfl rfl (freshS_eq rfl) rfl rfl rfl fn_19 rfl rfl (w_agenda_order_compare_v2_s N qp3 qn4 qc5 l3 x75.rule r76.1 r76.2 x75.ids x80.rule r81.1 r81.2 x80.ids _ hc82) (asK [1,0,2] rfl) rfl (H' := [_]) rfl ?_))))))))))
            all_goals
             rintro _ _ _ ⟨rfl, rfl, rfl⟩
             refine wl_nil (we_x [0,1,2] [] rfl rfl (xP hok 11 rfl (xP hok 12 rfl (wx_done hok rfl (we_pick [1,0] rfl (H' := [_,_]) rfl ?_)))))
             refine we_join () trivial [84,11,10,9,0,1,2,3] rfl (asK [2] rfl) rfl
           ·
            rintro _ _
            try dsimp only
            refine wc_cond rfl (fun hb84 => ?_) (fun hb84 => ?_)
            ·
             replace hm := iteT hm hb84
             refine wc_keep [10,9,0,1,2,3] (S' := [_,_,_,_,_,_]) rfl (wc_exit (we_then_exit (we_block_miss (by decide) (we_then_exit (we_then_exit (we_block_hit ?_))))))
             have hE := (Option.some.inj hm).symm
             replace hE := link_inr hLu3 hE
             refine we_join u3_0_l hE [10,9,0,1,2,3] rfl (asK [0] rfl) rfl
            ·
             replace hm := iteF hm hb84
             refine wc_keep [11,10,9,0,1,2,3] (S' := [_,_,_,_,_,_,_]) rfl (wc_skip (we_then ?_))
             obtain ⟨hg89, hm⟩ := gd_some hm
             obtain ⟨hg92, hm⟩ := gd_some hm
             obtain ⟨hn93, hm⟩ := gd_some hm
             obtain ⟨x93, hx93, hm⟩ := bindO_some hm
             obtain ⟨hn97, hm⟩ := gd_some hm
             obtain ⟨x97, hx97, hm⟩ := bindO_some hm
             obtain ⟨hn99, hm⟩ := gd_some hm
             obtain ⟨x99, hx99, hm⟩ := bindO_some hm
             obtain ⟨hn100, hm⟩ := gd_some hm
             obtain ⟨x100, hx100, hm⟩ := bindO_some hm
             refine wc_draw [0,1,2,3,4,5,6,7,8,10,11,12,14,16] rfl rfl (fun hok => (xP hok 0 rfl (xP hok 1 rfl (xP hok 2 rfl (xP hok 3 rfl (xP hok 4 rfl (wx_as (d := 89) (v' := .int .i64 (u3_11 - 1)) (S' := [_,_,_,_,_,_,_,_,_,_,_]) rfl rfl (i64_in hg89) (xP hok 5 rfl (xP hok 6 rfl (xP hok 7 rfl (wx_as (d := 92) (v' := .int .i64 (u3_11 - 1)) (S' := [_,_,_,_,_,_,_,_,_,_,_,_,_,_]) rfl rfl (i64_in hg92) (wx_indexH hok 8 0 ((u3_11 - 1).toNat) rfl rfl rfl (freshS_eq rfl) rfl rfl rfl rfl rfl (toNat_eq hn93) (get_lt hx93) tE_23 tS_33 (fun g93 eg93 => ?_)))))))))))))
             subst eg93
             refine xP hok 10 rfl (xP hok 11 rfl (wx_indexK hok 12 0 u3_11.toNat rfl rfl rfl (freshS_eq rfl) rfl rfl rfl rfl rfl (toNat_eq hn97) (get_lt hx97) tE_23 tS_33 ?_))
             refine wx_step2 hok 9 13 rfl rfl rfl rfl rfl rfl ?_ ?_
             rotate_left
             focus
              refine wl_loadRow R_Api_TokenD_opens 0 u3_11.toNat 0 rfl rfl rfl (freshS_eq rfl) rfl rfl rfl hx97 tS_33 tA_33 (v := fun r98 => .agg #[.int .i64 (x97.rule), .slice r98.1 x97.ids.length r98.2]) (fun _ => rfl) (fun _ => rfl) (fun r98 _ => (wl_nil (we_x [1] [] rfl rfl (xS hok 9 rfl (wl_loadRow R_Api_TokenD_opens 0 ((u3_11 - 1).toNat) 0 rfl rfl rfl (freshS_eq rfl) rfl rfl rfl hx93 tS_33 tA_33 (v := fun r94 => .agg #[.int .i64 (x93.rule), .slice r94.1 x93.ids.length r94.2]) (fun _ => rfl) (fun _ => rfl) (fun r94 _ => (wl_nil (we_x [1,2] [] rfl rfl (wx_indexK hok 14 0 u3_11.toNat rfl rfl rfl (freshS_eq rfl) rfl rfl rfl rfl rfl (toNat_eq hn99) (get_lt hx99) tE_23 tS_33 (xS hok 15 rfl (wl_storeRow (u := x93) 0 u3_11.toNat rfl rfl rfl rfl rfl (get_lt hx99) rfl rfl tS_33 rfl (fun F w hφ => ⟨(r94.1, r94.2), rfl, (ask_cons (hφ _ (mem_at (k := 0) rfl)) ask_nil)⟩) (H' := [_,_]) rfl (wl_nil (we_x [0,1,2] [] rfl rfl (wx_indexK hok 16 0 ((u3_11 - 1).toNat) rfl rfl rfl (freshS_eq rfl) rfl rfl rfl rfl rfl (toNat_eq hn100) (get_lt hx100) tE_23 tS_33 (xS hok 17 rfl ?_)))))))))))))))
              refine wl_storeRow (u := x97) 0 ((u3_11 - 1).toNat) rfl rfl rfl rfl rfl (get_lt hx100) rfl rfl tS_33 rfl (fun F w hφ => ⟨(r98.1, r98.2), rfl, (ask_cons (hφ _ (mem_at (k := 1) rfl)) ask_nil)⟩) (H' := [_,_]) rfl ?_
             rotate_right
             focus
              refine wl_loadRow R_Api_TokenD_opens 0 ((u3_11 - 1).toNat) 0 rfl rfl rfl (freshS_eq rfl) rfl rfl rfl hx93 tS_33 tA_33 (v := fun r94 => .agg #[.int .i64 (x93.rule), .slice r94.1 x93.ids.length r94.2]) (fun _ => rfl) (fun _ => rfl) (fun r94 _ => (wl_nil (we_x [1] [] rfl rfl (xS hok 13 rfl (wl_loadRow R_Api_TokenD_opens 0 u3_11.toNat 0 rfl rfl rfl (freshS_eq rfl) rfl rfl rfl hx97 tS_33 tA_33 (v := fun r98 => .agg #[.int .i64 (x97.rule), .slice r98.1 x97.ids.length r98.2]) (fun _ => rfl) (fun _ => rfl) (fun r98 _ => (wl_nil (we_x [1,2] [] rfl rfl (wx_indexK hok 14 0 u3_11.toNat rfl rfl rfl (freshS_eq rfl) rfl rfl rfl rfl rfl (toNat_eq hn99) (get_lt hx99) tE_23 tS_33 (xS hok 15 rfl (wl_storeRow (u := x93) 0 u3_11.toNat rfl rfl rfl rfl rfl (get_lt hx99) rfl rfl tS_33 rfl (fun F w hφ => ⟨(r94.1, r94.2), rfl, (ask_cons (hφ _ (mem_at (k := 1) rfl)) ask_nil)⟩) (H' := [_,_]) rfl (wl_nil (we_x [0,1,2] [] rfl rfl (wx_indexK hok 16 0 ((u3_11 - 1).toNat) rfl rfl rfl (freshS_eq rfl) rfl rfl rfl rfl rfl (toNat_eq hn100) (get_lt hx100) tE_23 tS_33 (xS hok 17 rfl ?_)))))))))))))))
              refine wl_storeRow (u := x97) 0 ((u3_11 - 1).toNat) rfl rfl rfl rfl rfl (get_lt hx100) rfl rfl tS_33 rfl (fun F w hφ => ⟨(r98.1, r98.2), rfl, (ask_cons (hφ _ (mem_at (k := 0) rfl)) ask_nil)⟩) (H' := [_,_]) rfl ?_
             all_goals
              refine wl_nil (we_x [0,1,2] [] rfl rfl (wx_done hok rfl (we_block_normal (we_then (wc_keep [11,10,9,0,1,2,3] (S' := [_,_,_,_,_,_,_]) rfl (wc_region (wP rfl (wP rfl ?_))))))))
              obtain ⟨hg71, hm⟩ := gd_some hm
              refine wl_as (d := 71) (v' := .int .i64 (u3_11 - 1)) (S' := [_,_,_,_,_,_,_,_]) rfl rfl (i64_in hg71) (wl_pure (S' := [_,_,_,_,_,_,_,_]) rfl rfl rfl rfl rfl (wl_nil ?_))
              have hE := (Option.some.inj hm).symm
              replace hE := link_inl hLu3 hE
              refine we_roundK (_, u3_11 - 1, (u3_0_l.set u3_11.toNat x93).set ((u3_11 - 1).toNat) x97) (Nat.lt_succ_self _) hE [11,10,9,0,1,2,3] rfl (asK [2] rfl) rfl
          ·
           replace hm := iteF hm hb69
           refine wc_keep [10,9,0,1,2,3] (S' := [_,_,_,_,_,_]) rfl (wc_exit (we_then_exit (we_then_exit (we_block_hit ?_))))
           have hE := (Option.some.inj hm).symm
           replace hE := link_inr hLu3 hE
           refine we_join u3_0_l hE [10,9,0,1,2,3] rfl (asK [0] rfl) rfl
         ·
          replace hm := iteF hm hb65
          refine wc_keep [10,9,0,1,2,3] (S' := [_,_,_,_,_,_]) rfl (wc_skip ?_)
          have hE := (Option.some.inj hm).symm
          refine we_join ((u1_0_l.set j_3_9.toNat x54).set ((j_3_9 - 1).toNat) x58) hE [10,9,0,1,2,3] rfl (asK [0] rfl) rfl
        ·
         rintro j_6_0_l hE
         try dsimp only
         have hm := hLj_6
         rw [hE] at hm
         refine wc_seq (wc_region (wP rfl (wP rfl (wP rfl ?_))))
         obtain ⟨hg103, hm⟩ := gd_some hm
         refine wl_as (d := 103) (v' := .int .i64 (a2 - j_3_9)) (S' := [_,_,_,_,_,_,_,_]) rfl rfl (i64_in hg103) (wP rfl (wl_nil (we_then (wc_keep [104,10,9,0,1,2,3] (S' := [_,_,_,_,_,_,_]) rfl ?_))))
         refine wc_cond rfl (fun hb104 => ?_) (fun hb104 => ?_)
         ·
          replace hm := iteT hm hb104
          refine wc_keep [10,9,0,1,2,3] (S' := [_,_,_,_,_,_]) rfl (wc_seq (wc_region (wP rfl (wP rfl ?_))))
          obtain ⟨hg106, hm⟩ := gd_some hm
          refine wl_as (d := 106) (v' := .int .i64 (j_3_9 + 1)) (S' := [_,_,_,_,_,_,_]) rfl rfl (i64_in hg106) (wP rfl (wl_nil (we_then (wc_keep [12,10,9,0,1,2,3] (S' := [_,_,_,_,_,_,_]) rfl (wc_block (wc_loop (σ := Nat × Int × (List Api_TokenD)) (fun (nu4, u4_12, u4_0_l) => iter (m_slices_partialInsertionSortCmpFunc_Token_v2_L4 N a2 l3 j_3_9) nu4 (u4_12, u4_0_l) = some bj_2) (fun (nu4, u4_12, u4_0_l) => nu4) (fun (nu4, u4_12, u4_0_l) => [(12, .int .i64 u4_12), (10, .int .i64 ((u1_10 : Nat) : Int)), (9, .int .i64 j_3_9), (0, .slice qp0 qn1 qc2), (1, .int .i64 a1), (2, .int .i64 a2), (3, .func (.func 19) #[.slice (some qp3) qn4 qc5] #[])]) (fun (nu4, u4_12, u4_0_l) => [tabF Tryd.prog "internal/strconv.uint64pow10" .u64 Lib.pow10Tab 0 pow10_g]) (fun (nu4, u4_12, u4_0_l) => [.own 33 2 R_Api_TokenD (.slice qp0 qn1 qc2) u4_0_l, .own 3 1 R_i64 (.slice (some qp3) qn4 qc5) l3]) (N, j_3_9 + 1, j_6_0_l) hm [12,10,9,0,1,2,3] rfl (asK [0] rfl) rfl (fun s_ hm => ?_)))))))
          obtain ⟨nu4, u4_12, u4_0_l⟩ := s_
          try dsimp only at hm ⊢
          obtain ⟨mu4, bu4, hnu4, hq, hLu4⟩ := iter_some hm
          clear hm
          subst hnu4
          replace hm := hq
          clear hq
          unfold m_slices_partialInsertionSortCmpFunc_Token_v2_L4 at hm
          try dsimp only at hm
          refine wc_seq (wc_seq (wc_region (wP rfl (wP rfl (wP rfl (wl_nil (we_then (wc_keep [109,12,10,9,0,1,2,3] (S' := [_,_,_,_,_,_,_,_]) rfl ?_))))))))
          refine wc_cond rfl (fun hb109 => ?_) (fun hb109 => ?_)
          ·
           replace hm := iteT hm hb109
           refine wc_keep [12,10,9,0,1,2,3] (S' := [_,_,_,_,_,_,_]) rfl (wc_skip (we_then (wc_seq (wc_block (wc_seq (wc_seq ?_))))))
           obtain ⟨hn115, hm⟩ := gd_some hm
           obtain ⟨x115, hx115, hm⟩ := bindO_some hm
           obtain ⟨hg119, hm⟩ := gd_some hm
           obtain ⟨hn120, hm⟩ := gd_some hm
           obtain ⟨x120, hx120, hm⟩ := bindO_some hm
           obtain ⟨v122, hc122, hm⟩ := bindO_some hm
           refine wc_cut (σ := Unit) (fun _ => True) (fun _ => [(124, .bool (!(decide (v122 < 0)))), (12, .int .i64 u4_12), (10, .int .i64 ((u1_10 : Nat) : Int)), (9, .int .i64 j_3_9), (0, .slice qp0 qn1 qc2), (1, .int .i64 a1), (2, .int .i64 a2), (3, .func (.func 19) #[.slice (some qp3) qn4 qc5] #[])]) (fun _ => [tabF Tryd.prog "internal/strconv.uint64pow10" .u64 Lib.pow10Tab 0 pow10_g]) (fun _ => [.own 33 2 R_Api_TokenD (.slice qp0 qn1 qc2) u4_0_l, .own 3 1 R_i64 (.slice (some qp3) qn4 qc5) l3]) ?_ ?_
           ·
            refine wc_draw [0,1,2,3,5,6,7,8,11,12] rfl rfl (fun hok => (xP hok 0 rfl (xP hok 1 rfl (xP hok 2 rfl (wx_indexH hok 3 0 u4_12.toNat rfl rfl rfl (freshS_eq rfl) rfl rfl rfl rfl rfl (toNat_eq hn115) (get_lt hx115) tE_23 tS_33 (fun g115 eg115 => ?_))))))
            subst eg115
            refine xP hok 5 rfl (xP hok 6 rfl (xP hok 7 rfl (wx_as (d := 119) (v' := .int .i64 (u4_12 - 1)) (S' := [_,_,_,_,_,_,_,_,_,_,_,_,_]) rfl rfl (i64_in hg119) (wx_indexK hok 8 0 ((u4_12 - 1).toNat) rfl rfl rfl (freshS_eq rfl) rfl rfl rfl rfl rfl (toNat_eq hn120) (get_lt hx120) tE_23 tS_33 ?_))))
            refine wx_step2 hok 4 9 rfl rfl rfl rfl rfl rfl ?_ ?_
            rotate_left
            focus
             refine wl_loadRow R_Api_TokenD_opens 0 ((u4_12 - 1).toNat) 0 rfl rfl rfl (freshS_eq rfl) rfl rfl rfl hx120 tS_33 tA_33 (v := fun r121 => .agg #[.int .i64 (x120.rule), .slice r121.1 x120.ids.length r121.2]) (fun _ => rfl) (fun _ => rfl) (fun r121 _ => (wl_nil (we_x [1] [] rfl rfl (xS hok 4 rfl (wl_loadRow R_Api_TokenD_opens 0 u4_12.toNat 0 rfl rfl rfl (freshS_eq rfl) rfl rfl rfl hx115 tS_33 tA_33 (v := fun r116 => .agg #[.int .i64 (x115.rule), .slice r116.1 x115.ids.length r116.2]) (fun _ => rfl) (fun _ => rfl) (fun r116 _ => (wl_nil (we_x [1,2] [] rfl rfl (xS hok 10 rfl (wl_callDynF (args := [.slice (some qp3) qn4 qc5, .agg #[.int .i64 (x115.rule), .slice r116.1 x115.ids.length r116.2], .agg #[.int .i64 (x120.rule), .slice r121.1 x120.ids.length r121.2]]) [1] [0] rfl rfl rfl (freshS_eq rfl) rfl rfl rfl fn_19 rfl rfl (w_agenda_order_compare_v2_s N qp3 qn4 qc5 l3 x115.rule r116.1 r116.2 x115.ids x120.rule r121.1 r121.2 x120.ids _ hc122) (asK [0,1,2] rfl) rfl (H' := [_]) rfl ?_))))))))))
            rotate_right
            focus
             refine wl_loadRow R_Api_TokenD_opens 0 u4_12.toNat 0 rfl rfl rfl (freshS_eq rfl) rfl rfl rfl hx115 tS_33 tA_33 (v := fun r116 => .agg #[.int .i64 (x115.rule), .slice r116.1 x115.ids.length r116.2]) (fun _ => rfl) (fun _ => rfl) (fun r116 _ => (wl_nil (we_x [1] [] rfl rfl (xS hok 9 rfl (wl_loadRow R_Api_TokenD_opens 0 ((u4_12 - 1).toNat) 0 rfl rfl rfl (freshS_eq rfl) rfl rfl rfl hx120 tS_33 tA_33 (v := fun r121 => .agg #[.int .i64 (x120.rule), .slice r121.1 x120.ids.length r121.2]) (fun _ => rfl) (fun _ => rfl) (fun r121 _ => (wl_nil (we_x [1,2] [] rfl rfl (xS hok 10 rfl (wl_callDynF (args := [.slice (some qp3) qn4 qc5, .agg #[.int .i64 (x115.rule), .slice r116.1 x115.ids.length r116.2], .agg #[.int .i64 (x120.rule), .slice r121.1 x120.ids.length r121.2]]) [1] [0] rfl rfl rfl (freshS_eq rfl) rfl rfl rfl fn_19 rfl rfl (w_agenda_order_compare_v2_s N qp3 qn4 qc5 l3 x115.rule r116.1 r116.2 x115.ids x120.rule r121.1 r121.2 x120.ids _ hc122) (asK [1,0,2] rfl) rfl (H' := [_]) rfl ?_))))))))))
            all_goals
             rintro _ _ _ ⟨rfl, rfl, rfl⟩
             refine wl_nil (we_x [0,1,2] [] rfl rfl (xP hok 11 rfl (xP hok 12 rfl (wx_done hok rfl (we_pick [1,0] rfl (H' := [_,_]) rfl ?_)))))
             refine we_join () trivial [124,12,10,9,0,1,2,3] rfl (asK [2] rfl) rfl
           ·
            rintro _ _
            try dsimp only
            refine wc_cond rfl (fun hb124 => ?_) (fun hb124 => ?_)
            ·
             replace hm := iteT hm hb124
             refine wc_keep [10,9,0,1,2,3] (S' := [_,_,_,_,_,_]) rfl (wc_exit (we_then_exit (we_block_miss (by decide) (we_then_exit (we_then_exit (we_block_hit (we_block_normal ?_)))))))
             have hE := (Option.some.inj hm).symm
             replace hE := link_inr hLu4 hE
             refine we_join (j_3_9, u4_0_l) hE [10,9,0,1,2,3] rfl (asK [0] rfl) rfl
            ·
             replace hm := iteF hm hb124
             refine wc_keep [12,10,9,0,1,2,3] (S' := [_,_,_,_,_,_,_]) rfl (wc_skip (we_then ?_))
             obtain ⟨hg129, hm⟩ := gd_some hm
             obtain ⟨hg132, hm⟩ := gd_some hm
             obtain ⟨hn133, hm⟩ := gd_some hm
             obtain ⟨x133, hx133, hm⟩ := bindO_some hm
             obtain ⟨hn137, hm⟩ := gd_some hm
             obtain ⟨x137, hx137, hm⟩ := bindO_some hm
             obtain ⟨hn139, hm⟩ := gd_some hm
             obtain ⟨x139, hx139, hm⟩ := bindO_some hm
             obtain ⟨hn140, hm⟩ := gd_some hm
             obtain ⟨x140, hx140, hm⟩ := bindO_some hm
             refine wc_draw [0,1,2,3,4,5,6,7,8,10,11,12,14,16] rfl rfl (fun hok => (xP hok 0 rfl (xP hok 1 rfl (xP hok 2 rfl (xP hok 3 rfl (xP hok 4 rfl (wx_as (d := 129) (v' := .int .i64 (u4_12 - 1)) (S' := [_,_,_,_,_,_,_,_,_,_,_]) rfl rfl (i64_in hg129) (xP hok 5 rfl (xP hok 6 rfl (xP hok 7 rfl (wx_as (d := 132) (v' := .int .i64 (u4_12 - 1)) (S' := [_,_,_,_,_,_,_,_,_,_,_,_,_,_]) rfl rfl (i64_in hg132) (wx_indexH hok 8 0 ((u4_12 - 1).toNat) rfl rfl rfl (freshS_eq rfl) rfl rfl rfl rfl rfl (toNat_eq hn133) (get_lt hx133) tE_23 tS_33 (fun g133 eg133 => ?_)))))))))))))
             subst eg133
             refine xP hok 10 rfl (xP hok 11 rfl (wx_indexK hok 12 0 u4_12.toNat rfl rfl rfl (freshS_eq rfl) rfl rfl rfl rfl rfl (toNat_eq hn137) (get_lt hx137) tE_23 tS_33 ?_))
             refine wx_step2 hok 9 13 rfl rfl rfl rfl rfl rfl ?_ ?_
             rotate_left
             focus
              refine wl_loadRow R_Api_TokenD_opens 0 u4_12.toNat 0 rfl rfl rfl (freshS_eq rfl) rfl rfl rfl hx137 tS_33 tA_33 (v := fun r138 => .agg #[.int .i64 (x137.rule), .slice r138.1 x137.ids.length r138.2]) (fun _ => rfl) (fun _ => rfl) (fun r138 _ => (wl_nil (we_x [1] [] rfl rfl (xS hok 9 rfl (wl_loadRow R_Api_TokenD_opens 0 ((u4_12 - 1).toNat) 0 rfl rfl rfl (freshS_eq rfl) rfl rfl rfl hx133 tS_33 tA_33 (v := fun r134 => .agg #[.int .i64 (x133.rule), .slice r134.1 x133.ids.length r134.2]) (fun _ => rfl) (fun _ => rfl) (fun r134 _ => (wl_nil (we_x [1,2] [] rfl rfl (wx_indexK hok 14 0 u4_12.toNat rfl rfl rfl (freshS_eq rfl) rfl rfl rfl rfl rfl (toNat_eq hn139) (get_lt hx139) tE_23 tS_33 (xS hok 15 rfl (wl_storeRow (u := x133) 0 u4_12.toNat rfl rfl rfl rfl rfl (get_lt hx139) rfl rfl tS_33 rfl (fun F w hφ => ⟨(r134.1, r134.2), rfl, (ask_cons (hφ _ (mem_at (k := 0) rfl)) ask_nil)⟩) (H' := [_,_]) rfl (wl_nil (we_x [0,1,2] [] rfl rfl (wx_indexK hok 16 0 ((u4_12 - 1).toNat) rfl rfl rfl (freshS_eq rfl) rfl rfl rfl rfl rfl (toNat_eq hn140) (get_lt hx140) tE_23 tS_33 (xS hok 17 rfl ?_)))))))))))))))
              refine wl_storeRow (u := x137) 0 ((u4_12 - 1).toNat) rfl rfl rfl rfl rfl (get_lt hx140) rfl rfl tS_33 rfl (fun F w hφ => ⟨(r138.1, r138.2), rfl, (ask_cons (hφ _ (mem_at (k := 1) rfl)) ask_nil)⟩) (H' := [_,_]) rfl ?_
             rotate_right
             focus
              refine wl_loadRow R_Api_TokenD_opens 0 ((u4_12 - 1).toNat) 0 rfl rfl rfl (freshS_eq rfl) rfl rfl rfl hx133 tS_33 tA_33 (v := fun r134 => .agg #[.int .i64 (x133.rule), .slice r134.1 x133.ids.length r134.2]) (fun _ => rfl) (fun _ => rfl) (fun r134 _ => (wl_nil (we_x [1] [] rfl rfl (xS hok 13 rfl (wl_loadRow R_Api_TokenD_opens 0 u4_12.toNat 0 rfl rfl rfl (freshS_eq rfl) rfl rfl rfl hx137 tS_33 tA_33 (v := fun r138 => .agg #[.int .i64 (x137.rule), .slice r138.1 x137.ids.length r138.2]) (fun _ => rfl) (fun _ => rfl) (fun r138 _ => (wl_nil (we_x [1,2] [] rfl rfl (wx_indexK hok 14 0 u4_12.toNat rfl rfl rfl (freshS_eq rfl) rfl rfl rfl rfl rfl (toNat_eq hn139) (get_lt hx139) tE_23 tS_33 (xS hok 15 rfl (wl_storeRow (u := x133) 0 u4_12.toNat rfl rfl rfl rfl rfl (get_lt hx139) rfl rfl tS_33 rfl (fun F w hφ => ⟨(r134.1, r134.2), rfl, (ask_cons (hφ _ (mem_at (k := 1) rfl)) ask_nil)⟩) (H' := [_,_]) rfl (wl_nil (we_x [0,1,2] [] rfl rfl (wx_indexK hok 16 0 ((u4_12 - 1).toNat) rfl rfl rfl (freshS_eq rfl) rfl rfl rfl rfl rfl (toNat_eq hn140) (get_lt hx140) tE_23 tS_33 (xS hok 17 rfl ?_)))))))))))))))
              refine wl_storeRow (u := x137) 0 ((u4_12 - 1).toNat) rfl rfl rfl rfl rfl (get_lt hx140) rfl rfl tS_33 rfl (fun F w hφ => ⟨(r138.1, r138.2), rfl, (ask_cons (hφ _ (mem_at (k := 0) rfl)) ask_nil)⟩) (H' := [_,_]) rfl ?_
             all_goals
              refine wl_nil (we_x [0,1,2] [] rfl rfl (wx_done hok rfl (we_block_normal (we_then (wc_keep [12,10,9,0,1,2,3] (S' := [_,_,_,_,_,_,_]) rfl (wc_region (wP rfl (wP rfl ?_))))))))
              obtain ⟨hg111, hm⟩ := gd_some hm
              refine wl_as (d := 111) (v' := .int .i64 (u4_12 + 1)) (S' := [_,_,_,_,_,_,_,_]) rfl rfl (i64_in hg111) (wl_pure (S' := [_,_,_,_,_,_,_,_]) rfl rfl rfl rfl rfl (wl_nil ?_))
              have hE := (Option.some.inj hm).symm
              replace hE := link_inl hLu4 hE
              refine we_roundK (_, u4_12 + 1, (u4_0_l.set u4_12.toNat x133).set ((u4_12 - 1).toNat) x137) (Nat.lt_succ_self _) hE [12,10,9,0,1,2,3] rfl (asK [2] rfl) rfl
          ·
           replace hm := iteF hm hb109
           refine wc_keep [10,9,0,1,2,3] (S' := [_,_,_,_,_,_]) rfl (wc_exit (we_then_exit (we_then_exit (we_block_hit (we_block_normal ?_)))))
           have hE := (Option.some.inj hm).symm
           replace hE := link_inr hLu4 hE
           refine we_join (j_3_9, u4_0_l) hE [10,9,0,1,2,3] rfl (asK [0] rfl) rfl
         ·
          replace hm := iteF hm hb104
          refine wc_keep [10,9,0,1,2,3] (S' := [_,_,_,_,_,_]) rfl (wc_skip (we_block_normal ?_))
          have hE := (Option.some.inj hm).symm
          refine we_join (j_3_9, j_6_0_l) hE [10,9,0,1,2,3] rfl (asK [0] rfl) rfl
   ·
    rintro ⟨j_2_9, j_2_0_l⟩ hE
    try dsimp only
    have hm := link_inl hLj_2 hE
    try dsimp only at hm
    refine wc_region (wP rfl (wP rfl ?_))
    obtain ⟨hg18, hm⟩ := gd_some hm
    refine wl_as (d := 18) (v' := .int .i64 ((u1_10 + 1 : Nat) : Int)) (S' := [_,_,_,_,_,_,_]) rfl rfl (nat_add (a := u1_10) (b := 1) hg18) (wl_pure (S' := [_,_,_,_,_,_,_]) rfl rfl rfl rfl rfl (wl_nil ?_))
    have hE := (Option.some.inj hm).symm
    replace hE := link_inl hLu1 hE
    refine we_roundK (_, u1_10 + 1, j_2_9, j_2_0_l) (Nat.lt_succ_self _) hE [10,9,0,1,2,3] rfl (asK [0] rfl) rfl
  ·
   replace hm := iteF hm hb16
   refine wc_keep [] (S' := []) rfl (wc_exit (we_then_exit (we_then_exit (we_block_hit ?_))))
   have hE := (Option.some.inj hm).symm
   replace hE := link_inr hLu1 hE
   refine we_join u1_0_l hE [] rfl (asK [0] rfl) rfl
 ·
  rintro j_1_r0_l hE
  try dsimp only
  have hm := link_inl hLj_1 hE
  refine wc_seq (wc_region (wP rfl (wl_nil (we_then (wc_ret ?_)))))
  have hE := (Option.some.inj hm).symm
  obtain ⟨hE0, hE1⟩ := Prod.mk.inj hE
  clear hE
  replace hE0 := hE0.symm
  subst hE0
  replace hE1 := hE1.symm
  subst hE1
  refine ret_one (Hr := [_,_]) [0,1] Tryd.results45 (res_tmp rfl) ⟨rfl, rfl, rfl⟩ (asK [] rfl) rfl rfl (.inl rfl)
theorem w_slices_partitionEqualCmpFunc_Token_v2_s (N : Nat) (qp0 : Option Addr) (qn1 : Nat) (qc2 : Nat) (l0 : List Api_TokenD) (a1 : Int) (a2 : Int) (a3 : Int) (qp3 : Addr) (qn4 : Nat) (qc5 : Nat) (l4 : List Int) (o0 : Int) (o1 : List Api_TokenD) (hm : m_slices_partitionEqualCmpFunc_Token_v2 N l0 a1 a2 a3 l4 = some (o0, o1)) : Spec Tryd.prog 46 [.slice qp0 qn1 qc2, .int .i64 a1, .int .i64 a2, .int .i64 a3, .func (.func 19) #[.slice (some qp3) qn4 qc5] #[]] [tabF Tryd.prog "internal/strconv.uint64pow10" .u64 Lib.pow10Tab 0 pow10_g] [.own 33 2 R_Api_TokenD (.slice qp0 qn1 qc2) l0, .own 3 1 R_i64 (.slice (some qp3) qn4 qc5) l4] (fun v Φr Hr => v = .int .i64 o0 ∧ Φr = [] ∧ Hr = [.own 33 2 R_Api_TokenD (.slice qp0 qn1 qc2) o1, .own 3 1 R_i64 (.slice (some qp3) qn4 qc5) l4]) := by
 unfold m_slices_partitionEqualCmpFunc_Token_v2 at hm
 refine spec_of Tryd.func46 rfl Tryd.ntmps46 rfl (S := [_,_,_,_,_]) rfl (fun C => (wc_seq (wc_region (wP rfl (wl_nil (we_then (wc_keep [0,1,2,3,4] (S' := [_,_,_,_,_]) rfl (wc_seq ?_))))))))
 obtain ⟨hn19, hm⟩ := gd_some hm
 obtain ⟨x19, hx19, hm⟩ := bindO_some hm
 obtain ⟨hn23, hm⟩ := gd_some hm
 obtain ⟨x23, hx23, hm⟩ := bindO_some hm
 obtain ⟨hn25, hm⟩ := gd_some hm
 obtain ⟨x25, hx25, hm⟩ := bindO_some hm
 obtain ⟨hn26, hm⟩ := gd_some hm
 obtain ⟨x26, hx26, hm⟩ := bindO_some hm
 refine wc_cut (σ := Unit) (fun _ => True) (fun _ => [(0, .slice qp0 qn1 qc2), (1, .int .i64 a1), (2, .int .i64 a2), (4, .func (.func 19) #[.slice (some qp3) qn4 qc5] #[])]) (fun _ => [tabF Tryd.prog "internal/strconv.uint64pow10" .u64 Lib.pow10Tab 0 pow10_g]) (fun _ => [.own 33 2 R_Api_TokenD (.slice qp0 qn1 qc2) ((l0.set a1.toNat x19).set a3.toNat x23), .own 3 1 R_i64 (.slice (some qp3) qn4 qc5) l4]) ?_ ?_
 ·
  refine wc_draw [0,1,2,3,4,5,6,8,9,10,12,14] rfl rfl (fun hok => (xP hok 0 rfl (xP hok 1 rfl (xP hok 2 rfl (xP hok 3 rfl (xP hok 4 rfl (xP hok 5 rfl (wx_indexH hok 6 0 a3.toNat rfl rfl rfl (freshS_eq rfl) rfl rfl rfl rfl rfl (toNat_eq hn19) (get_lt hx19) tE_23 tS_33 (fun g19 eg19 => ?_)))))))))
  subst eg19
  refine xP hok 8 rfl (xP hok 9 rfl (wx_indexK hok 10 0 a1.toNat rfl rfl rfl (freshS_eq rfl) rfl rfl rfl rfl rfl (toNat_eq hn23) (get_lt hx23) tE_23 tS_33 ?_))
  refine wx_step2 hok 7 11 rfl rfl rfl rfl rfl rfl ?_ ?_
  ·
   refine wl_loadRow R_Api_TokenD_opens 0 a3.toNat 0 rfl rfl rfl (freshS_eq rfl) rfl rfl rfl hx19 tS_33 tA_33 (v := fun r20 => .agg #[.int .i64 (x19.rule), .slice r20.1 x19.ids.length r20.2]) (fun _ => rfl) (fun _ => rfl) (fun r20 _ => (wl_nil (we_x [1] [] rfl rfl (xS hok 11 rfl (wl_loadRow R_Api_TokenD_opens 0 a1.toNat 0 rfl rfl rfl (freshS_eq rfl) rfl rfl rfl hx23 tS_33 tA_33 (v := fun r24 => .agg #[.int .i64 (x23.rule), .slice r24.1 x23.ids.length r24.2]) (fun _ => rfl) (fun _ => rfl) (fun r24 _ => (wl_nil (we_x [1,2] [] rfl rfl (wx_indexK hok 12 0 a1.toNat rfl rfl rfl (freshS_eq rfl) rfl rfl rfl rfl rfl (toNat_eq hn25) (get_lt hx25) tE_23 tS_33 (xS hok 13 rfl (wl_storeRow (u := x19) 0 a1.toNat rfl rfl rfl rfl rfl (get_lt hx25) rfl rfl tS_33 rfl (fun F w hφ => ⟨(r20.1, r20.2), rfl, (ask_cons (hφ _ (mem_at (k := 1) rfl)) ask_nil)⟩) (H' := [_,_]) rfl (wl_nil (we_x [0,1,2] [] rfl rfl (wx_indexK hok 14 0 a3.toNat rfl rfl rfl (freshS_eq rfl) rfl rfl rfl rfl rfl (toNat_eq hn26) (get_lt hx26) tE_23 tS_33 (xS hok 15 rfl ?_)))))))))))))))
   refine wl_storeRow (u := x23) 0 a3.toNat rfl rfl rfl rfl rfl (get_lt hx26) rfl rfl tS_33 rfl (fun F w hφ => ⟨(r24.1, r24.2), rfl, (ask_cons (hφ _ (mem_at (k := 0) rfl)) ask_nil)⟩) (H' := [_,_]) rfl (wl_nil (we_x [0,1,2] [] rfl rfl (wx_done hok rfl ?_)))
   refine we_join () trivial [0,1,2,4] rfl (asK [2] rfl) rfl
  ·
   refine wl_loadRow R_Api_TokenD_opens 0 a1.toNat 0 rfl rfl rfl (freshS_eq rfl) rfl rfl rfl hx23 tS_33 tA_33 (v := fun r24 => .agg #[.int .i64 (x23.rule), .slice r24.1 x23.ids.length r24.2]) (fun _ => rfl) (fun _ => rfl) (fun r24 _ => (wl_nil (we_x [1] [] rfl rfl (xS hok 7 rfl (wl_loadRow R_Api_TokenD_opens 0 a3.toNat 0 rfl rfl rfl (freshS_eq rfl) rfl rfl rfl hx19 tS_33 tA_33 (v := fun r20 => .agg #[.int .i64 (x19.rule), .slice r20.1 x19.ids.length r20.2]) (fun _ => rfl) (fun _ => rfl) (fun r20 _ => (wl_nil (we_x [1,2] [] rfl rfl (wx_indexK hok 12 0 a1.toNat rfl rfl rfl (freshS_eq rfl) rfl rfl rfl rfl rfl (toNat_eq hn25) (get_lt hx25) tE_23 tS_33 (xS hok 13 rfl (wl_storeRow (u := x19) 0 a1.toNat rfl rfl rfl rfl rfl (get_lt hx25) rfl rfl tS_33 rfl (fun F w hφ => ⟨(r20.1, r20.2), rfl, (ask_cons (hφ _ (mem_at (k := 0) rfl)) ask_nil)⟩) (H' := [_,_]) rfl (wl_nil (we_x [0,1,2] [] rfl rfl (wx_indexK hok 14 0 a3.toNat rfl rfl rfl (freshS_eq rfl) rfl rfl rfl rfl rfl (toNat_eq hn26) (get_lt hx26) tE_23 tS_33 (xS hok 15 rfl ?_)))))))))))))))
   refine wl_storeRow (u := x23) 0 a3.toNat rfl rfl rfl rfl rfl (get_lt hx26) rfl rfl tS_33 rfl (fun F w hφ => ⟨(r24.1, r24.2), rfl, (ask_cons (hφ _ (mem_at (k := 1) rfl)) ask_nil)⟩) (H' := [_,_]) rfl (wl_nil (we_x [0,1,2] [] rfl rfl (wx_done hok rfl ?_)))
   refine we_join () trivial [0,1,2,4] rfl (asK [2] rfl) rfl
 ·
  rintro _ _
  try dsimp only
  refine wc_seq (wc_region (wP rfl (wP rfl ?_)))
  obtain ⟨hg28, hm⟩ := gd_some hm
  refine wl_as (d := 28) (v' := .int .i64 (a1 + 1)) (S' := [_,_,_,_,_]) rfl rfl (i64_in hg28) (wP rfl (wP rfl ?_))
  obtain ⟨hg30, hm⟩ := gd_some hm
  refine wl_as (d := 30) (v' := .int .i64 (a2 - 1)) (S' := [_,_,_,_,_,_,_]) rfl rfl (i64_in hg30) (wP rfl (wP rfl (wl_nil (we_then (wc_keep [12,11,0,1,4] (S' := [_,_,_,_,_]) rfl (wc_seq ?_))))))
  obtain ⟨bj_2, hm, hLj_2⟩ := bindO_some hm
  refine wc_cut (σ := Int × (List Api_TokenD)) (fun (j_2_11, j_2_r0_l) => bj_2 = (j_2_11, j_2_r0_l)) (fun (j_2_11, j_2_r0_l) => [(11, .int .i64 j_2_11)]) (fun (j_2_11, j_2_r0_l) => [tabF Tryd.prog "internal/strconv.uint64pow10" .u64 Lib.pow10Tab 0 pow10_g]) (fun (j_2_11, j_2_r0_l) => [.own 33 2 R_Api_TokenD (.slice qp0 qn1 qc2) j_2_r0_l, .own 3 1 R_i64 (.slice (some qp3) qn4 qc5) l4]) ?_ ?_
  ·
   refine wc_block (wc_loop (σ := Nat × Int × Int × (List Api_TokenD)) (fun (nu1, u1_12, u1_11, u1_0_l) => iter (m_slices_partitionEqualCmpFunc_Token_v2_L1 N a1 l4) nu1 (u1_12, u1_11, u1_0_l) = some bj_2) (fun (nu1, u1_12, u1_11, u1_0_l) => nu1) (fun (nu1, u1_12, u1_11, u1_0_l) => [(12, .int .i64 u1_12), (11, .int .i64 u1_11), (0, .slice qp0 qn1 qc2), (1, .int .i64 a1), (4, .func (.func 19) #[.slice (some qp3) qn4 qc5] #[])]) (fun (nu1, u1_12, u1_11, u1_0_l) => [tabF Tryd.prog "internal/strconv.uint64pow10" .u64 Lib.pow10Tab 0 pow10_g]) (fun (nu1, u1_12, u1_11, u1_0_l) => [.own 33 2 R_Api_TokenD (.slice qp0 qn1 qc2) u1_0_l, .own 3 1 R_i64 (.slice (some qp3) qn4 qc5) l4]) (N, a2 - 1, a1 + 1, (l0.set a1.toNat x19).set a3.toNat x23) hm [12,11,0,1,4] rfl (asK [0] rfl) rfl (fun s_ hm => ?_))
   obtain ⟨nu1, u1_12, u1_11, u1_0_l⟩ := s_
   try dsimp only at hm ⊢
   obtain ⟨mu1, bu1, hnu1, hq, hLu1⟩ := iter_some hm
   clear hm
   subst hnu1
   replace hm := hq
   clear hq
   unfold m_slices_partitionEqualCmpFunc_Token_v2_L1 at hm
   try dsimp only at hm
   refine wc_block (wc_seq ?_)
   obtain ⟨bj_3, hm, hLj_3⟩ := bindO_some hm
   refine wc_cut (σ := Int) (fun j_3_11 => bj_3 = j_3_11) (fun j_3_11 => [(12, .int .i64 u1_12), (11, .int .i64 j_3_11), (0, .slice qp0 qn1 qc2), (1, .int .i64 a1), (4, .func (.func 19) #[.slice (some qp3) qn4 qc5] #[])]) (fun j_3_11 => [tabF Tryd.prog "internal/strconv.uint64pow10" .u64 Lib.pow10Tab 0 pow10_g]) (fun j_3_11 => [.own 33 2 R_Api_TokenD (.slice qp0 qn1 qc2) u1_0_l, .own 3 1 R_i64 (.slice (some qp3) qn4 qc5) l4]) ?_ ?_
   ·
    refine wc_block (wc_loop (σ := Nat × Int) (fun (nu2, u2_11) => iter (m_slices_partitionEqualCmpFunc_Token_v2_L2 N u1_12 a1 u1_0_l l4) nu2 u2_11 = some bj_3) (fun (nu2, u2_11) => nu2) (fun (nu2, u2_11) => [(12, .int .i64 u1_12), (11, .int .i64 u2_11), (0, .slice qp0 qn1 qc2), (1, .int .i64 a1), (4, .func (.func 19) #[.slice (some qp3) qn4 qc5] #[])]) (fun (nu2, u2_11) => [tabF Tryd.prog "internal/strconv.uint64pow10" .u64 Lib.pow10Tab 0 pow10_g]) (fun (nu2, u2_11) => [.own 33 2 R_Api_TokenD (.slice qp0 qn1 qc2) u1_0_l, .own 3 1 R_i64 (.slice (some qp3) qn4 qc5) l4]) (N, u1_11) hm [12,11,0,1,4] rfl (asK [0] rfl) rfl (fun s_ hm => ?_))
    obtain ⟨nu2, u2_11⟩ := s_
    try dsimp only at hm ⊢
    obtain ⟨mu2, bu2, hnu2, hq, hLu2⟩ := iter_some hm
    clear hm
    subst hnu2
    replace hm := hq
    clear hq
    unfold m_slices_partitionEqualCmpFunc_Token_v2_L2 at hm
    try dsimp only at hm
    refine wc_seq (wc_seq ?_)
    obtain ⟨bj_4, hm, hLj_4⟩ := bindO_some hm
    unfold m_slices_partitionEqualCmpFunc_Token_v2_C4 at hm
    refine wc_cut (σ := Bool) (fun j_4_47 => bj_4 = j_4_47) (fun j_4_47 => [(12, .int .i64 u1_12), (11, .int .i64 u2_11), (0, .slice qp0 qn1 qc2), (1, .int .i64 a1), (4, .func (.func 19) #[.slice (some qp3) qn4 qc5] #[]), (47, .bool j_4_47)]) (fun j_4_47 => [tabF Tryd.prog "internal/strconv.uint64pow10" .u64 Lib.pow10Tab 0 pow10_g]) (fun j_4_47 => [.own 33 2 R_Api_TokenD (.slice qp0 qn1 qc2) u1_0_l, .own 3 1 R_i64 (.slice (some qp3) qn4 qc5) l4]) ?_ ?_
    ·
     rcases ite_some hm with ⟨hs34, hm⟩ | ⟨hs34, hm⟩
     ·
      obtain ⟨hn38, hm⟩ := gd_some hm
      obtain ⟨x38, hx38, hm⟩ := bindO_some hm
      obtain ⟨hn42, hm⟩ := gd_some hm
      obtain ⟨x42, hx42, hm⟩ := bindO_some hm
      obtain ⟨v44, hc44, hm⟩ := bindO_some hm
      refine wc_draw [0,1,2,3,4,5,6,7,9,10,11,14,15,16] rfl rfl (fun hok => (xP hok 0 rfl (xP hok 1 rfl (xP hok 2 rfl (xP hok 3 rfl (wx_as (d := 34) (v' := .bool true) (S' := [_,_,_,_,_,_,_,_]) rfl rfl (bool_is hs34) (xP hok 4 rfl (xP hok 5 rfl (xP hok 6 rfl (wx_indexH hok 7 0 a1.toNat rfl rfl rfl (freshS_eq rfl) rfl rfl rfl rfl rfl (toNat_eq hn38) (get_lt hx38) tE_23 tS_33 (fun g38 eg38 => ?_)))))))))))
      subst eg38
      refine xP hok 9 rfl (xP hok 10 rfl (wx_indexK hok 11 0 u2_11.toNat rfl rfl rfl (freshS_eq rfl) rfl rfl rfl rfl rfl (toNat_eq hn42) (get_lt hx42) tE_23 tS_33 ?_))
      refine wx_step2 hok 8 12 rfl rfl rfl rfl rfl rfl ?_ ?_
      rotate_left
      focus
       refine wl_loadRow R_Api_TokenD_opens 0 u2_11.toNat 0 rfl rfl rfl (freshS_eq rfl) rfl rfl rfl hx42 tS_33 tA_33 (v := fun r43 => .agg #[.int .i64 (x42.rule), .slice r43.1 x42.ids.length r43.2]) (fun _ => rfl) (fun _ => rfl) (fun r43 _ => (wl_nil (we_x [1] [] rfl rfl (xS hok 8 rfl (wl_loadRow R_Api_TokenD_opens 0 a1.toNat 0 rfl rfl rfl (freshS_eq rfl) rfl rfl rfl hx38 tS_33 tA_33 (v := fun r39 => .agg #[.int .i64 (x38.rule), .slice r39.1 x38.ids.length r39.2]) (fun _ => rfl) (fun _ => rfl) (fun r39 _ => (wl_nil (we_x [1,2] [] rfl rfl (xS hok 13 rfl (wl_callDynF (args := [.slice (some qp3) qn4 qc5, .agg #[.int .i64 (x38.rule), .slice r39.1 x38.ids.length r39.2], .agg #[.int .i64 (x42.rule), .slice r43.1 x42.ids.length r43.2]]) [1] [0] rfl rfl rfl (freshS_eq rfl) rfl rfl rfl fn_19 rfl rfl (w_agenda_order_compare_v2_s N qp3 qn4 qc5 l4 x38.rule r39.1 r39.2 x38.ids x42.rule r43.1 r43.2 x42.ids _ hc44) (asK [0,1,2] rfl) rfl (H' := [_]) rfl ?_))))))))))
      rotate_right
      focus
       refine wl_loadRow R_Api_TokenD_opens 0 a1.toNat 0 rfl rfl rfl (freshS_eq rfl) rfl rfl rfl hx38 tS_33 tA_33 (v := fun r39 => .agg #[.int .i64 (x38.rule), .slice r39.1 x38.ids.length r39.2]) (fun _ => rfl) (fun _ => rfl) (fun r39 _ => (wl_nil (we_x [1] [] rfl rfl (xS hok 12 rfl (wl_loadRow R_Api_TokenD_opens 0 u2_11.toNat 0 rfl rfl rfl (freshS_eq rfl) rfl rfl rfl hx42 tS_33 tA_33 (v := fun r43 => .agg #[.int .i64 (x42.rule), .slice r43.1 x42.ids.length r43.2]) (fun _ => rfl) (fun _ => rfl) (fun r43 _ => (wl_nil (we_x [1,2] [] rfl rfl (xS hok 13 rfl (wl_callDynF (args := [.slice (some qp3) qn4 qc5, .agg #[.int .i64 (x38.rule), .slice r39.1 x38.ids.length r39.2], .agg #[.int .i64 (x42.rule), .slice r43.1 x42.ids.length r43.2]]) [1] [0] rfl rfl rfl (freshS_eq rfl) rfl rfl rfl fn_19 rfl rfl (w_agenda_order_compare_v2_s N qp3 qn4 qc5 l4 x38.rule r39.1 r39.2 x38.ids x42.rule r43.1 r43.2 x42.ids _ hc44) (asK [1,0,2] rfl) rfl (H' := [_]) rfl ?_))))))))))
      all_goals
       rintro _ _ _ ⟨rfl, rfl, rfl⟩
       refine wl_nil (we_x [0,1,2] [] rfl rfl (xP hok 14 rfl (xP hok 15 rfl (xP hok 16 rfl (wx_done hok rfl ?_)))))
       have hE := (Option.some.inj hm).symm
       refine we_pick [1,0] rfl (H' := [_,_]) rfl ?_
       refine we_join (!(decide (v44 < 0))) hE [12,11,0,1,4,47] rfl (asK [2] rfl) rfl
     ·
      refine wc_draw [0,1,2,3,4,5,6,7,9,10,11,14,15,16] rfl rfl (fun hok => (xP hok 0 rfl (xP hok 1 rfl (xP hok 2 rfl (xP hok 3 rfl (wx_as (d := 34) (v' := .bool false) (S' := [_,_,_,_,_,_,_,_]) rfl rfl (bool_is hs34) (xO hok 4 rfl (xO hok 5 rfl (xO hok 6 rfl (xO hok 7 rfl (xO hok 9 rfl (xO hok 10 rfl (xO hok 11 rfl ?_)))))))))))))
      refine wx_step2 hok 8 12 rfl rfl rfl rfl rfl rfl ?_ ?_
      rotate_left
      focus
       refine wO rfl (wl_nil (we_x [0] [] rfl rfl (xS hok 8 rfl ?_)))
      rotate_right
      focus
       refine wO rfl (wl_nil (we_x [0] [] rfl rfl (xS hok 12 rfl ?_)))
      all_goals
       refine wO rfl (wl_nil (we_x [0] [] rfl rfl (xS hok 13 rfl (wO rfl (wl_nil (we_x [0] [] rfl rfl (xO hok 14 rfl (xO hok 15 rfl (xP hok 16 rfl (wx_done hok rfl ?_))))))))))
       have hE := (Option.some.inj hm).symm
       refine we_join false hE [12,11,0,1,4,47] rfl (asK [0] rfl) rfl
    ·
     rintro j_4_47 hE
     try dsimp only
     have hm := hLj_4
     rw [hE] at hm
     refine wc_cond rfl (fun hb47 => ?_) (fun hb47 => ?_)
     ·
      replace hm := iteT hm hb47
      refine wc_keep [12,11,0,1,4] (S' := [_,_,_,_,_]) rfl (wc_skip (we_then (wc_block (wc_region (wP rfl (wP rfl ?_))))))
      obtain ⟨hg49, hm⟩ := gd_some hm
      refine wl_as (d := 49) (v' := .int .i64 (u2_11 + 1)) (S' := [_,_,_,_,_,_]) rfl rfl (i64_in hg49) (wl_pure (S' := [_,_,_,_,_,_]) rfl rfl rfl rfl rfl (wl_nil (we_block_normal ?_)))
      have hE := (Option.some.inj hm).symm
      replace hE := link_inl hLu2 hE
      refine we_roundK (_, u2_11 + 1) (Nat.lt_succ_self _) hE [12,11,0,1,4] rfl (asK [0] rfl) rfl
     ·
      replace hm := iteF hm hb47
      refine wc_keep [12,11,0,1,4] (S' := [_,_,_,_,_]) rfl (wc_exit (we_then_exit (we_then_exit (we_block_hit ?_))))
      have hE := (Option.some.inj hm).symm
      replace hE := link_inr hLu2 hE
      refine we_join u2_11 hE [12,11,0,1,4] rfl (asK [0] rfl) rfl
   ·
    rintro j_3_11 hE
    try dsimp only
    have hm := hLj_3
    rw [hE] at hm
    refine wc_seq ?_
    obtain ⟨bj_5, hm, hLj_5⟩ := bindO_some hm
    refine wc_cut (σ := Int) (fun j_5_12 => bj_5 = j_5_12) (fun j_5_12 => [(12, .int .i64 j_5_12), (11, .int .i64 j_3_11), (0, .slice qp0 qn1 qc2), (1, .int .i64 a1), (4, .func (.func 19) #[.slice (some qp3) qn4 qc5] #[])]) (fun j_5_12 => [tabF Tryd.prog "internal/strconv.uint64pow10" .u64 Lib.pow10Tab 0 pow10_g]) (fun j_5_12 => [.own 33 2 R_Api_TokenD (.slice qp0 qn1 qc2) u1_0_l, .own 3 1 R_i64 (.slice (some qp3) qn4 qc5) l4]) ?_ ?_
    ·
     refine wc_block (wc_loop (σ := Nat × Int) (fun (nu3, u3_12) => iter (m_slices_partitionEqualCmpFunc_Token_v2_L3 N j_3_11 a1 u1_0_l l4) nu3 u3_12 = some bj_5) (fun (nu3, u3_12) => nu3) (fun (nu3, u3_12) => [(12, .int .i64 u3_12), (11, .int .i64 j_3_11), (0, .slice qp0 qn1 qc2), (1, .int .i64 a1), (4, .func (.func 19) #[.slice (some qp3) qn4 qc5] #[])]) (fun (nu3, u3_12) => [tabF Tryd.prog "internal/strconv.uint64pow10" .u64 Lib.pow10Tab 0 pow10_g]) (fun (nu3, u3_12) => [.own 33 2 R_Api_TokenD (.slice qp0 qn1 qc2) u1_0_l, .own 3 1 R_i64 (.slice (some qp3) qn4 qc5) l4]) (N, u1_12) hm [12,11,0,1,4] rfl (asK [0] rfl) rfl (fun s_ hm => ?_))
     obtain ⟨nu3, u3_12⟩ := s_
     try dsimp only at hm ⊢
     obtain ⟨mu3, bu3, hnu3, hq, hLu3⟩ := iter_some hm
     clear hm
     subst hnu3
     replace hm := hq
     clear hq
     unfold m_slices_partitionEqualCmpFunc_Token_v2_L3 at hm
     try dsimp only at hm
     refine wc_seq (wc_seq ?_)
     obtain ⟨bj_6, hm, hLj_6⟩ := bindO_some hm
     unfold m_slices_partitionEqualCmpFunc_Token_v2_C6 at hm
     refine wc_cut (σ := Bool) (fun j_6_65 => bj_6 = j_6_65) (fun j_6_65 => [(12, .int .i64 u3_12), (11, .int .i64 j_3_11), (0, .slice qp0 qn1 qc2), (1, .int .i64 a1), (4, .func (.func 19) #[.slice (some qp3) qn4 qc5] #[]), (65, .bool j_6_65)]) (fun j_6_65 => [tabF Tryd.prog "internal/strconv.uint64pow10" .u64 Lib.pow10Tab 0 pow10_g]) (fun j_6_65 => [.own 33 2 R_Api_TokenD (.slice qp0 qn1 qc2) u1_0_l, .own 3 1 R_i64 (.slice (some qp3) qn4 qc5) l4]) ?_ ?_
     ·
      rcases ite_some hm with ⟨hs53, hm⟩ | ⟨hs53, hm⟩
      ·
       obtain ⟨hn57, hm⟩ := gd_some hm
       obtain ⟨x57, hx57, hm⟩ := bindO_some hm
       obtain ⟨hn61, hm⟩ := gd_some hm
       obtain ⟨x61, hx61, hm⟩ := bindO_some hm
       obtain ⟨v63, hc63, hm⟩ := bindO_some hm
       refine wc_draw [0,1,2,3,4,5,6,7,9,10,11,14,15] rfl rfl (fun hok => (xP hok 0 rfl (xP hok 1 rfl (xP hok 2 rfl (xP hok 3 rfl (wx_as (d := 53) (v' := .bool true) (S' := [_,_,_,_,_,_,_,_]) rfl rfl (bool_is hs53) (xP hok 4 rfl (xP hok 5 rfl (xP hok 6 rfl (wx_indexH hok 7 0 a1.toNat rfl rfl rfl (freshS_eq rfl) rfl rfl rfl rfl rfl (toNat_eq hn57) (get_lt hx57) tE_23 tS_33 (fun g57 eg57 => ?_)))))))))))
       subst eg57
       refine xP hok 9 rfl (xP hok 10 rfl (wx_indexK hok 11 0 u3_12.toNat rfl rfl rfl (freshS_eq rfl) rfl rfl rfl rfl rfl (toNat_eq hn61) (get_lt hx61) tE_23 tS_33 ?_))
       refine wx_step2 hok 8 12 rfl rfl rfl rfl rfl rfl ?_ ?_
       rotate_left
       focus
        refine wl_loadRow R_Api_TokenD_opens 0 u3_12.toNat 0 rfl rfl rfl (freshS_eq rfl) rfl rfl rfl hx61 tS_33 tA_33 (v := fun r62 => .agg #[.int .i64 (x61.rule), .slice r62.1 x61.ids.length r62.2]) (fun _ => rfl) (fun _ => rfl) (fun r62 _ => (wl_nil (we_x [1] [] rfl rfl (xS hok 8 rfl (wl_loadRow R_Api_TokenD_opens 0 a1.toNat 0 rfl rfl rfl (freshS_eq rfl) rfl rfl rfl hx57 tS_33 tA_33 (v := fun r58 => .agg #[.int .i64 (x57.rule), .slice r58.1 x57.ids.length r58.2]) (fun _ => rfl) (fun _ => rfl) (fun r58 _ => (wl_nil (we_x [1,2] [] rfl rfl (xS hok 13 rfl (wl_callDynF (args := [.slice (some qp3) qn4 qc5, .agg #[.int .i64 (x57.rule), .slice r58.1 x57.ids.length r58.2], .agg #[.int .i64 (x61.rule), .slice r62.1 x61.ids.length r62.2]]) [1] [0] rfl rfl rfl (freshS_eq rfl) rfl rfl rfl fn_19 rfl rfl (w_agenda_order_compare_v2_s N qp3 qn4 qc5 l4 x57.rule r58.1 r58.2 x57.ids x61.rule r62.1 r62.2 x61.ids _ hc63) (asK [0,1,2] rfl) rfl (H' := [_]) rfl ?_))))))))))
       rotate_right
       focus
        refine wl_loadRow R_Api_TokenD_opens 0 a1.toNat 0 rfl rfl rfl (freshS_eq rfl) rfl rfl rfl hx57 tS_33 tA_33 (v := fun r58 => .agg #[.int .i64 (x57.rule), .slice r58.1 x57.ids.length r58.2]) (fun _ => rfl) (fun _ => rfl) (fun r58 _ => (wl_nil (we_x [1] [] rfl rfl (xS hok 12 rfl (wl_loadRow R_Api_TokenD_opens 0 u3_12.toNat 0 rfl rfl rfl (freshS_eq rfl) rfl rfl rfl hx61 tS_33 tA_33 (v := fun r62 => .agg #[.int .i64 (x61.rule), .slice r62.1 x61.ids.length r62.2]) (fun _ => rfl) (fun _ => rfl) (fun r62 _ => (wl_nil (we_x [1,2] [] rfl rfl (xS hok 13 rfl (wl_callDynF (args := [.slice (some qp3) qn4 qc5, .agg #[.int .i64 (x57.rule), .slice r58.1 x57.ids.length r58.2], .agg #[.int .i64 (x61.rule), .slice r62.1 x61.ids.length r62.2]]) [1] [0] rfl rfl rfl (freshS_eq rfl) rfl rfl rfl fn_19 rfl rfl (w_agenda_order_compare_v2_s N qp3 qn4 qc5 l4 x57.rule r58.1 r58.2 x57.ids x61.rule r62.1 r62.2 x61.ids _ hc63) (asK [1,0,2] rfl) rfl (H' := [_]) rfl ?_))))))))))
       all_goals
        rintro _ _ _ ⟨rfl, rfl, rfl⟩
        refine wl_nil (we_x [0,1,2] [] rfl rfl (xP hok 14 rfl (xP hok 15 rfl (wx_done hok rfl ?_))))
        have hE := (Option.some.inj hm).symm
        refine we_pick [1,0] rfl (H' := [_,_]) rfl ?_
        refine we_join (decide (v63 < 0)) hE [12,11,0,1,4,65] rfl (asK [2] rfl) rfl
      ·
       refine wc_draw [0,1,2,3,4,5,6,7,9,10,11,14,15] rfl rfl (fun hok => (xP hok 0 rfl (xP hok 1 rfl (xP hok 2 rfl (xP hok 3 rfl (wx_as (d := 53) (v' := .bool false) (S' := [_,_,_,_,_,_,_,_]) rfl rfl (bool_is hs53) (xO hok 4 rfl (xO hok 5 rfl (xO hok 6 rfl (xO hok 7 rfl (xO hok 9 rfl (xO hok 10 rfl (xO hok 11 rfl ?_)))))))))))))
       refine wx_step2 hok 8 12 rfl rfl rfl rfl rfl rfl ?_ ?_
       rotate_left
       focus
        refine wO rfl (wl_nil (we_x [0] [] rfl rfl (xS hok 8 rfl ?_)))
       rotate_right
       focus
        refine wO rfl (wl_nil (we_x [0] [] rfl rfl (xS hok 12 rfl ?_)))
       all_goals
        refine wO rfl (wl_nil (we_x [0] [] rfl rfl (xS hok 13 rfl (wO rfl (wl_nil (we_x [0] [] rfl rfl (xO hok 14 rfl (xP hok 15 rfl (wx_done hok rfl ?_)))))))))
        have hE := (Option.some.inj hm).symm
        refine we_join false hE [12,11,0,1,4,65] rfl (asK [0] rfl) rfl
     ·
      rintro j_6_65 hE
      try dsimp only
      have hm := hLj_6
      rw [hE] at hm
      refine wc_cond rfl (fun hb65 => ?_) (fun hb65 => ?_)
      ·
       replace hm := iteT hm hb65
       refine wc_keep [12,11,0,1,4] (S' := [_,_,_,_,_]) rfl (wc_skip (we_then (wc_block (wc_region (wP rfl (wP rfl ?_))))))
       obtain ⟨hg67, hm⟩ := gd_some hm
       refine wl_as (d := 67) (v' := .int .i64 (u3_12 - 1)) (S' := [_,_,_,_,_,_]) rfl rfl (i64_in hg67) (wl_pure (S' := [_,_,_,_,_,_]) rfl rfl rfl rfl rfl (wl_nil (we_block_normal ?_)))
       have hE := (Option.some.inj hm).symm
       replace hE := link_inl hLu3 hE
       refine we_roundK (_, u3_12 - 1) (Nat.lt_succ_self _) hE [12,11,0,1,4] rfl (asK [0] rfl) rfl
      ·
       replace hm := iteF hm hb65
       refine wc_keep [12,11,0,1,4] (S' := [_,_,_,_,_]) rfl (wc_exit (we_then_exit (we_then_exit (we_block_hit ?_))))
       have hE := (Option.some.inj hm).symm
       replace hE := link_inr hLu3 hE
       refine we_join u3_12 hE [12,11,0,1,4] rfl (asK [0] rfl) rfl
    ·
     rintro j_5_12 hE
     try dsimp only
     have hm := hLj_5
     rw [hE] at hm
     refine wc_seq (wc_seq (wc_region (wP rfl (wP rfl (wP rfl (wl_nil (we_then (wc_keep [70,12,11,0,1,4] (S' := [_,_,_,_,_,_]) rfl ?_))))))))
     refine wc_cond rfl (fun hb70 => ?_) (fun hb70 => ?_)
     ·
      replace hm := iteT hm hb70
      refine wc_keep [11] (S' := [_]) rfl (wc_exit (we_then_exit (we_block_miss (by decide) (we_then_exit (we_block_hit ?_)))))
      have hE := (Option.some.inj hm).symm
      replace hE := link_inr hLu1 hE
      refine we_join (j_3_11, u1_0_l) hE [11] rfl (asK [0] rfl) rfl
     ·
      replace hm := iteF hm hb70
      refine wc_keep [12,11,0,1,4] (S' := [_,_,_,_,_]) rfl (wc_skip (we_then (wc_seq ?_)))
      obtain ⟨hn77, hm⟩ := gd_some hm
      obtain ⟨x77, hx77, hm⟩ := bindO_some hm
      obtain ⟨hn81, hm⟩ := gd_some hm
      obtain ⟨x81, hx81, hm⟩ := bindO_some hm
      obtain ⟨hn83, hm⟩ := gd_some hm
      obtain ⟨x83, hx83, hm⟩ := bindO_some hm
      obtain ⟨hn84, hm⟩ := gd_some hm
      obtain ⟨x84, hx84, hm⟩ := bindO_some hm
      refine wc_cut (σ := Unit) (fun _ => True) (fun _ => [(12, .int .i64 j_5_12), (11, .int .i64 j_3_11), (0, .slice qp0 qn1 qc2), (1, .int .i64 a1), (4, .func (.func 19) #[.slice (some qp3) qn4 qc5] #[])]) (fun _ => [tabF Tryd.prog "internal/strconv.uint64pow10" .u64 Lib.pow10Tab 0 pow10_g]) (fun _ => [.own 33 2 R_Api_TokenD (.slice qp0 qn1 qc2) ((u1_0_l.set j_3_11.toNat x77).set j_5_12.toNat x81), .own 3 1 R_i64 (.slice (some qp3) qn4 qc5) l4]) ?_ ?_
      ·
       refine wc_draw [0,1,2,3,4,5,6,8,9,10,12,14] rfl rfl (fun hok => (xP hok 0 rfl (xP hok 1 rfl (xP hok 2 rfl (xP hok 3 rfl (xP hok 4 rfl (xP hok 5 rfl (wx_indexH hok 6 0 j_5_12.toNat rfl rfl rfl (freshS_eq rfl) rfl rfl rfl rfl rfl (toNat_eq hn77) (get_lt hx77) tE_23 tS_33 (fun g77 eg77 => ?_)))))))))
       subst eg77
       refine xP hok 8 rfl (xP hok 9 rfl (wx_indexK hok 10 0 j_3_11.toNat rfl rfl rfl (freshS_eq rfl) rfl rfl rfl rfl rfl (toNat_eq hn81) (get_lt hx81) tE_23 tS_33 ?_))
       refine wx_step2 hok 7 11 rfl rfl rfl rfl rfl rfl ?_ ?_
       ·
        refine wl_loadRow R_Api_TokenD_opens 0 j_5_12.toNat 0 rfl rfl rfl (freshS_eq rfl) rfl rfl rfl hx77 tS_33 tA_33 (v := fun r78 => .agg #[.int .i64 (x77.rule), .slice r78.1 x77.ids.length r78.2]) (fun _ => rfl) (fun _ => rfl) (fun r78 _ => (wl_nil (we_x [1] [] rfl rfl (xS hok 11 rfl (wl_loadRow R_Api_TokenD_opens 0 j_3_11.toNat 0 rfl rfl rfl (freshS_eq rfl) rfl rfl rfl hx81 tS_33 tA_33 (v := fun r82 => .agg #[.int .i64 (x81.rule), .slice r82.1 x81.ids.length r82.2]) (fun _ => rfl) (fun _ => rfl) (fun r82 _ => (wl_nil (we_x [1,2] [] rfl rfl (wx_indexK hok 12 0 j_3_11.toNat rfl rfl rfl (freshS_eq rfl) rfl rfl rfl rfl rfl (toNat_eq hn83) (get_lt hx83) tE_23 tS_33 (xS hok 13 rfl (wl_storeRow (u := x77) 0 j_3_11.toNat rfl rfl rfl rfl rfl (get_lt hx83) rfl rfl tS_33 rfl (fun F w hφ => ⟨(r78.1, r78.2), rfl, (ask_cons (hφ _ (mem_at (k := 1) rfl)) ask_nil)⟩) (H' := [_,_]) rfl (wl_nil (we_x [0,1,2] [] rfl rfl (wx_indexK hok 14 0 j_5_12.toNat rfl rfl rfl (freshS_eq rfl) rfl rfl rfl rfl rfl (toNat_eq hn84) (get_lt hx84) tE_23 tS_33 (xS hok 15 rfl ?_)))))))))))))))
        refine wl_storeRow (u := x81) 0 j_5_12.toNat rfl rfl rfl rfl rfl (get_lt hx84) rfl rfl tS_33 rfl (fun F w hφ => ⟨(r82.1, r82.2), rfl, (ask_cons (hφ _ (mem_at (k := 0) rfl)) ask_nil)⟩) (H' := [_,_]) rfl (wl_nil (we_x [0,1,2] [] rfl rfl (wx_done hok rfl ?_)))
        refine we_join () trivial [12,11,0,1,4] rfl (asK [2] rfl) rfl
       ·
        refine wl_loadRow R_Api_TokenD_opens 0 j_3_11.toNat 0 rfl rfl rfl (freshS_eq rfl) rfl rfl rfl hx81 tS_33 tA_33 (v := fun r82 => .agg #[.int .i64 (x81.rule), .slice r82.1 x81.ids.length r82.2]) (fun _ => rfl) (fun _ => rfl) (fun r82 _ => (wl_nil (we_x [1] [] rfl rfl (xS hok 7 rfl (wl_loadRow R_Api_TokenD_opens 0 j_5_12.toNat 0 rfl rfl rfl (freshS_eq rfl) rfl rfl rfl hx77 tS_33 tA_33 (v := fun r78 => .agg #[.int .i64 (x77.rule), .slice r78.1 x77.ids.length r78.2]) (fun _ => rfl) (fun _ => rfl) (fun r78 _ => (wl_nil (we_x [1,2] [] rfl rfl (wx_indexK hok 12 0 j_3_11.toNat rfl rfl rfl (freshS_eq rfl) rfl rfl rfl rfl rfl (toNat_eq hn83) (get_lt hx83) tE_23 tS_33 (xS hok 13 rfl (wl_storeRow (u := x77) 0 j_3_11.toNat rfl rfl rfl rfl rfl (get_lt hx83) rfl rfl tS_33 rfl (fun F w hφ => ⟨(r78.1, r78.2), rfl, (ask_cons (hφ _ (mem_at (k := 0) rfl)) ask_nil)⟩) (H' := [_,_]) rfl (wl_nil (we_x [0,1,2] [] rfl rfl (wx_indexK hok 14 0 j_5_12.toNat rfl rfl rfl (freshS_eq rfl) rfl rfl rfl rfl rfl (toNat_eq hn84) (get_lt hx84) tE_23 tS_33 (xS hok 15 rfl ?_)))))))))))))))
        refine wl_storeRow (u := x81) 0 j_5_12.toNat rfl rfl rfl rfl rfl (get_lt hx84) rfl rfl tS_33 rfl (fun F w hφ => ⟨(r82.1, r82.2), rfl, (ask_cons (hφ _ (mem_at (k := 1) rfl)) ask_nil)⟩) (H' := [_,_]) rfl (wl_nil (we_x [0,1,2] [] rfl rfl (wx_done hok rfl ?_)))
        refine we_join () trivial [12,11,0,1,4] rfl (asK [2] rfl) rfl
      ·
       rintro _ _
       try dsimp only
       refine wc_seq (wc_region (wP rfl (wP rfl ?_)))
       obtain ⟨hg86, hm⟩ := gd_some hm
       refine wl_as (d := 86) (v' := .int .i64 (j_3_11 + 1)) (S' := [_,_,_,_,_,_]) rfl rfl (i64_in hg86) (wl_pure (S' := [_,_,_,_,_,_]) rfl rfl rfl rfl rfl (wl_nil (we_then (wc_keep [11,12,0,1,4] (S' := [_,_,_,_,_]) rfl (wc_region (wP rfl (wP rfl ?_)))))))
       obtain ⟨hg88, hm⟩ := gd_some hm
       refine wl_as (d := 88) (v' := .int .i64 (j_5_12 - 1)) (S' := [_,_,_,_,_,_]) rfl rfl (i64_in hg88) (wl_pure (S' := [_,_,_,_,_,_]) rfl rfl rfl rfl rfl (wl_nil (we_block_normal ?_)))
       have hE := (Option.some.inj hm).symm
       replace hE := link_inl hLu1 hE
       refine we_roundK (_, j_5_12 - 1, j_3_11 + 1, (u1_0_l.set j_3_11.toNat x77).set j_5_12.toNat x81) (Nat.lt_succ_self _) hE [12,11,0,1,4] rfl (asK [0] rfl) rfl
  ·
   rintro ⟨j_2_11, j_2_r0_l⟩ hE
   try dsimp only
   have hm := hLj_2
   rw [hE] at hm
   try dsimp only at hm
   refine wc_seq (wc_region (wP rfl (wP rfl (wl_nil (we_then (wc_keep [10] (S' := [_]) rfl (wc_ret ?_)))))))
   have hE := (Option.some.inj hm).symm
   obtain ⟨hE0, hE1⟩ := Prod.mk.inj hE
   clear hE
   replace hE0 := hE0.symm
   subst hE0
   replace hE1 := hE1.symm
   subst hE1
   refine ret_one (Hr := [_,_]) [0,1] Tryd.results46 (res_tmp rfl) ⟨rfl, rfl, rfl⟩ (asK [] rfl) rfl rfl (.inl rfl)
end Go.Proofs.YtgangmegcejllaaDoor
