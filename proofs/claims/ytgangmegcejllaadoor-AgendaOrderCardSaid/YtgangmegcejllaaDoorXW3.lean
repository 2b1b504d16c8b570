import Derived.Test.YtgangmegcejllaaDoorXW2
namespace Go.Proofs.YtgangmegcejllaaDoor
open Go.RowKit
set_option maxRecDepth 100000
set_option maxHeartbeats 4000000
theorem w_slices_partitionCmpFunc_Token_v2_s (N : Nat) (qp0 : Option Addr) (qn1 : Nat) (qc2 : Nat) (l0 : List Api_TokenD) (a1 : Int) (a2 : Int) (a3 : Int) (qp3 : Addr) (qn4 : Nat) (qc5 : Nat) (l4 : List Int) (o0 : Int) (o1 : Bool) (o2 : List Api_TokenD) (hm : m_slices_partitionCmpFunc_Token_v2 N l0 a1 a2 a3 l4 = some (o0, o1, o2)) : Spec Tryd.prog 47 [.slice qp0 qn1 qc2, .int .i64 a1, .int .i64 a2, .int .i64 a3, .func (.func 19) #[.slice (some qp3) qn4 qc5] #[]] [tabF Tryd.prog "internal/strconv.uint64pow10" .u64 Lib.pow10Tab 0 pow10_g] [.own 33 2 R_Api_TokenD (.slice qp0 qn1 qc2) l0, .own 3 1 R_i64 (.slice (some qp3) qn4 qc5) l4] (fun v Φr Hr => v = .tuple #[.int .i64 o0, .bool o1] ∧ Φr = [] ∧ Hr = [.own 33 2 R_Api_TokenD (.slice qp0 qn1 qc2) o2, .own 3 1 R_i64 (.slice (some qp3) qn4 qc5) l4]) := by
 unfold m_slices_partitionCmpFunc_Token_v2 at hm
 refine spec_of Tryd.func47 rfl Tryd.ntmps47 rfl (S := [_,_,_,_,_]) rfl (fun C => (wc_seq (wc_region (wP rfl (wP rfl (wl_nil (we_then (wc_keep [0,1,2,3,4] (S' := [_,_,_,_,_]) rfl (wc_seq ?_)))))))))
 obtain ⟨hn20, hm⟩ := gd_some hm
 obtain ⟨x20, hx20, hm⟩ := bindO_some hm
 obtain ⟨hn24, hm⟩ := gd_some hm
 obtain ⟨x24, hx24, hm⟩ := bindO_some hm
 obtain ⟨hn26, hm⟩ := gd_some hm
 obtain ⟨x26, hx26, hm⟩ := bindO_some hm
 obtain ⟨hn27, hm⟩ := gd_some hm
 obtain ⟨x27, hx27, hm⟩ := bindO_some hm
 refine wc_cut (σ := Unit) (fun _ => True) (fun _ => [(0, .slice qp0 qn1 qc2), (1, .int .i64 a1), (2, .int .i64 a2), (4, .func (.func 19) #[.slice (some qp3) qn4 qc5] #[])]) (fun _ => [tabF Tryd.prog "internal/strconv.uint64pow10" .u64 Lib.pow10Tab 0 pow10_g]) (fun _ => [.own 33 2 R_Api_TokenD (.slice qp0 qn1 qc2) ((l0.set a1.toNat x20).set a3.toNat x24), .own 3 1 R_i64 (.slice (some qp3) qn4 qc5) l4]) ?_ ?_
 ·
  refine wc_draw [0,1,2,3,4,5,6,8,9,10,12,14] rfl rfl (fun hok => (xP hok 0 rfl (xP hok 1 rfl (xP hok 2 rfl (xP hok 3 rfl (xP hok 4 rfl (xP hok 5 rfl (wx_indexH hok 6 0 a3.toNat rfl rfl rfl (freshS_eq rfl) rfl rfl rfl rfl rfl (toNat_eq hn20) (get_lt hx20) tE_23 tS_33 (fun g20 eg20 => ?_)))))))))
  subst eg20
  refine xP hok 8 rfl (xP hok 9 rfl (wx_indexK hok 10 0 a1.toNat rfl rfl rfl (freshS_eq rfl) rfl rfl rfl rfl rfl (toNat_eq hn24) (get_lt hx24) tE_23 tS_33 ?_))
  refine wx_step2 hok 7 11 rfl rfl rfl rfl rfl rfl ?_ ?_
  ·
   refine wl_loadRow R_Api_TokenD_opens 0 a3.toNat 0 rfl rfl rfl (freshS_eq rfl) rfl rfl rfl hx20 tS_33 tA_33 (v := fun r21 => .agg #[.int .i64 (x20.rule), .slice r21.1 x20.ids.length r21.2]) (fun _ => rfl) (fun _ => rfl) (fun r21 _ => (wl_nil (we_x [1] [] rfl rfl (xS hok 11 rfl (wl_loadRow R_Api_TokenD_opens 0 a1.toNat 0 rfl rfl rfl (freshS_eq rfl) rfl rfl rfl hx24 tS_33 tA_33 (v := fun r25 => .agg #[.int .i64 (x24.rule), .slice r25.1 x24.ids.length r25.2]) (fun _ => rfl) (fun _ => rfl) (fun r25 _ => (wl_nil (we_x [1,2] [] rfl rfl (wx_indexK hok 12 0 a1.toNat rfl rfl rfl (freshS_eq rfl) rfl rfl rfl rfl rfl (toNat_eq hn26) (get_lt hx26) tE_23 tS_33 (xS hok 13 rfl (wl_storeRow (u := x20) 0 a1.toNat rfl rfl rfl rfl rfl (get_lt hx26) rfl rfl tS_33 rfl (fun F w hφ => ⟨(r21.1, r21.2), rfl, (ask_cons (hφ _ (mem_at (k := 1) rfl)) ask_nil)⟩) (H' := [_,_]) rfl (wl_nil (we_x [0,1,2] [] rfl rfl (wx_indexK hok 14 0 a3.toNat rfl rfl rfl (freshS_eq rfl) rfl rfl rfl rfl rfl (toNat_eq hn27) (get_lt hx27) tE_23 tS_33 (xS hok 15 rfl ?_)))))))))))))))
   refine wl_storeRow (u := x24) 0 a3.toNat rfl rfl rfl rfl rfl (get_lt hx27) rfl rfl tS_33 rfl (fun F w hφ => ⟨(r25.1, r25.2), rfl, (ask_cons (hφ _ (mem_at (k := 0) rfl)) ask_nil)⟩) (H' := [_,_]) rfl (wl_nil (we_x [0,1,2] [] rfl rfl (wx_done hok rfl ?_)))
   refine we_join () trivial [0,1,2,4] rfl (asK [2] rfl) rfl
  ·
   refine wl_loadRow R_Api_TokenD_opens 0 a1.toNat 0 rfl rfl rfl (freshS_eq rfl) rfl rfl rfl hx24 tS_33 tA_33 (v := fun r25 => .agg #[.int .i64 (x24.rule), .slice r25.1 x24.ids.length r25.2]) (fun _ => rfl) (fun _ => rfl) (fun r25 _ => (wl_nil (we_x [1] [] rfl rfl (xS hok 7 rfl (wl_loadRow R_Api_TokenD_opens 0 a3.toNat 0 rfl rfl rfl (freshS_eq rfl) rfl rfl rfl hx20 tS_33 tA_33 (v := fun r21 => .agg #[.int .i64 (x20.rule), .slice r21.1 x20.ids.length r21.2]) (fun _ => rfl) (fun _ => rfl) (fun r21 _ => (wl_nil (we_x [1,2] [] rfl rfl (wx_indexK hok 12 0 a1.toNat rfl rfl rfl (freshS_eq rfl) rfl rfl rfl rfl rfl (toNat_eq hn26) (get_lt hx26) tE_23 tS_33 (xS hok 13 rfl (wl_storeRow (u := x20) 0 a1.toNat rfl rfl rfl rfl rfl (get_lt hx26) rfl rfl tS_33 rfl (fun F w hφ => ⟨(r21.1, r21.2), rfl, (ask_cons (hφ _ (mem_at (k := 0) rfl)) ask_nil)⟩) (H' := [_,_]) rfl (wl_nil (we_x [0,1,2] [] rfl rfl (wx_indexK hok 14 0 a3.toNat rfl rfl rfl (freshS_eq rfl) rfl rfl rfl rfl rfl (toNat_eq hn27) (get_lt hx27) tE_23 tS_33 (xS hok 15 rfl ?_)))))))))))))))
   refine wl_storeRow (u := x24) 0 a3.toNat rfl rfl rfl rfl rfl (get_lt hx27) rfl rfl tS_33 rfl (fun F w hφ => ⟨(r25.1, r25.2), rfl, (ask_cons (hφ _ (mem_at (k := 1) rfl)) ask_nil)⟩) (H' := [_,_]) rfl (wl_nil (we_x [0,1,2] [] rfl rfl (wx_done hok rfl ?_)))
   refine we_join () trivial [0,1,2,4] rfl (asK [2] rfl) rfl
 ·
  rintro _ _
  try dsimp only
  refine wc_seq (wc_region (wP rfl (wP rfl ?_)))
  obtain ⟨hg29, hm⟩ := gd_some hm
  refine wl_as (d := 29) (v' := .int .i64 (a1 + 1)) (S' := [_,_,_,_,_]) rfl rfl (i64_in hg29) (wP rfl (wP rfl ?_))
  obtain ⟨hg31, hm⟩ := gd_some hm
  refine wl_as (d := 31) (v' := .int .i64 (a2 - 1)) (S' := [_,_,_,_,_,_,_]) rfl rfl (i64_in hg31) (wP rfl (wP rfl (wl_nil (we_then (wc_keep [13,12,0,1,4] (S' := [_,_,_,_,_]) rfl (wc_seq ?_))))))
  obtain ⟨bj_2, hm, hLj_2⟩ := bindO_some hm
  refine wc_cut (σ := Int) (fun j_2_12 => bj_2 = j_2_12) (fun j_2_12 => [(13, .int .i64 (a2 - 1)), (12, .int .i64 j_2_12), (0, .slice qp0 qn1 qc2), (1, .int .i64 a1), (4, .func (.func 19) #[.slice (some qp3) qn4 qc5] #[])]) (fun j_2_12 => [tabF Tryd.prog "internal/strconv.uint64pow10" .u64 Lib.pow10Tab 0 pow10_g]) (fun j_2_12 => [.own 33 2 R_Api_TokenD (.slice qp0 qn1 qc2) ((l0.set a1.toNat x20).set a3.toNat x24), .own 3 1 R_i64 (.slice (some qp3) qn4 qc5) l4]) ?_ ?_
  ·
   refine wc_block (wc_loop (σ := Nat × Int) (fun (nu1, u1_12) => iter (m_slices_partitionCmpFunc_Token_v2_L1 N a2 l0 a1 x20 a3 x24 l4) nu1 u1_12 = some bj_2) (fun (nu1, u1_12) => nu1) (fun (nu1, u1_12) => [(13, .int .i64 (a2 - 1)), (12, .int .i64 u1_12), (0, .slice qp0 qn1 qc2), (1, .int .i64 a1), (4, .func (.func 19) #[.slice (some qp3) qn4 qc5] #[])]) (fun (nu1, u1_12) => [tabF Tryd.prog "internal/strconv.uint64pow10" .u64 Lib.pow10Tab 0 pow10_g]) (fun (nu1, u1_12) => [.own 33 2 R_Api_TokenD (.slice qp0 qn1 qc2) ((l0.set a1.toNat x20).set a3.toNat x24), .own 3 1 R_i64 (.slice (some qp3) qn4 qc5) l4]) (N, a1 + 1) hm [13,12,0,1,4] rfl (asK [0] rfl) rfl (fun s_ hm => ?_))
   obtain ⟨nu1, u1_12⟩ := s_
   try dsimp only at hm ⊢
   obtain ⟨mu1, bu1, hnu1, hq, hLu1⟩ := iter_some hm
   clear hm
   subst hnu1
   replace hm := hq
   clear hq
   unfold m_slices_partitionCmpFunc_Token_v2_L1 at hm
   try dsimp only at hm
   refine wc_seq (wc_seq ?_)
   obtain ⟨bj_3, hm, hLj_3⟩ := bindO_some hm
   unfold m_slices_partitionCmpFunc_Token_v2_C3 at hm
   refine wc_cut (σ := Bool) (fun j_3_47 => bj_3 = j_3_47) (fun j_3_47 => [(13, .int .i64 (a2 - 1)), (12, .int .i64 u1_12), (0, .slice qp0 qn1 qc2), (1, .int .i64 a1), (4, .func (.func 19) #[.slice (some qp3) qn4 qc5] #[]), (47, .bool j_3_47)]) (fun j_3_47 => [tabF Tryd.prog "internal/strconv.uint64pow10" .u64 Lib.pow10Tab 0 pow10_g]) (fun j_3_47 => [.own 33 2 R_Api_TokenD (.slice qp0 qn1 qc2) ((l0.set a1.toNat x20).set a3.toNat x24), .own 3 1 R_i64 (.slice (some qp3) qn4 qc5) l4]) ?_ ?_
   ·
    rcases ite_some hm with ⟨hs35, hm⟩ | ⟨hs35, hm⟩
    ·
     obtain ⟨hn39, hm⟩ := gd_some hm
     obtain ⟨x39, hx39, hm⟩ := bindO_some hm
     obtain ⟨hn43, hm⟩ := gd_some hm
     obtain ⟨x43, hx43, hm⟩ := bindO_some hm
     obtain ⟨v45, hc45, hm⟩ := bindO_some hm
     refine wc_draw [0,1,2,3,4,5,6,7,9,10,11,14,15] rfl rfl (fun hok => (xP hok 0 rfl (xP hok 1 rfl (xP hok 2 rfl (xP hok 3 rfl (wx_as (d := 35) (v' := .bool true) (S' := [_,_,_,_,_,_,_,_]) rfl rfl (bool_is hs35) (xP hok 4 rfl (xP hok 5 rfl (xP hok 6 rfl (wx_indexH hok 7 0 u1_12.toNat rfl rfl rfl (freshS_eq rfl) rfl rfl rfl rfl rfl (toNat_eq hn39) (get_lt hx39) tE_23 tS_33 (fun g39 eg39 => ?_)))))))))))
     subst eg39
     refine xP hok 9 rfl (xP hok 10 rfl (wx_indexK hok 11 0 a1.toNat rfl rfl rfl (freshS_eq rfl) rfl rfl rfl rfl rfl (toNat_eq hn43) (get_lt hx43) tE_23 tS_33 ?_))
     refine wx_step2 hok 8 12 rfl rfl rfl rfl rfl rfl ?_ ?_
     rotate_left
     focus
      refine wl_loadRow R_Api_TokenD_opens 0 a1.toNat 0 rfl rfl rfl (freshS_eq rfl) rfl rfl rfl hx43 tS_33 tA_33 (v := fun r44 => .agg #[.int .i64 (x43.rule), .slice r44.1 x43.ids.length r44.2]) (fun _ => rfl) (fun _ => rfl) (fun r44 _ => (wl_nil (we_x [1] [] rfl rfl (xS hok 8 rfl (wl_loadRow R_Api_TokenD_opens 0 u1_12.toNat 0 rfl rfl rfl (freshS_eq rfl) rfl rfl rfl hx39 tS_33 tA_33 (v := fun r40 => .agg #[.int .i64 (x39.rule), .slice r40.1 x39.ids.length r40.2]) (fun _ => rfl) (fun _ => rfl) (fun r40 _ => (wl_nil (we_x [1,2] [] rfl rfl (xS hok 13 rfl (wl_callDynF (args := [.slice (some qp3) qn4 qc5, .agg #[.int .i64 (x39.rule), .slice r40.1 x39.ids.length r40.2], .agg #[.int .i64 (x43.rule), .slice r44.1 x43.ids.length r44.2]]) [1] [0] rfl rfl rfl (freshS_eq rfl) rfl rfl rfl fn_19 rfl rfl (w_agenda_order_compare_v2_s N qp3 qn4 qc5 l4 x39.rule r40.1 r40.2 x39.ids x43.rule r44.1 r44.2 x43.ids _ hc45) (asK [0,1,2] rfl) rfl (H' := [_]) rfl ?_))))))))))
     rotate_right
     focus
      refine wl_loadRow R_Api_TokenD_opens 0 u1_12.toNat 0 rfl rfl rfl (freshS_eq rfl) rfl rfl rfl hx39 tS_33 tA_33 (v := fun r40 => .agg #[.int .i64 (x39.rule), .slice r40.1 x39.ids.length r40.2]) (fun _ => rfl) (fun _ => rfl) (fun r40 _ => (wl_nil (we_x [1] [] rfl rfl (xS hok 12 rfl (wl_loadRow R_Api_TokenD_opens 0 a1.toNat 0 rfl rfl rfl (freshS_eq rfl) rfl rfl rfl hx43 tS_33 tA_33 (v := fun r44 => .agg #[.int .i64 (x43.rule), .slice r44.1 x43.ids.length r44.2]) (fun _ => rfl) (fun _ => rfl) (fun r44 _ => (wl_nil (we_x [1,2] [] rfl rfl (xS hok 13 rfl (wl_callDynF (args := [.slice (some qp3) qn4 qc5, .agg #[.int .i64 (x39.rule), .slice r40.1 x39.ids.length r40.2], .agg #[.int .i64 (x43.rule), .slice r44.1 x43.ids.length r44.2]]) [1] [0] rfl rfl rfl (freshS_eq rfl) rfl rfl rfl fn_19 rfl rfl (w_agenda_order_compare_v2_s N qp3 qn4 qc5 l4 x39.rule r40.1 r40.2 x39.ids x43.rule r44.1 r44.2 x43.ids _ hc45) (asK [1,0,2] rfl) rfl (H' := [_]) rfl ?_))))))))))
     all_goals
      rintro _ _ _ ⟨rfl, rfl, rfl⟩
      refine wl_nil (we_x [0,1,2] [] rfl rfl (xP hok 14 rfl (xP hok 15 rfl (wx_done hok rfl ?_))))
      have hE := (Option.some.inj hm).symm
      refine we_pick [1,0] rfl (H' := [_,_]) rfl ?_
      refine we_join (decide (v45 < 0)) hE [13,12,0,1,4,47] rfl (asK [2] rfl) rfl
    ·
     refine wc_draw [0,1,2,3,4,5,6,7,9,10,11,14,15] rfl rfl (fun hok => (xP hok 0 rfl (xP hok 1 rfl (xP hok 2 rfl (xP hok 3 rfl (wx_as (d := 35) (v' := .bool false) (S' := [_,_,_,_,_,_,_,_]) rfl rfl (bool_is hs35) (xO hok 4 rfl (xO hok 5 rfl (xO hok 6 rfl (xO hok 7 rfl (xO hok 9 rfl (xO hok 10 rfl (xO hok 11 rfl ?_)))))))))))))
     refine wx_step2 hok 8 12 rfl rfl rfl rfl rfl rfl ?_ ?_
     rotate_left
     focus
      refine wO rfl (wl_nil (we_x [0] [] rfl rfl (xS hok 8 rfl ?_)))
     rotate_right
     focus
      refine wO rfl (wl_nil (we_x [0] [] rfl rfl (xS hok 12 rfl ?_)))
     all_goals
      refine wO rfl (wl_nil (we_x [0] [] rfl rfl (xS hok 13 rfl (wO rfl (wl_nil (we_x [0] [] rfl rfl (xO hok 14 rfl (xP hok 15 rfl (wx_done hok rfl ?_)))))))))
      have hE := (Option.some.inj hm).symm
      refine we_join false hE [13,12,0,1,4,47] rfl (asK [0] rfl) rfl
   ·
    rintro j_3_47 hE
    try dsimp only
    have hm := hLj_3
    rw [hE] at hm
    refine wc_cond rfl (fun hb47 => ?_) (fun hb47 => ?_)
    ·
     replace hm := iteT hm hb47
     refine wc_keep [13,12,0,1,4] (S' := [_,_,_,_,_]) rfl (wc_skip (we_then (wc_block (wc_region (wP rfl (wP rfl ?_))))))
     obtain ⟨hg49, hm⟩ := gd_some hm
     refine wl_as (d := 49) (v' := .int .i64 (u1_12 + 1)) (S' := [_,_,_,_,_,_]) rfl rfl (i64_in hg49) (wl_pure (S' := [_,_,_,_,_,_]) rfl rfl rfl rfl rfl (wl_nil (we_block_normal ?_)))
     have hE := (Option.some.inj hm).symm
     replace hE := link_inl hLu1 hE
     refine we_roundK (_, u1_12 + 1) (Nat.lt_succ_self _) hE [13,12,0,1,4] rfl (asK [0] rfl) rfl
    ·
     replace hm := iteF hm hb47
     refine wc_keep [13,12,0,1,4] (S' := [_,_,_,_,_]) rfl (wc_exit (we_then_exit (we_then_exit (we_block_hit ?_))))
     have hE := (Option.some.inj hm).symm
     replace hE := link_inr hLu1 hE
     refine we_join u1_12 hE [13,12,0,1,4] rfl (asK [0] rfl) rfl
  ·
   rintro j_2_12 hE
   try dsimp only
   have hm := hLj_2
   rw [hE] at hm
   refine wc_seq ?_
   obtain ⟨bj_4, hm, hLj_4⟩ := bindO_some hm
   refine wc_cut (σ := Int) (fun j_4_13 => bj_4 = j_4_13) (fun j_4_13 => [(13, .int .i64 j_4_13), (12, .int .i64 j_2_12), (0, .slice qp0 qn1 qc2), (1, .int .i64 a1), (4, .func (.func 19) #[.slice (some qp3) qn4 qc5] #[])]) (fun j_4_13 => [tabF Tryd.prog "internal/strconv.uint64pow10" .u64 Lib.pow10Tab 0 pow10_g]) (fun j_4_13 => [.own 33 2 R_Api_TokenD (.slice qp0 qn1 qc2) ((l0.set a1.toNat x20).set a3.toNat x24), .own 3 1 R_i64 (.slice (some qp3) qn4 qc5) l4]) ?_ ?_
   ·
    refine wc_block (wc_loop (σ := Nat × Int) (fun (nu2, u2_13) => iter (m_slices_partitionCmpFunc_Token_v2_L2 N j_2_12 l0 a1 x20 a3 x24 l4) nu2 u2_13 = some bj_4) (fun (nu2, u2_13) => nu2) (fun (nu2, u2_13) => [(13, .int .i64 u2_13), (12, .int .i64 j_2_12), (0, .slice qp0 qn1 qc2), (1, .int .i64 a1), (4, .func (.func 19) #[.slice (some qp3) qn4 qc5] #[])]) (fun (nu2, u2_13) => [tabF Tryd.prog "internal/strconv.uint64pow10" .u64 Lib.pow10Tab 0 pow10_g]) (fun (nu2, u2_13) => [.own 33 2 R_Api_TokenD (.slice qp0 qn1 qc2) ((l0.set a1.toNat x20).set a3.toNat x24), .own 3 1 R_i64 (.slice (some qp3) qn4 qc5) l4]) (N, a2 - 1) hm [13,12,0,1,4] rfl (asK [0] rfl) rfl (fun s_ hm => ?_))
    obtain ⟨nu2, u2_13⟩ := s_
    try dsimp only at hm ⊢
    obtain ⟨mu2, bu2, hnu2, hq, hLu2⟩ := iter_some hm
    clear hm
    subst hnu2
    replace hm := hq
    clear hq
    unfold m_slices_partitionCmpFunc_Token_v2_L2 at hm
    try dsimp only at hm
    refine wc_seq (wc_seq ?_)
    obtain ⟨bj_5, hm, hLj_5⟩ := bindO_some hm
    unfold m_slices_partitionCmpFunc_Token_v2_C5 at hm
    refine wc_cut (σ := Bool) (fun j_5_66 => bj_5 = j_5_66) (fun j_5_66 => [(13, .int .i64 u2_13), (12, .int .i64 j_2_12), (0, .slice qp0 qn1 qc2), (1, .int .i64 a1), (4, .func (.func 19) #[.slice (some qp3) qn4 qc5] #[]), (66, .bool j_5_66)]) (fun j_5_66 => [tabF Tryd.prog "internal/strconv.uint64pow10" .u64 Lib.pow10Tab 0 pow10_g]) (fun j_5_66 => [.own 33 2 R_Api_TokenD (.slice qp0 qn1 qc2) ((l0.set a1.toNat x20).set a3.toNat x24), .own 3 1 R_i64 (.slice (some qp3) qn4 qc5) l4]) ?_ ?_
    ·
     rcases ite_some hm with ⟨hs53, hm⟩ | ⟨hs53, hm⟩
     ·
      obtain ⟨hn57, hm⟩ := gd_some hm
      obtain ⟨x57, hx57, hm⟩ := bindO_some hm
      obtain ⟨hn61, hm⟩ := gd_some hm
      obtain ⟨x61, hx61, hm⟩ := bindO_some hm
      obtain ⟨v63, hc63, hm⟩ := bindO_some hm
      refine wc_draw [0,1,2,3,4,5,6,7,9,10,11,14,15,16] rfl rfl (fun hok => (xP hok 0 rfl (xP hok 1 rfl (xP hok 2 rfl (xP hok 3 rfl (wx_as (d := 53) (v' := .bool true) (S' := [_,_,_,_,_,_,_,_]) rfl rfl (bool_is hs53) (xP hok 4 rfl (xP hok 5 rfl (xP hok 6 rfl (wx_indexH hok 7 0 u2_13.toNat rfl rfl rfl (freshS_eq rfl) rfl rfl rfl rfl rfl (toNat_eq hn57) (get_lt hx57) tE_23 tS_33 (fun g57 eg57 => ?_)))))))))))
      subst eg57
      refine xP hok 9 rfl (xP hok 10 rfl (wx_indexK hok 11 0 a1.toNat rfl rfl rfl (freshS_eq rfl) rfl rfl rfl rfl rfl (toNat_eq hn61) (get_lt hx61) tE_23 tS_33 ?_))
      refine wx_step2 hok 8 12 rfl rfl rfl rfl rfl rfl ?_ ?_
      rotate_left
      focus
       refine wl_loadRow R_Api_TokenD_opens 0 a1.toNat 0 rfl rfl rfl (freshS_eq rfl) rfl rfl rfl hx61 tS_33 tA_33 (v := fun r62 => .agg #[.int .i64 (x61.rule), .slice r62.1 x61.ids.length r62.2]) (fun _ => rfl) (fun _ => rfl) (fun r62 _ => (wl_nil (we_x [1] [] rfl rfl (xS hok 8 rfl (wl_loadRow R_Api_TokenD_opens 0 u2_13.toNat 0 rfl rfl rfl (freshS_eq rfl) rfl rfl rfl hx57 tS_33 tA_33 (v := fun r58 => .agg #[.int .i64 (x57.rule), .slice r58.1 x57.ids.length r58.2]) (fun _ => rfl) (fun _ => rfl) (fun r58 _ => (wl_nil (we_x [1,2] [] rfl rfl (xS hok 13 rfl (wl_callDynF (args := [.slice (some qp3) qn4 qc5, .agg #[.int .i64 (x57.rule), .slice r58.1 x57.ids.length r58.2], .agg #[.int .i64 (x61.rule), .slice r62.1 x61.ids.length r62.2]]) [1] [0] rfl rfl rfl (freshS_eq rfl) rfl rfl rfl fn_19 rfl rfl (w_agenda_order_compare_v2_s N qp3 qn4 qc5 l4 x57.rule r58.1 r58.2 x57.ids x61.rule r62.1 r62.2 x61.ids _ hc63) (asK [0,1,2] rfl) rfl (H' := [_]) rfl ?_))))))))))
      rotate_right
      focus
       refine wl_loadRow R_Api_TokenD_opens 0 u2_13.toNat 0 rfl rfl rfl (freshS_eq rfl) rfl rfl rfl hx57 tS_33 tA_33 (v := fun r58 => .agg #[.int .i64 (x57.rule), .slice r58.1 x57.ids.length r58.2]) (fun _ => rfl) (fun _ => rfl) (fun r58 _ => (wl_nil (we_x [1] [] rfl rfl (xS hok 12 rfl (wl_loadRow R_Api_TokenD_opens 0 a1.toNat 0 rfl rfl rfl (freshS_eq rfl) rfl rfl rfl hx61 tS_33 tA_33 (v := fun r62 => .agg #[.int .i64 (x61.rule), .slice r62.1 x61.ids.length r62.2]) (fun _ => rfl) (fun _ => rfl) (fun r62 _ => (wl_nil (we_x [1,2] [] rfl rfl (xS hok 13 rfl (wl_callDynF (args := [.slice (some qp3) qn4 qc5, .agg #[.int .i64 (x57.rule), .slice r58.1 x57.ids.length r58.2], .agg #[.int .i64 (x61.rule), .slice r62.1 x61.ids.length r62.2]]) [1] [0] rfl rfl rfl (freshS_eq rfl) rfl rfl rfl fn_19 rfl rfl (w_agenda_order_compare_v2_s N qp3 qn4 qc5 l4 x57.rule r58.1 r58.2 x57.ids x61.rule r62.1 r62.2 x61.ids _ hc63) (asK [1,0,2] rfl) rfl (H' := [_]) rfl ?_))))))))))
      all_goals
       rintro _ _ _ ⟨rfl, rfl, rfl⟩
       refine wl_nil (we_x [0,1,2] [] rfl rfl (xP hok 14 rfl (xP hok 15 rfl (xP hok 16 rfl (wx_done hok rfl ?_)))))
       have hE := (Option.some.inj hm).symm
       refine we_pick [1,0] rfl (H' := [_,_]) rfl ?_
       refine we_join (!(decide (v63 < 0))) hE [13,12,0,1,4,66] rfl (asK [2] rfl) rfl
     ·
      refine wc_draw [0,1,2,3,4,5,6,7,9,10,11,14,15,16] rfl rfl (fun hok => (xP hok 0 rfl (xP hok 1 rfl (xP hok 2 rfl (xP hok 3 rfl (wx_as (d := 53) (v' := .bool false) (S' := [_,_,_,_,_,_,_,_]) rfl rfl (bool_is hs53) (xO hok 4 rfl (xO hok 5 rfl (xO hok 6 rfl (xO hok 7 rfl (xO hok 9 rfl (xO hok 10 rfl (xO hok 11 rfl ?_)))))))))))))
      refine wx_step2 hok 8 12 rfl rfl rfl rfl rfl rfl ?_ ?_
      rotate_left
      focus
       refine wO rfl (wl_nil (we_x [0] [] rfl rfl (xS hok 8 rfl ?_)))
      rotate_right
      focus
       refine wO rfl (wl_nil (we_x [0] [] rfl rfl (xS hok 12 rfl ?_)))
      all_goals
       refine wO rfl (wl_nil (we_x [0] [] rfl rfl (xS hok 13 rfl (wO rfl (wl_nil (we_x [0] [] rfl rfl (xO hok 14 rfl (xO hok 15 rfl (xP hok 16 rfl (wx_done hok rfl ?_))))))))))
       have hE := (Option.some.inj hm).symm
       refine we_join false hE [13,12,0,1,4,66] rfl (asK [0] rfl) rfl
    ·
     rintro j_5_66 hE
     try dsimp only
     have hm := hLj_5
     rw [hE] at hm
     refine wc_cond rfl (fun hb66 => ?_) (fun hb66 => ?_)
     ·
      replace hm := iteT hm hb66
      refine wc_keep [13,12,0,1,4] (S' := [_,_,_,_,_]) rfl (wc_skip (we_then (wc_block (wc_region (wP rfl (wP rfl ?_))))))
      obtain ⟨hg68, hm⟩ := gd_some hm
      refine wl_as (d := 68) (v' := .int .i64 (u2_13 - 1)) (S' := [_,_,_,_,_,_]) rfl rfl (i64_in hg68) (wl_pure (S' := [_,_,_,_,_,_]) rfl rfl rfl rfl rfl (wl_nil (we_block_normal ?_)))
      have hE := (Option.some.inj hm).symm
      replace hE := link_inl hLu2 hE
      refine we_roundK (_, u2_13 - 1) (Nat.lt_succ_self _) hE [13,12,0,1,4] rfl (asK [0] rfl) rfl
     ·
      replace hm := iteF hm hb66
      refine wc_keep [13,12,0,1,4] (S' := [_,_,_,_,_]) rfl (wc_exit (we_then_exit (we_then_exit (we_block_hit ?_))))
      have hE := (Option.some.inj hm).symm
      replace hE := link_inr hLu2 hE
      refine we_join u2_13 hE [13,12,0,1,4] rfl (asK [0] rfl) rfl
   ·
    rintro j_4_13 hE
    try dsimp only
    have hm := hLj_4
    rw [hE] at hm
    refine wc_seq (wc_seq (wc_region (wP rfl (wP rfl (wP rfl (wl_nil (we_then (wc_keep [71,13,12,0,1,4] (S' := [_,_,_,_,_,_]) rfl ?_))))))))
    refine wc_cond rfl (fun hb71 => ?_) (fun hb71 => ?_)
    ·
     replace hm := iteT hm hb71
     refine wc_keep [13,0,1] (S' := [_,_,_]) rfl (wc_seq ?_)
     obtain ⟨hn78, hm⟩ := gd_some hm
     obtain ⟨x78, hx78, hm⟩ := bindO_some hm
     obtain ⟨hn82, hm⟩ := gd_some hm
     obtain ⟨x82, hx82, hm⟩ := bindO_some hm
     obtain ⟨hn84, hm⟩ := gd_some hm
     obtain ⟨x84, hx84, hm⟩ := bindO_some hm
     obtain ⟨hn85, hm⟩ := gd_some hm
     obtain ⟨x85, hx85, hm⟩ := bindO_some hm
     refine wc_cut (σ := Unit) (fun _ => True) (fun _ => [(13, .int .i64 j_4_13)]) (fun _ => [tabF Tryd.prog "internal/strconv.uint64pow10" .u64 Lib.pow10Tab 0 pow10_g]) (fun _ => [.own 33 2 R_Api_TokenD (.slice qp0 qn1 qc2) ((((l0.set a1.toNat x20).set a3.toNat x24).set j_4_13.toNat x78).set a1.toNat x82), .own 3 1 R_i64 (.slice (some qp3) qn4 qc5) l4]) ?_ ?_
     ·
      refine wc_draw [0,1,2,3,4,5,6,8,9,10,12,14] rfl rfl (fun hok => (xP hok 0 rfl (xP hok 1 rfl (xP hok 2 rfl (xP hok 3 rfl (xP hok 4 rfl (xP hok 5 rfl (wx_indexH hok 6 0 a1.toNat rfl rfl rfl (freshS_eq rfl) rfl rfl rfl rfl rfl (toNat_eq hn78) (get_lt hx78) tE_23 tS_33 (fun g78 eg78 => ?_)))))))))
      subst eg78
      refine xP hok 8 rfl (xP hok 9 rfl (wx_indexK hok 10 0 j_4_13.toNat rfl rfl rfl (freshS_eq rfl) rfl rfl rfl rfl rfl (toNat_eq hn82) (get_lt hx82) tE_23 tS_33 ?_))
      refine wx_step2 hok 7 11 rfl rfl rfl rfl rfl rfl ?_ ?_
      ·
       refine wl_loadRow R_Api_TokenD_opens 0 a1.toNat 0 rfl rfl rfl (freshS_eq rfl) rfl rfl rfl hx78 tS_33 tA_33 (v := fun r79 => .agg #[.int .i64 (x78.rule), .slice r79.1 x78.ids.length r79.2]) (fun _ => rfl) (fun _ => rfl) (fun r79 _ => (wl_nil (we_x [1] [] rfl rfl (xS hok 11 rfl (wl_loadRow R_Api_TokenD_opens 0 j_4_13.toNat 0 rfl rfl rfl (freshS_eq rfl) rfl rfl rfl hx82 tS_33 tA_33 (v := fun r83 => .agg #[.int .i64 (x82.rule), .slice r83.1 x82.ids.length r83.2]) (fun _ => rfl) (fun _ => rfl) (fun r83 _ => (wl_nil (we_x [1,2] [] rfl rfl (wx_indexK hok 12 0 j_4_13.toNat rfl rfl rfl (freshS_eq rfl) rfl rfl rfl rfl rfl (toNat_eq hn84) (get_lt hx84) tE_23 tS_33 (xS hok 13 rfl (wl_storeRow (u := x78) 0 j_4_13.toNat rfl rfl rfl rfl rfl (get_lt hx84) rfl rfl tS_33 rfl (fun F w hφ => ⟨(r79.1, r79.2), rfl, (ask_cons (hφ _ (mem_at (k := 1) rfl)) ask_nil)⟩) (H' := [_,_]) rfl (wl_nil (we_x [0,1,2] [] rfl rfl (wx_indexK hok 14 0 a1.toNat rfl rfl rfl (freshS_eq rfl) rfl rfl rfl rfl rfl (toNat_eq hn85) (get_lt hx85) tE_23 tS_33 (xS hok 15 rfl ?_)))))))))))))))
       refine wl_storeRow (u := x82) 0 a1.toNat rfl rfl rfl rfl rfl (get_lt hx85) rfl rfl tS_33 rfl (fun F w hφ => ⟨(r83.1, r83.2), rfl, (ask_cons (hφ _ (mem_at (k := 0) rfl)) ask_nil)⟩) (H' := [_,_]) rfl (wl_nil (we_x [0,1,2] [] rfl rfl (wx_done hok rfl ?_)))
       refine we_join () trivial [13] rfl (asK [2] rfl) rfl
      ·
       refine wl_loadRow R_Api_TokenD_opens 0 j_4_13.toNat 0 rfl rfl rfl (freshS_eq rfl) rfl rfl rfl hx82 tS_33 tA_33 (v := fun r83 => .agg #[.int .i64 (x82.rule), .slice r83.1 x82.ids.length r83.2]) (fun _ => rfl) (fun _ => rfl) (fun r83 _ => (wl_nil (we_x [1] [] rfl rfl (xS hok 7 rfl (wl_loadRow R_Api_TokenD_opens 0 a1.toNat 0 rfl rfl rfl (freshS_eq rfl) rfl rfl rfl hx78 tS_33 tA_33 (v := fun r79 => .agg #[.int .i64 (x78.rule), .slice r79.1 x78.ids.length r79.2]) (fun _ => rfl) (fun _ => rfl) (fun r79 _ => (wl_nil (we_x [1,2] [] rfl rfl (wx_indexK hok 12 0 j_4_13.toNat rfl rfl rfl (freshS_eq rfl) rfl rfl rfl rfl rfl (toNat_eq hn84) (get_lt hx84) tE_23 tS_33 (xS hok 13 rfl (wl_storeRow (u := x78) 0 j_4_13.toNat rfl rfl rfl rfl rfl (get_lt hx84) rfl rfl tS_33 rfl (fun F w hφ => ⟨(r79.1, r79.2), rfl, (ask_cons (hφ _ (mem_at (k := 0) rfl)) ask_nil)⟩) (H' := [_,_]) rfl (wl_nil (we_x [0,1,2] [] rfl rfl (wx_indexK hok 14 0 a1.toNat rfl rfl rfl (freshS_eq rfl) rfl rfl rfl rfl rfl (toNat_eq hn85) (get_lt hx85) tE_23 tS_33 (xS hok 15 rfl ?_)))))))))))))))
       refine wl_storeRow (u := x82) 0 a1.toNat rfl rfl rfl rfl rfl (get_lt hx85) rfl rfl tS_33 rfl (fun F w hφ => ⟨(r83.1, r83.2), rfl, (ask_cons (hφ _ (mem_at (k := 1) rfl)) ask_nil)⟩) (H' := [_,_]) rfl (wl_nil (we_x [0,1,2] [] rfl rfl (wx_done hok rfl ?_)))
       refine we_join () trivial [13] rfl (asK [2] rfl) rfl
     ·
      rintro _ _
      try dsimp only
      refine wc_seq (wc_region (wP rfl (wP rfl (wP rfl (wl_nil (we_then (wc_keep [11,10] (S' := [_,_]) rfl (wc_ret (we_then_ret ?_)))))))))
      have hE := (Option.some.inj hm).symm
      obtain ⟨hE0, hF1⟩ := Prod.mk.inj hE
      obtain ⟨hE1, hE2⟩ := Prod.mk.inj hF1
      clear hE hF1
      replace hE0 := hE0.symm
      subst hE0
      replace hE1 := hE1.symm
      subst hE1
      replace hE2 := hE2.symm
      subst hE2
      refine ret_two (Hr := [_,_]) [0,1] Tryd.results47 (res_tmp rfl) (res_tmp rfl) ⟨rfl, rfl, rfl⟩ (asK [] rfl) rfl rfl (.inl rfl)
    ·
     replace hm := iteF hm hb71
     refine wc_keep [13,12,0,1,4] (S' := [_,_,_,_,_]) rfl (wc_skip (we_then (wc_seq ?_)))
     obtain ⟨hn93, hm⟩ := gd_some hm
     obtain ⟨x93, hx93, hm⟩ := bindO_some hm
     obtain ⟨hn97, hm⟩ := gd_some hm
     obtain ⟨x97, hx97, hm⟩ := bindO_some hm
     obtain ⟨hn99, hm⟩ := gd_some hm
     obtain ⟨x99, hx99, hm⟩ := bindO_some hm
     obtain ⟨hn100, hm⟩ := gd_some hm
     obtain ⟨x100, hx100, hm⟩ := bindO_some hm
     refine wc_cut (σ := Unit) (fun _ => True) (fun _ => [(13, .int .i64 j_4_13), (12, .int .i64 j_2_12), (0, .slice qp0 qn1 qc2), (1, .int .i64 a1), (4, .func (.func 19) #[.slice (some qp3) qn4 qc5] #[])]) (fun _ => [tabF Tryd.prog "internal/strconv.uint64pow10" .u64 Lib.pow10Tab 0 pow10_g]) (fun _ => [.own 33 2 R_Api_TokenD (.slice qp0 qn1 qc2) ((((l0.set a1.toNat x20).set a3.toNat x24).set j_2_12.toNat x93).set j_4_13.toNat x97), .own 3 1 R_i64 (.slice (some qp3) qn4 qc5) l4]) ?_ ?_
     ·
      refine wc_draw [0,1,2,3,4,5,6,8,9,10,12,14] rfl rfl (fun hok => (xP hok 0 rfl (xP hok 1 rfl (xP hok 2 rfl (xP hok 3 rfl (xP hok 4 rfl (xP hok 5 rfl (wx_indexH hok 6 0 j_4_13.toNat rfl rfl rfl (freshS_eq rfl) rfl rfl rfl rfl rfl (toNat_eq hn93) (get_lt hx93) tE_23 tS_33 (fun g93 eg93 => ?_)))))))))
      subst eg93
      refine xP hok 8 rfl (xP hok 9 rfl (wx_indexK hok 10 0 j_2_12.toNat rfl rfl rfl (freshS_eq rfl) rfl rfl rfl rfl rfl (toNat_eq hn97) (get_lt hx97) tE_23 tS_33 ?_))
      refine wx_step2 hok 7 11 rfl rfl rfl rfl rfl rfl ?_ ?_
      ·
       refine wl_loadRow R_Api_TokenD_opens 0 j_4_13.toNat 0 rfl rfl rfl (freshS_eq rfl) rfl rfl rfl hx93 tS_33 tA_33 (v := fun r94 => .agg #[.int .i64 (x93.rule), .slice r94.1 x93.ids.length r94.2]) (fun _ => rfl) (fun _ => rfl) (fun r94 _ => (wl_nil (we_x [1] [] rfl rfl (xS hok 11 rfl (wl_loadRow R_Api_TokenD_opens 0 j_2_12.toNat 0 rfl rfl rfl (freshS_eq rfl) rfl rfl rfl hx97 tS_33 tA_33 (v := fun r98 => .agg #[.int .i64 (x97.rule), .slice r98.1 x97.ids.length r98.2]) (fun _ => rfl) (fun _ => rfl) (fun r98 _ => (wl_nil (we_x [1,2] [] rfl rfl (wx_indexK hok 12 0 j_2_12.toNat rfl rfl rfl (freshS_eq rfl) rfl rfl rfl rfl rfl (toNat_eq hn99) (get_lt hx99) tE_23 tS_33 (xS hok 13 rfl (wl_storeRow (u := x93) 0 j_2_12.toNat rfl rfl rfl rfl rfl (get_lt hx99) rfl rfl tS_33 rfl (fun F w hφ => ⟨(r94.1, r94.2), rfl, (ask_cons (hφ _ (mem_at (k := 1) rfl)) ask_nil)⟩) (H' := [_,_]) rfl (wl_nil (we_x [0,1,2] [] rfl rfl (wx_indexK hok 14 0 j_4_13.toNat rfl rfl rfl (freshS_eq rfl) rfl rfl rfl rfl rfl (toNat_eq hn100) (get_lt hx100) tE_23 tS_33 (xS hok 15 rfl ?_)))))))))))))))
       refine wl_storeRow (u := x97) 0 j_4_13.toNat rfl rfl rfl rfl rfl (get_lt hx100) rfl rfl tS_33 rfl (fun F w hφ => ⟨(r98.1, r98.2), rfl, (ask_cons (hφ _ (mem_at (k := 0) rfl)) ask_nil)⟩) (H' := [_,_]) rfl (wl_nil (we_x [0,1,2] [] rfl rfl (wx_done hok rfl ?_)))
       refine we_join () trivial [13,12,0,1,4] rfl (asK [2] rfl) rfl
      ·
       refine wl_loadRow R_Api_TokenD_opens 0 j_2_12.toNat 0 rfl rfl rfl (freshS_eq rfl) rfl rfl rfl hx97 tS_33 tA_33 (v := fun r98 => .agg #[.int .i64 (x97.rule), .slice r98.1 x97.ids.length r98.2]) (fun _ => rfl) (fun _ => rfl) (fun r98 _ => (wl_nil (we_x [1] [] rfl rfl (xS hok 7 rfl (wl_loadRow R_Api_TokenD_opens 0 j_4_13.toNat 0 rfl rfl rfl (freshS_eq rfl) rfl rfl rfl hx93 tS_33 tA_33 (v := fun r94 => .agg #[.int .i64 (x93.rule), .slice r94.1 x93.ids.length r94.2]) (fun _ => rfl) (fun _ => rfl) (fun r94 _ => (wl_nil (we_x [1,2] [] rfl rfl (wx_indexK hok 12 0 j_2_12.toNat rfl rfl rfl (freshS_eq rfl) rfl rfl rfl rfl rfl (toNat_eq hn99) (get_lt hx99) tE_23 tS_33 (xS hok 13 rfl (wl_storeRow (u := x93) 0 j_2_12.toNat rfl rfl rfl rfl rfl (get_lt hx99) rfl rfl tS_33 rfl (fun F w hφ => ⟨(r94.1, r94.2), rfl, (ask_cons (hφ _ (mem_at (k := 0) rfl)) ask_nil)⟩) (H' := [_,_]) rfl (wl_nil (we_x [0,1,2] [] rfl rfl (wx_indexK hok 14 0 j_4_13.toNat rfl rfl rfl (freshS_eq rfl) rfl rfl rfl rfl rfl (toNat_eq hn100) (get_lt hx100) tE_23 tS_33 (xS hok 15 rfl ?_)))))))))))))))
       refine wl_storeRow (u := x97) 0 j_4_13.toNat rfl rfl rfl rfl rfl (get_lt hx100) rfl rfl tS_33 rfl (fun F w hφ => ⟨(r98.1, r98.2), rfl, (ask_cons (hφ _ (mem_at (k := 1) rfl)) ask_nil)⟩) (H' := [_,_]) rfl (wl_nil (we_x [0,1,2] [] rfl rfl (wx_done hok rfl ?_)))
       refine we_join () trivial [13,12,0,1,4] rfl (asK [2] rfl) rfl
     ·
      rintro _ _
      try dsimp only
      refine wc_seq (wc_region (wP rfl (wP rfl ?_)))
      obtain ⟨hg102, hm⟩ := gd_some hm
      refine wl_as (d := 102) (v' := .int .i64 (j_2_12 + 1)) (S' := [_,_,_,_,_,_]) rfl rfl (i64_in hg102) (wl_pure (S' := [_,_,_,_,_,_]) rfl rfl rfl rfl rfl (wl_nil (we_then (wc_keep [12,13,0,1,4] (S' := [_,_,_,_,_]) rfl (wc_seq (wc_region (wP rfl (wP rfl ?_))))))))
      obtain ⟨hg104, hm⟩ := gd_some hm
      refine wl_as (d := 104) (v' := .int .i64 (j_4_13 - 1)) (S' := [_,_,_,_,_,_]) rfl rfl (i64_in hg104) (wl_pure (S' := [_,_,_,_,_,_]) rfl rfl rfl rfl rfl (wl_nil (we_then (wc_keep [13,12,0,1,4] (S' := [_,_,_,_,_]) rfl (wc_seq ?_)))))
      obtain ⟨bj_8, hm, hLj_8⟩ := bindO_some hm
      refine wc_cut (σ := Int × (List Api_TokenD)) (fun (j_8_13, j_8_0_l) => bj_8 = (j_8_13, j_8_0_l)) (fun (j_8_13, j_8_0_l) => [(13, .int .i64 j_8_13), (0, .slice qp0 qn1 qc2), (1, .int .i64 a1)]) (fun (j_8_13, j_8_0_l) => [tabF Tryd.prog "internal/strconv.uint64pow10" .u64 Lib.pow10Tab 0 pow10_g]) (fun (j_8_13, j_8_0_l) => [.own 33 2 R_Api_TokenD (.slice qp0 qn1 qc2) j_8_0_l, .own 3 1 R_i64 (.slice (some qp3) qn4 qc5) l4]) ?_ ?_
      ·
       refine wc_block (wc_loop (σ := Nat × Int × Int × (List Api_TokenD)) (fun (nu3, u3_13, u3_12, u3_0_l) => iter (m_slices_partitionCmpFunc_Token_v2_L3 N a1 l4) nu3 (u3_13, u3_12, u3_0_l) = some bj_8) (fun (nu3, u3_13, u3_12, u3_0_l) => nu3) (fun (nu3, u3_13, u3_12, u3_0_l) => [(13, .int .i64 u3_13), (12, .int .i64 u3_12), (0, .slice qp0 qn1 qc2), (1, .int .i64 a1), (4, .func (.func 19) #[.slice (some qp3) qn4 qc5] #[])]) (fun (nu3, u3_13, u3_12, u3_0_l) => [tabF Tryd.prog "internal/strconv.uint64pow10" .u64 Lib.pow10Tab 0 pow10_g]) (fun (nu3, u3_13, u3_12, u3_0_l) => [.own 33 2 R_Api_TokenD (.slice qp0 qn1 qc2) u3_0_l, .own 3 1 R_i64 (.slice (some qp3) qn4 qc5) l4]) (N, j_4_13 - 1, j_2_12 + 1, (((l0.set a1.toNat x20).set a3.toNat x24).set j_2_12.toNat x93).set j_4_13.toNat x97) hm [13,12,0,1,4] rfl (asK [0] rfl) rfl (fun s_ hm => ?_))
       obtain ⟨nu3, u3_13, u3_12, u3_0_l⟩ := s_
       try dsimp only at hm ⊢
       obtain ⟨mu3, bu3, hnu3, hq, hLu3⟩ := iter_some hm
       clear hm
       subst hnu3
       replace hm := hq
       clear hq
       unfold m_slices_partitionCmpFunc_Token_v2_L3 at hm
       try dsimp only at hm
       refine wc_block (wc_seq ?_)
       obtain ⟨bj_9, hm, hLj_9⟩ := bindO_some hm
       refine wc_cut (σ := Int) (fun j_9_12 => bj_9 = j_9_12) (fun j_9_12 => [(13, .int .i64 u3_13), (12, .int .i64 j_9_12), (0, .slice qp0 qn1 qc2), (1, .int .i64 a1), (4, .func (.func 19) #[.slice (some qp3) qn4 qc5] #[])]) (fun j_9_12 => [tabF Tryd.prog "internal/strconv.uint64pow10" .u64 Lib.pow10Tab 0 pow10_g]) (fun j_9_12 => [.own 33 2 R_Api_TokenD (.slice qp0 qn1 qc2) u3_0_l, .own 3 1 R_i64 (.slice (some qp3) qn4 qc5) l4]) ?_ ?_
       ·
        refine wc_block (wc_loop (σ := Nat × Int) (fun (nu4, u4_12) => iter (m_slices_partitionCmpFunc_Token_v2_L4 N u3_13 u3_0_l a1 l4) nu4 u4_12 = some bj_9) (fun (nu4, u4_12) => nu4) (fun (nu4, u4_12) => [(13, .int .i64 u3_13), (12, .int .i64 u4_12), (0, .slice qp0 qn1 qc2), (1, .int .i64 a1), (4, .func (.func 19) #[.slice (some qp3) qn4 qc5] #[])]) (fun (nu4, u4_12) => [tabF Tryd.prog "internal/strconv.uint64pow10" .u64 Lib.pow10Tab 0 pow10_g]) (fun (nu4, u4_12) => [.own 33 2 R_Api_TokenD (.slice qp0 qn1 qc2) u3_0_l, .own 3 1 R_i64 (.slice (some qp3) qn4 qc5) l4]) (N, u3_12) hm [13,12,0,1,4] rfl (asK [0] rfl) rfl (fun s_ hm => ?_))
        obtain ⟨nu4, u4_12⟩ := s_
        try dsimp only at hm ⊢
        obtain ⟨mu4, bu4, hnu4, hq, hLu4⟩ := iter_some hm
        clear hm
        subst hnu4
        replace hm := hq
        clear hq
        unfold m_slices_partitionCmpFunc_Token_v2_L4 at hm
        try dsimp only at hm
        refine wc_seq (wc_seq ?_)
        obtain ⟨bj_10, hm, hLj_10⟩ := bindO_some hm
        unfold m_slices_partitionCmpFunc_Token_v2_C10 at hm
        refine wc_cut (σ := Bool) (fun j_10_120 => bj_10 = j_10_120) (fun j_10_120 => [(13, .int .i64 u3_13), (12, .int .i64 u4_12), (0, .slice qp0 qn1 qc2), (1, .int .i64 a1), (4, .func (.func 19) #[.slice (some qp3) qn4 qc5] #[]), (120, .bool j_10_120)]) (fun j_10_120 => [tabF Tryd.prog "internal/strconv.uint64pow10" .u64 Lib.pow10Tab 0 pow10_g]) (fun j_10_120 => [.own 33 2 R_Api_TokenD (.slice qp0 qn1 qc2) u3_0_l, .own 3 1 R_i64 (.slice (some qp3) qn4 qc5) l4]) ?_ ?_
        ·
         rcases ite_some hm with ⟨hs108, hm⟩ | ⟨hs108, hm⟩
         ·
          obtain ⟨hn112, hm⟩ := gd_some hm
          obtain ⟨x112, hx112, hm⟩ := bindO_some hm
          obtain ⟨hn116, hm⟩ := gd_some hm
          obtain ⟨x116, hx116, hm⟩ := bindO_some hm
          obtain ⟨v118, hc118, hm⟩ := bindO_some hm
          refine wc_draw [0,1,2,3,4,5,6,7,9,10,11,14,15] rfl rfl (fun hok => (xP hok 0 rfl (xP hok 1 rfl (xP hok 2 rfl (xP hok 3 rfl (wx_as (d := 108) (v' := .bool true) (S' := [_,_,_,_,_,_,_,_]) rfl rfl (bool_is hs108) (xP hok 4 rfl (xP hok 5 rfl (xP hok 6 rfl (wx_indexH hok 7 0 u4_12.toNat rfl rfl rfl (freshS_eq rfl) rfl rfl rfl rfl rfl (toNat_eq hn112) (get_lt hx112) tE_23 tS_33 (fun g112 eg112 => ?_)))))))))))
          subst eg112
          refine xP hok 9 rfl (xP hok 10 rfl (wx_indexK hok 11 0 a1.toNat rfl rfl rfl (freshS_eq rfl) rfl rfl rfl rfl rfl (toNat_eq hn116) (get_lt hx116) tE_23 tS_33 ?_))
          refine wx_step2 hok 8 12 rfl rfl rfl rfl rfl rfl ?_ ?_
          rotate_left
          focus
           refine wl_loadRow R_Api_TokenD_opens 0 a1.toNat 0 rfl rfl rfl (freshS_eq rfl) rfl rfl rfl hx116 tS_33 tA_33 (v := fun r117 => .agg #[.int .i64 (x116.rule), .slice r117.1 x116.ids.length r117.2]) (fun _ => rfl) (fun _ => rfl) (fun r117 _ => (wl_nil (we_x [1] [] rfl rfl (xS hok 8 rfl (wl_loadRow R_Api_TokenD_opens 0 u4_12.toNat 0 rfl rfl rfl (freshS_eq rfl) rfl rfl rfl hx112 tS_33 tA_33 (v := fun r113 => .agg #[.int .i64 (x112.rule), .slice r113.1 x112.ids.length r113.2]) (fun _ => rfl) (fun _ => rfl) (fun r113 _ => (wl_nil (we_x [1,2] [] rfl rfl (xS hok 13 rfl (wl_callDynF (args := [.slice (some qp3) qn4 qc5, .agg #[.int .i64 (x112.rule), .slice r113.1 x112.ids.length r113.2], .agg #[.int .i64 (x116.rule), .slice r117.1 x116.ids.length r117.2]]) [1] [0] rfl rfl rfl (freshS_eq rfl) rfl rfl rfl fn_19 rfl rfl (w_agenda_order_compare_v2_s N qp3 qn4 qc5 l4 x112.rule r113.1 r113.2 x112.ids x116.rule r117.1 r117.2 x116.ids _ hc118) (asK [0,1,2] rfl) rfl (H' := [_]) rfl ?_))))))))))
          rotate_right
          focus
           refine wl_loadRow R_Api_TokenD_opens 0 u4_12.toNat 0 rfl rfl rfl (freshS_eq rfl) rfl rfl rfl hx112 tS_33 tA_33 (v := fun r113 => .agg #[.int .i64 (x112.rule), .slice r113.1 x112.ids.length r113.2]) (fun _ => rfl) (fun _ => rfl) (fun r113 _ => (wl_nil (we_x [1] [] rfl rfl (xS hok 12 rfl (wl_loadRow R_Api_TokenD_opens 0 a1.toNat 0 rfl rfl rfl (freshS_eq rfl) rfl rfl rfl hx116 tS_33 tA_33 (v := fun r117 => .agg #[.int .i64 (x116.rule), .slice r117.1 x116.ids.length r117.2]) (fun _ => rfl) (fun _ => rfl) (fun r117 _ => (wl_nil (we_x [1,2] [] rfl rfl (xS hok 13 rfl (wl_callDynF (args := [.slice (some qp3) qn4 qc5, .agg #[.int .i64 (x112.rule), .slice r113.1 x112.ids.length r113.2], .agg #[.int .i64 (x116.rule), .slice r117.1 x116.ids.length r117.2]]) [1] [0] rfl rfl rfl (freshS_eq rfl) rfl rfl rfl fn_19 rfl rfl (w_agenda_order_compare_v2_s N qp3 qn4 qc5 l4 x112.rule r113.1 r113.2 x112.ids x116.rule r117.1 r117.2 x116.ids _ hc118) (asK [1,0,2] rfl) rfl (H' := [_]) rfl ?_))))))))))
          all_goals
           rintro _ _ _ ⟨rfl, rfl, rfl⟩
           refine wl_nil (we_x [0,1,2] [] rfl rfl (xP hok 14 rfl (xP hok 15 rfl (wx_done hok rfl ?_))))
           have hE := (Option.some.inj hm).symm
           refine we_pick [1,0] rfl (H' := [_,_]) rfl ?_
           refine we_join (decide (v118 < 0)) hE [13,12,0,1,4,120] rfl (asK [2] rfl) rfl
         ·
          refine wc_draw [0,1,2,3,4,5,6,7,9,10,11,14,15] rfl rfl (fun hok => (xP hok 0 rfl (xP hok 1 rfl (xP hok 2 rfl (xP hok 3 rfl (wx_as (d := 108) (v' := .bool false) (S' := [_,_,_,_,_,_,_,_]) rfl rfl (bool_is hs108) (xO hok 4 rfl (xO hok 5 rfl (xO hok 6 rfl (xO hok 7 rfl (xO hok 9 rfl (xO hok 10 rfl (xO hok 11 rfl ?_)))))))))))))
          refine wx_step2 hok 8 12 rfl rfl rfl rfl rfl rfl ?_ ?_
          rotate_left
          focus
           refine wO rfl (wl_nil (we_x [0] [] rfl rfl (xS hok 8 rfl ?_)))
          rotate_right
          focus
           refine wO rfl (wl_nil (we_x [0] [] rfl rfl (xS hok 12 rfl ?_)))
          all_goals
           refine wO rfl (wl_nil (we_x [0] [] rfl rfl (xS hok 13 rfl (wO rfl (wl_nil (we_x [0] [] rfl rfl (xO hok 14 rfl (xP hok 15 rfl (wx_done hok rfl ?_)))))))))
           have hE := (Option.some.inj hm).symm
           refine we_join false hE [13,12,0,1,4,120] rfl (asK [0] rfl) rfl
        ·
         rintro j_10_120 hE
         try dsimp only
         have hm := hLj_10
         rw [hE] at hm
         refine wc_cond rfl (fun hb120 => ?_) (fun hb120 => ?_)
         ·
          replace hm := iteT hm hb120
          refine wc_keep [13,12,0,1,4] (S' := [_,_,_,_,_]) rfl (wc_skip (we_then (wc_block (wc_region (wP rfl (wP rfl ?_))))))
          obtain ⟨hg122, hm⟩ := gd_some hm
          refine wl_as (d := 122) (v' := .int .i64 (u4_12 + 1)) (S' := [_,_,_,_,_,_]) rfl rfl (i64_in hg122) (wl_pure (S' := [_,_,_,_,_,_]) rfl rfl rfl rfl rfl (wl_nil (we_block_normal ?_)))
          have hE := (Option.some.inj hm).symm
          replace hE := link_inl hLu4 hE
          refine we_roundK (_, u4_12 + 1) (Nat.lt_succ_self _) hE [13,12,0,1,4] rfl (asK [0] rfl) rfl
         ·
          replace hm := iteF hm hb120
          refine wc_keep [13,12,0,1,4] (S' := [_,_,_,_,_]) rfl (wc_exit (we_then_exit (we_then_exit (we_block_hit ?_))))
          have hE := (Option.some.inj hm).symm
          replace hE := link_inr hLu4 hE
          refine we_join u4_12 hE [13,12,0,1,4] rfl (asK [0] rfl) rfl
       ·
        rintro j_9_12 hE
        try dsimp only
        have hm := hLj_9
        rw [hE] at hm
        refine wc_seq ?_
        obtain ⟨bj_11, hm, hLj_11⟩ := bindO_some hm
        refine wc_cut (σ := Int) (fun j_11_13 => bj_11 = j_11_13) (fun j_11_13 => [(13, .int .i64 j_11_13), (12, .int .i64 j_9_12), (0, .slice qp0 qn1 qc2), (1, .int .i64 a1), (4, .func (.func 19) #[.slice (some qp3) qn4 qc5] #[])]) (fun j_11_13 => [tabF Tryd.prog "internal/strconv.uint64pow10" .u64 Lib.pow10Tab 0 pow10_g]) (fun j_11_13 => [.own 33 2 R_Api_TokenD (.slice qp0 qn1 qc2) u3_0_l, .own 3 1 R_i64 (.slice (some qp3) qn4 qc5) l4]) ?_ ?_
        ·
         refine wc_block (wc_loop (σ := Nat × Int) (fun (nu5, u5_13) => iter (m_slices_partitionCmpFunc_Token_v2_L5 N j_9_12 u3_0_l a1 l4) nu5 u5_13 = some bj_11) (fun (nu5, u5_13) => nu5) (fun (nu5, u5_13) => [(13, .int .i64 u5_13), (12, .int .i64 j_9_12), (0, .slice qp0 qn1 qc2), (1, .int .i64 a1), (4, .func (.func 19) #[.slice (some qp3) qn4 qc5] #[])]) (fun (nu5, u5_13) => [tabF Tryd.prog "internal/strconv.uint64pow10" .u64 Lib.pow10Tab 0 pow10_g]) (fun (nu5, u5_13) => [.own 33 2 R_Api_TokenD (.slice qp0 qn1 qc2) u3_0_l, .own 3 1 R_i64 (.slice (some qp3) qn4 qc5) l4]) (N, u3_13) hm [13,12,0,1,4] rfl (asK [0] rfl) rfl (fun s_ hm => ?_))
         obtain ⟨nu5, u5_13⟩ := s_
         try dsimp only at hm ⊢
         obtain ⟨mu5, bu5, hnu5, hq, hLu5⟩ := iter_some hm
         clear hm
         subst hnu5
         replace hm := hq
         clear hq
         unfold m_slices_partitionCmpFunc_Token_v2_L5 at hm
         try dsimp only at hm
         refine wc_seq (wc_seq ?_)
         obtain ⟨bj_12, hm, hLj_12⟩ := bindO_some hm
         unfold m_slices_partitionCmpFunc_Token_v2_C12 at hm
         refine wc_cut (σ := Bool) (fun j_12_139 => bj_12 = j_12_139) (fun j_12_139 => [(13, .int .i64 u5_13), (12, .int .i64 j_9_12), (0, .slice qp0 qn1 qc2), (1, .int .i64 a1), (4, .func (.func 19) #[.slice (some qp3) qn4 qc5] #[]), (139, .bool j_12_139)]) (fun j_12_139 => [tabF Tryd.prog "internal/strconv.uint64pow10" .u64 Lib.pow10Tab 0 pow10_g]) (fun j_12_139 => [.own 33 2 R_Api_TokenD (.slice qp0 qn1 qc2) u3_0_l, .own 3 1 R_i64 (.slice (some qp3) qn4 qc5) l4]) ?_ ?_
         ·
          rcases ite_some hm with ⟨hs126, hm⟩ | ⟨hs126, hm⟩
          ·
           obtain ⟨hn130, hm⟩ := gd_some hm
           obtain ⟨x130, hx130, hm⟩ := bindO_some hm
           obtain ⟨hn134, hm⟩ := gd_some hm
           obtain ⟨x134, hx134, hm⟩ := bindO_some hm
           obtain ⟨v136, hc136, hm⟩ := bindO_some hm
           refine wc_draw [0,1,2,3,4,5,6,7,9,10,11,14,15,16] rfl rfl (fun hok => (xP hok 0 rfl (xP hok 1 rfl (xP hok 2 rfl (xP hok 3 rfl (wx_as (d := 126) (v' := .bool true) (S' := [_,_,_,_,_,_,_,_]) rfl rfl (bool_is hs126) (xP hok 4 rfl (xP hok 5 rfl (xP hok 6 rfl (wx_indexH hok 7 0 u5_13.toNat rfl rfl rfl (freshS_eq rfl) rfl rfl rfl rfl rfl (toNat_eq hn130) (get_lt hx130) tE_23 tS_33 (fun g130 eg130 => ?_)))))))))))
           subst eg130
           refine xP hok 9 rfl (xP hok 10 rfl (wx_indexK hok 11 0 a1.toNat rfl rfl rfl (freshS_eq rfl) rfl rfl rfl rfl rfl (toNat_eq hn134) (get_lt hx134) tE_23 tS_33 ?_))
           refine wx_step2 hok 8 12 rfl rfl rfl rfl rfl rfl ?_ ?_
           rotate_left
           focus
            refine wl_loadRow R_Api_TokenD_opens 0 a1.toNat 0 rfl rfl rfl (freshS_eq rfl) rfl rfl rfl hx134 tS_33 tA_33 (v := fun r135 => .agg #[.int .i64 (x134.rule), .slice r135.1 x134.ids.length r135.2]) (fun _ => rfl) (fun _ => rfl) (fun r135 _ => (wl_nil (we_x [1] [] rfl rfl (xS hok 8 rfl (wl_loadRow R_Api_TokenD_opens 0 u5_13.toNat 0 rfl rfl rfl (freshS_eq rfl) rfl rfl rfl hx130 tS_33 tA_33 (v := fun r131 => .agg #[.int .i64 (x130.rule), .slice r131.1 x130.ids.length r131.2]) (fun _ => rfl) (fun _ => rfl) (fun r131 _ => (wl_nil (we_x [1,2] [] rfl rfl (xS hok 13 rfl (wl_callDynF (args := [.slice (some qp3) qn4 qc5, .agg #[.int .i64 (x130.rule), .slice r131.1 x130.ids.length r131.2], .agg #[.int .i64 (x134.rule), .slice r135.1 x134.ids.length r135.2]]) [1] [0] rfl rfl rfl (freshS_eq rfl) rfl rfl rfl fn_19 rfl rfl (w_agenda_order_compare_v2_s N qp3 qn4 qc5 l4 x130.rule r131.1 r131.2 x130.ids x134.rule r135.1 r135.2 x134.ids _ hc136) (asK [0,1,2] rfl) rfl (H' := [_]) rfl ?_))))))))))
           rotate_right
           focus
            refine wl_loadRow R_Api_TokenD_opens 0 u5_13.toNat 0 rfl rfl rfl (freshS_eq rfl) rfl rfl rfl hx130 tS_33 tA_33 (v := fun r131 => .agg #[.int .i64 (x130.rule), .slice r131.1 x130.ids.length r131.2]) (fun _ => rfl) (fun _ => rfl) (fun r131 _ => (wl_nil (we_x [1] [] rfl rfl (xS hok 12 rfl (wl_loadRow R_Api_TokenD_opens 0 a1.toNat 0 rfl rfl rfl (freshS_eq rfl) rfl rfl rfl hx134 tS_33 tA_33 (v := fun r135 => .agg #[.int .i64 (x134.rule), .slice r135.1 x134.ids.length r135.2]) (fun _ => rfl) (fun _ => rfl) (fun r135 _ => (wl_nil (we_x [1,2] [] rfl rfl (xS hok 13 rfl (wl_callDynF (args := [.slice (some qp3) qn4 qc5, .agg #[.int .i64 (x130.rule), .slice r131.1 x130.ids.length r131.2], .agg #[.int .i64 (x134.rule), .slice r135.1 x134.ids.length r135.2]]) [1] [0] rfl rfl rfl (freshS_eq rfl) rfl rfl rfl fn_19 rfl rfl (w_agenda_order_compare_v2_s N qp3 qn4 qc5 l4 x130.rule r131.1 r131.2 x130.ids x134.rule r135.1 r135.2 x134.ids _ hc136) (asK [1,0,2] rfl) rfl (H' := [_]) rfl ?_))))))))))
           all_goals
            rintro _ _ _ ⟨rfl, rfl, rfl⟩
            refine wl_nil (we_x [0,1,2] [] rfl rfl (xP hok 14 rfl (xP hok 15 rfl (xP hok 16 rfl (wx_done hok rfl ?_)))))
            have hE := (Option.some.inj hm).symm
            refine we_pick [1,0] rfl (H' := [_,_]) rfl ?_
            refine we_join (!(decide (v136 < 0))) hE [13,12,0,1,4,139] rfl (asK [2] rfl) rfl
          ·
           refine wc_draw [0,1,2,3,4,5,6,7,9,10,11,14,15,16] rfl rfl (fun hok => (xP hok 0 rfl (xP hok 1 rfl (xP hok 2 rfl (xP hok 3 rfl (wx_as (d := 126) (v' := .bool false) (S' := [_,_,_,_,_,_,_,_]) rfl rfl (bool_is hs126) (xO hok 4 rfl (xO hok 5 rfl (xO hok 6 rfl (xO hok 7 rfl (xO hok 9 rfl (xO hok 10 rfl (xO hok 11 rfl ?_)))))))))))))
           refine wx_step2 hok 8 12 rfl rfl rfl rfl rfl rfl ?_ ?_
           rotate_left
           focus
            refine wO rfl (wl_nil (we_x [0] [] rfl rfl (xS hok 8 rfl ?_)))
           rotate_right
           focus
            refine wO rfl (wl_nil (we_x [0] [] rfl rfl (xS hok 12 rfl ?_)))
           all_goals
            refine wO rfl (wl_nil (we_x [0] [] rfl rfl (xS hok 13 rfl (wO rfl (wl_nil (we_x [0] [] rfl rfl (xO hok 14 rfl (xO hok 15 rfl (xP hok 16 rfl (wx_done hok rfl ?_))))))))))
            have hE := (Option.some.inj hm).symm
            refine we_join false hE [13,12,0,1,4,139] rfl (asK [0] rfl) rfl
         ·
          rintro j_12_139 hE
          try dsimp only
          have hm := hLj_12
          rw [hE] at hm
          refine wc_cond rfl (fun hb139 => ?_) (fun hb139 => ?_)
          ·
           replace hm := iteT hm hb139
           refine wc_keep [13,12,0,1,4] (S' := [_,_,_,_,_]) rfl (wc_skip (we_then (wc_block (wc_region (wP rfl (wP rfl ?_))))))
           obtain ⟨hg141, hm⟩ := gd_some hm
           refine wl_as (d := 141) (v' := .int .i64 (u5_13 - 1)) (S' := [_,_,_,_,_,_]) rfl rfl (i64_in hg141) (wl_pure (S' := [_,_,_,_,_,_]) rfl rfl rfl rfl rfl (wl_nil (we_block_normal ?_)))
           have hE := (Option.some.inj hm).symm
           replace hE := link_inl hLu5 hE
           refine we_roundK (_, u5_13 - 1) (Nat.lt_succ_self _) hE [13,12,0,1,4] rfl (asK [0] rfl) rfl
          ·
           replace hm := iteF hm hb139
           refine wc_keep [13,12,0,1,4] (S' := [_,_,_,_,_]) rfl (wc_exit (we_then_exit (we_then_exit (we_block_hit ?_))))
           have hE := (Option.some.inj hm).symm
           replace hE := link_inr hLu5 hE
           refine we_join u5_13 hE [13,12,0,1,4] rfl (asK [0] rfl) rfl
        ·
         rintro j_11_13 hE
         try dsimp only
         have hm := hLj_11
         rw [hE] at hm
         refine wc_seq (wc_seq (wc_region (wP rfl (wP rfl (wP rfl (wl_nil (we_then (wc_keep [144,13,12,0,1,4] (S' := [_,_,_,_,_,_]) rfl ?_))))))))
         refine wc_cond rfl (fun hb144 => ?_) (fun hb144 => ?_)
         ·
          replace hm := iteT hm hb144
          refine wc_keep [13,0,1] (S' := [_,_,_]) rfl (wc_exit (we_then_exit (we_block_miss (by decide) (we_then_exit (we_block_hit ?_)))))
          have hE := (Option.some.inj hm).symm
          replace hE := link_inr hLu3 hE
          refine we_join (j_11_13, u3_0_l) hE [13,0,1] rfl (asK [0] rfl) rfl
         ·
          replace hm := iteF hm hb144
          refine wc_keep [13,12,0,1,4] (S' := [_,_,_,_,_]) rfl (wc_skip (we_then (wc_seq ?_)))
          obtain ⟨hn151, hm⟩ := gd_some hm
          obtain ⟨x151, hx151, hm⟩ := bindO_some hm
          obtain ⟨hn155, hm⟩ := gd_some hm
          obtain ⟨x155, hx155, hm⟩ := bindO_some hm
          obtain ⟨hn157, hm⟩ := gd_some hm
          obtain ⟨x157, hx157, hm⟩ := bindO_some hm
          obtain ⟨hn158, hm⟩ := gd_some hm
          obtain ⟨x158, hx158, hm⟩ := bindO_some hm
          refine wc_cut (σ := Unit) (fun _ => True) (fun _ => [(13, .int .i64 j_11_13), (12, .int .i64 j_9_12), (0, .slice qp0 qn1 qc2), (1, .int .i64 a1), (4, .func (.func 19) #[.slice (some qp3) qn4 qc5] #[])]) (fun _ => [tabF Tryd.prog "internal/strconv.uint64pow10" .u64 Lib.pow10Tab 0 pow10_g]) (fun _ => [.own 33 2 R_Api_TokenD (.slice qp0 qn1 qc2) ((u3_0_l.set j_9_12.toNat x151).set j_11_13.toNat x155), .own 3 1 R_i64 (.slice (some qp3) qn4 qc5) l4]) ?_ ?_
          ·
           refine wc_draw [0,1,2,3,4,5,6,8,9,10,12,14] rfl rfl (fun hok => (xP hok 0 rfl (xP hok 1 rfl (xP hok 2 rfl (xP hok 3 rfl (xP hok 4 rfl (xP hok 5 rfl (wx_indexH hok 6 0 j_11_13.toNat rfl rfl rfl (freshS_eq rfl) rfl rfl rfl rfl rfl (toNat_eq hn151) (get_lt hx151) tE_23 tS_33 (fun g151 eg151 => ?_)))))))))
           subst eg151
           refine xP hok 8 rfl (xP hok 9 rfl (wx_indexK hok 10 0 j_9_12.toNat rfl rfl rfl (freshS_eq rfl) rfl rfl rfl rfl rfl (toNat_eq hn155) (get_lt hx155) tE_23 tS_33 ?_))
           refine wx_step2 hok 7 11 rfl rfl rfl rfl rfl rfl ?_ ?_
           ·
            refine wl_loadRow R_Api_TokenD_opens 0 j_11_13.toNat 0 rfl rfl rfl (freshS_eq rfl) rfl rfl rfl hx151 tS_33 tA_33 (v := fun r152 => .agg #[.int .i64 (x151.rule), .slice r152.1 x151.ids.length r152.2]) (fun _ => rfl) (fun _ => rfl) (fun r152 _ => (wl_nil (we_x [1] [] rfl rfl (xS hok 11 rfl (wl_loadRow R_Api_TokenD_opens 0 j_9_12.toNat 0 rfl rfl rfl (freshS_eq rfl) rfl rfl rfl hx155 tS_33 tA_33 (v := fun r156 => .agg #[.int .i64 (x155.rule), .slice r156.1 x155.ids.length r156.2]) (fun _ => rfl) (fun _ => rfl) (fun r156 _ => (wl_nil (we_x [1,2] [] rfl rfl (wx_indexK hok 12 0 j_9_12.toNat rfl rfl rfl (freshS_eq rfl) rfl rfl rfl rfl rfl (toNat_eq hn157) (get_lt hx157) tE_23 tS_33 (xS hok 13 rfl (wl_storeRow (u := x151) 0 j_9_12.toNat rfl rfl rfl rfl rfl (get_lt hx157) rfl rfl tS_33 rfl (fun F w hφ => ⟨(r152.1, r152.2), rfl, (ask_cons (hφ _ (mem_at (k := 1) rfl)) ask_nil)⟩) (H' := [_,_]) rfl (wl_nil (we_x [0,1,2] [] rfl rfl (wx_indexK hok 14 0 j_11_13.toNat rfl rfl rfl (freshS_eq rfl) rfl rfl rfl rfl rfl (toNat_eq hn158) (get_lt hx158) tE_23 tS_33 (xS hok 15 rfl ?_)))))))))))))))
            refine wl_storeRow (u := x155) 0 j_11_13.toNat rfl rfl rfl rfl rfl (get_lt hx158) rfl rfl tS_33 rfl (fun F w hφ => ⟨(r156.1, r156.2), rfl, (ask_cons (hφ _ (mem_at (k := 0) rfl)) ask_nil)⟩) (H' := [_,_]) rfl (wl_nil (we_x [0,1,2] [] rfl rfl (wx_done hok rfl ?_)))
            refine we_join () trivial [13,12,0,1,4] rfl (asK [2] rfl) rfl
           ·
            refine wl_loadRow R_Api_TokenD_opens 0 j_9_12.toNat 0 rfl rfl rfl (freshS_eq rfl) rfl rfl rfl hx155 tS_33 tA_33 (v := fun r156 => .agg #[.int .i64 (x155.rule), .slice r156.1 x155.ids.length r156.2]) (fun _ => rfl) (fun _ => rfl) (fun r156 _ => (wl_nil (we_x [1] [] rfl rfl (xS hok 7 rfl (wl_loadRow R_Api_TokenD_opens 0 j_11_13.toNat 0 rfl rfl rfl (freshS_eq rfl) rfl rfl rfl hx151 tS_33 tA_33 (v := fun r152 => .agg #[.int .i64 (x151.rule), .slice r152.1 x151.ids.length r152.2]) (fun _ => rfl) (fun _ => rfl) (fun r152 _ => (wl_nil (we_x [1,2] [] rfl rfl (wx_indexK hok 12 0 j_9_12.toNat rfl rfl rfl (freshS_eq rfl) rfl rfl rfl rfl rfl (toNat_eq hn157) (get_lt hx157) tE_23 tS_33 (xS hok 13 rfl (wl_storeRow (u := x151) 0 j_9_12.toNat rfl rfl rfl rfl rfl (get_lt hx157) rfl rfl tS_33 rfl (fun F w hφ => ⟨(r152.1, r152.2), rfl, (ask_cons (hφ _ (mem_at (k := 0) rfl)) ask_nil)⟩) (H' := [_,_]) rfl (wl_nil (we_x [0,1,2] [] rfl rfl (wx_indexK hok 14 0 j_11_13.toNat rfl rfl rfl (freshS_eq rfl) rfl rfl rfl rfl rfl (toNat_eq hn158) (get_lt hx158) tE_23 tS_33 (xS hok 15 rfl ?_)))))))))))))))
            refine wl_storeRow (u := x155) 0 j_11_13.toNat rfl rfl rfl rfl rfl (get_lt hx158) rfl rfl tS_33 rfl (fun F w hφ => ⟨(r156.1, r156.2), rfl, (ask_cons (hφ _ (mem_at (k := 1) rfl)) ask_nil)⟩) (H' := [_,_]) rfl (wl_nil (we_x [0,1,2] [] rfl rfl (wx_done hok rfl ?_)))
            refine we_join () trivial [13,12,0,1,4] rfl (asK [2] rfl) rfl
          ·
           rintro _ _
           try dsimp only
           refine wc_seq (wc_region (wP rfl (wP rfl ?_)))
           obtain ⟨hg160, hm⟩ := gd_some hm
           refine wl_as (d := 160) (v' := .int .i64 (j_9_12 + 1)) (S' := [_,_,_,_,_,_]) rfl rfl (i64_in hg160) (wl_pure (S' := [_,_,_,_,_,_]) rfl rfl rfl rfl rfl (wl_nil (we_then (wc_keep [12,13,0,1,4] (S' := [_,_,_,_,_]) rfl (wc_region (wP rfl (wP rfl ?_)))))))
           obtain ⟨hg162, hm⟩ := gd_some hm
           refine wl_as (d := 162) (v' := .int .i64 (j_11_13 - 1)) (S' := [_,_,_,_,_,_]) rfl rfl (i64_in hg162) (wl_pure (S' := [_,_,_,_,_,_]) rfl rfl rfl rfl rfl (wl_nil (we_block_normal ?_)))
           have hE := (Option.some.inj hm).symm
           replace hE := link_inl hLu3 hE
           refine we_roundK (_, j_11_13 - 1, j_9_12 + 1, (u3_0_l.set j_9_12.toNat x151).set j_11_13.toNat x155) (Nat.lt_succ_self _) hE [13,12,0,1,4] rfl (asK [0] rfl) rfl
      ·
       rintro ⟨j_8_13, j_8_0_l⟩ hE
       try dsimp only
       have hm := hLj_8
       rw [hE] at hm
       try dsimp only at hm
       refine wc_seq ?_
       obtain ⟨hn169, hm⟩ := gd_some hm
       obtain ⟨x169, hx169, hm⟩ := bindO_some hm
       obtain ⟨hn173, hm⟩ := gd_some hm
       obtain ⟨x173, hx173, hm⟩ := bindO_some hm
       obtain ⟨hn175, hm⟩ := gd_some hm
       obtain ⟨x175, hx175, hm⟩ := bindO_some hm
       obtain ⟨hn176, hm⟩ := gd_some hm
       obtain ⟨x176, hx176, hm⟩ := bindO_some hm
       refine wc_cut (σ := Unit) (fun _ => True) (fun _ => [(13, .int .i64 j_8_13)]) (fun _ => [tabF Tryd.prog "internal/strconv.uint64pow10" .u64 Lib.pow10Tab 0 pow10_g]) (fun _ => [.own 33 2 R_Api_TokenD (.slice qp0 qn1 qc2) ((j_8_0_l.set j_8_13.toNat x169).set a1.toNat x173), .own 3 1 R_i64 (.slice (some qp3) qn4 qc5) l4]) ?_ ?_
       ·
        refine wc_draw [0,1,2,3,4,5,6,8,9,10,12,14] rfl rfl (fun hok => (xP hok 0 rfl (xP hok 1 rfl (xP hok 2 rfl (xP hok 3 rfl (xP hok 4 rfl (xP hok 5 rfl (wx_indexH hok 6 0 a1.toNat rfl rfl rfl (freshS_eq rfl) rfl rfl rfl rfl rfl (toNat_eq hn169) (get_lt hx169) tE_23 tS_33 (fun g169 eg169 => ?_)))))))))
        subst eg169
        refine xP hok 8 rfl (xP hok 9 rfl (wx_indexK hok 10 0 j_8_13.toNat rfl rfl rfl (freshS_eq rfl) rfl rfl rfl rfl rfl (toNat_eq hn173) (get_lt hx173) tE_23 tS_33 ?_))
        refine wx_step2 hok 7 11 rfl rfl rfl rfl rfl rfl ?_ ?_
        ·
         refine wl_loadRow R_Api_TokenD_opens 0 a1.toNat 0 rfl rfl rfl (freshS_eq rfl) rfl rfl rfl hx169 tS_33 tA_33 (v := fun r170 => .agg #[.int .i64 (x169.rule), .slice r170.1 x169.ids.length r170.2]) (fun _ => rfl) (fun _ => rfl) (fun r170 _ => (wl_nil (we_x [1] [] rfl rfl (xS hok 11 rfl (wl_loadRow R_Api_TokenD_opens 0 j_8_13.toNat 0 rfl rfl rfl (freshS_eq rfl) rfl rfl rfl hx173 tS_33 tA_33 (v := fun r174 => .agg #[.int .i64 (x173.rule), .slice r174.1 x173.ids.length r174.2]) (fun _ => rfl) (fun _ => rfl) (fun r174 _ => (wl_nil (we_x [1,2] [] rfl rfl (wx_indexK hok 12 0 j_8_13.toNat rfl rfl rfl (freshS_eq rfl) rfl rfl rfl rfl rfl (toNat_eq hn175) (get_lt hx175) tE_23 tS_33 (xS hok 13 rfl (wl_storeRow (u := x169) 0 j_8_13.toNat rfl rfl rfl rfl rfl (get_lt hx175) rfl rfl tS_33 rfl (fun F w hφ => ⟨(r170.1, r170.2), rfl, (ask_cons (hφ _ (mem_at (k := 1) rfl)) ask_nil)⟩) (H' := [_,_]) rfl (wl_nil (we_x [0,1,2] [] rfl rfl (wx_indexK hok 14 0 a1.toNat rfl rfl rfl (freshS_eq rfl) rfl rfl rfl rfl rfl (toNat_eq hn176) (get_lt hx176) tE_23 tS_33 (xS hok 15 rfl ?_)))))))))))))))
         refine wl_storeRow (u := x173) 0 a1.toNat rfl rfl rfl rfl rfl (get_lt hx176) rfl rfl tS_33 rfl (fun F w hφ => ⟨(r174.1, r174.2), rfl, (ask_cons (hφ _ (mem_at (k := 0) rfl)) ask_nil)⟩) (H' := [_,_]) rfl (wl_nil (we_x [0,1,2] [] rfl rfl (wx_done hok rfl ?_)))
         refine we_join () trivial [13] rfl (asK [2] rfl) rfl
        ·
         refine wl_loadRow R_Api_TokenD_opens 0 j_8_13.toNat 0 rfl rfl rfl (freshS_eq rfl) rfl rfl rfl hx173 tS_33 tA_33 (v := fun r174 => .agg #[.int .i64 (x173.rule), .slice r174.1 x173.ids.length r174.2]) (fun _ => rfl) (fun _ => rfl) (fun r174 _ => (wl_nil (we_x [1] [] rfl rfl (xS hok 7 rfl (wl_loadRow R_Api_TokenD_opens 0 a1.toNat 0 rfl rfl rfl (freshS_eq rfl) rfl rfl rfl hx169 tS_33 tA_33 (v := fun r170 => .agg #[.int .i64 (x169.rule), .slice r170.1 x169.ids.length r170.2]) (fun _ => rfl) (fun _ => rfl) (fun r170 _ => (wl_nil (we_x [1,2] [] rfl rfl (wx_indexK hok 12 0 j_8_13.toNat rfl rfl rfl (freshS_eq rfl) rfl rfl rfl rfl rfl (toNat_eq hn175) (get_lt hx175) tE_23 tS_33 (xS hok 13 rfl (wl_storeRow (u := x169) 0 j_8_13.toNat rfl rfl rfl rfl rfl (get_lt hx175) rfl rfl tS_33 rfl (fun F w hφ => ⟨(r170.1, r170.2), rfl, (ask_cons (hφ _ (mem_at (k := 0) rfl)) ask_nil)⟩) (H' := [_,_]) rfl (wl_nil (we_x [0,1,2] [] rfl rfl (wx_indexK hok 14 0 a1.toNat rfl rfl rfl (freshS_eq rfl) rfl rfl rfl rfl rfl (toNat_eq hn176) (get_lt hx176) tE_23 tS_33 (xS hok 15 rfl ?_)))))))))))))))
         refine wl_storeRow (u := x173) 0 a1.toNat rfl rfl rfl rfl rfl (get_lt hx176) rfl rfl tS_33 rfl (fun F w hφ => ⟨(r174.1, r174.2), rfl, (ask_cons (hφ _ (mem_at (k := 1) rfl)) ask_nil)⟩) (H' := [_,_]) rfl (wl_nil (we_x [0,1,2] [] rfl rfl (wx_done hok rfl ?_)))
         refine we_join () trivial [13] rfl (asK [2] rfl) rfl
       ·
        rintro _ _
        try dsimp only
        refine wc_seq (wc_region (wP rfl (wP rfl (wP rfl (wl_nil (we_then (wc_keep [11,10] (S' := [_,_]) rfl (wc_ret ?_))))))))
        have hE := (Option.some.inj hm).symm
        obtain ⟨hE0, hF1⟩ := Prod.mk.inj hE
        obtain ⟨hE1, hE2⟩ := Prod.mk.inj hF1
        clear hE hF1
        replace hE0 := hE0.symm
        subst hE0
        replace hE1 := hE1.symm
        subst hE1
        replace hE2 := hE2.symm
        subst hE2
        refine ret_two (Hr := [_,_]) [0,1] Tryd.results47 (res_tmp rfl) (res_tmp rfl) ⟨rfl, rfl, rfl⟩ (asK [] rfl) rfl rfl (.inl rfl)
theorem w_slices_nextPowerOfTwo_s (N : Nat) (a0 : Int) (o0 : Int) (hm : m_slices_nextPowerOfTwo N a0 = some o0) : Spec Tryd.prog 53 [.int .i64 a0] [tabF Tryd.prog "internal/strconv.uint64pow10" .u64 Lib.pow10Tab 0 pow10_g] [] (fun v Φr Hr => v = .int .u64 o0 ∧ Φr = [] ∧ Hr = []) := by
 unfold m_slices_nextPowerOfTwo at hm
 refine spec_of Tryd.func53 rfl Tryd.ntmps53 rfl (S := [_]) rfl (fun C => (wc_seq (wc_region (wP rfl (wl_nil (we_then (wc_keep [0] (S' := [_]) rfl (wc_seq (wc_region (wP rfl (wl_reck rfl rfl rfl (freshS_eq rfl) (rk_conv rfl rfl tI_3 tI_72) ?_)))))))))))
 obtain ⟨v5, hc5, hm⟩ := bindO_some hm
 refine wC [] [] rfl fn_35 rfl (w_bits_Len_s N (IntKind.wrap .u64 a0) _ hc5) (asK [0] rfl) rfl (H' := []) rfl ?_
 rintro _ _ _ ⟨rfl, rfl, rfl⟩
 obtain ⟨hg6, hm⟩ := gd_some hm
 refine wl_bin rfl rfl rfl (freshS_eq rfl) rfl rfl rfl (run_shl hg6) (wP rfl (wl_nil (we_then (wc_keep [2] (S' := [_]) rfl (wc_ret ?_)))))
 have hE := (Option.some.inj hm).symm
 replace hE := hE.symm
 subst hE
 refine ret_one (Hr := []) [] Tryd.results53 (res_tmp rfl) ⟨rfl, rfl, rfl⟩ (asK [] rfl) rfl rfl (.inl rfl)
theorem w_slices_xorshift_Next_s (N : Nat) (qg0 : Nat) (a0 : Int)  (hm : m_slices_xorshift_Next N a0 = some ()) : Spec Tryd.prog 54 [.pointer (some ⟨qg0,0, none⟩)] [tabF Tryd.prog "internal/strconv.uint64pow10" .u64 Lib.pow10Tab 0 pow10_g] [.blk qg0 [.int .u64 a0] 89] (fun v Φr Hr => v = .int .u64 (bitsI .xor .u64 (bitsI .xor .u64 (bitsI .xor .u64 a0 (IntKind.wrap .u64 (a0 * 2 ^ (13)))) (Int.fdiv (bitsI .xor .u64 a0 (IntKind.wrap .u64 (a0 * 2 ^ (13)))) (2 ^ (7)))) (IntKind.wrap .u64 ((bitsI .xor .u64 (bitsI .xor .u64 a0 (IntKind.wrap .u64 (a0 * 2 ^ (13)))) (Int.fdiv (bitsI .xor .u64 a0 (IntKind.wrap .u64 (a0 * 2 ^ (13)))) (2 ^ (7)))) * 2 ^ (17)))) ∧ Φr = [] ∧ Hr = [.blk qg0 [.int .u64 (bitsI .xor .u64 (bitsI .xor .u64 (bitsI .xor .u64 a0 (IntKind.wrap .u64 (a0 * 2 ^ (13)))) (Int.fdiv (bitsI .xor .u64 a0 (IntKind.wrap .u64 (a0 * 2 ^ (13)))) (2 ^ (7)))) (IntKind.wrap .u64 ((bitsI .xor .u64 (bitsI .xor .u64 a0 (IntKind.wrap .u64 (a0 * 2 ^ (13)))) (Int.fdiv (bitsI .xor .u64 a0 (IntKind.wrap .u64 (a0 * 2 ^ (13)))) (2 ^ (7)))) * 2 ^ (17))))] 89]) := by
 unfold m_slices_xorshift_Next at hm
 refine spec_of Tryd.func54 rfl Tryd.ntmps54 rfl (S := [_]) rfl (fun C => (wc_seq (wc_region (wP rfl (wl_nil (we_then (wc_keep [0] (S' := [_]) rfl (wc_seq (wc_draw [0,1,2,3,4,5,6,7,8] rfl rfl (fun hok => (xP hok 0 rfl (xP hok 1 rfl (wx_loadH hok 2 0 0 rfl rfl rfl (freshS_eq rfl) rfl rfl rfl rfl (cs := [_]) rfl tS_89 tA_89 rfl rfl (xP hok 3 rfl (xP hok 4 rfl ?_)))))))))))))))
 refine wx_loadH hok 5 0 0 rfl rfl rfl (freshS_eq rfl) rfl rfl rfl rfl (cs := [_]) rfl tS_89 tA_89 rfl rfl (wx_bin hok 6 rfl rfl rfl (freshS_eq rfl) rfl rfl rfl rfl (run_shl (by decide)) (wx_bin hok 7 rfl rfl rfl (freshS_eq rfl) rfl rfl rfl rfl run_xor (xP hok 8 rfl (xS hok 9 rfl (wS 0 0 rfl tS_89 (all' := [_]) rfl (H' := [_]) rfl (wl_nil (we_x [0] [] rfl rfl (wx_done hok rfl (we_then (wc_keep [0] (S' := [_]) rfl (wc_seq (wc_draw [0,1,2,3,4,5,6,7,8] rfl rfl (fun hok => (xP hok 0 rfl ?_))))))))))))))
 refine xP hok 1 rfl (wx_loadH hok 2 0 0 rfl rfl rfl (freshS_eq rfl) rfl rfl rfl rfl (cs := [_]) rfl tS_89 tA_89 rfl rfl (xP hok 3 rfl (xP hok 4 rfl (wx_loadH hok 5 0 0 rfl rfl rfl (freshS_eq rfl) rfl rfl rfl rfl (cs := [_]) rfl tS_89 tA_89 rfl rfl (wx_bin hok 6 rfl rfl rfl (freshS_eq rfl) rfl rfl rfl rfl (run_shr (by decide)) (wx_bin hok 7 rfl rfl rfl (freshS_eq rfl) rfl rfl rfl rfl run_xor (xP hok 8 rfl (xS hok 9 rfl (wS 0 0 rfl tS_89 (all' := [_]) rfl (H' := [_]) rfl (wl_nil (we_x [0] [] rfl rfl (wx_done hok rfl (we_then ?_)))))))))))))
 refine wc_keep [0] (S' := [_]) rfl (wc_seq (wc_draw [0,1,2,3,4,5,6,7,8] rfl rfl (fun hok => (xP hok 0 rfl (xP hok 1 rfl (wx_loadH hok 2 0 0 rfl rfl rfl (freshS_eq rfl) rfl rfl rfl rfl (cs := [_]) rfl tS_89 tA_89 rfl rfl (xP hok 3 rfl (xP hok 4 rfl (wx_loadH hok 5 0 0 rfl rfl rfl (freshS_eq rfl) rfl rfl rfl rfl (cs := [_]) rfl tS_89 tA_89 rfl rfl (wx_bin hok 6 rfl rfl rfl (freshS_eq rfl) rfl rfl rfl rfl (run_shl (by decide)) (wx_bin hok 7 rfl rfl rfl (freshS_eq rfl) rfl rfl rfl rfl run_xor (xP hok 8 rfl (xS hok 9 rfl (wS 0 0 rfl tS_89 (all' := [_]) rfl (H' := [_]) rfl ?_))))))))))))))
 refine wl_nil (we_x [0] [] rfl rfl (wx_done hok rfl (we_then (wc_keep [0] (S' := [_]) rfl (wc_seq (wc_region (wP rfl (wP rfl (wD 0 0 rfl tS_89 tA_89 rfl (wP rfl (wl_nil (we_then (wc_keep [2] (S' := [_]) rfl ?_)))))))))))))
 refine wc_ret ?_
 have hE := (Option.some.inj hm).symm
 refine ret_one (Hr := [_]) [0] Tryd.results54 (res_tmp rfl) ⟨rfl, rfl, rfl⟩ (asK [] rfl) rfl rfl (.inl rfl)
theorem w_slices_breakPatternsCmpFunc_Token_v2_s (N : Nat) (qp0 : Option Addr) (qn1 : Nat) (qc2 : Nat) (l0 : List Api_TokenD) (a1 : Int) (a2 : Int) (qp3 : Addr) (qn4 : Nat) (qc5 : Nat) (l3 : List Int) (o0 : List Api_TokenD) (hm : m_slices_breakPatternsCmpFunc_Token_v2 N l0 a1 a2 l3 = some o0) : Spec Tryd.prog 42 [.slice qp0 qn1 qc2, .int .i64 a1, .int .i64 a2, .func (.func 19) #[.slice (some qp3) qn4 qc5] #[]] [tabF Tryd.prog "internal/strconv.uint64pow10" .u64 Lib.pow10Tab 0 pow10_g] [.own 33 2 R_Api_TokenD (.slice qp0 qn1 qc2) l0, .own 3 1 R_i64 (.slice (some qp3) qn4 qc5) l3] (fun v Φr Hr => v = .tuple #[] ∧ Φr = [] ∧ Hr = [.own 33 2 R_Api_TokenD (.slice qp0 qn1 qc2) o0, .own 3 1 R_i64 (.slice (some qp3) qn4 qc5) l3]) := by
 unfold m_slices_breakPatternsCmpFunc_Token_v2 at hm
 refine spec_of Tryd.func42 rfl Tryd.ntmps42 rfl (S := [_,_,_,_]) rfl (fun C => (wc_seq (wc_region (wP rfl (wP rfl (wP rfl ?_))))))
 obtain ⟨hg15, hm⟩ := gd_some hm
 refine wl_as (d := 15) (v' := .int .i64 (a2 - a1)) (S' := [_,_,_,_,_,_]) rfl rfl (i64_in hg15) (wP rfl (wl_nil (we_then (wc_keep [8,0,1] (S' := [_,_,_]) rfl (wc_seq (wc_region (wP rfl (wP rfl (wl_nil (we_then (wc_keep [17,8,0,1] (S' := [_,_,_,_]) rfl ?_)))))))))))
 refine wc_cond rfl (fun hb17 => ?_) (fun hb17 => ?_)
 ·
  replace hm := iteT hm hb17
  refine wc_keep [8,0,1] (S' := [_,_,_]) rfl (wc_seq (wc_region (wP rfl (wl_reck rfl rfl rfl (freshS_eq rfl) (rk_conv rfl rfl tI_3 tI_89) (wl_alloc rfl rfl rfl (freshS_eq rfl) rfl tZ_89 rfl (fun g9 => (wS 0 0 rfl tS_89 (all' := [_]) rfl (H' := [_,_,_]) rfl (wl_nil (we_then (wc_keep [9,8,0,1] (S' := [_,_,_,_]) rfl (wc_seq (wc_region (wP rfl ?_)))))))))))))
  obtain ⟨v21, hc21, hm⟩ := bindO_some hm
  refine wC [] [0,1,2] rfl fn_53 rfl (w_slices_nextPowerOfTwo_s N (a2 - a1) _ hc21) (asK [0] rfl) rfl (H' := [_,_,_]) rfl ?_
  rintro _ _ _ ⟨rfl, rfl, rfl⟩
  refine wP rfl (wl_nil (we_then (wc_keep [10,9,8,0,1] (S' := [_,_,_,_,_]) rfl (wc_seq (wc_region (wP rfl (wP rfl (wl_bin rfl rfl rfl (freshS_eq rfl) rfl rfl rfl (run_quo (by decide)) (wP rfl ?_)))))))))
  obtain ⟨hg25, hm⟩ := gd_some hm
  refine wl_as (d := 25) (v' := .int .i64 ((IntKind.wrap .i64 (Int.tdiv (a2 - a1) 4)) * 2)) (S' := [_,_,_,_,_,_,_,_]) rfl rfl (i64_in hg25) (wP rfl ?_)
  obtain ⟨hg26, hm⟩ := gd_some hm
  refine wl_as (d := 26) (v' := .int .i64 (a1 + ((IntKind.wrap .i64 (Int.tdiv (a2 - a1) 4)) * 2))) (S' := [_,_,_,_,_,_,_,_,_]) rfl rfl (i64_in hg26) (wP rfl ?_)
  obtain ⟨hg27, hm⟩ := gd_some hm
  refine wl_as (d := 27) (v' := .int .i64 ((a1 + ((IntKind.wrap .i64 (Int.tdiv (a2 - a1) 4)) * 2)) - 1)) (S' := [_,_,_,_,_,_,_,_,_,_]) rfl rfl (i64_in hg27) (wP rfl (wl_nil (we_then (wc_keep [11,10,9,8,0,1] (S' := [_,_,_,_,_,_]) rfl (wc_block (wc_loop (σ := Nat × Int × Int × (List Api_TokenD)) (fun (nu1, u1_11, u1_9_f0, u1_0_l) => iter (m_slices_breakPatternsCmpFunc_Token_v2_L1 N a2 a1 v21) nu1 (u1_11, u1_9_f0, u1_0_l) = some o0) (fun (nu1, u1_11, u1_9_f0, u1_0_l) => nu1) (fun (nu1, u1_11, u1_9_f0, u1_0_l) => [(11, .int .i64 u1_11), (10, .int .u64 v21), (9, .pointer (some ⟨g9,0, none⟩)), (8, .int .i64 (a2 - a1)), (0, .slice qp0 qn1 qc2), (1, .int .i64 a1)]) (fun (nu1, u1_11, u1_9_f0, u1_0_l) => [tabF Tryd.prog "internal/strconv.uint64pow10" .u64 Lib.pow10Tab 0 pow10_g]) (fun (nu1, u1_11, u1_9_f0, u1_0_l) => [.blk g9 [.int .u64 u1_9_f0] 89, .own 33 2 R_Api_TokenD (.slice qp0 qn1 qc2) u1_0_l, .own 3 1 R_i64 (.slice (some qp3) qn4 qc5) l3]) (N, (a1 + ((IntKind.wrap .i64 (Int.tdiv (a2 - a1) 4)) * 2)) - 1, IntKind.wrap .u64 (a2 - a1), l0) hm [11,10,9,8,0,1] rfl (asK [0] rfl) rfl (fun s_ hm => ?_)))))))
  obtain ⟨nu1, u1_11, u1_9_f0, u1_0_l⟩ := s_
  try dsimp only at hm ⊢
  obtain ⟨mu1, bu1, hnu1, hq, hLu1⟩ := iter_some hm
  clear hm
  subst hnu1
  replace hm := hq
  clear hq
  unfold m_slices_breakPatternsCmpFunc_Token_v2_L1 at hm
  try dsimp only at hm
  refine wc_seq (wc_seq (wc_region (wP rfl (wP rfl (wP rfl (wl_bin rfl rfl rfl (freshS_eq rfl) rfl rfl rfl (run_quo (by decide)) (wP rfl ?_)))))))
  obtain ⟨hg32, hm⟩ := gd_some hm
  refine wl_as (d := 32) (v' := .int .i64 ((IntKind.wrap .i64 (Int.tdiv (a2 - a1) 4)) * 2)) (S' := [_,_,_,_,_,_,_,_,_,_]) rfl rfl (i64_in hg32) (wP rfl ?_)
  obtain ⟨hg33, hm⟩ := gd_some hm
  refine wl_as (d := 33) (v' := .int .i64 (a1 + ((IntKind.wrap .i64 (Int.tdiv (a2 - a1) 4)) * 2))) (S' := [_,_,_,_,_,_,_,_,_,_,_]) rfl rfl (i64_in hg33) (wP rfl ?_)
  obtain ⟨hg34, hm⟩ := gd_some hm
  refine wl_as (d := 34) (v' := .int .i64 ((a1 + ((IntKind.wrap .i64 (Int.tdiv (a2 - a1) 4)) * 2)) + 1)) (S' := [_,_,_,_,_,_,_,_,_,_,_,_]) rfl rfl (i64_in hg34) (wP rfl (wl_nil (we_then (wc_keep [35,11,10,9,8,0,1] (S' := [_,_,_,_,_,_,_]) rfl ?_))))
  refine wc_cond rfl (fun hb35 => ?_) (fun hb35 => ?_)
  ·
   replace hm := iteT hm hb35
   refine wc_keep [11,10,9,8,0,1] (S' := [_,_,_,_,_,_]) rfl (wc_skip (we_then (wc_seq (wc_block (wc_seq (wc_region ?_))))))
   obtain ⟨_, hc38, hm⟩ := bindO_some hm
   try dsimp only at hm
   refine wC [0] [1,2] rfl fn_54 rfl (w_slices_xorshift_Next_s N g9 u1_9_f0 hc38) (asK [0] rfl) rfl (H' := [_,_]) rfl ?_
   rintro _ _ _ ⟨rfl, rfl, rfl⟩
   refine wP rfl (wP rfl (wl_bin rfl rfl rfl (freshS_eq rfl) rfl rfl rfl run_and (wl_reck rfl rfl rfl (freshS_eq rfl) (rk_conv rfl rfl tI_72 tI_3) (wP rfl (wl_nil (we_then (wc_keep [12,11,10,9,8,0,1] (S' := [_,_,_,_,_,_,_]) rfl (wc_seq ?_))))))))
   obtain ⟨bj_1, hm, hLj_1⟩ := bindO_some hm
   refine wc_cut (σ := Int) (fun j_1_12 => bj_1 = j_1_12) (fun j_1_12 => [(12, .int .i64 j_1_12), (11, .int .i64 u1_11), (10, .int .u64 v21), (9, .pointer (some ⟨g9,0, none⟩)), (8, .int .i64 (a2 - a1)), (0, .slice qp0 qn1 qc2), (1, .int .i64 a1)]) (fun j_1_12 => [tabF Tryd.prog "internal/strconv.uint64pow10" .u64 Lib.pow10Tab 0 pow10_g]) (fun j_1_12 => [.blk g9 [.int .u64 (bitsI .xor .u64 (bitsI .xor .u64 (bitsI .xor .u64 u1_9_f0 (IntKind.wrap .u64 (u1_9_f0 * 2 ^ (13)))) (Int.fdiv (bitsI .xor .u64 u1_9_f0 (IntKind.wrap .u64 (u1_9_f0 * 2 ^ (13)))) (2 ^ (7)))) (IntKind.wrap .u64 ((bitsI .xor .u64 (bitsI .xor .u64 u1_9_f0 (IntKind.wrap .u64 (u1_9_f0 * 2 ^ (13)))) (Int.fdiv (bitsI .xor .u64 u1_9_f0 (IntKind.wrap .u64 (u1_9_f0 * 2 ^ (13)))) (2 ^ (7)))) * 2 ^ (17))))] 89, .own 33 2 R_Api_TokenD (.slice qp0 qn1 qc2) u1_0_l, .own 3 1 R_i64 (.slice (some qp3) qn4 qc5) l3]) ?_ ?_
   ·
    refine wc_seq (wc_region (wP rfl (wP rfl (wP rfl (wl_nil (we_then (wc_keep [45,12,11,10,9,8,0,1] (S' := [_,_,_,_,_,_,_,_]) rfl ?_)))))))
    refine wc_cond rfl (fun hb45 => ?_) (fun hb45 => ?_)
    ·
     replace hm := iteT hm hb45
     refine wc_keep [12,11,10,9,8,0,1] (S' := [_,_,_,_,_,_,_]) rfl (wc_region (wP rfl (wP rfl (wP rfl ?_))))
     obtain ⟨hg48, hm⟩ := gd_some hm
     refine wl_as (d := 48) (v' := .int .i64 ((IntKind.wrap .i64 (bitsI .and .u64 (bitsI .xor .u64 (bitsI .xor .u64 (bitsI .xor .u64 u1_9_f0 (IntKind.wrap .u64 (u1_9_f0 * 2 ^ (13)))) (Int.fdiv (bitsI .xor .u64 u1_9_f0 (IntKind.wrap .u64 (u1_9_f0 * 2 ^ (13)))) (2 ^ (7)))) (IntKind.wrap .u64 ((bitsI .xor .u64 (bitsI .xor .u64 u1_9_f0 (IntKind.wrap .u64 (u1_9_f0 * 2 ^ (13)))) (Int.fdiv (bitsI .xor .u64 u1_9_f0 (IntKind.wrap .u64 (u1_9_f0 * 2 ^ (13)))) (2 ^ (7)))) * 2 ^ (17)))) (IntKind.wrap .u64 (v21 - 1)))) - (a2 - a1))) (S' := [_,_,_,_,_,_,_,_,_]) rfl rfl (i64_in hg48) (wl_pure (S' := [_,_,_,_,_,_,_,_,_]) rfl rfl rfl rfl rfl (wl_nil ?_))
     have hE := (Option.some.inj hm).symm
     refine we_join ((IntKind.wrap .i64 (bitsI .and .u64 (bitsI .xor .u64 (bitsI .xor .u64 (bitsI .xor .u64 u1_9_f0 (IntKind.wrap .u64 (u1_9_f0 * 2 ^ (13)))) (Int.fdiv (bitsI .xor .u64 u1_9_f0 (IntKind.wrap .u64 (u1_9_f0 * 2 ^ (13)))) (2 ^ (7)))) (IntKind.wrap .u64 ((bitsI .xor .u64 (bitsI .xor .u64 u1_9_f0 (IntKind.wrap .u64 (u1_9_f0 * 2 ^ (13)))) (Int.fdiv (bitsI .xor .u64 u1_9_f0 (IntKind.wrap .u64 (u1_9_f0 * 2 ^ (13)))) (2 ^ (7)))) * 2 ^ (17)))) (IntKind.wrap .u64 (v21 - 1)))) - (a2 - a1)) hE [12,11,10,9,8,0,1] rfl (asK [0] rfl) rfl
    ·
     replace hm := iteF hm hb45
     refine wc_keep [12,11,10,9,8,0,1] (S' := [_,_,_,_,_,_,_]) rfl (wc_skip ?_)
     have hE := (Option.some.inj hm).symm
     refine we_join (IntKind.wrap .i64 (bitsI .and .u64 (bitsI .xor .u64 (bitsI .xor .u64 (bitsI .xor .u64 u1_9_f0 (IntKind.wrap .u64 (u1_9_f0 * 2 ^ (13)))) (Int.fdiv (bitsI .xor .u64 u1_9_f0 (IntKind.wrap .u64 (u1_9_f0 * 2 ^ (13)))) (2 ^ (7)))) (IntKind.wrap .u64 ((bitsI .xor .u64 (bitsI .xor .u64 u1_9_f0 (IntKind.wrap .u64 (u1_9_f0 * 2 ^ (13)))) (Int.fdiv (bitsI .xor .u64 u1_9_f0 (IntKind.wrap .u64 (u1_9_f0 * 2 ^ (13)))) (2 ^ (7)))) * 2 ^ (17)))) (IntKind.wrap .u64 (v21 - 1)))) hE [12,11,10,9,8,0,1] rfl (asK [0] rfl) rfl
   ·
    rintro j_1_12 hE
    try dsimp only
    have hm := hLj_1
    rw [hE] at hm
    obtain ⟨hg54, hm⟩ := gd_some hm
    obtain ⟨hg58, hm⟩ := gd_some hm
    obtain ⟨hn59, hm⟩ := gd_some hm
    obtain ⟨x59, hx59, hm⟩ := bindO_some hm
    obtain ⟨hn63, hm⟩ := gd_some hm
    obtain ⟨x63, hx63, hm⟩ := bindO_some hm
    obtain ⟨hn65, hm⟩ := gd_some hm
    obtain ⟨x65, hx65, hm⟩ := bindO_some hm
    obtain ⟨hn66, hm⟩ := gd_some hm
    obtain ⟨x66, hx66, hm⟩ := bindO_some hm
    refine wc_draw [0,1,2,3,4,5,6,7,8,9,10,12,13,14,16,18] rfl rfl (fun hok => (xP hok 0 rfl (xP hok 1 rfl (xP hok 2 rfl (xP hok 3 rfl (xP hok 4 rfl (xP hok 5 rfl (wx_as (d := 54) (v' := .int .i64 (a1 + j_1_12)) (S' := [_,_,_,_,_,_,_,_,_,_,_,_]) rfl rfl (i64_in hg54) (xP hok 6 rfl (xP hok 7 rfl (xP hok 8 rfl (xP hok 9 rfl (wx_as (d := 58) (v' := .int .i64 (a1 + j_1_12)) (S' := [_,_,_,_,_,_,_,_,_,_,_,_,_,_,_,_]) rfl rfl (i64_in hg58) (wx_indexH hok 10 1 ((a1 + j_1_12).toNat) rfl rfl rfl (freshS_eq rfl) rfl rfl rfl rfl rfl (toNat_eq hn59) (get_lt hx59) tE_23 tS_33 (fun g59 eg59 => ?_)))))))))))))))
    subst eg59
    refine xP hok 12 rfl (xP hok 13 rfl (wx_indexK hok 14 1 u1_11.toNat rfl rfl rfl (freshS_eq rfl) rfl rfl rfl rfl rfl (toNat_eq hn63) (get_lt hx63) tE_23 tS_33 ?_))
    refine wx_step2 hok 11 15 rfl rfl rfl rfl rfl rfl ?_ ?_
    rotate_left
    focus
     refine wl_loadRow R_Api_TokenD_opens 1 u1_11.toNat 0 rfl rfl rfl (freshS_eq rfl) rfl rfl rfl hx63 tS_33 tA_33 (v := fun r64 => .agg #[.int .i64 (x63.rule), .slice r64.1 x63.ids.length r64.2]) (fun _ => rfl) (fun _ => rfl) (fun r64 _ => (wl_nil (we_x [1] [] rfl rfl (xS hok 11 rfl (wl_loadRow R_Api_TokenD_opens 1 ((a1 + j_1_12).toNat) 0 rfl rfl rfl (freshS_eq rfl) rfl rfl rfl hx59 tS_33 tA_33 (v := fun r60 => .agg #[.int .i64 (x59.rule), .slice r60.1 x59.ids.length r60.2]) (fun _ => rfl) (fun _ => rfl) (fun r60 _ => (wl_nil (we_x [1,2] [] rfl rfl (wx_indexK hok 16 1 u1_11.toNat rfl rfl rfl (freshS_eq rfl) rfl rfl rfl rfl rfl (toNat_eq hn65) (get_lt hx65) tE_23 tS_33 (xS hok 17 rfl (wl_storeRow (u := x59) 1 u1_11.toNat rfl rfl rfl rfl rfl (get_lt hx65) rfl rfl tS_33 rfl (fun F w hφ => ⟨(r60.1, r60.2), rfl, (ask_cons (hφ _ (mem_at (k := 0) rfl)) ask_nil)⟩) (H' := [_,_,_]) rfl (wl_nil (we_x [0,1,2] [] rfl rfl (wx_indexK hok 18 1 ((a1 + j_1_12).toNat) rfl rfl rfl (freshS_eq rfl) rfl rfl rfl rfl rfl (toNat_eq hn66) (get_lt hx66) tE_23 tS_33 (xS hok 19 rfl ?_)))))))))))))))
     refine wl_storeRow (u := x63) 1 ((a1 + j_1_12).toNat) rfl rfl rfl rfl rfl (get_lt hx66) rfl rfl tS_33 rfl (fun F w hφ => ⟨(r64.1, r64.2), rfl, (ask_cons (hφ _ (mem_at (k := 1) rfl)) ask_nil)⟩) (H' := [_,_,_]) rfl ?_
    rotate_right
    focus
     refine wl_loadRow R_Api_TokenD_opens 1 ((a1 + j_1_12).toNat) 0 rfl rfl rfl (freshS_eq rfl) rfl rfl rfl hx59 tS_33 tA_33 (v := fun r60 => .agg #[.int .i64 (x59.rule), .slice r60.1 x59.ids.length r60.2]) (fun _ => rfl) (fun _ => rfl) (fun r60 _ => (wl_nil (we_x [1] [] rfl rfl (xS hok 15 rfl (wl_loadRow R_Api_TokenD_opens 1 u1_11.toNat 0 rfl rfl rfl (freshS_eq rfl) rfl rfl rfl hx63 tS_33 tA_33 (v := fun r64 => .agg #[.int .i64 (x63.rule), .slice r64.1 x63.ids.length r64.2]) (fun _ => rfl) (fun _ => rfl) (fun r64 _ => (wl_nil (we_x [1,2] [] rfl rfl (wx_indexK hok 16 1 u1_11.toNat rfl rfl rfl (freshS_eq rfl) rfl rfl rfl rfl rfl (toNat_eq hn65) (get_lt hx65) tE_23 tS_33 (xS hok 17 rfl (wl_storeRow (u := x59) 1 u1_11.toNat rfl rfl rfl rfl rfl (get_lt hx65) rfl rfl tS_33 rfl (fun F w hφ => ⟨(r60.1, r60.2), rfl, (ask_cons (hφ _ (mem_at (k := 1) rfl)) ask_nil)⟩) (H' := [_,_,_]) rfl (wl_nil (we_x [0,1,2] [] rfl rfl (wx_indexK hok 18 1 ((a1 + j_1_12).toNat) rfl rfl rfl (freshS_eq rfl) rfl rfl rfl rfl rfl (toNat_eq hn66) (get_lt hx66) tE_23 tS_33 (xS hok 19 rfl ?_)))))))))))))))
     refine wl_storeRow (u := x63) 1 ((a1 + j_1_12).toNat) rfl rfl rfl rfl rfl (get_lt hx66) rfl rfl tS_33 rfl (fun F w hφ => ⟨(r64.1, r64.2), rfl, (ask_cons (hφ _ (mem_at (k := 0) rfl)) ask_nil)⟩) (H' := [_,_,_]) rfl ?_
    all_goals
     refine wl_nil (we_x [0,1,2] [] rfl rfl (wx_done hok rfl (we_block_normal (we_then (wc_keep [11,10,9,8,0,1] (S' := [_,_,_,_,_,_]) rfl (wc_region (wP rfl (wP rfl ?_))))))))
     obtain ⟨hg37, hm⟩ := gd_some hm
     refine wl_as (d := 37) (v' := .int .i64 (u1_11 + 1)) (S' := [_,_,_,_,_,_,_]) rfl rfl (i64_in hg37) (wl_pure (S' := [_,_,_,_,_,_,_]) rfl rfl rfl rfl rfl (wl_nil ?_))
     have hE := (Option.some.inj hm).symm
     replace hE := link_inl hLu1 hE
     refine we_roundK (_, u1_11 + 1, bitsI .xor .u64 (bitsI .xor .u64 (bitsI .xor .u64 u1_9_f0 (IntKind.wrap .u64 (u1_9_f0 * 2 ^ (13)))) (Int.fdiv (bitsI .xor .u64 u1_9_f0 (IntKind.wrap .u64 (u1_9_f0 * 2 ^ (13)))) (2 ^ (7)))) (IntKind.wrap .u64 ((bitsI .xor .u64 (bitsI .xor .u64 u1_9_f0 (IntKind.wrap .u64 (u1_9_f0 * 2 ^ (13)))) (Int.fdiv (bitsI .xor .u64 u1_9_f0 (IntKind.wrap .u64 (u1_9_f0 * 2 ^ (13)))) (2 ^ (7)))) * 2 ^ (17))), (u1_0_l.set u1_11.toNat x59).set ((a1 + j_1_12).toNat) x63) (Nat.lt_succ_self _) hE [11,10,9,8,0,1] rfl (asK [2] rfl) rfl
  ·
   replace hm := iteF hm hb35
   refine wc_keep [] (S' := []) rfl (wc_exit (we_then_exit (we_then_exit (we_block_hit ?_))))
   have hE := (Option.some.inj hm).symm
   replace hE := link_inr hLu1 hE
   replace hE := hE.symm
   subst hE
   refine ret_none (Hr := [_,_]) [1,2] Tryd.results42 ⟨rfl, rfl, rfl⟩ (asK [] rfl) rfl rfl (.inr rfl)
 ·
  replace hm := iteF hm hb17
  refine wc_keep [] (S' := []) rfl (wc_skip ?_)
  have hE := (Option.some.inj hm).symm
  replace hE := hE.symm
  subst hE
  refine ret_none (Hr := [_,_]) [0,1] Tryd.results42 ⟨rfl, rfl, rfl⟩ (asK [] rfl) rfl rfl (.inr rfl)
theorem w_slices_pdqsortCmpFunc_Token_v2_s_b (N : Nat) (rc : (List Api_TokenD) → Int → Int → Int → (List Int) → Option ((List Api_TokenD) × (List Int))) (ih : ∀ (qp0 : Option Addr) (qn1 : Nat) (qc2 : Nat) (l0 : List Api_TokenD) (a1 : Int) (a2 : Int) (a3 : Int) (qp3 : Addr) (qn4 : Nat) (qc5 : Nat) (l4 : List Int) (o0 : List Api_TokenD) (o2 : List Int), rc l0 a1 a2 a3 l4 = some (o0, o2) → Spec Tryd.prog 34 [.slice qp0 qn1 qc2, .int .i64 a1, .int .i64 a2, .int .i64 a3, .func (.func 19) #[.slice (some qp3) qn4 qc5] #[]] [tabF Tryd.prog "internal/strconv.uint64pow10" .u64 Lib.pow10Tab 0 pow10_g] [.own 33 2 R_Api_TokenD (.slice qp0 qn1 qc2) l0, .own 3 1 R_i64 (.slice (some qp3) qn4 qc5) l4] (fun v Φr Hr => ∃ (o1 : Nat), v = .tuple #[] ∧ Φr = [] ∧ Hr = [.own 33 2 R_Api_TokenD (.slice qp0 o1 qc2) o0, .own 3 1 R_i64 (.slice (some qp3) qn4 qc5) o2])) (qp0 : Option Addr) (qn1 : Nat) (qc2 : Nat) (l0 : List Api_TokenD) (a1 : Int) (a2 : Int) (a3 : Int) (qp3 : Addr) (qn4 : Nat) (qc5 : Nat) (l4 : List Int) (o0 : List Api_TokenD) (o2 : List Int) (hm : m_slices_pdqsortCmpFunc_Token_v2_b N rc l0 a1 a2 a3 l4 = some (o0, o2)) : Spec Tryd.prog 34 [.slice qp0 qn1 qc2, .int .i64 a1, .int .i64 a2, .int .i64 a3, .func (.func 19) #[.slice (some qp3) qn4 qc5] #[]] [tabF Tryd.prog "internal/strconv.uint64pow10" .u64 Lib.pow10Tab 0 pow10_g] [.own 33 2 R_Api_TokenD (.slice qp0 qn1 qc2) l0, .own 3 1 R_i64 (.slice (some qp3) qn4 qc5) l4] (fun v Φr Hr => ∃ (o1 : Nat), v = .tuple #[] ∧ Φr = [] ∧ Hr = [.own 33 2 R_Api_TokenD (.slice qp0 o1 qc2) o0, .own 3 1 R_i64 (.slice (some qp3) qn4 qc5) o2]) := by
 unfold m_slices_pdqsortCmpFunc_Token_v2_b at hm
 refine spec_of Tryd.func34 rfl Tryd.ntmps34 rfl (S := [_,_,_,_,_]) rfl (fun C => (wc_seq (wc_region (wP rfl (wl_nil (we_then (wc_seq (wc_region (wP rfl (wl_nil (we_then (wc_block (wc_loop (σ := Nat × Bool × Bool × (List Api_TokenD) × Int × Int × Int × (List Int) × Nat) (fun (nu1, u1_11, u1_10, u1_0_l, u1_1, u1_2, u1_3, u1_4_c0_l, u1_0_n) => iter (m_slices_pdqsortCmpFunc_Token_v2_L1 N rc) nu1 (u1_11, u1_10, u1_0_l, u1_1, u1_2, u1_3, u1_4_c0_l) = some (o0, o2)) (fun (nu1, u1_11, u1_10, u1_0_l, u1_1, u1_2, u1_3, u1_4_c0_l, u1_0_n) => nu1) (fun (nu1, u1_11, u1_10, u1_0_l, u1_1, u1_2, u1_3, u1_4_c0_l, u1_0_n) => [(11, .bool u1_11), (10, .bool u1_10), (0, .slice qp0 u1_0_n qc2), (1, .int .i64 u1_1), (2, .int .i64 u1_2), (3, .int .i64 u1_3), (4, .func (.func 19) #[.slice (some qp3) qn4 qc5] #[])]) (fun (nu1, u1_11, u1_10, u1_0_l, u1_1, u1_2, u1_3, u1_4_c0_l, u1_0_n) => [tabF Tryd.prog "internal/strconv.uint64pow10" .u64 Lib.pow10Tab 0 pow10_g]) (fun (nu1, u1_11, u1_10, u1_0_l, u1_1, u1_2, u1_3, u1_4_c0_l, u1_0_n) => [.own 33 2 R_Api_TokenD (.slice qp0 u1_0_n qc2) u1_0_l, .own 3 1 R_i64 (.slice (some qp3) qn4 qc5) u1_4_c0_l]) (N, true, true, l0, a1, a2, a3, l4, qn1) hm [11,10,0,1,2,3,4] rfl (asK [0] rfl) rfl (fun s_ hm => ?_))))))))))))))
 obtain ⟨nu1, u1_11, u1_10, u1_0_l, u1_1, u1_2, u1_3, u1_4_c0_l, u1_0_n⟩ := s_
 try dsimp only at hm ⊢
 obtain ⟨mu1, bu1, hnu1, hq, hLu1⟩ := iter_some hm
 clear hm
 subst hnu1
 replace hm := hq
 clear hq
 unfold m_slices_pdqsortCmpFunc_Token_v2_L1 at hm
 try dsimp only at hm
 refine wc_block (wc_seq (wc_region (wP rfl (wP rfl (wP rfl ?_)))))
 obtain ⟨hg23, hm⟩ := gd_some hm
 refine wl_as (d := 23) (v' := .int .i64 (u1_2 - u1_1)) (S' := [_,_,_,_,_,_,_,_,_]) rfl rfl (i64_in hg23) (wP rfl (wl_nil (we_then (wc_keep [12,11,10,0,1,2,3,4] (S' := [_,_,_,_,_,_,_,_]) rfl (wc_seq (wc_seq (wc_region (wP rfl (wP rfl (wl_nil (we_then (wc_keep [25,12,11,10,0,1,2,3,4] (S' := [_,_,_,_,_,_,_,_,_]) rfl ?_))))))))))))
 refine wc_cond rfl (fun hb25 => ?_) (fun hb25 => ?_)
 ·
  replace hm := iteT hm hb25
  refine wc_keep [0,1,2,4] (S' := [_,_,_,_]) rfl (wc_seq (wc_region (wP rfl (wP rfl (wP rfl (wP rfl (wl_ownLen 0 rfl (fun hzu1_0_n _ => ?_))))))))
  subst hzu1_0_n
  obtain ⟨v30, hc30, hm⟩ := bindO_some hm
  refine wC [0,1] [] rfl fn_40 rfl (w_slices_insertionSortCmpFunc_Token_v2_s N qp0 u1_0_l.length qc2 u1_0_l u1_1 u1_2 qp3 qn4 qc5 u1_4_c0_l _ hc30) (asK [0] rfl) rfl (H' := []) rfl ?_
  rintro _ _ _ ⟨rfl, rfl, rfl⟩
  refine wl_nil (we_then (wc_keep [] (S' := []) rfl (wc_ret (we_then_ret (we_block_ret (we_then_ret (we_block_ret ?_)))))))
  have hE := (Option.some.inj hm).symm
  replace hE := link_inr hLu1 hE
  obtain ⟨hE0, hE1⟩ := Prod.mk.inj hE
  clear hE
  replace hE0 := hE0.symm
  subst hE0
  replace hE1 := hE1.symm
  subst hE1
  refine ret_none (Hr := [_,_]) [0,1] Tryd.results34 ⟨u1_0_l.length, rfl, rfl, rfl⟩ (asK [] rfl) rfl rfl (.inl rfl)
 ·
  replace hm := iteF hm hb25
  refine wc_keep [12,11,10,0,1,2,3,4] (S' := [_,_,_,_,_,_,_,_]) rfl (wc_skip (we_then (wc_seq (wc_seq (wc_region (wP rfl (wP rfl (wl_nil (we_then (wc_keep [32,12,11,10,0,1,2,3,4] (S' := [_,_,_,_,_,_,_,_,_]) rfl ?_))))))))))
  refine wc_cond rfl (fun hb32 => ?_) (fun hb32 => ?_)
  ·
   replace hm := iteT hm hb32
   refine wc_keep [0,1,2,4] (S' := [_,_,_,_]) rfl (wc_seq (wc_region (wP rfl (wP rfl (wP rfl (wP rfl (wl_ownLen 0 rfl (fun hzu1_0_n _ => ?_))))))))
   subst hzu1_0_n
   obtain ⟨v37, hc37, hm⟩ := bindO_some hm
   refine wC [0,1] [] rfl fn_41 rfl (w_slices_heapSortCmpFunc_Token_v2_s N qp0 u1_0_l.length qc2 u1_0_l u1_1 u1_2 qp3 qn4 qc5 u1_4_c0_l _ hc37) (asK [0] rfl) rfl (H' := []) rfl ?_
   rintro _ _ _ ⟨rfl, rfl, rfl⟩
   refine wl_nil (we_then (wc_keep [] (S' := []) rfl (wc_ret (we_then_ret (we_block_ret (we_then_ret (we_block_ret ?_)))))))
   have hE := (Option.some.inj hm).symm
   replace hE := link_inr hLu1 hE
   obtain ⟨hE0, hE1⟩ := Prod.mk.inj hE
   clear hE
   replace hE0 := hE0.symm
   subst hE0
   replace hE1 := hE1.symm
   subst hE1
   refine ret_none (Hr := [_,_]) [0,1] Tryd.results34 ⟨u1_0_l.length, rfl, rfl, rfl⟩ (asK [] rfl) rfl rfl (.inl rfl)
  ·
   replace hm := iteF hm hb32
   refine wc_keep [12,11,10,0,1,2,3,4] (S' := [_,_,_,_,_,_,_,_]) rfl (wc_skip (we_then (wc_seq ?_)))
   obtain ⟨bj_1, hm, hLj_1⟩ := bindO_some hm
   refine wc_cut (σ := (List Api_TokenD) × Int) (fun (j_1_0_l, j_1_3) => bj_1 = (j_1_0_l, j_1_3)) (fun (j_1_0_l, j_1_3) => [(12, .int .i64 (u1_2 - u1_1)), (11, .bool u1_11), (10, .bool u1_10), (0, .slice qp0 u1_0_n qc2), (1, .int .i64 u1_1), (2, .int .i64 u1_2), (3, .int .i64 j_1_3), (4, .func (.func 19) #[.slice (some qp3) qn4 qc5] #[])]) (fun (j_1_0_l, j_1_3) => [tabF Tryd.prog "internal/strconv.uint64pow10" .u64 Lib.pow10Tab 0 pow10_g]) (fun (j_1_0_l, j_1_3) => [.own 33 2 R_Api_TokenD (.slice qp0 u1_0_n qc2) j_1_0_l, .own 3 1 R_i64 (.slice (some qp3) qn4 qc5) u1_4_c0_l]) ?_ ?_
   ·
    refine wc_seq (wc_region (wP rfl (wP rfl (wl_nil (we_then (wc_keep [39,12,11,10,0,1,2,3,4] (S' := [_,_,_,_,_,_,_,_,_]) rfl ?_))))))
    refine wc_cond rfl (fun hb39 => ?_) (fun hb39 => ?_)
    ·
     replace hm := iteT hm hb39
     refine wc_keep [12,11,10,0,1,2,3,4] (S' := [_,_,_,_,_,_,_,_]) rfl (wc_seq (wc_region (wP rfl (wP rfl (wP rfl (wP rfl (wl_ownLen 0 rfl (fun hzu1_0_n _ => ?_))))))))
     subst hzu1_0_n
     obtain ⟨v44, hc44, hm⟩ := bindO_some hm
     refine wC [0,1] [] rfl fn_42 rfl (w_slices_breakPatternsCmpFunc_Token_v2_s N qp0 u1_0_l.length qc2 u1_0_l u1_1 u1_2 qp3 qn4 qc5 u1_4_c0_l _ hc44) (asK [0] rfl) rfl (H' := []) rfl ?_
     rintro _ _ _ ⟨rfl, rfl, rfl⟩
     refine wl_nil (we_then (wc_keep [12,11,10,0,1,2,3,4] (S' := [_,_,_,_,_,_,_,_]) rfl (wc_region (wP rfl (wP rfl ?_)))))
     obtain ⟨hg46, hm⟩ := gd_some hm
     refine wl_as (d := 46) (v' := .int .i64 (u1_3 - 1)) (S' := [_,_,_,_,_,_,_,_,_]) rfl rfl (i64_in hg46) (wl_pure (S' := [_,_,_,_,_,_,_,_,_]) rfl rfl rfl rfl rfl (wl_nil ?_))
     have hE := (Option.some.inj hm).symm
     refine we_join (v44, u1_3 - 1) hE [12,11,10,0,1,2,3,4] rfl (asK [0] rfl) rfl
    ·
     replace hm := iteF hm hb39
     refine wc_keep [12,11,10,0,1,2,3,4] (S' := [_,_,_,_,_,_,_,_]) rfl (wc_skip ?_)
     have hE := (Option.some.inj hm).symm
     refine we_join (u1_0_l, u1_3) hE [12,11,10,0,1,2,3,4] rfl (asK [0] rfl) rfl
   ·
    rintro ⟨j_1_0_l, j_1_3⟩ hE
    try dsimp only
    have hm := hLj_1
    rw [hE] at hm
    try dsimp only at hm
    refine wc_seq (wc_region (wP rfl (wP rfl (wP rfl (wP rfl (wl_ownLen 0 rfl (fun hzu1_0_n _ => ?_)))))))
    subst hzu1_0_n
    obtain ⟨⟨v52_0, v52_1⟩, hc52, hm⟩ := bindO_some hm
    try dsimp only at hm
    refine wl_lend [1] [0] [0] rfl rfl rfl (freshS_eq rfl) rfl rfl fn_43 rfl (w_slices_choosePivotCmpFunc_Token_s N qp0 qc2 j_1_0_l u1_1 u1_2 qp3 qn4 qc5 u1_4_c0_l _ _ hc52) (fun F w hφ hh => (ask_cons (own_sli (hh _ (mem_at (k := 0) rfl))) (ask_cons (hφ _ (mem_at (k := 0) rfl)) ask_nil))) (fun _ _ _ hR => by obtain ⟨rfl, rfl, rfl⟩ := hR; exact ⟨rfl, (free_cons (own_free mkRep_free) (fun _ h => free_nil h))⟩) rfl rfl (H' := [_]) rfl ?_
    rintro _ _ _ ⟨rfl, rfl, rfl⟩
    refine wP rfl (wP rfl (wP rfl (wP rfl (wP rfl (wl_nil (we_then (wc_keep [14,13,12,11,10,0,1,2,3,4] (S' := [_,_,_,_,_,_,_,_,_,_]) rfl (wc_seq ?_))))))))
    obtain ⟨bj_2, hm, hLj_2⟩ := bindO_some hm
    unfold m_slices_pdqsortCmpFunc_Token_v2_C2 at hm
    refine wc_cut (σ := Nat × Int × (List Api_TokenD)) (fun (j_2_14, j_2_13, j_2_0_l) => bj_2 = (j_2_14, j_2_13, j_2_0_l)) (fun (j_2_14, j_2_13, j_2_0_l) => [(14, .int .i64 ((j_2_14 : Nat) : Int)), (13, .int .i64 j_2_13), (12, .int .i64 (u1_2 - u1_1)), (11, .bool u1_11), (10, .bool u1_10), (0, .slice qp0 j_1_0_l.length qc2), (1, .int .i64 u1_1), (2, .int .i64 u1_2), (3, .int .i64 j_1_3), (4, .func (.func 19) #[.slice (some qp3) qn4 qc5] #[])]) (fun (j_2_14, j_2_13, j_2_0_l) => [tabF Tryd.prog "internal/strconv.uint64pow10" .u64 Lib.pow10Tab 0 pow10_g]) (fun (j_2_14, j_2_13, j_2_0_l) => [.own 33 2 R_Api_TokenD (.slice qp0 j_1_0_l.length qc2) j_2_0_l, .own 3 1 R_i64 (.slice (some qp3) qn4 qc5) u1_4_c0_l]) ?_ ?_
    ·
     refine wc_seq (wc_region (wP rfl (wP rfl (wl_as (d := 56) (v' := .bool (v52_1 == 2)) (S' := [_,_,_,_,_,_,_,_,_,_,_]) rfl rfl (nateq (a := v52_1) (b := 2)) (wl_nil (we_then (wc_keep [56,14,13,12,11,10,0,1,2,3,4] (S' := [_,_,_,_,_,_,_,_,_,_,_]) rfl ?_)))))))
     refine wc_cond rfl (fun hb56 => ?_) (fun hb56 => ?_)
     ·
      replace hm := iteT hm hb56
      refine wc_keep [13,12,11,10,0,1,2,3,4] (S' := [_,_,_,_,_,_,_,_,_]) rfl (wc_seq (wc_region (wP rfl (wP rfl (wP rfl (wP rfl ?_))))))
      obtain ⟨v61, hc61, hm⟩ := bindO_some hm
      refine wC [1,0] [] rfl fn_44 rfl (w_slices_reverseRangeCmpFunc_Token_v2_s N qp0 j_1_0_l.length qc2 j_1_0_l u1_1 u1_2 qp3 qn4 qc5 u1_4_c0_l _ hc61) (asK [0] rfl) rfl (H' := []) rfl ?_
      rintro _ _ _ ⟨rfl, rfl, rfl⟩
      refine wl_nil (we_then (wc_keep [13,12,11,10,0,1,2,3,4] (S' := [_,_,_,_,_,_,_,_,_]) rfl (wc_seq (wc_region (wP rfl (wP rfl ?_))))))
      obtain ⟨hg63, hm⟩ := gd_some hm
      refine wl_as (d := 63) (v' := .int .i64 (u1_2 - 1)) (S' := [_,_,_,_,_,_,_,_,_,_]) rfl rfl (i64_in hg63) (wP rfl (wP rfl (wP rfl ?_)))
      obtain ⟨hg66, hm⟩ := gd_some hm
      refine wl_as (d := 66) (v' := .int .i64 (v52_0 - u1_1)) (S' := [_,_,_,_,_,_,_,_,_,_,_,_,_]) rfl rfl (i64_in hg66) (wP rfl ?_)
      obtain ⟨hg67, hm⟩ := gd_some hm
      refine wl_as (d := 67) (v' := .int .i64 ((u1_2 - 1) - (v52_0 - u1_1))) (S' := [_,_,_,_,_,_,_,_,_,_,_,_,_,_]) rfl rfl (i64_in hg67) (wl_pure (S' := [_,_,_,_,_,_,_,_,_,_,_,_,_,_]) rfl rfl rfl rfl rfl (wl_nil (we_then (wc_keep [13,12,11,10,0,1,2,3,4] (S' := [_,_,_,_,_,_,_,_,_]) rfl (wc_region (wP rfl (wl_nil ?_)))))))
      have hE := (Option.some.inj hm).symm
      refine we_join (1, (u1_2 - 1) - (v52_0 - u1_1), v61) hE [14,13,12,11,10,0,1,2,3,4] rfl (asK [0] rfl) rfl
     ·
      replace hm := iteF hm hb56
      refine wc_keep [14,13,12,11,10,0,1,2,3,4] (S' := [_,_,_,_,_,_,_,_,_,_]) rfl (wc_skip ?_)
      have hE := (Option.some.inj hm).symm
      refine we_pick [1,0] rfl (H' := [_,_]) rfl ?_
      refine we_join (v52_1, v52_0, j_1_0_l) hE [14,13,12,11,10,0,1,2,3,4] rfl (asK [0] rfl) rfl
    ·
     rintro ⟨j_2_14, j_2_13, j_2_0_l⟩ hE
     try dsimp only
     have hm := hLj_2
     rw [hE] at hm
     try dsimp only at hm
     refine wc_seq ?_
     obtain ⟨bj_3, hm, hLj_3⟩ := bindS_some hm
     unfold m_slices_pdqsortCmpFunc_Token_v2_C3 at hm
     refine wc_cut (σ := (List Api_TokenD) × Nat) (fun (j_3_0_l, j_3_0_n) => bj_3 = .inl j_3_0_l) (fun (j_3_0_l, j_3_0_n) => [(13, .int .i64 j_2_13), (12, .int .i64 (u1_2 - u1_1)), (11, .bool u1_11), (10, .bool u1_10), (0, .slice qp0 j_3_0_n qc2), (1, .int .i64 u1_1), (2, .int .i64 u1_2), (3, .int .i64 j_1_3), (4, .func (.func 19) #[.slice (some qp3) qn4 qc5] #[])]) (fun (j_3_0_l, j_3_0_n) => [tabF Tryd.prog "internal/strconv.uint64pow10" .u64 Lib.pow10Tab 0 pow10_g]) (fun (j_3_0_l, j_3_0_n) => [.own 33 2 R_Api_TokenD (.slice qp0 j_3_0_n qc2) j_3_0_l, .own 3 1 R_i64 (.slice (some qp3) qn4 qc5) u1_4_c0_l]) ?_ ?_
     ·
      refine wc_seq ?_
      obtain ⟨bj_4, hm, hLj_4⟩ := bindO_some hm
      refine wc_cut (σ := Bool) (fun j_4_75 => bj_4 = j_4_75) (fun j_4_75 => [(13, .int .i64 j_2_13), (12, .int .i64 (u1_2 - u1_1)), (11, .bool u1_11), (10, .bool u1_10), (0, .slice qp0 j_1_0_l.length qc2), (1, .int .i64 u1_1), (2, .int .i64 u1_2), (3, .int .i64 j_1_3), (4, .func (.func 19) #[.slice (some qp3) qn4 qc5] #[]), (75, .bool j_4_75)]) (fun j_4_75 => [tabF Tryd.prog "internal/strconv.uint64pow10" .u64 Lib.pow10Tab 0 pow10_g]) (fun j_4_75 => [.own 33 2 R_Api_TokenD (.slice qp0 j_1_0_l.length qc2) j_2_0_l, .own 3 1 R_i64 (.slice (some qp3) qn4 qc5) u1_4_c0_l]) ?_ ?_
      ·
       refine wc_region (wP rfl (wP rfl ?_))
       refine wl_split (d := 69) (S' := [_,_,_,_,_,_,_,_,_,_,_]) rfl rfl (fun hs69 => ?_) (fun hs69 => ?_)
       ·
        replace hm := iteT hm hs69
        refine wP rfl (wP rfl (wP rfl ?_))
        refine wl_split (d := 72) (S' := [_,_,_,_,_,_,_,_,_,_,_,_,_,_]) rfl rfl (fun hs72 => ?_) (fun hs72 => ?_)
        ·
         replace hm := iteT hm hs72
         refine wP rfl (wP rfl (wl_as (d := 74) (v' := .bool (j_2_14 == 1)) (S' := [_,_,_,_,_,_,_,_,_,_,_,_,_,_,_,_]) rfl rfl (nateq (a := j_2_14) (b := 1)) (wP rfl (wl_nil ?_))))
         have hE := (Option.some.inj hm).symm
         refine we_join (j_2_14 == 1) hE [13,12,11,10,0,1,2,3,4,75] rfl (asK [0] rfl) rfl
        ·
         replace hm := iteF hm hs72
         refine wO rfl (wO rfl (wP rfl (wl_nil ?_)))
         have hE := (Option.some.inj hm).symm
         refine we_join false hE [13,12,11,10,0,1,2,3,4,75] rfl (asK [0] rfl) rfl
       ·
        replace hm := iteF hm hs69
        refine wO rfl (wP rfl (wP rfl (wO rfl (wO rfl (wP rfl (wl_nil ?_))))))
        have hE := (Option.some.inj hm).symm
        refine we_join false hE [13,12,11,10,0,1,2,3,4,75] rfl (asK [0] rfl) rfl
      ·
       rintro j_4_75 hE
       try dsimp only
       have hm := hLj_4
       rw [hE] at hm
       refine wc_cond rfl (fun hb75 => ?_) (fun hb75 => ?_)
       ·
        replace hm := iteT hm hb75
        refine wc_keep [13,12,11,10,0,1,2,3,4] (S' := [_,_,_,_,_,_,_,_,_]) rfl (wc_seq (wc_region (wP rfl (wP rfl (wP rfl (wP rfl (wl_ownLen 0 rfl (fun hz22 _ => (wl_at 3 (v' := .slice qp0 j_2_0_l.length qc2) rfl (by first | rfl | rw [hz22]) (wl_at 8 (v' := .slice qp0 j_2_0_l.length qc2) rfl (by first | rfl | rw [hz22]) (wl_hAs 0 (φ' := .own 33 2 R_Api_TokenD (.slice qp0 j_2_0_l.length qc2) j_2_0_l) rfl (by first | rfl | rw [hz22]) (H' := [_,_]) rfl ?_)))))))))))
        obtain ⟨⟨v80_0, v80_1⟩, hc80, hm⟩ := bindO_some hm
        try dsimp only at hm
        refine wC [0,1] [] rfl fn_45 rfl (w_slices_partialInsertionSortCmpFunc_Token_v2_s N qp0 j_2_0_l.length qc2 j_2_0_l u1_1 u1_2 qp3 qn4 qc5 u1_4_c0_l _ _ hc80) (asK [0] rfl) rfl (H' := []) rfl ?_
        rintro _ _ _ ⟨rfl, rfl, rfl⟩
        refine wl_nil (we_then (wc_keep [80,13,12,11,10,0,1,2,3,4] (S' := [_,_,_,_,_,_,_,_,_,_]) rfl ?_))
        refine wc_cond rfl (fun hb80 => ?_) (fun hb80 => ?_)
        ·
         replace hm := iteT hm hb80
         refine wc_keep [] (S' := []) rfl (wc_ret (we_then_ret (we_block_ret (we_then_ret (we_block_ret ?_)))))
         have hE := (Option.some.inj hm).symm
         replace hE := link_inr hLj_3 hE
         replace hE := link_inr hLu1 hE
         obtain ⟨hE0, hE1⟩ := Prod.mk.inj hE
         clear hE
         replace hE0 := hE0.symm
         subst hE0
         replace hE1 := hE1.symm
         subst hE1
         refine ret_none (Hr := [_,_]) [0,1] Tryd.results34 ⟨j_2_0_l.length, rfl, rfl, rfl⟩ (asK [] rfl) rfl rfl (.inl rfl)
        ·
         replace hm := iteF hm hb80
         refine wc_keep [13,12,11,10,0,1,2,3,4] (S' := [_,_,_,_,_,_,_,_,_]) rfl (wc_skip ?_)
         have hE := (Option.some.inj hm).symm
         refine we_join (v80_1, j_2_0_l.length) hE [13,12,11,10,0,1,2,3,4] rfl (asK [0] rfl) rfl
       ·
        replace hm := iteF hm hb75
        refine wc_keep [13,12,11,10,0,1,2,3,4] (S' := [_,_,_,_,_,_,_,_,_]) rfl (wc_skip ?_)
        have hE := (Option.some.inj hm).symm
        refine we_join (j_2_0_l, j_1_0_l.length) hE [13,12,11,10,0,1,2,3,4] rfl (asK [0] rfl) rfl
     ·
      rintro ⟨j_3_0_l, j_3_0_n⟩ hE
      try dsimp only
      have hm := link_inl hLj_3 hE
      refine wc_seq (wc_seq ?_)
      obtain ⟨bj_5, hm, hLj_5⟩ := bindO_some hm
      unfold m_slices_pdqsortCmpFunc_Token_v2_C5 at hm
      refine wc_cut (σ := Bool) (fun j_5_97 => bj_5 = j_5_97) (fun j_5_97 => [(13, .int .i64 j_2_13), (12, .int .i64 (u1_2 - u1_1)), (11, .bool u1_11), (10, .bool u1_10), (0, .slice qp0 j_3_0_n qc2), (1, .int .i64 u1_1), (2, .int .i64 u1_2), (3, .int .i64 j_1_3), (4, .func (.func 19) #[.slice (some qp3) qn4 qc5] #[]), (97, .bool j_5_97)]) (fun j_5_97 => [tabF Tryd.prog "internal/strconv.uint64pow10" .u64 Lib.pow10Tab 0 pow10_g]) (fun j_5_97 => [.own 33 2 R_Api_TokenD (.slice qp0 j_3_0_n qc2) j_3_0_l, .own 3 1 R_i64 (.slice (some qp3) qn4 qc5) u1_4_c0_l]) ?_ ?_
      ·
       rcases ite_some hm with ⟨hs83, hm⟩ | ⟨hs83, hm⟩
       ·
        obtain ⟨hg87, hm⟩ := gd_some hm
        obtain ⟨hn88, hm⟩ := gd_some hm
        obtain ⟨x88, hx88, hm⟩ := bindO_some hm
        obtain ⟨hn92, hm⟩ := gd_some hm
        obtain ⟨x92, hx92, hm⟩ := bindO_some hm
        obtain ⟨v94, hc94, hm⟩ := bindO_some hm
        refine wc_draw [0,1,2,3,4,5,6,7,9,10,11,14,15,16] rfl rfl (fun hok => (xP hok 0 rfl (xP hok 1 rfl (xP hok 2 rfl (wx_as (d := 83) (v' := .bool true) (S' := [_,_,_,_,_,_,_,_,_,_,_]) rfl rfl (bool_is hs83) (xP hok 3 rfl (xP hok 4 rfl (xP hok 5 rfl (xP hok 6 rfl (wx_as (d := 87) (v' := .int .i64 (u1_1 - 1)) (S' := [_,_,_,_,_,_,_,_,_,_,_,_,_,_,_]) rfl rfl (i64_in hg87) (wx_indexH hok 7 0 ((u1_1 - 1).toNat) rfl rfl rfl (freshS_eq rfl) rfl rfl rfl rfl rfl (toNat_eq hn88) (get_lt hx88) tE_23 tS_33 (fun g88 eg88 => ?_))))))))))))
        subst eg88
        refine xP hok 9 rfl (xP hok 10 rfl (wx_indexK hok 11 0 j_2_13.toNat rfl rfl rfl (freshS_eq rfl) rfl rfl rfl rfl rfl (toNat_eq hn92) (get_lt hx92) tE_23 tS_33 ?_))
        refine wx_step2 hok 8 12 rfl rfl rfl rfl rfl rfl ?_ ?_
        rotate_left
        focus
         refine wl_loadRow R_Api_TokenD_opens 0 j_2_13.toNat 0 rfl rfl rfl (freshS_eq rfl) rfl rfl rfl hx92 tS_33 tA_33 (v := fun r93 => .agg #[.int .i64 (x92.rule), .slice r93.1 x92.ids.length r93.2]) (fun _ => rfl) (fun _ => rfl) (fun r93 _ => (wl_nil (we_x [1] [] rfl rfl (xS hok 8 rfl (wl_loadRow R_Api_TokenD_opens 0 ((u1_1 - 1).toNat) 0 rfl rfl rfl (freshS_eq rfl) rfl rfl rfl hx88 tS_33 tA_33 (v := fun r89 => .agg #[.int .i64 (x88.rule), .slice r89.1 x88.ids.length r89.2]) (fun _ => rfl) (fun _ => rfl) (fun r89 _ => (wl_nil (we_x [1,2] [] rfl rfl (xS hok 13 rfl (wl_callDynF (args := [.slice (some qp3) qn4 qc5, .agg #[.int .i64 (x88.rule), .slice r89.1 x88.ids.length r89.2], .agg #[.int .i64 (x92.rule), .slice r93.1 x92.ids.length r93.2]]) [1] [0] rfl rfl rfl (freshS_eq rfl) rfl rfl rfl fn_19 rfl rfl (w_agenda_order_compare_v2_s N qp3 qn4 qc5 u1_4_c0_l x88.rule r89.1 r89.2 x88.ids x92.rule r93.1 r93.2 x92.ids _ hc94) (asK [0,1,2] rfl) rfl (H' := [_]) rfl ?_))))))))))
        rotate_right
        focus
         refine wl_loadRow R_Api_TokenD_opens 0 ((u1_1 - 1).toNat) 0 rfl rfl rfl (freshS_eq rfl) rfl rfl rfl hx88 tS_33 tA_33 (v := fun r89 => .agg #[.int .i64 (x88.rule), .slice r89.1 x88.ids.length r89.2]) (fun _ => rfl) (fun _ => rfl) (fun r89 _ => (wl_nil (we_x [1] [] rfl rfl (xS hok 12 rfl (wl_loadRow R_Api_TokenD_opens 0 j_2_13.toNat 0 rfl rfl rfl (freshS_eq rfl) rfl rfl rfl hx92 tS_33 tA_33 (v := fun r93 => .agg #[.int .i64 (x92.rule), .slice r93.1 x92.ids.length r93.2]) (fun _ => rfl) (fun _ => rfl) (fun r93 _ => (wl_nil (we_x [1,2] [] rfl rfl (xS hok 13 rfl (wl_callDynF (args := [.slice (some qp3) qn4 qc5, .agg #[.int .i64 (x88.rule), .slice r89.1 x88.ids.length r89.2], .agg #[.int .i64 (x92.rule), .slice r93.1 x92.ids.length r93.2]]) [1] [0] rfl rfl rfl (freshS_eq rfl) rfl rfl rfl fn_19 rfl rfl (w_agenda_order_compare_v2_s N qp3 qn4 qc5 u1_4_c0_l x88.rule r89.1 r89.2 x88.ids x92.rule r93.1 r93.2 x92.ids _ hc94) (asK [1,0,2] rfl) rfl (H' := [_]) rfl ?_))))))))))
        all_goals
         rintro _ _ _ ⟨rfl, rfl, rfl⟩
         refine wl_nil (we_x [0,1,2] [] rfl rfl (xP hok 14 rfl (xP hok 15 rfl (xP hok 16 rfl (wx_done hok rfl ?_)))))
         have hE := (Option.some.inj hm).symm
         refine we_pick [1,0] rfl (H' := [_,_]) rfl ?_
         refine we_join (!(decide (v94 < 0))) hE [13,12,11,10,0,1,2,3,4,97] rfl (asK [2] rfl) rfl
       ·
        refine wc_draw [0,1,2,3,4,5,6,7,9,10,11,14,15,16] rfl rfl (fun hok => (xP hok 0 rfl (xP hok 1 rfl (xP hok 2 rfl (wx_as (d := 83) (v' := .bool false) (S' := [_,_,_,_,_,_,_,_,_,_,_]) rfl rfl (bool_is hs83) (xO hok 3 rfl (xO hok 4 rfl (xO hok 5 rfl (xO hok 6 rfl (xO hok 7 rfl (xO hok 9 rfl (xO hok 10 rfl (xO hok 11 rfl ?_)))))))))))))
        refine wx_step2 hok 8 12 rfl rfl rfl rfl rfl rfl ?_ ?_
        rotate_left
        focus
         refine wO rfl (wl_nil (we_x [0] [] rfl rfl (xS hok 8 rfl ?_)))
        rotate_right
        focus
         refine wO rfl (wl_nil (we_x [0] [] rfl rfl (xS hok 12 rfl ?_)))
        all_goals
         refine wO rfl (wl_nil (we_x [0] [] rfl rfl (xS hok 13 rfl (wO rfl (wl_nil (we_x [0] [] rfl rfl (xO hok 14 rfl (xO hok 15 rfl (xP hok 16 rfl (wx_done hok rfl ?_))))))))))
         have hE := (Option.some.inj hm).symm
         refine we_join false hE [13,12,11,10,0,1,2,3,4,97] rfl (asK [0] rfl) rfl
      ·
       rintro j_5_97 hE
       try dsimp only
       have hm := hLj_5
       rw [hE] at hm
       refine wc_cond rfl (fun hb97 => ?_) (fun hb97 => ?_)
       ·
        replace hm := iteT hm hb97
        refine wc_keep [13,11,10,0,1,2,3,4] (S' := [_,_,_,_,_,_,_,_]) rfl (wc_seq (wc_region (wP rfl (wP rfl (wP rfl (wP rfl (wP rfl (wl_ownLen 0 rfl (fun hzj_3_0_n _ => ?_)))))))))
        subst hzj_3_0_n
        obtain ⟨⟨v103_0, v103_1⟩, hc103, hm⟩ := bindO_some hm
        try dsimp only at hm
        refine wC [0,1] [] rfl fn_46 rfl (w_slices_partitionEqualCmpFunc_Token_v2_s N qp0 j_3_0_l.length qc2 j_3_0_l u1_1 u1_2 j_2_13 qp3 qn4 qc5 u1_4_c0_l _ _ hc103) (asK [0] rfl) rfl (H' := []) rfl ?_
        rintro _ _ _ ⟨rfl, rfl, rfl⟩
        refine wP rfl (wl_nil (we_then (wc_keep [15,11,10,0,2,3,4] (S' := [_,_,_,_,_,_,_]) rfl (wc_seq (wc_region (wP rfl (wP rfl (wl_nil (we_then (wc_keep [1,11,10,0,2,3,4] (S' := [_,_,_,_,_,_,_]) rfl (wc_exit (we_then_exit (we_block_hit ?_)))))))))))))
        have hE := (Option.some.inj hm).symm
        replace hE := link_inl hLu1 hE
        refine we_roundK (_, u1_11, u1_10, v103_1, v103_0, u1_2, j_1_3, u1_4_c0_l, j_3_0_l.length) (Nat.lt_succ_self _) hE [11,10,0,1,2,3,4] rfl (asK [0] rfl) rfl
       ·
        replace hm := iteF hm hb97
        refine wc_keep [13,12,0,1,2,3,4] (S' := [_,_,_,_,_,_,_]) rfl (wc_skip (we_then (wc_seq (wc_region (wP rfl (wP rfl (wP rfl (wP rfl (wP rfl (wl_ownLen 0 rfl (fun hzj_3_0_n _ => ?_)))))))))))
        subst hzj_3_0_n
        obtain ⟨⟨v111_0, v111_1, v111_2⟩, hc111, hm⟩ := bindO_some hm
        try dsimp only at hm
        refine wC [0,1] [] rfl fn_47 rfl (w_slices_partitionCmpFunc_Token_v2_s N qp0 j_3_0_l.length qc2 j_3_0_l u1_1 u1_2 j_2_13 qp3 qn4 qc5 u1_4_c0_l _ _ _ hc111) (asK [0] rfl) rfl (H' := []) rfl ?_
        rintro _ _ _ ⟨rfl, rfl, rfl⟩
        refine wP rfl (wP rfl (wP rfl (wP rfl (wP rfl (wl_nil (we_then (wc_keep [17,16,12,0,1,2,3,4] (S' := [_,_,_,_,_,_,_,_]) rfl (wc_seq (wc_region (wP rfl (wP rfl (wl_nil (we_then ?_)))))))))))))
        refine wc_keep [11,16,12,0,1,2,3,4] (S' := [_,_,_,_,_,_,_,_]) rfl (wc_seq (wc_region (wP rfl (wP rfl (wP rfl ?_)))))
        obtain ⟨hg117, hm⟩ := gd_some hm
        refine wl_as (d := 117) (v' := .int .i64 (v111_0 - u1_1)) (S' := [_,_,_,_,_,_,_,_,_,_]) rfl rfl (i64_in hg117) (wP rfl (wP rfl (wP rfl ?_)))
        obtain ⟨hg120, hm⟩ := gd_some hm
        refine wl_as (d := 120) (v' := .int .i64 (u1_2 - v111_0)) (S' := [_,_,_,_,_,_,_,_,_,_,_,_,_]) rfl rfl (i64_in hg120) (wP rfl (wP rfl (wl_nil (we_then (wc_keep [19,18,11,16,12,0,1,2,3,4] (S' := [_,_,_,_,_,_,_,_,_,_]) rfl (wc_seq (wc_region (wP rfl (wl_bin rfl rfl rfl (freshS_eq rfl) rfl rfl rfl (run_quo (by decide)) (wP rfl (wl_nil (we_then (wc_keep [20,19,18,11,16,0,1,2,3,4] (S' := [_,_,_,_,_,_,_,_,_,_]) rfl ?_)))))))))))))
        refine wc_seq (wc_region (wP rfl (wP rfl (wP rfl (wl_nil (we_then (wc_keep [125,20,19,18,11,16,0,1,2,3,4] (S' := [_,_,_,_,_,_,_,_,_,_,_]) rfl ?_)))))))
        refine wc_cond rfl (fun hb125 => ?_) (fun hb125 => ?_)
        ·
         replace hm := iteT hm hb125
         refine wc_keep [20,18,11,16,0,1,2,3,4] (S' := [_,_,_,_,_,_,_,_,_]) rfl (wc_seq (wc_region (wP rfl (wP rfl (wP rfl (wP rfl (wl_nil (we_then (wc_keep [10,11,16,0,1,2,3,4] (S' := [_,_,_,_,_,_,_,_]) rfl (wc_seq (wc_region (wP rfl (wP rfl ?_)))))))))))))
         refine wP rfl (wP rfl (wP rfl (wl_ownLen 0 rfl (fun hz22 _ => (wl_at 4 (v' := .slice qp0 v111_2.length qc2) rfl (by first | rfl | rw [hz22]) (wl_at 8 (v' := .slice qp0 v111_2.length qc2) rfl (by first | rfl | rw [hz22]) (wl_hAs 0 (φ' := .own 33 2 R_Api_TokenD (.slice qp0 v111_2.length qc2) v111_2) rfl (by first | rfl | rw [hz22]) (H' := [_,_]) rfl ?_)))))))
         obtain ⟨⟨v134_0, v134_1⟩, hc134, hm⟩ := bindO_some hm
         try dsimp only at hm
         refine wC [0,1] [] rfl fn_34 rfl (ih qp0 v111_2.length qc2 v111_2 u1_1 v111_0 j_1_3 qp3 qn4 qc5 u1_4_c0_l _ _ hc134) (asK [0] rfl) rfl (H' := []) rfl ?_
         rintro _ _ _ ⟨c134_0, rfl, rfl, rfl⟩
         refine wl_ownLen 0 rfl (fun hzc134_0 _ => ?_)
         subst hzc134_0
         obtain ⟨hrl134_0, hm⟩ := gd_some hm
         refine wl_at 5 (v' := .slice qp0 v134_0.length qc2) rfl (by rw [hrl134_0]) (wl_at 9 (v' := .slice qp0 v134_0.length qc2) rfl (by rw [hrl134_0]) (wl_nil (we_then (wc_keep [10,11,16,0,2,3,4] (S' := [_,_,_,_,_,_,_]) rfl (wc_region (wP rfl (wP rfl ?_)))))))
         obtain ⟨hg136, hm⟩ := gd_some hm
         refine wl_as (d := 136) (v' := .int .i64 (v111_0 + 1)) (S' := [_,_,_,_,_,_,_,_]) rfl rfl (i64_in hg136) (wP rfl (wl_nil (we_block_normal ?_)))
         have hE := (Option.some.inj hm).symm
         replace hE := link_inl hLu1 hE
         refine we_roundK (_, v111_1, decide ((v111_0 - u1_1) ≥ (IntKind.wrap .i64 (Int.tdiv (u1_2 - u1_1) 8))), v134_0, v111_0 + 1, u1_2, j_1_3, v134_1, v134_0.length) (Nat.lt_succ_self _) hE [11,10,0,1,2,3,4] rfl (asK [0] rfl) rfl
        ·
         replace hm := iteF hm hb125
         refine wc_keep [20,19,11,16,0,1,2,3,4] (S' := [_,_,_,_,_,_,_,_,_]) rfl (wc_seq (wc_region (wP rfl (wP rfl (wP rfl (wP rfl (wl_nil (we_then (wc_keep [10,11,16,0,1,2,3,4] (S' := [_,_,_,_,_,_,_,_]) rfl (wc_seq (wc_region (wP rfl (wP rfl ?_)))))))))))))
         refine wP rfl ?_
         obtain ⟨hg142, hm⟩ := gd_some hm
         refine wl_as (d := 142) (v' := .int .i64 (v111_0 + 1)) (S' := [_,_,_,_,_,_,_,_,_,_]) rfl rfl (i64_in hg142) (wP rfl (wP rfl (wP rfl (wl_ownLen 0 rfl (fun hz24 _ => (wl_at 5 (v' := .slice qp0 v111_2.length qc2) rfl (by first | rfl | rw [hz24]) (wl_at 9 (v' := .slice qp0 v111_2.length qc2) rfl (by first | rfl | rw [hz24]) (wl_hAs 0 (φ' := .own 33 2 R_Api_TokenD (.slice qp0 v111_2.length qc2) v111_2) rfl (by first | rfl | rw [hz24]) (H' := [_,_]) rfl ?_))))))))
         obtain ⟨⟨v146_0, v146_1⟩, hc146, hm⟩ := bindO_some hm
         try dsimp only at hm
         refine wC [0,1] [] rfl fn_34 rfl (ih qp0 v111_2.length qc2 v111_2 (v111_0 + 1) u1_2 j_1_3 qp3 qn4 qc5 u1_4_c0_l _ _ hc146) (asK [0] rfl) rfl (H' := []) rfl ?_
         rintro _ _ _ ⟨c146_0, rfl, rfl, rfl⟩
         refine wl_ownLen 0 rfl (fun hzc146_0 _ => ?_)
         subst hzc146_0
         obtain ⟨hrl146_0, hm⟩ := gd_some hm
         refine wl_at 6 (v' := .slice qp0 v146_0.length qc2) rfl (by rw [hrl146_0]) (wl_at 10 (v' := .slice qp0 v146_0.length qc2) rfl (by rw [hrl146_0]) (wl_nil (we_then (wc_keep [10,11,16,0,1,3,4] (S' := [_,_,_,_,_,_,_]) rfl (wc_region (wP rfl (wP rfl (wl_nil (we_block_normal ?_)))))))))
         have hE := (Option.some.inj hm).symm
         replace hE := link_inl hLu1 hE
         refine we_roundK (_, v111_1, decide ((u1_2 - v111_0) ≥ (IntKind.wrap .i64 (Int.tdiv (u1_2 - u1_1) 8))), v146_0, u1_1, v111_0, j_1_3, v146_1, v146_0.length) (Nat.lt_succ_self _) hE [11,10,0,1,2,3,4] rfl (asK [0] rfl) rfl
theorem w_slices_pdqsortCmpFunc_Token_v2_s : ∀ (N : Nat), ∀ (qp0 : Option Addr) (qn1 : Nat) (qc2 : Nat) (l0 : List Api_TokenD) (a1 : Int) (a2 : Int) (a3 : Int) (qp3 : Addr) (qn4 : Nat) (qc5 : Nat) (l4 : List Int) (o0 : List Api_TokenD) (o2 : List Int), m_slices_pdqsortCmpFunc_Token_v2 N l0 a1 a2 a3 l4 = some (o0, o2) → Spec Tryd.prog 34 [.slice qp0 qn1 qc2, .int .i64 a1, .int .i64 a2, .int .i64 a3, .func (.func 19) #[.slice (some qp3) qn4 qc5] #[]] [tabF Tryd.prog "internal/strconv.uint64pow10" .u64 Lib.pow10Tab 0 pow10_g] [.own 33 2 R_Api_TokenD (.slice qp0 qn1 qc2) l0, .own 3 1 R_i64 (.slice (some qp3) qn4 qc5) l4] (fun v Φr Hr => ∃ (o1 : Nat), v = .tuple #[] ∧ Φr = [] ∧ Hr = [.own 33 2 R_Api_TokenD (.slice qp0 o1 qc2) o0, .own 3 1 R_i64 (.slice (some qp3) qn4 qc5) o2]) := by
  intro N
  induction N with
  | zero => intro qp0 qn1 qc2 l0 a1 a2 a3 qp3 qn4 qc5 l4 o0 o2 hm; cases hm
  | succ N ih => intro qp0 qn1 qc2 l0 a1 a2 a3 qp3 qn4 qc5 l4 o0 o2 hm; exact w_slices_pdqsortCmpFunc_Token_v2_s_b N (m_slices_pdqsortCmpFunc_Token_v2 N) ih qp0 qn1 qc2 l0 a1 a2 a3 qp3 qn4 qc5 l4 o0 o2 hm
theorem w_slices_SortFunc_Token_v2_s (N : Nat) (qp0 : Option Addr) (qn1 : Nat) (qc2 : Nat) (l0 : List Api_TokenD) (qp3 : Addr) (qn4 : Nat) (qc5 : Nat) (l1 : List Int) (o0 : List Api_TokenD) (o2 : List Int) (hm : m_slices_SortFunc_Token_v2 N l0 l1 = some (o0, o2)) : Spec Tryd.prog 23 [.slice qp0 qn1 qc2, .func (.func 19) #[.slice (some qp3) qn4 qc5] #[]] [tabF Tryd.prog "internal/strconv.uint64pow10" .u64 Lib.pow10Tab 0 pow10_g] [.own 33 2 R_Api_TokenD (.slice qp0 qn1 qc2) l0, .own 3 1 R_i64 (.slice (some qp3) qn4 qc5) l1] (fun v Φr Hr => ∃ (o1 : Nat), v = .tuple #[] ∧ Φr = [] ∧ Hr = [.own 33 2 R_Api_TokenD (.slice qp0 o1 qc2) o0, .own 3 1 R_i64 (.slice (some qp3) qn4 qc5) o2]) := by
 unfold m_slices_SortFunc_Token_v2 at hm
 refine spec_of Tryd.func23 rfl Tryd.ntmps23 rfl (S := [_,_]) rfl (fun C => (wc_seq (wc_region (wP rfl (wl_ownLen 0 rfl (fun hl6 _ => (wN rfl tE_23 (wl_as (d := 6) (v' := .int .i64 ((l0.length : Nat) : Int)) (S' := [_,_,_]) rfl rfl (len_is hl6) (wP rfl (wl_nil (we_then (wc_keep [4,0,1] (S' := [_,_,_]) rfl (wc_region (wP rfl (wP rfl ?_)))))))))))))))
 refine wP rfl (wl_reck rfl rfl rfl (freshS_eq rfl) (rk_conv rfl rfl tI_3 tI_72) ?_)
 obtain ⟨v11, hc11, hm⟩ := bindO_some hm
 refine wC [] [0,1] rfl fn_35 rfl (w_bits_Len_s N (IntKind.wrap .u64 ((l0.length : Nat) : Int)) _ hc11) (asK [0] rfl) rfl (H' := [_,_]) rfl ?_
 rintro _ _ _ ⟨rfl, rfl, rfl⟩
 refine wP rfl (wl_ownLen 0 rfl (fun hzqn1 _ => ?_))
 subst hzqn1
 obtain ⟨⟨v13_0, v13_1⟩, hc13, hm⟩ := bindO_some hm
 try dsimp only at hm
 refine wC [0,1] [] rfl fn_34 rfl (w_slices_pdqsortCmpFunc_Token_v2_s N qp0 l0.length qc2 l0 0 ((l0.length : Nat) : Int) v11 qp3 qn4 qc5 l1 _ _ hc13) (asK [0] rfl) rfl (H' := []) rfl ?_
 rintro _ _ _ ⟨c13_0, rfl, rfl, rfl⟩
 refine wl_ownLen 0 rfl (fun hzc13_0 _ => ?_)
 subst hzc13_0
 obtain ⟨hrl13_0, hm⟩ := gd_some hm
 refine wl_at 6 (v' := .slice qp0 v13_0.length qc2) rfl (by rw [hrl13_0]) (wl_at 8 (v' := .slice qp0 v13_0.length qc2) rfl (by rw [hrl13_0]) (wl_nil ?_))
 have hE := (Option.some.inj hm).symm
 obtain ⟨hE0, hE1⟩ := Prod.mk.inj hE
 clear hE
 replace hE0 := hE0.symm
 subst hE0
 replace hE1 := hE1.symm
 subst hE1
 refine ret_none (Hr := [_,_]) [0,1] Tryd.results23 ⟨v13_0.length, rfl, rfl, rfl⟩ (asK [] rfl) rfl rfl (.inr rfl)
theorem w_agenda_Agenda_Set_v2_s (N : Nat) (qg0 : Nat) (qp1 : Addr) (qn2 : Nat) (qc3 : Nat) (l0 : List Int) (qp4 : Option Addr) (qn5 : Nat) (qc6 : Nat) (l1 : List Api_TokenD) (qp7 : Option Addr) (qn8 : Nat) (qc9 : Nat) (l2 : List Api_TokenD) (qb10 : Nat) (e3 : List (ByteArray × Bool)) (qp11 : Option Addr) (qc12 : Nat) (l4 : List Api_TokenD) (o0 : Nat) (o1 : List Int) (o4 : List Api_TokenD) (o8 : List Api_TokenD) (o11 : List (ByteArray × Bool)) (hm : m_agenda_Agenda_Set_v2 N l0 l1 l2 e3 l4 = some (o0, o1, o4, o8, o11)) : Spec Tryd.prog 10 [.pointer (some ⟨qg0,0, none⟩), .slice qp11 l4.length qc12] [.sli 2 R_Api_TokenD qp11 qc12 l4, tabF Tryd.prog "internal/strconv.uint64pow10" .u64 Lib.pow10Tab 0 pow10_g] [.blk qg0 [.slice (some qp1) qn2 qc3, .slice qp4 qn5 qc6, .slice qp7 qn8 qc9, .map (some qb10)] 57, .own 3 1 R_i64 (.slice (some qp1) qn2 qc3) l0, .own 33 2 R_Api_TokenD (.slice qp4 qn5 qc6) l1, .own 33 2 R_Api_TokenD (.slice qp7 qn8 qc9) l2, mapP (keyStr (tStr_run tT_9)) false R_bool qb10 e3] (fun v Φr Hr => ∃ (o2 : Option Addr) (o3 : Nat) (o5 : Nat) (o6 : Option Addr) (o7 : Nat) (o9 : Nat) (o10 : Nat), v = .int .i64 ((o0 : Nat) : Int) ∧ Φr = [] ∧ Hr = [.blk qg0 [.slice (some qp1) qn2 qc3, .slice o2 o5 o3, .slice o6 o9 o7, .map (some o10)] 57, .own 3 1 R_i64 (.slice (some qp1) qn2 qc3) o1, .own 33 2 R_Api_TokenD (.slice o2 o5 o3) o4, .own 33 2 R_Api_TokenD (.slice o6 o9 o7) o8, mapP (keyStr (tStr_run tT_9)) false R_bool o10 o11]) := by
 unfold m_agenda_Agenda_Set_v2 at hm
 refine spec_of Tryd.func10 rfl Tryd.ntmps10 rfl (S := [_,_]) rfl (fun C => (wc_seq (wc_region (wP rfl (wl_nil (we_then (wc_keep [0,1] (S' := [_,_]) rfl (wc_seq (wc_seq (wc_region (wP rfl ?_)))))))))))
 obtain ⟨_, hc13, hm⟩ := bindO_some hm
 try dsimp only at hm
 refine wC [0,1,2,3,4] [] rfl fn_20 rfl (w_agenda_Agenda_known_v2_s N qg0 qp1 qn2 qc3 l0 qp4 qn5 qc6 l1 qp7 qn8 qc9 l2 qb10 e3 hc13) (asK [1] rfl) rfl (H' := []) rfl ?_
 rintro _ _ _ ⟨rfl, rfl, rfl⟩
 refine wP rfl (wl_nil (we_then (wc_keep [14,0,1] (S' := [_,_,_]) rfl (wc_false rfl (wc_keep [0,1] (S' := [_,_]) rfl (wc_skip (we_then (wc_seq (wc_region (wl_makeMapP (keyStr (tStr_run tT_9)) false R_bool rfl rfl rfl (freshS_eq rfl) rfl (fun g15 => (wP rfl (wl_nil (we_then ?_))))))))))))))
 refine wc_keep [5,0,1] (S' := [_,_,_]) rfl (wc_seq ?_)
 obtain ⟨bj_1, hm, hLj_1⟩ := bindS_some hm
 refine wc_cut (σ := Unit) (fun _ => bj_1 = .inl ()) (fun _ => [(0, .pointer (some ⟨qg0,0, none⟩)), (1, .slice qp11 l4.length qc12)]) (fun _ => [.sli 2 R_Api_TokenD qp11 qc12 l4, tabF Tryd.prog "internal/strconv.uint64pow10" .u64 Lib.pow10Tab 0 pow10_g]) (fun _ => [.blk qg0 [.slice (some qp1) qn2 qc3, .slice qp4 qn5 qc6, .slice qp7 qn8 qc9, .map (some qb10)] 57, .own 3 1 R_i64 (.slice (some qp1) qn2 qc3) l0, .own 33 2 R_Api_TokenD (.slice qp4 qn5 qc6) l1, .own 33 2 R_Api_TokenD (.slice qp7 qn8 qc9) l2, mapP (keyStr (tStr_run tT_9)) false R_bool qb10 e3]) ?_ ?_
 ·
  refine wc_seq (wc_region (wP rfl (wN rfl tE_23 (wP rfl (wl_nil (we_then (wc_block (wc_loop (σ := Nat × Nat × (List (ByteArray × Bool))) (fun (nu1, u1_18, u1_5_m) => iter (m_agenda_Agenda_Set_v2_L1 N l4 l0 l1 l2 e3) nu1 (u1_18, u1_5_m) = some bj_1) (fun (nu1, u1_18, u1_5_m) => nu1) (fun (nu1, u1_18, u1_5_m) => [(18, .int .i64 ((u1_18 : Nat) : Int)), (17, .int .i64 ((l4.length : Nat) : Int)), (16, .slice qp11 l4.length qc12), (5, .map (some g15)), (0, .pointer (some ⟨qg0,0, none⟩)), (1, .slice qp11 l4.length qc12)]) (fun (nu1, u1_18, u1_5_m) => [.sli 2 R_Api_TokenD qp11 qc12 l4, tabF Tryd.prog "internal/strconv.uint64pow10" .u64 Lib.pow10Tab 0 pow10_g]) (fun (nu1, u1_18, u1_5_m) => [mapP (keyStr (tStr_run tT_9)) false R_bool g15 u1_5_m, .blk qg0 [.slice (some qp1) qn2 qc3, .slice qp4 qn5 qc6, .slice qp7 qn8 qc9, .map (some qb10)] 57, .own 3 1 R_i64 (.slice (some qp1) qn2 qc3) l0, .own 33 2 R_Api_TokenD (.slice qp4 qn5 qc6) l1, .own 33 2 R_Api_TokenD (.slice qp7 qn8 qc9) l2, mapP (keyStr (tStr_run tT_9)) false R_bool qb10 e3]) (N, 0, ([] : List (ByteArray × Bool))) hm [18,17,16,5,0,1] rfl (asK [0,1] rfl) rfl (fun s_ hm => ?_)))))))))
  obtain ⟨nu1, u1_18, u1_5_m⟩ := s_
  try dsimp only at hm ⊢
  obtain ⟨mu1, bu1, hnu1, hq, hLu1⟩ := iter_some hm
  clear hm
  subst hnu1
  replace hm := hq
  clear hq
  unfold m_agenda_Agenda_Set_v2_L1 at hm
  try dsimp only at hm
  refine wc_seq (wc_region (wP rfl (wl_as (d := 19) (v' := .bool (decide (u1_18 < l4.length))) (S' := [_,_,_,_,_,_]) rfl rfl (natlt (a := u1_18) (b := l4.length)) (wl_nil (we_then (wc_seq ?_))))))
  refine wc_cond rfl (fun hb19 => ?_) (fun hb19 => ?_)
  ·
   replace hm := iteT hm hb19
   refine wc_keep [18,17,16,5,0,1] (S' := [_,_,_,_,_,_]) rfl (wc_skip (we_then (wc_seq (wc_block (wc_seq (wc_region ?_))))))
   obtain ⟨x20, hx20, hm⟩ := bindO_some hm
   refine wl_indexA 0 u1_18 rfl rfl rfl (freshS_eq rfl) rfl rfl rfl rfl rfl hx20 tE_23 tS_33 (fun b20 q20 cs20 hlx20 => (wl_open R_Api_TokenD_opens 1 rfl (fun r20 er20 _ => ?_)))
   subst er20
   refine wl_load 1 0 rfl rfl rfl (freshS_eq rfl) rfl rfl rfl (cs := [_,_]) rfl tS_33 tA_33 rfl rfl (wl_alloc rfl rfl rfl (freshS_eq rfl) rfl tZ_33 rfl (fun g7 => (wS 0 0 rfl tS_33 (all' := [_,_]) rfl (H' := [_,_,_,_,_,_,_]) rfl (wl_nil (we_then (wc_keep [7,18,17,16,5,0,1] (S' := [_,_,_,_,_,_,_]) rfl (wc_seq (wc_seq ?_))))))))
   obtain ⟨bj_2, hm, hLj_2⟩ := bindO_some hm
   unfold m_agenda_Agenda_Set_v2_C2 at hm
   refine wc_cut (σ := Bool) (fun j_2_40 => bj_2 = j_2_40) (fun j_2_40 => [(7, .pointer (some ⟨g7,0, none⟩)), (18, .int .i64 ((u1_18 : Nat) : Int)), (17, .int .i64 ((l4.length : Nat) : Int)), (16, .slice qp11 l4.length qc12), (5, .map (some g15)), (0, .pointer (some ⟨qg0,0, none⟩)), (1, .slice qp11 l4.length qc12), (40, .bool j_2_40)]) (fun j_2_40 => [.sli 1 R_i64 r20.1 r20.2 x20.ids, .sli 2 R_Api_TokenD qp11 qc12 l4, tabF Tryd.prog "internal/strconv.uint64pow10" .u64 Lib.pow10Tab 0 pow10_g]) (fun j_2_40 => [.blk g7 [.int .i64 (x20.rule), .slice r20.1 x20.ids.length r20.2] 33, mapP (keyStr (tStr_run tT_9)) false R_bool g15 u1_5_m, .blk qg0 [.slice (some qp1) qn2 qc3, .slice qp4 qn5 qc6, .slice qp7 qn8 qc9, .map (some qb10)] 57, .own 3 1 R_i64 (.slice (some qp1) qn2 qc3) l0, .own 33 2 R_Api_TokenD (.slice qp4 qn5 qc6) l1, .own 33 2 R_Api_TokenD (.slice qp7 qn8 qc9) l2, mapP (keyStr (tStr_run tT_9)) false R_bool qb10 e3]) ?_ ?_
   ·
    rcases ite_some hm with ⟨hs25, hm⟩ | ⟨hs25, hm⟩
    ·
     refine wc_draw [0,1,2,3,4,5,6,7,8,9,10,11,12,13,14,15,18] rfl rfl (fun hok => (wx_fieldAddr hok 0 rfl rfl rfl (freshS_eq rfl) rfl rfl rfl tF_33_0 (wx_loadH hok 1 0 0 rfl rfl rfl (freshS_eq rfl) rfl rfl rfl rfl (cs := [_]) rfl tS_3 tA_3 rfl rfl (xP hok 2 rfl (xP hok 3 rfl (wx_as (d := 25) (v' := .bool true) (S' := [_,_,_,_,_,_,_,_,_,_]) rfl rfl (bool_is hs25) (xO hok 4 rfl (xO hok 5 rfl (xO hok 6 rfl (xO hok 7 rfl (xO hok 8 rfl (xO hok 9 rfl (xO hok 10 rfl (xO hok 11 rfl ?_))))))))))))))
     refine xP hok 12 rfl (xP hok 13 rfl (xO hok 14 rfl (xO hok 15 rfl (xS hok 16 rfl (wO rfl (wl_nil (we_x [0,1,2,3,4] [0] rfl rfl (xS hok 17 rfl (wO rfl (wl_nil (we_x [0,1,2,3,4] [0] rfl rfl (xP hok 18 rfl (wx_done hok rfl ?_)))))))))))))
     have hE := (Option.some.inj hm).symm
     refine we_join true hE [7,18,17,16,5,0,1,40] rfl (asK [0,3,4] rfl) rfl
    ·
     rcases ite_some hm with ⟨hs35, hm⟩ | ⟨hs35, hm⟩
     ·
      refine wc_draw [0,1,2,3,4,5,6,7,8,9,10,11,12,13,14,15,18] rfl rfl (fun hok => (wx_fieldAddr hok 0 rfl rfl rfl (freshS_eq rfl) rfl rfl rfl tF_33_0 (wx_loadH hok 1 0 0 rfl rfl rfl (freshS_eq rfl) rfl rfl rfl rfl (cs := [_]) rfl tS_3 tA_3 rfl rfl (xP hok 2 rfl (xP hok 3 rfl (wx_as (d := 25) (v' := .bool false) (S' := [_,_,_,_,_,_,_,_,_,_]) rfl rfl (bool_is hs25) (wx_fieldAddr hok 4 rfl rfl rfl (freshS_eq rfl) rfl rfl rfl tF_33_0 (wx_loadH hok 5 0 0 rfl rfl rfl (freshS_eq rfl) rfl rfl rfl rfl (cs := [_]) rfl tS_3 tA_3 rfl rfl (xP hok 6 rfl (xP hok 7 rfl (wx_fieldAddr hok 8 rfl rfl rfl (freshS_eq rfl) rfl rfl rfl tF_57_0 (wx_loadH hok 9 2 0 rfl rfl rfl (freshS_eq rfl) rfl rfl rfl rfl (cs := [_]) rfl tS_52 tA_52 rfl rfl (wx_ownLen 3 rfl (fun hl32 _ => (wx_len hok 10 rfl rfl rfl (freshS_eq rfl) rfl rfl rfl tE_52 ?_)))))))))))))))
      refine wx_as (d := 32) (v' := .int .i64 ((l0.length : Nat) : Int)) (S' := [_,_,_,_,_,_,_,_,_,_,_,_,_,_,_,_,_]) rfl rfl (len_is hl32) (xP hok 11 rfl (xP hok 12 rfl (xP hok 13 rfl (wx_as (d := 35) (v' := .bool true) (S' := [_,_,_,_,_,_,_,_,_,_,_,_,_,_,_,_,_,_,_,_]) rfl rfl (bool_is hs35) (xO hok 14 rfl (xO hok 15 rfl (xS hok 16 rfl (wO rfl (wl_nil (we_x [0,1,2,3,4] [2,0,0] rfl rfl (xS hok 17 rfl (wO rfl (wl_nil ?_)))))))))))))
      refine we_x [0,1,2,3,4] [2,0,0] rfl rfl (xP hok 18 rfl (wx_done hok rfl ?_))
      have hE := (Option.some.inj hm).symm
      refine we_join true hE [7,18,17,16,5,0,1,40] rfl (asK [0,3,4] rfl) rfl
     ·
      obtain ⟨v38, hc38, hm⟩ := bindO_some hm
      rcases optE_some hm with ⟨hq39, hm⟩ | ⟨x39, hq39, hm⟩
      ·
       refine wc_draw [0,1,2,3,4,5,6,7,8,9,10,11,12,13,14,15,18] rfl rfl (fun hok => (wx_fieldAddr hok 0 rfl rfl rfl (freshS_eq rfl) rfl rfl rfl tF_33_0 (wx_loadH hok 1 0 0 rfl rfl rfl (freshS_eq rfl) rfl rfl rfl rfl (cs := [_]) rfl tS_3 tA_3 rfl rfl (xP hok 2 rfl (xP hok 3 rfl (wx_as (d := 25) (v' := .bool false) (S' := [_,_,_,_,_,_,_,_,_,_]) rfl rfl (bool_is hs25) (wx_fieldAddr hok 4 rfl rfl rfl (freshS_eq rfl) rfl rfl rfl tF_33_0 (wx_loadH hok 5 0 0 rfl rfl rfl (freshS_eq rfl) rfl rfl rfl rfl (cs := [_]) rfl tS_3 tA_3 rfl rfl (xP hok 6 rfl (xP hok 7 rfl (wx_fieldAddr hok 8 rfl rfl rfl (freshS_eq rfl) rfl rfl rfl tF_57_0 (wx_loadH hok 9 2 0 rfl rfl rfl (freshS_eq rfl) rfl rfl rfl rfl (cs := [_]) rfl tS_52 tA_52 rfl rfl (wx_ownLen 3 rfl (fun hl32 _ => (wx_len hok 10 rfl rfl rfl (freshS_eq rfl) rfl rfl rfl tE_52 ?_)))))))))))))))
       refine wx_as (d := 32) (v' := .int .i64 ((l0.length : Nat) : Int)) (S' := [_,_,_,_,_,_,_,_,_,_,_,_,_,_,_,_,_]) rfl rfl (len_is hl32) (xP hok 11 rfl (xP hok 12 rfl (xP hok 13 rfl (wx_as (d := 35) (v' := .bool false) (S' := [_,_,_,_,_,_,_,_,_,_,_,_,_,_,_,_,_,_,_,_]) rfl rfl (bool_is hs35) (xP hok 14 rfl (wx_loadH hok 15 0 0 rfl rfl rfl (freshS_eq rfl) rfl rfl rfl rfl (cs := [_,_]) rfl tS_33 tA_33 rfl rfl (xS hok 16 rfl (wC [] [0,1,2,3,4,5,6] rfl fn_21 rfl (w_agenda_name_s N x20.rule r20.1 r20.2 x20.ids _ hc38) (asK [0,4] rfl) rfl (H' := [_,_,_,_,_,_,_]) rfl ?_))))))))
       rintro _ _ _ ⟨rfl, rfl, rfl⟩
       refine wl_nil (we_x [0,1,2,3,4] [2,0,0] rfl rfl (xS hok 17 rfl (wl_lookNoP (i := v38) 1 rfl rfl rfl (freshS_eq rfl) rfl rfl rfl rfl tZ_4 tM_55 trivial hq39 (v := .bool false) rfl (wl_nil (we_x [0,1,2,3,4] [0,2,0,0] rfl rfl (xP hok 18 rfl (wx_done hok rfl ?_)))))))
       have hE := (Option.some.inj hm).symm
       refine we_join false hE [7,18,17,16,5,0,1,40] rfl (asK [0,3,4] rfl) rfl
      ·
       refine wc_draw [0,1,2,3,4,5,6,7,8,9,10,11,12,13,14,15,18] rfl rfl (fun hok => (wx_fieldAddr hok 0 rfl rfl rfl (freshS_eq rfl) rfl rfl rfl tF_33_0 (wx_loadH hok 1 0 0 rfl rfl rfl (freshS_eq rfl) rfl rfl rfl rfl (cs := [_]) rfl tS_3 tA_3 rfl rfl (xP hok 2 rfl (xP hok 3 rfl (wx_as (d := 25) (v' := .bool false) (S' := [_,_,_,_,_,_,_,_,_,_]) rfl rfl (bool_is hs25) (wx_fieldAddr hok 4 rfl rfl rfl (freshS_eq rfl) rfl rfl rfl tF_33_0 (wx_loadH hok 5 0 0 rfl rfl rfl (freshS_eq rfl) rfl rfl rfl rfl (cs := [_]) rfl tS_3 tA_3 rfl rfl (xP hok 6 rfl (xP hok 7 rfl (wx_fieldAddr hok 8 rfl rfl rfl (freshS_eq rfl) rfl rfl rfl tF_57_0 (wx_loadH hok 9 2 0 rfl rfl rfl (freshS_eq rfl) rfl rfl rfl rfl (cs := [_]) rfl tS_52 tA_52 rfl rfl (wx_ownLen 3 rfl (fun hl32 _ => (wx_len hok 10 rfl rfl rfl (freshS_eq rfl) rfl rfl rfl tE_52 ?_)))))))))))))))
       refine wx_as (d := 32) (v' := .int .i64 ((l0.length : Nat) : Int)) (S' := [_,_,_,_,_,_,_,_,_,_,_,_,_,_,_,_,_]) rfl rfl (len_is hl32) (xP hok 11 rfl (xP hok 12 rfl (xP hok 13 rfl (wx_as (d := 35) (v' := .bool false) (S' := [_,_,_,_,_,_,_,_,_,_,_,_,_,_,_,_,_,_,_,_]) rfl rfl (bool_is hs35) (xP hok 14 rfl (wx_loadH hok 15 0 0 rfl rfl rfl (freshS_eq rfl) rfl rfl rfl rfl (cs := [_,_]) rfl tS_33 tA_33 rfl rfl (xS hok 16 rfl (wC [] [0,1,2,3,4,5,6] rfl fn_21 rfl (w_agenda_name_s N x20.rule r20.1 r20.2 x20.ids _ hc38) (asK [0,4] rfl) rfl (H' := [_,_,_,_,_,_,_]) rfl ?_))))))))
       rintro _ _ _ ⟨rfl, rfl, rfl⟩
       refine wl_nil (we_x [0,1,2,3,4] [2,0,0] rfl rfl (xS hok 17 rfl (wl_lookYesP (i := v38) (a := x39) R_bool_opens 1 rfl rfl rfl (freshS_eq rfl) rfl rfl rfl rfl tM_55 trivial hq39 (u := fun _ => .bool x39) (fun _ => rfl) (v := fun _ => .bool x39) (fun _ => rfl) (fun _ _ => (wl_nil (we_x [0,1,2,3,4] [0,2,0,0] rfl rfl (xP hok 18 rfl (wx_done hok rfl ?_))))))))
       have hE := (Option.some.inj hm).symm
       refine we_join x39 hE [7,18,17,16,5,0,1,40] rfl (asK [0,3,4] rfl) rfl
   ·
    rintro j_2_40 hE
    try dsimp only
    have hm := hLj_2
    rw [hE] at hm
    refine wc_cond rfl (fun hb40 => ?_) (fun hb40 => ?_)
    ·
     replace hm := iteT hm hb40
     refine wc_keep [] (S' := []) rfl (wc_seq (wc_region (wP rfl (wl_nil (we_then (wc_ret (we_then_ret (we_block_ret (we_then_ret (we_then_ret (we_block_ret (we_then_ret ?_))))))))))))
     have hE := (Option.some.inj hm).symm
     replace hE := link_inr hLu1 hE
     replace hE := link_inr hLj_1 hE
     obtain ⟨hE0, hF1⟩ := Prod.mk.inj hE
     obtain ⟨hE1, hF2⟩ := Prod.mk.inj hF1
     obtain ⟨hE2, hF3⟩ := Prod.mk.inj hF2
     obtain ⟨hE3, hE4⟩ := Prod.mk.inj hF3
     clear hE hF1 hF2 hF3
     replace hE0 := hE0.symm
     subst hE0
     replace hE1 := hE1.symm
     subst hE1
     replace hE2 := hE2.symm
     subst hE2
     replace hE3 := hE3.symm
     subst hE3
     replace hE4 := hE4.symm
     subst hE4
     refine ret_one (Hr := [_,_,_,_,_]) [2,3,4,5,6] Tryd.results10 (res_tmp rfl) ⟨qp4, qc6, qn5, qp7, qc9, qn8, qb10, rfl, rfl, rfl⟩ (asK [] rfl) rfl rfl (.inl rfl)
    ·
     replace hm := iteF hm hb40
     refine wc_keep [7,18,17,16,5,0,1] (S' := [_,_,_,_,_,_,_]) rfl (wc_skip (we_then (wc_region (wP rfl (wl_loadH 0 0 rfl rfl rfl (freshS_eq rfl) rfl rfl rfl (cs := [_,_]) rfl tS_33 tA_33 rfl rfl ?_)))))
     obtain ⟨v43, hc43, hm⟩ := bindO_some hm
     refine wC [] [0,1,2,3,4,5,6] rfl fn_21 rfl (w_agenda_name_s N x20.rule r20.1 r20.2 x20.ids _ hc43) (asK [0,2] rfl) rfl (H' := [_,_,_,_,_,_,_]) rfl ?_
     rintro _ _ _ ⟨rfl, rfl, rfl⟩
     refine wl_mapPutP (i := v43) (u := true) (cs := [.bool true]) ltB 1 rfl rfl (.inl rfl) rfl rfl rfl rfl tM_55 trivial rfl (fun F w hφ => ⟨(), rfl, ask_nil⟩) (H' := [.blk g7 [.int .i64 (x20.rule), .slice r20.1 x20.ids.length r20.2] 33, mapP (keyStr (tStr_run tT_9)) false R_bool g15 (mputP ltB v43 true u1_5_m), .blk qg0 [.slice (some qp1) qn2 qc3, .slice qp4 qn5 qc6, .slice qp7 qn8 qc9, .map (some qb10)] 57, .own 3 1 R_i64 (.slice (some qp1) qn2 qc3) l0, .own 33 2 R_Api_TokenD (.slice qp4 qn5 qc6) l1, .own 33 2 R_Api_TokenD (.slice qp7 qn8 qc9) l2, mapP (keyStr (tStr_run tT_9)) false R_bool qb10 e3]) rfl (wl_nil (we_block_normal (we_then (wc_keep [18,17,16,5,0,1] (S' := [_,_,_,_,_,_]) rfl (wc_region (wP rfl ?_))))))
     obtain ⟨hg44, hm⟩ := gd_some hm
     refine wl_as (d := 44) (v' := .int .i64 ((u1_18 + 1 : Nat) : Int)) (S' := [_,_,_,_,_,_]) rfl rfl (nat_add (a := u1_18) (b := 1) hg44) (wl_pure (S' := [_,_,_,_,_,_]) rfl rfl rfl rfl rfl (wl_nil ?_))
     have hE := (Option.some.inj hm).symm
     replace hE := link_inl hLu1 hE
     refine we_pick [1,2,3,4,5,6] rfl (H' := [_,_,_,_,_,_]) rfl ?_
     refine we_roundK (_, u1_18 + 1, mputP ltB v43 true u1_5_m) (Nat.lt_succ_self _) hE [18,17,16,5,0,1] rfl (asK [1,2] rfl) rfl
  ·
   replace hm := iteF hm hb19
   refine wc_keep [0,1] (S' := [_,_]) rfl (wc_exit (we_then_exit (we_then_exit (we_block_hit ?_))))
   have hE := (Option.some.inj hm).symm
   replace hE := link_inr hLu1 hE
   refine we_pick [1,2,3,4,5] rfl (H' := [_,_,_,_,_]) rfl ?_
   refine we_join () hE [0,1] rfl (asK [0,1] rfl) rfl
 ·
  rintro _ hE
  try dsimp only
  have hm := link_inl hLj_1 hE
  try dsimp only at hm
  refine wc_seq (wc_region (wP rfl (wP rfl (wP rfl (wF rfl tF_57_1 (wS 0 1 rfl tS_23 (all' := [_,_,_,_]) rfl (H' := [_,_,_,_,_]) rfl (wP rfl (wF rfl tF_57_2 (wS 0 2 rfl tS_23 (all' := [_,_,_,_]) rfl (H' := [_,_,_,_,_]) rfl (wl_nil (we_then (wc_keep [0,1] (S' := [_,_]) rfl (wc_seq ?_)))))))))))))
  refine wc_region (wl_makeMapP (keyStr (tStr_run tT_9)) false R_bool rfl rfl rfl (freshS_eq rfl) rfl (fun g51 => (wP rfl (wl_nil (we_then (wc_keep [8,0,1] (S' := [_,_,_]) rfl (wc_seq ?_)))))))
  obtain ⟨bj_3, hm, hLj_3⟩ := bindO_some hm
  refine wc_cut (σ := (List (ByteArray × Bool)) × (List Api_TokenD) × (List Api_TokenD) × (Option Addr) × Nat × Nat × (Option Addr) × Nat × Nat) (fun (j_3_8_m, j_3_0_f1_l, j_3_0_f2_l, j_3_0_f1_p, j_3_0_f1_c, j_3_0_f1_n, j_3_0_f2_p, j_3_0_f2_c, j_3_0_f2_n) => bj_3 = (j_3_8_m, j_3_0_f1_l, j_3_0_f2_l)) (fun (j_3_8_m, j_3_0_f1_l, j_3_0_f2_l, j_3_0_f1_p, j_3_0_f1_c, j_3_0_f1_n, j_3_0_f2_p, j_3_0_f2_c, j_3_0_f2_n) => [(8, .map (some g51)), (0, .pointer (some ⟨qg0,0, none⟩))]) (fun (j_3_8_m, j_3_0_f1_l, j_3_0_f2_l, j_3_0_f1_p, j_3_0_f1_c, j_3_0_f1_n, j_3_0_f2_p, j_3_0_f2_c, j_3_0_f2_n) => [tabF Tryd.prog "internal/strconv.uint64pow10" .u64 Lib.pow10Tab 0 pow10_g]) (fun (j_3_8_m, j_3_0_f1_l, j_3_0_f2_l, j_3_0_f1_p, j_3_0_f1_c, j_3_0_f1_n, j_3_0_f2_p, j_3_0_f2_c, j_3_0_f2_n) => [mapP (keyStr (tStr_run tT_9)) false R_bool g51 j_3_8_m, .blk qg0 [.slice (some qp1) qn2 qc3, .slice j_3_0_f1_p j_3_0_f1_n j_3_0_f1_c, .slice j_3_0_f2_p j_3_0_f2_n j_3_0_f2_c, .map (some qb10)] 57, .own 3 1 R_i64 (.slice (some qp1) qn2 qc3) l0, treeF T_Api_TokenD 33 2 (.slice j_3_0_f1_p j_3_0_f1_n j_3_0_f1_c) j_3_0_f1_l, treeF T_Api_TokenD 33 2 (.slice j_3_0_f2_p j_3_0_f2_n j_3_0_f2_c) j_3_0_f2_l, mapP (keyStr (tStr_run tT_9)) false R_bool qb10 e3, .own 33 2 R_Api_TokenD (.slice qp4 qn5 qc6) l1, .own 33 2 R_Api_TokenD (.slice qp7 qn8 qc9) l2]) ?_ ?_
  ·
   refine wc_seq (wc_region (wP rfl (wN rfl tE_23 (wP rfl (wl_nil (we_then (wc_keep [54,53,52,8,0] (S' := [_,_,_,_,_]) rfl (wc_block (wc_sh [treeF T_Api_TokenD 33 2 (.slice none 0 0) [],_,_,_,_,_,_] (fun _ h => h.treeNil T_Api_TokenD 33 2) (wc_sh [treeF T_Api_TokenD 33 2 (.slice none 0 0) [],_,_,_,_,_,_,_] (fun _ h => h.treeNil T_Api_TokenD 33 2) (wc_pick [2,3,4,1,0,7,5,6] rfl (H' := [_,_,_,_,_,_,_,_]) rfl (wc_loop (σ := Nat × Nat × (List (ByteArray × Bool)) × (List Api_TokenD) × (List Api_TokenD) × (Option Addr) × Nat × Nat × (Option Addr) × Nat × Nat) (fun (nu2, u2_54, u2_8_m, u2_0_f1_l, u2_0_f2_l, u2_0_f1_p, u2_0_f1_c, u2_0_f1_n, u2_0_f2_p, u2_0_f2_c, u2_0_f2_n) => iter (m_agenda_Agenda_Set_v2_L2 N l4 e3) nu2 (u2_54, u2_8_m, u2_0_f1_l, u2_0_f2_l) = some bj_3) (fun (nu2, u2_54, u2_8_m, u2_0_f1_l, u2_0_f2_l, u2_0_f1_p, u2_0_f1_c, u2_0_f1_n, u2_0_f2_p, u2_0_f2_c, u2_0_f2_n) => nu2) (fun (nu2, u2_54, u2_8_m, u2_0_f1_l, u2_0_f2_l, u2_0_f1_p, u2_0_f1_c, u2_0_f1_n, u2_0_f2_p, u2_0_f2_c, u2_0_f2_n) => [(54, .int .i64 ((u2_54 : Nat) : Int)), (53, .int .i64 ((l4.length : Nat) : Int)), (52, .slice qp11 l4.length qc12), (8, .map (some g51)), (0, .pointer (some ⟨qg0,0, none⟩))]) (fun (nu2, u2_54, u2_8_m, u2_0_f1_l, u2_0_f2_l, u2_0_f1_p, u2_0_f1_c, u2_0_f1_n, u2_0_f2_p, u2_0_f2_c, u2_0_f2_n) => [.sli 2 R_Api_TokenD qp11 qc12 l4, tabF Tryd.prog "internal/strconv.uint64pow10" .u64 Lib.pow10Tab 0 pow10_g]) (fun (nu2, u2_54, u2_8_m, u2_0_f1_l, u2_0_f2_l, u2_0_f1_p, u2_0_f1_c, u2_0_f1_n, u2_0_f2_p, u2_0_f2_c, u2_0_f2_n) => [mapP (keyStr (tStr_run tT_9)) false R_bool g51 u2_8_m, .blk qg0 [.slice (some qp1) qn2 qc3, .slice u2_0_f1_p u2_0_f1_n u2_0_f1_c, .slice u2_0_f2_p u2_0_f2_n u2_0_f2_c, .map (some qb10)] 57, .own 3 1 R_i64 (.slice (some qp1) qn2 qc3) l0, treeF T_Api_TokenD 33 2 (.slice u2_0_f1_p u2_0_f1_n u2_0_f1_c) u2_0_f1_l, treeF T_Api_TokenD 33 2 (.slice u2_0_f2_p u2_0_f2_n u2_0_f2_c) u2_0_f2_l, mapP (keyStr (tStr_run tT_9)) false R_bool qb10 e3, .own 33 2 R_Api_TokenD (.slice qp4 qn5 qc6) l1, .own 33 2 R_Api_TokenD (.slice qp7 qn8 qc9) l2]) (N, 0, ([] : List (ByteArray × Bool)), [],[], none, 0,0, none, 0,0) hm [54,53,52,8,0] rfl (asK [0,1] rfl) rfl (fun s_ hm => ?_)))))))))))))
   obtain ⟨nu2, u2_54, u2_8_m, u2_0_f1_l, u2_0_f2_l, u2_0_f1_p, u2_0_f1_c, u2_0_f1_n, u2_0_f2_p, u2_0_f2_c, u2_0_f2_n⟩ := s_
   try dsimp only at hm ⊢
   obtain ⟨mu2, bu2, hnu2, hq, hLu2⟩ := iter_some hm
   clear hm
   subst hnu2
   replace hm := hq
   clear hq
   unfold m_agenda_Agenda_Set_v2_L2 at hm
   try dsimp only at hm
   refine wc_seq (wc_region (wP rfl (wl_as (d := 55) (v' := .bool (decide (u2_54 < l4.length))) (S' := [_,_,_,_,_]) rfl rfl (natlt (a := u2_54) (b := l4.length)) (wl_nil (we_then (wc_seq ?_))))))
   refine wc_cond rfl (fun hb55 => ?_) (fun hb55 => ?_)
   ·
    replace hm := iteT hm hb55
    refine wc_keep [54,53,52,8,0] (S' := [_,_,_,_,_]) rfl (wc_skip (we_then (wc_seq ?_)))
    obtain ⟨bj_4, hm, hLj_4⟩ := bindO_some hm
    unfold m_agenda_Agenda_Set_v2_C4 at hm
    refine wc_cut (σ := (List (ByteArray × Bool)) × (List Api_TokenD) × (List Api_TokenD) × (Option Addr) × Nat × Nat × (Option Addr) × Nat × Nat) (fun (j_4_8_m, j_4_0_f1_l, j_4_0_f2_l, j_4_0_f1_p, j_4_0_f1_c, j_4_0_f1_n, j_4_0_f2_p, j_4_0_f2_c, j_4_0_f2_n) => bj_4 = (j_4_8_m, j_4_0_f1_l, j_4_0_f2_l)) (fun (j_4_8_m, j_4_0_f1_l, j_4_0_f2_l, j_4_0_f1_p, j_4_0_f1_c, j_4_0_f1_n, j_4_0_f2_p, j_4_0_f2_c, j_4_0_f2_n) => [(54, .int .i64 ((u2_54 : Nat) : Int)), (53, .int .i64 ((l4.length : Nat) : Int)), (52, .slice qp11 l4.length qc12), (8, .map (some g51)), (0, .pointer (some ⟨qg0,0, none⟩))]) (fun (j_4_8_m, j_4_0_f1_l, j_4_0_f2_l, j_4_0_f1_p, j_4_0_f1_c, j_4_0_f1_n, j_4_0_f2_p, j_4_0_f2_c, j_4_0_f2_n) => [.sli 2 R_Api_TokenD qp11 qc12 l4, tabF Tryd.prog "internal/strconv.uint64pow10" .u64 Lib.pow10Tab 0 pow10_g]) (fun (j_4_8_m, j_4_0_f1_l, j_4_0_f2_l, j_4_0_f1_p, j_4_0_f1_c, j_4_0_f1_n, j_4_0_f2_p, j_4_0_f2_c, j_4_0_f2_n) => [mapP (keyStr (tStr_run tT_9)) false R_bool g51 j_4_8_m, .blk qg0 [.slice (some qp1) qn2 qc3, .slice j_4_0_f1_p j_4_0_f1_n j_4_0_f1_c, .slice j_4_0_f2_p j_4_0_f2_n j_4_0_f2_c, .map (some qb10)] 57, .own 3 1 R_i64 (.slice (some qp1) qn2 qc3) l0, treeF T_Api_TokenD 33 2 (.slice j_4_0_f1_p j_4_0_f1_n j_4_0_f1_c) j_4_0_f1_l, treeF T_Api_TokenD 33 2 (.slice j_4_0_f2_p j_4_0_f2_n j_4_0_f2_c) j_4_0_f2_l, mapP (keyStr (tStr_run tT_9)) false R_bool qb10 e3, .own 33 2 R_Api_TokenD (.slice qp4 qn5 qc6) l1, .own 33 2 R_Api_TokenD (.slice qp7 qn8 qc9) l2]) ?_ ?_
    ·
     refine wc_block (wc_seq (wc_region ?_))
     obtain ⟨x56, hx56, hm⟩ := bindO_some hm
     refine wl_indexA 0 u2_54 rfl rfl rfl (freshS_eq rfl) rfl rfl rfl rfl rfl hx56 tE_23 tS_33 (fun b56 q56 cs56 hlx56 => (wl_open R_Api_TokenD_opens 1 rfl (fun r56 er56 _ => ?_)))
     subst er56
     refine wl_load 1 0 rfl rfl rfl (freshS_eq rfl) rfl rfl rfl (cs := [_,_]) rfl tS_33 tA_33 rfl rfl (wl_alloc rfl rfl rfl (freshS_eq rfl) rfl tZ_33 rfl (fun g10 => (wS 0 0 rfl tS_33 (all' := [_,_]) rfl (H' := [_,_,_,_,_,_,_,_,_]) rfl (wl_nil (we_then (wc_keep [10,54,53,52,8,0] (S' := [_,_,_,_,_,_]) rfl (wc_seq (wc_seq (wc_region (wl_loadH 0 0 rfl rfl rfl (freshS_eq rfl) rfl rfl rfl (cs := [_,_]) rfl tS_33 tA_33 rfl rfl ?_))))))))))
     obtain ⟨v59, hc59, hm⟩ := bindO_some hm
     refine wC [] [0,1,2,3,4,5,6,7,8] rfl fn_21 rfl (w_agenda_name_s N x56.rule r56.1 r56.2 x56.ids _ hc59) (asK [0,4] rfl) rfl (H' := [_,_,_,_,_,_,_,_,_]) rfl ?_
     rintro _ _ _ ⟨rfl, rfl, rfl⟩
     refine wP rfl (wl_nil (we_then (wc_keep [11,10,54,53,52,8,0] (S' := [_,_,_,_,_,_,_]) rfl (wc_seq ?_))))
     obtain ⟨bj_5, hm, hLj_5⟩ := bindO_some hm
     refine wc_cut (σ := Bool) (fun j_5_65 => bj_5 = j_5_65) (fun j_5_65 => [(11, .string v59), (10, .pointer (some ⟨g10,0, none⟩)), (54, .int .i64 ((u2_54 : Nat) : Int)), (53, .int .i64 ((l4.length : Nat) : Int)), (52, .slice qp11 l4.length qc12), (8, .map (some g51)), (0, .pointer (some ⟨qg0,0, none⟩)), (65, .bool j_5_65)]) (fun j_5_65 => [.sli 1 R_i64 r56.1 r56.2 x56.ids, .sli 2 R_Api_TokenD qp11 qc12 l4, tabF Tryd.prog "internal/strconv.uint64pow10" .u64 Lib.pow10Tab 0 pow10_g]) (fun j_5_65 => [.blk g10 [.int .i64 (x56.rule), .slice r56.1 x56.ids.length r56.2] 33, mapP (keyStr (tStr_run tT_9)) false R_bool g51 u2_8_m, .blk qg0 [.slice (some qp1) qn2 qc3, .slice u2_0_f1_p u2_0_f1_n u2_0_f1_c, .slice u2_0_f2_p u2_0_f2_n u2_0_f2_c, .map (some qb10)] 57, .own 3 1 R_i64 (.slice (some qp1) qn2 qc3) l0, treeF T_Api_TokenD 33 2 (.slice u2_0_f1_p u2_0_f1_n u2_0_f1_c) u2_0_f1_l, treeF T_Api_TokenD 33 2 (.slice u2_0_f2_p u2_0_f2_n u2_0_f2_c) u2_0_f2_l, mapP (keyStr (tStr_run tT_9)) false R_bool qb10 e3, .own 33 2 R_Api_TokenD (.slice qp4 qn5 qc6) l1, .own 33 2 R_Api_TokenD (.slice qp7 qn8 qc9) l2]) ?_ ?_
     ·
      refine wc_region (wP rfl (wP rfl (wF rfl tF_57_3 (wD 2 3 rfl tS_55 tA_55 rfl (wP rfl ?_)))))
      rcases optE_some hm with ⟨hq65, hm⟩ | ⟨x65, hq65, hm⟩
      ·
       refine wl_lookNoP (i := v59) 6 rfl rfl rfl (freshS_eq rfl) rfl rfl rfl rfl tZ_4 tM_55 trivial hq65 (v := .bool false) rfl (wl_nil ?_)
       have hE := (Option.some.inj hm).symm
       refine we_join false hE [11,10,54,53,52,8,0,65] rfl (asK [0,3,4] rfl) rfl
      ·
       refine wl_lookYesP (i := v59) (a := x65) R_bool_opens 6 rfl rfl rfl (freshS_eq rfl) rfl rfl rfl rfl tM_55 trivial hq65 (u := fun _ => .bool x65) (fun _ => rfl) (v := fun _ => .bool x65) (fun _ => rfl) (fun _ _ => (wl_nil ?_))
       have hE := (Option.some.inj hm).symm
       refine we_join x65 hE [11,10,54,53,52,8,0,65] rfl (asK [0,3,4] rfl) rfl
     ·
      rintro j_5_65 hE
      try dsimp only
      have hm := hLj_5
      rw [hE] at hm
      refine wc_cond rfl (fun hb65 => ?_) (fun hb65 => ?_)
      ·
       replace hm := iteT hm hb65
       refine wc_keep [11,10,54,53,52,8,0] (S' := [_,_,_,_,_,_,_]) rfl (wc_seq (wc_region (wP rfl (wP rfl (wl_mapPutP (i := v59) (u := true) (cs := [.bool true]) ltB 1 rfl rfl (.inl rfl) rfl rfl rfl rfl tM_55 trivial rfl (fun F w hφ => ⟨(), rfl, ask_nil⟩) (H' := [.blk g10 [.int .i64 (x56.rule), .slice r56.1 x56.ids.length r56.2] 33, mapP (keyStr (tStr_run tT_9)) false R_bool g51 (mputP ltB v59 true u2_8_m), .blk qg0 [.slice (some qp1) qn2 qc3, .slice u2_0_f1_p u2_0_f1_n u2_0_f1_c, .slice u2_0_f2_p u2_0_f2_n u2_0_f2_c, .map (some qb10)] 57, .own 3 1 R_i64 (.slice (some qp1) qn2 qc3) l0, treeF T_Api_TokenD 33 2 (.slice u2_0_f1_p u2_0_f1_n u2_0_f1_c) u2_0_f1_l, treeF T_Api_TokenD 33 2 (.slice u2_0_f2_p u2_0_f2_n u2_0_f2_c) u2_0_f2_l, mapP (keyStr (tStr_run tT_9)) false R_bool qb10 e3, .own 33 2 R_Api_TokenD (.slice qp4 qn5 qc6) l1, .own 33 2 R_Api_TokenD (.slice qp7 qn8 qc9) l2]) rfl (wl_nil (we_then (wc_keep [10,54,53,52,8,0] (S' := [_,_,_,_,_,_]) rfl (wc_seq ?_)))))))))
       obtain ⟨_, hc74, hm⟩ := bindO_some hm
       try dsimp only at hm
       obtain ⟨hg76, hm⟩ := gd_some hm
       refine wc_draw [0,1,2,3,4,5,9,10] rfl rfl (fun hok => (xP hok 0 rfl (xP hok 1 rfl (xP hok 2 rfl (wx_fieldAddr hok 3 rfl rfl rfl (freshS_eq rfl) rfl rfl rfl tF_57_2 (wx_loadH hok 4 2 2 rfl rfl rfl (freshS_eq rfl) rfl rfl rfl rfl (cs := [_]) rfl tS_23 tA_23 rfl rfl (wx_loadH hok 5 0 0 rfl rfl rfl (freshS_eq rfl) rfl rfl rfl rfl (cs := [_,_]) rfl tS_33 tA_33 rfl rfl (xS hok 6 rfl (wC [] [0,1,2,3,4,5,6,7,8] rfl fn_22 rfl (w_agenda_own_s N x56.rule r56.1 r56.2 x56.ids hc74) (asK [0,2] rfl) rfl (H' := [_,_,_,_,_,_,_,_,_]) rfl ?_)))))))))
       rintro _ _ _ ⟨p74_0, c74_1, rfl, rfl, rfl⟩
       refine wl_nil (we_x [0,1,2] [3] rfl rfl (xS hok 7 rfl (wl_buildSlice rfl rfl rfl (freshS_eq rfl) rfl tE_23 tS_33 tZ_33 rfl (zs := [.int .i64 0, .slice none 0 0]) (by kernel_rfl) rfl (out := [_,_]) rfl (fun g75 => (wl_nil (we_x [0,1,2] [2,4] rfl rfl (xS hok 8 rfl (wl_treeLen 7 rfl (fun hzt48 _ => ?_)))))))))
       subst hzt48
       refine wl_treeOut 7 rfl (fun zz76 hzz76 => ?_)
       have hzs34 : List.map (fun x : Api_TokenD × (Option Addr × Nat) => x.1) (zz76 ++ [(x56, (p74_0, c74_1))]) = u2_0_f2_l ++ [x56] := pair_app hzz76 (us := [x56]) rfl
       have hgl76 : zz76.length + ([(x56, (p74_0, c74_1))] : List (Api_TokenD × (Option Addr × Nat))).length ≤ 4398046511104 := by rw [pair_len hzz76]; exact hg76
       refine wl_appendH (R := T_Api_TokenD.pair) ([(x56, (p74_0, c74_1))]) 8 1 rfl rfl rfl (freshS_eq rfl) rfl rfl rfl rfl rfl (fun F w hφ => ⟨[.int .i64 (x56.rule), .slice p74_0 x56.ids.length c74_1],[], rfl, rfl, rfl, rfl⟩) tE_23 tR_33 rfl rfl (Nat.le_trans hgl76 (by decide)) (Nat.le_trans (Nat.mul_le_mul_right _ hgl76) (by decide)) (H2 := fun p76 c76 => [_,_,_,_,_,_,_,_, .own 33 2 T_Api_TokenD.pair (.slice p76 ((zz76 ++ [(x56, (p74_0, c74_1))]).length) c76) (zz76 ++ [(x56, (p74_0, c74_1))]), _,_,_]) (fun _ _ => rfl) (fun p76 c76 => (wl_drop 1 rfl (H' := [_,_,_,_,_,_,_,_,_,_,_]) rfl (wl_as (d := 76) (v' := .slice p76 ((u2_0_f2_l ++ [x56]).length) c76) (S' := [_,_,_,_,_,_,_,_,_,_,_,_,_,_]) rfl rfl (by rw [pair_len hzs34]) (wl_hAs 7 (φ' := .own 33 2 T_Api_TokenD.pair (.slice p76 ((u2_0_f2_l ++ [x56]).length) c76) (zz76 ++ [(x56, (p74_0, c74_1))])) rfl (by rw [pair_len hzs34]) (H' := [_,_,_,_,_,_,_,_,_,_,_]) rfl (wl_pick [1,0,2,3,4,5,6,7,8,9,10] rfl (H' := [_,_,_,_,_,_,_,_,_,_,_]) rfl (wl_sh [bagF T_Api_TokenD (zz76 ++ [(x56, (p74_0, c74_1))]) none, _,_,_,_,_,_,_,_,_] (fun _ h => Holds.bagPush (T := T_Api_TokenD) (x := x56) (r := (p74_0, c74_1)) (zs := zz76) (H := [_,_,_,_,_,_,_,_,_,_]) h 0 rfl) (wl_sh [_,_,_,_,_, treeF T_Api_TokenD 33 2 (.slice p76 ((u2_0_f2_l ++ [x56]).length) c76) (u2_0_f2_l ++ [x56]), _,_,_] (fun _ h => h.treeIn 6 0 rfl rfl rfl hzs34) (wl_nil (we_x [0,1,2] [0] rfl rfl (xP hok 9 rfl (wx_fieldAddr hok 10 rfl rfl rfl (freshS_eq rfl) rfl rfl rfl tF_57_2 (xS hok 11 rfl (wS 2 2 rfl tS_23 (all' := [_,_,_,_]) rfl (H' := [_,_,_,_,_,_,_,_,_]) rfl (wl_nil ?_))))))))))))))
       refine we_x [0,1,2] [] rfl rfl (wx_done hok rfl (we_then (wc_keep [54,53,52,8,0] (S' := [_,_,_,_,_]) rfl (wc_exit (we_then_exit (we_block_hit ?_))))))
       have hE := (Option.some.inj hm).symm
       refine we_pick [1,2,3,4,5,6,7,8] rfl (H' := [_,_,_,_,_,_,_,_]) rfl ?_
       refine we_join (mputP ltB v59 true u2_8_m, u2_0_f1_l, u2_0_f2_l ++ [x56], u2_0_f1_p, u2_0_f1_c, u2_0_f1_n, p76, c76, (u2_0_f2_l ++ [x56]).length) hE [54,53,52,8,0] rfl (asK [1,2] rfl) rfl
      ·
       replace hm := iteF hm hb65
       refine wc_keep [10,54,53,52,8,0] (S' := [_,_,_,_,_,_]) rfl (wc_skip (we_then ?_))
       obtain ⟨_, hc85, hm⟩ := bindO_some hm
       try dsimp only at hm
       obtain ⟨hg87, hm⟩ := gd_some hm
       refine wc_draw [0,1,2,3,4,5,9,10] rfl rfl (fun hok => (xP hok 0 rfl (xP hok 1 rfl (xP hok 2 rfl (wx_fieldAddr hok 3 rfl rfl rfl (freshS_eq rfl) rfl rfl rfl tF_57_1 (wx_loadH hok 4 2 1 rfl rfl rfl (freshS_eq rfl) rfl rfl rfl rfl (cs := [_]) rfl tS_23 tA_23 rfl rfl (wx_loadH hok 5 0 0 rfl rfl rfl (freshS_eq rfl) rfl rfl rfl rfl (cs := [_,_]) rfl tS_33 tA_33 rfl rfl (xS hok 6 rfl (wC [] [0,1,2,3,4,5,6,7,8] rfl fn_22 rfl (w_agenda_own_s N x56.rule r56.1 r56.2 x56.ids hc85) (asK [0,2] rfl) rfl (H' := [_,_,_,_,_,_,_,_,_]) rfl ?_)))))))))
       rintro _ _ _ ⟨p85_0, c85_1, rfl, rfl, rfl⟩
       refine wl_nil (we_x [0,1,2] [3] rfl rfl (xS hok 7 rfl (wl_buildSlice rfl rfl rfl (freshS_eq rfl) rfl tE_23 tS_33 tZ_33 rfl (zs := [.int .i64 0, .slice none 0 0]) (by kernel_rfl) rfl (out := [_,_]) rfl (fun g86 => (wl_nil (we_x [0,1,2] [2,4] rfl rfl (xS hok 8 rfl (wl_treeLen 6 rfl (fun hzt50 _ => ?_)))))))))
       subst hzt50
       refine wl_treeOut 6 rfl (fun zz87 hzz87 => ?_)
       have hzs35 : List.map (fun x : Api_TokenD × (Option Addr × Nat) => x.1) (zz87 ++ [(x56, (p85_0, c85_1))]) = u2_0_f1_l ++ [x56] := pair_app hzz87 (us := [x56]) rfl
       have hgl87 : zz87.length + ([(x56, (p85_0, c85_1))] : List (Api_TokenD × (Option Addr × Nat))).length ≤ 4398046511104 := by rw [pair_len hzz87]; exact hg87
       refine wl_appendH (R := T_Api_TokenD.pair) ([(x56, (p85_0, c85_1))]) 7 1 rfl rfl rfl (freshS_eq rfl) rfl rfl rfl rfl rfl (fun F w hφ => ⟨[.int .i64 (x56.rule), .slice p85_0 x56.ids.length c85_1],[], rfl, rfl, rfl, rfl⟩) tE_23 tR_33 rfl rfl (Nat.le_trans hgl87 (by decide)) (Nat.le_trans (Nat.mul_le_mul_right _ hgl87) (by decide)) (H2 := fun p87 c87 => [_,_,_,_,_,_,_, .own 33 2 T_Api_TokenD.pair (.slice p87 ((zz87 ++ [(x56, (p85_0, c85_1))]).length) c87) (zz87 ++ [(x56, (p85_0, c85_1))]), _,_,_,_]) (fun _ _ => rfl) (fun p87 c87 => (wl_drop 1 rfl (H' := [_,_,_,_,_,_,_,_,_,_,_]) rfl (wl_as (d := 87) (v' := .slice p87 ((u2_0_f1_l ++ [x56]).length) c87) (S' := [_,_,_,_,_,_,_,_,_,_,_,_,_,_]) rfl rfl (by rw [pair_len hzs35]) (wl_hAs 6 (φ' := .own 33 2 T_Api_TokenD.pair (.slice p87 ((u2_0_f1_l ++ [x56]).length) c87) (zz87 ++ [(x56, (p85_0, c85_1))])) rfl (by rw [pair_len hzs35]) (H' := [_,_,_,_,_,_,_,_,_,_,_]) rfl (wl_pick [1,0,2,3,4,5,6,7,8,9,10] rfl (H' := [_,_,_,_,_,_,_,_,_,_,_]) rfl (wl_sh [bagF T_Api_TokenD (zz87 ++ [(x56, (p85_0, c85_1))]) none, _,_,_,_,_,_,_,_,_] (fun _ h => Holds.bagPush (T := T_Api_TokenD) (x := x56) (r := (p85_0, c85_1)) (zs := zz87) (H := [_,_,_,_,_,_,_,_,_,_]) h 0 rfl) (wl_sh [_,_,_,_, treeF T_Api_TokenD 33 2 (.slice p87 ((u2_0_f1_l ++ [x56]).length) c87) (u2_0_f1_l ++ [x56]), _,_,_,_] (fun _ h => h.treeIn 5 0 rfl rfl rfl hzs35) (wl_nil (we_x [0,1,2] [0] rfl rfl (xP hok 9 rfl (wx_fieldAddr hok 10 rfl rfl rfl (freshS_eq rfl) rfl rfl rfl tF_57_1 (xS hok 11 rfl (wS 2 1 rfl tS_23 (all' := [_,_,_,_]) rfl (H' := [_,_,_,_,_,_,_,_,_]) rfl (wl_nil ?_))))))))))))))
       refine we_x [0,1,2] [] rfl rfl (wx_done hok rfl (we_block_normal ?_))
       have hE := (Option.some.inj hm).symm
       refine we_pick [1,2,3,4,5,6,7,8] rfl (H' := [_,_,_,_,_,_,_,_]) rfl ?_
       refine we_join (u2_8_m, u2_0_f1_l ++ [x56], u2_0_f2_l, p87, c87, (u2_0_f1_l ++ [x56]).length, u2_0_f2_p, u2_0_f2_c, u2_0_f2_n) hE [54,53,52,8,0] rfl (asK [1,2] rfl) rfl
    ·
     rintro ⟨j_4_8_m, j_4_0_f1_l, j_4_0_f2_l, j_4_0_f1_p, j_4_0_f1_c, j_4_0_f1_n, j_4_0_f2_p, j_4_0_f2_c, j_4_0_f2_n⟩ hE
     try dsimp only
     have hm := hLj_4
     rw [hE] at hm
     try dsimp only at hm
     refine wc_region (wP rfl ?_)
     obtain ⟨hg90, hm⟩ := gd_some hm
     refine wl_as (d := 90) (v' := .int .i64 ((u2_54 + 1 : Nat) : Int)) (S' := [_,_,_,_,_]) rfl rfl (nat_add (a := u2_54) (b := 1) hg90) (wl_pure (S' := [_,_,_,_,_]) rfl rfl rfl rfl rfl (wl_nil ?_))
     have hE := (Option.some.inj hm).symm
     replace hE := link_inl hLu2 hE
     refine we_roundK (_, u2_54 + 1, j_4_8_m, j_4_0_f1_l, j_4_0_f2_l, j_4_0_f1_p, j_4_0_f1_c, j_4_0_f1_n, j_4_0_f2_p, j_4_0_f2_c, j_4_0_f2_n) (Nat.lt_succ_self _) hE [54,53,52,8,0] rfl (asK [0,1] rfl) rfl
   ·
    replace hm := iteF hm hb55
    refine wc_keep [8,0] (S' := [_,_]) rfl (wc_exit (we_then_exit (we_then_exit (we_block_hit ?_))))
    have hE := (Option.some.inj hm).symm
    replace hE := link_inr hLu2 hE
    refine we_join (u2_8_m, u2_0_f1_l, u2_0_f2_l, u2_0_f1_p, u2_0_f1_c, u2_0_f1_n, u2_0_f2_p, u2_0_f2_c, u2_0_f2_n) hE [8,0] rfl (asK [1] rfl) rfl
  ·
   rintro ⟨j_3_8_m, j_3_0_f1_l, j_3_0_f2_l, j_3_0_f1_p, j_3_0_f1_c, j_3_0_f1_n, j_3_0_f2_p, j_3_0_f2_c, j_3_0_f2_n⟩ hE
   try dsimp only
   have hm := hLj_3
   rw [hE] at hm
   try dsimp only at hm
   refine wc_seq (wc_region (wP rfl (wP rfl (wP rfl (wF rfl tF_57_3 (wS 1 3 rfl tS_55 (all' := [_,_,_,_]) rfl (H' := [_,_,_,_,_,_,_,_]) rfl (wl_nil (we_then (wc_keep [0] (S' := [_]) rfl (wc_seq ?_))))))))))
   obtain ⟨⟨v104_0, v104_1⟩, hc104, hm⟩ := bindO_some hm
   try dsimp only at hm
   obtain ⟨hrl104_0, hm⟩ := gd_some hm
   refine wc_draw [0,1,2,3,4,5,6,7] rfl rfl (fun hok => (xP hok 0 rfl (xP hok 1 rfl (wx_fieldAddr hok 2 rfl rfl rfl (freshS_eq rfl) rfl rfl rfl tF_57_1 (wx_loadH hok 3 1 1 rfl rfl rfl (freshS_eq rfl) rfl rfl rfl rfl (cs := [_]) rfl tS_23 tA_23 rfl rfl (xP hok 4 rfl (xP hok 5 rfl (wx_fieldAddr hok 6 rfl rfl rfl (freshS_eq rfl) rfl rfl rfl tF_57_0 (wx_loadH hok 7 1 0 rfl rfl rfl (freshS_eq rfl) rfl rfl rfl rfl (cs := [_]) rfl tS_52 tA_52 rfl rfl (xS hok 8 rfl (wl_makeFuncF rfl rfl rfl (freshS_eq rfl) rfl rfl rfl (wl_nil (we_x [0] [1] rfl rfl (xS hok 9 rfl ?_))))))))))))))
   refine wl_sh [_,_,_, .own 33 2 R_Api_TokenD (.slice j_3_0_f1_p j_3_0_f1_n j_3_0_f1_c) j_3_0_f1_l, _,_,_,_] (fun _ h => h.letgo T_Api_TokenD_lend 3 rfl) (wl_ownLen 3 rfl (fun hzj_3_0_f1_n _ => ?_))
   subst hzj_3_0_f1_n
   refine wC [3,2] [0,1,4,5,6,7] rfl fn_23 rfl (w_slices_SortFunc_Token_v2_s N j_3_0_f1_p j_3_0_f1_l.length j_3_0_f1_c j_3_0_f1_l qp1 qn2 qc3 l0 _ _ hc104) (asK [0] rfl) rfl (H' := [_,_,_,_,_,_]) rfl ?_
   rintro _ _ _ ⟨c104_0, rfl, rfl, rfl⟩
   refine wl_ownLen 0 rfl (fun hzc104_0 _ => ?_)
   subst hzc104_0
   refine wl_hAs 0 (φ' := .own 33 2 R_Api_TokenD (.slice j_3_0_f1_p j_3_0_f1_l.length j_3_0_f1_c) v104_0) rfl (by rw [hrl104_0]) (H' := [_,_,_,_,_,_,_,_]) rfl (wl_nil (we_x [0] [3] rfl rfl (wx_done hok rfl (we_then (wc_keep [0] (S' := [_]) rfl (wc_seq ?_))))))
   obtain ⟨⟨v114_0, v114_1⟩, hc114, hm⟩ := bindO_some hm
   try dsimp only at hm
   obtain ⟨hrl114_0, hm⟩ := gd_some hm
   refine wc_draw [0,1,2,3,4,5,6,7] rfl rfl (fun hok => (xP hok 0 rfl (xP hok 1 rfl (wx_fieldAddr hok 2 rfl rfl rfl (freshS_eq rfl) rfl rfl rfl tF_57_2 (wx_loadH hok 3 3 2 rfl rfl rfl (freshS_eq rfl) rfl rfl rfl rfl (cs := [_]) rfl tS_23 tA_23 rfl rfl (xP hok 4 rfl (xP hok 5 rfl (wx_fieldAddr hok 6 rfl rfl rfl (freshS_eq rfl) rfl rfl rfl tF_57_0 (wx_loadH hok 7 3 0 rfl rfl rfl (freshS_eq rfl) rfl rfl rfl rfl (cs := [_]) rfl tS_52 tA_52 rfl rfl (xS hok 8 rfl (wl_makeFuncF rfl rfl rfl (freshS_eq rfl) rfl rfl rfl (wl_nil (we_x [0] [3] rfl rfl (xS hok 9 rfl ?_))))))))))))))
   refine wl_sh [_,_,_,_, .own 33 2 R_Api_TokenD (.slice j_3_0_f2_p j_3_0_f2_n j_3_0_f2_c) j_3_0_f2_l, _,_,_] (fun _ h => h.letgo T_Api_TokenD_lend 4 rfl) (wl_ownLen 4 rfl (fun hzj_3_0_f2_n _ => ?_))
   subst hzj_3_0_f2_n
   refine wC [4,1] [0,2,3,5,6,7] rfl fn_23 rfl (w_slices_SortFunc_Token_v2_s N j_3_0_f2_p j_3_0_f2_l.length j_3_0_f2_c j_3_0_f2_l qp1 qn2 qc3 v104_1 _ _ hc114) (asK [0] rfl) rfl (H' := [_,_,_,_,_,_]) rfl ?_
   rintro _ _ _ ⟨c114_0, rfl, rfl, rfl⟩
   refine wl_ownLen 0 rfl (fun hzc114_0 _ => ?_)
   subst hzc114_0
   refine wl_hAs 0 (φ' := .own 33 2 R_Api_TokenD (.slice j_3_0_f2_p j_3_0_f2_l.length j_3_0_f2_c) v114_0) rfl (by rw [hrl114_0]) (H' := [_,_,_,_,_,_,_,_]) rfl (wl_nil (we_x [0] [4] rfl rfl (wx_done hok rfl (we_then (wc_keep [] (S' := []) rfl (wc_seq (wc_region (wP rfl (wl_nil (we_then (wc_ret ?_)))))))))))
   have hE := (Option.some.inj hm).symm
   obtain ⟨hE0, hF1⟩ := Prod.mk.inj hE
   obtain ⟨hE1, hF2⟩ := Prod.mk.inj hF1
   obtain ⟨hE2, hF3⟩ := Prod.mk.inj hF2
   obtain ⟨hE3, hE4⟩ := Prod.mk.inj hF3
   clear hE hF1 hF2 hF3
   replace hE0 := hE0.symm
   subst hE0
   replace hE1 := hE1.symm
   subst hE1
   replace hE2 := hE2.symm
   subst hE2
   replace hE3 := hE3.symm
   subst hE3
   replace hE4 := hE4.symm
   subst hE4
   refine ret_one (Hr := [_,_,_,_,_]) [4,1,2,0,3] Tryd.results10 (res_tmp rfl) ⟨j_3_0_f1_p, j_3_0_f1_c, j_3_0_f1_l.length, j_3_0_f2_p, j_3_0_f2_c, j_3_0_f2_l.length, g51, rfl, rfl, rfl⟩ (asK [] rfl) rfl rfl (.inl rfl)
end Go.Proofs.YtgangmegcejllaaDoor
