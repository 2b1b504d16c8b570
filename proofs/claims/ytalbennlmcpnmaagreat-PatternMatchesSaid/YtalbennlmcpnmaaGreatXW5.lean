import Derived.Test.YtalbennlmcpnmaaGreatXW4
namespace Go.Proofs.YtalbennlmcpnmaaGreat
open Go.RowKit
set_option maxRecDepth 100000
set_option maxHeartbeats 4000000
theorem w_ropewalklaw10_apart_v2_s (N : Nat) (qp0 : Option Addr) (qn1 : Nat) (qc2 : Nat) (l0 : List Bool) (qp3 : Option Addr) (qn4 : Nat) (qc5 : Nat) (l1 : List V) (qp6 : Option Addr) (qn7 : Nat) (qc8 : Nat) (l2 : List Bool) (qp9 : Option Addr) (qn10 : Nat) (qc11 : Nat) (l3 : List V) (o0 : Bool) (o1 : List Bool) (hm : m_ropewalklaw10_apart_v2 N l0 l1 l2 l3 = some (o0, o1)) : Spec Tryz.prog 18 [.agg #[.slice qp0 qn1 qc2, .slice qp3 qn4 qc5], .agg #[.slice qp6 qn7 qc8, .slice qp9 qn10 qc11]] [] [.own 4 1 R_bool (.slice qp0 qn1 qc2) l0, .own 27 3 R_V (.slice qp3 qn4 qc5) l1, .own 4 1 R_bool (.slice qp6 qn7 qc8) l2, .own 27 3 R_V (.slice qp9 qn10 qc11) l3] (fun v Φr Hr => v = .bool o0 ∧ Φr = [] ∧ Hr = [.own 4 1 R_bool (.slice qp0 qn1 qc2) o1, .own 4 1 R_bool (.slice qp6 qn7 qc8) l2]) := by
 unfold m_ropewalklaw10_apart_v2 at hm
 refine spec_of Tryz.func18 rfl Tryz.ntmps18 rfl (S := [_,_]) rfl (fun C => (wc_seq (wc_region (wB rfl (fun g2 => (wB rfl (fun g3 => (wP rfl (wl_nil (we_then (wc_keep [3,2] (S' := [_,_]) rfl (wc_seq (wc_region (wl_buildSlice rfl rfl rfl (freshS_eq rfl) rfl tE_37 tS_4 tZ_4 rfl (zs := []) (by kernel_rfl) rfl (out := []) rfl (fun g8 => (wF rfl tF_44_0 (wD 1 0 rfl tS_37 tA_37 rfl ?_)))))))))))))))))
 refine wl_row (sz := 1) (m := 0) R_bool [] 0 rfl (fun F w hφ => rfl) rfl (by decide) (H' := [_,_,_,_,_,_,_]) rfl (wl_ownLen 5 rfl (fun hzqn7 _ => ?_))
 subst hzqn7
 obtain ⟨hg11, hm⟩ := gd_some hm
 refine wl_appendO 0 5 rfl rfl rfl (freshS_eq rfl) rfl rfl rfl rfl rfl tE_37 tR_4 rfl rfl (Nat.le_trans hg11 (by decide)) (Nat.le_trans (Nat.mul_le_mul_right _ hg11) (by decide)) (H2 := fun p11 c11 => [.own 4 1 R_bool (.slice p11 (l2).length c11) l2,_,_,_,_,_,_]) (fun _ _ => rfl) (fun p11 c11 => (wP rfl (wl_nil (we_then (wc_keep [5,3,2] (S' := [_,_,_]) rfl (wc_seq ?_))))))
 obtain ⟨bj_1, hm, hLj_1⟩ := bindO_some hm
 refine wc_cut (σ := List Bool) (fun j_1_2_f0_l => bj_1 = j_1_2_f0_l) (fun j_1_2_f0_l => [(5, .slice p11 (l2).length c11), (3, .pointer (some ⟨g3,0, none⟩)), (2, .pointer (some ⟨g2,0, none⟩))]) (fun j_1_2_f0_l => []) (fun j_1_2_f0_l => [.own 4 1 R_bool (.slice p11 (l2).length c11) l2, .blk g3 [.slice qp6 l2.length qc8, .slice qp9 qn10 qc11] 44, .own 4 1 R_bool (.slice qp6 l2.length qc8) l2, .own 27 3 R_V (.slice qp9 qn10 qc11) l3, .blk g2 [.slice qp0 qn1 qc2, .slice qp3 qn4 qc5] 44, .own 4 1 R_bool (.slice qp0 qn1 qc2) j_1_2_f0_l, .own 27 3 R_V (.slice qp3 qn4 qc5) l1]) ?_ ?_
 ·
  refine wc_seq (wc_region (wP rfl (wl_nil (we_then (wc_block (wc_pick [0,1,5,6,2,3,4] rfl (H' := [_,_,_,_,_,_,_]) rfl (wc_loop (σ := Nat × Nat × (List Bool)) (fun (nu1, u1_6, u1_2_f0_l) => iter (m_ropewalklaw10_apart_v2_L1 N) nu1 (u1_6, u1_2_f0_l) = some bj_1) (fun (nu1, u1_6, u1_2_f0_l) => nu1) (fun (nu1, u1_6, u1_2_f0_l) => [(6, .int .i64 ((u1_6 : Nat) : Int)), (5, .slice p11 (l2).length c11), (3, .pointer (some ⟨g3,0, none⟩)), (2, .pointer (some ⟨g2,0, none⟩))]) (fun (nu1, u1_6, u1_2_f0_l) => []) (fun (nu1, u1_6, u1_2_f0_l) => [.own 4 1 R_bool (.slice p11 (l2).length c11) l2, .blk g3 [.slice qp6 l2.length qc8, .slice qp9 qn10 qc11] 44, .own 4 1 R_bool (.slice qp6 l2.length qc8) l2, .own 27 3 R_V (.slice qp9 qn10 qc11) l3, .blk g2 [.slice qp0 qn1 qc2, .slice qp3 qn4 qc5] 44, .own 4 1 R_bool (.slice qp0 qn1 qc2) u1_2_f0_l, .own 27 3 R_V (.slice qp3 qn4 qc5) l1]) (N, 0, l0) hm [6,5,3,2] rfl (asK [] rfl) rfl (fun s_ hm => ?_))))))))
  obtain ⟨nu1, u1_6, u1_2_f0_l⟩ := s_
  try dsimp only at hm ⊢
  obtain ⟨mu1, bu1, hnu1, hq, hLu1⟩ := iter_some hm
  clear hm
  subst hnu1
  replace hm := hq
  clear hq
  unfold m_ropewalklaw10_apart_v2_L1 at hm
  try dsimp only at hm
  refine wc_seq (wc_seq (wc_region (wP rfl (wF rfl tF_44_0 (wD 4 0 rfl tS_37 tA_37 rfl (wl_ownLen 5 rfl (fun hl15 _ => (wN rfl tE_37 (wl_as (d := 15) (v' := .int .i64 ((u1_2_f0_l.length : Nat) : Int)) (S' := [_,_,_,_,_,_,_]) rfl rfl (len_is hl15) (wP rfl (wl_as (d := 16) (v' := .bool (decide (u1_6 < u1_2_f0_l.length))) (S' := [_,_,_,_,_,_,_,_]) rfl rfl (natlt (a := u1_6) (b := u1_2_f0_l.length)) (wl_nil (we_then (wc_keep [16,6,5,3,2] (S' := [_,_,_,_,_]) rfl ?_))))))))))))))
  refine wc_cond rfl (fun hb16 => ?_) (fun hb16 => ?_)
  ·
   replace hm := iteT hm hb16
   refine wc_keep [6,5,3,2] (S' := [_,_,_,_]) rfl (wc_skip (we_then (wc_seq (wc_block ?_))))
   obtain ⟨x25, hx25, hm⟩ := bindO_some hm
   obtain ⟨x28, hx28, hm⟩ := bindO_some hm
   refine wc_draw [0,1,2,3,4,5,6,7,8,9] rfl rfl (fun hok => (wx_fieldAddr hok 0 rfl rfl rfl (freshS_eq rfl) rfl rfl rfl tF_44_0 (wx_loadH hok 1 4 0 rfl rfl rfl (freshS_eq rfl) rfl rfl rfl rfl (cs := [_]) rfl tS_37 tA_37 rfl rfl (xP hok 2 rfl (wx_fieldAddr hok 3 rfl rfl rfl (freshS_eq rfl) rfl rfl rfl tF_44_0 (wx_loadH hok 4 4 0 rfl rfl rfl (freshS_eq rfl) rfl rfl rfl rfl (cs := [_]) rfl tS_37 tA_37 rfl rfl (xP hok 5 rfl (wx_indexH hok 6 5 u1_6 rfl rfl rfl (freshS_eq rfl) rfl rfl rfl rfl rfl rfl (get_lt hx25) tE_37 tS_4 (fun g25 eg25 => ?_)))))))))
   subst eg25
   refine wx_loadRow hok 7 R_bool_opens 5 u1_6 0 rfl rfl rfl (freshS_eq rfl) rfl rfl rfl rfl hx25 tS_4 tA_4 (v := .bool x25) rfl rfl (fun _ => (xP hok 8 rfl (wx_indexK hok 9 5 u1_6 rfl rfl rfl (freshS_eq rfl) rfl rfl rfl rfl rfl rfl (get_lt hx28) tE_37 tS_4 (xS hok 10 rfl (wl_storeRow (u := !x25) 5 u1_6 rfl rfl rfl rfl rfl (get_lt hx28) rfl rfl tS_4 rfl (fun F w hφ => ⟨(), rfl, ask_nil⟩) (H' := [_,_,_,_,_,_,_]) rfl (wl_nil (we_x [] [] rfl rfl (wx_done hok rfl (we_block_normal (we_then (wc_keep [6,5,3,2] (S' := [_,_,_,_]) rfl (wc_region (wP rfl (wP rfl ?_))))))))))))))
   obtain ⟨hg18, hm⟩ := gd_some hm
   refine wl_as (d := 18) (v' := .int .i64 ((u1_6 + 1 : Nat) : Int)) (S' := [_,_,_,_,_]) rfl rfl (nat_add (a := u1_6) (b := 1) hg18) (wl_pure (S' := [_,_,_,_,_]) rfl rfl rfl rfl rfl (wl_nil ?_))
   have hE := (Option.some.inj hm).symm
   replace hE := link_inl hLu1 hE
   refine we_roundK (_, u1_6 + 1, u1_2_f0_l.set u1_6 !x25) (Nat.lt_succ_self _) hE [6,5,3,2] rfl (asK [] rfl) rfl
  ·
   replace hm := iteF hm hb16
   refine wc_keep [5,3,2] (S' := [_,_,_]) rfl (wc_exit (we_then_exit (we_then_exit (we_block_hit ?_))))
   have hE := (Option.some.inj hm).symm
   replace hE := link_inr hLu1 hE
   refine we_join u1_2_f0_l hE [5,3,2] rfl (asK [] rfl) rfl
 ·
  rintro j_1_2_f0_l hE
  try dsimp only
  have hm := hLj_1
  rw [hE] at hm
  refine wc_seq ?_
  obtain ⟨bj_2, hm, hLj_2⟩ := bindS_some hm
  refine wc_cut (σ := Unit) (fun _ => bj_2 = .inl ()) (fun _ => [(3, .pointer (some ⟨g3,0, none⟩)), (2, .pointer (some ⟨g2,0, none⟩))]) (fun _ => []) (fun _ => [.blk g3 [.slice qp6 l2.length qc8, .slice qp9 qn10 qc11] 44, .own 4 1 R_bool (.slice qp6 l2.length qc8) l2, .own 27 3 R_V (.slice qp9 qn10 qc11) l3, .blk g2 [.slice qp0 qn1 qc2, .slice qp3 qn4 qc5] 44, .own 4 1 R_bool (.slice qp0 qn1 qc2) j_1_2_f0_l, .own 27 3 R_V (.slice qp3 qn4 qc5) l1]) ?_ ?_
  ·
   refine wc_seq (wc_region (wP rfl (wl_nil (we_then (wc_block (wc_loop (σ := Nat × Nat) (fun (nu2, u2_7) => iter (m_ropewalklaw10_apart_v2_L2 N l2 j_1_2_f0_l) nu2 u2_7 = some bj_2) (fun (nu2, u2_7) => nu2) (fun (nu2, u2_7) => [(7, .int .i64 ((u2_7 : Nat) : Int)), (5, .slice p11 (l2).length c11), (3, .pointer (some ⟨g3,0, none⟩)), (2, .pointer (some ⟨g2,0, none⟩))]) (fun (nu2, u2_7) => []) (fun (nu2, u2_7) => [.own 4 1 R_bool (.slice p11 (l2).length c11) l2, .blk g3 [.slice qp6 l2.length qc8, .slice qp9 qn10 qc11] 44, .own 4 1 R_bool (.slice qp6 l2.length qc8) l2, .own 27 3 R_V (.slice qp9 qn10 qc11) l3, .blk g2 [.slice qp0 qn1 qc2, .slice qp3 qn4 qc5] 44, .own 4 1 R_bool (.slice qp0 qn1 qc2) j_1_2_f0_l, .own 27 3 R_V (.slice qp3 qn4 qc5) l1]) (N, 0) hm [7,5,3,2] rfl (asK [] rfl) rfl (fun s_ hm => ?_)))))))
   obtain ⟨nu2, u2_7⟩ := s_
   try dsimp only at hm ⊢
   obtain ⟨mu2, bu2, hnu2, hq, hLu2⟩ := iter_some hm
   clear hm
   subst hnu2
   replace hm := hq
   clear hq
   unfold m_ropewalklaw10_apart_v2_L2 at hm
   try dsimp only at hm
   refine wc_seq (wc_seq ?_)
   obtain ⟨bj_3, hm, hLj_3⟩ := bindO_some hm
   refine wc_cut (σ := Bool) (fun j_3_39 => bj_3 = j_3_39) (fun j_3_39 => [(7, .int .i64 ((u2_7 : Nat) : Int)), (5, .slice p11 (l2).length c11), (3, .pointer (some ⟨g3,0, none⟩)), (2, .pointer (some ⟨g2,0, none⟩)), (39, .bool j_3_39)]) (fun j_3_39 => []) (fun j_3_39 => [.own 4 1 R_bool (.slice p11 (l2).length c11) l2, .blk g3 [.slice qp6 l2.length qc8, .slice qp9 qn10 qc11] 44, .own 4 1 R_bool (.slice qp6 l2.length qc8) l2, .own 27 3 R_V (.slice qp9 qn10 qc11) l3, .blk g2 [.slice qp0 qn1 qc2, .slice qp3 qn4 qc5] 44, .own 4 1 R_bool (.slice qp0 qn1 qc2) j_1_2_f0_l, .own 27 3 R_V (.slice qp3 qn4 qc5) l1]) ?_ ?_
   ·
    refine wc_region (wP rfl (wF rfl tF_44_0 (wD 1 0 rfl tS_37 tA_37 rfl (wN rfl tE_37 (wP rfl (wl_as (d := 33) (v' := .bool (decide (u2_7 < l2.length))) (S' := [_,_,_,_,_,_,_,_]) rfl rfl (natlt (a := u2_7) (b := l2.length)) (wP rfl ?_)))))))
    refine wl_split (d := 34) (S' := [_,_,_,_,_,_,_,_,_]) rfl rfl (fun hs34 => ?_) (fun hs34 => ?_)
    ·
     replace hm := iteT hm hs34
     refine wP rfl (wP rfl (wl_ownLen 0 rfl (fun hl37 _ => (wN rfl tE_37 (wl_as (d := 37) (v' := .int .i64 ((l2.length : Nat) : Int)) (S' := [_,_,_,_,_,_,_,_,_,_,_,_]) rfl rfl (len_is hl37) (wP rfl (wl_as (d := 38) (v' := .bool (decide (u2_7 < l2.length))) (S' := [_,_,_,_,_,_,_,_,_,_,_,_,_]) rfl rfl (natlt (a := u2_7) (b := l2.length)) (wP rfl (wl_nil ?_)))))))))
     have hE := (Option.some.inj hm).symm
     refine we_join (decide (u2_7 < l2.length)) hE [7,5,3,2,39] rfl (asK [] rfl) rfl
    ·
     replace hm := iteF hm hs34
     refine wO rfl (wO rfl (wO rfl (wO rfl (wP rfl (wl_nil ?_)))))
     have hE := (Option.some.inj hm).symm
     refine we_join false hE [7,5,3,2,39] rfl (asK [] rfl) rfl
   ·
    rintro j_3_39 hE
    try dsimp only
    have hm := hLj_3
    rw [hE] at hm
    refine wc_cond rfl (fun hb39 => ?_) (fun hb39 => ?_)
    ·
     replace hm := iteT hm hb39
     refine wc_keep [7,5,3,2] (S' := [_,_,_,_]) rfl (wc_skip (we_then (wc_seq (wc_block (wc_seq ?_)))))
     obtain ⟨x45, hx45, hm⟩ := bindO_some hm
     obtain ⟨x49, hx49, hm⟩ := bindO_some hm
     refine wc_draw [0,1,2,3,4,5,6,7,8,9] rfl rfl (fun hok => (wx_fieldAddr hok 0 rfl rfl rfl (freshS_eq rfl) rfl rfl rfl tF_44_0 (wx_loadH hok 1 1 0 rfl rfl rfl (freshS_eq rfl) rfl rfl rfl rfl (cs := [_]) rfl tS_37 tA_37 rfl rfl (xP hok 2 rfl (wx_indexH hok 3 2 u2_7 rfl rfl rfl (freshS_eq rfl) rfl rfl rfl rfl rfl rfl (get_lt hx45) tE_37 tS_4 (fun g45 eg45 => ?_))))))
     subst eg45
     refine wx_loadRow hok 4 R_bool_opens 2 u2_7 0 rfl rfl rfl (freshS_eq rfl) rfl rfl rfl rfl hx45 tS_4 tA_4 (v := .bool x45) rfl rfl (fun _ => (xP hok 5 rfl (xP hok 6 rfl (wx_indexH hok 7 0 u2_7 rfl rfl rfl (freshS_eq rfl) rfl rfl rfl rfl rfl rfl (get_lt hx49) tE_37 tS_4 (fun g49 eg49 => ?_)))))
     subst eg49
     refine wx_loadRow hok 8 R_bool_opens 0 u2_7 0 rfl rfl rfl (freshS_eq rfl) rfl rfl rfl rfl hx49 tS_4 tA_4 (v := .bool x49) rfl rfl (fun _ => (wx_bin hok 9 rfl rfl rfl (freshS_eq rfl) rfl rfl rfl rfl (neqB _ _ x45 x49) (wx_done hok rfl (we_then (wc_keep [51,7,5,3,2] (S' := [_,_,_,_,_]) rfl ?_)))))
     refine wc_cond rfl (fun hb51 => ?_) (fun hb51 => ?_)
     ·
      replace hm := iteT hm hb51
      refine wc_keep [] (S' := []) rfl (wc_seq (wc_region (wP rfl (wl_nil (we_then (wc_ret (we_block_ret (we_then_ret (we_then_ret (we_block_ret (we_then_ret ?_)))))))))))
      have hE := (Option.some.inj hm).symm
      replace hE := link_inr hLu2 hE
      replace hE := link_inr hLj_2 hE
      obtain ⟨hE0, hE1⟩ := Prod.mk.inj hE
      clear hE
      replace hE0 := hE0.symm
      subst hE0
      replace hE1 := hE1.symm
      subst hE1
      refine ret_one (Hr := [_,_]) [5,2] Tryz.results18 (res_tmp rfl) ⟨rfl, rfl, rfl⟩ (asK [] rfl) rfl rfl (.inl rfl)
     ·
      replace hm := iteF hm hb51
      refine wc_keep [7,5,3,2] (S' := [_,_,_,_]) rfl (wc_skip (we_block_normal (we_then (wc_region (wP rfl (wP rfl ?_))))))
      obtain ⟨hg41, hm⟩ := gd_some hm
      refine wl_as (d := 41) (v' := .int .i64 ((u2_7 + 1 : Nat) : Int)) (S' := [_,_,_,_,_]) rfl rfl (nat_add (a := u2_7) (b := 1) hg41) (wl_pure (S' := [_,_,_,_,_]) rfl rfl rfl rfl rfl (wl_nil ?_))
      have hE := (Option.some.inj hm).symm
      replace hE := link_inl hLu2 hE
      refine we_roundK (_, u2_7 + 1) (Nat.lt_succ_self _) hE [7,5,3,2] rfl (asK [] rfl) rfl
    ·
     replace hm := iteF hm hb39
     refine wc_keep [3,2] (S' := [_,_]) rfl (wc_exit (we_then_exit (we_then_exit (we_block_hit ?_))))
     have hE := (Option.some.inj hm).symm
     replace hE := link_inr hLu2 hE
     refine we_pick [1,2,3,4,5,6] rfl (H' := [_,_,_,_,_,_]) rfl ?_
     refine we_join () hE [3,2] rfl (asK [] rfl) rfl
  ·
   rintro _ hE
   try dsimp only
   have hm := link_inl hLj_2 hE
   try dsimp only at hm
   refine wc_seq (wc_region (wF rfl tF_44_1 (wD 3 1 rfl tS_34 tA_34 rfl (wF rfl tF_44_1 (wD 0 1 rfl tS_34 tA_34 rfl (wl_buildSlice rfl rfl rfl (freshS_eq rfl) rfl tE_77 tS_34 tZ_34 rfl (zs := [.slice none 0 0, .slice none 0 0]) (by kernel_rfl) rfl (out := [_,_]) rfl (fun g56 => (wl_ownLen 6 rfl (fun hzqn4 _ => ?_)))))))))
   subst hzqn4
   refine wl_ownLen 3 rfl (fun hzqn10 _ => ?_)
   subst hzqn10
   refine wl_row (sz := 1) (m := 2) T_l_V.pair ([(l1, (qp3, qc5)), (l3, (qp9, qc11))]) 0 rfl (fun F w hφ => ⟨[.slice qp3 l1.length qc5],[.slice qp9 l3.length qc11], rfl, rfl, rfl, ⟨[.slice qp9 l3.length qc11],[], rfl, rfl, rfl, rfl⟩⟩) rfl (by decide) (H' := [_,_,_,_,_,_,_]) rfl (wl_sh [bagF T_l_V [] none, _,_,_,_,_,_,_] (fun _ h => h.bagNil T_l_V) (wl_pick [7,0,1,2,3,4,5,6] rfl (H' := [_,_,_,_,_,_,_,_]) rfl (wl_sh [bagF T_l_V ([(l1, (qp3, qc5))]) none, _,_,_,_,_,_] (fun _ h => Holds.bagPush (T := T_l_V) (x := l1) (r := (qp3, qc5)) (zs := []) (H := [_,_,_,_,_,_,_]) h 0 rfl) (wl_pick [4,0,1,2,3,5,6] rfl (H' := [_,_,_,_,_,_,_]) rfl (wl_sh [bagF T_l_V (([(l1, (qp3, qc5))]) ++ [(l3, (qp9, qc11))]) none, _,_,_,_,_] (fun _ h => Holds.bagPush (T := T_l_V) (x := l3) (r := (qp9, qc11)) (zs := [(l1, (qp3, qc5))]) (H := [_,_,_,_,_,_]) h 0 rfl) (wl_hAs 0 (φ' := bagF T_l_V ([(l1, (qp3, qc5)), (l3, (qp9, qc11))]) none) rfl rfl (H' := [_,_,_,_,_,_]) rfl (wl_sh [treeF T_l_V 34 1 (.slice (some ⟨g56,0, none⟩) 2 2) ([l1, l3]), _,_,_,_] (fun _ h => h.treeIn 1 0 rfl rfl rfl rfl) (wl_treeLen 0 rfl (fun hzt2 _ => (wl_at 0 (v' := .slice (some ⟨g56,0, none⟩) ([l1, l3].length) 2) rfl (by rw [hzt2]) (wl_hAs 0 (φ' := treeF T_l_V 34 1 (.slice (some ⟨g56,0, none⟩) ([l1, l3].length) 2) ([l1, l3])) rfl (by rw [hzt2]) (H' := [_,_,_,_,_]) rfl ?_)))))))))))
   obtain ⟨hap57, hm⟩ := gd_some hm
   refine wl_treeOut 0 rfl (fun zz57 hzz57 => (wC [1,0] [2,3,4,5] rfl fn_35 rfl (ap_ApartValues (some ⟨g56,0, none⟩) ([l1, l3].length) 2 zz57 (by rw [pair_len hzz57]) (by rw [pair_len hzz57]; exact hap57.1) (fun z hz => hap57.2 z.1 (by rw [← hzz57]; exact List.mem_map_of_mem hz))) (asK [] rfl) rfl (H' := [_,_,_,_]) rfl ?_))
   rintro _ _ _ ⟨r6_57, hfe57, rfl, rfl, rfl⟩
   refine wl_drop 0 rfl (H' := [_,_,_,_]) rfl (wP rfl (wl_nil (we_then (wc_keep [4] (S' := [_]) rfl (wc_ret ?_)))))
   have hE := (Option.some.inj hm).symm
   obtain ⟨hE0, hE1⟩ := Prod.mk.inj hE
   clear hE
   replace hE0 := hE0.symm
   subst hE0
   replace hE1 := hE1.symm
   subst hE1
   refine ret_one (Hr := [_,_]) [3,1] Tryz.results18 (res_tmp rfl) ⟨rfl, rfl, rfl⟩ (asK [] rfl) rfl rfl (.inl rfl)
theorem w_ropewalklaw10_PatternMatches_s (N : Nat) (a0 : Int) (a1 : Int) (qp0 : Option Addr) (qc1 : Nat) (l2 : List ArgD) (a3 : Int) (a4 : Int) (a5 : Int) (a6 : ByteArray) (a7 : Int) (a8 : Int) (qp2 : Option Addr) (qc3 : Nat) (l9 : List Api_ExprD) (a10 : Int) (a11 : Int) (qp4 : Option Addr) (qc5 : Nat) (l12 : List V) (qp6 : Option Addr) (qc7 : Nat) (l13 : List Bool) (qp8 : Option Addr) (qc9 : Nat) (l14 : List V) (o0 : Bool) (hm : m_ropewalklaw10_PatternMatches N a0 a1 l2 a3 a4 a5 a6 a7 a8 l9 a10 a11 l12 l13 l14 = some o0) : Spec Tryz.prog 3 [.agg #[.int .u8 a0, .int .i64 a1, .slice qp0 l2.length qc1, .int .u8 a3, .int .u8 a4, .int .i64 a5, .string a6, .int .i64 a7, .int .u8 a8, .slice qp2 l9.length qc3], .agg #[.int .i64 a10, .int .i64 a11, .slice qp4 l12.length qc5], .slice qp6 l13.length qc7, .slice qp8 l14.length qc9] [.sli 5 R_ArgD qp0 qc1 l2, .sli 7 R_Api_ExprD qp2 qc3 l9, .sli 3 R_V qp4 qc5 l12, .sli 1 R_bool qp6 qc7 l13, .sli 3 R_V qp8 qc9 l14] [] (fun v Φr Hr => v = .bool o0 ∧ Φr = [] ∧ Hr = []) := by
 unfold m_ropewalklaw10_PatternMatches at hm
 refine spec_of Tryz.func3 rfl Tryz.ntmps3 rfl (S := [_,_,_,_]) rfl (fun C => (wc_seq (wc_region (wB rfl (fun g4 => (wB rfl (fun g5 => (wP rfl (wl_nil (we_then (wc_keep [5,4,2,3] (S' := [_,_,_,_]) rfl (wc_seq (wc_seq ?_)))))))))))))
 obtain ⟨bj_1, hm, hLj_1⟩ := bindO_some hm
 unfold m_ropewalklaw10_PatternMatches_C1 at hm
 refine wc_cut (σ := Bool) (fun j_1_44 => bj_1 = j_1_44) (fun j_1_44 => [(5, .pointer (some ⟨g5,0, none⟩)), (4, .pointer (some ⟨g4,0, none⟩)), (2, .slice qp6 l13.length qc7), (3, .slice qp8 l14.length qc9), (44, .bool j_1_44)]) (fun j_1_44 => [.sli 3 R_V qp4 qc5 l12, .sli 5 R_ArgD qp0 qc1 l2, .sli 7 R_Api_ExprD qp2 qc3 l9, .sli 1 R_bool qp6 qc7 l13, .sli 3 R_V qp8 qc9 l14]) (fun j_1_44 => [.blk g5 [.int .i64 a10, .int .i64 a11, .slice qp4 l12.length qc5] 36, .blk g4 [.int .u8 a0, .int .i64 a1, .slice qp0 l2.length qc1, .int .u8 a3, .int .u8 a4, .int .i64 a5, .string a6, .int .i64 a7, .int .u8 a8, .slice qp2 l9.length qc3] 33]) ?_ ?_
 ·
  refine wc_region (wF rfl tF_33_2 (wD 1 2 rfl tS_23 tA_23 rfl (wN rfl tE_23 (wP rfl (wl_as (d := 21) (v' := .bool (decide (2000 < l2.length))) (S' := [_,_,_,_,_,_,_]) rfl rfl (natgt (a := l2.length) (b := 2000)) (wP rfl ?_))))))
  refine wl_split (d := 22) (S' := [_,_,_,_,_,_,_,_]) rfl rfl (fun hs22 => ?_) (fun hs22 => ?_)
  ·
   replace hm := iteT hm hs22
   refine wO rfl (wO rfl (wO rfl (wO rfl (wP rfl (wP rfl (wO rfl (wO rfl (wO rfl (wP rfl (wP rfl (wO rfl (wO rfl (wO rfl ?_)))))))))))))
   refine wP rfl (wP rfl (wO rfl (wO rfl (wO rfl (wO rfl (wO rfl (wP rfl (wl_nil ?_))))))))
   have hE := (Option.some.inj hm).symm
   refine we_join true hE [5,4,2,3,44] rfl (asK [2,0,1,3,4] rfl) rfl
  ·
   replace hm := iteF hm hs22
   refine wF rfl tF_36_2 (wD 0 2 rfl tS_34 tA_34 rfl (wN rfl tE_34 (wP rfl (wl_as (d := 26) (v' := .bool (decide (2000 < l12.length))) (S' := [_,_,_,_,_,_,_,_,_,_,_,_]) rfl rfl (natgt (a := l12.length) (b := 2000)) (wP rfl (wP rfl ?_))))))
   refine wl_split (d := 28) (S' := [_,_,_,_,_,_,_,_,_,_,_,_,_,_]) rfl rfl (fun hs28 => ?_) (fun hs28 => ?_)
   ·
    replace hm := iteT hm hs28
    refine wO rfl (wO rfl (wO rfl (wP rfl (wP rfl (wO rfl (wO rfl (wO rfl (wP rfl (wP rfl (wO rfl (wO rfl (wO rfl (wO rfl ?_)))))))))))))
    refine wO rfl (wP rfl (wl_nil ?_))
    have hE := (Option.some.inj hm).symm
    refine we_join true hE [5,4,2,3,44] rfl (asK [2,0,1,3,4] rfl) rfl
   ·
    replace hm := iteF hm hs28
    refine wP rfl (wN rfl tE_37 (wP rfl (wl_as (d := 31) (v' := .bool (decide (2000 < l13.length))) (S' := [_,_,_,_,_,_,_,_,_,_,_,_,_,_,_,_,_]) rfl rfl (natgt (a := l13.length) (b := 2000)) (wP rfl (wP rfl ?_)))))
    refine wl_split (d := 33) (S' := [_,_,_,_,_,_,_,_,_,_,_,_,_,_,_,_,_,_,_]) rfl rfl (fun hs33 => ?_) (fun hs33 => ?_)
    ·
     replace hm := iteT hm hs33
     refine wO rfl (wO rfl (wO rfl (wP rfl (wP rfl (wO rfl (wO rfl (wO rfl (wO rfl (wO rfl (wP rfl (wl_nil ?_)))))))))))
     have hE := (Option.some.inj hm).symm
     refine we_join true hE [5,4,2,3,44] rfl (asK [2,0,1,3,4] rfl) rfl
    ·
     replace hm := iteF hm hs33
     refine wP rfl (wN rfl tE_34 (wP rfl (wl_as (d := 36) (v' := .bool (decide (2000 < l14.length))) (S' := [_,_,_,_,_,_,_,_,_,_,_,_,_,_,_,_,_,_,_,_,_,_]) rfl rfl (natgt (a := l14.length) (b := 2000)) (wP rfl (wP rfl ?_)))))
     refine wl_split (d := 38) (S' := [_,_,_,_,_,_,_,_,_,_,_,_,_,_,_,_,_,_,_,_,_,_,_,_]) rfl rfl (fun hs38 => ?_) (fun hs38 => ?_)
     ·
      replace hm := iteT hm hs38
      refine wO rfl (wO rfl (wO rfl (wO rfl (wO rfl (wP rfl (wl_nil ?_))))))
      have hE := (Option.some.inj hm).symm
      refine we_join true hE [5,4,2,3,44] rfl (asK [2,0,1,3,4] rfl) rfl
     ·
      replace hm := iteF hm hs38
      refine wF rfl tF_33_3 (wF rfl tF_31_4 (wD 1 9 rfl tS_29 tA_29 rfl ?_))
      obtain ⟨v42, hc42, hm⟩ := bindO_some hm
      refine wC [] [0,1] rfl fn_5 rfl (w_ropewalkkit_ExprsOf_s N qp2 qc3 l9 2000 _ hc42) (asK [1] rfl) rfl (H' := [_,_]) rfl ?_
      rintro _ _ _ ⟨rfl, rfl, rfl⟩
      refine wP rfl (wP rfl (wl_nil ?_))
      have hE := (Option.some.inj hm).symm
      refine we_join (decide (v42 > 2000)) hE [5,4,2,3,44] rfl (asK [2,0,1,3,4] rfl) rfl
 ·
  rintro j_1_44 hE
  try dsimp only
  have hm := hLj_1
  rw [hE] at hm
  refine wc_cond rfl (fun hb44 => ?_) (fun hb44 => ?_)
  ·
   replace hm := iteT hm hb44
   refine wc_keep [] (S' := []) rfl (wc_seq (wc_region ?_))
   obtain ⟨v45, hc45, hm⟩ := bindO_some hm
   refine wC [] [0,1] rfl fn_6 rfl (w_ropewalklaw10_awake_s N _ hc45) (asK [] rfl) rfl (H' := [_,_]) rfl ?_
   rintro _ _ _ ⟨rfl, rfl, rfl⟩
   refine wP rfl (wl_nil (we_then (wc_keep [8] (S' := [_]) rfl (wc_ret (we_then_ret ?_)))))
   have hE := (Option.some.inj hm).symm
   replace hE := hE.symm
   subst hE
   refine ret_one (Hr := []) [] Tryz.results3 (res_tmp rfl) ⟨rfl, rfl, rfl⟩ (asK [] rfl) rfl rfl (.inl rfl)
  ·
   replace hm := iteF hm hb44
   refine wc_keep [5,4,2,3] (S' := [_,_,_,_]) rfl (wc_skip (we_then (wc_seq ?_)))
   obtain ⟨⟨v47_0, v47_1, v47_2, v47_3, v47_4, v47_5, v47_6, v47_7, v47_8⟩, hc47, hm⟩ := bindO_some hm
   try dsimp only at hm
   obtain ⟨v49, hc49, hm⟩ := bindO_some hm
   refine wc_cut (σ := Nat × (Option Addr) × Nat × Nat × Nat × (Option Addr) × Nat × Nat × (Option Addr) × Nat × Nat) (fun _ => True) (fun (w_2_10_g, w_2_10_f2_p, w_2_10_f2_c, w_2_10_f2_n, w_2_9_g, w_2_9_f2_p, w_2_9_f2_c, w_2_9_f2_n, w_2_9_f9_p, w_2_9_f9_c, w_2_9_f9_n) => [(10, .pointer (some ⟨w_2_10_g, 0, none⟩)), (9, .pointer (some ⟨w_2_9_g, 0, none⟩)), (5, .pointer (some ⟨g5,0, none⟩)), (4, .pointer (some ⟨g4,0, none⟩)), (2, .slice qp6 l13.length qc7), (3, .slice qp8 l14.length qc9)]) (fun (w_2_10_g, w_2_10_f2_p, w_2_10_f2_c, w_2_10_f2_n, w_2_9_g, w_2_9_f2_p, w_2_9_f2_c, w_2_9_f2_n, w_2_9_f9_p, w_2_9_f9_c, w_2_9_f9_n) => [.sli 3 R_V qp4 qc5 l12, .sli 5 R_ArgD qp0 qc1 l2, .sli 7 R_Api_ExprD qp2 qc3 l9, .sli 1 R_bool qp6 qc7 l13, .sli 3 R_V qp8 qc9 l14]) (fun (w_2_10_g, w_2_10_f2_p, w_2_10_f2_c, w_2_10_f2_n, w_2_9_g, w_2_9_f2_p, w_2_9_f2_c, w_2_9_f2_n, w_2_9_f9_p, w_2_9_f9_c, w_2_9_f9_n) => [.blk w_2_10_g [.int .i64 a10, .int .i64 a11, .slice w_2_10_f2_p l12.length w_2_10_f2_c] 36, .own 27 3 R_V (.slice w_2_10_f2_p w_2_10_f2_n w_2_10_f2_c) v49, .blk w_2_9_g [.int .u8 a0, .int .i64 a1, .slice w_2_9_f2_p l2.length w_2_9_f2_c, .int .u8 v47_1, .int .u8 v47_2, .int .i64 v47_3, .string v47_4, .int .i64 v47_5, .int .u8 v47_6, .slice w_2_9_f9_p v47_8 w_2_9_f9_c] 33, .own 64 5 R_ArgD (.slice w_2_9_f2_p w_2_9_f2_n w_2_9_f2_c) v47_0, .own 31 7 RS_Api_ExprD (.slice w_2_9_f9_p w_2_9_f9_n w_2_9_f9_c) v47_7, .blk g5 [.int .i64 a10, .int .i64 a11, .slice qp4 l12.length qc5] 36, .blk g4 [.int .u8 a0, .int .i64 a1, .slice qp0 l2.length qc1, .int .u8 a3, .int .u8 a4, .int .i64 a5, .string a6, .int .i64 a7, .int .u8 a8, .slice qp2 l9.length qc3] 33]) ?_ ?_
   ·
    refine wc_draw [0,2] rfl rfl (fun hok => (wx_loadH hok 0 1 0 rfl rfl rfl (freshS_eq rfl) rfl rfl rfl rfl (cs := [_,_,_,_,_,_,_,_,_,_]) rfl tS_33 tA_33 rfl rfl (wx_loadH hok 2 0 0 rfl rfl rfl (freshS_eq rfl) rfl rfl rfl rfl (cs := [_,_,_]) rfl tS_36 tA_36 rfl rfl ?_)))
    refine wx_step3 hok 1 4 5 rfl rfl rfl rfl rfl rfl rfl rfl ?_ ?_ ?_
    ·
     refine wC [] [0,1] rfl fn_7 rfl (w_ropewalkkit_LentCond_s N a0 a1 qp0 qc1 l2 a3 a4 a5 a6 a7 a8 qp2 qc3 l9 _ _ _ _ _ _ _ _ _ hc47) (asK [1,2] rfl) rfl (H' := [_,_]) rfl ?_
     rintro _ _ _ ⟨p47_0, c47_1, c47_2, p47_3, c47_4, c47_5, rfl, rfl, rfl⟩
     refine wl_nil (we_x [0,1,2,3,4] [2] rfl rfl ?_)
     refine wx_step3 hok 3 4 5 rfl rfl rfl rfl rfl rfl rfl rfl ?_ ?_ ?_
     ·
      refine wC [] [0,1,2,3] rfl fn_8 rfl (w_ropewalkkit_LentFact_s N a10 a11 qp4 qc5 l12 _ hc49) (asK [0] rfl) rfl (H' := [_,_,_,_]) rfl ?_
      rintro _ _ _ ⟨p49_0, c49_1, c49_2, rfl, rfl, rfl⟩
      refine wl_nil (we_x [0,1,2,3,4] [4] rfl rfl ?_)
      refine wx_step2 hok 4 5 rfl rfl rfl rfl rfl rfl ?_ ?_
      ·
       refine wl_alloc rfl rfl rfl (freshS_eq rfl) rfl tZ_33 rfl (fun g9 => (wl_nil (we_x [0,1,2,3,4] [4,5] rfl rfl (xS hok 5 rfl (wl_alloc rfl rfl rfl (freshS_eq rfl) rfl tZ_36 rfl (fun g10 => (wl_nil (we_x [0,1,2,3,4] [5,6] rfl rfl (xS hok 6 rfl (wS 1 0 rfl tS_33 (all' := [_,_,_,_,_,_,_,_,_,_]) rfl (H' := [_,_,_,_,_,_,_]) rfl (wl_nil (we_x [0,1,2,3,4] [5] rfl rfl (xS hok 7 rfl (wS 0 0 rfl tS_36 (all' := [_,_,_]) rfl (H' := [_,_,_,_,_,_,_]) rfl (wl_nil ?_)))))))))))))))
       refine we_x [0,1,2,3,4] [] rfl rfl (wx_done hok rfl (we_pick [0,2,1,3,4,5,6] rfl (H' := [_,_,_,_,_,_,_]) rfl ?_))
       refine we_join (g10, p49_0, c49_1, c49_2, g9, p47_0, c47_1, c47_2, p47_3, c47_4, c47_5) trivial [10,9,5,4,2,3] rfl (asK [0,1,2,3,4] rfl) rfl
      ·
       refine wl_alloc rfl rfl rfl (freshS_eq rfl) rfl tZ_36 rfl (fun g10 => (wl_nil (we_x [0,1,2,3,4] [4,5] rfl rfl (xS hok 4 rfl (wl_alloc rfl rfl rfl (freshS_eq rfl) rfl tZ_33 rfl (fun g9 => (wl_nil (we_x [0,1,2,3,4] [5,6] rfl rfl (xS hok 6 rfl (wS 0 0 rfl tS_33 (all' := [_,_,_,_,_,_,_,_,_,_]) rfl (H' := [_,_,_,_,_,_,_]) rfl (wl_nil (we_x [0,1,2,3,4] [5] rfl rfl (xS hok 7 rfl (wS 1 0 rfl tS_36 (all' := [_,_,_]) rfl (H' := [_,_,_,_,_,_,_]) rfl (wl_nil ?_)))))))))))))))
       refine we_x [0,1,2,3,4] [] rfl rfl (wx_done hok rfl (we_pick [1,2,0,3,4,5,6] rfl (H' := [_,_,_,_,_,_,_]) rfl ?_))
       refine we_join (g10, p49_0, c49_1, c49_2, g9, p47_0, c47_1, c47_2, p47_3, c47_4, c47_5) trivial [10,9,5,4,2,3] rfl (asK [0,1,2,3,4] rfl) rfl
     ·
      refine wl_alloc rfl rfl rfl (freshS_eq rfl) rfl tZ_33 rfl (fun g9 => (wl_nil (we_x [0,1,2,3,4] [3,4] rfl rfl ?_)))
      refine wx_step2 hok 3 5 rfl rfl rfl rfl rfl rfl ?_ ?_
      ·
       refine wC [] [0,1,2,3,4] rfl fn_8 rfl (w_ropewalkkit_LentFact_s N a10 a11 qp4 qc5 l12 _ hc49) (asK [0] rfl) rfl (H' := [_,_,_,_,_]) rfl ?_
       rintro _ _ _ ⟨p49_0, c49_1, c49_2, rfl, rfl, rfl⟩
       refine wl_nil (we_x [0,1,2,3,4] [5] rfl rfl (xS hok 5 rfl (wl_alloc rfl rfl rfl (freshS_eq rfl) rfl tZ_36 rfl (fun g10 => (wl_nil (we_x [0,1,2,3,4] [5,6] rfl rfl (xS hok 6 rfl (wS 2 0 rfl tS_33 (all' := [_,_,_,_,_,_,_,_,_,_]) rfl (H' := [_,_,_,_,_,_,_]) rfl (wl_nil (we_x [0,1,2,3,4] [5] rfl rfl (xS hok 7 rfl (wS 0 0 rfl tS_36 (all' := [_,_,_]) rfl (H' := [_,_,_,_,_,_,_]) rfl (wl_nil (we_x [0,1,2,3,4] [] rfl rfl ?_))))))))))))))
       refine wx_done hok rfl ?_
       refine we_join (g10, p49_0, c49_1, c49_2, g9, p47_0, c47_1, c47_2, p47_3, c47_4, c47_5) trivial [10,9,5,4,2,3] rfl (asK [0,1,2,3,4] rfl) rfl
      ·
       refine wl_alloc rfl rfl rfl (freshS_eq rfl) rfl tZ_36 rfl (fun g10 => (wl_nil (we_x [0,1,2,3,4] [4,5] rfl rfl (xS hok 3 rfl (wC [] [0,1,2,3,4,5] rfl fn_8 rfl (w_ropewalkkit_LentFact_s N a10 a11 qp4 qc5 l12 _ hc49) (asK [0] rfl) rfl (H' := [_,_,_,_,_,_]) rfl ?_)))))
       rintro _ _ _ ⟨p49_0, c49_1, c49_2, rfl, rfl, rfl⟩
       refine wl_nil (we_x [0,1,2,3,4] [6] rfl rfl (xS hok 6 rfl (wS 2 0 rfl tS_33 (all' := [_,_,_,_,_,_,_,_,_,_]) rfl (H' := [_,_,_,_,_,_,_]) rfl (wl_nil (we_x [0,1,2,3,4] [5] rfl rfl (xS hok 7 rfl (wS 1 0 rfl tS_36 (all' := [_,_,_]) rfl (H' := [_,_,_,_,_,_,_]) rfl (wl_nil (we_x [0,1,2,3,4] [] rfl rfl (wx_done hok rfl (we_pick [1,0,2,3,4,5,6] rfl (H' := [_,_,_,_,_,_,_]) rfl ?_)))))))))))
       refine we_join (g10, p49_0, c49_1, c49_2, g9, p47_0, c47_1, c47_2, p47_3, c47_4, c47_5) trivial [10,9,5,4,2,3] rfl (asK [0,1,2,3,4] rfl) rfl
     ·
      refine wl_alloc rfl rfl rfl (freshS_eq rfl) rfl tZ_36 rfl (fun g10 => (wl_nil (we_x [0,1,2,3,4] [3,4] rfl rfl ?_)))
      refine wx_step2 hok 3 4 rfl rfl rfl rfl rfl rfl ?_ ?_
      ·
       refine wC [] [0,1,2,3,4] rfl fn_8 rfl (w_ropewalkkit_LentFact_s N a10 a11 qp4 qc5 l12 _ hc49) (asK [0] rfl) rfl (H' := [_,_,_,_,_]) rfl ?_
       rintro _ _ _ ⟨p49_0, c49_1, c49_2, rfl, rfl, rfl⟩
       refine wl_nil (we_x [0,1,2,3,4] [5] rfl rfl (xS hok 4 rfl (wl_alloc rfl rfl rfl (freshS_eq rfl) rfl tZ_33 rfl (fun g9 => (wl_nil (we_x [0,1,2,3,4] [5,6] rfl rfl (xS hok 6 rfl (wS 0 0 rfl tS_33 (all' := [_,_,_,_,_,_,_,_,_,_]) rfl (H' := [_,_,_,_,_,_,_]) rfl (wl_nil (we_x [0,1,2,3,4] [5] rfl rfl (xS hok 7 rfl (wS 2 0 rfl tS_36 (all' := [_,_,_]) rfl (H' := [_,_,_,_,_,_,_]) rfl (wl_nil (we_x [0,1,2,3,4] [] rfl rfl ?_))))))))))))))
       refine wx_done hok rfl (we_pick [2,1,0,3,4,5,6] rfl (H' := [_,_,_,_,_,_,_]) rfl ?_)
       refine we_join (g10, p49_0, c49_1, c49_2, g9, p47_0, c47_1, c47_2, p47_3, c47_4, c47_5) trivial [10,9,5,4,2,3] rfl (asK [0,1,2,3,4] rfl) rfl
      ·
       refine wl_alloc rfl rfl rfl (freshS_eq rfl) rfl tZ_33 rfl (fun g9 => (wl_nil (we_x [0,1,2,3,4] [4,5] rfl rfl (xS hok 3 rfl (wC [] [0,1,2,3,4,5] rfl fn_8 rfl (w_ropewalkkit_LentFact_s N a10 a11 qp4 qc5 l12 _ hc49) (asK [0] rfl) rfl (H' := [_,_,_,_,_,_]) rfl ?_)))))
       rintro _ _ _ ⟨p49_0, c49_1, c49_2, rfl, rfl, rfl⟩
       refine wl_nil (we_x [0,1,2,3,4] [6] rfl rfl (xS hok 6 rfl (wS 1 0 rfl tS_33 (all' := [_,_,_,_,_,_,_,_,_,_]) rfl (H' := [_,_,_,_,_,_,_]) rfl (wl_nil (we_x [0,1,2,3,4] [5] rfl rfl (xS hok 7 rfl (wS 2 0 rfl tS_36 (all' := [_,_,_]) rfl (H' := [_,_,_,_,_,_,_]) rfl (wl_nil (we_x [0,1,2,3,4] [] rfl rfl (wx_done hok rfl (we_pick [2,0,1,3,4,5,6] rfl (H' := [_,_,_,_,_,_,_]) rfl ?_)))))))))))
       refine we_join (g10, p49_0, c49_1, c49_2, g9, p47_0, c47_1, c47_2, p47_3, c47_4, c47_5) trivial [10,9,5,4,2,3] rfl (asK [0,1,2,3,4] rfl) rfl
    ·
     refine wl_alloc rfl rfl rfl (freshS_eq rfl) rfl tZ_33 rfl (fun g9 => (wl_nil (we_x [0,1,2,3,4] [1,2] rfl rfl ?_)))
     refine wx_step2 hok 1 5 rfl rfl rfl rfl rfl rfl ?_ ?_
     ·
      refine wC [] [0,1,2] rfl fn_7 rfl (w_ropewalkkit_LentCond_s N a0 a1 qp0 qc1 l2 a3 a4 a5 a6 a7 a8 qp2 qc3 l9 _ _ _ _ _ _ _ _ _ hc47) (asK [1,2] rfl) rfl (H' := [_,_,_]) rfl ?_
      rintro _ _ _ ⟨p47_0, c47_1, c47_2, p47_3, c47_4, c47_5, rfl, rfl, rfl⟩
      refine wl_nil (we_x [0,1,2,3,4] [3] rfl rfl ?_)
      refine wx_step2 hok 3 5 rfl rfl rfl rfl rfl rfl ?_ ?_
      ·
       refine wC [] [0,1,2,3,4] rfl fn_8 rfl (w_ropewalkkit_LentFact_s N a10 a11 qp4 qc5 l12 _ hc49) (asK [0] rfl) rfl (H' := [_,_,_,_,_]) rfl ?_
       rintro _ _ _ ⟨p49_0, c49_1, c49_2, rfl, rfl, rfl⟩
       refine wl_nil (we_x [0,1,2,3,4] [5] rfl rfl (xS hok 5 rfl (wl_alloc rfl rfl rfl (freshS_eq rfl) rfl tZ_36 rfl (fun g10 => (wl_nil (we_x [0,1,2,3,4] [5,6] rfl rfl (xS hok 6 rfl (wS 4 0 rfl tS_33 (all' := [_,_,_,_,_,_,_,_,_,_]) rfl (H' := [_,_,_,_,_,_,_]) rfl (wl_nil (we_x [0,1,2,3,4] [5] rfl rfl (xS hok 7 rfl (wS 0 0 rfl tS_36 (all' := [_,_,_]) rfl (H' := [_,_,_,_,_,_,_]) rfl (wl_nil (we_x [0,1,2,3,4] [] rfl rfl ?_))))))))))))))
       refine wx_done hok rfl (we_pick [0,1,4,2,3,5,6] rfl (H' := [_,_,_,_,_,_,_]) rfl ?_)
       refine we_join (g10, p49_0, c49_1, c49_2, g9, p47_0, c47_1, c47_2, p47_3, c47_4, c47_5) trivial [10,9,5,4,2,3] rfl (asK [0,1,2,3,4] rfl) rfl
      ·
       refine wl_alloc rfl rfl rfl (freshS_eq rfl) rfl tZ_36 rfl (fun g10 => (wl_nil (we_x [0,1,2,3,4] [4,5] rfl rfl (xS hok 3 rfl (wC [] [0,1,2,3,4,5] rfl fn_8 rfl (w_ropewalkkit_LentFact_s N a10 a11 qp4 qc5 l12 _ hc49) (asK [0] rfl) rfl (H' := [_,_,_,_,_,_]) rfl ?_)))))
       rintro _ _ _ ⟨p49_0, c49_1, c49_2, rfl, rfl, rfl⟩
       refine wl_nil (we_x [0,1,2,3,4] [6] rfl rfl (xS hok 6 rfl (wS 4 0 rfl tS_33 (all' := [_,_,_,_,_,_,_,_,_,_]) rfl (H' := [_,_,_,_,_,_,_]) rfl (wl_nil (we_x [0,1,2,3,4] [5] rfl rfl (xS hok 7 rfl (wS 1 0 rfl tS_36 (all' := [_,_,_]) rfl (H' := [_,_,_,_,_,_,_]) rfl (wl_nil (we_x [0,1,2,3,4] [] rfl rfl (wx_done hok rfl (we_pick [1,0,4,2,3,5,6] rfl (H' := [_,_,_,_,_,_,_]) rfl ?_)))))))))))
       refine we_join (g10, p49_0, c49_1, c49_2, g9, p47_0, c47_1, c47_2, p47_3, c47_4, c47_5) trivial [10,9,5,4,2,3] rfl (asK [0,1,2,3,4] rfl) rfl
     ·
      refine wl_alloc rfl rfl rfl (freshS_eq rfl) rfl tZ_36 rfl (fun g10 => (wl_nil (we_x [0,1,2,3,4] [2,3] rfl rfl (xS hok 1 rfl (wC [] [0,1,2,3] rfl fn_7 rfl (w_ropewalkkit_LentCond_s N a0 a1 qp0 qc1 l2 a3 a4 a5 a6 a7 a8 qp2 qc3 l9 _ _ _ _ _ _ _ _ _ hc47) (asK [1,2] rfl) rfl (H' := [_,_,_,_]) rfl ?_)))))
      rintro _ _ _ ⟨p47_0, c47_1, c47_2, p47_3, c47_4, c47_5, rfl, rfl, rfl⟩
      refine wl_nil (we_x [0,1,2,3,4] [4] rfl rfl (xS hok 3 rfl (wC [] [0,1,2,3,4,5] rfl fn_8 rfl (w_ropewalkkit_LentFact_s N a10 a11 qp4 qc5 l12 _ hc49) (asK [0] rfl) rfl (H' := [_,_,_,_,_,_]) rfl ?_)))
      rintro _ _ _ ⟨p49_0, c49_1, c49_2, rfl, rfl, rfl⟩
      refine wl_nil (we_x [0,1,2,3,4] [6] rfl rfl (xS hok 6 rfl (wS 4 0 rfl tS_33 (all' := [_,_,_,_,_,_,_,_,_,_]) rfl (H' := [_,_,_,_,_,_,_]) rfl (wl_nil (we_x [0,1,2,3,4] [5] rfl rfl (xS hok 7 rfl (wS 3 0 rfl tS_36 (all' := [_,_,_]) rfl (H' := [_,_,_,_,_,_,_]) rfl (wl_nil (we_x [0,1,2,3,4] [] rfl rfl (wx_done hok rfl (we_pick [3,0,4,1,2,5,6] rfl (H' := [_,_,_,_,_,_,_]) rfl ?_)))))))))))
      refine we_join (g10, p49_0, c49_1, c49_2, g9, p47_0, c47_1, c47_2, p47_3, c47_4, c47_5) trivial [10,9,5,4,2,3] rfl (asK [0,1,2,3,4] rfl) rfl
    ·
     refine wl_alloc rfl rfl rfl (freshS_eq rfl) rfl tZ_36 rfl (fun g10 => (wl_nil (we_x [0,1,2,3,4] [1,2] rfl rfl ?_)))
     refine wx_step2 hok 1 4 rfl rfl rfl rfl rfl rfl ?_ ?_
     ·
      refine wC [] [0,1,2] rfl fn_7 rfl (w_ropewalkkit_LentCond_s N a0 a1 qp0 qc1 l2 a3 a4 a5 a6 a7 a8 qp2 qc3 l9 _ _ _ _ _ _ _ _ _ hc47) (asK [1,2] rfl) rfl (H' := [_,_,_]) rfl ?_
      rintro _ _ _ ⟨p47_0, c47_1, c47_2, p47_3, c47_4, c47_5, rfl, rfl, rfl⟩
      refine wl_nil (we_x [0,1,2,3,4] [3] rfl rfl ?_)
      refine wx_step2 hok 3 4 rfl rfl rfl rfl rfl rfl ?_ ?_
      ·
       refine wC [] [0,1,2,3,4] rfl fn_8 rfl (w_ropewalkkit_LentFact_s N a10 a11 qp4 qc5 l12 _ hc49) (asK [0] rfl) rfl (H' := [_,_,_,_,_]) rfl ?_
       rintro _ _ _ ⟨p49_0, c49_1, c49_2, rfl, rfl, rfl⟩
       refine wl_nil (we_x [0,1,2,3,4] [5] rfl rfl (xS hok 4 rfl (wl_alloc rfl rfl rfl (freshS_eq rfl) rfl tZ_33 rfl (fun g9 => (wl_nil (we_x [0,1,2,3,4] [5,6] rfl rfl (xS hok 6 rfl (wS 0 0 rfl tS_33 (all' := [_,_,_,_,_,_,_,_,_,_]) rfl (H' := [_,_,_,_,_,_,_]) rfl (wl_nil (we_x [0,1,2,3,4] [5] rfl rfl (xS hok 7 rfl (wS 4 0 rfl tS_36 (all' := [_,_,_]) rfl (H' := [_,_,_,_,_,_,_]) rfl (wl_nil (we_x [0,1,2,3,4] [] rfl rfl ?_))))))))))))))
       refine wx_done hok rfl (we_pick [4,1,0,2,3,5,6] rfl (H' := [_,_,_,_,_,_,_]) rfl ?_)
       refine we_join (g10, p49_0, c49_1, c49_2, g9, p47_0, c47_1, c47_2, p47_3, c47_4, c47_5) trivial [10,9,5,4,2,3] rfl (asK [0,1,2,3,4] rfl) rfl
      ·
       refine wl_alloc rfl rfl rfl (freshS_eq rfl) rfl tZ_33 rfl (fun g9 => (wl_nil (we_x [0,1,2,3,4] [4,5] rfl rfl (xS hok 3 rfl (wC [] [0,1,2,3,4,5] rfl fn_8 rfl (w_ropewalkkit_LentFact_s N a10 a11 qp4 qc5 l12 _ hc49) (asK [0] rfl) rfl (H' := [_,_,_,_,_,_]) rfl ?_)))))
       rintro _ _ _ ⟨p49_0, c49_1, c49_2, rfl, rfl, rfl⟩
       refine wl_nil (we_x [0,1,2,3,4] [6] rfl rfl (xS hok 6 rfl (wS 1 0 rfl tS_33 (all' := [_,_,_,_,_,_,_,_,_,_]) rfl (H' := [_,_,_,_,_,_,_]) rfl (wl_nil (we_x [0,1,2,3,4] [5] rfl rfl (xS hok 7 rfl (wS 4 0 rfl tS_36 (all' := [_,_,_]) rfl (H' := [_,_,_,_,_,_,_]) rfl (wl_nil (we_x [0,1,2,3,4] [] rfl rfl (wx_done hok rfl (we_pick [4,0,1,2,3,5,6] rfl (H' := [_,_,_,_,_,_,_]) rfl ?_)))))))))))
       refine we_join (g10, p49_0, c49_1, c49_2, g9, p47_0, c47_1, c47_2, p47_3, c47_4, c47_5) trivial [10,9,5,4,2,3] rfl (asK [0,1,2,3,4] rfl) rfl
     ·
      refine wl_alloc rfl rfl rfl (freshS_eq rfl) rfl tZ_33 rfl (fun g9 => (wl_nil (we_x [0,1,2,3,4] [2,3] rfl rfl (xS hok 1 rfl (wC [] [0,1,2,3] rfl fn_7 rfl (w_ropewalkkit_LentCond_s N a0 a1 qp0 qc1 l2 a3 a4 a5 a6 a7 a8 qp2 qc3 l9 _ _ _ _ _ _ _ _ _ hc47) (asK [1,2] rfl) rfl (H' := [_,_,_,_]) rfl ?_)))))
      rintro _ _ _ ⟨p47_0, c47_1, c47_2, p47_3, c47_4, c47_5, rfl, rfl, rfl⟩
      refine wl_nil (we_x [0,1,2,3,4] [4] rfl rfl (xS hok 3 rfl (wC [] [0,1,2,3,4,5] rfl fn_8 rfl (w_ropewalkkit_LentFact_s N a10 a11 qp4 qc5 l12 _ hc49) (asK [0] rfl) rfl (H' := [_,_,_,_,_,_]) rfl ?_)))
      rintro _ _ _ ⟨p49_0, c49_1, c49_2, rfl, rfl, rfl⟩
      refine wl_nil (we_x [0,1,2,3,4] [6] rfl rfl (xS hok 6 rfl (wS 3 0 rfl tS_33 (all' := [_,_,_,_,_,_,_,_,_,_]) rfl (H' := [_,_,_,_,_,_,_]) rfl (wl_nil (we_x [0,1,2,3,4] [5] rfl rfl (xS hok 7 rfl (wS 4 0 rfl tS_36 (all' := [_,_,_]) rfl (H' := [_,_,_,_,_,_,_]) rfl (wl_nil (we_x [0,1,2,3,4] [] rfl rfl (wx_done hok rfl (we_pick [4,0,3,1,2,5,6] rfl (H' := [_,_,_,_,_,_,_]) rfl ?_)))))))))))
      refine we_join (g10, p49_0, c49_1, c49_2, g9, p47_0, c47_1, c47_2, p47_3, c47_4, c47_5) trivial [10,9,5,4,2,3] rfl (asK [0,1,2,3,4] rfl) rfl
   ·
    rintro ⟨w_2_10_g, w_2_10_f2_p, w_2_10_f2_c, w_2_10_f2_n, w_2_9_g, w_2_9_f2_p, w_2_9_f2_c, w_2_9_f2_n, w_2_9_f9_p, w_2_9_f9_c, w_2_9_f9_n⟩ _
    try dsimp only
    refine wc_seq (wc_region (wl_buildSlice rfl rfl rfl (freshS_eq rfl) rfl tE_37 tS_4 tZ_4 rfl (zs := []) (by kernel_rfl) rfl (out := []) rfl (fun g50 => (wP rfl (wl_row (sz := 1) (m := 0) R_bool [] 0 rfl (fun F w hφ => rfl) rfl (by decide) (H' := [_,_,_,_,_,_,_,_]) rfl ?_)))))
    obtain ⟨hg52, hm⟩ := gd_some hm
    refine wl_append 0 3 rfl rfl rfl (freshS_eq rfl) rfl rfl rfl rfl rfl tE_37 tR_4 rfl rfl (Nat.le_trans hg52 (by decide)) (Nat.le_trans (Nat.mul_le_mul_right _ hg52) (by decide)) (H2 := fun p52 c52 => [.own 4 1 R_bool (.slice p52 (l13).length c52) l13,_,_,_,_,_,_,_]) (fun _ _ => rfl) (fun p52 c52 => (wP rfl ?_))
    obtain ⟨v54, hc54, hm⟩ := bindO_some hm
    refine wC [] [0,1,2,3,4,5,6,7] rfl fn_9 rfl (w_ropewalkkit_LentValues_s N qp8 qc9 l14 _ hc54) (asK [4] rfl) rfl (H' := [_,_,_,_,_,_,_,_]) rfl ?_
    rintro _ _ _ ⟨p54_0, c54_1, c54_2, rfl, rfl, rfl⟩
    refine wl_build rfl rfl rfl (freshS_eq rfl) rfl tZ_44 tP_44 rfl (out := [_,_]) rfl (wl_alloc rfl rfl rfl (freshS_eq rfl) rfl tZ_44 rfl (fun g11 => (wS 0 0 rfl tS_44 (all' := [_,_]) rfl (H' := [_,_,_,_,_,_,_,_,_,_]) rfl (wl_nil (we_then (wc_keep [11,10,9,5,4,2,3] (S' := [_,_,_,_,_,_,_]) rfl (wc_seq (wc_region (wl_loadH 5 0 rfl rfl rfl (freshS_eq rfl) rfl rfl rfl (cs := [_,_,_,_,_,_,_,_,_,_]) rfl tS_33 tA_33 rfl rfl (wl_loadH 3 0 rfl rfl rfl (freshS_eq rfl) rfl rfl rfl (cs := [_,_,_]) rfl tS_36 tA_36 rfl rfl (wl_loadH 0 0 rfl rfl rfl (freshS_eq rfl) rfl rfl rfl (cs := [_,_]) rfl tS_44 tA_44 rfl rfl (wl_ownLen 6 rfl (fun hzw_2_9_f2_n _ => ?_)))))))))))))
    subst hzw_2_9_f2_n
    refine wl_ownLen 7 rfl (fun hzw_2_9_f9_n _ => ?_)
    subst hzw_2_9_f9_n
    refine wl_ownLen 4 rfl (fun hzw_2_10_f2_n _ => ?_)
    subst hzw_2_10_f2_n
    refine wl_ownLen 2 rfl (fun hz2 _ => (wl_at 0 (v' := .agg #[.slice p52 l13.length c52, .slice p54_0 l14.length c54_1]) rfl (by first | rfl | rw [hz2]) (wl_hAs 0 (φ' := .blk g11 [.slice p52 l13.length c52, .slice p54_0 l14.length c54_1] 44) rfl (by first | rfl | rw [hz2]) (H' := [_,_,_,_,_,_,_,_,_,_]) rfl (wl_hAs 2 (φ' := .own 4 1 R_bool (.slice p52 l13.length c52) l13) rfl (by first | rfl | rw [hz2]) (H' := [_,_,_,_,_,_,_,_,_,_]) rfl (wl_ownLen 1 rfl (fun hzc54_2 _ => ?_))))))
    subst hzc54_2
    obtain ⟨hzl5, hm⟩ := gd_some hm
    refine wl_at 2 (v' := .agg #[.int .u8 a0, .int .i64 a1, .slice w_2_9_f2_p ((v47_0.take l2.length).length) w_2_9_f2_c, .int .u8 v47_1, .int .u8 v47_2, .int .i64 v47_3, .string v47_4, .int .i64 v47_5, .int .u8 v47_6, .slice w_2_9_f9_p v47_8 w_2_9_f9_c]) rfl (by rw [take_len hzl5]) (wl_hAs 5 (φ' := .blk w_2_9_g [.int .u8 a0, .int .i64 a1, .slice w_2_9_f2_p ((v47_0.take l2.length).length) w_2_9_f2_c, .int .u8 v47_1, .int .u8 v47_2, .int .i64 v47_3, .string v47_4, .int .i64 v47_5, .int .u8 v47_6, .slice w_2_9_f9_p v47_8 w_2_9_f9_c] 33) rfl (by rw [take_len hzl5]) (H' := [_,_,_,_,_,_,_,_,_,_]) rfl ?_)
    obtain ⟨hzl6, hm⟩ := gd_some hm
    refine wl_at 2 (v' := .agg #[.int .u8 a0, .int .i64 a1, .slice w_2_9_f2_p ((v47_0.take l2.length).length) w_2_9_f2_c, .int .u8 v47_1, .int .u8 v47_2, .int .i64 v47_3, .string v47_4, .int .i64 v47_5, .int .u8 v47_6, .slice w_2_9_f9_p (((v47_7.map to_Api_ExprD).take v47_8).length) w_2_9_f9_c]) rfl (by rw [takeM_len hzl6]) (wl_hAs 5 (φ' := .blk w_2_9_g [.int .u8 a0, .int .i64 a1, .slice w_2_9_f2_p ((v47_0.take l2.length).length) w_2_9_f2_c, .int .u8 v47_1, .int .u8 v47_2, .int .i64 v47_3, .string v47_4, .int .i64 v47_5, .int .u8 v47_6, .slice w_2_9_f9_p (((v47_7.map to_Api_ExprD).take v47_8).length) w_2_9_f9_c] 33) rfl (by rw [takeM_len hzl6]) (H' := [_,_,_,_,_,_,_,_,_,_]) rfl ?_)
    obtain ⟨hzl7, hm⟩ := gd_some hm
    refine wl_at 1 (v' := .agg #[.int .i64 a10, .int .i64 a11, .slice w_2_10_f2_p ((v49.take l12.length).length) w_2_10_f2_c]) rfl (by rw [take_len hzl7]) (wl_hAs 3 (φ' := .blk w_2_10_g [.int .i64 a10, .int .i64 a11, .slice w_2_10_f2_p ((v49.take l12.length).length) w_2_10_f2_c] 36) rfl (by rw [take_len hzl7]) (H' := [_,_,_,_,_,_,_,_,_,_]) rfl ?_)
    obtain ⟨hzl8, hm⟩ := gd_some hm
    refine wl_at 0 (v' := .agg #[.slice p52 l13.length c52, .slice p54_0 ((v54.take l14.length).length) c54_1]) rfl (by rw [take_len hzl8]) (wl_hAs 0 (φ' := .blk g11 [.slice p52 l13.length c52, .slice p54_0 ((v54.take l14.length).length) c54_1] 44) rfl (by rw [take_len hzl8]) (H' := [_,_,_,_,_,_,_,_,_,_]) rfl ?_)
    obtain ⟨⟨v60_0, v60_1, v60_2⟩, hc60, hm⟩ := bindO_some hm
    try dsimp only at hm
    refine wl_lend [] [0,1,2,3,4,5,6,7,8,9] [6,7,4,2,1] rfl rfl rfl (freshS_eq rfl) rfl rfl fn_10 rfl (w_pattern_Match_s N a0 a1 w_2_9_f2_p w_2_9_f2_c (v47_0.take l2.length) v47_1 v47_2 v47_3 v47_4 v47_5 v47_6 w_2_9_f9_p w_2_9_f9_c ((v47_7.map to_Api_ExprD).take v47_8) a10 a11 w_2_10_f2_p w_2_10_f2_c (v49.take l12.length) p52 c52 l13 p54_0 c54_1 (v54.take l14.length) _ _ _ hc60) (fun F w hφ hh => (ask_cons (sli_take (own_sli (hh _ (mem_at (k := 0) rfl))) l2.length) (ask_cons (sli_take (sli_mapTo _ (own_sli (hh _ (mem_at (k := 1) rfl))) (fun _ _ => RS_Api_ExprD_lend)) v47_8) (ask_cons (sli_take (own_sli (hh _ (mem_at (k := 2) rfl))) l12.length) (ask_cons (own_sli (hh _ (mem_at (k := 3) rfl))) (ask_cons (sli_take (own_sli (hh _ (mem_at (k := 4) rfl))) l14.length) ask_nil)))))) (fun _ _ _ hR => by obtain ⟨_,_,_,_,_,_, rfl, rfl, rfl⟩ := hR; exact ⟨rfl, (free_cons (own_free mkRep_free) (free_cons (own_free mkRep_free) (fun _ h => free_nil h)))⟩) rfl rfl (H' := [_,_,_,_,_,_,_,_,_,_]) rfl ?_
    rintro _ _ _ ⟨p60_0, c60_1, c60_2, p60_3, c60_4, c60_5, rfl, rfl, rfl⟩
    refine wl_at 1 (v' := .agg #[.slice p52 l13.length c52, .slice p54_0 l14.length c54_1]) rfl (by rw [take_len hzl8]) (wl_hAs 2 (φ' := .blk g11 [.slice p52 l13.length c52, .slice p54_0 l14.length c54_1] 44) rfl (by rw [take_len hzl8]) (H' := [_,_,_,_,_,_,_,_,_,_,_,_]) rfl (wl_at 2 (v' := .agg #[.int .i64 a10, .int .i64 a11, .slice w_2_10_f2_p l12.length w_2_10_f2_c]) rfl (by rw [take_len hzl7]) (wl_hAs 5 (φ' := .blk w_2_10_g [.int .i64 a10, .int .i64 a11, .slice w_2_10_f2_p l12.length w_2_10_f2_c] 36) rfl (by rw [take_len hzl7]) (H' := [_,_,_,_,_,_,_,_,_,_,_,_]) rfl (wl_at 3 (v' := .agg #[.int .u8 a0, .int .i64 a1, .slice w_2_9_f2_p ((v47_0.take l2.length).length) w_2_9_f2_c, .int .u8 v47_1, .int .u8 v47_2, .int .i64 v47_3, .string v47_4, .int .i64 v47_5, .int .u8 v47_6, .slice w_2_9_f9_p v47_8 w_2_9_f9_c]) rfl (by rw [takeM_len hzl6]) (wl_hAs 7 (φ' := .blk w_2_9_g [.int .u8 a0, .int .i64 a1, .slice w_2_9_f2_p ((v47_0.take l2.length).length) w_2_9_f2_c, .int .u8 v47_1, .int .u8 v47_2, .int .i64 v47_3, .string v47_4, .int .i64 v47_5, .int .u8 v47_6, .slice w_2_9_f9_p v47_8 w_2_9_f9_c] 33) rfl (by rw [takeM_len hzl6]) (H' := [_,_,_,_,_,_,_,_,_,_,_,_]) rfl (wl_at 3 (v' := .agg #[.int .u8 a0, .int .i64 a1, .slice w_2_9_f2_p l2.length w_2_9_f2_c, .int .u8 v47_1, .int .u8 v47_2, .int .i64 v47_3, .string v47_4, .int .i64 v47_5, .int .u8 v47_6, .slice w_2_9_f9_p v47_8 w_2_9_f9_c]) rfl (by rw [take_len hzl5]) (wl_hAs 7 (φ' := .blk w_2_9_g [.int .u8 a0, .int .i64 a1, .slice w_2_9_f2_p l2.length w_2_9_f2_c, .int .u8 v47_1, .int .u8 v47_2, .int .i64 v47_3, .string v47_4, .int .i64 v47_5, .int .u8 v47_6, .slice w_2_9_f9_p v47_8 w_2_9_f9_c] 33) rfl (by rw [take_len hzl5]) (H' := [_,_,_,_,_,_,_,_,_,_,_,_]) rfl (wP rfl (wP rfl (wP rfl (wl_alloc rfl rfl rfl (freshS_eq rfl) rfl tZ_44 rfl (fun g12 => (wS 0 0 rfl tS_44 (all' := [_,_]) rfl (H' := [_,_,_,_,_,_,_,_,_,_,_,_,_]) rfl (wP rfl ?_))))))))))))))
    refine wl_nil (we_then (wc_keep [13,12,11,10,9,5,4,2,3] (S' := [_,_,_,_,_,_,_,_,_]) rfl (wc_seq (wc_region (wl_loadH 8 0 rfl rfl rfl (freshS_eq rfl) rfl rfl rfl (cs := [_,_,_,_,_,_,_,_,_,_]) rfl tS_33 tA_33 rfl rfl (wl_loadH 6 0 rfl rfl rfl (freshS_eq rfl) rfl rfl rfl (cs := [_,_,_]) rfl tS_36 tA_36 rfl rfl (wl_loadH 3 0 rfl rfl rfl (freshS_eq rfl) rfl rfl rfl (cs := [_,_]) rfl tS_44 tA_44 rfl rfl ?_)))))))
    obtain ⟨hzl13, hm⟩ := gd_some hm
    refine wl_at 2 (v' := .agg #[.int .u8 a0, .int .i64 a1, .slice w_2_9_f2_p ((v47_0.take l2.length).length) w_2_9_f2_c, .int .u8 v47_1, .int .u8 v47_2, .int .i64 v47_3, .string v47_4, .int .i64 v47_5, .int .u8 v47_6, .slice w_2_9_f9_p v47_8 w_2_9_f9_c]) rfl (by rw [take_len hzl13]) (wl_hAs 8 (φ' := .blk w_2_9_g [.int .u8 a0, .int .i64 a1, .slice w_2_9_f2_p ((v47_0.take l2.length).length) w_2_9_f2_c, .int .u8 v47_1, .int .u8 v47_2, .int .i64 v47_3, .string v47_4, .int .i64 v47_5, .int .u8 v47_6, .slice w_2_9_f9_p v47_8 w_2_9_f9_c] 33) rfl (by rw [take_len hzl13]) (H' := [_,_,_,_,_,_,_,_,_,_,_,_,_]) rfl ?_)
    obtain ⟨hzl14, hm⟩ := gd_some hm
    refine wl_at 2 (v' := .agg #[.int .u8 a0, .int .i64 a1, .slice w_2_9_f2_p ((v47_0.take l2.length).length) w_2_9_f2_c, .int .u8 v47_1, .int .u8 v47_2, .int .i64 v47_3, .string v47_4, .int .i64 v47_5, .int .u8 v47_6, .slice w_2_9_f9_p (((v47_7.map to_Api_ExprD).take v47_8).length) w_2_9_f9_c]) rfl (by rw [takeM_len hzl14]) (wl_hAs 8 (φ' := .blk w_2_9_g [.int .u8 a0, .int .i64 a1, .slice w_2_9_f2_p ((v47_0.take l2.length).length) w_2_9_f2_c, .int .u8 v47_1, .int .u8 v47_2, .int .i64 v47_3, .string v47_4, .int .i64 v47_5, .int .u8 v47_6, .slice w_2_9_f9_p (((v47_7.map to_Api_ExprD).take v47_8).length) w_2_9_f9_c] 33) rfl (by rw [takeM_len hzl14]) (H' := [_,_,_,_,_,_,_,_,_,_,_,_,_]) rfl ?_)
    obtain ⟨hzl15, hm⟩ := gd_some hm
    refine wl_at 1 (v' := .agg #[.int .i64 a10, .int .i64 a11, .slice w_2_10_f2_p ((v49.take l12.length).length) w_2_10_f2_c]) rfl (by rw [take_len hzl15]) (wl_hAs 6 (φ' := .blk w_2_10_g [.int .i64 a10, .int .i64 a11, .slice w_2_10_f2_p ((v49.take l12.length).length) w_2_10_f2_c] 36) rfl (by rw [take_len hzl15]) (H' := [_,_,_,_,_,_,_,_,_,_,_,_,_]) rfl ?_)
    obtain ⟨hzl16, hm⟩ := gd_some hm
    refine wl_at 0 (v' := .agg #[.slice p52 l13.length c52, .slice p54_0 ((v54.take l14.length).length) c54_1]) rfl (by rw [take_len hzl16]) (wl_hAs 3 (φ' := .blk g11 [.slice p52 l13.length c52, .slice p54_0 ((v54.take l14.length).length) c54_1] 44) rfl (by rw [take_len hzl16]) (H' := [_,_,_,_,_,_,_,_,_,_,_,_,_]) rfl ?_)
    obtain ⟨⟨v67_0, v67_1, v67_2⟩, hc67, hm⟩ := bindO_some hm
    try dsimp only at hm
    refine wl_lend [] [0,1,2,3,4,5,6,7,8,9,10,11,12] [9,10,7,5,4] rfl rfl rfl (freshS_eq rfl) rfl rfl fn_10 rfl (w_pattern_Match_s N a0 a1 w_2_9_f2_p w_2_9_f2_c (v47_0.take l2.length) v47_1 v47_2 v47_3 v47_4 v47_5 v47_6 w_2_9_f9_p w_2_9_f9_c ((v47_7.map to_Api_ExprD).take v47_8) a10 a11 w_2_10_f2_p w_2_10_f2_c (v49.take l12.length) p52 c52 l13 p54_0 c54_1 (v54.take l14.length) _ _ _ hc67) (fun F w hφ hh => (ask_cons (sli_take (own_sli (hh _ (mem_at (k := 0) rfl))) l2.length) (ask_cons (sli_take (sli_mapTo _ (own_sli (hh _ (mem_at (k := 1) rfl))) (fun _ _ => RS_Api_ExprD_lend)) v47_8) (ask_cons (sli_take (own_sli (hh _ (mem_at (k := 2) rfl))) l12.length) (ask_cons (own_sli (hh _ (mem_at (k := 3) rfl))) (ask_cons (sli_take (own_sli (hh _ (mem_at (k := 4) rfl))) l14.length) ask_nil)))))) (fun _ _ _ hR => by obtain ⟨_,_,_,_,_,_, rfl, rfl, rfl⟩ := hR; exact ⟨rfl, (free_cons (own_free mkRep_free) (free_cons (own_free mkRep_free) (fun _ h => free_nil h)))⟩) rfl rfl (H' := [_,_,_,_,_,_,_,_,_,_,_,_,_]) rfl ?_
    rintro _ _ _ ⟨p67_0, c67_1, c67_2, p67_3, c67_4, c67_5, rfl, rfl, rfl⟩
    refine wl_at 1 (v' := .agg #[.slice p52 l13.length c52, .slice p54_0 l14.length c54_1]) rfl (by rw [take_len hzl16]) (wl_hAs 5 (φ' := .blk g11 [.slice p52 l13.length c52, .slice p54_0 l14.length c54_1] 44) rfl (by rw [take_len hzl16]) (H' := [_,_,_,_,_,_,_,_,_,_,_,_,_,_,_]) rfl (wl_at 2 (v' := .agg #[.int .i64 a10, .int .i64 a11, .slice w_2_10_f2_p l12.length w_2_10_f2_c]) rfl (by rw [take_len hzl15]) (wl_hAs 8 (φ' := .blk w_2_10_g [.int .i64 a10, .int .i64 a11, .slice w_2_10_f2_p l12.length w_2_10_f2_c] 36) rfl (by rw [take_len hzl15]) (H' := [_,_,_,_,_,_,_,_,_,_,_,_,_,_,_]) rfl (wl_at 3 (v' := .agg #[.int .u8 a0, .int .i64 a1, .slice w_2_9_f2_p ((v47_0.take l2.length).length) w_2_9_f2_c, .int .u8 v47_1, .int .u8 v47_2, .int .i64 v47_3, .string v47_4, .int .i64 v47_5, .int .u8 v47_6, .slice w_2_9_f9_p v47_8 w_2_9_f9_c]) rfl (by rw [takeM_len hzl14]) (wl_hAs 10 (φ' := .blk w_2_9_g [.int .u8 a0, .int .i64 a1, .slice w_2_9_f2_p ((v47_0.take l2.length).length) w_2_9_f2_c, .int .u8 v47_1, .int .u8 v47_2, .int .i64 v47_3, .string v47_4, .int .i64 v47_5, .int .u8 v47_6, .slice w_2_9_f9_p v47_8 w_2_9_f9_c] 33) rfl (by rw [takeM_len hzl14]) (H' := [_,_,_,_,_,_,_,_,_,_,_,_,_,_,_]) rfl (wl_at 3 (v' := .agg #[.int .u8 a0, .int .i64 a1, .slice w_2_9_f2_p l2.length w_2_9_f2_c, .int .u8 v47_1, .int .u8 v47_2, .int .i64 v47_3, .string v47_4, .int .i64 v47_5, .int .u8 v47_6, .slice w_2_9_f9_p v47_8 w_2_9_f9_c]) rfl (by rw [take_len hzl13]) (wl_hAs 10 (φ' := .blk w_2_9_g [.int .u8 a0, .int .i64 a1, .slice w_2_9_f2_p l2.length w_2_9_f2_c, .int .u8 v47_1, .int .u8 v47_2, .int .i64 v47_3, .string v47_4, .int .i64 v47_5, .int .u8 v47_6, .slice w_2_9_f9_p v47_8 w_2_9_f9_c] 33) rfl (by rw [take_len hzl13]) (H' := [_,_,_,_,_,_,_,_,_,_,_,_,_,_,_]) rfl (wP rfl (wP rfl (wP rfl (wl_alloc rfl rfl rfl (freshS_eq rfl) rfl tZ_44 rfl (fun g14 => (wS 0 0 rfl tS_44 (all' := [_,_]) rfl (H' := [_,_,_,_,_,_,_,_,_,_,_,_,_,_,_,_]) rfl (wP rfl ?_))))))))))))))
    refine wl_nil (we_then (wc_keep [14,13,12,11,10,9,5,4,2,3] (S' := [_,_,_,_,_,_,_,_,_,_]) rfl (wc_seq (wc_region (wl_loadH 15 0 rfl rfl rfl (freshS_eq rfl) rfl rfl rfl (cs := [_,_,_,_,_,_,_,_,_,_]) rfl tS_33 tA_33 rfl rfl (wl_loadH 14 0 rfl rfl rfl (freshS_eq rfl) rfl rfl rfl (cs := [_,_,_]) rfl tS_36 tA_36 rfl rfl (wP rfl (wP rfl (wl_build rfl rfl rfl (freshS_eq rfl) rfl tZ_47 tP_47 rfl (out := [_,_]) rfl ?_)))))))))
    obtain ⟨⟨v76_0, v76_1, v76_2⟩, hc76, hm⟩ := bindO_some hm
    try dsimp only at hm
    refine wC [] [0,1,2,3,4,5,6,7,8,9,10,11,12,13,14,15] rfl fn_11 rfl (w_ropewalkref10_Match_s N a0 a1 qp0 qc1 l2 a3 a4 a5 a6 a7 a8 qp2 qc3 l9 a10 a11 qp4 qc5 l12 qp6 qc7 l13 qp8 qc9 l14 _ _ _ hc76) (asK [1,2,0,3,4] rfl) rfl (H' := [_,_,_,_,_,_,_,_,_,_,_,_,_,_,_,_]) rfl ?_
    rintro _ _ _ ⟨p76_0, c76_1, c76_2, p76_3, c76_4, c76_5, rfl, rfl, rfl⟩
    refine wP rfl (wP rfl (wP rfl (wl_alloc rfl rfl rfl (freshS_eq rfl) rfl tZ_47 rfl (fun g16 => (wS 0 0 rfl tS_47 (all' := [_,_]) rfl (H' := [_,_,_,_,_,_,_,_,_,_,_,_,_,_,_,_,_,_,_]) rfl (wP rfl (wl_nil (we_then (wc_keep [17,16,14,13,12,11,10,9,5,4,2,3] (S' := [_,_,_,_,_,_,_,_,_,_,_,_]) rfl (wc_seq (wc_seq ?_)))))))))))
    obtain ⟨bj_3, hm, hLj_3⟩ := bindO_some hm
    unfold m_ropewalklaw10_PatternMatches_C3 at hm
    refine wc_cut (σ := Bool) (fun j_3_101 => bj_3 = j_3_101) (fun j_3_101 => [(16, .pointer (some ⟨g16,0, none⟩)), (14, .pointer (some ⟨g14,0, none⟩)), (12, .pointer (some ⟨g12,0, none⟩)), (11, .pointer (some ⟨g11,0, none⟩)), (10, .pointer (some ⟨w_2_10_g, 0, none⟩)), (9, .pointer (some ⟨w_2_9_g, 0, none⟩)), (5, .pointer (some ⟨g5,0, none⟩)), (4, .pointer (some ⟨g4,0, none⟩)), (3, .slice qp8 l14.length qc9), (101, .bool j_3_101)]) (fun j_3_101 => [.sli 3 R_V qp4 qc5 l12, .sli 5 R_ArgD qp0 qc1 l2, .sli 7 R_Api_ExprD qp2 qc3 l9, .sli 3 R_V qp8 qc9 l14]) (fun j_3_101 => [.blk g16 [.slice p76_0 c76_2 c76_1, .slice p76_3 c76_5 c76_4] 47, .own 4 1 R_bool (.slice p76_0 c76_2 c76_1) v76_0, .own 27 3 R_V (.slice p76_3 c76_5 c76_4) v76_1, .blk g14 [.slice p67_0 c67_2 c67_1, .slice p67_3 c67_5 c67_4] 44, .own 4 1 R_bool (.slice p67_0 c67_2 c67_1) v67_0, .own 27 3 R_V (.slice p67_3 c67_5 c67_4) v67_1, .blk g12 [.slice p60_0 c60_2 c60_1, .slice p60_3 c60_5 c60_4] 44, .own 4 1 R_bool (.slice p60_0 c60_2 c60_1) v60_0, .own 27 3 R_V (.slice p60_3 c60_5 c60_4) v60_1, .blk g11 [.slice p52 l13.length c52, .slice p54_0 l14.length c54_1] 44, .own 4 1 R_bool (.slice p52 l13.length c52) l13, .own 27 3 R_V (.slice p54_0 v54.length c54_1) v54, .blk w_2_10_g [.int .i64 a10, .int .i64 a11, .slice w_2_10_f2_p l12.length w_2_10_f2_c] 36, .own 27 3 R_V (.slice w_2_10_f2_p v49.length w_2_10_f2_c) v49, .blk w_2_9_g [.int .u8 a0, .int .i64 a1, .slice w_2_9_f2_p l2.length w_2_9_f2_c, .int .u8 v47_1, .int .u8 v47_2, .int .i64 v47_3, .string v47_4, .int .i64 v47_5, .int .u8 v47_6, .slice w_2_9_f9_p v47_8 w_2_9_f9_c] 33, .own 64 5 R_ArgD (.slice w_2_9_f2_p v47_0.length w_2_9_f2_c) v47_0, .own 31 7 RS_Api_ExprD (.slice w_2_9_f9_p v47_7.length w_2_9_f9_c) v47_7, .blk g5 [.int .i64 a10, .int .i64 a11, .slice qp4 l12.length qc5] 36, .blk g4 [.int .u8 a0, .int .i64 a1, .slice qp0 l2.length qc1, .int .u8 a3, .int .u8 a4, .int .i64 a5, .string a6, .int .i64 a7, .int .u8 a8, .slice qp2 l9.length qc3] 33]) ?_ ?_
    ·
     refine wc_region (wP rfl (wP rfl (wl_bin rfl rfl rfl (freshS_eq rfl) rfl rfl rfl (neqB _ _ v60_2 v76_2) (wP rfl ?_))))
     refine wl_split (d := 82) (S' := [_,_,_,_,_,_,_,_,_,_,_,_,_,_,_]) rfl rfl (fun hs82 => ?_) (fun hs82 => ?_)
     ·
      replace hm := iteT hm hs82
      refine wO rfl (wO rfl (wO rfl (wO rfl (wP rfl (wP rfl (wO rfl (wO rfl (wO rfl (wO rfl (wP rfl (wP rfl (wO rfl (wO rfl ?_)))))))))))))
      refine wO rfl (wO rfl (wO rfl (wO rfl (wP rfl (wl_nil ?_)))))
      have hE := (Option.some.inj hm).symm
      refine we_pick [0,1,2,3,4,5,6,7,8,9,11,10,12,13,14,15,16,17,18] rfl (H' := [_,_,_,_,_,_,_,_,_,_,_,_,_,_,_,_,_,_,_]) rfl ?_
      refine we_join true hE [16,14,12,11,10,9,5,4,3,101] rfl (asK [0,1,2,4] rfl) rfl
     ·
      replace hm := iteF hm hs82
      refine wl_loadH 6 0 rfl rfl rfl (freshS_eq rfl) rfl rfl rfl (cs := [_,_]) rfl tS_44 tA_44 rfl rfl (wl_loadH 0 0 rfl rfl rfl (freshS_eq rfl) rfl rfl rfl (cs := [_,_]) rfl tS_47 tA_47 rfl rfl (wl_ownLen 7 rfl (fun hzc60_2 _ => ?_)))
      subst hzc60_2
      refine wl_ownLen 8 rfl (fun hzc60_5 _ => ?_)
      subst hzc60_5
      refine wl_ownLen 1 rfl (fun hzc76_2 _ => ?_)
      subst hzc76_2
      refine wl_ownLen 2 rfl (fun hzc76_5 _ => ?_)
      subst hzc76_5
      obtain ⟨v85, hc85, hm⟩ := bindO_some hm
      refine wl_lend [] [0,1,2,3,4,5,6,7,8,9,10,11,12,13,14,15,16,17,18] [7,8,1,2] rfl rfl rfl (freshS_eq rfl) rfl rfl fn_12 rfl (w_ropewalklaw10_same_s N p60_0 c60_1 v60_0 p60_3 c60_4 v60_1 p76_0 c76_1 v76_0 p76_3 c76_4 v76_1 _ hc85) (fun F w hφ hh => (ask_cons (own_sli (hh _ (mem_at (k := 0) rfl))) (ask_cons (own_sli (hh _ (mem_at (k := 1) rfl))) (ask_cons (own_sli (hh _ (mem_at (k := 2) rfl))) (ask_cons (own_sli (hh _ (mem_at (k := 3) rfl))) ask_nil))))) (fun _ _ _ hR => by obtain ⟨rfl, rfl, rfl⟩ := hR; exact ⟨rfl, (fun _ h => free_nil h)⟩) rfl rfl (H' := [_,_,_,_,_,_,_,_,_,_,_,_,_,_,_,_,_,_,_]) rfl ?_
      rintro _ _ _ ⟨rfl, rfl, rfl⟩
      refine wP rfl (wP rfl (wP rfl ?_))
      refine wl_split (d := 88) (S' := [_,_,_,_,_,_,_,_,_,_,_,_,_,_,_,_,_,_,_,_,_]) rfl rfl (fun hs88 => ?_) (fun hs88 => ?_)
      ·
       replace hm := iteT hm hs88
       refine wO rfl (wO rfl (wO rfl (wO rfl (wP rfl (wP rfl (wO rfl (wO rfl (wO rfl (wO rfl (wO rfl (wO rfl (wP rfl (wl_nil ?_)))))))))))))
       have hE := (Option.some.inj hm).symm
       refine we_pick [0,1,2,3,4,5,6,7,8,9,11,10,12,13,14,15,16,17,18] rfl (H' := [_,_,_,_,_,_,_,_,_,_,_,_,_,_,_,_,_,_,_]) rfl ?_
       refine we_join true hE [16,14,12,11,10,9,5,4,3,101] rfl (asK [0,1,2,4] rfl) rfl
      ·
       replace hm := iteF hm hs88
       refine wl_loadH 3 0 rfl rfl rfl (freshS_eq rfl) rfl rfl rfl (cs := [_,_]) rfl tS_44 tA_44 rfl rfl (wl_loadH 0 0 rfl rfl rfl (freshS_eq rfl) rfl rfl rfl (cs := [_,_]) rfl tS_47 tA_47 rfl rfl (wl_ownLen 4 rfl (fun hzc67_2 _ => ?_)))
       subst hzc67_2
       refine wl_ownLen 5 rfl (fun hzc67_5 _ => ?_)
       subst hzc67_5
       obtain ⟨v91, hc91, hm⟩ := bindO_some hm
       refine wl_lend [] [0,1,2,3,4,5,6,7,8,9,10,11,12,13,14,15,16,17,18] [4,5,1,2] rfl rfl rfl (freshS_eq rfl) rfl rfl fn_12 rfl (w_ropewalklaw10_same_s N p67_0 c67_1 v67_0 p67_3 c67_4 v67_1 p76_0 c76_1 v76_0 p76_3 c76_4 v76_1 _ hc91) (fun F w hφ hh => (ask_cons (own_sli (hh _ (mem_at (k := 0) rfl))) (ask_cons (own_sli (hh _ (mem_at (k := 1) rfl))) (ask_cons (own_sli (hh _ (mem_at (k := 2) rfl))) (ask_cons (own_sli (hh _ (mem_at (k := 3) rfl))) ask_nil))))) (fun _ _ _ hR => by obtain ⟨rfl, rfl, rfl⟩ := hR; exact ⟨rfl, (fun _ h => free_nil h)⟩) rfl rfl (H' := [_,_,_,_,_,_,_,_,_,_,_,_,_,_,_,_,_,_,_]) rfl ?_
       rintro _ _ _ ⟨rfl, rfl, rfl⟩
       refine wP rfl (wP rfl (wP rfl ?_))
       refine wl_split (d := 94) (S' := [_,_,_,_,_,_,_,_,_,_,_,_,_,_,_,_,_,_,_,_,_,_,_,_,_,_,_]) rfl rfl (fun hs94 => ?_) (fun hs94 => ?_)
       ·
        replace hm := iteT hm hs94
        refine wO rfl (wO rfl (wO rfl (wO rfl (wO rfl (wO rfl (wP rfl (wl_nil ?_)))))))
        have hE := (Option.some.inj hm).symm
        refine we_pick [0,1,2,3,4,5,6,7,8,9,11,10,12,13,14,15,16,17,18] rfl (H' := [_,_,_,_,_,_,_,_,_,_,_,_,_,_,_,_,_,_,_]) rfl ?_
        refine we_join true hE [16,14,12,11,10,9,5,4,3,101] rfl (asK [0,1,2,4] rfl) rfl
       ·
        replace hm := iteF hm hs94
        refine wl_loadH 9 0 rfl rfl rfl (freshS_eq rfl) rfl rfl rfl (cs := [_,_]) rfl tS_44 tA_44 rfl rfl (wP rfl (wP rfl (wl_build rfl rfl rfl (freshS_eq rfl) rfl tZ_47 tP_47 rfl (out := [_,_]) rfl ?_)))
        obtain ⟨hzl20, hm⟩ := gd_some hm
        refine wl_at 3 (v' := .agg #[.slice p52 l13.length c52, .slice p54_0 ((v54.take l14.length).length) c54_1]) rfl (by rw [take_len hzl20]) (wl_hAs 9 (φ' := .blk g11 [.slice p52 l13.length c52, .slice p54_0 ((v54.take l14.length).length) c54_1] 44) rfl (by rw [take_len hzl20]) (H' := [_,_,_,_,_,_,_,_,_,_,_,_,_,_,_,_,_,_,_]) rfl ?_)
        obtain ⟨v99, hc99, hm⟩ := bindO_some hm
        refine wl_lend [] [0,1,2,3,4,5,6,7,8,9,10,11,12,13,14,15,16,17,18] [11,10] rfl rfl rfl (freshS_eq rfl) rfl rfl fn_12 rfl (w_ropewalklaw10_same_s N p52 c52 l13 p54_0 c54_1 (v54.take l14.length) qp6 qc7 l13 qp8 qc9 l14 _ hc99) (fun F w hφ hh => (ask_cons (own_sli (hh _ (mem_at (k := 0) rfl))) (ask_cons (sli_take (own_sli (hh _ (mem_at (k := 1) rfl))) l14.length) (ask_cons (hφ _ (mem_at (k := 3) rfl)) (ask_cons (hφ _ (mem_at (k := 4) rfl)) ask_nil))))) (fun _ _ _ hR => by obtain ⟨rfl, rfl, rfl⟩ := hR; exact ⟨rfl, (fun _ h => free_nil h)⟩) rfl rfl (H' := [_,_,_,_,_,_,_,_,_,_,_,_,_,_,_,_,_,_,_]) rfl ?_
        rintro _ _ _ ⟨rfl, rfl, rfl⟩
        refine wl_at 4 (v' := .agg #[.slice p52 l13.length c52, .slice p54_0 l14.length c54_1]) rfl (by rw [take_len hzl20]) (wl_hAs 9 (φ' := .blk g11 [.slice p52 l13.length c52, .slice p54_0 l14.length c54_1] 44) rfl (by rw [take_len hzl20]) (H' := [_,_,_,_,_,_,_,_,_,_,_,_,_,_,_,_,_,_,_]) rfl (wP rfl (wP rfl (wl_nil ?_))))
        have hE := (Option.some.inj hm).symm
        refine we_pick [0,1,2,3,4,5,6,7,8,9,11,10,12,13,14,15,16,17,18] rfl (H' := [_,_,_,_,_,_,_,_,_,_,_,_,_,_,_,_,_,_,_]) rfl ?_
        refine we_join (!v99) hE [16,14,12,11,10,9,5,4,3,101] rfl (asK [0,1,2,4] rfl) rfl
    ·
     rintro j_3_101 hE
     try dsimp only
     have hm := hLj_3
     rw [hE] at hm
     refine wc_cond rfl (fun hb101 => ?_) (fun hb101 => ?_)
     ·
      replace hm := iteT hm hb101
      refine wc_keep [] (S' := []) rfl (wc_seq (wc_region (wP rfl (wl_nil (we_then (wc_ret (we_then_ret ?_)))))))
      have hE := (Option.some.inj hm).symm
      replace hE := hE.symm
      subst hE
      refine ret_one (Hr := []) [] Tryz.results3 (res_tmp rfl) ⟨rfl, rfl, rfl⟩ (asK [] rfl) rfl rfl (.inl rfl)
     ·
      replace hm := iteF hm hb101
      refine wc_keep [16,14,12,11,10,9,5,4,3] (S' := [_,_,_,_,_,_,_,_,_]) rfl (wc_skip (we_then (wc_seq (wc_seq ?_))))
      obtain ⟨bj_4, hm, hLj_4⟩ := bindO_some hm
      unfold m_ropewalklaw10_PatternMatches_C4 at hm
      refine wc_cut (σ := Bool) (fun j_4_118 => bj_4 = j_4_118) (fun j_4_118 => [(16, .pointer (some ⟨g16,0, none⟩)), (14, .pointer (some ⟨g14,0, none⟩)), (12, .pointer (some ⟨g12,0, none⟩)), (11, .pointer (some ⟨g11,0, none⟩)), (10, .pointer (some ⟨w_2_10_g, 0, none⟩)), (118, .bool j_4_118)]) (fun j_4_118 => []) (fun j_4_118 => [.blk g16 [.slice p76_0 c76_2 c76_1, .slice p76_3 c76_5 c76_4] 47, .own 4 1 R_bool (.slice p76_0 c76_2 c76_1) v76_0, .own 27 3 R_V (.slice p76_3 c76_5 c76_4) v76_1, .blk g14 [.slice p67_0 c67_2 c67_1, .slice p67_3 c67_5 c67_4] 44, .own 4 1 R_bool (.slice p67_0 c67_2 c67_1) v67_0, .own 27 3 R_V (.slice p67_3 c67_5 c67_4) v67_1, .blk g12 [.slice p60_0 c60_2 c60_1, .slice p60_3 c60_5 c60_4] 44, .own 4 1 R_bool (.slice p60_0 c60_2 c60_1) v60_0, .own 27 3 R_V (.slice p60_3 c60_5 c60_4) v60_1, .blk g11 [.slice p52 l13.length c52, .slice p54_0 l14.length c54_1] 44, .own 4 1 R_bool (.slice p52 l13.length c52) l13, .own 27 3 R_V (.slice p54_0 v54.length c54_1) v54, .blk w_2_10_g [.int .i64 a10, .int .i64 a11, .slice w_2_10_f2_p l12.length w_2_10_f2_c] 36, .own 27 3 R_V (.slice w_2_10_f2_p v49.length w_2_10_f2_c) v49]) ?_ ?_
      ·
       refine wc_region (wl_loadH 14 0 rfl rfl rfl (freshS_eq rfl) rfl rfl rfl (cs := [_,_,_,_,_,_,_,_,_,_]) rfl tS_33 tA_33 rfl rfl (wl_loadH 18 0 rfl rfl rfl (freshS_eq rfl) rfl rfl rfl (cs := [_,_,_,_,_,_,_,_,_,_]) rfl tS_33 tA_33 rfl rfl ?_))
       obtain ⟨v104, hc104, hm⟩ := bindO_some hm
       refine wl_lend [] [0,1,2,3,4,5,6,7,8,9,10,11,12,13,14,15,16,17,18] [15,16] rfl rfl rfl (freshS_eq rfl) rfl rfl fn_13 rfl (w_ropewalkkit_KeptCond_W_s N a0 a1 w_2_9_f2_p w_2_9_f2_c v47_0 l2.length v47_1 v47_2 v47_3 v47_4 v47_5 v47_6 w_2_9_f9_p w_2_9_f9_c v47_7 v47_8 a0 a1 qp0 qc1 l2 a3 a4 a5 a6 a7 a8 qp2 qc3 l9 _ hc104) (fun F w hφ hh => (ask_cons (own_sli (hh _ (mem_at (k := 0) rfl))) (ask_cons (own_sli (hh _ (mem_at (k := 1) rfl))) (ask_cons (hφ _ (mem_at (k := 1) rfl)) (ask_cons (hφ _ (mem_at (k := 2) rfl)) ask_nil))))) (fun _ _ _ hR => by obtain ⟨rfl, rfl, rfl⟩ := hR; exact ⟨rfl, (fun _ h => free_nil h)⟩) rfl rfl (H' := [_,_,_,_,_,_,_,_,_,_,_,_,_,_,_,_,_,_,_]) rfl ?_
       rintro _ _ _ ⟨rfl, rfl, rfl⟩
       refine wP rfl (wP rfl ?_)
       refine wl_split (d := 106) (S' := [_,_,_,_,_,_,_,_,_,_,_,_,_]) rfl rfl (fun hs106 => ?_) (fun hs106 => ?_)
       ·
        replace hm := iteT hm hs106
        refine wO rfl (wO rfl (wO rfl (wO rfl (wP rfl (wP rfl (wO rfl (wO rfl (wO rfl (wO rfl (wO rfl (wP rfl (wl_nil ?_))))))))))))
        have hE := (Option.some.inj hm).symm
        refine we_pick [0,1,2,3,4,5,6,7,8,9,10,11,12,13] rfl (H' := [_,_,_,_,_,_,_,_,_,_,_,_,_,_]) rfl ?_
        refine we_join true hE [16,14,12,11,10,118] rfl (asK [] rfl) rfl
       ·
        replace hm := iteF hm hs106
        refine wl_loadH 12 0 rfl rfl rfl (freshS_eq rfl) rfl rfl rfl (cs := [_,_,_]) rfl tS_36 tA_36 rfl rfl (wl_loadH 17 0 rfl rfl rfl (freshS_eq rfl) rfl rfl rfl (cs := [_,_,_]) rfl tS_36 tA_36 rfl rfl ?_)
        obtain ⟨v109, hc109, hm⟩ := bindO_some hm
        refine wl_lend [] [0,1,2,3,4,5,6,7,8,9,10,11,12,13,14,15,16,17,18] [13] rfl rfl rfl (freshS_eq rfl) rfl rfl fn_14 rfl (w_ropewalkkit_KeptFact_W_s N a10 a11 w_2_10_f2_p w_2_10_f2_c v49 l12.length a10 a11 qp4 qc5 l12 _ hc109) (fun F w hφ hh => (ask_cons (own_sli (hh _ (mem_at (k := 0) rfl))) (ask_cons (hφ _ (mem_at (k := 0) rfl)) ask_nil))) (fun _ _ _ hR => by obtain ⟨rfl, rfl, rfl⟩ := hR; exact ⟨rfl, (fun _ h => free_nil h)⟩) rfl rfl (H' := [_,_,_,_,_,_,_,_,_,_,_,_,_,_,_,_,_,_,_]) rfl ?_
        rintro _ _ _ ⟨rfl, rfl, rfl⟩
        refine wP rfl (wP rfl (wP rfl ?_))
        refine wl_split (d := 112) (S' := [_,_,_,_,_,_,_,_,_,_,_,_,_,_,_,_,_,_,_]) rfl rfl (fun hs112 => ?_) (fun hs112 => ?_)
        ·
         replace hm := iteT hm hs112
         refine wO rfl (wO rfl (wO rfl (wO rfl (wO rfl (wP rfl (wl_nil ?_))))))
         have hE := (Option.some.inj hm).symm
         refine we_pick [0,1,2,3,4,5,6,7,8,9,10,11,12,13] rfl (H' := [_,_,_,_,_,_,_,_,_,_,_,_,_,_]) rfl ?_
         refine we_join true hE [16,14,12,11,10,118] rfl (asK [] rfl) rfl
        ·
         replace hm := iteF hm hs112
         refine wF rfl tF_44_1 (wD 9 1 rfl tS_34 tA_34 rfl (wP rfl ?_))
         obtain ⟨v116, hc116, hm⟩ := bindO_some hm
         refine wl_lend [] [0,1,2,3,4,5,6,7,8,9,10,11,12,13,14,15,16,17,18] [11] rfl rfl rfl (freshS_eq rfl) rfl rfl fn_15 rfl (w_ropewalkkit_KeptValues_W_s N p54_0 c54_1 v54 l14.length qp8 qc9 l14 _ hc116) (fun F w hφ hh => (ask_cons (own_sli (hh _ (mem_at (k := 0) rfl))) (ask_cons (hφ _ (mem_at (k := 3) rfl)) ask_nil))) (fun _ _ _ hR => by obtain ⟨rfl, rfl, rfl⟩ := hR; exact ⟨rfl, (fun _ h => free_nil h)⟩) rfl rfl (H' := [_,_,_,_,_,_,_,_,_,_,_,_,_,_,_,_,_,_,_]) rfl ?_
         rintro _ _ _ ⟨rfl, rfl, rfl⟩
         refine wP rfl (wP rfl (wl_nil ?_))
         have hE := (Option.some.inj hm).symm
         refine we_pick [0,1,2,3,4,5,6,7,8,9,10,11,12,13] rfl (H' := [_,_,_,_,_,_,_,_,_,_,_,_,_,_]) rfl ?_
         refine we_join (!v116) hE [16,14,12,11,10,118] rfl (asK [] rfl) rfl
      ·
       rintro j_4_118 hE
       try dsimp only
       have hm := hLj_4
       rw [hE] at hm
       refine wc_cond rfl (fun hb118 => ?_) (fun hb118 => ?_)
       ·
        replace hm := iteT hm hb118
        refine wc_keep [] (S' := []) rfl (wc_seq (wc_region (wP rfl (wl_nil (we_then (wc_ret (we_then_ret ?_)))))))
        have hE := (Option.some.inj hm).symm
        replace hE := hE.symm
        subst hE
        refine ret_one (Hr := []) [] Tryz.results3 (res_tmp rfl) ⟨rfl, rfl, rfl⟩ (asK [] rfl) rfl rfl (.inl rfl)
       ·
        replace hm := iteF hm hb118
        refine wc_keep [16,14,12,11,10] (S' := [_,_,_,_,_]) rfl (wc_skip (we_then (wc_seq (wc_region (wl_loadH 12 0 rfl rfl rfl (freshS_eq rfl) rfl rfl rfl (cs := [_,_,_]) rfl tS_36 tA_36 rfl rfl ?_)))))
        obtain ⟨v120, hc120, hm⟩ := bindO_some hm
        refine wC [13] [0,1,2,3,4,5,6,7,8,9,10,11,12] rfl fn_16 rfl (w_ropewalkkit_OverFact_V_s N a10 a11 w_2_10_f2_p v49.length w_2_10_f2_c v49 l12.length _ hc120) (asK [] rfl) rfl (H' := [_,_,_,_,_,_,_,_,_,_,_,_,_]) rfl ?_
        rintro _ _ _ ⟨rfl, rfl, rfl⟩
        refine wl_nil (we_then (wc_keep [16,14,12,11] (S' := [_,_,_,_]) rfl (wc_seq (wc_region (wF rfl tF_44_1 (wD 10 1 rfl tS_34 tA_34 rfl ?_))))))
        obtain ⟨v123, hc123, hm⟩ := bindO_some hm
        refine wC [12] [0,1,2,3,4,5,6,7,8,9,10,11,13] rfl fn_17 rfl (w_ropewalkkit_OverValues_V_s N p54_0 v54.length c54_1 v54 l14.length _ hc123) (asK [] rfl) rfl (H' := [_,_,_,_,_,_,_,_,_,_,_,_,_]) rfl ?_
        rintro _ _ _ ⟨rfl, rfl, rfl⟩
        refine wl_nil (we_then (wc_keep [16,14,12] (S' := [_,_,_]) rfl (wc_seq (wc_region (wl_loadH 8 0 rfl rfl rfl (freshS_eq rfl) rfl rfl rfl (cs := [_,_]) rfl tS_44 tA_44 rfl rfl (wl_loadH 2 0 rfl rfl rfl (freshS_eq rfl) rfl rfl rfl (cs := [_,_]) rfl tS_47 tA_47 rfl rfl (wl_ownLen 9 rfl (fun hzc60_2 _ => ?_))))))))
        subst hzc60_2
        refine wl_ownLen 10 rfl (fun hzc60_5 _ => ?_)
        subst hzc60_5
        refine wl_ownLen 3 rfl (fun hzc76_2 _ => ?_)
        subst hzc76_2
        refine wl_ownLen 4 rfl (fun hzc76_5 _ => ?_)
        subst hzc76_5
        obtain ⟨v126, hc126, hm⟩ := bindO_some hm
        refine wl_lend [] [0,1,2,3,4,5,6,7,8,9,10,11,12,13] [9,10,3,4] rfl rfl rfl (freshS_eq rfl) rfl rfl fn_12 rfl (w_ropewalklaw10_same_s N p60_0 c60_1 v60_0 p60_3 c60_4 v60_1 p76_0 c76_1 v76_0 p76_3 c76_4 v76_1 _ hc126) (fun F w hφ hh => (ask_cons (own_sli (hh _ (mem_at (k := 0) rfl))) (ask_cons (own_sli (hh _ (mem_at (k := 1) rfl))) (ask_cons (own_sli (hh _ (mem_at (k := 2) rfl))) (ask_cons (own_sli (hh _ (mem_at (k := 3) rfl))) ask_nil))))) (fun _ _ _ hR => by obtain ⟨rfl, rfl, rfl⟩ := hR; exact ⟨rfl, (fun _ h => free_nil h)⟩) rfl rfl (H' := [_,_,_,_,_,_,_,_,_,_,_,_,_,_]) rfl ?_
        rintro _ _ _ ⟨rfl, rfl, rfl⟩
        refine wP rfl ?_
        refine wl_split (d := 127) (S' := [_,_,_,_,_,_]) rfl rfl (fun hs127 => ?_) (fun hs127 => ?_)
        ·
         replace hm := iteT hm hs127
         refine wl_loadH 8 0 rfl rfl rfl (freshS_eq rfl) rfl rfl rfl (cs := [_,_]) rfl tS_44 tA_44 rfl rfl (wl_loadH 5 0 rfl rfl rfl (freshS_eq rfl) rfl rfl rfl (cs := [_,_]) rfl tS_44 tA_44 rfl rfl (wl_ownLen 6 rfl (fun hzc67_2 _ => ?_)))
         subst hzc67_2
         refine wl_ownLen 7 rfl (fun hzc67_5 _ => ?_)
         subst hzc67_5
         obtain ⟨⟨v130_0, v130_1⟩, hc130, hm⟩ := bindO_some hm
         try dsimp only at hm
         refine wC [9,10,6,7] [0,1,2,3,4,5,8,11,12,13] rfl fn_18 rfl (w_ropewalklaw10_apart_v2_s N p60_0 v60_0.length c60_1 v60_0 p60_3 v60_1.length c60_4 v60_1 p67_0 v67_0.length c67_1 v67_0 p67_3 v67_1.length c67_4 v67_1 _ _ hc130) (asK [] rfl) rfl (H' := [_,_,_,_,_,_,_,_,_,_]) rfl ?_
         rintro _ _ _ ⟨rfl, rfl, rfl⟩
         refine wP rfl (wP rfl ?_)
         refine wl_split (d := 132) (S' := [_,_,_,_,_,_,_,_,_,_,_]) rfl rfl (fun hs132 => ?_) (fun hs132 => ?_)
         ·
          replace hm := iteT hm hs132
          obtain ⟨v133, hc133, hm⟩ := bindO_some hm
          refine wC [] [0,1,2,3,4,5,6,7,8,9,10,11] rfl fn_6 rfl (w_ropewalklaw10_awake_s N _ hc133) (asK [] rfl) rfl (H' := [_,_,_,_,_,_,_,_,_,_,_,_]) rfl ?_
          rintro _ _ _ ⟨rfl, rfl, rfl⟩
          refine wP rfl (wP rfl (wl_nil (we_then (wc_keep [8] (S' := [_]) rfl (wc_ret ?_)))))
          have hE := (Option.some.inj hm).symm
          replace hE := hE.symm
          subst hE
          refine ret_one (Hr := []) [] Tryz.results3 (res_tmp rfl) ⟨rfl, rfl, rfl⟩ (asK [] rfl) rfl rfl (.inl rfl)
         ·
          replace hm := iteF hm hs132
          refine wO rfl (wP rfl (wP rfl (wl_nil (we_then (wc_keep [8] (S' := [_]) rfl (wc_ret ?_))))))
          have hE := (Option.some.inj hm).symm
          replace hE := hE.symm
          subst hE
          refine ret_one (Hr := []) [] Tryz.results3 (res_tmp rfl) ⟨rfl, rfl, rfl⟩ (asK [] rfl) rfl rfl (.inl rfl)
        ·
         replace hm := iteF hm hs127
         refine wO rfl (wO rfl (wO rfl (wP rfl (wP rfl (wO rfl (wP rfl (wP rfl (wl_nil (we_then (wc_keep [8] (S' := [_]) rfl (wc_ret ?_)))))))))))
         have hE := (Option.some.inj hm).symm
         replace hE := hE.symm
         subst hE
         refine ret_one (Hr := []) [] Tryz.results3 (res_tmp rfl) ⟨rfl, rfl, rfl⟩ (asK [] rfl) rfl rfl (.inl rfl)
end Go.Proofs.YtalbennlmcpnmaaGreat
