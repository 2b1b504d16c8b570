import Derived.Test.YtalbennlmcpnmaaGreatXW4
namespace Go.Proofs.YtalbennlmcpnmaaGreat
open Go.RowKit
set_option maxRecDepth 100000
set_option maxHeartbeats 4000000
theorem w_ropewalklaw10_apart_v2_s (N : Nat) (qp0 : Option Addr) (qn1 : Nat) (qc2 : Nat) (l0 : List Bool) (qp3 : Option Addr) (qn4 : Nat) (qc5 : Nat) (l1 : List V) (qp6 : Option Addr) (qn7 : Nat) (qc8 : Nat) (l2 : List Bool) (qp9 : Option Addr) (qn10 : Nat) (qc11 : Nat) (l3 : List V) (o0 : Bool) (o1 : List Bool) (hm : m_ropewalklaw10_apart_v2 N l0 l1 l2 l3 = some (o0, o1)) : Spec Tryz.prog 18 [.agg #[.slice qp0 qn1 qc2, .slice qp3 qn4 qc5], .agg #[.slice qp6 qn7 qc8, .slice qp9 qn10 qc11]] [] [.own 4 1 R_bool (.slice qp0 qn1 qc2) l0, .own 27 3 R_V (.slice qp3 qn4 qc5) l1, .own 4 1 R_bool (.slice qp6 qn7 qc8) l2, .own 27 3 R_V (.slice qp9 qn10 qc11) l3] (fun v Φr Hr => v = .bool o0 ∧ Φr = [] ∧ Hr = [.own 4 1 R_bool (.slice qp0 qn1 qc2) o1, .own 4 1 R_bool (.slice qp6 qn7 qc8) l2]) := by
 unfold m_ropewalklaw10_apart_v2 at hm
 refine spec_of Tryz.func18 rfl Tryz.ntmps18 rfl (S := [_,_]) rfl (fun C => (wc_seq (wc_region (wB rfl (fun g2 => (wB rfl (fun g3 => (wP rfl (wl_nil (we_then (wc_keep [3,2] (S' := [_,_]) rfl (wc_seq (wc_region (wl_buildSlice rfl rfl rfl (freshS_eq rfl) rfl tE_37 tS_4 tZ_4 rfl (zs := []) (by kernel_rfl) rfl (out := []) rfl (fun g8 => (wF rfl tF_44_0 (wD 1 0 rfl tS_37 tA_37 rfl ?_)))))))))))))))))
 refine wl_row (sz := 1) (m := 0) R_bool [] 0 rfl (fun F w hφ => rfl) rfl (by decide) (H' := [_,_,_,_,_,_,_]) rfl (wl_ownLen 5 rfl (fun hzqn7 _ => ?_))
 subst hzqn7
 obtain ⟨hg11, hm⟩ := gd_some hm
 refine wl_appendO 0 5 rfl rfl rfl (freshS_eq rfl) rfl rfl rfl rfl rfl tE_37 tR_4 rfl rfl (Nat.le_trans hg11 (by decide)) (Nat.le_trans (Nat.mul_le_mul_right _ hg11) (by decide)) (H2 := fun p11 c11 => [.own 4 1 R_bool (.slice p11 (l2).length c11) l2,_,_,_,_,_,_]) (fun _ _ => rfl) (fun p11 c11 => (wP rfl (wl_nil (we_then (wc_keep [5,3,2] (S' := [_,_,_]) rfl (wc_seq ?_))))))
 obtain ⟨bj_1, hm, hLj_1⟩ := bindO_some hm
 refine wc_cut (σ := List Bool) (fun j_1_2_f0_l => bj_1 = j_1_2_f0_l) (fun j_1_2_f0_l => [(5, .slice p11 (l2).length c11), (3, .pointer (some ⟨g3,0, none⟩)), (2, .pointer (some ⟨g2,0, none⟩))]) (fun j_1_2_f0_l => []) (fun j_1_2_f0_l => [.own 4 1 R_bool (.slice p11 (l2).length c11) l2, .blk g3 [.slice qp6 l2.length qc8, .slice qp9 qn10 qc11] 44, .own 4 1 R_bool (.slice qp6 l2.length qc8) l2, .own 27 3 R_V (.slice qp9 qn10 qc11) l3, .blk g2 [.slice qp0 qn1 qc2, .slice qp3 qn4 qc5] 44, .own 4 1 R_bool (.slice qp0 qn1 qc2) j_1_2_f0_l, .own 27 3 R_V (.slice qp3 qn4 qc5) l1]) ?_ ?_
 ·
  refine wc_seq (wc_region (wP rfl (wl_nil (we_then (wc_block (wc_pick [0,1,5,6,2,3,4] rfl (H' := [_,_,_,_,_,_,_]) rfl (wc_loop (σ := Nat × Nat × (List Bool)) (fun (nu1, u1_6, u1_2_f0_l) => iter (m_ropewalklaw10_apart_v2_L1 N) nu1 (u1_6, u1_2_f0_l) = some bj_1) (fun (nu1, u1_6, u1_2_f0_l) => nu1) (fun (nu1, u1_6, u1_2_f0_l) => [(6, .int .i64 ((u1_6 : Nat) : Int)), (5, .slice p11 (l2).length c11), (3, .pointer (some ⟨g3,0, none⟩)), (2, .pointer (some ⟨g2,0, none⟩))]) (fun (nu1, u1_6, u1_2_f0_l) => []) (fun (nu1, u1_6, u1_2_f0_l) => [.own 4 1 R_bool (.slice p11 (l2).length c11) l2, .blk g3 [.slice qp6 l2.length qc8, .slice qp9 qn10 qc11] 44, .own 4 1 R_bool (.slice qp6 l2.length qc8) l2, .own 27 3 R_V (.slice qp9 qn10 qc11) l3, .blk g2 [.slice qp0 qn1 qc2, .slice qp3 qn4 qc5] 44, .own 4 1 R_bool (.slice qp0 qn1 qc2) u1_2_f0_l, .own 27 3 R_V (.slice qp3 qn4 qc5) l1]) (N, 0, l0) hm [6,5,3,2] rfl (asK [] rfl) rfl (fun s_ hm => ?_))))))))
  obtain ⟨nu1, u1_6, u1_2_f0_l⟩ := s_
  try dsimp only at hm ⊢
  obtain ⟨mu1, bu1, hnu1, hq, hLu1⟩ := iter_some hm
  clear hm
  subst hnu1
  replace hm := hq
  clear hq
  unfold m_ropewalklaw10_apart_v2_L1 at hm
  try dsimp only at hm
  refine wc_seq (wc_seq (wc_region (wP rfl (wF rfl tF_44_0 (wD 4 0 rfl tS_37 tA_37 rfl (wl_ownLen 5 rfl (fun hl15 _ => (wN rfl tE_37 (wl_as (d := 15) (v' := .int .i64 ((u1_2_f0_l.length : Nat) : Int)) (S' := [_,_,_,_,_,_,_]) rfl rfl (len_is hl15) (wP rfl (wl_as (d := 16) (v' := .bool (decide (u1_6 < u1_2_f0_l.length))) (S' := [_,_,_,_,_,_,_,_]) rfl rfl (natlt (a := u1_6) (b := u1_2_f0_l.length)) (wl_nil (we_then (wc_keep [16,6,5,3,2] (S' := [_,_,_,_,_]) rfl ?_))))))))))))))
  refine wc_cond rfl (fun hb16 => ?_) (fun hb16 => ?_)
  ·
   replace hm := iteT hm hb16
   refine wc_keep [6,5,3,2] (S' := [_,_,_,_]) rfl (wc_skip (we_then (wc_seq (wc_block ?_))))
   obtain ⟨x25, hx25, hm⟩ := bindO_some hm
   obtain ⟨x28, hx28, hm⟩ := bindO_some hm
   refine wc_draw [0,1,2,3,4,5,6,7,8,9] rfl rfl (fun hok => (wx_fieldAddr hok 0 rfl rfl rfl (freshS_eq rfl) rfl rfl rfl tF_44_0 (wx_loadH hok 1 4 0 rfl rfl rfl (freshS_eq rfl) rfl rfl rfl rfl (cs := [_]) rfl tS_37 tA_37 rfl rfl (xP hok 2 rfl (wx_fieldAddr hok 3 rfl rfl rfl (freshS_eq rfl) rfl rfl rfl tF_44_0 (wx_loadH hok 4 4 0 rfl rfl rfl (freshS_eq rfl) rfl rfl rfl rfl (cs := [_]) rfl tS_37 tA_37 rfl rfl (xP hok 5 rfl (wx_indexH hok 6 5 u1_6 rfl rfl rfl (freshS_eq rfl) rfl rfl rfl rfl rfl rfl (get_lt hx25) tE_37 tS_4 (fun g25 eg25 => ?_)))))))))
   subst eg25
   refine wx_loadRow hok 7 R_bool_opens 5 u1_6 0 rfl rfl rfl (freshS_eq rfl) rfl rfl rfl rfl hx25 tS_4 tA_4 (v := .bool x25) rfl rfl (fun _ => (xP hok 8 rfl (wx_indexK hok 9 5 u1_6 rfl rfl rfl (freshS_eq rfl) rfl rfl rfl rfl rfl rfl (get_lt hx28) tE_37 tS_4 (xS hok 10 rfl (wl_storeRow (u := !x25) 5 u1_6 rfl rfl rfl rfl rfl (get_lt hx28) rfl rfl tS_4 rfl (fun F w hφ => ⟨(), rfl, ask_nil⟩) (H' := [_,_,_,_,_,_,_]) rfl (wl_nil (we_x [] [] rfl rfl (wx_done hok rfl (we_block_normal (we_then (wc_keep [6,5,3,2] (S' := [_,_,_,_]) rfl (wc_region (wP rfl (wP rfl ?_))))))))))))))
   obtain ⟨hg18, hm⟩ := gd_some hm
   refine wl_as (d := 18) (v' := .int .i64 ((u1_6 + 1 : Nat) : Int)) (S' := [_,_,_,_,_]) rfl rfl (nat_add (a := u1_6) (b := 1) hg18) (wl_pure (S' := [_,_,_,_,_]) rfl rfl rfl rfl rfl (wl_nil ?_))
   have hE := (Option.some.inj hm).symm
   replace hE := link_inl hLu1 hE
   refine we_roundK (_, u1_6 + 1, u1_2_f0_l.set u1_6 !x25) (Nat.lt_succ_self _) hE [6,5,3,2] rfl (asK [] rfl) rfl
  ·
   replace hm := iteF hm hb16
   refine wc_keep [5,3,2] (S' := [_,_,_]) rfl (wc_exit (we_then_exit (we_then_exit (we_block_hit ?_))))
   have hE := (Option.some.inj hm).symm
   replace hE := link_inr hLu1 hE
   refine we_join u1_2_f0_l hE [5,3,2] rfl (asK [] rfl) rfl
 ·
  rintro j_1_2_f0_l hE
  try dsimp only
  have hm := hLj_1
  rw [hE] at hm
  refine wc_seq ?_
  obtain ⟨bj_2, hm, hLj_2⟩ := bindS_some hm
  refine wc_cut (σ := Unit) (fun _ => bj_2 = .inl ()) (fun _ => [(3, .pointer (some ⟨g3,0, none⟩)), (2, .pointer (some ⟨g2,0, none⟩))]) (fun _ => []) (fun _ => [.blk g3 [.slice qp6 l2.length qc8, .slice qp9 qn10 qc11] 44, .own 4 1 R_bool (.slice qp6 l2.length qc8) l2, .own 27 3 R_V (.slice qp9 qn10 qc11) l3, .blk g2 [.slice qp0 qn1 qc2, .slice qp3 qn4 qc5] 44, .own 4 1 R_bool (.slice qp0 qn1 qc2) j_1_2_f0_l, .own 27 3 R_V (.slice qp3 qn4 qc5) l1]) ?_ ?_
  ·
   refine wc_seq (wc_region (wP rfl (wl_nil (we_then (wc_block (wc_loop (σ := Nat × Nat) (fun (nu2, u2_7) => iter (m_ropewalklaw10_apart_v2_L2 N l2 j_1_2_f0_l) nu2 u2_7 = some bj_2) (fun (nu2, u2_7) => nu2) (fun (nu2, u2_7) => [(7, .int .i64 ((u2_7 : Nat) : Int)), (5, .slice p11 (l2).length c11), (3, .pointer (some ⟨g3,0, none⟩)), (2, .pointer (some ⟨g2,0, none⟩))]) (fun (nu2, u2_7) => []) (fun (nu2, u2_7) => [.own 4 1 R_bool (.slice p11 (l2).length c11) l2, .blk g3 [.slice qp6 l2.length qc8, .slice qp9 qn10 qc11] 44, .own 4 1 R_bool (.slice qp6 l2.length qc8) l2, .own 27 3 R_V (.slice qp9 qn10 qc11) l3, .blk g2 [.slice qp0 qn1 qc2, .slice qp3 qn4 qc5] 44, .own 4 1 R_bool (.slice qp0 qn1 qc2) j_1_2_f0_l, .own 27 3 R_V (.slice qp3 qn4 qc5) l1]) (N, 0) hm [7,5,3,2] rfl (asK [] rfl) rfl (fun s_ hm => ?_)))))))
   obtain ⟨nu2, u2_7⟩ := s_
   try dsimp only at hm ⊢
   obtain ⟨mu2, bu2, hnu2, hq, hLu2⟩ := iter_some hm
   clear hm
   subst hnu2
   replace hm := hq
   clear hq
   unfold m_ropewalklaw10_apart_v2_L2 at hm
   try dsimp only at hm
   refine wc_seq (wc_seq ?_)
   obtain ⟨bj_3, hm, hLj_3⟩ := bindO_some hm
   refine wc_cut (σ := Bool) (fun j_3_39 => bj_3 = j_3_39) (fun j_3_39 => [(7, .int .i64 ((u2_7 : Nat) : Int)), (5, .slice p11 (l2).length c11), (3, .pointer (some ⟨g3,0, none⟩)), (2, .pointer (some ⟨g2,0, none⟩)), (39, .bool j_3_39)]) (fun j_3_39 => []) (fun j_3_39 => [.own 4 1 R_bool (.slice p11 (l2).length c11) l2, .blk g3 [.slice qp6 l2.length qc8, .slice qp9 qn10 qc11] 44, .own 4 1 R_bool (.slice qp6 l2.length qc8) l2, .own 27 3 R_V (.slice qp9 qn10 qc11) l3, .blk g2 [.slice qp0 qn1 qc2, .slice qp3 qn4 qc5] 44, .own 4 1 R_bool (.slice qp0 qn1 qc2) j_1_2_f0_l, .own 27 3 R_V (.slice qp3 qn4 qc5) l1]) ?_ ?_
   ·
    refine wc_region (wP rfl (wF rfl tF_44_0 (wD 1 0 rfl tS_37 tA_37 rfl (wN rfl tE_37 (wP rfl (wl_as (d := 33) (v' := .bool (decide (u2_7 < l2.length))) (S' := [_,_,_,_,_,_,_,_]) rfl rfl (natlt (a := u2_7) (b := l2.length)) (wP rfl ?_)))))))
    refine wl_split (d := 34) (S' := [_,_,_,_,_,_,_,_,_]) rfl rfl (fun hs34 => ?_) (fun hs34 => ?_)
    ·
     replace hm := iteT hm hs34
     refine wP rfl (wP rfl (wl_ownLen 0 rfl (fun hl37 _ => (wN rfl tE_37 (wl_as (d := 37) (v' := .int .i64 ((l2.length : Nat) : Int)) (S' := [_,_,_,_,_,_,_,_,_,_,_,_]) rfl rfl (len_is hl37) (wP rfl (wl_as (d := 38) (v' := .bool (decide (u2_7 < l2.length))) (S' := [_,_,_,_,_,_,_,_,_,_,_,_,_]) rfl rfl (natlt (a := u2_7) (b := l2.length)) (wP rfl (wl_nil ?_)))))))))
     have hE := (Option.some.inj hm).symm
     refine we_join (decide (u2_7 < l2.length)) hE [7,5,3,2,39] rfl (asK [] rfl) rfl
    ·
     replace hm := iteF hm hs34
     refine wO rfl (wO rfl (wO rfl (wO rfl (wP rfl (wl_nil ?_)))))
     have hE := (Option.some.inj hm).symm
     refine we_join false hE [7,5,3,2,39] rfl (asK [] rfl) rfl
   ·
    rintro j_3_39 hE
    try dsimp only
    have hm := hLj_3
    rw [hE] at hm
    refine wc_cond rfl (fun hb39 => ?_) (fun hb39 => ?_)
    ·
     replace hm := iteT hm hb39
     refine wc_keep [7,5,3,2] (S' := [_,_,_,_]) rfl (wc_skip (we_then (wc_seq (wc_block (wc_seq ?_)))))
     obtain ⟨x45, hx45, hm⟩ := bindO_some hm
     obtain ⟨x49, hx49, hm⟩ := bindO_some hm
     refine wc_draw [0,1,2,3,4,5,6,7,8,9] rfl rfl (fun hok => (wx_fieldAddr hok 0 rfl rfl rfl (freshS_eq rfl) rfl rfl rfl tF_44_0 (wx_loadH hok 1 1 0 rfl rfl rfl (freshS_eq rfl) rfl rfl rfl rfl (cs := [_]) rfl tS_37 tA_37 rfl rfl (xP hok 2 rfl (wx_indexH hok 3 2 u2_7 rfl rfl rfl (freshS_eq rfl) rfl rfl rfl rfl rfl rfl (get_lt hx45) tE_37 tS_4 (fun g45 eg45 => ?_))))))
     subst eg45
     refine wx_loadRow hok 4 R_bool_opens 2 u2_7 0 rfl rfl rfl (freshS_eq rfl) rfl rfl rfl rfl hx45 tS_4 tA_4 (v := .bool x45) rfl rfl (fun _ => (xP hok 5 rfl (xP hok 6 rfl (wx_indexH hok 7 0 u2_7 rfl rfl rfl (freshS_eq rfl) rfl rfl rfl rfl rfl rfl (get_lt hx49) tE_37 tS_4 (fun g49 eg49 => ?_)))))
     subst eg49
     refine wx_loadRow hok 8 R_bool_opens 0 u2_7 0 rfl rfl rfl (freshS_eq rfl) rfl rfl rfl rfl hx49 tS_4 tA_4 (v := .bool x49) rfl rfl (fun _ => (wx_bin hok 9 rfl rfl rfl (freshS_eq rfl) rfl rfl rfl rfl (neqB _ _ x45 x49) (wx_done hok rfl (we_then (wc_keep [51,7,5,3,2] (S' := [_,_,_,_,_]) rfl ?_)))))
     refine wc_cond rfl (fun hb51 => ?_) (fun hb51 => ?_)
     ·
      replace hm := iteT hm hb51
      refine wc_keep [] (S' := []) rfl (wc_seq (wc_region (wP rfl (wl_nil (we_then (wc_ret (we_block_ret (we_then_ret (we_then_ret (we_block_ret (we_then_ret ?_)))))))))))
      have hE := (Option.some.inj hm).symm
      replace hE := link_inr hLu2 hE
      replace hE := link_inr hLj_2 hE
      obtain ⟨hE0, hE1⟩ := Prod.mk.inj hE
      clear hE
      replace hE0 := hE0.symm
      subst hE0
      replace hE1 := hE1.symm
      subst hE1
      refine ret_one (Hr := [_,_]) [5,2] Tryz.results18 (res_tmp rfl) ⟨rfl, rfl, rfl⟩ (asK [] rfl) rfl rfl (.inl rfl)
     ·
      replace hm := iteF hm hb51
      refine wc_keep [7,5,3,2] (S' := [_,_,_,_]) rfl (wc_skip (we_block_normal (we_then (wc_region (wP rfl (wP rfl ?_))))))
      obtain ⟨hg41, hm⟩ := gd_some hm
      refine wl_as (d := 41) (v' := .int .i64 ((u2_7 + 1 : Nat) : Int)) (S' := [_,_,_,_,_]) rfl rfl (nat_add (a := u2_7) (b := 1) hg41) (wl_pure (S' := [_,_,_,_,_]) rfl rfl rfl rfl rfl (wl_nil ?_))
      have hE := (Option.some.inj hm).symm
      replace hE := link_inl hLu2 hE
      refine we_roundK (_, u2_7 + 1) (Nat.lt_succ_self _) hE [7,5,3,2] rfl (asK [] rfl) rfl
    ·
     replace hm := iteF hm hb39
     refine wc_keep [3,2] (S' := [_,_]) rfl (wc_exit (we_then_exit (we_then_exit (we_block_hit ?_))))
     have hE := (Option.some.inj hm).symm
     replace hE := link_inr hLu2 hE
     refine we_pick [1,2,3,4,5,6] rfl (H' := [_,_,_,_,_,_]) rfl ?_
     refine we_join () hE [3,2] rfl (asK [] rfl) rfl
  ·
   rintro _ hE
   try dsimp only
   have hm := link_inl hLj_2 hE
   try dsimp only at hm
   refine wc_seq (wc_region (wF rfl tF_44_1 (wD 3 1 rfl tS_34 tA_34 rfl (wF rfl tF_44_1 (wD 0 1 rfl tS_34 tA_34 rfl (wl_buildSlice rfl rfl rfl (freshS_eq rfl) rfl tE_77 tS_34 tZ_34 rfl (zs := [.slice none 0 0, .slice none 0 0]) (by kernel_rfl) rfl (out := [_,_]) rfl (fun g56 => (wl_ownLen 6 rfl (fun hzqn4 _ => ?_)))))))))
   subst hzqn4
   refine wl_ownLen 3 rfl (fun hzqn10 _ => ?_)
   subst hzqn10
   refine wl_row (sz := 1) (m := 2) T_l_V.pair ([(l1, (qp3, qc5)), (l3, (qp9, qc11))]) 0 rfl (fun F w hφ => ⟨[.slice qp3 l1.length qc5],[.slice qp9 l3.length qc11], rfl, rfl, rfl, ⟨[.slice qp9 l3.length qc11],[], rfl, rfl, rfl, rfl⟩⟩) rfl (by decide) (H' := [_,_,_,_,_,_,_]) rfl (wl_sh [bagF T_l_V [] none, _,_,_,_,_,_,_] (fun _ h => h.bagNil T_l_V) (wl_pick [7,0,1,2,3,4,5,6] rfl (H' := [_,_,_,_,_,_,_,_]) rfl (wl_sh [bagF T_l_V ([(l1, (qp3, qc5))]) none, _,_,_,_,_,_] (fun _ h => Holds.bagPush (T := T_l_V) (x := l1) (r := (qp3, qc5)) (zs := []) (H := [_,_,_,_,_,_,_]) h 0 rfl) (wl_pick [4,0,1,2,3,5,6] rfl (H' := [_,_,_,_,_,_,_]) rfl (wl_sh [bagF T_l_V (([(l1, (qp3, qc5))]) ++ [(l3, (qp9, qc11))]) none, _,_,_,_,_] (fun _ h => Holds.bagPush (T := T_l_V) (x := l3) (r := (qp9, qc11)) (zs := [(l1, (qp3, qc5))]) (H := [_,_,_,_,_,_]) h 0 rfl) (wl_hAs 0 (φ' := bagF T_l_V ([(l1, (qp3, qc5)), (l3, (qp9, qc11))]) none) rfl rfl (H' := [_,_,_,_,_,_]) rfl (wl_sh [treeF T_l_V 34 1 (.slice (some ⟨g56,0, none⟩) 2 2) ([l1, l3]), _,_,_,_] (fun _ h => h.treeIn 1 0 rfl rfl rfl rfl) (wl_treeLen 0 rfl (fun hzt2 _ => (wl_at 0 (v' := .slice (some ⟨g56,0, none⟩) ([l1, l3].length) 2) rfl (by rw [hzt2]) (wl_hAs 0 (φ' := treeF T_l_V 34 1 (.slice (some ⟨g56,0, none⟩) ([l1, l3].length) 2) ([l1, l3])) rfl (by rw [hzt2]) (H' := [_,_,_,_,_]) rfl ?_)))))))))))
   obtain ⟨hap57, hm⟩ := gd_some hm
   refine wl_treeOut 0 rfl (fun zz57 hzz57 => (wC [1,0] [2,3,4,5] rfl fn_35 rfl (ap_ApartValues (some ⟨g56,0, none⟩) ([l1, l3].length) 2 zz57 (by rw [pair_len hzz57]) (by rw [pair_len hzz57]; exact hap57.1) (fun z hz => hap57.2 z.1 (by rw [← hzz57]; exact List.mem_map_of_mem hz))) (asK [] rfl) rfl (H' := [_,_,_,_]) rfl ?_))
   rintro _ _ _ ⟨r6_57, hfe57, rfl, rfl, rfl⟩
   refine wl_drop 0 rfl (H' := [_,_,_,_]) rfl (wP rfl (wl_nil (we_then (wc_keep [4] (S' := [_]) rfl (wc_ret ?_)))))
   have hE := (Option.some.inj hm).symm
   obtain ⟨hE0, hE1⟩ := Prod.mk.inj hE
   clear hE
   replace hE0 := hE0.symm
   subst hE0
   replace hE1 := hE1.symm
   subst hE1
   refine ret_one (Hr := [_,_]) [3,1] Tryz.results18 (res_tmp rfl) ⟨rfl, rfl, rfl⟩ (asK [] rfl) rfl rfl (.inl rfl)
theorem w_ropewalklaw10_PatternMatches_s (N : Nat) (a0 : Int) (a1 : Int) (qp0 : Option Addr) (qc1 : Nat) (l2 : List ArgD) (a3 : Int) (a4 : Int) (a5 : Int) (a6 : ByteArray) (a7 : Int) (a8 : Int) (qp2 : Option Addr) (qc3 : Nat) (l9 : List Api_ExprD) (a10 : Int) (a11 : Int) (qp4 : Option Addr) (qc5 : Nat) (l12 : List V) (qp6 : Option Addr) (qc7 : Nat) (l13 : List Bool) (qp8 : Option Addr) (qc9 : Nat) (l14 : List V) (o0 : Bool) (hm : m_ropewalklaw10_PatternMatches N a0 a1 l2 a3 a4 a5 a6 a7 a8 l9 a10 a11 l12 l13 l14 = some o0) : Spec Tryz.prog 3 [.agg #[.int .u8 a0, .int .i64 a1, .slice qp0 l2.length qc1, .int .u8 a3, .int .u8 a4, .int .i64 a5, .string a6, .int .i64 a7, .int .u8 a8, .slice qp2 l9.length qc3], .agg #[.int .i64 a10, .int .i64 a11, .slice qp4 l12.length qc5], .slice qp6 l13.length qc7, .slice qp8 l14.length qc9] [.sli 5 R_ArgD qp0 qc1 l2, .sli 7 R_Api_ExprD qp2 qc3 l9, .sli 3 R_V qp4 qc5 l12, .sli 1 R_bool qp6 qc7 l13, .sli 3 R_V qp8 qc9 l14] [] (fun v Φr Hr => v = .bool o0 ∧ Φr = [] ∧ Hr = []) := by
 unfold m_ropewalklaw10_PatternMatches at hm
 refine spec_of Tryz.func3 rfl Tryz.ntmps3 rfl (S := [_,_,_,_]) rfl (fun C => (wc_seq (wc_region (wB rfl (fun g4 => (wB rfl (fun g5 => (wP rfl (wl_nil (we_then (wc_keep [5,4,2,3] (S' := [_,_,_,_]) rfl (wc_seq (wc_seq ?_)))))))))))))
 obtain ⟨bj_1, hm, hLj_1⟩ := bindO_some hm
 unfold m_ropewalklaw10_PatternMatches_C1 at hm
 refine wc_cut (σ := Bool) (fun j_1_44 => bj_1 = j_1_44) (fun j_1_44 => [(5, .pointer (some ⟨g5,0, none⟩)), (4, .pointer (some ⟨g4,0, none⟩)), (2, .slice qp6 l13.length qc7), (3, .slice qp8 l14.length qc9), (44, .bool j_1_44)]) (fun j_1_44 => [.sli 3 R_V qp4 qc5 l12, .sli 5 R_ArgD qp0 qc1 l2, .sli 7 R_Api_ExprD qp2 qc3 l9, .sli 1 R_bool qp6 qc7 l13, .sli 3 R_V qp8 qc9 l14]) (fun j_1_44 => [.blk g5 [.int .i64 a10, .int .i64 a11, .slice qp4 l12.length qc5] 36, .blk g4 [.int .u8 a0, .int .i64 a1, .slice qp0 l2.length qc1, .int .u8 a3, .int .u8 a4, .int .i64 a5, .string a6, .int .i64 a7, .int .u8 a8, .slice qp2 l9.length qc3] 33]) ?_ ?_
 ·
  refine wc_region (wF rfl tF_33_2 (wD 1 2 rfl tS_23 tA_23 rfl (wN rfl tE_23 (wP rfl (wl_as (d := 21) (v' := .bool (decide (2000 < l2.length))) (S' := [_,_,_,_,_,_,_]) rfl rfl (natgt (a := l2.length) (b := 2000)) (wP rfl ?_))))))
  refine wl_split (d := 22) (S' := [_,_,_,_,_,_,_,_]) rfl rfl (fun hs22 => ?_) (fun hs22 => ?_)
  ·
   replace hm := iteT hm hs22
   refine wO rfl (wO rfl (wO rfl (wO rfl (wP rfl (wP rfl (wO rfl (wO rfl (wO rfl (wP rfl (wP rfl (wO rfl (wO rfl (wO rfl ?_)))))))))))))
   refine wP rfl (wP rfl (wO rfl (wO rfl (wO rfl (wO rfl (wO rfl (wP rfl (wl_nil ?_))))))))
   have hE := (Option.some.inj hm).symm
   refine we_join true hE [5,4,2,3,44] rfl (asK [2,0,1,3,4] rfl) rfl
  ·
   replace hm := iteF hm hs22
   refine wF rfl tF_36_2 (wD 0 2 rfl tS_34 tA_34 rfl (wN rfl tE_34 (wP rfl (wl_as (d := 26) (v' := .bool (decide (2000 < l12.length))) (S' := [_,_,_,_,_,_,_,_,_,_,_,_]) rfl rfl (natgt (a := l12.length) (b := 2000)) (wP rfl (wP rfl ?_))))))
   refine wl_split (d := 28) (S' := [_,_,_,_,_,_,_,_,_,_,_,_,_,_]) rfl rfl (fun hs28 => ?_) (fun hs28 => ?_)
   ·
    replace hm := iteT hm hs28
    refine wO rfl (wO rfl (wO rfl (wP rfl (wP rfl (wO rfl (wO rfl (wO rfl (wP rfl (wP rfl (wO rfl (wO rfl (wO rfl (wO rfl ?_)))))))))))))
    refine wO rfl (wP rfl (wl_nil ?_))
    have hE := (Option.some.inj hm).symm
    refine we_join true hE [5,4,2,3,44] rfl (asK [2,0,1,3,4] rfl) rfl
   ·
    replace hm := iteF hm hs28
    refine wP rfl (wN rfl tE_37 (wP rfl (wl_as (d := 31) (v' := .bool (decide (2000 < l13.length))) (S' := [_,_,_,_,_,_,_,_,_,_,_,_,_,_,_,_,_]) rfl rfl (natgt (a := l13.length) (b := 2000)) (wP rfl (wP rfl ?_)))))
    refine wl_split (d := 33) (S' := [_,_,_,_,_,_,_,_,_,_,_,_,_,_,_,_,_,_,_]) rfl rfl (fun hs33 => ?_) (fun hs33 => ?_)
    ·
     replace hm := iteT hm hs33
     refine wO rfl (wO rfl (wO rfl (wP rfl (wP rfl (wO rfl (wO rfl (wO rfl (wO rfl (wO rfl (wP rfl (wl_nil ?_)))))))))))
     have hE := (Option.some.inj hm).symm
     refine we_join true hE [5,4,2,3,44] rfl (asK [2,0,1,3,4] rfl) rfl
    ·
     replace hm := iteF hm hs33
     refine wP rfl (wN rfl tE_34 (wP rfl (wl_as (d := 36) (v' := .bool (decide (2000 < l14.length))) (S' := [_,_,_,_,_,_,_,_,_,_,_,_,_,_,_,_,_,_,_,_,_,_]) rfl rfl (natgt (a := l14.length) (b := 2000)) (wP rfl (wP rfl ?_)))))
     refine wl_split (d := 38) (S' := [_,_,_,_,_,_,_,_,_,_,_,_,_,_,_,_,_,_,_,_,_,_,_,_]) rfl rfl (fun hs38 => ?_) (fun hs38 => ?_)
     ·
      replace hm := iteT hm hs38
      refine wO rfl (wO rfl (wO rfl (wO rfl (wO rfl (wP rfl (wl_nil ?_))))))
      have hE := (Option.some.inj hm).symm
      refine we_join true hE [5,4,2,3,44] rfl (asK [2,0,1,3,4] rfl) rfl
     ·
      replace hm := iteF hm hs38
      refine wF rfl tF_33_3 (wF rfl tF_31_4 (wD 1 9 rfl tS_29 tA_29 rfl ?_))
      obtain ⟨v42, hc42, hm⟩ := bindO_some hm
      refine wC [] [0,1] rfl fn_5 rfl (w_ropewalkkit_ExprsOf_s N qp2 qc3 l9 2000 _ hc42) (asK [1] rfl) rfl (H' := [_,_]) rfl ?_
      rintro _ _ _ ⟨rfl, rfl, rfl⟩
      refine wP rfl (wP rfl (wl_nil ?_))
      have hE := (Option.some.inj hm).symm
      refine we_join (decide (v42 > 2000)) hE [5,4,2,3,44] rfl (asK [2,0,1,3,4] rfl) rfl
 ·
  rintro j_1_44 hE
  try dsimp only
  have hm := hLj_1
  rw [hE] at hm
  refine wc_cond rfl (fun hb44 => ?_) (fun hb44 => ?_)
  ·
   replace hm := iteT hm hb44
   refine wc_keep [] (S' := []) rfl (wc_seq (wc_region ?_))
   obtain ⟨v45, hc45, hm⟩ := bindO_some hm
   refine wC [] [0,1] rfl fn_6 rfl (w_ropewalklaw10_awake_s N _ hc45) (asK [] rfl) rfl (H' := [_,_]) rfl ?_
   rintro _ _ _ ⟨rfl, rfl, rfl⟩
   refine wP rfl (wl_nil (we_then (wc_keep [8] (S' := [_]) rfl (wc_ret (we_then_ret ?_)))))
   have hE := (Option.some.inj hm).symm
   replace hE := hE.symm
   subst hE
   refine ret_one (Hr := []) [] Tryz.results3 (res_tmp rfl) ⟨rfl, rfl, rfl⟩ (asK [] rfl) rfl rfl (.inl rfl)
  ·
   replace hm := iteF hm hb44
   refine wc_keep [5,4,2,3] (S' := [_,_,_,_]) rfl (wc_skip (we_then (wc_seq ?_)))
   obtain ⟨⟨v47_0, v47_1, v47_2, v47_3, v47_4, v47_5, v47_6, v47_7, v47_8⟩, hc47, hm⟩ := bindO_some hm
   try dsimp only at hm
   obtain ⟨v49, hc49, hm⟩ := bindO_some hm
   refine wc_cut (σ := Nat × (Option Addr) × Nat × Nat × Nat × (Option Addr) × Nat × Nat × (Option Addr) × Nat × Nat) (fun _ => True) (fun (w_2_10_g, w_2_10_f2_p, w_2_10_f2_c, w_2_10_f2_n, w_2_9_g, w_2_9_f2_p, w_2_9_f2_c, w_2_9_f2_n, w_2_9_f9_p, w_2_9_f9_c, w_2_9_f9_n) => [(10, .pointer (some ⟨w_2_10_g, 0, none⟩)), (9, .pointer (some ⟨w_2_9_g, 0, none⟩)), (5, .pointer (some ⟨g5,0, none⟩)), (4, .pointer (some ⟨g4,0, none⟩)), (2, .slice qp6 l13.length qc7), (3, .slice qp8 l14.length qc9)]) (fun (w_2_10_g, w_2_10_f2_p, w_2_10_f2_c, w_2_10_f2_n, w_2_9_g, w_2_9_f2_p, w_2_9_f2_c, w_2_9_f2_n, w_2_9_f9_p, w_2_9_f9_c, w_2_9_f9_n) => [.sli 3 R_V qp4 qc5 l12, .sli 5 R_ArgD qp0 qc1 l2, .sli 7 R_Api_ExprD qp2 qc3 l9, .sli 1 R_bool qp6 qc7 l13, .sli 3 R_V qp8 qc9 l14]) (fun (w_2_10_g, w_2_10_f2_p, w_2_10_f2_c, w_2_10_f2_n, w_2_9_g, w_2_9_f2_p, w_2_9_f2_c, w_2_9_f2_n, w_2_9_f9_p, w_2_9_f9_c, w_2_9_f9_n) => [.blk w_2_10_g [.int .i64 a10, .int .i64 a11, .slice w_2_10_f2_p l12.length w_2_10_f2_c] 36, .own 27 3 R_V (.slice w_2_10_f2_p w_2_10_f2_n w_2_10_f2_c) v49, .blk w_2_9_g [.int .u8 a0, .int .i64 a1, .slice w_2_9_f2_p l2.length w_2_9_f2_c, .int .u8 v47_1, .int .u8 v47_2, .int .i64 v47_3, .string v47_4, .int .i64 v47_5, .int .u8 v47_6, .slice w_2_9_f9_p v47_8 w_2_9_f9_c] 33, .own 64 5 R_ArgD (.slice w_2_9_f2_p w_2_9_f2_n w_2_9_f2_c) v47_0, .own 31 7 RS_Api_ExprD (.slice w_2_9_f9_p w_2_9_f9_n w_2_9_f9_c) v47_7, .blk g5 [.int .i64 a10, .int .i64 a11, .slice qp4 l12.length qc5] 36, .blk g4 [.int .u8 a0, .int .i64 a1, .slice qp0 l2.length qc1, .int .u8 a3, .int .u8 a4, .int .i64 a5, .string a6, .int .i64 a7, .int .u8 a8, .slice qp2 l9.length qc3] 33]) ?_ ?_
   ·
    refine wc_draw [0,2] rfl rfl (fun hok => (wx_loadH hok 0 1 0 rfl rfl rfl (freshS_eq rfl) rfl rfl rfl rfl (cs := [_,_,_,_,_,_,_,_,_,_]) rfl tS_33 tA_33 rfl rfl (wx_loadH hok 2 0 0 rfl rfl rfl (freshS_eq rfl) rfl rfl rfl rfl (cs := [_,_,_]) rfl tS_36 tA_36 rfl rfl ?_)))
    refine wx_step3 hok 1 4 5 rfl rfl rfl rfl rfl rfl rfl rfl ?_ ?_ ?_
    ·
     refine wC [] [0,1] rfl fn_7 rfl (w_ropewalkkit_LentCond_s N a0 a1 qp0 qc1 l2 a3 a4 a5 a6 a7 a8 qp2 qc3 l9 _ _ _ _ _ _ _ _ _ hc47) (asK [1,2] rfl) rfl (H' := [_,_]) rfl ?_
     rintro _ _ _ ⟨p47_0, c47_1, c47_2, p47_3, c47_4, c47_5, rfl, rfl, rfl⟩
     refine wl_nil (we_x [0,1,2,3,4] [2] rfl rfl ?_)
     refine wx_step3 hok 3 4 5 rfl rfl rfl rfl rfl rfl rfl rfl ?_ ?_ ?_
     ·
      refine wC [] [0,1,2,3] rfl fn_8 rfl (w_ropewalkkit_LentFact_s N a10 a11 qp4 qc5 l12 _ hc49) (asK [0] rfl) rfl (H' := [_,_,_,_]) rfl ?_
      rintro _ _ _ ⟨p49_0, c49_1, c49_2, rfl, rfl, rfl⟩
      refine wl_nil (we_x [0,1,2,3,4] [4] rfl rfl ?_)
      refine wx_step2 hok 4 5 rfl rfl rfl rfl rfl rfl ?_ ?_
      ·
       refine wl_alloc rfl rfl rfl (freshS_eq rfl) rfl tZ_33 rfl (fun g9 => (wl_nil (we_x [0,1,2,3,4] [4,5] rfl rfl (xS hok 5 rfl (wl_alloc rfl rfl rfl (freshS_eq rfl) rfl tZ_36 rfl (fun g10 => (wl_nil (we_x [0,1,2,3,4] [5,6] rfl rfl (xS hok 6 rfl (wS 1 0 rfl tS_33 (all' := [_,_,_,_,_,_,_,_,_,_]) rfl (H' := [_,_,_,_,_,_,_]) rfl (wl_nil (we_x [0,1,2,3,4] [5] rfl rfl (xS hok 7 rfl (wS 0 0 rfl tS_36 (all' := [_,_,_]) rfl (H' := [_,_,_,_,_,_,_]) rfl (wl_nil ?_)))))))))))))))
       refine we_x [0,1,2,3,4] [] rfl rfl (wx_done hok rfl (we_pick [0,2,1,3,4,5,6] rfl (H' := [_,_,_,_,_,_,_]) rfl ?_))
       refine we_join (g10, p49_0, c49_1, c49_2, g9, p47_0, c47_1, c47_2, p47_3, c47_4, c47_5) trivial [10,9,5,4,2,3] rfl (asK [0,1,2,3,4] rfl) rfl
      ·
       refine wl_alloc rfl rfl rfl (freshS_eq rfl) rfl tZ_36 rfl (fun g10 => (wl_nil (we_x [0,1,2,3,4] [4,5] rfl rfl (xS hok 4 rfl (wl_alloc rfl rfl rfl (freshS_eq rfl) rfl tZ_33 rfl (fun g9 => (wl_nil (we_x [0,1,2,3,4] [5,6] rfl rfl (xS hok 6 rfl (wS 0 0 rfl tS_33 (all' := [_,_,_,_,_,_,_,_,_,_]) rfl (H' := [_,_,_,_,_,_,_]) rfl (wl_nil (we_x [0,1,2,3,4] [5] rfl rfl (xS hok 7 rfl (wS 1 0 rfl tS_36 (all' := [_,_,_]) rfl (H' := [_,_,_,_,_,_,_]) rfl (wl_nil ?_)))))))))))))))
       refine we_x [0,1,2,3,4] [] rfl rfl (wx_done hok rfl (we_pick [1,2,0,3,4,5,6] rfl (H' := [_,_,_,_,_,_,_]) rfl ?_))
       refine we_join (g10, p49_0, c49_1, c49_2, g9, p47_0, c47_1, c47_2, p47_3, c47_4, c47_5) trivial [10,9,5,4,2,3] rfl (asK [0,1,2,3,4] rfl) rfl
     ·
      refine wl_alloc rfl rfl rfl (freshS_eq rfl) rfl tZ_33 rfl (fun g9 => (wl_nil (we_x [0,1,2,3,4] [3,4] rfl rfl ?_)))
      refine wx_step2 hok 3 5 rfl rfl rfl rfl rfl rfl ?_ ?_
      ·
       refine wC [] [0,1,2,3,4] rfl fn_8 rfl (w_ropewalkkit_LentFact_s N a10 a11 qp4 qc5 l12 _ hc49) (asK [0] rfl) rfl (H' := [_,_,_,_,_]) rfl ?_
       rintro _ _ _ ⟨p49_0, c49_1, c49_2, rfl, rfl, rfl⟩
       refine wl_nil (we_x [0,1,2,3,4] [5] rfl rfl (xS hok 5 rfl (wl_alloc rfl rfl rfl (freshS_eq rfl) rfl tZ_36 rfl (fun g10 => (wl_nil (we_x [0,1,2,3,4] [5,6] rfl rfl (xS hok 6 rfl (wS 2 0 rfl tS_33 (all' := [_,_,_,_,_,_,_,_,_,_]) rfl (H' := [_,_,_,_,_,_,_]) rfl (wl_nil (we_x [0,1,2,3,4] [5] rfl rfl (xS hok 7 rfl (wS 0 0 rfl tS_36 (all' := [_,_,_]) rfl (H' := [_,_,_,_,_,_,_]) rfl (wl_nil (we_x [0,1,2,3,4] [] rfl rfl ?_))))))))))))))
       refine wx_done hok rfl ?_
       refine we_join (g10, p49_0, c49_1, c49_2, g9, p47_0, c47_1, c47_2, p47_3, c47_4, c47_5) trivial [10,9,5,4,2,3] rfl (asK [0,1,2,3,4] rfl) rfl
      ·
       refine wl_alloc rfl rfl rfl (freshS_eq rfl) rfl tZ_36 rfl (fun g10 => (wl_nil (we_x [0,1,2,3,4] [4,5] rfl rfl (xS hok 3 rfl (wC [] [0,1,2,3,4,5] rfl fn_8 rfl (w_ropewalkkit_LentFact_s N a10 a11 qp4 qc5 l12 _ hc49) (asK [0] rfl) rfl (H' := [_,_,_,_,_,_]) rfl ?_)))))
       rintro _ _ _ ⟨p49_0, c49_1, c49_2, rfl, rfl, rfl⟩
       refine wl_nil (we_x [0,1,2,3,4] [6] rfl rfl (xS hok 6 rfl (wS 2 0 rfl tS_33 (all' := [_,_,_,_,_,_,_,_,_,_]) rfl (H' := [_,_,_,_,_,_,_]) rfl (wl_nil (we_x [0,1,2,3,4] [5] rfl rfl (xS hok 7 rfl (wS 1 0 rfl tS_36 (all' := [_,_,_]) rfl (H' := [_,_,_,_,_,_,_]) rfl (wl_nil (we_x [0,1,2,3,4] [] rfl rfl (wx_done hok rfl (we_pick [1,0,2,3,4,5,6] rfl (H' := [_,_,_,_,_,_,_]) rfl ?_)))))))))))
       refine we_join (g10, p49_0, c49_1, c49_2, g9, p47_0, c47_1, c47_2, p47_3, c47_4, c47_5) trivial [10,9,5,4,2,3] rfl (asK [0,1,2,3,4] rfl) rfl
     ·
      refine wl_alloc rfl rfl rfl (freshS_eq rfl) rfl tZ_36 rfl (fun g10 => (wl_nil (we_x [0,1,2,3,4] [3,4] rfl rfl ?_)))
      refine wx_step2 hok 3 4 rfl rfl rfl rfl rfl rfl ?_ ?_
      ·
       refine wC [] [0,1,2,3,4] rfl fn_8 rfl (w_ropewalkkit_LentFact_s N a10 a11 qp4 qc5 l12 _ hc49) (asK [0] rfl) rfl (H' := [_,_,_,_,_]) rfl ?_
       rintro _ _ _ ⟨p49_0, c49_1, c49_2, rfl, rfl, rfl⟩
       refine wl_nil (we_x [0,1,2,3,4] [5] rfl rfl (xS hok 4 rfl (wl_alloc rfl rfl rfl (freshS_eq rfl) rfl tZ_33 rfl (fun g9 => (wl_nil (we_x [0,1,2,3,4] [5,6] rfl rfl (xS hok 6 rfl (wS 0 0 rfl tS_33 (all' := [_,_,_,_,_,_,_,_,_,_]) rfl (H' := [_,_,_,_,_,_,_]) rfl (wl_nil (we_x [0,1,2,3,4] [5] rfl rfl (xS hok 7 rfl (wS 2 0 rfl tS_36 (all' := [_,_,_]) rfl (H' := [_,_,_,_,_,_,_]) rfl (wl_nil (we_x [0,1,2,3,4] [] rfl rfl ?_))))))))))))))
       refine wx_done hok rfl (we_pick [2,1,0,3,4,5,6] rfl (H' := [_,_,_,_,_,_,_]) rfl ?_)
       refine we_join (g10, p49_0, c49_1, c49_2, g9, p47_0, c47_1, c47_2, p47_3, c47_4, c47_5) trivial [10,9,5,4,2,3] rfl (asK [0,1,2,3,4] rfl) rfl
      ·
       refine wl_alloc rfl rfl rfl (freshS_eq rfl) rfl tZ_33 rfl (fun g9 => (wl_nil (we_x [0,1,2,3,4] [4,5] rfl rfl (xS hok 3 rfl (wC [] [0,1,2,3,4,5] rfl fn_8 rfl (w_ropewalkkit_LentFact_s N a10 a11 qp4 qc5 l12 _ hc49) (asK [0] rfl) rfl (H' := [_,_,_,_,_,_]) rfl ?_)))))
       rintro _ _ _ ⟨p49_0, c49_1, c49_2, rfl, rfl, rfl⟩
       refine wl_nil (we_x [0,1,2,3,4] [6] rfl rfl (xS hok 6 rfl (wS 1 0 rfl tS_33 (all' := [_,_,_,_,_,_,_,_,_,_]) rfl (H' := [_,_,_,_,_,_,_]) rfl (wl_nil (we_x [0,1,2,3,4] [5] rfl rfl (xS hok 7 rfl (wS 2 0 rfl tS_36 (all' := [_,_,_]) rfl (H' := [_,_,_,_,_,_,_]) rfl (wl_nil (we_x [0,1,2,3,4] [] rfl rfl (wx_done hok rfl (we_pick [2,0,1,3,4,5,6] rfl (H' := [_,_,_,_,_,_,_]) rfl ?_)))))))))))
       refine we_join (g10, p49_0, c49_1, c49_2, g9, p47_0, c47_1, c47_2, p47_3, c47_4, c47_5) trivial [10,9,5,4,2,3] rfl (asK [0,1,2,3,4] rfl) rfl
    ·
     refine wl_alloc rfl rfl rfl (freshS_eq rfl) rfl tZ_33 rfl (fun g9 => (wl_nil (we_x [0,1,2,3,4] [1,2] rfl rfl ?_)))
     refine wx_step2 hok 1 5 rfl rfl rfl rfl rfl rfl ?_ ?_
     ·
      refine wC [] [0,1,2] rfl fn_7 rfl (w_ropewalkkit_LentCond_s N a0 a1 qp0 qc1 l2 a3 a4 a5 a6 a7 a8 qp2 qc3 l9 _ _ _ _ _ _ _ _ _ hc47) (asK [1,2] rfl) rfl (H' := [_,_,_]) rfl ?_
      rintro _ _ _ ⟨p47_0, c47_1, c47_2, p47_3, c47_4, c47_5, rfl, rfl, rfl⟩
      refine wl_nil (we_x [0,1,2,3,4] [3] rfl rfl ?_)
      refine wx_step2 hok 3 5 rfl rfl rfl rfl rfl rfl ?_ ?_
      ·
       refine wC [] [0,1,2,3,4] rfl fn_8 rfl (w_ropewalkkit_LentFact_s N a10 a11 qp4 qc5 l12 _ hc49) (asK [0] rfl) rfl (H' := [_,_,_,_,_]) rfl ?_
       rintro _ _ _ ⟨p49_0, c49_1, c49_2, rfl, rfl, rfl⟩
       refine wl_nil (we_x [0,1,2,3,4] [5] rfl rfl (xS hok 5 rfl (wl_alloc rfl rfl rfl (freshS_eq rfl) rfl tZ_36 rfl (fun g10 => (wl_nil (we_x [0,1,2,3,4] [5,6] rfl rfl (xS hok 6 rfl (wS 4 0 rfl tS_33 (all' := [_,_,_,_,_,_,_,_,_,_]) rfl (H' := [_,_,_,_,_,_,_]) rfl (wl_nil (we_x [0,1,2,3,4] [5] rfl rfl (xS hok 7 rfl (wS 0 0 rfl tS_36 (all' := [_,_,_]) rfl (H' := [_,_,_,_,_,_,_]) rfl (wl_nil (we_x [0,1,2,3,4] [] rfl rfl ?_))))))))))))))
       refine wx_done hok rfl (we_pick [0,1,4,2,3,5,6] rfl (H' := [_,_,_,_,_,_,_]) rfl ?_)
       refine we_join (g10, p49_0, c49_1, c49_2, g9, p47_0, c47_1, c47_2, p47_3, c47_4, c47_5) trivial [10,9,5,4,2,3] rfl (asK [0,1,2,3,4] rfl) rfl
      ·
       refine wl_alloc rfl rfl rfl (freshS_eq rfl) rfl tZ_36 rfl (fun g10 => (wl_nil (we_x [0,1,2,3,4] [4,5] rfl rfl (xS hok 3 rfl (wC [] [0,1,2,3,4,5] rfl fn_8 rfl (w_ropewalkkit_LentFact_s N a10 a11 qp4 qc5 l12 _ hc49) (asK [0] rfl) rfl (H' := [_,_,_,_,_,_]) rfl ?_)))))
       rintro _ _ _ ⟨p49_0, c49_1, c49_2, rfl, rfl, rfl⟩
       refine wl_nil (we_x [0,1,2,3,4] [6] rfl rfl (xS hok 6 rfl (wS 4 0 rfl tS_33 (all' := [_,_,_,_,_,_,_,_,_,_]) rfl (H' := [_,_,_,_,_,_,_]) rfl (wl_nil (we_x [0,1,2,3,4] [5] rfl rfl (xS hok 7 rfl (wS 1 0 rfl tS_36 (all' := [_,_,_]) rfl (H' := [_,_,_,_,_,_,_]) rfl (wl_nil (we_x [0,1,2,3,4] [] rfl rfl (wx_done hok rfl (we_pick [1,0,4,2,3,5,6] rfl (H' := [_,_,_,_,_,_,_]) rfl ?_)))))))))))
       refine we_join (g10, p49_0, c49_1, c49_2, g9, p47_0, c47_1, c47_2, p47_3, c47_4, c47_5) trivial [10,9,5,4,2,3] rfl (asK [0,1,2,3,4] rfl) rfl
     ·
      refine wl_alloc rfl rfl rfl (freshS_eq rfl) rfl tZ_36 rfl (fun g10 => (wl_nil (we_x [0,1,2,3,4] [2,3] rfl rfl (xS hok 1 rfl (wC [] [0,1,2,3] rfl fn_7 rfl (w_ropewalkkit_LentCond_s N a0 a1 qp0 qc1 l2 a3 a4 a5 a6 a7 a8 qp2 qc3 l9 _ _ _ _ _ _ _ _ _ hc47) (asK [1,2] rfl) rfl (H' := [_,_,_,_]) rfl ?_)))))
      rintro _ _ _ ⟨p47_0, c47_1, c47_2, p47_3, c47_4, c47_5, rfl, rfl, rfl⟩
      refine wl_nil (we_x [0,1,2,3,4] [4] rfl rfl (xS hok 3 rfl (wC [] [0,1,2,3,4,5] rfl fn_8 rfl (w_ropewalkkit_LentFact_s N a10 a11 qp4 qc5 l12 _ hc49) (asK [0] rfl) rfl (H' := [_,_,_,_,_,_]) rfl ?_)))
      rintro _ _ _ ⟨p49_0, c49_1, c49_2, rfl, rfl, rfl⟩
      refine wl_nil (we_x [0,1,2,3,4] [6] rfl rfl (xS hok 6 rfl (wS 4 0 rfl tS_33 (all' := [_,_,_,_,_,_,_,_,_,_]) rfl (H' := [_,_,_,_,_,_,_]) rfl (wl_nil (we_x [0,1,2,3,4] [5] rfl rfl (xS hok 7 rfl (wS 3 0 rfl tS_36 (all' := [_,_,_]) rfl (H' := [_,_,_,_,_,_,_]) rfl (wl_nil (we_x [0,1,2,3,4] [] rfl rfl (wx_done hok rfl (we_pick [3,0,4,1,2,5,6] rfl (H' := [_,_,_,_,_,_,_]) rfl ?_)))))))))))
      refine we_join (g10, p49_0, c49_1, c49_2, g9, p47_0, c47_1, c47_2, p47_3, c47_4, c47_5) trivial [10,9,5,4,2,3] rfl (asK [0,1,2,3,4] rfl) rfl
    ·
     refine wl_alloc rfl rfl rfl (freshS_eq rfl) rfl tZ_36 rfl (fun g10 => (wl_nil (we_x [0,1,2,3,4] [1,2] rfl rfl ?_)))
     refine wx_step2 hok 1 4 rfl rfl rfl rfl rfl rfl ?_ ?_
     ·
      refine wC [] [0,1,2] rfl fn_7 rfl (w_ropewalkkit_LentCond_s N a0 a1 qp0 qc1 l2 a3 a4 a5 a6 a7 a8 qp2 qc3 l9 _ _ _ _ _ _ _ _ _ hc47) (asK [1,2] rfl) rfl (H' := [_,_,_]) rfl ?_
      rintro _ _ _ ⟨p47_0, c47_1, c47_2, p47_3, c47_4, c47_5, rfl, rfl, rfl⟩
      refine wl_nil (we_x [0,1,2,3,4] [3] rfl rfl ?_)
      refine wx_step2 hok 3 4 rfl rfl rfl rfl rfl rfl ?_ ?_
      ·
       refine wC [] [0,1,2,3,4] rfl fn_8 rfl (w_ropewalkkit_LentFact_s N a10 a11 qp4 qc5 l12 _ hc49) (asK [0] rfl) rfl (H' := [_,_,_,_,_]) rfl ?_
       rintro _ _ _ ⟨p49_0, c49_1, c49_2, rfl, rfl, rfl⟩
       refine wl_nil (we_x [0,1,2,3,4] [5] rfl rfl (xS hok 4 rfl (wl_alloc rfl rfl rfl (freshS_eq rfl) rfl tZ_33 rfl (fun g9 => (wl_nil (we_x [0,1,2,3,4] [5,6] rfl rfl (xS hok 6 rfl (wS 0 0 rfl tS_33 (all' := [_,_,_,_,_,_,_,_,_,_]) rfl (H' := [_,_,_,_,_,_,_]) rfl (wl_nil (we_x [0,1,2,3,4] [5] rfl rfl (xS hok 7 rfl (wS 4 0 rfl tS_36 (all' := [_,_,_]) rfl (H' := [_,_,_,_,_,_,_]) rfl (wl_nil (we_x [0,1,2,3,4] [] rfl rfl ?_))))))))))))))
       refine wx_done hok rfl (we_pick [4,1,0,2,3,5,6] rfl (H' := [_,_,_,_,_,_,_]) rfl ?_)
       refine we_join (g10, p49_0, c49_1, c49_2, g9, p47_0, c47_1, c47_2, p47_3, c47_4, c47_5) trivial [10,9,5,4,2,3] rfl (asK [0,1,2,3,4] rfl) rfl
      ·
       refine wl_alloc rfl rfl rfl (freshS_eq rfl) rfl tZ_33 rfl (fun g9 => (wl_nil (we_x [0,1,2,3,4] [4,5] rfl rfl (xS hok 3 rfl (wC [] [0,1,2,3,4,5] rfl fn_8 rfl (w_ropewalkkit_LentFact_s N a10 a11 qp4 qc5 l12 _ hc49) (asK [0] rfl) rfl (H' := [_,_,_,_,_,_]) rfl ?_)))))
       rintro _ _ _ ⟨p49_0, c49_1, c49_2, rfl, rfl, rfl⟩
       refine wl_nil (we_x [0,1,2,3,4] [6] rfl rfl (xS hok 6 rfl (wS 1 0 rfl tS_33 (all' := [_,_,_,_,_,_,_,_,_,_]) rfl (H' := [_,_,_,_,_,_,_]) rfl (wl_nil (we_x [0,1,2,3,4] [5] rfl rfl (xS hok 7 rfl (wS 4 0 rfl tS_36 (all' := [_,_,_]) rfl (H' := [_,_,_,_,_,_,_]) rfl (wl_nil (we_x [0,1,2,3,4] [] rfl rfl (wx_done hok rfl (we_pick [4,0,1,2,3,5,6] rfl (H' := [_,_,_,_,_,_,_]) rfl ?_)))))))))))
       refine we_join (g10, p49_0, c49_1, c49_2, g9, p47_0, c47_1, c47_2, p47_3, c47_4, c47_5) trivial [10,9,5,4,2,3] rfl (asK [0,1,2,3,4] rfl) rfl
     ·
      refine wl_alloc rfl rfl rfl (freshS_eq rfl) rfl tZ_33 rfl (fun g9 => (wl_nil (we_x [0,1,2,3,4] [2,3] rfl rfl (xS hok 1 rfl (wC [] [0,1,2,3] rfl fn_7 rfl (w_ropewalkkit_LentCond_s N a0 a1 qp0 qc1 l2 a3 a4 a5 a6 a7 a8 qp2 qc3 l9 _ _ _ _ _ _ _ _ _ hc47) (asK [1,2] rfl) rfl (H' := [_,_,_,_]) rfl ?_)))))
      rintro _ _ _ ⟨p47_0, c47_1, c47_2, p47_3, c47_4, c47_5, rfl, rfl, rfl⟩
      refine wl_nil (we_x [0,1,2,3,4] [4] rfl rfl (xS hok 3 rfl (wC [] [0,1,2,3,4,5] rfl fn_8 rfl (w_ropewalkkit_LentFact_s N a10 a11 qp4 qc5 l12 _ hc49) (asK [0] rfl) rfl (H' := [_,_,_,_,_,_]) rfl ?_)))
      rintro _ _ _ ⟨p49_0, c49_1, c49_2, rfl, rfl, rfl⟩
      refine wl_nil (we_x [0,1,2,3,4] [6] rfl rfl (xS hok 6 rfl (wS 3 0 rfl tS_33 (all' := [_,_,_,_,_,_,_,_,_,_]) rfl (H' := [_,_,_,_,_,_,_]) rfl (wl_nil (we_x [0,1,2,3,4] [5] rfl rfl (xS hok 7 rfl (wS 4 0 rfl tS_36 (all' := [_,_,_]) rfl (H' := [_,_,_,_,_,_,_]) rfl (wl_nil (we_x [0,1,2,3,4] [] rfl rfl (wx_done hok rfl (we_pick [4,0,3,1,2,5,6] rfl (H' := [_,_,_,_,_,_,_]) rfl ?_)))))))))))
      refine we_join (g10, p49_0, c49_1, c49_2, g9, p47_0, c47_1, c47_2, p47_3, c47_4, c47_5) trivial [10,9,5,4,2,3] rfl (asK [0,1,2,3,4] rfl) rfl
   ·
    rintro ⟨w_2_10_g, w_2_10_f2_p, w_2_10_f2_c, w_2_10_f2_n, w_2_9_g, w_2_9_f2_p, w_2_9_f2_c, w_2_9_f2_n, w_2_9_f9_p, w_2_9_f9_c, w_2_9_f9_n⟩ _
    try dsimp only
    refine wc_seq (wc_region (wl_buildSlice rfl rfl rfl (freshS_eq rfl) rfl tE_37 tS_4 tZ_4 rfl (zs := []) (by kernel_rfl) rfl (out := []) rfl (fun g50 => (wP rfl (wl_row (sz := 1) (m := 0) R_bool [] 0 rfl (fun F w hφ => rfl) rfl (by decide) (H' := [_,_,_,_,_,_,_,_]) rfl ?_)))))
    obtain ⟨hg52, hm⟩ := gd_some hm
    refine wl_append 0 3 rfl rfl rfl (freshS_eq rfl) rfl rfl rfl rfl rfl tE_37 tR_4 rfl rfl (Nat.le_trans hg52 (by decide)) (Nat.le_trans (Nat.mul_le_mul_right _ hg52) (by decide)) (H2 := fun p52 c52 => [.own 4 1 R_bool (.slice p52 (l13).length c52) l13,_,_,_,_,_,_,_]) (fun _ _ => rfl) (fun p52 c52 => (wP rfl ?_))
    obtain ⟨v54, hc54, hm⟩ := bindO_some hm
    refine wC [] [0,1,2,3,4,5,6,7] rfl fn_9 rfl (w_ropewalkkit_LentValues_s N qp8 qc9 l14 _ hc54) (asK [4] rfl) rfl (H' := [_,_,_,_,_,_,_,_]) rfl ?_
    rintro _ _ _ ⟨p54_0, c54_1, c54_2, rfl, rfl, rfl⟩
    refine wl_build rfl rfl rfl (freshS_eq rfl) rfl tZ_44 tP_44 rfl (out := [_,_]) rfl (wl_alloc rfl rfl rfl (freshS_eq rfl) rfl tZ_44 rfl (fun g11 => (wS 0 0 rfl tS_44 (all' := [_,_]) rfl (H' := [_,_,_,_,_,_,_,_,_,_]) rfl (wl_nil (we_then (wc_keep [11,10,9,5,4,2,3] (S' := [_,_,_,_,_,_,_]) rfl (wc_seq (wc_region (wl_loadH 5 0 rfl rfl rfl (freshS_eq rfl) rfl rfl rfl (cs := [_,_,_,_,_,_,_,_,_,_]) rfl tS_33 tA_33 rfl rfl (wl_loadH 3 0 rfl rfl rfl (freshS_eq rfl) rfl rfl rfl (cs := [_,_,_]) rfl tS_36 tA_36 rfl rfl (wl_loadH 0 0 rfl rfl rfl (freshS_eq rfl) rfl rfl rfl (cs := [_,_]) rfl tS_44 tA_44 rfl rfl (wl_ownLen 6 rfl (fun hzw_2_9_f2_n _ => ?_)))))))))))))
    subst hzw_2_9_f2_n
    refine wl_ownLen 7 rfl (fun hzw_2_9_f9_n _ => ?_)
    subst hzw_2_9_f9_n
    refine wl_ownLen 4 rfl (fun hzw_2_10_f2_n _ => ?_)
    subst hzw_2_10_f2_n
    refine wl_ownLen 2 rfl (fun hz2 _ => (wl_at 0 (v' := .agg #[.slice p52 l13.length c52, .slice p54_0 l14.length c54_1]) rfl (by first | rfl | rw [hz2]) (wl_hAs 0 (φ' := .blk g11 [.slice p52 l13.length c52, .slice p54_0 l14.length c54_1] 44) rfl (by first | rfl | rw [hz2]) (H' := [_,_,_,_,_,_,_,_,_,_]) rfl (wl_hAs 2 (φ' := .own 4 1 R_bool (.slice p52 l13.length c52) l13) rfl (by first | rfl | rw [hz2]) (H' := [_,_,_,_,_,_,_,_,_,_]) rfl (wl_ownLen 1 rfl (fun hzc54_2 _ => ?_))))))
    subst hzc54_2
    obtain ⟨hzl5, hm⟩ := gd_some hm
    refine wl_at 2 (v' := .agg #[.int .u8 a0, .int .i64 a1, .slice w_2_9_f2_p ((v47_0.take l2.length).length) w_2_9_f2_c, .int .u8 v47_1, .int .u8 v47_2, .int .i64 v47_3, .string v47_4, .int .i64 v47_5, .int .u8 v47_6, .slice w_2_9_f9_p v47_8 w_2_9_f9_c]) rfl (by rw [take_len hzl5]) (wl_hAs 5 (φ' := .blk w_2_9_g [.int .u8 a0, .int .i64 a1, .slice w_2_9_f2_p ((v47_0.take l2.length).length) w_2_9_f2_c, .int .u8 v47_1, .int .u8 v47_2, .int .i64 v47_3, .string v47_4, .int .i64 v47_5, .int .u8 v47_6, .slice w_2_9_f9_p v47_8 w_2_9_f9_c] 33) rfl (by rw [take_len hzl5]) (H' := [_,_,_,_,_,_,_,_,_,_]) rfl ?_)
    obtain ⟨hzl6, hm⟩ := gd_some hm
    refine wl_at 2 (v' := .agg #[.int .u8 a0, .int .i64 a1, .slice w_2_9_f2_p ((v47_0.take l2.length).length) w_2_9_f2_c, .int .u8 v47_1, .int .u8 v47_2, .int .i64 v47_3, .string v47_4, .int .i64 v47_5, .int .u8 v47_6, .slice w_2_9_f9_p (((v47_7.map to_Api_ExprD).take v47_8).length) w_2_9_f9_c]) rfl (by rw [takeM_len hzl6]) (wl_hAs 5 (φ' := .blk w_2_9_g [.int .u8 a0, .int .i64 a1, .slice w_2_9_f2_p ((v47_0.take l2.length).length) w_2_9_f2_c, .int .u8 v47_1, .int .u8 v47_2, .int .i64 v47_3, .string v47_4, .int .i64 v47_5, .int .u8 v47_6, .slice w_2_9_f9_p (((v47_7.map to_Api_ExprD).take v47_8).length) w_2_9_f9_c] 33) rfl (by rw [takeM_len hzl6]) (H' := [_,_,_,_,_,_,_,_,_,_]) rfl ?_)
    obtain ⟨hzl7, hm⟩ := gd_some hm
    refine wl_at 1 (v' := .agg #[.int .i64 a10, .int .i64 a11, .slice w_2_10_f2_p ((v49.take l12.length).length) w_2_10_f2_c]) rfl (by rw [take_len hzl7]) (wl_hAs 3 (φ' := .blk w_2_10_g [.int .i64 a10, .int .i64 a11, .slice w_2_10_f2_p ((v49.take l12.length).length) w_2_10_f2_c] 36) rfl (by rw [take_len hzl7]) (H' := [_,_,_,_,_,_,_,_,_,_]) rfl ?_)
    obtain ⟨hzl8, hm⟩ := gd_some hm
    refine wl_at 0 (v' := .agg #[.slice p52 l13.length c52, .slice p54_0 ((v54.take l14.length).length) c54_1]) rfl (by rw [take_len hzl8]) (wl_hAs 0 (φ' := .blk g11 [.slice p52 l13.length c52, .slice p54_0 ((v54.take l14.length).length) c54_1] 44) rfl (by rw [take_len hzl8]) (H' := [_,_,_,_,_,_,_,_,_,_]) rfl ?_)
    obtain ⟨⟨v60_0, v60_1, v60_2⟩, hc60, hm⟩ := bindO_some hm
    try dsimp only at hm
    refine wl_lend [] [0,1,2,3,4,5,6,7,8,9] [6,7,4,2,1] rfl rfl rfl (freshS_eq rfl) rfl rfl fn_10 rfl (w_pattern_Match_s N a0 a1 w_2_9_f2_p w_2_9_f2_c (v47_0.take l2.length) v47_1 v47_2 v47_3 v47_4 v47_5 v47_6 w_2_9_f9_p w_2_9_f9_c ((v47_7.map to_Api_ExprD).take v47_8) a10 a11 w_2_10_f2_p w_2_10_f2_c (v49.take l12.length) p52 c52 l13 p54_0 c54_1 (v54.take l14.length) _ _ _ hc60) (fun F w hφ hh => (ask_cons (sli_take (own_sli (hh _ (mem_at (k := 0) rfl))) l2.length) (ask_cons (sli_take (sli_mapTo _ (own_sli (hh _ (mem_at (k := 1) rfl))) (fun _ _ => RS_Api_ExprD_lend)) v47_8) (ask_cons (sli_take (own_sli (hh _ (mem_at (k := 2) rfl))) l12.length) (ask_cons (own_sli (hh _ (mem_at (k := 3) rfl))) (ask_cons (sli_take (own_sli (hh _ (mem_at (k := 4) rfl))) l14.length) ask_nil)))))) (fun _ _ _ hR => by obtain ⟨_,_,_,_,_,_, rfl, rfl, rfl⟩ := hR; exact ⟨rfl, (free_cons (own_free mkRep_free) (free_cons (own_free mkRep_free) (fun _ h => free_nil h)))⟩) rfl rfl (H' := [_,_,_,_,_,_,_,_,_,_]) rfl ?_
    rintro _ _ _ ⟨p60_0, c60_1, c60_2, p60_3, c60_4, c60_5, rfl, rfl, rfl⟩
    refine wl_at 1 (v' := .agg #[.slice p52 l13.length c52, .slice p54_0 l14.length c54_1]) rfl (by rw [take_len hzl8]) (wl_hAs 2 (φ' := .blk g11 [.slice p52 l13.length c52, .slice p54_0 l14.length c54_1] 44) rfl (by rw [take_len hzl8]) (H' := [_,_,_,_,_,_,_,_,_,_,_,_]) rfl (wl_at 2 (v' := .agg #[.int .i64 a10, .int .i64 a11, .slice w_2_10_f2_p l12.length w_2_10_f2_c]) rfl (by rw [take_len hzl7]) (wl_hAs 5 (φ' := .blk w_2_10_g [.int .i64 a10, .int .i64 a11, .slice w_2_10_f2_p l12.length w_2_10_f2_c] 36) rfl (by rw [take_len hzl7]) (H' := [_,_,_,_,_,_,_,_,_,_,_,_]) rfl (wl_at 3 (v' := .agg #[.int .u8 a0, .int .i64 a1, .slice w_2_9_f2_p ((v47_0.take l2.length).length) w_2_9_f2_c, .int .u8 v47_1, .int .u8 v47_2, .int .i64 v47_3, .string v47_4, .int .i64 v47_5, .int .u8 v47_6, .slice w_2_9_f9_p v47_8 w_2_9_f9_c]) rfl (by rw [takeM_len hzl6]) (wl_hAs 7 (φ' := .blk w_2_9_g [.int .u8 a0, .int .i64 a1, .slice w_2_9_f2_p ((v47_0.take l2.length).length) w_2_9_f2_c, .int .u8 v47_1, .int .u8 v47_2, .int .i64 v47_3, .string v47_4, .int .i64 v47_5, .int .u8 v47_6, .slice w_2_9_f9_p v47_8 w_2_9_f9_c] 33) rfl (by rw [takeM_len hzl6]) (H' := [_,_,_,_,_,_,_,_,_,_,_,_]) rfl (wl_at 3 (v' := .agg #[.int .u8 a0, .int .i64 a1, .slice w_2_9_f2_p l2.length w_2_9_f2_c, .int .u8 v47_1, .int .u8 v47_2, .int .i64 v47_3, .string v47_4, .int .i64 v47_5, .int .u8 v47_6, .slice w_2_9_f9_p v47_8 w_2_9_f9_c]) rfl (by rw [take_len hzl5]) (wl_hAs 7 (φ' := .blk w_2_9_g [.int .u8 a0, .int .i64 a1, .slice w_2_9_f2_p l2.length w_2_9_f2_c, .int .u8 v47_1, .int .u8 v47_2, .int .i64 v47_3, .string v47_4, .int .i64 v47_5, .int .u8 v47_6, .slice w_2_9_f9_p v47_8 w_2_9_f9_c] 33) rfl (by rw [take_len hzl5]) (H' := [_,_,_,_,_,_,_,_,_,_,_,_]) rfl (wP rfl (wP rfl (wP rfl (wl_alloc rfl rfl rfl (freshS_eq rfl) rfl tZ_44 rfl (fun g12 => (wS 0 0 rfl tS_44 (all' := [_,_]) rfl (H' := [_,_,_,_,_,_,_,_,_,_,_,_,_]) rfl (wP rfl ?_))))))))))))))
    refine wl_nil (we_then (wc_keep [13,12,11,10,9,5,4,2,3] (S' := [_,_,_,_,_,_,_,_,_]) rfl (wc_seq (wc_region (wl_loadH 8 0 rfl rfl rfl (freshS_eq rfl) rfl rfl rfl (cs := [_,_,_,_,_,_,_,_,_,_]) rfl tS_33 tA_33 rfl rfl (wl_loadH 6 0 rfl rfl rfl (freshS_eq rfl) rfl rfl rfl (cs := [_,_,_]) rfl tS_36 tA_36 rfl rfl (wl_loadH 3 0 rfl rfl rfl (freshS_eq rfl) rfl rfl rfl (cs := [_,_]) rfl tS_44 tA_44 rfl rfl ?_)))))))
    obtain ⟨hzl13, hm⟩ := gd_some hm
    refine wl_at 2 (v' := .agg #[.int .u8 a0, .int .i64 a1, .slice w_2_9_f2_p ((v47_0.take l2.length).length) w_2_9_f2_c, .int .u8 v47_1, .int .u8 v47_2, .int .i64 v47_3, .string v47_4, .int .i64 v47_5, .int .u8 v47_6, .slice w_2_9_f9_p v47_8 w_2_9_f9_c]) rfl (by rw [take_len hzl13]) (wl_hAs 8 (φ' := .blk w_2_9_g [.int .u8 a0, .int .i64 a1, .slice w_2_9_f2_p ((v47_0.take l2.length).length) w_2_9_f2_c, .int .u8 v47_1, .int .u8 v47_2, .int .i64 v47_3, .string v47_4, .int .i64 v47_5, .int .u8 v47_6, .slice w_2_9_f9_p v47_8 w_2_9_f9_c] 33) rfl (by rw [take_len hzl13]) (H' := [_,_,_,_,_,_,_,_,_,_,_,_,_]) rfl ?_)
    obtain ⟨hzl14, hm⟩ := gd_some hm
    refine wl_at 2 (v' := .agg #[.int .u8 a0, .int .i64 a1, .slice w_2_9_f2_p ((v47_0.take l2.length).length) w_2_9_f2_c, .int .u8 v47_1, .int .u8 v47_2, .int .i64 v47_3, .string v47_4, .int .i64 v47_5, .int .u8 v47_6, .slice w_2_9_f9_p (((v47_7.map to_Api_ExprD).take v47_8).length) w_2_9_f9_c]) rfl (by rw [takeM_len hzl14]) (wl_hAs 8 (φ' := .blk w_2_9_g [.int .u8 a0, .int .i64 a1, .slice w_2_9_f2_p ((v47_0.take l2.length).length) w_2_9_f2_c, .int .u8 v47_1, .int .u8 v47_2, .int .i64 v47_3, .string v47_4, .int .i64 v47_5, .int .u8 v47_6, .slice w_2_9_f9_p (((v47_7.map to_Api_ExprD).take v47_8).length) w_2_9_f9_c] 33) rfl (by rw [takeM_len hzl14]) (H' := [_,_,_,_,_,_,_,_,_,_,_,_,_]) rfl ?_)
    obtain ⟨hzl15, hm⟩ := gd_some hm
    refine wl_at 1 (v' := .agg #[.int .i64 a10, .int .i64 a11, .slice w_2_10_f2_p ((v49.take l12.length).length) w_2_10_f2_c]) rfl (by rw [take_len hzl15]) (wl_hAs 6 (φ' := .blk w_2_10_g [.int .i64 a10, .int .i64 a11, .slice w_2_10_f2_p ((v49.take l12.length).length) w_2_10_f2_c] 36) rfl (by rw [take_len hzl15]) (H' := [_,_,_,_,_,_,_,_,_,_,_,_,_]) rfl ?_)
    obtain ⟨hzl16, hm⟩ := gd_some hm
    refine wl_at 0 (v' := .agg #[.slice p52 l13.length c52, .slice p54_0 ((v54.take l14.length).length) c54_1]) rfl (by rw [take_len hzl16]) (wl_hAs 3 (φ' := .blk g11 [.slice p52 l13.length c52, .slice p54_0 ((v54.take l14.length).length) c54_1] 44) rfl (by rw [take_len hzl16]) (H' := [_,_,_,_,_,_,_,_,_,_,_,_,_]) rfl ?_)
    obtain ⟨⟨v67_0, v67_1, v67_2⟩, hc67, hm⟩ := bindO_some hm
    try dsimp only at hm
    refine wl_lend [] [0,1,2,3,4,5,6,7,8,9,10,11,12] [9,10,7,5,4] rfl rfl rfl (freshS_eq rfl) rfl rfl fn_10 rfl (w_pattern_Match_s N a0 a1 w_2_9_f2_p w_2_9_f2_c (v47_0.take l2.length) v47_1 v47_2 v47_3 v47_4 v47_5 v47_6 w_2_9_f9_p w_2_9_f9_c ((v47_7.map to_Api_ExprD).take v47_8) a10 a11 w_2_10_f2_p w_2_10_f2_c (v49.take l12.length) p52 c52 l13 p54_0 c54_1 (v54.take l14.length) _ _ _ hc67) (fun F w hφ hh => (ask_cons (sli_take (own_sli (hh _ (mem_at (k := 0) rfl))) l2.length) (ask_cons (sli_take (sli_mapTo _ (own_sli (hh _ (mem_at (k := 1) rfl))) (fun _ _ => RS_Api_ExprD_lend)) v47_8) (ask_cons (sli_take (own_sli (hh _ (mem_at (k := 2) rfl))) l12.length) (ask_cons (own_sli (hh _ (mem_at (k := 3) rfl))) (ask_cons (sli_take (own_sli (hh _ (mem_at (k := 4) rfl))) l14.length) ask_nil)))))) (fun _ _ _ hR => by obtain ⟨_,_,_,_,_,_, rfl, rfl, rfl⟩ := hR; exact ⟨rfl, (free_cons (own_free mkRep_free) (free_cons (own_free mkRep_free) (fun _ h => free_nil h)))⟩) rfl rfl (H' := [_,_,_,_,_,_,_,_,_,_,_,_,_]) rfl ?_
    rintro _ _ _ ⟨p67_0, c67_1, c67_2, p67_3, c67_4, c67_5, rfl, rfl, rfl⟩
    refine wl_at 1 (v' := .agg #[.slice p52 l13.length c52, .slice p54_0 l14.length c54_1]) rfl (by rw [take_len hzl16]) (wl_hAs 5 (φ' := .blk g11 [.slice p52 l13.length c52, .slice p54_0 l14.length c54_1] 44) rfl (by rw [take_len hzl16]) (H' := [_,_,_,_,_,_,_,_,_,_,_,_,_,_,_]) rfl (wl_at 2 (v' := .agg #[.int .i64 a10, .int .i64 a11, .slice w_2_10_f2_p l12.length w_2_10_f2_c]) rfl (by rw [take_len hzl15]) (wl_hAs 8 (φ' := .blk w_2_10_g [.int .i64 a10, .int .i64 a11, .slice w_2_10_f2_p l12.length w_2_10_f2_c] 36) rfl (by rw [take_len hzl15]) (H' := [_,_,_,_,_,_,_,_,_,_,_,_,_,_,_]) rfl (wl_at 3 (v' := .agg #[.int .u8 a0, .int .i64 a1, .slice w_2_9_f2_p ((v47_0.take l2.length).length) w_2_9_f2_c, .int .u8 v47_1, .int .u8 v47_2, .int .i64 v47_3, .string v47_4, .int .i64 v47_5, .int .u8 v47_6, .slice w_2_9_f9_p v47_8 w_2_9_f9_c]) rfl (by rw [takeM_len hzl14]) (wl_hAs 10 (φ' := .blk w_2_9_g [.int .u8 a0, .int .i64 a1, .slice w_2_9_f2_p ((v47_0.take l2.length).length) w_2_9_f2_c, .int .u8 v47_1, .int .u8 v47_2, .int .i64 v47_3, .string v47_4, .int .i64 v47_5, .int .u8 v47_6, .slice w_2_9_f9_p v47_8 w_2_9_f9_c] 33) rfl (by rw [takeM_len hzl14]) (H' := [_,_,_,_,_,_,_,_,_,_,_,_,_,_,_]) rfl (wl_at 3 (v' := .agg #[.int .u8 a0, .int .i64 a1, .slice w_2_9_f2_p l2.length w_2_9_f2_c, .int .u8 v47_1, .int .u8 v47_2, .int .i64 v47_3, .string v47_4, .int .i64 v47_5, .int .u8 v47_6, .slice w_2_9_f9_p v47_8 w_2_9_f9_c]) rfl (by rw [take_len hzl13]) (wl_hAs 10 (φ' := .blk w_2_9_g [.int .u8 a0, .int .i64 a1, .slice w_2_9_f2_p l2.length w_2_9_f2_c, .int .u8 v47_1, .int .u8 v47_2, .int .i64 v47_3, .string v47_4, .int .i64 v47_5, .int .u8 v47_6, .slice w_2_9_f9_p v47_8 w_2_9_f9_c] 33) rfl (by rw [take_len hzl13]) (H' := [_,_,_,_,_,_,_,_,_,_,_,_,_,_,_]) rfl (wP rfl (wP rfl (wP rfl (wl_alloc rfl rfl rfl (freshS_eq rfl) rfl tZ_44 rfl (fun g14 => (wS 0 0 rfl tS_44 (all' := [_,_]) rfl (H' := [_,_,_,_,_,_,_,_,_,_,_,_,_,_,_,_]) rfl (wP rfl ?_))))))))))))))
    refine wl_nil (we_then (wc_keep [14,13,12,11,10,9,5,4,2,3] (S' := [_,_,_,_,_,_,_,_,_,_]) rfl (wc_seq (wc_region (wl_loadH 15 0 rfl rfl rfl (freshS_eq rfl) rfl rfl rfl (cs := [_,_,_,_,_,_,_,_,_,_]) rfl tS_33 tA_33 rfl rfl (wl_loadH 14 0 rfl rfl rfl (freshS_eq rfl) rfl rfl rfl (cs := [_,_,_]) rfl tS_36 tA_36 rfl rfl (wP rfl (wP rfl (wl_build rfl rfl rfl (freshS_eq rfl) rfl tZ_47 tP_47 rfl (out := [_,_]) rfl ?_)))))))))
    obtain ⟨⟨v76_0, v76_1, v76_2⟩, hc76, hm⟩ := bindO_some hm
    try dsimp only at hm
    refine wC [] [0,1,2,3,4,5,6,7,8,9,10,11,12,13,14,15] rfl fn_11 rfl (w_ropewalkref10_Match_s N a0 a1 qp0 qc1 l2 a3 a4 a5 a6 a7 a8 qp2 qc3 l9 a10 a11 qp4 qc5 l12 qp6 qc7 l13 qp8 qc9 l14 _ _ _ hc76) (asK [1,2,0,3,4] rfl) rfl (H' := [_,_,_,_,_,_,_,_,_,_,_,_,_,_,_,_]) rfl ?_
    rintro _ _ _ ⟨p76_0, c76_1, c76_2, p76_3, c76_4, c76_5, rfl, rfl, rfl⟩
    refine wP rfl (wP rfl (wP rfl (wl_alloc rfl rfl rfl (freshS_eq rfl) rfl tZ_47 rfl (fun g16 => (wS 0 0 rfl tS_47 (all' := [_,_]) rfl (H' := [_,_,_,_,_,_,_,_,_,_,_,_,_,_,_,_,_,_,_]) rfl (wP rfl (wl_nil (we_then (wc_keep [17,16,14,13,12,11,10,9,5,4,2,3] (S' := [_,_,_,_,_,_,_,_,_,_,_,_]) rfl (wc_seq (wc_seq ?_)))))))))))
    obtain ⟨bj_3, hm, hLj_3⟩ := bindO_some hm
    unfold m_ropewalklaw10_PatternMatches_C3 at hm
    refine wc_cut (σ := Bool) (fun j_3_101 => bj_3 = j_3_101) (fun j_3_101 => [(16, .pointer (some ⟨g16,0, none⟩)), (14, .pointer (some ⟨g14,0, none⟩)), (12, .pointer (some ⟨g12,0, none⟩)), (11, .pointer (some ⟨g11,0, none⟩)), (10, .pointer (some ⟨w_2_10_g, 0, none⟩)), (9, .pointer (some ⟨w_2_9_g, 0, none⟩)), (5, .pointer (some ⟨g5,0, none⟩)), (4, .pointer (some ⟨g4,0, none⟩)), (3, .slice qp8 l14.length qc9), (101, .bool j_3_101)]) (fun j_3_101 => [.sli 3 R_V qp4 qc5 l12, .sli 5 R_ArgD qp0 qc1 l2, .sli 7 R_Api_ExprD qp2 qc3 l9, .sli 3 R_V qp8 qc9 l14]) (fun j_3_101 => [.blk g16 [.slice p76_0 c76_2 c76_1, .slice p76_3 c76_5 c76_4] 47, .own 4 1 R_bool (.slice p76_0 c76_2 c76_1) v76_0, .own 27 3 R_V (.slice p76_3 c76_5 c76_4) v76_1, .blk g14 [.slice p67_0 c67_2 c67_1, .slice p67_3 c67_5 c67_4] 44, .own 4 1 R_bool (.slice p67_0 c67_2 c67_1) v67_0, .own 27 3 R_V (.slice p67_3 c67_5 c67_4) v67_1, .blk g12 [.slice p60_0 c60_2 c60_1, .slice p60_3 c60_5 c60_4] 44, .own 4 1 R_bool (.slice p60_0 c60_2 c60_1) v60_0, .own 27 3 R_V (.slice p60_3 c60_5 c60_4) v60_1, .blk g11 [.slice p52 l13.length c52, .slice p54_0 l14.length c54_1] 44, .own 4 1 R_bool (.slice p52 l13.length c52) l13, .own 27 3 R_V (.slice p54_0 v54.length c54_1) v54, .blk w_2_10_g [.int .i64 a10, .int .i64 a11, .slice w_2_10_f2_p l12.length w_2_10_f2_c] 36, .own 27 3 R_V (.slice w_2_10_f2_p v49.length w_2_10_f2_c) v49, .blk w_2_9_g [.int .u8 a0, .int .i64 a1, .slice w_2_9_f2_p l2.length w_2_9_f2_c, .int .u8 v47_1, .int .u8 v47_2, .int .i64 v47_3, .string v47_4, .int .i64 v47_5, .int .u8 v47_6, .slice w_2_9_f9_p v47_8 w_2_9_f9_c] 33, .own 64 5 R_ArgD (.slice w_2_9_f2_p v47_0.length w_2_9_f2_c) v47_0, .own 31 7 RS_Api_ExprD (.slice w_2_9_f9_p v47_7.length w_2_9_f9_c) v47_7, .blk g5 [.int .i64 a10, .int .i64 a11, .slice qp4 l12.length qc5] 36, .blk g4 [.int .u8 a0, .int .i64 a1, .slice qp0 l2.length qc1, .int .u8 a3, .int .u8 a4, .int .i64 a5, .string a6, .int .i64 a7, .int .u8 a8, .slice qp2 l9.length qc3] 33]) ?_ ?_
    ·
     refine wc_region (wP rfl (wP rfl (wl_bin rfl rfl rfl (freshS_eq rfl) rfl rfl rfl (neqB _ _ v60_2 v76_2) (wP rfl ?_))))
     refine wl_split (d := 82) (S' := [_,_,_,_,_,_,_,_,_,_,_,_,_,_,_]) rfl rfl (fun hs82 => ?_) (fun hs82 => ?_)
     ·
      replace hm := iteT hm hs82
      refine wO rfl (wO rfl (wO rfl (wO rfl (wP rfl (wP rfl (wO rfl (wO rfl (wO rfl (wO rfl (wP rfl (wP rfl (wO rfl (wO rfl ?_)))))))))))))
      refine wO rfl (wO rfl (wO rfl (wO rfl (wP rfl (wl_nil ?_)))))
      have hE := (Option.some.inj hm).symm
      refine we_pick [0,1,2,3,4,5,6,7,8,9,11,10,12,13,14,15,16,17,18] rfl (H' := [_,_,_,_,_,_,_,_,_,_,_,_,_,_,_,_,_,_,_]) rfl ?_
      refine we_join true hE [16,14,12,11,10,9,5,4,3,101] rfl (asK [0,1,2,4] rfl) rfl
     ·
      replace hm := iteF hm hs82
      refine wl_loadH 6 0 rfl rfl rfl (freshS_eq rfl) rfl rfl rfl (cs := [_,_]) rfl tS_44 tA_44 rfl rfl (wl_loadH 0 0 rfl rfl rfl (freshS_eq rfl) rfl rfl rfl (cs := [_,_]) rfl tS_47 tA_47 rfl rfl (wl_ownLen 7 rfl (fun hzc60_2 _ => ?_)))
      subst hzc60_2
      refine wl_ownLen 8 rfl (fun hzc60_5 _ => ?_)
      subst hzc60_5
      refine wl_ownLen 1 rfl (fun hzc76_2 _ => ?_)
      subst hzc76_2
      refine wl_ownLen 2 rfl (fun hzc76_5 _ => ?_)
      subst hzc76_5
      obtain ⟨v85, hc85, hm⟩ := bindO_some hm
      refine wl_lend [] [0,1,2,3,4,5,6,7,8,9,10,11,12,13,14,15,16,17,18] [7,8,1,2] rfl rfl rfl (freshS_eq rfl) rfl rfl fn_12 rfl (w_ropewalklaw10_same_s N p60_0 c60_1 v60_0 p60_3 c60_4 v60_1 p76_0 c76_1 v76_0 p76_3 c76_4 v76_1 _ hc85) (fun F w hφ hh => (ask_cons (own_sli (hh _ (mem_at (k := 0) rfl))) (ask_cons (own_sli (hh _ (mem_at (k := 1) rfl))) (ask_cons (own_sli (hh _ (mem_at (k := 2) rfl))) (ask_cons (own_sli (hh _ (mem_at (k := 3) rfl))) ask_nil))))) (fun _ _ _ hR => by obtain ⟨rfl, rfl, rfl⟩ := hR; exact ⟨rfl, (fun _ h => free_nil h)⟩) rfl rfl (H' := [_,_,_,_,_,_,_,_,_,_,_,_,_,_,_,_,_,_,_]) rfl ?_
      rintro _ _ _ ⟨rfl, rfl, rfl⟩
      refine wP rfl (wP rfl (wP rfl ?_))
      refine wl_split (d := 88) (S' := [_,_,_,_,_,_,_,_,_,_,_,_,_,_,_,_,_,_,_,_,_]) rfl rfl (fun hs88 => ?_) (fun hs88 => ?_)
      ·
       replace hm := iteT hm hs88
       refine wO rfl (wO rfl (wO rfl (wO rfl (wP rfl (wP rfl (wO rfl (wO rfl (wO rfl (wO rfl (wO rfl (wO rfl (wP rfl (wl_nil ?_)))))))))))))
       have hE := (Option.some.inj hm).symm
       refine we_pick [0,1,2,3,4,5,6,7,8,9,11,10,12,13,14,15,16,17,18] rfl (H' := [_,_,_,_,_,_,_,_,_,_,_,_,_,_,_,_,_,_,_]) rfl ?_
       refine we_join true hE [16,14,12,11,10,9,5,4,3,101] rfl (asK [0,1,2,4] rfl) rfl
      ·
       replace hm := iteF hm hs88
       refine wl_loadH 3 0 rfl rfl rfl (freshS_eq rfl) rfl rfl rfl (cs := [_,_]) rfl tS_44 tA_44 rfl rfl (wl_loadH 0 0 rfl rfl rfl (freshS_eq rfl) rfl rfl rfl (cs := [_,_]) rfl tS_47 tA_47 rfl rfl (wl_ownLen 4 rfl (fun hzc67_2 _ => ?_)))
       subst hzc67_2
       refine wl_ownLen 5 rfl (fun hzc67_5 _ => ?_)
       subst hzc67_5
       obtain ⟨v91, hc91, hm⟩ := bindO_some hm
       refine wl_lend [] [0,1,2,3,4,5,6,7,8,9,10,11,12,13,14,15,16,17,18] [4,5,1,2] rfl rfl rfl (freshS_eq rfl) rfl rfl fn_12 rfl (w_ropewalklaw10_same_s N p67_0 c67_1 v67_0 p67_3 c67_4 v67_1 p76_0 c76_1 v76_0 p76_3 c76_4 v76_1 _ hc91) (fun F w hφ hh => (ask_cons (own_sli (hh _ (mem_at (k := 0) rfl))) (ask_cons (own_sli (hh _ (mem_at (k := 1) rfl))) (ask_cons (own_sli (hh _ (mem_at (k := 2) rfl))) (ask_cons (own_sli (hh _ (mem_at (k := 3) rfl))) ask_nil))))) (fun _ _ _ hR => by obtain ⟨rfl, rfl, rfl⟩ := hR; exact ⟨rfl, (fun _ h => free_nil h)⟩) rfl rfl (H' := [_,_,_,_,_,_,_,_,_,_,_,_,_,_,_,_,_,_,_]) rfl ?_
       rintro _ _ _ ⟨rfl, rfl, rfl⟩
       refine wP rfl (wP rfl (wP rfl ?_))
       refine wl_split (d := 94) (S' := [_,_,_,_,_,_,_,_,_,_,_,_,_,_,_,_,_,_,_,_,_,_,_,_,_,_,_]) rfl rfl (fun hs94 => ?_) (fun hs94 => ?_)
       ·
        replace hm := iteT hm hs94
        refine wO rfl (wO rfl (wO rfl (wO rfl (wO rfl (wO rfl (wP rfl (wl_nil ?_)))))))
        have hE := (Option.some.inj hm).symm
        refine we_pick [0,1,2,3,4,5,6,7,8,9,11,10,12,13,14,15,16,17,18] rfl (H' := [_,_,_,_,_,_,_,_,_,_,_,_,_,_,_,_,_,_,_]) rfl ?_
        refine we_join true hE [16,14,12,11,10,9,5,4,3,101] rfl (asK [0,1,2,4] rfl) rfl
       ·
        replace hm := iteF hm hs94
        refine wl_loadH 9 0 rfl rfl rfl (freshS_eq rfl) rfl rfl rfl (cs := [_,_]) rfl tS_44 tA_44 rfl rfl (wP rfl (wP rfl (wl_build rfl rfl rfl (freshS_eq rfl) rfl tZ_47 tP_47 rfl (out := [_,_]) rfl ?_)))
        obtain ⟨hzl19, hm⟩ := gd_some hm
        refine wl_at 3 (v' := .agg #[.slice p52 l13.length c52, .slice p54_0 ((v54.take l14.length).length) c54_1]) rfl (by rw [take_len hzl19]) (wl_hAs 9 (φ' := .blk g11 [.slice p52 l13.length c52, .slice p54_0 ((v54.take l14.length).length) c54_1] 44) rfl (by rw [take_len hzl19]) (H' := [_,_,_,_,_,_,_,_,_,_,_,_,_,_,_,_,_,_,_]) rfl ?_)
        obtain ⟨v99, hc99, hm⟩ := bindO_some hm
        refine wl_lend [] [0,1,2,3,4,5,6,7,8,9,10,11,12,13,14,15,16,17,18] [11,10] rfl rfl rfl (freshS_eq rfl) rfl rfl fn_12 rfl (w_ropewalklaw10_same_s N p52 c52 l13 p54_0 c54_1 (v54.take l14.length) qp6 qc7 l13 qp8 qc9 l14 _ hc99) (fun F w hφ hh => (ask_cons (own_sli (hh _ (mem_at (k := 0) rfl))) (ask_cons (sli_take (own_sli (hh _ (mem_at (k := 1) rfl))) l14.length) (ask_cons (hφ _ (mem_at (k := 3) rfl)) (ask_cons (hφ _ (mem_at (k := 4) rfl)) ask_nil))))) (fun _ _ _ hR => by obtain ⟨rfl, rfl, rfl⟩ := hR; exact ⟨rfl, (fun _ h => free_nil h)⟩) rfl rfl (H' := [_,_,_,_,_,_,_,_,_,_,_,_,_,_,_,_,_,_,_]) rfl ?_
        rintro _ _ _ ⟨rfl, rfl, rfl⟩
        refine wl_at 4 (v' := .agg #[.slice p52 l13.length c52, .slice p54_0 l14.length c54_1]) rfl (by rw [take_len hzl19]) (wl_hAs 9 (φ' := .blk g11 [.slice p52 l13.length c52, .slice p54_0 l14.length c54_1] 44) rfl (by rw [take_len hzl19]) (H' := [_,_,_,_,_,_,_,_,_,_,_,_,_,_,_,_,_,_,_]) rfl (wP rfl (wP rfl (wl_nil ?_))))
        have hE := (Option.some.inj hm).symm
        refine we_pick [0,1,2,3,4,5,6,7,8,9,11,10,12,13,14,15,16,17,18] rfl (H' := [_,_,_,_,_,_,_,_,_,_,_,_,_,_,_,_,_,_,_]) rfl ?_
        refine we_join (!v99) hE [16,14,12,11,10,9,5,4,3,101] rfl (asK [0,1,2,4] rfl) rfl
    ·
     rintro j_3_101 hE
     try dsimp only
     have hm := hLj_3
     rw [hE] at hm
     refine wc_cond rfl (fun hb101 => ?_) (fun hb101 => ?_)
     ·
      replace hm := iteT hm hb101
      refine wc_keep [] (S' := []) rfl (wc_seq (wc_region (wP rfl (wl_nil (we_then (wc_ret (we_then_ret ?_)))))))
      have hE := (Option.some.inj hm).symm
      replace hE := hE.symm
      subst hE
      refine ret_one (Hr := []) [] Tryz.results3 (res_tmp rfl) ⟨rfl, rfl, rfl⟩ (asK [] rfl) rfl rfl (.inl rfl)
     ·
      replace hm := iteF hm hb101
      refine wc_keep [16,14,12,11,10,9,5,4,3] (S' := [_,_,_,_,_,_,_,_,_]) rfl (wc_skip (we_then (wc_seq (wc_seq ?_))))
      obtain ⟨bj_4, hm, hLj_4⟩ := bindO_some hm
      unfold m_ropewalklaw10_PatternMatches_C4 at hm
      refine wc_cut (σ := Bool) (fun j_4_118 => bj_4 = j_4_118) (fun j_4_118 => [(16, .pointer (some ⟨g16,0, none⟩)), (14, .pointer (some ⟨g14,0, none⟩)), (12, .pointer (some ⟨g12,0, none⟩)), (11, .pointer (some ⟨g11,0, none⟩)), (10, .pointer (some ⟨w_2_10_g, 0, none⟩)), (118, .bool j_4_118)]) (fun j_4_118 => []) (fun j_4_118 => [.blk g16 [.slice p76_0 c76_2 c76_1, .slice p76_3 c76_5 c76_4] 47, .own 4 1 R_bool (.slice p76_0 c76_2 c76_1) v76_0, .own 27 3 R_V (.slice p76_3 c76_5 c76_4) v76_1, .blk g14 [.slice p67_0 c67_2 c67_1, .slice p67_3 c67_5 c67_4] 44, .own 4 1 R_bool (.slice p67_0 c67_2 c67_1) v67_0, .own 27 3 R_V (.slice p67_3 c67_5 c67_4) v67_1, .blk g12 [.slice p60_0 c60_2 c60_1, .slice p60_3 c60_5 c60_4] 44, .own 4 1 R_bool (.slice p60_0 c60_2 c60_1) v60_0, .own 27 3 R_V (.slice p60_3 c60_5 c60_4) v60_1, .blk g11 [.slice p52 l13.length c52, .slice p54_0 l14.length c54_1] 44, .own 4 1 R_bool (.slice p52 l13.length c52) l13, .own 27 3 R_V (.slice p54_0 v54.length c54_1) v54, .blk w_2_10_g [.int .i64 a10, .int .i64 a11, .slice w_2_10_f2_p l12.length w_2_10_f2_c] 36, .own 27 3 R_V (.slice w_2_10_f2_p v49.length w_2_10_f2_c) v49]) ?_ ?_
      ·
       refine wc_region (wl_loadH 14 0 rfl rfl rfl (freshS_eq rfl) rfl rfl rfl (cs := [_,_,_,_,_,_,_,_,_,_]) rfl tS_33 tA_33 rfl rfl (wl_loadH 18 0 rfl rfl rfl (freshS_eq rfl) rfl rfl rfl (cs := [_,_,_,_,_,_,_,_,_,_]) rfl tS_33 tA_33 rfl rfl ?_))
       obtain ⟨v104, hc104, hm⟩ := bindO_some hm
       refine wl_lend [] [0,1,2,3,4,5,6,7,8,9,10,11,12,13,14,15,16,17,18] [15,16] rfl rfl rfl (freshS_eq rfl) rfl rfl fn_13 rfl (w_ropewalkkit_KeptCond_W_s N a0 a1 w_2_9_f2_p w_2_9_f2_c v47_0 l2.length v47_1 v47_2 v47_3 v47_4 v47_5 v47_6 w_2_9_f9_p w_2_9_f9_c v47_7 v47_8 a0 a1 qp0 qc1 l2 a3 a4 a5 a6 a7 a8 qp2 qc3 l9 _ hc104) (fun F w hφ hh => (ask_cons (own_sli (hh _ (mem_at (k := 0) rfl))) (ask_cons (own_sli (hh _ (mem_at (k := 1) rfl))) (ask_cons (hφ _ (mem_at (k := 1) rfl)) (ask_cons (hφ _ (mem_at (k := 2) rfl)) ask_nil))))) (fun _ _ _ hR => by obtain ⟨rfl, rfl, rfl⟩ := hR; exact ⟨rfl, (fun _ h => free_nil h)⟩) rfl rfl (H' := [_,_,_,_,_,_,_,_,_,_,_,_,_,_,_,_,_,_,_]) rfl ?_
       rintro _ _ _ ⟨rfl, rfl, rfl⟩
       refine wP rfl (wP rfl ?_)
       refine wl_split (d := 106) (S' := [_,_,_,_,_,_,_,_,_,_,_,_,_]) rfl rfl (fun hs106 => ?_) (fun hs106 => ?_)
       ·
        replace hm := iteT hm hs106
        refine wO rfl (wO rfl (wO rfl (wO rfl (wP rfl (wP rfl (wO rfl (wO rfl (wO rfl (wO rfl (wO rfl (wP rfl (wl_nil ?_))))))))))))
        have hE := (Option.some.inj hm).symm
        refine we_pick [0,1,2,3,4,5,6,7,8,9,10,11,12,13] rfl (H' := [_,_,_,_,_,_,_,_,_,_,_,_,_,_]) rfl ?_
        refine we_join true hE [16,14,12,11,10,118] rfl (asK [] rfl) rfl
       ·
        replace hm := iteF hm hs106
        refine wl_loadH 12 0 rfl rfl rfl (freshS_eq rfl) rfl rfl rfl (cs := [_,_,_]) rfl tS_36 tA_36 rfl rfl (wl_loadH 17 0 rfl rfl rfl (freshS_eq rfl) rfl rfl rfl (cs := [_,_,_]) rfl tS_36 tA_36 rfl rfl ?_)
        obtain ⟨v109, hc109, hm⟩ := bindO_some hm
        refine wl_lend [] [0,1,2,3,4,5,6,7,8,9,10,11,12,13,14,15,16,17,18] [13] rfl rfl rfl (freshS_eq rfl) rfl rfl fn_14 rfl (w_ropewalkkit_KeptFact_W_s N a10 a11 w_2_10_f2_p w_2_10_f2_c v49 l12.length a10 a11 qp4 qc5 l12 _ hc109) (fun F w hφ hh => (ask_cons (own_sli (hh _ (mem_at (k := 0) rfl))) (ask_cons (hφ _ (mem_at (k := 0) rfl)) ask_nil))) (fun _ _ _ hR => by obtain ⟨rfl, rfl, rfl⟩ := hR; exact ⟨rfl, (fun _ h => free_nil h)⟩) rfl rfl (H' := [_,_,_,_,_,_,_,_,_,_,_,_,_,_,_,_,_,_,_]) rfl ?_
        rintro _ _ _ ⟨rfl, rfl, rfl⟩
        refine wP rfl (wP rfl (wP rfl ?_))
        refine wl_split (d := 112) (S' := [_,_,_,_,_,_,_,_,_,_,_,_,_,_,_,_,_,_,_]) rfl rfl (fun hs112 => ?_) (fun hs112 => ?_)
        ·
         replace hm := iteT hm hs112
         refine wO rfl (wO rfl (wO rfl (wO rfl (wO rfl (wP rfl (wl_nil ?_))))))
         have hE := (Option.some.inj hm).symm
         refine we_pick [0,1,2,3,4,5,6,7,8,9,10,11,12,13] rfl (H' := [_,_,_,_,_,_,_,_,_,_,_,_,_,_]) rfl ?_
         refine we_join true hE [16,14,12,11,10,118] rfl (asK [] rfl) rfl
        ·
         replace hm := iteF hm hs112
         refine wF rfl tF_44_1 (wD 9 1 rfl tS_34 tA_34 rfl (wP rfl ?_))
         obtain ⟨v116, hc116, hm⟩ := bindO_some hm
         refine wl_lend [] [0,1,2,3,4,5,6,7,8,9,10,11,12,13,14,15,16,17,18] [11] rfl rfl rfl (freshS_eq rfl) rfl rfl fn_15 rfl (w_ropewalkkit_KeptValues_W_s N p54_0 c54_1 v54 l14.length qp8 qc9 l14 _ hc116) (fun F w hφ hh => (ask_cons (own_sli (hh _ (mem_at (k := 0) rfl))) (ask_cons (hφ _ (mem_at (k := 3) rfl)) ask_nil))) (fun _ _ _ hR => by obtain ⟨rfl, rfl, rfl⟩ := hR; exact ⟨rfl, (fun _ h => free_nil h)⟩) rfl rfl (H' := [_,_,_,_,_,_,_,_,_,_,_,_,_,_,_,_,_,_,_]) rfl ?_
         rintro _ _ _ ⟨rfl, rfl, rfl⟩
         refine wP rfl (wP rfl (wl_nil ?_))
         have hE := (Option.some.inj hm).symm
         refine we_pick [0,1,2,3,4,5,6,7,8,9,10,11,12,13] rfl (H' := [_,_,_,_,_,_,_,_,_,_,_,_,_,_]) rfl ?_
         refine we_join (!v116) hE [16,14,12,11,10,118] rfl (asK [] rfl) rfl
      ·
       rintro j_4_118 hE
       try dsimp only
       have hm := hLj_4
       rw [hE] at hm
       refine wc_cond rfl (fun hb118 => ?_) (fun hb118 => ?_)
       ·
        replace hm := iteT hm hb118
        refine wc_keep [] (S' := []) rfl (wc_seq (wc_region (wP rfl (wl_nil (we_then (wc_ret (we_then_ret ?_)))))))
        have hE := (Option.some.inj hm).symm
        replace hE := hE.symm
        subst hE
        refine ret_one (Hr := []) [] Tryz.results3 (res_tmp rfl) ⟨rfl, rfl, rfl⟩ (asK [] rfl) rfl rfl (.inl rfl)
       ·
        replace hm := iteF hm hb118
        refine wc_keep [16,14,12,11,10] (S' := [_,_,_,_,_]) rfl (wc_skip (we_then (wc_seq (wc_region (wl_loadH 12 0 rfl rfl rfl (freshS_eq rfl) rfl rfl rfl (cs := [_,_,_]) rfl tS_36 tA_36 rfl rfl ?_)))))
        obtain ⟨v120, hc120, hm⟩ := bindO_some hm
        refine wC [13] [0,1,2,3,4,5,6,7,8,9,10,11,12] rfl fn_16 rfl (w_ropewalkkit_OverFact_V_s N a10 a11 w_2_10_f2_p v49.length w_2_10_f2_c v49 l12.length _ hc120) (asK [] rfl) rfl (H' := [_,_,_,_,_,_,_,_,_,_,_,_,_]) rfl ?_
        rintro _ _ _ ⟨rfl, rfl, rfl⟩
        refine wl_nil (we_then (wc_keep [16,14,12,11] (S' := [_,_,_,_]) rfl (wc_seq (wc_region (wF rfl tF_44_1 (wD 10 1 rfl tS_34 tA_34 rfl ?_))))))
        obtain ⟨v123, hc123, hm⟩ := bindO_some hm
        refine wC [12] [0,1,2,3,4,5,6,7,8,9,10,11,13] rfl fn_17 rfl (w_ropewalkkit_OverValues_V_s N p54_0 v54.length c54_1 v54 l14.length _ hc123) (asK [] rfl) rfl (H' := [_,_,_,_,_,_,_,_,_,_,_,_,_]) rfl ?_
        rintro _ _ _ ⟨rfl, rfl, rfl⟩
        refine wl_nil (we_then (wc_keep [16,14,12] (S' := [_,_,_]) rfl (wc_seq (wc_region (wl_loadH 8 0 rfl rfl rfl (freshS_eq rfl) rfl rfl rfl (cs := [_,_]) rfl tS_44 tA_44 rfl rfl (wl_loadH 2 0 rfl rfl rfl (freshS_eq rfl) rfl rfl rfl (cs := [_,_]) rfl tS_47 tA_47 rfl rfl (wl_ownLen 9 rfl (fun hzc60_2 _ => ?_))))))))
        subst hzc60_2
        refine wl_ownLen 10 rfl (fun hzc60_5 _ => ?_)
        subst hzc60_5
        refine wl_ownLen 3 rfl (fun hzc76_2 _ => ?_)
        subst hzc76_2
        refine wl_ownLen 4 rfl (fun hzc76_5 _ => ?_)
        subst hzc76_5
        obtain ⟨v126, hc126, hm⟩ := bindO_some hm
        refine wl_lend [] [0,1,2,3,4,5,6,7,8,9,10,11,12,13] [9,10,3,4] rfl rfl rfl (freshS_eq rfl) rfl rfl fn_12 rfl (w_ropewalklaw10_same_s N p60_0 c60_1 v60_0 p60_3 c60_4 v60_1 p76_0 c76_1 v76_0 p76_3 c76_4 v76_1 _ hc126) (fun F w hφ hh => (ask_cons (own_sli (hh _ (mem_at (k := 0) rfl))) (ask_cons (own_sli (hh _ (mem_at (k := 1) rfl))) (ask_cons (own_sli (hh _ (mem_at (k := 2) rfl))) (ask_cons (own_sli (hh _ (mem_at (k := 3) rfl))) ask_nil))))) (fun _ _ _ hR => by obtain ⟨rfl, rfl, rfl⟩ := hR; exact ⟨rfl, (fun _ h => free_nil h)⟩) rfl rfl (H' := [_,_,_,_,_,_,_,_,_,_,_,_,_,_]) rfl ?_
        rintro _ _ _ ⟨rfl, rfl, rfl⟩
        refine wP rfl ?_
        refine wl_split (d := 127) (S' := [_,_,_,_,_,_]) rfl rfl (fun hs127 => ?_) (fun hs127 => ?_)
        ·
         replace hm := iteT hm hs127
         refine wl_loadH 8 0 rfl rfl rfl (freshS_eq rfl) rfl rfl rfl (cs := [_,_]) rfl tS_44 tA_44 rfl rfl (wl_loadH 5 0 rfl rfl rfl (freshS_eq rfl) rfl rfl rfl (cs := [_,_]) rfl tS_44 tA_44 rfl rfl (wl_ownLen 6 rfl (fun hzc67_2 _ => ?_)))
         subst hzc67_2
         refine wl_ownLen 7 rfl (fun hzc67_5 _ => ?_)
         subst hzc67_5
         obtain ⟨⟨v130_0, v130_1⟩, hc130, hm⟩ := bindO_some hm
         try dsimp only at hm
         refine wC [9,10,6,7] [0,1,2,3,4,5,8,11,12,13] rfl fn_18 rfl (w_ropewalklaw10_apart_v2_s N p60_0 v60_0.length c60_1 v60_0 p60_3 v60_1.length c60_4 v60_1 p67_0 v67_0.length c67_1 v67_0 p67_3 v67_1.length c67_4 v67_1 _ _ hc130) (asK [] rfl) rfl (H' := [_,_,_,_,_,_,_,_,_,_]) rfl ?_
         rintro _ _ _ ⟨rfl, rfl, rfl⟩
         refine wP rfl (wP rfl ?_)
         refine wl_split (d := 132) (S' := [_,_,_,_,_,_,_,_,_,_,_]) rfl rfl (fun hs132 => ?_) (fun hs132 => ?_)
         ·
          replace hm := iteT hm hs132
          obtain ⟨v133, hc133, hm⟩ := bindO_some hm
          refine wC [] [0,1,2,3,4,5,6,7,8,9,10,11] rfl fn_6 rfl (w_ropewalklaw10_awake_s N _ hc133) (asK [] rfl) rfl (H' := [_,_,_,_,_,_,_,_,_,_,_,_]) rfl ?_
          rintro _ _ _ ⟨rfl, rfl, rfl⟩
          refine wP rfl (wP rfl (wl_nil (we_then (wc_keep [8] (S' := [_]) rfl (wc_ret ?_)))))
          have hE := (Option.some.inj hm).symm
          replace hE := hE.symm
          subst hE
          refine ret_one (Hr := []) [] Tryz.results3 (res_tmp rfl) ⟨rfl, rfl, rfl⟩ (asK [] rfl) rfl rfl (.inl rfl)
         ·
          replace hm := iteF hm hs132
          refine wO rfl (wP rfl (wP rfl (wl_nil (we_then (wc_keep [8] (S' := [_]) rfl (wc_ret ?_))))))
          have hE := (Option.some.inj hm).symm
          replace hE := hE.symm
          subst hE
          refine ret_one (Hr := []) [] Tryz.results3 (res_tmp rfl) ⟨rfl, rfl, rfl⟩ (asK [] rfl) rfl rfl (.inl rfl)
        ·
         replace hm := iteF hm hs127
         refine wO rfl (wO rfl (wO rfl (wP rfl (wP rfl (wO rfl (wP rfl (wP rfl (wl_nil (we_then (wc_keep [8] (S' := [_]) rfl (wc_ret ?_)))))))))))
         have hE := (Option.some.inj hm).symm
         replace hE := hE.symm
         subst hE
         refine ret_one (Hr := []) [] Tryz.results3 (res_tmp rfl) ⟨rfl, rfl, rfl⟩ (asK [] rfl) rfl rfl (.inl rfl)
theorem w_ropewalkref10_New_s (N : Nat) (a0 : Int) (o2 : List Bool) (o6 : List V) (hm : m_ropewalkref10_New N a0 = some (o2, o6)) : Spec Tryz.prog 20 [.int .i64 a0] [] [] (fun v Φr Hr => ∃ (o0 : Option Addr) (o1 : Nat) (o3 : Nat) (o4 : Option Addr) (o5 : Nat) (o7 : Nat), v = .agg #[.slice o0 o3 o1, .slice o4 o7 o5] ∧ Φr = [] ∧ Hr = [.own 4 1 R_bool (.slice o0 o3 o1) o2, .own 27 3 R_V (.slice o4 o7 o5) o6]) := by
 unfold m_ropewalkref10_New at hm
 refine spec_of Tryz.func20 rfl Tryz.ntmps20 rfl (S := [_]) rfl (fun C => (wc_seq (wc_region (wl_alloc rfl rfl rfl (freshS_eq rfl) rfl tZ_47 rfl (fun g2 => (wl_nil (we_then (wc_seq (wc_seq ?_)))))))))
 obtain ⟨bj_1, hm, hLj_1⟩ := bindO_some hm
 refine wc_cut (σ := Bool) (fun j_1_8 => bj_1 = j_1_8) (fun j_1_8 => [(0, .int .i64 a0), (2, .pointer (some ⟨g2,0, none⟩)), (8, .bool j_1_8)]) (fun j_1_8 => []) (fun j_1_8 => [.blk g2 [.slice none 0 0, .slice none 0 0] 47]) ?_ ?_
 ·
  refine wc_region (wP rfl (wP rfl (wP rfl ?_)))
  refine wl_split (d := 5) (S' := [_,_,_,_]) rfl rfl (fun hs5 => ?_) (fun hs5 => ?_)
  ·
   replace hm := iteT hm hs5
   refine wO rfl (wO rfl (wP rfl (wl_nil ?_)))
   have hE := (Option.some.inj hm).symm
   refine we_join true hE [0,2,8] rfl (asK [] rfl) rfl
  ·
   replace hm := iteF hm hs5
   refine wP rfl (wP rfl (wP rfl (wl_nil ?_)))
   have hE := (Option.some.inj hm).symm
   refine we_join (decide (a0 > 16)) hE [0,2,8] rfl (asK [] rfl) rfl
 ·
  rintro j_1_8 hE
  try dsimp only
  have hm := hLj_1
  rw [hE] at hm
  refine wc_cond rfl (fun hb8 => ?_) (fun hb8 => ?_)
  ·
   replace hm := iteT hm hb8
   refine wc_keep [2] (S' := [_]) rfl (wc_seq (wc_region (wl_build rfl rfl rfl (freshS_eq rfl) rfl tZ_47 tP_47 rfl (out := [_,_]) rfl (wS 0 0 rfl tS_47 (all' := [_,_]) rfl (H' := [_]) rfl (wl_nil (we_then (wc_keep [2] (S' := [_]) rfl (wc_ret (we_then_ret ?_)))))))))
   have hE := (Option.some.inj hm).symm
   obtain ⟨hE0, hE1⟩ := Prod.mk.inj hE
   clear hE
   replace hE0 := hE0.symm
   subst hE0
   replace hE1 := hE1.symm
   subst hE1
   refine we_rowNil 4 1 R_bool (we_rowNil 27 3 R_V ?_)
   refine ret_one (Hr := [_,_]) [1,0] Tryz.results20 (res_cell 2 rfl rfl tS_47 tA_47 rfl rfl) ⟨none, 0,0, none, 0,0, rfl, rfl, rfl⟩ (asK [] rfl) rfl rfl (.inl rfl)
  ·
   replace hm := iteF hm hb8
   refine wc_keep [0,2] (S' := [_,_]) rfl (wc_skip (we_then (wc_seq ?_)))
   obtain ⟨hn11, hm⟩ := gd_some hm
   obtain ⟨hg11, hm⟩ := gd_some hm
   obtain ⟨hn13, hm⟩ := gd_some hm
   obtain ⟨hg13, hm⟩ := gd_some hm
   refine wc_cut (σ := (Option Addr) × (Option Addr)) (fun _ => True) (fun (w_2_2_f0_p, w_2_2_f1_p) => [(2, .pointer (some ⟨g2,0, none⟩))]) (fun (w_2_2_f0_p, w_2_2_f1_p) => []) (fun (w_2_2_f0_p, w_2_2_f1_p) => [.blk g2 [.slice w_2_2_f0_p a0.toNat a0.toNat, .slice w_2_2_f1_p a0.toNat a0.toNat] 47, .own 4 1 R_bool (.slice w_2_2_f0_p a0.toNat a0.toNat) (List.replicate a0.toNat false), .own 27 3 R_V (.slice w_2_2_f1_p a0.toNat a0.toNat) (List.replicate a0.toNat (⟨0,0, (⟨#[]⟩ : ByteArray)⟩ : V))]) ?_ ?_
   ·
    refine wc_draw [0,2,4] rfl rfl (fun hok => (xP hok 0 rfl (xP hok 2 rfl ?_)))
    refine wx_step2 hok 1 3 rfl rfl rfl rfl rfl rfl ?_ ?_
    ·
     refine wl_makeSlice (m := a0.toNat) R_bool false rfl rfl rfl (freshS_eq rfl) rfl rfl rfl (toNat_eq hn11) (toNat_eq hn11) tE_37 tR_4 rfl rfl (fun _ _ => ⟨(), rfl, ask_nil⟩) (Nat.le_trans (Nat.mul_le_mul_left _ hg11) (by decide)) (Nat.le_trans hg11 (by decide)) (fun g11 => (wl_nil (we_x [] [] rfl rfl (xS hok 3 rfl (wl_makeSlice (m := a0.toNat) R_V (⟨0,0, (⟨#[]⟩ : ByteArray)⟩ : V) rfl rfl rfl (freshS_eq rfl) rfl rfl rfl (toNat_eq hn13) (toNat_eq hn13) tE_34 tR_27 rfl rfl (fun _ _ => ⟨(), rfl, ask_nil⟩) (Nat.le_trans (Nat.mul_le_mul_left _ hg13) (by decide)) (Nat.le_trans hg13 (by decide)) (fun g13 => (wl_nil (we_x [] [] rfl rfl (wx_build hok 4 rfl rfl rfl (freshS_eq rfl) rfl rfl tZ_47 tP_47 rfl (out := [_,_]) rfl (xS hok 5 rfl (wS 2 0 rfl tS_47 (all' := [_,_]) rfl (H' := [_,_,_]) rfl (wl_nil (we_x [] [] rfl rfl (wx_done hok rfl (we_pick [2,1,0] rfl (H' := [_,_,_]) rfl ?_)))))))))))))))
     refine we_join (some ⟨g11,0, none⟩, some ⟨g13,0, none⟩) trivial [2] rfl (asK [] rfl) rfl
    ·
     refine wl_makeSlice (m := a0.toNat) R_V (⟨0,0, (⟨#[]⟩ : ByteArray)⟩ : V) rfl rfl rfl (freshS_eq rfl) rfl rfl rfl (toNat_eq hn13) (toNat_eq hn13) tE_34 tR_27 rfl rfl (fun _ _ => ⟨(), rfl, ask_nil⟩) (Nat.le_trans (Nat.mul_le_mul_left _ hg13) (by decide)) (Nat.le_trans hg13 (by decide)) (fun g13 => (wl_nil (we_x [] [] rfl rfl (xS hok 1 rfl (wl_makeSlice (m := a0.toNat) R_bool false rfl rfl rfl (freshS_eq rfl) rfl rfl rfl (toNat_eq hn11) (toNat_eq hn11) tE_37 tR_4 rfl rfl (fun _ _ => ⟨(), rfl, ask_nil⟩) (Nat.le_trans (Nat.mul_le_mul_left _ hg11) (by decide)) (Nat.le_trans hg11 (by decide)) (fun g11 => (wl_nil (we_x [] [] rfl rfl (wx_build hok 4 rfl rfl rfl (freshS_eq rfl) rfl rfl tZ_47 tP_47 rfl (out := [_,_]) rfl (xS hok 5 rfl (wS 2 0 rfl tS_47 (all' := [_,_]) rfl (H' := [_,_,_]) rfl (wl_nil (we_x [] [] rfl rfl (wx_done hok rfl (we_pick [2,0,1] rfl (H' := [_,_,_]) rfl ?_)))))))))))))))
     refine we_join (some ⟨g11,0, none⟩, some ⟨g13,0, none⟩) trivial [2] rfl (asK [] rfl) rfl
   ·
    rintro ⟨w_2_2_f0_p, w_2_2_f1_p⟩ _
    try dsimp only
    refine wc_ret ?_
    have hE := (Option.some.inj hm).symm
    obtain ⟨hE0, hE1⟩ := Prod.mk.inj hE
    clear hE
    replace hE0 := hE0.symm
    subst hE0
    replace hE1 := hE1.symm
    subst hE1
    refine ret_one (Hr := [_,_]) [1,2] Tryz.results20 (res_cell 0 rfl rfl tS_47 tA_47 rfl rfl) ⟨w_2_2_f0_p, a0.toNat, a0.toNat, w_2_2_f1_p, a0.toNat, a0.toNat, rfl, rfl, rfl⟩ (asK [] rfl) rfl rfl (.inl rfl)
theorem w_ropewalkkit_markFact_s (N : Nat) (a0 : Int) (a1 : Int)  (hm : m_ropewalkkit_markFact N a0 a1 = some ()) : Spec Tryz.prog 50 [.int .i64 a0, .int .i64 a1] [] [] (fun v Φr Hr => v = .agg #[.int .i64 (IntKind.wrap .i64 ((IntKind.wrap .i64 (1000003 * (IntKind.wrap .i64 (a0 + 7)))) + a1)), .int .i64 0, .slice none 0 0] ∧ Φr = [] ∧ Hr = []) := by
 unfold m_ropewalkkit_markFact at hm
 refine spec_of Tryz.func50 rfl Tryz.ntmps50 rfl (S := [_,_]) rfl (fun C => (wc_seq (wc_region (wl_alloc rfl rfl rfl (freshS_eq rfl) rfl tZ_36 rfl (fun g4 => (wl_nil (we_then (wc_seq (wc_region (wP rfl (wP rfl ?_)))))))))))
 obtain ⟨_, hc7, hm⟩ := bindO_some hm
 try dsimp only at hm
 refine wC [] [0] rfl fn_42 rfl (w_ropewalkkit_mark_s N a0 a1 hc7) (asK [] rfl) rfl (H' := [_]) rfl ?_
 rintro _ _ _ ⟨rfl, rfl, rfl⟩
 refine wl_build rfl rfl rfl (freshS_eq rfl) rfl tZ_36 tP_36 rfl (out := [_,_,_]) rfl (wS 0 0 rfl tS_36 (all' := [_,_,_]) rfl (H' := [_]) rfl (wl_nil (we_then (wc_keep [4] (S' := [_]) rfl (wc_ret ?_)))))
 have hE := (Option.some.inj hm).symm
 refine ret_one (Hr := []) [] Tryz.results50 (res_cell 0 rfl rfl tS_36 tA_36 rfl rfl) ⟨rfl, rfl, rfl⟩ (asK [] rfl) rfl rfl (.inl rfl)
theorem w_ropewalkkit_LentFacts_s (N : Nat) (qp0 : Option Addr) (qc1 : Nat) (l0 : List FactD) (o2 : List FactDS) (hm : m_ropewalkkit_LentFacts N l0 = some o2) : Spec Tryz.prog 36 [.slice qp0 l0.length qc1] [.sli 3 R_FactD qp0 qc1 l0] [] (fun v Φr Hr => ∃ (o0 : Option Addr) (o1 : Nat) (o3 : Nat), v = .slice o0 l0.length o1 ∧ Φr = [] ∧ Hr = [treeF TS_FactD 36 3 (.slice o0 o3 o1) o2]) := by
 unfold m_ropewalkkit_LentFacts at hm
 refine spec_of Tryz.func36 rfl Tryz.ntmps36 rfl (S := [_]) rfl (fun C => (wc_seq (wc_region (wP rfl (wl_nil (we_then (wc_keep [0] (S' := [_]) rfl (wc_seq (wc_region (wP rfl (wN rfl tE_78 (wP rfl ?_))))))))))))
 obtain ⟨hg9, hm⟩ := gd_some hm
 refine wl_as (d := 9) (v' := .int .i64 ((l0.length + 12 : Nat) : Int)) (S' := [_,_,_]) rfl rfl (nat_add (a := l0.length) (b := 12) hg9) ?_
 obtain ⟨hg10, hm⟩ := gd_some hm
 refine wl_makeCap (m := l0.length + 12) T_FactD.pair rfl rfl rfl (freshS_eq rfl) rfl rfl rfl rfl tE_78 tR_36 rfl rfl (Nat.le_trans (Nat.mul_le_mul_left _ hg10) (by decide)) (Nat.le_trans hg10 (by decide)) (fun g10 => (wl_sh [bagF T_FactD [] none, _] (fun _ h => h.bagNil T_FactD) (wl_sh [treeF T_FactD 36 3 (.slice (some ⟨g10,0, none⟩) 0 (l0.length + 12)) []] (fun _ h => h.treeIn 1 0 rfl rfl rfl rfl) (wP rfl (wl_nil (we_then (wc_keep [3,0] (S' := [_,_]) rfl (wc_seq ?_))))))))
 obtain ⟨bj_1, hm, hLj_1⟩ := bindO_some hm
 refine wc_cut (σ := (List FactDS) × (Option Addr) × Nat × Nat) (fun (j_1_3_l, j_1_3_p, j_1_3_c, j_1_3_n) => bj_1 = j_1_3_l) (fun (j_1_3_l, j_1_3_p, j_1_3_c, j_1_3_n) => [(3, .slice j_1_3_p j_1_3_n j_1_3_c), (0, .slice qp0 l0.length qc1)]) (fun (j_1_3_l, j_1_3_p, j_1_3_c, j_1_3_n) => [.sli 3 R_FactD qp0 qc1 l0]) (fun (j_1_3_l, j_1_3_p, j_1_3_c, j_1_3_n) => [treeF TS_FactD 36 3 (.slice j_1_3_p j_1_3_n j_1_3_c) j_1_3_l]) ?_ ?_
 ·
  refine wc_seq (wc_region (wP rfl (wl_nil (we_then (wc_block (wc_sh [treeF TS_FactD 36 3 (.slice (some ⟨g10,0, none⟩) 0 (l0.length + 12)) []] (fun _ h => h.treeKind TS_FactD 0 rfl) (wc_loop (σ := Nat × Nat × (List FactDS) × (Option Addr) × Nat × Nat) (fun (nu1, u1_4, u1_3_l, u1_3_p, u1_3_c, u1_3_n) => iter (m_ropewalkkit_LentFacts_L1 N l0) nu1 (u1_4, u1_3_l) = some bj_1) (fun (nu1, u1_4, u1_3_l, u1_3_p, u1_3_c, u1_3_n) => nu1) (fun (nu1, u1_4, u1_3_l, u1_3_p, u1_3_c, u1_3_n) => [(4, .int .i64 ((u1_4 : Nat) : Int)), (3, .slice u1_3_p u1_3_n u1_3_c), (0, .slice qp0 l0.length qc1)]) (fun (nu1, u1_4, u1_3_l, u1_3_p, u1_3_c, u1_3_n) => [.sli 3 R_FactD qp0 qc1 l0]) (fun (nu1, u1_4, u1_3_l, u1_3_p, u1_3_c, u1_3_n) => [treeF TS_FactD 36 3 (.slice u1_3_p u1_3_n u1_3_c) u1_3_l]) (N, 0,[], some ⟨g10,0, none⟩, l0.length + 12,0) hm [4,3,0] rfl (asK [0] rfl) rfl (fun s_ hm => ?_))))))))
  obtain ⟨nu1, u1_4, u1_3_l, u1_3_p, u1_3_c, u1_3_n⟩ := s_
  try dsimp only at hm ⊢
  obtain ⟨mu1, bu1, hnu1, hq, hLu1⟩ := iter_some hm
  clear hm
  subst hnu1
  replace hm := hq
  clear hq
  unfold m_ropewalkkit_LentFacts_L1 at hm
  try dsimp only at hm
  refine wc_seq (wc_seq (wc_region (wP rfl (wP rfl (wN rfl tE_78 (wP rfl (wl_as (d := 14) (v' := .bool (decide (u1_4 < l0.length))) (S' := [_,_,_,_,_,_]) rfl rfl (natlt (a := u1_4) (b := l0.length)) (wl_nil (we_then (wc_keep [14,4,3,0] (S' := [_,_,_,_]) rfl ?_))))))))))
  refine wc_cond rfl (fun hb14 => ?_) (fun hb14 => ?_)
  ·
   replace hm := iteT hm hb14
   refine wc_keep [4,3,0] (S' := [_,_,_]) rfl (wc_skip (we_then (wc_seq (wc_block (wc_seq (wc_region (wP rfl (wP rfl ?_))))))))
   obtain ⟨x19, hx19, hm⟩ := bindO_some hm
   refine wl_indexA 0 u1_4 rfl rfl rfl (freshS_eq rfl) rfl rfl rfl rfl rfl hx19 tE_78 tS_36 (fun b19 q19 cs19 hlx19 => (wl_open R_FactD_opens 1 rfl (fun r19 er19 _ => ?_)))
   subst er19
   refine wl_load 1 0 rfl rfl rfl (freshS_eq rfl) rfl rfl rfl (cs := [_,_,_]) rfl tS_36 tA_36 rfl rfl ?_
   obtain ⟨v21, hc21, hm⟩ := bindO_some hm
   refine wC [] [0] rfl fn_8 rfl (w_ropewalkkit_LentFact_s N x19.id x19.ty r19.1 r19.2 x19.args _ hc21) (asK [0] rfl) rfl (H' := [_]) rfl ?_
   rintro _ _ _ ⟨p21_0, c21_1, c21_2, rfl, rfl, rfl⟩
   refine wl_alloc rfl rfl rfl (freshS_eq rfl) rfl tZ_36 rfl (fun g5 => (wS 0 0 rfl tS_36 (all' := [_,_,_]) rfl (H' := [_,_,_]) rfl (wl_nil (we_then (wc_keep [5,4,3,0] (S' := [_,_,_,_]) rfl (wc_region (wP rfl (wl_loadH 0 0 rfl rfl rfl (freshS_eq rfl) rfl rfl rfl (cs := [_,_,_]) rfl tS_36 tA_36 rfl rfl (wl_buildSlice rfl rfl rfl (freshS_eq rfl) rfl tE_78 tS_36 tZ_36 rfl (zs := [.int .i64 0, .int .i64 0, .slice none 0 0]) (by kernel_rfl) rfl (out := [_,_,_]) rfl (fun g24 => (wl_treeLen 3 rfl (fun hzt8 _ => ?_))))))))))))
   subst hzt8
   refine wl_ownLen 2 rfl (fun hzc21_2 _ => ?_)
   subst hzc21_2
   obtain ⟨hzk23, hm⟩ := gd_some hm
   refine wl_hAs 2 (φ' := .own 27 3 R_V (.slice p21_0 ((v21.take x19.args.length ++ v21.drop x19.args.length).length) c21_1) (v21.take x19.args.length ++ v21.drop x19.args.length)) rfl (by rw [List.take_append_drop]) (H' := [_,_,_,_]) rfl (wl_at 1 (v' := .agg #[.int .i64 (x19.id), .int .i64 (x19.ty), .slice p21_0 ((v21.take x19.args.length).length) c21_1]) rfl (by rw [take_len hzk23]) (wl_hAs 0 (φ' := .blk g24 [.int .i64 (x19.id), .int .i64 (x19.ty), .slice p21_0 ((v21.take x19.args.length).length) c21_1] 36) rfl (by rw [take_len hzk23]) (H' := [_,_,_,_]) rfl (wl_hAs 1 (φ' := .blk g5 [.int .i64 (x19.id), .int .i64 (x19.ty), .slice p21_0 ((v21.take x19.args.length).length) c21_1] 36) rfl (by rw [take_len hzk23]) (H' := [_,_,_,_]) rfl (wl_treeOut 3 rfl (fun zz25 hzz25 => ?_)))))
   obtain ⟨hg25, hm⟩ := gd_some hm
   have hzs24 : List.map (fun x : FactDS × (Option Addr × Nat) => x.1) (zz25 ++ [((⟨x19.id, x19.ty, v21.take x19.args.length, v21.drop x19.args.length⟩ : FactDS), (p21_0, c21_1))]) = u1_3_l ++ [(⟨x19.id, x19.ty, v21.take x19.args.length, v21.drop x19.args.length⟩ : FactDS)] := pair_app hzz25 (us := [(⟨x19.id, x19.ty, v21.take x19.args.length, v21.drop x19.args.length⟩ : FactDS)]) rfl
   have hgl25 : zz25.length + ([((⟨x19.id, x19.ty, v21.take x19.args.length, v21.drop x19.args.length⟩ : FactDS), (p21_0, c21_1))] : List (FactDS × (Option Addr × Nat))).length ≤ 3518437208883 := by rw [pair_len hzz25]; exact hg25
   refine wl_appendH (R := TS_FactD.pair) ([((⟨x19.id, x19.ty, v21.take x19.args.length, v21.drop x19.args.length⟩ : FactDS), (p21_0, c21_1))]) 4 1 rfl rfl rfl (freshS_eq rfl) rfl rfl rfl rfl rfl (fun F w hφ => ⟨[.int .i64 (x19.id), .int .i64 (x19.ty), .slice p21_0 ((v21.take x19.args.length).length) c21_1],[], rfl, rfl, rfl, rfl⟩) tE_78 tR_36 rfl rfl (Nat.le_trans hgl25 (by decide)) (Nat.le_trans (Nat.mul_le_mul_right _ hgl25) (by decide)) (H2 := fun p25 c25 => [_,_,_,_, .own 36 3 TS_FactD.pair (.slice p25 ((zz25 ++ [((⟨x19.id, x19.ty, v21.take x19.args.length, v21.drop x19.args.length⟩ : FactDS), (p21_0, c21_1))]).length) c25) (zz25 ++ [((⟨x19.id, x19.ty, v21.take x19.args.length, v21.drop x19.args.length⟩ : FactDS), (p21_0, c21_1))])]) (fun _ _ => rfl) (fun p25 c25 => (wl_drop 1 rfl (H' := [_,_,_,_]) rfl (wl_as (d := 25) (v' := .slice p25 ((u1_3_l ++ [(⟨x19.id, x19.ty, v21.take x19.args.length, v21.drop x19.args.length⟩ : FactDS)]).length) c25) (S' := [_,_,_,_,_,_,_]) rfl rfl (by rw [pair_len hzs24]) (wl_hAs 3 (φ' := .own 36 3 TS_FactD.pair (.slice p25 ((u1_3_l ++ [(⟨x19.id, x19.ty, v21.take x19.args.length, v21.drop x19.args.length⟩ : FactDS)]).length) c25) (zz25 ++ [((⟨x19.id, x19.ty, v21.take x19.args.length, v21.drop x19.args.length⟩ : FactDS), (p21_0, c21_1))])) rfl (by rw [pair_len hzs24]) (H' := [_,_,_,_]) rfl (wl_pick [2,0,1,3] rfl (H' := [_,_,_,_]) rfl (wl_sh [bagF TS_FactD (zz25 ++ [((⟨x19.id, x19.ty, v21.take x19.args.length, v21.drop x19.args.length⟩ : FactDS), (p21_0, c21_1))]) none, _,_] (fun _ h => Holds.bagPush (T := TS_FactD) (x := (⟨x19.id, x19.ty, v21.take x19.args.length, v21.drop x19.args.length⟩ : FactDS)) (r := (p21_0, c21_1)) (zs := zz25) (H := [_,_,_]) h 0 rfl) (wl_sh [_, treeF TS_FactD 36 3 (.slice p25 ((u1_3_l ++ [(⟨x19.id, x19.ty, v21.take x19.args.length, v21.drop x19.args.length⟩ : FactDS)]).length) c25) (u1_3_l ++ [(⟨x19.id, x19.ty, v21.take x19.args.length, v21.drop x19.args.length⟩ : FactDS)])] (fun _ h => h.treeIn 2 0 rfl rfl rfl hzs24) (wl_pure (S' := [_,_,_,_,_,_,_]) rfl rfl rfl rfl rfl (wl_nil (we_block_normal (we_then (wc_keep [3,4,0] (S' := [_,_,_]) rfl (wc_region (wP rfl ?_))))))))))))))
   refine wP rfl ?_
   obtain ⟨hg16, hm⟩ := gd_some hm
   refine wl_as (d := 16) (v' := .int .i64 ((u1_4 + 1 : Nat) : Int)) (S' := [_,_,_,_]) rfl rfl (nat_add (a := u1_4) (b := 1) hg16) (wl_pure (S' := [_,_,_,_]) rfl rfl rfl rfl rfl (wl_nil ?_))
   have hE := (Option.some.inj hm).symm
   replace hE := link_inl hLu1 hE
   refine we_pick [1] rfl (H' := [_]) rfl ?_
   refine we_roundK (_, u1_4 + 1, (u1_3_l ++ [(⟨x19.id, x19.ty, v21.take x19.args.length, v21.drop x19.args.length⟩ : FactDS)]), p25, c25, ((u1_3_l ++ [(⟨x19.id, x19.ty, v21.take x19.args.length, v21.drop x19.args.length⟩ : FactDS)]).length)) (Nat.lt_succ_self _) hE [4,3,0] rfl (asK [3] rfl) rfl
  ·
   replace hm := iteF hm hb14
   refine wc_keep [3,0] (S' := [_,_]) rfl (wc_exit (we_then_exit (we_then_exit (we_block_hit ?_))))
   have hE := (Option.some.inj hm).symm
   replace hE := link_inr hLu1 hE
   refine we_join (u1_3_l, u1_3_p, u1_3_c, u1_3_n) hE [3,0] rfl (asK [0] rfl) rfl
 ·
  rintro ⟨j_1_3_l, j_1_3_p, j_1_3_c, j_1_3_n⟩ hE
  try dsimp only
  have hm := hLj_1
  rw [hE] at hm
  refine wc_seq ?_
  obtain ⟨bj_2, hm, hLj_2⟩ := bindO_some hm
  refine wc_cut (σ := (List FactDS) × (Option Addr) × Nat × Nat) (fun (j_2_3_l, j_2_3_p, j_2_3_c, j_2_3_n) => bj_2 = j_2_3_l) (fun (j_2_3_l, j_2_3_p, j_2_3_c, j_2_3_n) => [(3, .slice j_2_3_p j_2_3_n j_2_3_c), (0, .slice qp0 l0.length qc1)]) (fun (j_2_3_l, j_2_3_p, j_2_3_c, j_2_3_n) => [.sli 3 R_FactD qp0 qc1 l0]) (fun (j_2_3_l, j_2_3_p, j_2_3_c, j_2_3_n) => [treeF TS_FactD 36 3 (.slice j_2_3_p j_2_3_n j_2_3_c) j_2_3_l]) ?_ ?_
  ·
   refine wc_seq (wc_region (wP rfl (wl_nil (we_then (wc_block (wc_loop (σ := Nat × Nat × (List FactDS) × (Option Addr) × Nat × Nat) (fun (nu2, u2_6, u2_3_l, u2_3_p, u2_3_c, u2_3_n) => iter (m_ropewalkkit_LentFacts_L2 N) nu2 (u2_6, u2_3_l) = some bj_2) (fun (nu2, u2_6, u2_3_l, u2_3_p, u2_3_c, u2_3_n) => nu2) (fun (nu2, u2_6, u2_3_l, u2_3_p, u2_3_c, u2_3_n) => [(6, .int .i64 ((u2_6 : Nat) : Int)), (3, .slice u2_3_p u2_3_n u2_3_c), (0, .slice qp0 l0.length qc1)]) (fun (nu2, u2_6, u2_3_l, u2_3_p, u2_3_c, u2_3_n) => [.sli 3 R_FactD qp0 qc1 l0]) (fun (nu2, u2_6, u2_3_l, u2_3_p, u2_3_c, u2_3_n) => [treeF TS_FactD 36 3 (.slice u2_3_p u2_3_n u2_3_c) u2_3_l]) (N, 0, j_1_3_l, j_1_3_p, j_1_3_c, j_1_3_n) hm [6,3,0] rfl (asK [0] rfl) rfl (fun s_ hm => ?_)))))))
   obtain ⟨nu2, u2_6, u2_3_l, u2_3_p, u2_3_c, u2_3_n⟩ := s_
   try dsimp only at hm ⊢
   obtain ⟨mu2, bu2, hnu2, hq, hLu2⟩ := iter_some hm
   clear hm
   subst hnu2
   replace hm := hq
   clear hq
   unfold m_ropewalkkit_LentFacts_L2 at hm
   try dsimp only at hm
   refine wc_seq (wc_seq (wc_region (wP rfl (wP rfl (wl_as (d := 27) (v' := .bool (decide (u2_6 < 12))) (S' := [_,_,_,_]) rfl rfl (natlt (a := u2_6) (b := 12)) (wl_nil (we_then (wc_keep [27,6,3,0] (S' := [_,_,_,_]) rfl ?_))))))))
   refine wc_cond rfl (fun hb27 => ?_) (fun hb27 => ?_)
   ·
    replace hm := iteT hm hb27
    refine wc_keep [6,3,0] (S' := [_,_,_]) rfl (wc_skip (we_then (wc_seq (wc_block (wc_region (wP rfl (wP rfl ?_)))))))
    obtain ⟨_, hc32, hm⟩ := bindO_some hm
    try dsimp only at hm
    refine wC [] [0] rfl fn_50 rfl (w_ropewalkkit_markFact_s N 1 ((u2_6 : Nat) : Int) hc32) (asK [] rfl) rfl (H' := [_]) rfl ?_
    rintro _ _ _ ⟨rfl, rfl, rfl⟩
    refine wl_buildSlice rfl rfl rfl (freshS_eq rfl) rfl tE_78 tS_36 tZ_36 rfl (zs := [.int .i64 0, .int .i64 0, .slice none 0 0]) (by kernel_rfl) rfl (out := [_,_,_]) rfl (fun g33 => (wl_treeLen 1 rfl (fun hzt16 _ => ?_)))
    subst hzt16
    refine wl_rowNil 27 3 R_V (wl_hAs 0 (φ' := .own 27 3 R_V (.slice none ((([] : List V) ++ []).length) 0) (([] : List V) ++ [])) rfl rfl (H' := [_,_,_]) rfl (wl_treeOut 2 rfl (fun zz34 hzz34 => ?_)))
    obtain ⟨hg34, hm⟩ := gd_some hm
    have hzs24 : List.map (fun x : FactDS × (Option Addr × Nat) => x.1) (zz34 ++ [((⟨(IntKind.wrap .i64 ((IntKind.wrap .i64 (1000003 * (IntKind.wrap .i64 (1 + 7)))) + ((u2_6 : Nat) : Int))), 0, ([] : List V), []⟩ : FactDS), (none, 0))]) = u2_3_l ++ [(⟨(IntKind.wrap .i64 ((IntKind.wrap .i64 (1000003 * (IntKind.wrap .i64 (1 + 7)))) + ((u2_6 : Nat) : Int))), 0, ([] : List V), []⟩ : FactDS)] := pair_app hzz34 (us := [(⟨(IntKind.wrap .i64 ((IntKind.wrap .i64 (1000003 * (IntKind.wrap .i64 (1 + 7)))) + ((u2_6 : Nat) : Int))), 0, ([] : List V), []⟩ : FactDS)]) rfl
    have hgl34 : zz34.length + ([((⟨(IntKind.wrap .i64 ((IntKind.wrap .i64 (1000003 * (IntKind.wrap .i64 (1 + 7)))) + ((u2_6 : Nat) : Int))), 0, ([] : List V), []⟩ : FactDS), (none, 0))] : List (FactDS × (Option Addr × Nat))).length ≤ 3518437208883 := by rw [pair_len hzz34]; exact hg34
    refine wl_appendH (R := TS_FactD.pair) ([((⟨(IntKind.wrap .i64 ((IntKind.wrap .i64 (1000003 * (IntKind.wrap .i64 (1 + 7)))) + ((u2_6 : Nat) : Int))), 0, ([] : List V), []⟩ : FactDS), (none, 0))]) 3 2 rfl rfl rfl (freshS_eq rfl) rfl rfl rfl rfl rfl (fun F w hφ => ⟨[.int .i64 (IntKind.wrap .i64 ((IntKind.wrap .i64 (1000003 * (IntKind.wrap .i64 (1 + 7)))) + ((u2_6 : Nat) : Int))), .int .i64 0, .slice none 0 0],[], rfl, rfl, rfl, rfl⟩) tE_78 tR_36 rfl rfl (Nat.le_trans hgl34 (by decide)) (Nat.le_trans (Nat.mul_le_mul_right _ hgl34) (by decide)) (H2 := fun p34 c34 => [_,_,_, .own 36 3 TS_FactD.pair (.slice p34 ((zz34 ++ [((⟨(IntKind.wrap .i64 ((IntKind.wrap .i64 (1000003 * (IntKind.wrap .i64 (1 + 7)))) + ((u2_6 : Nat) : Int))), 0, ([] : List V), []⟩ : FactDS), (none, 0))]).length) c34) (zz34 ++ [((⟨(IntKind.wrap .i64 ((IntKind.wrap .i64 (1000003 * (IntKind.wrap .i64 (1 + 7)))) + ((u2_6 : Nat) : Int))), 0, ([] : List V), []⟩ : FactDS), (none, 0))])]) (fun _ _ => rfl) (fun p34 c34 => (wl_drop 2 rfl (H' := [_,_,_]) rfl (wl_as (d := 34) (v' := .slice p34 ((u2_3_l ++ [(⟨(IntKind.wrap .i64 ((IntKind.wrap .i64 (1000003 * (IntKind.wrap .i64 (1 + 7)))) + ((u2_6 : Nat) : Int))), 0, ([] : List V), []⟩ : FactDS)]).length) c34) (S' := [_,_,_,_,_,_,_]) rfl rfl (by rw [pair_len hzs24]) (wl_hAs 2 (φ' := .own 36 3 TS_FactD.pair (.slice p34 ((u2_3_l ++ [(⟨(IntKind.wrap .i64 ((IntKind.wrap .i64 (1000003 * (IntKind.wrap .i64 (1 + 7)))) + ((u2_6 : Nat) : Int))), 0, ([] : List V), []⟩ : FactDS)]).length) c34) (zz34 ++ [((⟨(IntKind.wrap .i64 ((IntKind.wrap .i64 (1000003 * (IntKind.wrap .i64 (1 + 7)))) + ((u2_6 : Nat) : Int))), 0, ([] : List V), []⟩ : FactDS), (none, 0))])) rfl (by rw [pair_len hzs24]) (H' := [_,_,_]) rfl (wl_pick [1,0,2] rfl (H' := [_,_,_]) rfl (wl_sh [bagF TS_FactD (zz34 ++ [((⟨(IntKind.wrap .i64 ((IntKind.wrap .i64 (1000003 * (IntKind.wrap .i64 (1 + 7)))) + ((u2_6 : Nat) : Int))), 0, ([] : List V), []⟩ : FactDS), (none, 0))]) none, _] (fun _ h => Holds.bagPush (T := TS_FactD) (x := (⟨(IntKind.wrap .i64 ((IntKind.wrap .i64 (1000003 * (IntKind.wrap .i64 (1 + 7)))) + ((u2_6 : Nat) : Int))), 0, ([] : List V), []⟩ : FactDS)) (r := (none, 0)) (zs := zz34) (H := [_,_]) h 0 rfl) (wl_sh [treeF TS_FactD 36 3 (.slice p34 ((u2_3_l ++ [(⟨(IntKind.wrap .i64 ((IntKind.wrap .i64 (1000003 * (IntKind.wrap .i64 (1 + 7)))) + ((u2_6 : Nat) : Int))), 0, ([] : List V), []⟩ : FactDS)]).length) c34) (u2_3_l ++ [(⟨(IntKind.wrap .i64 ((IntKind.wrap .i64 (1000003 * (IntKind.wrap .i64 (1 + 7)))) + ((u2_6 : Nat) : Int))), 0, ([] : List V), []⟩ : FactDS)])] (fun _ h => h.treeIn 1 0 rfl rfl rfl hzs24) (wl_pure (S' := [_,_,_,_,_,_,_]) rfl rfl rfl rfl rfl (wl_nil (we_block_normal (we_then (wc_keep [3,6,0] (S' := [_,_,_]) rfl (wc_region (wP rfl ?_))))))))))))))
    refine wP rfl ?_
    obtain ⟨hg29, hm⟩ := gd_some hm
    refine wl_as (d := 29) (v' := .int .i64 ((u2_6 + 1 : Nat) : Int)) (S' := [_,_,_,_]) rfl rfl (nat_add (a := u2_6) (b := 1) hg29) (wl_pure (S' := [_,_,_,_]) rfl rfl rfl rfl rfl (wl_nil ?_))
    have hE := (Option.some.inj hm).symm
    replace hE := link_inl hLu2 hE
    refine we_roundK (_, u2_6 + 1, (u2_3_l ++ [(⟨(IntKind.wrap .i64 ((IntKind.wrap .i64 (1000003 * (IntKind.wrap .i64 (1 + 7)))) + ((u2_6 : Nat) : Int))), 0, ([] : List V), []⟩ : FactDS)]), p34, c34, ((u2_3_l ++ [(⟨(IntKind.wrap .i64 ((IntKind.wrap .i64 (1000003 * (IntKind.wrap .i64 (1 + 7)))) + ((u2_6 : Nat) : Int))), 0, ([] : List V), []⟩ : FactDS)]).length)) (Nat.lt_succ_self _) hE [6,3,0] rfl (asK [0] rfl) rfl
   ·
    replace hm := iteF hm hb27
    refine wc_keep [3,0] (S' := [_,_]) rfl (wc_exit (we_then_exit (we_then_exit (we_block_hit ?_))))
    have hE := (Option.some.inj hm).symm
    replace hE := link_inr hLu2 hE
    refine we_join (u2_3_l, u2_3_p, u2_3_c, u2_3_n) hE [3,0] rfl (asK [0] rfl) rfl
  ·
   rintro ⟨j_2_3_l, j_2_3_p, j_2_3_c, j_2_3_n⟩ hE
   try dsimp only
   have hm := hLj_2
   rw [hE] at hm
   refine wc_seq (wc_region (wP rfl (wP rfl (wN rfl tE_78 ?_))))
   obtain ⟨hg38, hm⟩ := gd_some hm
   refine wl_treeOut 0 rfl (fun zz38 hzz38 => ?_)
   have hgt38 : l0.length ≤ zz38.length := by rw [pair_len hzz38]; exact hg38
   refine wl_ownSpot 1 rfl (fun hsp38 hcm38 => (wl_sliceTo rfl rfl rfl (freshS_eq rfl) rfl rfl rfl rfl tE_78 tS_36 (Nat.le_trans hgt38 (by rw [← hcm38.2]; exact hcm38.1)) hsp38 (wP rfl (wl_nil (we_then (wc_keep [2] (S' := [_]) rfl (wc_ret ?_)))))))
   have hE := (Option.some.inj hm).symm
   replace hE := hE.symm
   subst hE
   refine we_sh [treeF TS_FactD 36 3 (.slice j_2_3_p j_2_3_n j_2_3_c) j_2_3_l] (fun _ h => h.treeIn 1 0 rfl rfl rfl hzz38) ?_
   refine ret_one (Hr := [_]) [0] Tryz.results36 (res_tmp rfl) ⟨j_2_3_p, j_2_3_c, j_2_3_n, rfl, rfl, rfl⟩ (asK [] rfl) rfl rfl (.inl rfl)
theorem w_pattern_Some_1_s (N : Nat) (a0 : Int) (a1 : Int) (qp0 : Option Addr) (qc1 : Nat) (l2 : List V) (qg2 : Nat) (a3 : Int) (a4 : Int) (qp3 : Option Addr) (qc4 : Nat) (l5 : List ArgD) (a6 : Int) (a7 : Int) (a8 : Int) (a9 : ByteArray) (a10 : Int) (a11 : Int) (qp5 : Option Addr) (qc6 : Nat) (l12 : List Api_ExprD) (qg7 : Nat) (qp8 : Option Addr) (qc9 : Nat) (l13 : List Bool) (qp10 : Option Addr) (qc11 : Nat) (l14 : List V) (o0 : Bool) (hm : m_pattern_Some_1 N a0 a1 l2 a3 a4 l5 a6 a7 a8 a9 a10 a11 l12 l13 l14 = some o0) : Spec Tryz.prog 52 [.agg #[.int .i64 a0, .int .i64 a1, .slice qp0 l2.length qc1], .pointer (some ⟨qg2,0, none⟩), .pointer (some ⟨qg7,0, none⟩)] [.sli 3 R_V qp0 qc1 l2, .sli 5 R_ArgD qp3 qc4 l5, .sli 7 R_Api_ExprD qp5 qc6 l12, .sli 1 R_bool qp8 qc9 l13, .sli 3 R_V qp10 qc11 l14] [.blk qg2 [.int .u8 a3, .int .i64 a4, .slice qp3 l5.length qc4, .int .u8 a6, .int .u8 a7, .int .i64 a8, .string a9, .int .i64 a10, .int .u8 a11, .slice qp5 l12.length qc6] 33, .blk qg7 [.slice qp8 l13.length qc9, .slice qp10 l14.length qc11] 44] (fun v Φr Hr => v = .bool o0 ∧ Φr = [.sli 5 R_ArgD qp3 qc4 l5, .sli 7 R_Api_ExprD qp5 qc6 l12, .sli 1 R_bool qp8 qc9 l13, .sli 3 R_V qp10 qc11 l14] ∧ Hr = [.blk qg2 [.int .u8 a3, .int .i64 a4, .slice qp3 l5.length qc4, .int .u8 a6, .int .u8 a7, .int .i64 a8, .string a9, .int .i64 a10, .int .u8 a11, .slice qp5 l12.length qc6] 33, .blk qg7 [.slice qp8 l13.length qc9, .slice qp10 l14.length qc11] 44]) := by
 unfold m_pattern_Some_1 at hm
 refine spec_of Tryz.func52 rfl Tryz.ntmps52 rfl (S := [_,_,_]) rfl (fun C => (wc_seq (wc_region (wB rfl (fun g3 => (wP rfl (wl_nil (we_then (wc_keep [3,1,2] (S' := [_,_,_]) rfl (wc_seq (wc_region (wl_loadH 1 0 rfl rfl rfl (freshS_eq rfl) rfl rfl rfl (cs := [_,_,_,_,_,_,_,_,_,_]) rfl tS_33 tA_33 rfl rfl (wl_loadH 0 0 rfl rfl rfl (freshS_eq rfl) rfl rfl rfl (cs := [_,_,_]) rfl tS_36 tA_36 rfl rfl (wl_loadH 2 0 rfl rfl rfl (freshS_eq rfl) rfl rfl rfl (cs := [_,_]) rfl tS_44 tA_44 rfl rfl ?_))))))))))))))
 obtain ⟨⟨v11_0, v11_1, v11_2⟩, hc11, hm⟩ := bindO_some hm
 try dsimp only at hm
 refine wC [] [0,1,2] rfl fn_10 rfl (w_pattern_Match_s N a3 a4 qp3 qc4 l5 a6 a7 a8 a9 a10 a11 qp5 qc6 l12 a0 a1 qp0 qc1 l2 qp8 qc9 l13 qp10 qc11 l14 _ _ _ hc11) (asK [1,2,0,3,4] rfl) rfl (H' := [_,_,_]) rfl ?_
 rintro _ _ _ ⟨p11_0, c11_1, c11_2, p11_3, c11_4, c11_5, rfl, rfl, rfl⟩
 refine wP rfl (wP rfl (wP rfl (wl_alloc rfl rfl rfl (freshS_eq rfl) rfl tZ_44 rfl (fun g5 => (wS 0 0 rfl tS_44 (all' := [_,_]) rfl (H' := [_,_,_,_,_,_]) rfl (wP rfl (wl_nil (we_then (wc_keep [6] (S' := [_]) rfl (wc_seq (wc_region (wP rfl (wP rfl (wl_nil ?_))))))))))))))
 refine we_then (wc_keep [4] (S' := [_]) rfl (wc_ret ?_))
 have hE := (Option.some.inj hm).symm
 replace hE := hE.symm
 subst hE
 refine ret_one (Hr := [_,_]) [4,5] Tryz.results52 (res_tmp rfl) ⟨rfl, rfl, rfl⟩ (asK [1,2,3,4] rfl) rfl rfl (.inl rfl)
theorem w_slices_IndexFunc_Fact_s (N : Nat) (qp0 : Option Addr) (qc1 : Nat) (l0 : List FactD) (qg2 : Nat) (a1 : Int) (a2 : Int) (qp3 : Option Addr) (qc4 : Nat) (l3 : List ArgD) (a4 : Int) (a5 : Int) (a6 : Int) (a7 : ByteArray) (a8 : Int) (a9 : Int) (qp5 : Option Addr) (qc6 : Nat) (l10 : List Api_ExprD) (qg7 : Nat) (qp8 : Option Addr) (qc9 : Nat) (l11 : List Bool) (qp10 : Option Addr) (qc11 : Nat) (l12 : List V) (o0 : Int) (hm : m_slices_IndexFunc_Fact N l0 a1 a2 l3 a4 a5 a6 a7 a8 a9 l10 l11 l12 = some o0) : Spec Tryz.prog 84 [.slice qp0 l0.length qc1, .func (.func 52) #[] #[.pointer (some ⟨qg2,0, none⟩), .pointer (some ⟨qg7,0, none⟩)]] [.sli 3 R_FactD qp0 qc1 l0, .sli 5 R_ArgD qp3 qc4 l3, .sli 7 R_Api_ExprD qp5 qc6 l10, .sli 1 R_bool qp8 qc9 l11, .sli 3 R_V qp10 qc11 l12] [.blk qg2 [.int .u8 a1, .int .i64 a2, .slice qp3 l3.length qc4, .int .u8 a4, .int .u8 a5, .int .i64 a6, .string a7, .int .i64 a8, .int .u8 a9, .slice qp5 l10.length qc6] 33, .blk qg7 [.slice qp8 l11.length qc9, .slice qp10 l12.length qc11] 44] (fun v Φr Hr => v = .int .i64 o0 ∧ Φr = [.sli 5 R_ArgD qp3 qc4 l3, .sli 7 R_Api_ExprD qp5 qc6 l10, .sli 1 R_bool qp8 qc9 l11, .sli 3 R_V qp10 qc11 l12] ∧ Hr = [.blk qg2 [.int .u8 a1, .int .i64 a2, .slice qp3 l3.length qc4, .int .u8 a4, .int .u8 a5, .int .i64 a6, .string a7, .int .i64 a8, .int .u8 a9, .slice qp5 l10.length qc6] 33, .blk qg7 [.slice qp8 l11.length qc9, .slice qp10 l12.length qc11] 44]) := by
 unfold m_slices_IndexFunc_Fact at hm
 refine spec_of Tryz.func84 rfl Tryz.ntmps84 rfl (S := [_,_]) rfl (fun C => (wc_seq (wc_region (wP rfl (wl_nil (we_then (wc_keep [0,1] (S' := [_,_]) rfl (wc_seq ?_))))))))
 obtain ⟨bj_1, hm, hLj_1⟩ := bindS_some hm
 refine wc_cut (σ := Unit) (fun _ => bj_1 = .inl ()) (fun _ => []) (fun _ => [.sli 5 R_ArgD qp3 qc4 l3, .sli 7 R_Api_ExprD qp5 qc6 l10, .sli 1 R_bool qp8 qc9 l11, .sli 3 R_V qp10 qc11 l12]) (fun _ => [.blk qg2 [.int .u8 a1, .int .i64 a2, .slice qp3 l3.length qc4, .int .u8 a4, .int .u8 a5, .int .i64 a6, .string a7, .int .i64 a8, .int .u8 a9, .slice qp5 l10.length qc6] 33, .blk qg7 [.slice qp8 l11.length qc9, .slice qp10 l12.length qc11] 44]) ?_ ?_
 ·
  refine wc_seq (wc_region (wP rfl (wN rfl tE_78 (wP rfl (wl_nil (we_then (wc_keep [8,7,0,1] (S' := [_,_,_,_]) rfl (wc_block (wc_loop (σ := Nat × Nat) (fun (nu1, u1_8) => iter (m_slices_IndexFunc_Fact_L1 N l0 a1 a2 l3 a4 a5 a6 a7 a8 a9 l10 l11 l12) nu1 u1_8 = some bj_1) (fun (nu1, u1_8) => nu1) (fun (nu1, u1_8) => [(8, .int .i64 ((u1_8 : Nat) : Int)), (7, .int .i64 ((l0.length : Nat) : Int)), (0, .slice qp0 l0.length qc1), (1, .func (.func 52) #[] #[.pointer (some ⟨qg2,0, none⟩), .pointer (some ⟨qg7,0, none⟩)])]) (fun (nu1, u1_8) => [.sli 3 R_FactD qp0 qc1 l0, .sli 5 R_ArgD qp3 qc4 l3, .sli 7 R_Api_ExprD qp5 qc6 l10, .sli 1 R_bool qp8 qc9 l11, .sli 3 R_V qp10 qc11 l12]) (fun (nu1, u1_8) => [.blk qg2 [.int .u8 a1, .int .i64 a2, .slice qp3 l3.length qc4, .int .u8 a4, .int .u8 a5, .int .i64 a6, .string a7, .int .i64 a8, .int .u8 a9, .slice qp5 l10.length qc6] 33, .blk qg7 [.slice qp8 l11.length qc9, .slice qp10 l12.length qc11] 44]) (N, 0) hm [8,7,0,1] rfl (asK [0,1,2,3,4] rfl) rfl (fun s_ hm => ?_))))))))))
  obtain ⟨nu1, u1_8⟩ := s_
  try dsimp only at hm ⊢
  obtain ⟨mu1, bu1, hnu1, hq, hLu1⟩ := iter_some hm
  clear hm
  subst hnu1
  replace hm := hq
  clear hq
  unfold m_slices_IndexFunc_Fact_L1 at hm
  try dsimp only at hm
  refine wc_seq (wc_region (wP rfl (wl_as (d := 9) (v' := .bool (decide (u1_8 < l0.length))) (S' := [_,_,_,_]) rfl rfl (natlt (a := u1_8) (b := l0.length)) (wl_nil (we_then (wc_seq ?_))))))
  refine wc_cond rfl (fun hb9 => ?_) (fun hb9 => ?_)
  ·
   replace hm := iteT hm hb9
   refine wc_keep [8,7,0,1] (S' := [_,_,_,_]) rfl (wc_skip (we_then (wc_seq (wc_block (wc_seq (wc_region (wP rfl (wP rfl (wl_nil (we_then (wc_keep [5,8,7,0,1] (S' := [_,_,_,_,_]) rfl (wc_seq (wc_region ?_)))))))))))))
   refine wP rfl (wP rfl (wP rfl ?_))
   obtain ⟨x14, hx14, hm⟩ := bindO_some hm
   refine wl_indexA 0 u1_8 rfl rfl rfl (freshS_eq rfl) rfl rfl rfl rfl rfl hx14 tE_78 tS_36 (fun b14 q14 cs14 hlx14 => (wl_open R_FactD_opens 1 rfl (fun r14 er14 _ => ?_)))
   subst er14
   refine wl_load 1 0 rfl rfl rfl (freshS_eq rfl) rfl rfl rfl (cs := [_,_,_]) rfl tS_36 tA_36 rfl rfl ?_
   obtain ⟨v16, hc16, hm⟩ := bindO_some hm
   refine wl_callDyn [0,1] [] rfl rfl rfl (freshS_eq rfl) rfl rfl rfl fn_52 rfl rfl (w_pattern_Some_1_s N x14.id x14.ty r14.1 r14.2 x14.args qg2 a1 a2 qp3 qc4 l3 a4 a5 a6 a7 a8 a9 qp5 qc6 l10 qg7 qp8 qc9 l11 qp10 qc11 l12 _ hc16) (asK [0,4,5,6,7] rfl) rfl (H' := []) rfl ?_
   rintro _ _ _ ⟨rfl, rfl, rfl⟩
   refine wl_nil (we_then (wc_keep [16,5,8,7,0,1] (S' := [_,_,_,_,_,_]) rfl ?_))
   refine wc_cond rfl (fun hb16 => ?_) (fun hb16 => ?_)
   ·
    replace hm := iteT hm hb16
    refine wc_keep [5] (S' := [_]) rfl (wc_seq (wc_region (wP rfl (wP rfl (wl_nil (we_then (wc_keep [4] (S' := [_]) rfl (wc_ret (we_block_ret (we_then_ret (we_then_ret (we_block_ret (we_then_ret ?_)))))))))))))
    have hE := (Option.some.inj hm).symm
    replace hE := link_inr hLu1 hE
    replace hE := link_inr hLj_1 hE
    replace hE := hE.symm
    subst hE
    refine ret_one (Hr := [_,_]) [0,1] Tryz.results84 (res_tmp rfl) ⟨rfl, rfl, rfl⟩ (asK [0,1,2,3] rfl) rfl rfl (.inl rfl)
   ·
    replace hm := iteF hm hb16
    refine wc_keep [8,7,0,1] (S' := [_,_,_,_]) rfl (wc_skip (we_block_normal (we_then (wc_region (wP rfl ?_)))))
    obtain ⟨hg18, hm⟩ := gd_some hm
    refine wl_as (d := 18) (v' := .int .i64 ((u1_8 + 1 : Nat) : Int)) (S' := [_,_,_,_]) rfl rfl (nat_add (a := u1_8) (b := 1) hg18) (wl_pure (S' := [_,_,_,_]) rfl rfl rfl rfl rfl (wl_nil ?_))
    have hE := (Option.some.inj hm).symm
    replace hE := link_inl hLu1 hE
    refine we_roundK (_, u1_8 + 1) (Nat.lt_succ_self _) hE [8,7,0,1] rfl (asK [7,0,1,2,3] rfl) rfl
  ·
   replace hm := iteF hm hb9
   refine wc_keep [] (S' := []) rfl (wc_exit (we_then_exit (we_then_exit (we_block_hit ?_))))
   have hE := (Option.some.inj hm).symm
   replace hE := link_inr hLu1 hE
   refine we_join () hE [] rfl (asK [1,2,3,4] rfl) rfl
 ·
  rintro _ hE
  try dsimp only
  have hm := link_inl hLj_1 hE
  try dsimp only at hm
  refine wc_seq (wc_region (wP rfl (wl_nil (we_then (wc_ret ?_)))))
  have hE := (Option.some.inj hm).symm
  replace hE := hE.symm
  subst hE
  refine ret_one (Hr := [_,_]) [0,1] Tryz.results84 (res_tmp rfl) ⟨rfl, rfl, rfl⟩ (asK [0,1,2,3] rfl) rfl rfl (.inl rfl)
theorem w_slices_ContainsFunc_Fact_s (N : Nat) (qp0 : Option Addr) (qc1 : Nat) (l0 : List FactD) (qg2 : Nat) (a1 : Int) (a2 : Int) (qp3 : Option Addr) (qc4 : Nat) (l3 : List ArgD) (a4 : Int) (a5 : Int) (a6 : Int) (a7 : ByteArray) (a8 : Int) (a9 : Int) (qp5 : Option Addr) (qc6 : Nat) (l10 : List Api_ExprD) (qg7 : Nat) (qp8 : Option Addr) (qc9 : Nat) (l11 : List Bool) (qp10 : Option Addr) (qc11 : Nat) (l12 : List V) (o0 : Bool) (hm : m_slices_ContainsFunc_Fact N l0 a1 a2 l3 a4 a5 a6 a7 a8 a9 l10 l11 l12 = some o0) : Spec Tryz.prog 51 [.slice qp0 l0.length qc1, .func (.func 52) #[] #[.pointer (some ⟨qg2,0, none⟩), .pointer (some ⟨qg7,0, none⟩)]] [.sli 3 R_FactD qp0 qc1 l0, .sli 5 R_ArgD qp3 qc4 l3, .sli 7 R_Api_ExprD qp5 qc6 l10, .sli 1 R_bool qp8 qc9 l11, .sli 3 R_V qp10 qc11 l12] [.blk qg2 [.int .u8 a1, .int .i64 a2, .slice qp3 l3.length qc4, .int .u8 a4, .int .u8 a5, .int .i64 a6, .string a7, .int .i64 a8, .int .u8 a9, .slice qp5 l10.length qc6] 33, .blk qg7 [.slice qp8 l11.length qc9, .slice qp10 l12.length qc11] 44] (fun v Φr Hr => v = .bool o0 ∧ Φr = [.sli 5 R_ArgD qp3 qc4 l3, .sli 7 R_Api_ExprD qp5 qc6 l10, .sli 1 R_bool qp8 qc9 l11, .sli 3 R_V qp10 qc11 l12] ∧ Hr = [.blk qg2 [.int .u8 a1, .int .i64 a2, .slice qp3 l3.length qc4, .int .u8 a4, .int .u8 a5, .int .i64 a6, .string a7, .int .i64 a8, .int .u8 a9, .slice qp5 l10.length qc6] 33, .blk qg7 [.slice qp8 l11.length qc9, .slice qp10 l12.length qc11] 44]) := by
 unfold m_slices_ContainsFunc_Fact at hm
 refine spec_of Tryz.func51 rfl Tryz.ntmps51 rfl (S := [_,_]) rfl (fun C => (wc_seq (wc_region (wP rfl (wl_nil (we_then (wc_keep [0,1] (S' := [_,_]) rfl (wc_seq (wc_region (wP rfl (wP rfl ?_)))))))))))
 obtain ⟨v7, hc7, hm⟩ := bindO_some hm
 refine wC [0,1] [] rfl fn_84 rfl (w_slices_IndexFunc_Fact_s N qp0 qc1 l0 qg2 a1 a2 qp3 qc4 l3 a4 a5 a6 a7 a8 a9 qp5 qc6 l10 qg7 qp8 qc9 l11 qp10 qc11 l12 _ hc7) (asK [0,1,2,3,4] rfl) rfl (H' := []) rfl ?_
 rintro _ _ _ ⟨rfl, rfl, rfl⟩
 refine wP rfl (wP rfl (wl_nil (we_then (wc_keep [4] (S' := [_]) rfl (wc_ret ?_)))))
 have hE := (Option.some.inj hm).symm
 replace hE := hE.symm
 subst hE
 refine ret_one (Hr := [_,_]) [0,1] Tryz.results51 (res_tmp rfl) ⟨rfl, rfl, rfl⟩ (asK [0,1,2,3] rfl) rfl rfl (.inl rfl)
theorem w_pattern_Some_s (N : Nat) (a0 : Int) (a1 : Int) (qp0 : Option Addr) (qc1 : Nat) (l2 : List ArgD) (a3 : Int) (a4 : Int) (a5 : Int) (a6 : ByteArray) (a7 : Int) (a8 : Int) (qp2 : Option Addr) (qc3 : Nat) (l9 : List Api_ExprD) (qp4 : Option Addr) (qc5 : Nat) (l10 : List Bool) (qp6 : Option Addr) (qc7 : Nat) (l11 : List V) (qp8 : Option Addr) (qc9 : Nat) (l12 : List FactD) (o0 : Bool) (hm : m_pattern_Some N a0 a1 l2 a3 a4 a5 a6 a7 a8 l9 l10 l11 l12 = some o0) : Spec Tryz.prog 37 [.agg #[.int .u8 a0, .int .i64 a1, .slice qp0 l2.length qc1, .int .u8 a3, .int .u8 a4, .int .i64 a5, .string a6, .int .i64 a7, .int .u8 a8, .slice qp2 l9.length qc3], .agg #[.slice qp4 l10.length qc5, .slice qp6 l11.length qc7], .slice qp8 l12.length qc9] [.sli 5 R_ArgD qp0 qc1 l2, .sli 7 R_Api_ExprD qp2 qc3 l9, .sli 1 R_bool qp4 qc5 l10, .sli 3 R_V qp6 qc7 l11, .sli 3 R_FactD qp8 qc9 l12] [] (fun v Φr Hr => v = .bool o0 ∧ Φr = [] ∧ Hr = []) := by
 unfold m_pattern_Some at hm
 refine spec_of Tryz.func37 rfl Tryz.ntmps37 rfl (S := [_,_,_]) rfl (fun C => (wc_seq (wc_region (wB rfl (fun g3 => (wB rfl (fun g4 => (wP rfl (wl_nil (we_then (wc_keep [4,3,2] (S' := [_,_,_]) rfl (wc_seq (wc_region (wP rfl (wl_makeFunc rfl rfl rfl (freshS_eq rfl) rfl rfl ?_)))))))))))))))
 obtain ⟨v9, hc9, hm⟩ := bindO_some hm
 refine wC [1,0] [] rfl fn_51 rfl (w_slices_ContainsFunc_Fact_s N qp8 qc9 l12 g3 a0 a1 qp0 qc1 l2 a3 a4 a5 a6 a7 a8 qp2 qc3 l9 g4 qp4 qc5 l10 qp6 qc7 l11 _ hc9) (asK [4,0,1,2,3] rfl) rfl (H' := []) rfl ?_
 rintro _ _ _ ⟨rfl, rfl, rfl⟩
 refine wP rfl (wl_nil (we_then (wc_keep [6] (S' := [_]) rfl (wc_ret ?_))))
 have hE := (Option.some.inj hm).symm
 replace hE := hE.symm
 subst hE
 refine ret_one (Hr := []) [] Tryz.results37 (res_tmp rfl) ⟨rfl, rfl, rfl⟩ (asK [] rfl) rfl rfl (.inl rfl)
theorem w_ropewalkref10_Some_s (N : Nat) (a0 : Int) (a1 : Int) (qp0 : Option Addr) (qc1 : Nat) (l2 : List ArgD) (a3 : Int) (a4 : Int) (a5 : Int) (a6 : ByteArray) (a7 : Int) (a8 : Int) (qp2 : Option Addr) (qc3 : Nat) (l9 : List Api_ExprD) (qp4 : Option Addr) (qc5 : Nat) (l10 : List Bool) (qp6 : Option Addr) (qc7 : Nat) (l11 : List V) (qp8 : Option Addr) (qc9 : Nat) (l12 : List FactD) (o0 : Bool) (hm : m_ropewalkref10_Some N a0 a1 l2 a3 a4 a5 a6 a7 a8 l9 l10 l11 l12 = some o0) : Spec Tryz.prog 38 [.agg #[.int .u8 a0, .int .i64 a1, .slice qp0 l2.length qc1, .int .u8 a3, .int .u8 a4, .int .i64 a5, .string a6, .int .i64 a7, .int .u8 a8, .slice qp2 l9.length qc3], .agg #[.slice qp4 l10.length qc5, .slice qp6 l11.length qc7], .slice qp8 l12.length qc9] [.sli 5 R_ArgD qp0 qc1 l2, .sli 7 R_Api_ExprD qp2 qc3 l9, .sli 1 R_bool qp4 qc5 l10, .sli 3 R_V qp6 qc7 l11, .sli 3 R_FactD qp8 qc9 l12] [] (fun v Φr Hr => v = .bool o0 ∧ Φr = [] ∧ Hr = []) := by
 unfold m_ropewalkref10_Some at hm
 refine spec_of Tryz.func38 rfl Tryz.ntmps38 rfl (S := [_,_,_]) rfl (fun C => (wc_seq (wc_region (wB rfl (fun g3 => (wB rfl (fun g4 => (wP rfl (wl_nil (we_then (wc_keep [4,3,2] (S' := [_,_,_]) rfl (wc_seq ?_))))))))))))
 obtain ⟨bj_1, hm, hLj_1⟩ := bindS_some hm
 refine wc_cut (σ := Unit) (fun _ => bj_1 = .inl ()) (fun _ => []) (fun _ => []) (fun _ => []) ?_ ?_
 ·
  refine wc_seq (wc_region (wP rfl (wl_nil (we_then (wc_block (wc_loop (σ := Nat × Nat) (fun (nu1, u1_7) => iter (m_ropewalkref10_Some_L1 N l12 a0 a1 l2 a3 a4 a5 a6 a7 a8 l9 l10 l11) nu1 u1_7 = some bj_1) (fun (nu1, u1_7) => nu1) (fun (nu1, u1_7) => [(7, .int .i64 ((u1_7 : Nat) : Int)), (4, .pointer (some ⟨g4,0, none⟩)), (3, .pointer (some ⟨g3,0, none⟩)), (2, .slice qp8 l12.length qc9)]) (fun (nu1, u1_7) => [.sli 1 R_bool qp4 qc5 l10, .sli 3 R_V qp6 qc7 l11, .sli 5 R_ArgD qp0 qc1 l2, .sli 7 R_Api_ExprD qp2 qc3 l9, .sli 3 R_FactD qp8 qc9 l12]) (fun (nu1, u1_7) => [.blk g4 [.slice qp4 l10.length qc5, .slice qp6 l11.length qc7] 47, .blk g3 [.int .u8 a0, .int .i64 a1, .slice qp0 l2.length qc1, .int .u8 a3, .int .u8 a4, .int .i64 a5, .string a6, .int .i64 a7, .int .u8 a8, .slice qp2 l9.length qc3] 33]) (N, 0) hm [7,4,3,2] rfl (asK [2,3,0,1,4] rfl) rfl (fun s_ hm => ?_)))))))
  obtain ⟨nu1, u1_7⟩ := s_
  try dsimp only at hm ⊢
  obtain ⟨mu1, bu1, hnu1, hq, hLu1⟩ := iter_some hm
  clear hm
  subst hnu1
  replace hm := hq
  clear hq
  unfold m_ropewalkref10_Some_L1 at hm
  try dsimp only at hm
  refine wc_seq (wc_seq (wc_region (wP rfl (wP rfl (wN rfl tE_78 (wP rfl (wl_as (d := 13) (v' := .bool (decide (u1_7 < l12.length))) (S' := [_,_,_,_,_,_,_]) rfl rfl (natlt (a := u1_7) (b := l12.length)) (wl_nil (we_then (wc_keep [13,7,4,3,2] (S' := [_,_,_,_,_]) rfl ?_))))))))))
  refine wc_cond rfl (fun hb13 => ?_) (fun hb13 => ?_)
  ·
   replace hm := iteT hm hb13
   refine wc_keep [7,4,3,2] (S' := [_,_,_,_]) rfl (wc_skip (we_then (wc_seq (wc_block (wc_seq ?_)))))
   obtain ⟨x20, hx20, hm⟩ := bindO_some hm
   obtain ⟨⟨v23_0, v23_1, v23_2⟩, hc23, hm⟩ := bindO_some hm
   try dsimp only at hm
   refine wc_cut (σ := Unit) (fun _ => True) (fun _ => [(9, .bool v23_2), (7, .int .i64 ((u1_7 : Nat) : Int)), (4, .pointer (some ⟨g4,0, none⟩)), (3, .pointer (some ⟨g3,0, none⟩)), (2, .slice qp8 l12.length qc9)]) (fun _ => [.sli 1 R_bool qp4 qc5 l10, .sli 3 R_V qp6 qc7 l11, .sli 5 R_ArgD qp0 qc1 l2, .sli 7 R_Api_ExprD qp2 qc3 l9, .sli 3 R_FactD qp8 qc9 l12]) (fun _ => [.blk g4 [.slice qp4 l10.length qc5, .slice qp6 l11.length qc7] 47, .blk g3 [.int .u8 a0, .int .i64 a1, .slice qp0 l2.length qc1, .int .u8 a3, .int .u8 a4, .int .i64 a5, .string a6, .int .i64 a7, .int .u8 a8, .slice qp2 l9.length qc3] 33]) ?_ ?_
   ·
    refine wc_draw [0,1,2,3,4,5,7,8,9] rfl rfl (fun hok => (wx_loadH hok 0 1 0 rfl rfl rfl (freshS_eq rfl) rfl rfl rfl rfl (cs := [_,_,_,_,_,_,_,_,_,_]) rfl tS_33 tA_33 rfl rfl (xP hok 1 rfl (xP hok 2 rfl (wx_indexA hok 3 4 u1_7 rfl rfl rfl (freshS_eq rfl) rfl rfl rfl rfl rfl rfl hx20 tE_78 tS_36 (fun b20 q20 cs20 hlx20 => (wx_openR R_FactD_opens 1 rfl (fun r20 er20 _ => ?_))))))))
    subst er20
    refine wx_load hok 4 1 0 rfl rfl rfl (freshS_eq rfl) rfl rfl rfl rfl (cs := [_,_,_]) rfl tS_36 tA_36 rfl rfl (wx_loadH hok 5 0 0 rfl rfl rfl (freshS_eq rfl) rfl rfl rfl rfl (cs := [_,_]) rfl tS_47 tA_47 rfl rfl ?_)
    refine wx_step2 hok 6 10 rfl rfl rfl rfl rfl rfl ?_ ?_
    rotate_left
    focus
     refine wl_alloc rfl rfl rfl (freshS_eq rfl) rfl tZ_47 rfl (fun g8 => (wl_nil (we_x [0,1,2,3,4,5,6,7] [1,2] rfl rfl (xS hok 6 rfl (wC [] [0,1,2] rfl fn_11 rfl (w_ropewalkref10_Match_s N a0 a1 qp0 qc1 l2 a3 a4 a5 a6 a7 a8 qp2 qc3 l9 x20.id x20.ty r20.1 r20.2 x20.args qp4 qc5 l10 qp6 qc7 l11 _ _ _ hc23) (asK [5,6,0,3,4] rfl) rfl (H' := [_,_,_]) rfl ?_)))))
     rintro _ _ _ ⟨p23_0, c23_1, c23_2, p23_3, c23_4, c23_5, rfl, rfl, rfl⟩
     refine wl_nil (we_x [0,1,2,3,4,5,6,7] [] rfl rfl (xP hok 7 rfl (xP hok 8 rfl (xP hok 9 rfl (xS hok 11 rfl (wS 2 0 rfl tS_47 (all' := [_,_]) rfl (H' := [_,_,_,_,_]) rfl ?_))))))
    rotate_right
    focus
     refine wC [] [0,1] rfl fn_11 rfl (w_ropewalkref10_Match_s N a0 a1 qp0 qc1 l2 a3 a4 a5 a6 a7 a8 qp2 qc3 l9 x20.id x20.ty r20.1 r20.2 x20.args qp4 qc5 l10 qp6 qc7 l11 _ _ _ hc23) (asK [5,6,0,3,4] rfl) rfl (H' := [_,_]) rfl ?_
     rintro _ _ _ ⟨p23_0, c23_1, c23_2, p23_3, c23_4, c23_5, rfl, rfl, rfl⟩
     refine wl_nil (we_x [0,1,2,3,4,5,6,7] [] rfl rfl (xP hok 7 rfl (xP hok 8 rfl (xP hok 9 rfl (xS hok 10 rfl (wl_alloc rfl rfl rfl (freshS_eq rfl) rfl tZ_47 rfl (fun g8 => (wl_nil (we_x [0,1,2,3,4,5,6,7] [3,4] rfl rfl (xS hok 11 rfl (wS 0 0 rfl tS_47 (all' := [_,_]) rfl (H' := [_,_,_,_,_]) rfl ?_)))))))))))
    all_goals
     refine wl_nil (we_x [0,1,2,3,4,5,6,7] [] rfl rfl (xS hok 12 rfl (wP rfl (wl_nil (we_x [0,1,2,3,4,5,6,7] [] rfl rfl (wx_done hok rfl (we_pick [3,4] rfl (H' := [_,_]) rfl ?_)))))))
     refine we_join () trivial [9,7,4,3,2] rfl (asK [3,4,5,6,7] rfl) rfl
   ·
    rintro _ _
    try dsimp only
    refine wc_seq (wc_region (wP rfl (wl_nil (we_then (wc_keep [26,7,4,3,2] (S' := [_,_,_,_,_]) rfl ?_)))))
    refine wc_cond rfl (fun hb26 => ?_) (fun hb26 => ?_)
    ·
     replace hm := iteT hm hb26
     refine wc_keep [] (S' := []) rfl (wc_seq (wc_region (wP rfl (wl_nil (we_then (wc_ret (we_block_ret (we_then_ret (we_then_ret (we_block_ret (we_then_ret ?_)))))))))))
     have hE := (Option.some.inj hm).symm
     replace hE := link_inr hLu1 hE
     replace hE := link_inr hLj_1 hE
     replace hE := hE.symm
     subst hE
     refine ret_one (Hr := []) [] Tryz.results38 (res_tmp rfl) ⟨rfl, rfl, rfl⟩ (asK [] rfl) rfl rfl (.inl rfl)
    ·
     replace hm := iteF hm hb26
     refine wc_keep [7,4,3,2] (S' := [_,_,_,_]) rfl (wc_skip (we_block_normal (we_then (wc_region (wP rfl (wP rfl ?_))))))
     obtain ⟨hg15, hm⟩ := gd_some hm
     refine wl_as (d := 15) (v' := .int .i64 ((u1_7 + 1 : Nat) : Int)) (S' := [_,_,_,_,_]) rfl rfl (nat_add (a := u1_7) (b := 1) hg15) (wl_pure (S' := [_,_,_,_,_]) rfl rfl rfl rfl rfl (wl_nil ?_))
     have hE := (Option.some.inj hm).symm
     replace hE := link_inl hLu1 hE
     refine we_roundK (_, u1_7 + 1) (Nat.lt_succ_self _) hE [7,4,3,2] rfl (asK [0,1,2,3,4] rfl) rfl
  ·
   replace hm := iteF hm hb13
   refine wc_keep [] (S' := []) rfl (wc_exit (we_then_exit (we_then_exit (we_block_hit ?_))))
   have hE := (Option.some.inj hm).symm
   replace hE := link_inr hLu1 hE
   refine we_pick [] rfl (H' := []) rfl ?_
   refine we_join () hE [] rfl (asK [] rfl) rfl
 ·
  rintro _ hE
  try dsimp only
  have hm := link_inl hLj_1 hE
  try dsimp only at hm
  refine wc_seq (wc_region (wP rfl (wl_nil (we_then (wc_ret ?_)))))
  have hE := (Option.some.inj hm).symm
  replace hE := hE.symm
  subst hE
  refine ret_one (Hr := []) [] Tryz.results38 (res_tmp rfl) ⟨rfl, rfl, rfl⟩ (asK [] rfl) rfl rfl (.inl rfl)
theorem w_ropewalkkit_KeptFacts_W_s (N : Nat) (qp0 : Option Addr) (qc1 : Nat) (l0 : List FactDS) (k1 : Nat) (qp2 : Option Addr) (qc3 : Nat) (l2 : List FactD) (o0 : Bool) (hm : m_ropewalkkit_KeptFacts_W N l0 k1 l2 = some o0) : Spec Tryz.prog 39 [.slice qp0 k1 qc1, .slice qp2 l2.length qc3] [.sli 3 RS_FactD qp0 qc1 l0, .sli 3 R_FactD qp2 qc3 l2] [] (fun v Φr Hr => v = .bool o0 ∧ Φr = [] ∧ Hr = []) := by
 unfold m_ropewalkkit_KeptFacts_W at hm
 refine spec_of Tryz.func39 rfl Tryz.ntmps39 rfl (S := [_,_]) rfl (fun C => (wc_seq (wc_region (wP rfl (wl_nil (we_then (wc_keep [0,1] (S' := [_,_]) rfl (wc_seq (wc_seq (wc_region (wP rfl (wN rfl tE_78 (wP rfl (wN rfl tE_78 ?_))))))))))))))
 refine wP rfl (wl_as (d := 11) (v' := .bool (k1 != l2.length)) (S' := [_,_,_,_,_,_]) rfl rfl (natne (a := k1) (b := l2.length)) (wl_nil (we_then (wc_keep [11,0,1] (S' := [_,_,_]) rfl ?_))))
 refine wc_cond rfl (fun hb11 => ?_) (fun hb11 => ?_)
 ·
  replace hm := iteT hm hb11
  refine wc_keep [] (S' := []) rfl (wc_seq (wc_region (wP rfl (wl_nil (we_then (wc_ret (we_then_ret ?_)))))))
  have hE := (Option.some.inj hm).symm
  replace hE := hE.symm
  subst hE
  refine ret_one (Hr := []) [] Tryz.results39 (res_tmp rfl) ⟨rfl, rfl, rfl⟩ (asK [] rfl) rfl rfl (.inl rfl)
 ·
  replace hm := iteF hm hb11
  refine wc_keep [0,1] (S' := [_,_]) rfl (wc_skip (we_then (wc_seq (wc_region (wP rfl (wP rfl (wN rfl tE_78 (wP rfl ?_))))))))
  obtain ⟨hg15, hm⟩ := gd_some hm
  refine wl_as (d := 15) (v' := .int .i64 ((l2.length + 12 : Nat) : Int)) (S' := [_,_,_,_,_]) rfl rfl (nat_add (a := l2.length) (b := 12) hg15) ?_
  obtain ⟨hg16, hm⟩ := gd_some hm
  refine wl_sliToF 0 rfl rfl rfl (freshS_eq rfl) rfl rfl rfl rfl rfl tE_78 tS_36 hg16 (fun p16 => (wP rfl (wl_nil (we_then (wc_keep [5,1] (S' := [_,_]) rfl (wc_seq ?_))))))
  obtain ⟨bj_1, hm, hLj_1⟩ := bindS_some hm
  refine wc_cut (σ := Unit) (fun _ => bj_1 = .inl ()) (fun _ => []) (fun _ => []) (fun _ => []) ?_ ?_
  ·
   refine wc_seq (wc_region (wP rfl (wl_nil (we_then (wc_block (wc_loop (σ := Nat × Nat) (fun (nu1, u1_6) => iter (m_ropewalkkit_KeptFacts_W_L1 N l0 l2) nu1 u1_6 = some bj_1) (fun (nu1, u1_6) => nu1) (fun (nu1, u1_6) => [(6, .int .i64 ((u1_6 : Nat) : Int)), (5, .slice p16 ((l0.take (l2.length + 12)).length) qc1), (1, .slice qp2 l2.length qc3)]) (fun (nu1, u1_6) => [.sli 3 RS_FactD p16 qc1 (l0.take (l2.length + 12)), .sli 3 R_FactD qp2 qc3 l2]) (fun (nu1, u1_6) => []) (N, 0) hm [6,5,1] rfl (asK [0,2] rfl) rfl (fun s_ hm => ?_)))))))
   obtain ⟨nu1, u1_6⟩ := s_
   try dsimp only at hm ⊢
   obtain ⟨mu1, bu1, hnu1, hq, hLu1⟩ := iter_some hm
   clear hm
   subst hnu1
   replace hm := hq
   clear hq
   unfold m_ropewalkkit_KeptFacts_W_L1 at hm
   try dsimp only at hm
   refine wc_seq (wc_seq (wc_region (wP rfl (wP rfl (wN rfl tE_78 (wP rfl (wl_as (d := 20) (v' := .bool (decide (u1_6 < ((l0.take (l2.length + 12)).length)))) (S' := [_,_,_,_,_,_]) rfl rfl (natlt (a := u1_6) (b := (l0.take (l2.length + 12)).length)) (wl_nil (we_then (wc_keep [20,6,5,1] (S' := [_,_,_,_]) rfl ?_))))))))))
   refine wc_cond rfl (fun hb20 => ?_) (fun hb20 => ?_)
   ·
    replace hm := iteT hm hb20
    refine wc_keep [6,5,1] (S' := [_,_,_]) rfl (wc_skip (we_then (wc_seq (wc_block (wc_seq ?_)))))
    obtain ⟨bj_2, hm, hLj_2⟩ := bindO_some hm
    unfold m_ropewalkkit_KeptFacts_W_C2 at hm
    refine wc_cut (σ := Bool) (fun j_2_57 => bj_2 = j_2_57) (fun j_2_57 => [(6, .int .i64 ((u1_6 : Nat) : Int)), (5, .slice p16 ((l0.take (l2.length + 12)).length) qc1), (1, .slice qp2 l2.length qc3), (57, .bool j_2_57)]) (fun j_2_57 => [.sli 3 RS_FactD p16 qc1 (l0.take (l2.length + 12)), .sli 3 R_FactD qp2 qc3 l2]) (fun j_2_57 => []) ?_ ?_
    ·
     rcases ite_some hm with ⟨hs27, hm⟩ | ⟨hs27, hm⟩
     ·
      obtain ⟨x30, hx30, hm⟩ := bindO_some hm
      obtain ⟨x34, hx34, hm⟩ := bindO_some hm
      obtain ⟨v36, hc36, hm⟩ := bindO_some hm
      rcases ite_some hm with ⟨hs39, hm⟩ | ⟨hs39, hm⟩
      ·
       refine wc_draw [0,1,2,3,4,5,6,7,8,9,10,11,12,14,15,16,17,18,19,20,21,22,23,24,25,26,27,28,29,32,33,34] rfl rfl (fun hok => (xP hok 0 rfl (xP hok 1 rfl (wx_len hok 2 rfl rfl rfl (freshS_eq rfl) rfl rfl rfl tE_78 (xP hok 3 rfl (wx_as (d := 26) (v' := .bool (decide (u1_6 < l2.length))) (S' := [_,_,_,_,_,_]) rfl rfl (natlt (a := u1_6) (b := l2.length)) (xP hok 4 rfl (wx_as (d := 27) (v' := .bool true) (S' := [_,_,_,_,_,_,_]) rfl rfl (bool_is hs27) (xP hok 5 rfl (xP hok 6 rfl (wx_indexA hok 7 0 u1_6 rfl rfl rfl (freshS_eq rfl) rfl rfl rfl rfl rfl rfl hx30 tE_78 tS_36 (fun b30 q30 cs30 hlx30 => (wx_openR RS_FactD_opens 1 rfl (fun r30 er30 _ => ?_))))))))))))))
       subst er30
       refine wx_load hok 8 1 0 rfl rfl rfl (freshS_eq rfl) rfl rfl rfl rfl (cs := [_,_,_]) rfl tS_36 tA_36 rfl rfl (xP hok 9 rfl (xP hok 10 rfl (wx_indexA hok 11 4 u1_6 rfl rfl rfl (freshS_eq rfl) rfl rfl rfl rfl rfl rfl hx34 tE_78 tS_36 (fun b34 q34 cs34 hlx34 => (wx_openR R_FactD_opens 1 rfl (fun r34 er34 _ => ?_))))))
       subst er34
       refine wx_load hok 12 1 0 rfl rfl rfl (freshS_eq rfl) rfl rfl rfl rfl (cs := [_,_,_]) rfl tS_36 tA_36 rfl rfl (xS hok 13 rfl (wC [] [] rfl fn_14 rfl (w_ropewalkkit_KeptFact_W_s N x30.id x30.ty r30.1 r30.2 (x30.args ++ x30.argsT) x30.args.length x34.id x34.ty r34.1 r34.2 x34.args _ hc36) (asK [3,0] rfl) rfl (H' := []) rfl ?_))
       rintro _ _ _ ⟨rfl, rfl, rfl⟩
       refine wl_nil (we_x [0,1,2,3,4,5,6,7] [] rfl rfl (xP hok 14 rfl (xP hok 15 rfl (xP hok 16 rfl (wx_as (d := 39) (v' := .bool true) (S' := [_,_,_,_,_,_,_,_,_,_,_,_,_,_,_,_,_,_,_]) rfl rfl (bool_is hs39) (xO hok 17 rfl (xO hok 18 rfl (xO hok 19 rfl (xO hok 20 rfl (xO hok 21 rfl (xO hok 22 rfl (xO hok 23 rfl (xO hok 24 rfl ?_)))))))))))))
       refine xO hok 25 rfl (xO hok 26 rfl (xO hok 27 rfl (xO hok 28 rfl (xO hok 29 rfl (xS hok 30 rfl (wO rfl (wl_nil (we_x [0,1,2,3,4,5,6,7] [] rfl rfl (xS hok 31 rfl (wO rfl (wl_nil (we_x [0,1,2,3,4,5,6,7] [] rfl rfl (xO hok 32 rfl ?_)))))))))))))
       refine xO hok 33 rfl (xP hok 34 rfl (wx_done hok rfl ?_))
       have hE := (Option.some.inj hm).symm
       refine we_join true hE [6,5,1,57] rfl (asK [6,7] rfl) rfl
      ·
       rcases ite_some hm with ⟨hs44, hm⟩ | ⟨hs44, hm⟩
       ·
        obtain ⟨x47, hx47, hm⟩ := bindO_some hm
        obtain ⟨hg52, hm⟩ := gd_some hm
        obtain ⟨_, hc53, hm⟩ := bindO_some hm
        try dsimp only at hm
        obtain ⟨v54, hc54, hm⟩ := bindO_some hm
        refine wc_draw [0,1,2,3,4,5,6,7,8,9,10,11,12,14,15,16,17,18,19,20,21,22,23,24,25,26,27,28,29,32,33,34] rfl rfl (fun hok => (xP hok 0 rfl (xP hok 1 rfl (wx_len hok 2 rfl rfl rfl (freshS_eq rfl) rfl rfl rfl tE_78 (xP hok 3 rfl (wx_as (d := 26) (v' := .bool (decide (u1_6 < l2.length))) (S' := [_,_,_,_,_,_]) rfl rfl (natlt (a := u1_6) (b := l2.length)) (xP hok 4 rfl (wx_as (d := 27) (v' := .bool true) (S' := [_,_,_,_,_,_,_]) rfl rfl (bool_is hs27) (xP hok 5 rfl (xP hok 6 rfl (wx_indexA hok 7 0 u1_6 rfl rfl rfl (freshS_eq rfl) rfl rfl rfl rfl rfl rfl hx30 tE_78 tS_36 (fun b30 q30 cs30 hlx30 => (wx_openR RS_FactD_opens 1 rfl (fun r30 er30 _ => ?_))))))))))))))
        subst er30
        refine wx_load hok 8 1 0 rfl rfl rfl (freshS_eq rfl) rfl rfl rfl rfl (cs := [_,_,_]) rfl tS_36 tA_36 rfl rfl (xP hok 9 rfl (xP hok 10 rfl (wx_indexA hok 11 4 u1_6 rfl rfl rfl (freshS_eq rfl) rfl rfl rfl rfl rfl rfl hx34 tE_78 tS_36 (fun b34 q34 cs34 hlx34 => (wx_openR R_FactD_opens 1 rfl (fun r34 er34 _ => ?_))))))
        subst er34
        refine wx_load hok 12 1 0 rfl rfl rfl (freshS_eq rfl) rfl rfl rfl rfl (cs := [_,_,_]) rfl tS_36 tA_36 rfl rfl (xS hok 13 rfl (wC [] [] rfl fn_14 rfl (w_ropewalkkit_KeptFact_W_s N x30.id x30.ty r30.1 r30.2 (x30.args ++ x30.argsT) x30.args.length x34.id x34.ty r34.1 r34.2 x34.args _ hc36) (asK [3,0] rfl) rfl (H' := []) rfl ?_))
        rintro _ _ _ ⟨rfl, rfl, rfl⟩
        refine wl_nil (we_x [0,1,2,3,4,5,6,7] [] rfl rfl (xP hok 14 rfl (xP hok 15 rfl (xP hok 16 rfl (wx_as (d := 39) (v' := .bool false) (S' := [_,_,_,_,_,_,_,_,_,_,_,_,_,_,_,_,_,_,_]) rfl rfl (bool_is hs39) (xP hok 17 rfl (xP hok 18 rfl (wx_len hok 19 rfl rfl rfl (freshS_eq rfl) rfl rfl rfl tE_78 (xP hok 20 rfl (wx_as (d := 43) (v' := .bool (decide (l2.length ≤ u1_6))) (S' := [_,_,_,_,_,_,_,_,_,_,_,_,_,_,_,_,_,_,_,_,_,_,_]) rfl rfl (natge (a := u1_6) (b := l2.length)) (xP hok 21 rfl (wx_as (d := 44) (v' := .bool true) (S' := [_,_,_,_,_,_,_,_,_,_,_,_,_,_,_,_,_,_,_,_,_,_,_,_]) rfl rfl (bool_is hs44) (xP hok 22 rfl ?_)))))))))))))
        refine xP hok 23 rfl (wx_indexA hok 24 6 u1_6 rfl rfl rfl (freshS_eq rfl) rfl rfl rfl rfl rfl rfl hx47 tE_78 tS_36 (fun b47 q47 cs47 hlx47 => (wx_openR RS_FactD_opens 1 rfl (fun r47 er47 _ => ?_))))
        subst er47
        refine wx_load hok 25 1 0 rfl rfl rfl (freshS_eq rfl) rfl rfl rfl rfl (cs := [_,_,_]) rfl tS_36 tA_36 rfl rfl (xP hok 26 rfl (xP hok 27 rfl (wx_len hok 28 rfl rfl rfl (freshS_eq rfl) rfl rfl rfl tE_78 (xP hok 29 rfl (wx_as (d := 52) (v' := .int .i64 (((u1_6 : Nat) : Int) - ((l2.length : Nat) : Int))) (S' := [_,_,_,_,_,_,_,_,_,_,_,_,_,_,_,_,_,_,_,_,_,_,_,_,_,_,_,_,_,_,_,_]) rfl rfl (i64_in hg52) (xS hok 30 rfl (wC [] [] rfl fn_50 rfl (w_ropewalkkit_markFact_s N 1 (((u1_6 : Nat) : Int) - ((l2.length : Nat) : Int)) hc53) (asK [] rfl) rfl (H' := []) rfl ?_)))))))
        rintro _ _ _ ⟨rfl, rfl, rfl⟩
        refine wl_nil (we_x [0,1,2,3,4,5,6,7,8,9,10] [] rfl rfl (xS hok 31 rfl (wl_fact (.sli 3 R_V none 0 ([] : List V)) (fun _ _ _ => sli_none) (wC [] [] rfl fn_34 rfl (w_ropewalkkit_SameFact_W_s N x47.id x47.ty r47.1 r47.2 (x47.args ++ x47.argsT) x47.args.length (IntKind.wrap .i64 ((IntKind.wrap .i64 (1000003 * (IntKind.wrap .i64 (1 + 7)))) + (((u1_6 : Nat) : Int) - ((l2.length : Nat) : Int)))) 0 none 0 ([] : List V) _ hc54) (asK [1,0] rfl) rfl (H' := []) rfl ?_))))
        rintro _ _ _ ⟨rfl, rfl, rfl⟩
        refine wl_nil (we_x [1,2,3,4,5,6,7,8,9,10,11] [] rfl rfl (xP hok 32 rfl (xP hok 33 rfl (xP hok 34 rfl (wx_done hok rfl ?_)))))
        have hE := (Option.some.inj hm).symm
        refine we_join (!v54) hE [6,5,1,57] rfl (asK [10,11] rfl) rfl
       ·
        refine wc_draw [0,1,2,3,4,5,6,7,8,9,10,11,12,14,15,16,17,18,19,20,21,22,23,24,25,26,27,28,29,32,33,34] rfl rfl (fun hok => (xP hok 0 rfl (xP hok 1 rfl (wx_len hok 2 rfl rfl rfl (freshS_eq rfl) rfl rfl rfl tE_78 (xP hok 3 rfl (wx_as (d := 26) (v' := .bool (decide (u1_6 < l2.length))) (S' := [_,_,_,_,_,_]) rfl rfl (natlt (a := u1_6) (b := l2.length)) (xP hok 4 rfl (wx_as (d := 27) (v' := .bool true) (S' := [_,_,_,_,_,_,_]) rfl rfl (bool_is hs27) (xP hok 5 rfl (xP hok 6 rfl (wx_indexA hok 7 0 u1_6 rfl rfl rfl (freshS_eq rfl) rfl rfl rfl rfl rfl rfl hx30 tE_78 tS_36 (fun b30 q30 cs30 hlx30 => (wx_openR RS_FactD_opens 1 rfl (fun r30 er30 _ => ?_))))))))))))))
        subst er30
        refine wx_load hok 8 1 0 rfl rfl rfl (freshS_eq rfl) rfl rfl rfl rfl (cs := [_,_,_]) rfl tS_36 tA_36 rfl rfl (xP hok 9 rfl (xP hok 10 rfl (wx_indexA hok 11 4 u1_6 rfl rfl rfl (freshS_eq rfl) rfl rfl rfl rfl rfl rfl hx34 tE_78 tS_36 (fun b34 q34 cs34 hlx34 => (wx_openR R_FactD_opens 1 rfl (fun r34 er34 _ => ?_))))))
        subst er34
        refine wx_load hok 12 1 0 rfl rfl rfl (freshS_eq rfl) rfl rfl rfl rfl (cs := [_,_,_]) rfl tS_36 tA_36 rfl rfl (xS hok 13 rfl (wC [] [] rfl fn_14 rfl (w_ropewalkkit_KeptFact_W_s N x30.id x30.ty r30.1 r30.2 (x30.args ++ x30.argsT) x30.args.length x34.id x34.ty r34.1 r34.2 x34.args _ hc36) (asK [3,0] rfl) rfl (H' := []) rfl ?_))
        rintro _ _ _ ⟨rfl, rfl, rfl⟩
        refine wl_nil (we_x [0,1,2,3,4,5,6,7] [] rfl rfl (xP hok 14 rfl (xP hok 15 rfl (xP hok 16 rfl (wx_as (d := 39) (v' := .bool false) (S' := [_,_,_,_,_,_,_,_,_,_,_,_,_,_,_,_,_,_,_]) rfl rfl (bool_is hs39) (xP hok 17 rfl (xP hok 18 rfl (wx_len hok 19 rfl rfl rfl (freshS_eq rfl) rfl rfl rfl tE_78 (xP hok 20 rfl (wx_as (d := 43) (v' := .bool (decide (l2.length ≤ u1_6))) (S' := [_,_,_,_,_,_,_,_,_,_,_,_,_,_,_,_,_,_,_,_,_,_,_]) rfl rfl (natge (a := u1_6) (b := l2.length)) (xP hok 21 rfl (wx_as (d := 44) (v' := .bool false) (S' := [_,_,_,_,_,_,_,_,_,_,_,_,_,_,_,_,_,_,_,_,_,_,_,_]) rfl rfl (bool_is hs44) (xO hok 22 rfl ?_)))))))))))))
        refine xO hok 23 rfl (xO hok 24 rfl (xO hok 25 rfl (xO hok 26 rfl (xO hok 27 rfl (xO hok 28 rfl (xO hok 29 rfl (xS hok 30 rfl (wO rfl (wl_nil (we_x [0,1,2,3,4,5,6,7] [] rfl rfl (xS hok 31 rfl (wO rfl (wl_nil ?_)))))))))))))
        refine we_x [0,1,2,3,4,5,6,7] [] rfl rfl (xO hok 32 rfl (xP hok 33 rfl (xP hok 34 rfl (wx_done hok rfl ?_))))
        have hE := (Option.some.inj hm).symm
        refine we_join false hE [6,5,1,57] rfl (asK [6,7] rfl) rfl
     ·
      rcases ite_some hm with ⟨hs44, hm⟩ | ⟨hs44, hm⟩
      ·
       obtain ⟨x47, hx47, hm⟩ := bindO_some hm
       obtain ⟨hg52, hm⟩ := gd_some hm
       obtain ⟨_, hc53, hm⟩ := bindO_some hm
       try dsimp only at hm
       obtain ⟨v54, hc54, hm⟩ := bindO_some hm
       refine wc_draw [0,1,2,3,4,5,6,7,8,9,10,11,12,14,15,16,17,18,19,20,21,22,23,24,25,26,27,28,29,32,33,34] rfl rfl (fun hok => (xP hok 0 rfl (xP hok 1 rfl (wx_len hok 2 rfl rfl rfl (freshS_eq rfl) rfl rfl rfl tE_78 (xP hok 3 rfl (wx_as (d := 26) (v' := .bool (decide (u1_6 < l2.length))) (S' := [_,_,_,_,_,_]) rfl rfl (natlt (a := u1_6) (b := l2.length)) (xP hok 4 rfl (wx_as (d := 27) (v' := .bool false) (S' := [_,_,_,_,_,_,_]) rfl rfl (bool_is hs27) (xO hok 5 rfl (xO hok 6 rfl (xO hok 7 rfl (xO hok 8 rfl (xO hok 9 rfl (xO hok 10 rfl ?_))))))))))))))
       refine xO hok 11 rfl (xO hok 12 rfl (xS hok 13 rfl (wO rfl (wl_nil (we_x [0,1] [] rfl rfl (xO hok 14 rfl (xP hok 15 rfl (xP hok 16 rfl (xP hok 17 rfl (xP hok 18 rfl (wx_len hok 19 rfl rfl rfl (freshS_eq rfl) rfl rfl rfl tE_78 (xP hok 20 rfl (wx_as (d := 43) (v' := .bool (decide (l2.length ≤ u1_6))) (S' := [_,_,_,_,_,_,_,_,_,_,_,_,_,_,_,_,_,_,_,_,_,_,_]) rfl rfl (natge (a := u1_6) (b := l2.length)) ?_)))))))))))))
       refine xP hok 21 rfl (wx_as (d := 44) (v' := .bool true) (S' := [_,_,_,_,_,_,_,_,_,_,_,_,_,_,_,_,_,_,_,_,_,_,_,_]) rfl rfl (bool_is hs44) (xP hok 22 rfl (xP hok 23 rfl (wx_indexA hok 24 0 u1_6 rfl rfl rfl (freshS_eq rfl) rfl rfl rfl rfl rfl rfl hx47 tE_78 tS_36 (fun b47 q47 cs47 hlx47 => (wx_openR RS_FactD_opens 1 rfl (fun r47 er47 _ => ?_)))))))
       subst er47
       refine wx_load hok 25 1 0 rfl rfl rfl (freshS_eq rfl) rfl rfl rfl rfl (cs := [_,_,_]) rfl tS_36 tA_36 rfl rfl (xP hok 26 rfl (xP hok 27 rfl (wx_len hok 28 rfl rfl rfl (freshS_eq rfl) rfl rfl rfl tE_78 (xP hok 29 rfl (wx_as (d := 52) (v' := .int .i64 (((u1_6 : Nat) : Int) - ((l2.length : Nat) : Int))) (S' := [_,_,_,_,_,_,_,_,_,_,_,_,_,_,_,_,_,_,_,_,_,_,_,_,_,_,_,_,_,_,_,_]) rfl rfl (i64_in hg52) (xS hok 30 rfl (wC [] [] rfl fn_50 rfl (w_ropewalkkit_markFact_s N 1 (((u1_6 : Nat) : Int) - ((l2.length : Nat) : Int)) hc53) (asK [] rfl) rfl (H' := []) rfl ?_)))))))
       rintro _ _ _ ⟨rfl, rfl, rfl⟩
       refine wl_nil (we_x [0,1,2,3,4] [] rfl rfl (xS hok 31 rfl (wl_fact (.sli 3 R_V none 0 ([] : List V)) (fun _ _ _ => sli_none) (wC [] [] rfl fn_34 rfl (w_ropewalkkit_SameFact_W_s N x47.id x47.ty r47.1 r47.2 (x47.args ++ x47.argsT) x47.args.length (IntKind.wrap .i64 ((IntKind.wrap .i64 (1000003 * (IntKind.wrap .i64 (1 + 7)))) + (((u1_6 : Nat) : Int) - ((l2.length : Nat) : Int)))) 0 none 0 ([] : List V) _ hc54) (asK [1,0] rfl) rfl (H' := []) rfl ?_))))
       rintro _ _ _ ⟨rfl, rfl, rfl⟩
       refine wl_nil (we_x [1,2,3,4,5] [] rfl rfl (xP hok 32 rfl (xP hok 33 rfl (xP hok 34 rfl (wx_done hok rfl ?_)))))
       have hE := (Option.some.inj hm).symm
       refine we_join (!v54) hE [6,5,1,57] rfl (asK [4,5] rfl) rfl
      ·
       refine wc_draw [0,1,2,3,4,5,6,7,8,9,10,11,12,14,15,16,17,18,19,20,21,22,23,24,25,26,27,28,29,32,33,34] rfl rfl (fun hok => (xP hok 0 rfl (xP hok 1 rfl (wx_len hok 2 rfl rfl rfl (freshS_eq rfl) rfl rfl rfl tE_78 (xP hok 3 rfl (wx_as (d := 26) (v' := .bool (decide (u1_6 < l2.length))) (S' := [_,_,_,_,_,_]) rfl rfl (natlt (a := u1_6) (b := l2.length)) (xP hok 4 rfl (wx_as (d := 27) (v' := .bool false) (S' := [_,_,_,_,_,_,_]) rfl rfl (bool_is hs27) (xO hok 5 rfl (xO hok 6 rfl (xO hok 7 rfl (xO hok 8 rfl (xO hok 9 rfl (xO hok 10 rfl ?_))))))))))))))
       refine xO hok 11 rfl (xO hok 12 rfl (xS hok 13 rfl (wO rfl (wl_nil (we_x [0,1] [] rfl rfl (xO hok 14 rfl (xP hok 15 rfl (xP hok 16 rfl (xP hok 17 rfl (xP hok 18 rfl (wx_len hok 19 rfl rfl rfl (freshS_eq rfl) rfl rfl rfl tE_78 (xP hok 20 rfl (wx_as (d := 43) (v' := .bool (decide (l2.length ≤ u1_6))) (S' := [_,_,_,_,_,_,_,_,_,_,_,_,_,_,_,_,_,_,_,_,_,_,_]) rfl rfl (natge (a := u1_6) (b := l2.length)) ?_)))))))))))))
       refine xP hok 21 rfl (wx_as (d := 44) (v' := .bool false) (S' := [_,_,_,_,_,_,_,_,_,_,_,_,_,_,_,_,_,_,_,_,_,_,_,_]) rfl rfl (bool_is hs44) (xO hok 22 rfl (xO hok 23 rfl (xO hok 24 rfl (xO hok 25 rfl (xO hok 26 rfl (xO hok 27 rfl (xO hok 28 rfl (xO hok 29 rfl (xS hok 30 rfl (wO rfl (wl_nil (we_x [0,1] [] rfl rfl ?_)))))))))))))
       refine xS hok 31 rfl (wO rfl (wl_nil (we_x [0,1] [] rfl rfl (xO hok 32 rfl (xP hok 33 rfl (xP hok 34 rfl (wx_done hok rfl ?_)))))))
       have hE := (Option.some.inj hm).symm
       refine we_join false hE [6,5,1,57] rfl (asK [0,1] rfl) rfl
    ·
     rintro j_2_57 hE
     try dsimp only
     have hm := hLj_2
     rw [hE] at hm
     refine wc_cond rfl (fun hb57 => ?_) (fun hb57 => ?_)
     ·
      replace hm := iteT hm hb57
      refine wc_keep [] (S' := []) rfl (wc_seq (wc_region (wP rfl (wl_nil (we_then (wc_ret (we_block_ret (we_then_ret (we_then_ret (we_block_ret (we_then_ret ?_)))))))))))
      have hE := (Option.some.inj hm).symm
      replace hE := link_inr hLu1 hE
      replace hE := link_inr hLj_1 hE
      replace hE := hE.symm
      subst hE
      refine ret_one (Hr := []) [] Tryz.results39 (res_tmp rfl) ⟨rfl, rfl, rfl⟩ (asK [] rfl) rfl rfl (.inl rfl)
     ·
      replace hm := iteF hm hb57
      refine wc_keep [6,5,1] (S' := [_,_,_]) rfl (wc_skip (we_block_normal (we_then (wc_region (wP rfl (wP rfl ?_))))))
      obtain ⟨hg22, hm⟩ := gd_some hm
      refine wl_as (d := 22) (v' := .int .i64 ((u1_6 + 1 : Nat) : Int)) (S' := [_,_,_,_]) rfl rfl (nat_add (a := u1_6) (b := 1) hg22) (wl_pure (S' := [_,_,_,_]) rfl rfl rfl rfl rfl (wl_nil ?_))
      have hE := (Option.some.inj hm).symm
      replace hE := link_inl hLu1 hE
      refine we_roundK (_, u1_6 + 1) (Nat.lt_succ_self _) hE [6,5,1] rfl (asK [0,1] rfl) rfl
   ·
    replace hm := iteF hm hb20
    refine wc_keep [] (S' := []) rfl (wc_exit (we_then_exit (we_then_exit (we_block_hit ?_))))
    have hE := (Option.some.inj hm).symm
    replace hE := link_inr hLu1 hE
    refine we_join () hE [] rfl (asK [] rfl) rfl
  ·
   rintro _ hE
   try dsimp only
   have hm := link_inl hLj_1 hE
   try dsimp only at hm
   refine wc_seq (wc_region (wP rfl (wl_nil (we_then (wc_ret ?_)))))
   have hE := (Option.some.inj hm).symm
   replace hE := hE.symm
   subst hE
   refine ret_one (Hr := []) [] Tryz.results39 (res_tmp rfl) ⟨rfl, rfl, rfl⟩ (asK [] rfl) rfl rfl (.inl rfl)
end Go.Proofs.YtalbennlmcpnmaaGreat
