import Derived.Test.YtkakbckmajdggaaGreatXW1
namespace Go.Proofs.YtkakbckmajdggaaGreat
open Go.RowKit
set_option maxRecDepth 100000
set_option maxHeartbeats 4000000
theorem w_ropewalkkit_KeptBytes_W_s (N : Nat) (qp0 : Option Addr) (qc1 : Nat) (l0 : List Int) (k1 : Nat) (qp2 : Option Addr) (qc3 : Nat) (l2 : List Int) (o0 : Bool) (hm : m_ropewalkkit_KeptBytes_W N l0 k1 l2 = some o0) : Spec Tryz.prog 8 [.slice qp0 k1 qc1, .slice qp2 l2.length qc3] [.sli 1 R_u8 qp0 qc1 l0, .sli 1 R_u8 qp2 qc3 l2] [] (fun v Φr Hr => v = .bool o0 ∧ Φr = [] ∧ Hr = []) := by
 unfold m_ropewalkkit_KeptBytes_W at hm
 refine spec_of Tryz.func8 rfl Tryz.ntmps8 rfl (S := [_,_]) rfl (fun C => (wc_seq (wc_region (wP rfl (wl_nil (we_then (wc_keep [0,1] (S' := [_,_]) rfl (wc_seq (wc_seq (wc_region (wP rfl (wN rfl tE_22 (wP rfl (wN rfl tE_22 ?_))))))))))))))
 refine wP rfl (wl_as (d := 11) (v' := .bool (k1 != l2.length)) (S' := [_,_,_,_,_,_]) rfl rfl (natne (a := k1) (b := l2.length)) (wl_nil (we_then (wc_keep [11,0,1] (S' := [_,_,_]) rfl ?_))))
 refine wc_cond rfl (fun hb11 => ?_) (fun hb11 => ?_)
 ·
  replace hm := iteT hm hb11
  refine wc_keep [] (S' := []) rfl (wc_seq (wc_region (wP rfl (wl_nil (we_then (wc_ret (we_then_ret ?_)))))))
  have hE := (Option.some.inj hm).symm
  replace hE := hE.symm
  subst hE
  refine ret_one (Hr := []) [] Tryz.results8 (res_tmp rfl) ⟨rfl, rfl, rfl⟩ (asK [] rfl) rfl rfl (.inl rfl)
 ·
  replace hm := iteF hm hb11
  refine wc_keep [0,1] (S' := [_,_]) rfl (wc_skip (we_then (wc_seq (wc_region (wP rfl (wP rfl (wN rfl tE_22 (wP rfl ?_))))))))
  obtain ⟨hg15, hm⟩ := gd_some hm
  refine wl_as (d := 15) (v' := .int .i64 ((l2.length + 12 : Nat) : Int)) (S' := [_,_,_,_,_]) rfl rfl (nat_add (a := l2.length) (b := 12) hg15) ?_
  obtain ⟨hg16, hm⟩ := gd_some hm
  refine wl_sliToF 0 rfl rfl rfl (freshS_eq rfl) rfl rfl rfl rfl rfl tE_22 tS_5 hg16 (fun p16 => (wP rfl (wl_nil (we_then (wc_keep [5,1] (S' := [_,_]) rfl (wc_seq ?_))))))
  obtain ⟨bj_1, hm, hLj_1⟩ := bindS_some hm
  refine wc_cut (σ := Unit) (fun _ => bj_1 = .inl ()) (fun _ => []) (fun _ => []) (fun _ => []) ?_ ?_
  ·
   refine wc_seq (wc_region (wP rfl (wl_nil (we_then (wc_block (wc_loop (σ := Nat × Nat) (fun (nu1, u1_6) => iter (m_ropewalkkit_KeptBytes_W_L1 N l0 l2) nu1 u1_6 = some bj_1) (fun (nu1, u1_6) => nu1) (fun (nu1, u1_6) => [(6, .int .i64 ((u1_6 : Nat) : Int)), (5, .slice p16 ((l0.take (l2.length + 12)).length) qc1), (1, .slice qp2 l2.length qc3)]) (fun (nu1, u1_6) => [.sli 1 R_u8 p16 qc1 (l0.take (l2.length + 12)), .sli 1 R_u8 qp2 qc3 l2]) (fun (nu1, u1_6) => []) (N, 0) hm [6,5,1] rfl (asK [0,2] rfl) rfl (fun s_ hm => ?_)))))))
   obtain ⟨nu1, u1_6⟩ := s_
   try dsimp only at hm ⊢
   obtain ⟨mu1, bu1, hnu1, hq, hLu1⟩ := iter_some hm
   clear hm
   subst hnu1
   replace hm := hq
   clear hq
   unfold m_ropewalkkit_KeptBytes_W_L1 at hm
   try dsimp only at hm
   refine wc_seq (wc_seq (wc_region (wP rfl (wP rfl (wN rfl tE_22 (wP rfl (wl_as (d := 20) (v' := .bool (decide (u1_6 < ((l0.take (l2.length + 12)).length)))) (S' := [_,_,_,_,_,_]) rfl rfl (natlt (a := u1_6) (b := (l0.take (l2.length + 12)).length)) (wl_nil (we_then (wc_keep [20,6,5,1] (S' := [_,_,_,_]) rfl ?_))))))))))
   refine wc_cond rfl (fun hb20 => ?_) (fun hb20 => ?_)
   ·
    replace hm := iteT hm hb20
    refine wc_keep [6,5,1] (S' := [_,_,_]) rfl (wc_skip (we_then (wc_seq (wc_block (wc_seq ?_)))))
    obtain ⟨bj_2, hm, hLj_2⟩ := bindO_some hm
    unfold m_ropewalkkit_KeptBytes_W_C2 at hm
    refine wc_cut (σ := Bool) (fun j_2_57 => bj_2 = j_2_57) (fun j_2_57 => [(6, .int .i64 ((u1_6 : Nat) : Int)), (5, .slice p16 ((l0.take (l2.length + 12)).length) qc1), (1, .slice qp2 l2.length qc3), (57, .bool j_2_57)]) (fun j_2_57 => [.sli 1 R_u8 p16 qc1 (l0.take (l2.length + 12)), .sli 1 R_u8 qp2 qc3 l2]) (fun j_2_57 => []) ?_ ?_
    ·
     rcases ite_some hm with ⟨hs27, hm⟩ | ⟨hs27, hm⟩
     ·
      obtain ⟨x30, hx30, hm⟩ := bindO_some hm
      obtain ⟨x34, hx34, hm⟩ := bindO_some hm
      rcases ite_some hm with ⟨hs39, hm⟩ | ⟨hs39, hm⟩
      ·
       refine wc_draw [0,1,2,3,4,5,6,7,8,9,10,11,12,13,14,15,16,17,18,19,20,21,22,23,24,25,26,27,28,29,31,32,33,34] rfl rfl (fun hok => (xP hok 0 rfl (xP hok 1 rfl (wx_len hok 2 rfl rfl rfl (freshS_eq rfl) rfl rfl rfl tE_22 (xP hok 3 rfl (wx_as (d := 26) (v' := .bool (decide (u1_6 < l2.length))) (S' := [_,_,_,_,_,_]) rfl rfl (natlt (a := u1_6) (b := l2.length)) (xP hok 4 rfl (wx_as (d := 27) (v' := .bool true) (S' := [_,_,_,_,_,_,_]) rfl rfl (bool_is hs27) (xP hok 5 rfl (xP hok 6 rfl (wx_indexA hok 7 0 u1_6 rfl rfl rfl (freshS_eq rfl) rfl rfl rfl rfl rfl rfl hx30 tE_22 tS_5 (fun b30 q30 cs30 hlx30 => (wx_openR R_u8_opens 1 rfl (fun r30 er30 _ => ?_))))))))))))))
       subst er30
       refine wx_load hok 8 0 0 rfl rfl rfl (freshS_eq rfl) rfl rfl rfl rfl (cs := [_]) rfl tS_5 tA_5 rfl rfl (xP hok 9 rfl (xP hok 10 rfl (wx_indexA hok 11 3 u1_6 rfl rfl rfl (freshS_eq rfl) rfl rfl rfl rfl rfl rfl hx34 tE_22 tS_5 (fun b34 q34 cs34 hlx34 => (wx_openR R_u8_opens 1 rfl (fun r34 er34 _ => ?_))))))
       subst er34
       refine wx_load hok 12 0 0 rfl rfl rfl (freshS_eq rfl) rfl rfl rfl rfl (cs := [_]) rfl tS_5 tA_5 rfl rfl (xP hok 13 rfl (xP hok 14 rfl (xP hok 15 rfl (xP hok 16 rfl (wx_as (d := 39) (v' := .bool true) (S' := [_,_,_,_,_,_,_,_,_,_,_,_,_,_,_,_,_,_,_]) rfl rfl (bool_is hs39) (xO hok 17 rfl (xO hok 18 rfl (xO hok 19 rfl (xO hok 20 rfl (xO hok 21 rfl (xO hok 22 rfl (xO hok 23 rfl (xO hok 24 rfl ?_)))))))))))))
       refine xO hok 25 rfl (xO hok 26 rfl (xO hok 27 rfl (xO hok 28 rfl (xO hok 29 rfl (xS hok 30 rfl (wO rfl (wl_nil (we_x [0,1,2,3,4,5] [] rfl rfl (xO hok 31 rfl (xO hok 32 rfl (xO hok 33 rfl (xP hok 34 rfl (wx_done hok rfl ?_)))))))))))))
       have hE := (Option.some.inj hm).symm
       refine we_join true hE [6,5,1,57] rfl (asK [4,5] rfl) rfl
      ·
       rcases ite_some hm with ⟨hs44, hm⟩ | ⟨hs44, hm⟩
       ·
        obtain ⟨x47, hx47, hm⟩ := bindO_some hm
        obtain ⟨hg52, hm⟩ := gd_some hm
        obtain ⟨_, hc53, hm⟩ := bindO_some hm
        try dsimp only at hm
        refine wc_draw [0,1,2,3,4,5,6,7,8,9,10,11,12,13,14,15,16,17,18,19,20,21,22,23,24,25,26,27,28,29,31,32,33,34] rfl rfl (fun hok => (xP hok 0 rfl (xP hok 1 rfl (wx_len hok 2 rfl rfl rfl (freshS_eq rfl) rfl rfl rfl tE_22 (xP hok 3 rfl (wx_as (d := 26) (v' := .bool (decide (u1_6 < l2.length))) (S' := [_,_,_,_,_,_]) rfl rfl (natlt (a := u1_6) (b := l2.length)) (xP hok 4 rfl (wx_as (d := 27) (v' := .bool true) (S' := [_,_,_,_,_,_,_]) rfl rfl (bool_is hs27) (xP hok 5 rfl (xP hok 6 rfl (wx_indexA hok 7 0 u1_6 rfl rfl rfl (freshS_eq rfl) rfl rfl rfl rfl rfl rfl hx30 tE_22 tS_5 (fun b30 q30 cs30 hlx30 => (wx_openR R_u8_opens 1 rfl (fun r30 er30 _ => ?_))))))))))))))
        subst er30
        refine wx_load hok 8 0 0 rfl rfl rfl (freshS_eq rfl) rfl rfl rfl rfl (cs := [_]) rfl tS_5 tA_5 rfl rfl (xP hok 9 rfl (xP hok 10 rfl (wx_indexA hok 11 3 u1_6 rfl rfl rfl (freshS_eq rfl) rfl rfl rfl rfl rfl rfl hx34 tE_22 tS_5 (fun b34 q34 cs34 hlx34 => (wx_openR R_u8_opens 1 rfl (fun r34 er34 _ => ?_))))))
        subst er34
        refine wx_load hok 12 0 0 rfl rfl rfl (freshS_eq rfl) rfl rfl rfl rfl (cs := [_]) rfl tS_5 tA_5 rfl rfl (xP hok 13 rfl (xP hok 14 rfl (xP hok 15 rfl (xP hok 16 rfl (wx_as (d := 39) (v' := .bool false) (S' := [_,_,_,_,_,_,_,_,_,_,_,_,_,_,_,_,_,_,_]) rfl rfl (bool_is hs39) (xP hok 17 rfl (xP hok 18 rfl (wx_len hok 19 rfl rfl rfl (freshS_eq rfl) rfl rfl rfl tE_22 (xP hok 20 rfl (wx_as (d := 43) (v' := .bool (decide (l2.length ≤ u1_6))) (S' := [_,_,_,_,_,_,_,_,_,_,_,_,_,_,_,_,_,_,_,_,_,_,_]) rfl rfl (natge (a := u1_6) (b := l2.length)) (xP hok 21 rfl (wx_as (d := 44) (v' := .bool true) (S' := [_,_,_,_,_,_,_,_,_,_,_,_,_,_,_,_,_,_,_,_,_,_,_,_]) rfl rfl (bool_is hs44) (xP hok 22 rfl ?_)))))))))))))
        refine xP hok 23 rfl (wx_indexA hok 24 4 u1_6 rfl rfl rfl (freshS_eq rfl) rfl rfl rfl rfl rfl rfl hx47 tE_22 tS_5 (fun b47 q47 cs47 hlx47 => (wx_openR R_u8_opens 1 rfl (fun r47 er47 _ => ?_))))
        subst er47
        refine wx_load hok 25 0 0 rfl rfl rfl (freshS_eq rfl) rfl rfl rfl rfl (cs := [_]) rfl tS_5 tA_5 rfl rfl (xP hok 26 rfl (xP hok 27 rfl (wx_len hok 28 rfl rfl rfl (freshS_eq rfl) rfl rfl rfl tE_22 (xP hok 29 rfl (wx_as (d := 52) (v' := .int .i64 (((u1_6 : Nat) : Int) - ((l2.length : Nat) : Int))) (S' := [_,_,_,_,_,_,_,_,_,_,_,_,_,_,_,_,_,_,_,_,_,_,_,_,_,_,_,_,_,_,_,_]) rfl rfl (i64_in hg52) (xS hok 30 rfl (wC [] [] rfl fn_20 rfl (w_ropewalkkit_markByte_s N 1 (((u1_6 : Nat) : Int) - ((l2.length : Nat) : Int)) hc53) (asK [] rfl) rfl (H' := []) rfl ?_)))))))
        rintro _ _ _ ⟨rfl, rfl, rfl⟩
        refine wl_nil (we_x [0,1,2,3,4,5,6,7] [] rfl rfl (xP hok 31 rfl (xP hok 32 rfl (xP hok 33 rfl (xP hok 34 rfl (wx_done hok rfl ?_))))))
        have hE := (Option.some.inj hm).symm
        refine we_join (!(x47 == (IntKind.wrap .u8 (Int.fdiv (IntKind.wrap .u64 ((IntKind.wrap .u64 (IntKind.wrap .i64 ((IntKind.wrap .i64 (1000003 * (IntKind.wrap .i64 (1 + 7)))) + (((u1_6 : Nat) : Int) - ((l2.length : Nat) : Int))))) * 11400714819323198485)) (2 ^ (56)))))) hE [6,5,1,57] rfl (asK [6,7] rfl) rfl
       ·
        refine wc_draw [0,1,2,3,4,5,6,7,8,9,10,11,12,13,14,15,16,17,18,19,20,21,22,23,24,25,26,27,28,29,31,32,33,34] rfl rfl (fun hok => (xP hok 0 rfl (xP hok 1 rfl (wx_len hok 2 rfl rfl rfl (freshS_eq rfl) rfl rfl rfl tE_22 (xP hok 3 rfl (wx_as (d := 26) (v' := .bool (decide (u1_6 < l2.length))) (S' := [_,_,_,_,_,_]) rfl rfl (natlt (a := u1_6) (b := l2.length)) (xP hok 4 rfl (wx_as (d := 27) (v' := .bool true) (S' := [_,_,_,_,_,_,_]) rfl rfl (bool_is hs27) (xP hok 5 rfl (xP hok 6 rfl (wx_indexA hok 7 0 u1_6 rfl rfl rfl (freshS_eq rfl) rfl rfl rfl rfl rfl rfl hx30 tE_22 tS_5 (fun b30 q30 cs30 hlx30 => (wx_openR R_u8_opens 1 rfl (fun r30 er30 _ => ?_))))))))))))))
        subst er30
        refine wx_load hok 8 0 0 rfl rfl rfl (freshS_eq rfl) rfl rfl rfl rfl (cs := [_]) rfl tS_5 tA_5 rfl rfl (xP hok 9 rfl (xP hok 10 rfl (wx_indexA hok 11 3 u1_6 rfl rfl rfl (freshS_eq rfl) rfl rfl rfl rfl rfl rfl hx34 tE_22 tS_5 (fun b34 q34 cs34 hlx34 => (wx_openR R_u8_opens 1 rfl (fun r34 er34 _ => ?_))))))
        subst er34
        refine wx_load hok 12 0 0 rfl rfl rfl (freshS_eq rfl) rfl rfl rfl rfl (cs := [_]) rfl tS_5 tA_5 rfl rfl (xP hok 13 rfl (xP hok 14 rfl (xP hok 15 rfl (xP hok 16 rfl (wx_as (d := 39) (v' := .bool false) (S' := [_,_,_,_,_,_,_,_,_,_,_,_,_,_,_,_,_,_,_]) rfl rfl (bool_is hs39) (xP hok 17 rfl (xP hok 18 rfl (wx_len hok 19 rfl rfl rfl (freshS_eq rfl) rfl rfl rfl tE_22 (xP hok 20 rfl (wx_as (d := 43) (v' := .bool (decide (l2.length ≤ u1_6))) (S' := [_,_,_,_,_,_,_,_,_,_,_,_,_,_,_,_,_,_,_,_,_,_,_]) rfl rfl (natge (a := u1_6) (b := l2.length)) (xP hok 21 rfl (wx_as (d := 44) (v' := .bool false) (S' := [_,_,_,_,_,_,_,_,_,_,_,_,_,_,_,_,_,_,_,_,_,_,_,_]) rfl rfl (bool_is hs44) (xO hok 22 rfl ?_)))))))))))))
        refine xO hok 23 rfl (xO hok 24 rfl (xO hok 25 rfl (xO hok 26 rfl (xO hok 27 rfl (xO hok 28 rfl (xO hok 29 rfl (xS hok 30 rfl (wO rfl (wl_nil (we_x [0,1,2,3,4,5] [] rfl rfl (xO hok 31 rfl (xO hok 32 rfl (xP hok 33 rfl ?_)))))))))))))
        refine xP hok 34 rfl (wx_done hok rfl ?_)
        have hE := (Option.some.inj hm).symm
        refine we_join false hE [6,5,1,57] rfl (asK [4,5] rfl) rfl
     ·
      rcases ite_some hm with ⟨hs44, hm⟩ | ⟨hs44, hm⟩
      ·
       obtain ⟨x47, hx47, hm⟩ := bindO_some hm
       obtain ⟨hg52, hm⟩ := gd_some hm
       obtain ⟨_, hc53, hm⟩ := bindO_some hm
       try dsimp only at hm
       refine wc_draw [0,1,2,3,4,5,6,7,8,9,10,11,12,13,14,15,16,17,18,19,20,21,22,23,24,25,26,27,28,29,31,32,33,34] rfl rfl (fun hok => (xP hok 0 rfl (xP hok 1 rfl (wx_len hok 2 rfl rfl rfl (freshS_eq rfl) rfl rfl rfl tE_22 (xP hok 3 rfl (wx_as (d := 26) (v' := .bool (decide (u1_6 < l2.length))) (S' := [_,_,_,_,_,_]) rfl rfl (natlt (a := u1_6) (b := l2.length)) (xP hok 4 rfl (wx_as (d := 27) (v' := .bool false) (S' := [_,_,_,_,_,_,_]) rfl rfl (bool_is hs27) (xO hok 5 rfl (xO hok 6 rfl (xO hok 7 rfl (xO hok 8 rfl (xO hok 9 rfl (xO hok 10 rfl ?_))))))))))))))
       refine xO hok 11 rfl (xO hok 12 rfl (xO hok 13 rfl (xO hok 14 rfl (xP hok 15 rfl (xP hok 16 rfl (xP hok 17 rfl (xP hok 18 rfl (wx_len hok 19 rfl rfl rfl (freshS_eq rfl) rfl rfl rfl tE_22 (xP hok 20 rfl (wx_as (d := 43) (v' := .bool (decide (l2.length ≤ u1_6))) (S' := [_,_,_,_,_,_,_,_,_,_,_,_,_,_,_,_,_,_,_,_,_,_,_]) rfl rfl (natge (a := u1_6) (b := l2.length)) (xP hok 21 rfl (wx_as (d := 44) (v' := .bool true) (S' := [_,_,_,_,_,_,_,_,_,_,_,_,_,_,_,_,_,_,_,_,_,_,_,_]) rfl rfl (bool_is hs44) (xP hok 22 rfl ?_)))))))))))))
       refine xP hok 23 rfl (wx_indexA hok 24 0 u1_6 rfl rfl rfl (freshS_eq rfl) rfl rfl rfl rfl rfl rfl hx47 tE_22 tS_5 (fun b47 q47 cs47 hlx47 => (wx_openR R_u8_opens 1 rfl (fun r47 er47 _ => ?_))))
       subst er47
       refine wx_load hok 25 0 0 rfl rfl rfl (freshS_eq rfl) rfl rfl rfl rfl (cs := [_]) rfl tS_5 tA_5 rfl rfl (xP hok 26 rfl (xP hok 27 rfl (wx_len hok 28 rfl rfl rfl (freshS_eq rfl) rfl rfl rfl tE_22 (xP hok 29 rfl (wx_as (d := 52) (v' := .int .i64 (((u1_6 : Nat) : Int) - ((l2.length : Nat) : Int))) (S' := [_,_,_,_,_,_,_,_,_,_,_,_,_,_,_,_,_,_,_,_,_,_,_,_,_,_,_,_,_,_,_,_]) rfl rfl (i64_in hg52) (xS hok 30 rfl (wC [] [] rfl fn_20 rfl (w_ropewalkkit_markByte_s N 1 (((u1_6 : Nat) : Int) - ((l2.length : Nat) : Int)) hc53) (asK [] rfl) rfl (H' := []) rfl ?_)))))))
       rintro _ _ _ ⟨rfl, rfl, rfl⟩
       refine wl_nil (we_x [0,1,2,3] [] rfl rfl (xP hok 31 rfl (xP hok 32 rfl (xP hok 33 rfl (xP hok 34 rfl (wx_done hok rfl ?_))))))
       have hE := (Option.some.inj hm).symm
       refine we_join (!(x47 == (IntKind.wrap .u8 (Int.fdiv (IntKind.wrap .u64 ((IntKind.wrap .u64 (IntKind.wrap .i64 ((IntKind.wrap .i64 (1000003 * (IntKind.wrap .i64 (1 + 7)))) + (((u1_6 : Nat) : Int) - ((l2.length : Nat) : Int))))) * 11400714819323198485)) (2 ^ (56)))))) hE [6,5,1,57] rfl (asK [2,3] rfl) rfl
      ·
       refine wc_draw [0,1,2,3,4,5,6,7,8,9,10,11,12,13,14,15,16,17,18,19,20,21,22,23,24,25,26,27,28,29,31,32,33,34] rfl rfl (fun hok => (xP hok 0 rfl (xP hok 1 rfl (wx_len hok 2 rfl rfl rfl (freshS_eq rfl) rfl rfl rfl tE_22 (xP hok 3 rfl (wx_as (d := 26) (v' := .bool (decide (u1_6 < l2.length))) (S' := [_,_,_,_,_,_]) rfl rfl (natlt (a := u1_6) (b := l2.length)) (xP hok 4 rfl (wx_as (d := 27) (v' := .bool false) (S' := [_,_,_,_,_,_,_]) rfl rfl (bool_is hs27) (xO hok 5 rfl (xO hok 6 rfl (xO hok 7 rfl (xO hok 8 rfl (xO hok 9 rfl (xO hok 10 rfl ?_))))))))))))))
       refine xO hok 11 rfl (xO hok 12 rfl (xO hok 13 rfl (xO hok 14 rfl (xP hok 15 rfl (xP hok 16 rfl (xP hok 17 rfl (xP hok 18 rfl (wx_len hok 19 rfl rfl rfl (freshS_eq rfl) rfl rfl rfl tE_22 (xP hok 20 rfl (wx_as (d := 43) (v' := .bool (decide (l2.length ≤ u1_6))) (S' := [_,_,_,_,_,_,_,_,_,_,_,_,_,_,_,_,_,_,_,_,_,_,_]) rfl rfl (natge (a := u1_6) (b := l2.length)) (xP hok 21 rfl (wx_as (d := 44) (v' := .bool false) (S' := [_,_,_,_,_,_,_,_,_,_,_,_,_,_,_,_,_,_,_,_,_,_,_,_]) rfl rfl (bool_is hs44) (xO hok 22 rfl ?_)))))))))))))
       refine xO hok 23 rfl (xO hok 24 rfl (xO hok 25 rfl (xO hok 26 rfl (xO hok 27 rfl (xO hok 28 rfl (xO hok 29 rfl (xS hok 30 rfl (wO rfl (wl_nil (we_x [0,1] [] rfl rfl (xO hok 31 rfl (xO hok 32 rfl (xP hok 33 rfl ?_)))))))))))))
       refine xP hok 34 rfl (wx_done hok rfl ?_)
       have hE := (Option.some.inj hm).symm
       refine we_join false hE [6,5,1,57] rfl (asK [0,1] rfl) rfl
    ·
     rintro j_2_57 hE
     try dsimp only
     have hm := hLj_2
     rw [hE] at hm
     refine wc_cond rfl (fun hb57 => ?_) (fun hb57 => ?_)
     ·
      replace hm := iteT hm hb57
      refine wc_keep [] (S' := []) rfl (wc_seq (wc_region (wP rfl (wl_nil (we_then (wc_ret (we_block_ret (we_then_ret (we_then_ret (we_block_ret (we_then_ret ?_)))))))))))
      have hE := (Option.some.inj hm).symm
      replace hE := link_inr hLu1 hE
      replace hE := link_inr hLj_1 hE
      replace hE := hE.symm
      subst hE
      refine ret_one (Hr := []) [] Tryz.results8 (res_tmp rfl) ⟨rfl, rfl, rfl⟩ (asK [] rfl) rfl rfl (.inl rfl)
     ·
      replace hm := iteF hm hb57
      refine wc_keep [6,5,1] (S' := [_,_,_]) rfl (wc_skip (we_block_normal (we_then (wc_region (wP rfl (wP rfl ?_))))))
      obtain ⟨hg22, hm⟩ := gd_some hm
      refine wl_as (d := 22) (v' := .int .i64 ((u1_6 + 1 : Nat) : Int)) (S' := [_,_,_,_]) rfl rfl (nat_add (a := u1_6) (b := 1) hg22) (wl_pure (S' := [_,_,_,_]) rfl rfl rfl rfl rfl (wl_nil ?_))
      have hE := (Option.some.inj hm).symm
      replace hE := link_inl hLu1 hE
      refine we_roundK (_, u1_6 + 1) (Nat.lt_succ_self _) hE [6,5,1] rfl (asK [0,1] rfl) rfl
   ·
    replace hm := iteF hm hb20
    refine wc_keep [] (S' := []) rfl (wc_exit (we_then_exit (we_then_exit (we_block_hit ?_))))
    have hE := (Option.some.inj hm).symm
    replace hE := link_inr hLu1 hE
    refine we_join () hE [] rfl (asK [] rfl) rfl
  ·
   rintro _ hE
   try dsimp only
   have hm := link_inl hLj_1 hE
   try dsimp only at hm
   refine wc_seq (wc_region (wP rfl (wl_nil (we_then (wc_ret ?_)))))
   have hE := (Option.some.inj hm).symm
   replace hE := hE.symm
   subst hE
   refine ret_one (Hr := []) [] Tryz.results8 (res_tmp rfl) ⟨rfl, rfl, rfl⟩ (asK [] rfl) rfl rfl (.inl rfl)
theorem w_ropewalkkit_OverBytes_V_s (N : Nat) (qp0 : Option Addr) (qn1 : Nat) (qc2 : Nat) (l0 : List Int) (k1 : Nat) (o0 : List Int) (hm : m_ropewalkkit_OverBytes_V N l0 k1 = some o0) : Spec Tryz.prog 9 [.slice qp0 k1 qc2] [] [.own 5 1 R_u8 (.slice qp0 qn1 qc2) l0] (fun v Φr Hr => v = .tuple #[] ∧ Φr = [] ∧ Hr = [.own 5 1 R_u8 (.slice qp0 qn1 qc2) o0]) := by
 unfold m_ropewalkkit_OverBytes_V at hm
 refine spec_of Tryz.func9 rfl Tryz.ntmps9 rfl (S := [_]) rfl (fun C => (wc_seq (wc_region (wP rfl (wP rfl (wN rfl tE_22 (wP rfl ?_)))))))
 obtain ⟨hg7, hm⟩ := gd_some hm
 refine wl_as (d := 7) (v' := .int .i64 ((k1 + 12 : Nat) : Int)) (S' := [_,_,_,_]) rfl rfl (nat_add (a := k1) (b := 12) hg7) ?_
 obtain ⟨hg8, hm⟩ := gd_some hm
 refine wl_ownSpot 0 rfl (fun hsp8 hcm8 => (wl_sliceTo rfl rfl rfl (freshS_eq rfl) rfl rfl rfl rfl tE_22 tS_5 (Nat.le_trans hg8 (by rw [← hcm8.2]; exact hcm8.1)) hsp8 (wP rfl (wl_nil (we_then (wc_keep [2] (S' := [_]) rfl (wc_seq (wc_region (wP rfl (wl_nil (we_then (wc_block (wc_loop (σ := Nat × Nat × (List Int)) (fun (nu1, u1_3, u1_2_l) => iter (m_ropewalkkit_OverBytes_V_L1 N k1) nu1 (u1_3, u1_2_l) = some o0) (fun (nu1, u1_3, u1_2_l) => nu1) (fun (nu1, u1_3, u1_2_l) => [(3, .int .i64 ((u1_3 : Nat) : Int)), (2, .slice qp0 (k1 + 12) qc2)]) (fun (nu1, u1_3, u1_2_l) => []) (fun (nu1, u1_3, u1_2_l) => [.own 5 1 R_u8 (.slice qp0 qn1 qc2) u1_2_l]) (N, 0, l0) hm [3,2] rfl (asK [] rfl) rfl (fun s_ hm => ?_))))))))))))))
 obtain ⟨nu1, u1_3, u1_2_l⟩ := s_
 try dsimp only at hm ⊢
 obtain ⟨mu1, bu1, hnu1, hq, hLu1⟩ := iter_some hm
 clear hm
 subst hnu1
 replace hm := hq
 clear hq
 unfold m_ropewalkkit_OverBytes_V_L1 at hm
 try dsimp only at hm
 refine wc_seq (wc_seq (wc_region (wP rfl (wP rfl (wN rfl tE_22 (wP rfl (wl_as (d := 12) (v' := .bool (decide (u1_3 < (k1 + 12)))) (S' := [_,_,_,_,_]) rfl rfl (natlt (a := u1_3) (b := k1 + 12)) (wl_nil (we_then (wc_keep [12,3,2] (S' := [_,_,_]) rfl ?_))))))))))
 refine wc_cond rfl (fun hb12 => ?_) (fun hb12 => ?_)
 ·
  replace hm := iteT hm hb12
  refine wc_keep [3,2] (S' := [_,_]) rfl (wc_skip (we_then (wc_seq (wc_block (wc_region (wP rfl (wP rfl (wP rfl ?_))))))))
  obtain ⟨_, hc18, hm⟩ := bindO_some hm
  try dsimp only at hm
  refine wC [] [0] rfl fn_20 rfl (w_ropewalkkit_markByte_s N 2 ((u1_3 : Nat) : Int) hc18) (asK [] rfl) rfl (H' := [_]) rfl ?_
  rintro _ _ _ ⟨rfl, rfl, rfl⟩
  obtain ⟨x19, hx19, hm⟩ := bindO_some hm
  obtain ⟨hqx19, hm⟩ := gd_some hm
  refine wl_indexS 0 u1_3 rfl rfl rfl (freshS_eq rfl) rfl rfl rfl rfl rfl hqx19 (get_lt hx19) tE_22 tS_5 (fun g19 eg19 => ?_)
  subst eg19
  refine wl_storeRow (u := (IntKind.wrap .u8 (Int.fdiv (IntKind.wrap .u64 ((IntKind.wrap .u64 (IntKind.wrap .i64 ((IntKind.wrap .i64 (1000003 * (IntKind.wrap .i64 (2 + 7)))) + ((u1_3 : Nat) : Int)))) * 11400714819323198485)) (2 ^ (56))))) 0 u1_3 rfl rfl rfl rfl rfl (get_lt hx19) rfl rfl tS_5 rfl (fun F w hφ => ⟨(), rfl, ask_nil⟩) (H' := [_]) rfl (wl_nil (we_block_normal (we_then (wc_keep [3,2] (S' := [_,_]) rfl (wc_region (wP rfl (wP rfl ?_)))))))
  obtain ⟨hg14, hm⟩ := gd_some hm
  refine wl_as (d := 14) (v' := .int .i64 ((u1_3 + 1 : Nat) : Int)) (S' := [_,_,_]) rfl rfl (nat_add (a := u1_3) (b := 1) hg14) (wl_pure (S' := [_,_,_]) rfl rfl rfl rfl rfl (wl_nil ?_))
  have hE := (Option.some.inj hm).symm
  replace hE := link_inl hLu1 hE
  refine we_roundK (_, u1_3 + 1, (u1_2_l.set u1_3 (IntKind.wrap .u8 (Int.fdiv (IntKind.wrap .u64 ((IntKind.wrap .u64 (IntKind.wrap .i64 ((IntKind.wrap .i64 (1000003 * (IntKind.wrap .i64 (2 + 7)))) + ((u1_3 : Nat) : Int)))) * 11400714819323198485)) (2 ^ (56)))))) (Nat.lt_succ_self _) hE [3,2] rfl (asK [] rfl) rfl
 ·
  replace hm := iteF hm hb12
  refine wc_keep [] (S' := []) rfl (wc_exit (we_then_exit (we_then_exit (we_block_hit ?_))))
  have hE := (Option.some.inj hm).symm
  replace hE := link_inr hLu1 hE
  replace hE := hE.symm
  subst hE
  refine ret_none (Hr := [_]) [0] Tryz.results9 ⟨rfl, rfl, rfl⟩ (asK [] rfl) rfl rfl (.inr rfl)
theorem w_ropewalkkit_SameBytes_s (N : Nat) (qp0 : Option Addr) (qc1 : Nat) (l0 : List Int) (qp2 : Option Addr) (qc3 : Nat) (l1 : List Int) (o0 : Bool) (hm : m_ropewalkkit_SameBytes N l0 l1 = some o0) : Spec Tryz.prog 12 [.slice qp0 l0.length qc1, .slice qp2 l1.length qc3] [.sli 1 R_u8 qp0 qc1 l0, .sli 1 R_u8 qp2 qc3 l1] [] (fun v Φr Hr => v = .bool o0 ∧ Φr = [] ∧ Hr = []) := by
 unfold m_ropewalkkit_SameBytes at hm
 refine spec_of Tryz.func12 rfl Tryz.ntmps12 rfl (S := [_,_]) rfl (fun C => (wc_seq (wc_region (wP rfl (wl_nil (we_then (wc_keep [0,1] (S' := [_,_]) rfl (wc_seq (wc_seq (wc_region (wP rfl (wN rfl tE_22 (wP rfl (wN rfl tE_22 ?_))))))))))))))
 refine wP rfl (wl_as (d := 10) (v' := .bool (l0.length != l1.length)) (S' := [_,_,_,_,_,_]) rfl rfl (natne (a := l0.length) (b := l1.length)) (wl_nil (we_then (wc_keep [10,0,1] (S' := [_,_,_]) rfl ?_))))
 refine wc_cond rfl (fun hb10 => ?_) (fun hb10 => ?_)
 ·
  replace hm := iteT hm hb10
  refine wc_keep [] (S' := []) rfl (wc_seq (wc_region (wP rfl (wl_nil (we_then (wc_ret (we_then_ret ?_)))))))
  have hE := (Option.some.inj hm).symm
  replace hE := hE.symm
  subst hE
  refine ret_one (Hr := []) [] Tryz.results12 (res_tmp rfl) ⟨rfl, rfl, rfl⟩ (asK [] rfl) rfl rfl (.inl rfl)
 ·
  replace hm := iteF hm hb10
  refine wc_keep [0,1] (S' := [_,_]) rfl (wc_skip (we_then (wc_seq ?_)))
  obtain ⟨bj_1, hm, hLj_1⟩ := bindS_some hm
  refine wc_cut (σ := Unit) (fun _ => bj_1 = .inl ()) (fun _ => []) (fun _ => []) (fun _ => []) ?_ ?_
  ·
   refine wc_seq (wc_region (wP rfl (wl_nil (we_then (wc_block (wc_loop (σ := Nat × Nat) (fun (nu1, u1_5) => iter (m_ropewalkkit_SameBytes_L1 N l0 l1) nu1 u1_5 = some bj_1) (fun (nu1, u1_5) => nu1) (fun (nu1, u1_5) => [(5, .int .i64 ((u1_5 : Nat) : Int)), (0, .slice qp0 l0.length qc1), (1, .slice qp2 l1.length qc3)]) (fun (nu1, u1_5) => [.sli 1 R_u8 qp0 qc1 l0, .sli 1 R_u8 qp2 qc3 l1]) (fun (nu1, u1_5) => []) (N, 0) hm [5,0,1] rfl (asK [0,1] rfl) rfl (fun s_ hm => ?_)))))))
   obtain ⟨nu1, u1_5⟩ := s_
   try dsimp only at hm ⊢
   obtain ⟨mu1, bu1, hnu1, hq, hLu1⟩ := iter_some hm
   clear hm
   subst hnu1
   replace hm := hq
   clear hq
   unfold m_ropewalkkit_SameBytes_L1 at hm
   try dsimp only at hm
   refine wc_seq (wc_seq (wc_region (wP rfl (wP rfl (wN rfl tE_22 (wP rfl (wl_as (d := 14) (v' := .bool (decide (u1_5 < l0.length))) (S' := [_,_,_,_,_,_]) rfl rfl (natlt (a := u1_5) (b := l0.length)) (wl_nil (we_then (wc_keep [14,5,0,1] (S' := [_,_,_,_]) rfl ?_))))))))))
   refine wc_cond rfl (fun hb14 => ?_) (fun hb14 => ?_)
   ·
    replace hm := iteT hm hb14
    refine wc_keep [5,0,1] (S' := [_,_,_]) rfl (wc_skip (we_then (wc_seq (wc_block (wc_seq ?_)))))
    obtain ⟨x19, hx19, hm⟩ := bindO_some hm
    obtain ⟨x23, hx23, hm⟩ := bindO_some hm
    refine wc_draw [0,1,2,3,4,5,6,7,8] rfl rfl (fun hok => (xP hok 0 rfl (xP hok 1 rfl (wx_indexA hok 2 0 u1_5 rfl rfl rfl (freshS_eq rfl) rfl rfl rfl rfl rfl rfl hx19 tE_22 tS_5 (fun b19 q19 cs19 hlx19 => (wx_openR R_u8_opens 1 rfl (fun r19 er19 _ => ?_)))))))
    subst er19
    refine wx_load hok 3 0 0 rfl rfl rfl (freshS_eq rfl) rfl rfl rfl rfl (cs := [_]) rfl tS_5 tA_5 rfl rfl (xP hok 4 rfl (xP hok 5 rfl (wx_indexA hok 6 3 u1_5 rfl rfl rfl (freshS_eq rfl) rfl rfl rfl rfl rfl rfl hx23 tE_22 tS_5 (fun b23 q23 cs23 hlx23 => (wx_openR R_u8_opens 1 rfl (fun r23 er23 _ => ?_))))))
    subst er23
    refine wx_load hok 7 0 0 rfl rfl rfl (freshS_eq rfl) rfl rfl rfl rfl (cs := [_]) rfl tS_5 tA_5 rfl rfl (xP hok 8 rfl (wx_done hok rfl (we_then (wc_keep [25,5,0,1] (S' := [_,_,_,_]) rfl ?_))))
    refine wc_cond rfl (fun hb25 => ?_) (fun hb25 => ?_)
    ·
     replace hm := iteT hm hb25
     refine wc_keep [] (S' := []) rfl (wc_seq (wc_region (wP rfl (wl_nil (we_then (wc_ret (we_block_ret (we_then_ret (we_then_ret (we_block_ret (we_then_ret ?_)))))))))))
     have hE := (Option.some.inj hm).symm
     replace hE := link_inr hLu1 hE
     replace hE := link_inr hLj_1 hE
     replace hE := hE.symm
     subst hE
     refine ret_one (Hr := []) [] Tryz.results12 (res_tmp rfl) ⟨rfl, rfl, rfl⟩ (asK [] rfl) rfl rfl (.inl rfl)
    ·
     replace hm := iteF hm hb25
     refine wc_keep [5,0,1] (S' := [_,_,_]) rfl (wc_skip (we_block_normal (we_then (wc_region (wP rfl (wP rfl ?_))))))
     obtain ⟨hg16, hm⟩ := gd_some hm
     refine wl_as (d := 16) (v' := .int .i64 ((u1_5 + 1 : Nat) : Int)) (S' := [_,_,_,_]) rfl rfl (nat_add (a := u1_5) (b := 1) hg16) (wl_pure (S' := [_,_,_,_]) rfl rfl rfl rfl rfl (wl_nil ?_))
     have hE := (Option.some.inj hm).symm
     replace hE := link_inl hLu1 hE
     refine we_roundK (_, u1_5 + 1) (Nat.lt_succ_self _) hE [5,0,1] rfl (asK [4,5] rfl) rfl
   ·
    replace hm := iteF hm hb14
    refine wc_keep [] (S' := []) rfl (wc_exit (we_then_exit (we_then_exit (we_block_hit ?_))))
    have hE := (Option.some.inj hm).symm
    replace hE := link_inr hLu1 hE
    refine we_join () hE [] rfl (asK [] rfl) rfl
  ·
   rintro _ hE
   try dsimp only
   have hm := link_inl hLj_1 hE
   try dsimp only at hm
   refine wc_seq (wc_region (wP rfl (wl_nil (we_then (wc_ret ?_)))))
   have hE := (Option.some.inj hm).symm
   replace hE := hE.symm
   subst hE
   refine ret_one (Hr := []) [] Tryz.results12 (res_tmp rfl) ⟨rfl, rfl, rfl⟩ (asK [] rfl) rfl rfl (.inl rfl)
theorem ap_putBytes (g : Nat) (p4 : Option Addr) (c4 : Nat) (h4 : List Hdr) (p5 : Option Addr) (c5 : Nat) (h5 : List Hdr) (p : Option Addr) (n c : Nat) (hL5 : h5.length + 1 ≤ 1073741824) (hB5 : Bd h5) (hn : n ≤ 10000) : Spec Tryz.prog 32 [.pointer (some ⟨g, 0, none⟩), .slice p n c] [] [.blk g [.slice none 0 0, .slice none 0 0, .slice none 0 0, .slice none 0 0, .slice p4 h4.length c4, .slice p5 h5.length c5, .slice none 0 0, .slice none 0 0, .slice none 0 0, .slice none 0 0, .slice none 0 0, .slice none 0 0, .slice none 0 0, .slice none 0 0, .slice none 0 0, .slice none 0 0, .slice none 0 0, .slice none 0 0, .slice none 0 0, .slice none 0 0, .slice none 0 0, .slice none 0 0, .slice none 0 0, .slice none 0 0, .slice none 0 0, .slice none 0 0, .slice none 0 0, .slice none 0 0, .slice none 0 0] 90, .own 22 1 hdrR (.slice p5 h5.length c5) h5, flatF 5 1 (h5.map row0), flatF 5 1 ([row0 (p, n, c)])] (fun v Φr Hr => ∃ (q5 : Option Addr) (d5 : Nat) (k5 : List Hdr), k5.length ≤ h5.length + 1 ∧ Bd k5 ∧ k5 = h5 ++ ([(p, n, c)] : List Hdr) ∧ v = .tuple #[] ∧ Φr = [] ∧ Hr = [.blk g [.slice none 0 0, .slice none 0 0, .slice none 0 0, .slice none 0 0, .slice p4 h4.length c4, .slice q5 k5.length d5, .slice none 0 0, .slice none 0 0, .slice none 0 0, .slice none 0 0, .slice none 0 0, .slice none 0 0, .slice none 0 0, .slice none 0 0, .slice none 0 0, .slice none 0 0, .slice none 0 0, .slice none 0 0, .slice none 0 0, .slice none 0 0, .slice none 0 0, .slice none 0 0, .slice none 0 0, .slice none 0 0, .slice none 0 0, .slice none 0 0, .slice none 0 0, .slice none 0 0, .slice none 0 0] 90, .own 22 1 hdrR (.slice q5 k5.length d5) k5, flatF 5 1 (k5.map row0)]) := by
 refine spec_of Tryz.func32 rfl Tryz.ntmps32 rfl (S := [_,_]) rfl (fun C => (wc_region (wP rfl (wP rfl (wP rfl (wF rfl tF_90_5 (wD 0 5 rfl tS_37 tA_37 rfl (wP rfl (wl_buildSlice rfl rfl rfl (freshS_eq rfl) rfl tE_37 tS_22 tZ_22 rfl (zs := [.slice none 0 0]) (by kernel_rfl) rfl (out := [_]) rfl (fun g10 => (wl_appendH ([(p, n, c)] : List Hdr) 2 0 rfl rfl rfl (freshS_eq rfl) rfl rfl rfl rfl rfl (fun F w hφ => ⟨[_],[], rfl, rfl, rfl, rfl⟩) tE_37 tR_22 rfl rfl (by simp; omega) (by simp; omega) (H2 := fun p11 c11 => [.blk g10 [.slice p n c] 22, .blk g [.slice none 0 0, .slice none 0 0, .slice none 0 0, .slice none 0 0, .slice p4 h4.length c4, .slice p5 h5.length c5, .slice none 0 0, .slice none 0 0, .slice none 0 0, .slice none 0 0, .slice none 0 0, .slice none 0 0, .slice none 0 0, .slice none 0 0, .slice none 0 0, .slice none 0 0, .slice none 0 0, .slice none 0 0, .slice none 0 0, .slice none 0 0, .slice none 0 0, .slice none 0 0, .slice none 0 0, .slice none 0 0, .slice none 0 0, .slice none 0 0, .slice none 0 0, .slice none 0 0, .slice none 0 0] 90, .own 22 1 hdrR (.slice p11 ((h5 ++ ([(p, n, c)] : List Hdr)).length) c11) (h5 ++ ([(p, n, c)] : List Hdr)), flatF 5 1 (h5.map row0), flatF 5 1 ([row0 (p, n, c)])]) (fun _ _ => rfl) (fun p11 c11 => (wl_drop 0 rfl (H' := [_,_,_,_]) rfl (wP rfl (wF rfl tF_90_5 (wS 0 5 rfl tS_37 (all' := [_,_,_,_,_,_,_,_,_,_,_,_,_,_,_,_,_,_,_,_,_,_,_,_,_,_,_,_,_]) rfl (H' := [_,_,_,_]) rfl ?_))))))))))))))))
 refine wl_nil (we_sh [.blk g [.slice none 0 0, .slice none 0 0, .slice none 0 0, .slice none 0 0, .slice p4 h4.length c4, .slice p11 ((h5 ++ ([(p, n, c)] : List Hdr)).length) c11, .slice none 0 0, .slice none 0 0, .slice none 0 0, .slice none 0 0, .slice none 0 0, .slice none 0 0, .slice none 0 0, .slice none 0 0, .slice none 0 0, .slice none 0 0, .slice none 0 0, .slice none 0 0, .slice none 0 0, .slice none 0 0, .slice none 0 0, .slice none 0 0, .slice none 0 0, .slice none 0 0, .slice none 0 0, .slice none 0 0, .slice none 0 0, .slice none 0 0, .slice none 0 0] 90, .own 22 1 hdrR (.slice p11 ((h5 ++ ([(p, n, c)] : List Hdr)).length) c11) (h5 ++ ([(p, n, c)] : List Hdr)), flatF 5 1 ((h5 ++ [(p, n, c)]).map row0)] (fun _ h => h.flPush 2 3 rfl rfl rfl) (ret_none (Hr := [.blk g [.slice none 0 0, .slice none 0 0, .slice none 0 0, .slice none 0 0, .slice p4 h4.length c4, .slice p11 ((h5 ++ ([(p, n, c)] : List Hdr)).length) c11, .slice none 0 0, .slice none 0 0, .slice none 0 0, .slice none 0 0, .slice none 0 0, .slice none 0 0, .slice none 0 0, .slice none 0 0, .slice none 0 0, .slice none 0 0, .slice none 0 0, .slice none 0 0, .slice none 0 0, .slice none 0 0, .slice none 0 0, .slice none 0 0, .slice none 0 0, .slice none 0 0, .slice none 0 0, .slice none 0 0, .slice none 0 0, .slice none 0 0, .slice none 0 0] 90, .own 22 1 hdrR (.slice p11 ((h5 ++ ([(p, n, c)] : List Hdr)).length) c11) (h5 ++ ([(p, n, c)] : List Hdr)), flatF 5 1 ((h5 ++ [(p, n, c)]).map row0)]) [0,1,2] Tryz.results32 ?_ (asK [] rfl) rfl rfl (.inr rfl)))
 exact ⟨_,_,_, by simp, hB5.push hn, rfl, rfl, rfl, rfl⟩
theorem w_ropewalkkit_markText_s (N : Nat) (a0 : Int) (a1 : Int)  (hm : m_ropewalkkit_markText N a0 a1 = some ()) : Spec Tryz.prog 76 [.int .i64 a0, .int .i64 a1] [] [] (fun v Φr Hr => v = .string (strOfNums [35, IntKind.wrap .u8 a0, IntKind.wrap .u8 (Int.fdiv a0 (2 ^ (8))), IntKind.wrap .u8 (Int.fdiv a0 (2 ^ (16))), 47, IntKind.wrap .u8 a1, IntKind.wrap .u8 (Int.fdiv a1 (2 ^ (8))), IntKind.wrap .u8 (Int.fdiv a1 (2 ^ (16)))]) ∧ Φr = [] ∧ Hr = []) := by
 unfold m_ropewalkkit_markText at hm
 refine spec_of Tryz.func76 rfl Tryz.ntmps76 rfl (S := [_,_]) rfl (fun C => (wc_seq (wc_region (wP rfl (wl_nil (we_then (wc_keep [0,1] (S' := [_,_]) rfl (wc_seq (wc_region (wP rfl (wl_reck rfl rfl rfl (freshS_eq rfl) (rk_conv rfl rfl tI_3 tI_5) (wP rfl (wl_bin rfl rfl rfl (freshS_eq rfl) rfl rfl rfl (run_shr (by decide)) (wl_reck rfl rfl rfl (freshS_eq rfl) (rk_conv rfl rfl tI_3 tI_5) ?_))))))))))))))
 refine wP rfl (wl_bin rfl rfl rfl (freshS_eq rfl) rfl rfl rfl (run_shr (by decide)) (wl_reck rfl rfl rfl (freshS_eq rfl) (rk_conv rfl rfl tI_3 tI_5) (wP rfl (wl_reck rfl rfl rfl (freshS_eq rfl) (rk_conv rfl rfl tI_3 tI_5) (wP rfl (wl_bin rfl rfl rfl (freshS_eq rfl) rfl rfl rfl (run_shr (by decide)) (wl_reck rfl rfl rfl (freshS_eq rfl) (rk_conv rfl rfl tI_3 tI_5) (wP rfl (wl_bin rfl rfl rfl (freshS_eq rfl) rfl rfl rfl (run_shr (by decide)) (wl_reck rfl rfl rfl (freshS_eq rfl) (rk_conv rfl rfl tI_3 tI_5) (wl_buildSlice rfl rfl rfl (freshS_eq rfl) rfl tE_22 tS_5 tZ_5 rfl (zs := [.int .u8 0, .int .u8 0, .int .u8 0, .int .u8 0, .int .u8 0, .int .u8 0, .int .u8 0, .int .u8 0]) (by kernel_rfl) rfl (out := [_,_,_,_,_,_,_,_]) rfl (fun g21 => (wl_row (sz := 1) (m := 8) R_u8 ([35, IntKind.wrap .u8 a0, IntKind.wrap .u8 (Int.fdiv a0 (2 ^ (8))), IntKind.wrap .u8 (Int.fdiv a0 (2 ^ (16))), 47, IntKind.wrap .u8 a1, IntKind.wrap .u8 (Int.fdiv a1 (2 ^ (8))), IntKind.wrap .u8 (Int.fdiv a1 (2 ^ (16)))]) 0 rfl (fun F w hφ => ⟨[.int .u8 35],[.int .u8 (IntKind.wrap .u8 a0), .int .u8 (IntKind.wrap .u8 (Int.fdiv a0 (2 ^ (8)))), .int .u8 (IntKind.wrap .u8 (Int.fdiv a0 (2 ^ (16)))), .int .u8 47, .int .u8 (IntKind.wrap .u8 a1), .int .u8 (IntKind.wrap .u8 (Int.fdiv a1 (2 ^ (8)))), .int .u8 (IntKind.wrap .u8 (Int.fdiv a1 (2 ^ (16))))], rfl, rfl, ⟨(), rfl, ask_nil⟩, ⟨[.int .u8 (IntKind.wrap .u8 a0)],[.int .u8 (IntKind.wrap .u8 (Int.fdiv a0 (2 ^ (8)))), .int .u8 (IntKind.wrap .u8 (Int.fdiv a0 (2 ^ (16)))), .int .u8 47, .int .u8 (IntKind.wrap .u8 a1), .int .u8 (IntKind.wrap .u8 (Int.fdiv a1 (2 ^ (8)))), .int .u8 (IntKind.wrap .u8 (Int.fdiv a1 (2 ^ (16))))], rfl, rfl, ⟨(), rfl, ask_nil⟩, ⟨[.int .u8 (IntKind.wrap .u8 (Int.fdiv a0 (2 ^ (8))))],[.int .u8 (IntKind.wrap .u8 (Int.fdiv a0 (2 ^ (16)))), .int .u8 47, .int .u8 (IntKind.wrap .u8 a1), .int .u8 (IntKind.wrap .u8 (Int.fdiv a1 (2 ^ (8)))), .int .u8 (IntKind.wrap .u8 (Int.fdiv a1 (2 ^ (16))))], rfl, rfl, ⟨(), rfl, ask_nil⟩, ⟨[.int .u8 (IntKind.wrap .u8 (Int.fdiv a0 (2 ^ (16))))],[.int .u8 47, .int .u8 (IntKind.wrap .u8 a1), .int .u8 (IntKind.wrap .u8 (Int.fdiv a1 (2 ^ (8)))), .int .u8 (IntKind.wrap .u8 (Int.fdiv a1 (2 ^ (16))))], rfl, rfl, ⟨(), rfl, ask_nil⟩, ⟨[.int .u8 47],[.int .u8 (IntKind.wrap .u8 a1), .int .u8 (IntKind.wrap .u8 (Int.fdiv a1 (2 ^ (8)))), .int .u8 (IntKind.wrap .u8 (Int.fdiv a1 (2 ^ (16))))], rfl, rfl, ⟨(), rfl, ask_nil⟩, ⟨[.int .u8 (IntKind.wrap .u8 a1)],[.int .u8 (IntKind.wrap .u8 (Int.fdiv a1 (2 ^ (8)))), .int .u8 (IntKind.wrap .u8 (Int.fdiv a1 (2 ^ (16))))], rfl, rfl, ⟨(), rfl, ask_nil⟩, ⟨[.int .u8 (IntKind.wrap .u8 (Int.fdiv a1 (2 ^ (8))))],[.int .u8 (IntKind.wrap .u8 (Int.fdiv a1 (2 ^ (16))))], rfl, rfl, ⟨(), rfl, ask_nil⟩, ⟨[.int .u8 (IntKind.wrap .u8 (Int.fdiv a1 (2 ^ (16))))],[], rfl, rfl, ⟨(), rfl, ask_nil⟩, rfl⟩⟩⟩⟩⟩⟩⟩⟩) rfl (by decide) (H' := [_]) rfl (wl_freeze 0 rfl (H' := []) rfl ?_))))))))))))))
 refine wl_fact (.sli 1 R_u8 (some ⟨g21,0, none⟩) 8 ([35, IntKind.wrap .u8 a0, IntKind.wrap .u8 (Int.fdiv a0 (2 ^ (8))), IntKind.wrap .u8 (Int.fdiv a0 (2 ^ (16))), 47, IntKind.wrap .u8 a1, IntKind.wrap .u8 (Int.fdiv a1 (2 ^ (8))), IntKind.wrap .u8 (Int.fdiv a1 (2 ^ (16)))])) (fun F w hφ => own_sli (hφ _ (mem_at (k := 0) rfl))) (wl_bytesStr 0 rfl rfl rfl (freshS_eq rfl) rfl rfl rfl tD_22 tD_5 tD_9 (fun _ _ _ _ h => by obtain ⟨_, h, _⟩ := h; exact h) (wP rfl (wl_nil (we_then (wc_keep [4] (S' := [_]) rfl (wc_ret ?_))))))
 have hE := (Option.some.inj hm).symm
 refine ret_one (Hr := []) [] Tryz.results76 (res_tmp rfl) ⟨rfl, rfl, rfl⟩ (asK [] rfl) rfl rfl (.inl rfl)
def z_markText (k i : Int) : ByteArray := strOfNums [35, IntKind.wrap .u8 k, IntKind.wrap .u8 (Int.fdiv k (2 ^ (8))), IntKind.wrap .u8 (Int.fdiv k (2 ^ (16))), 47, IntKind.wrap .u8 i, IntKind.wrap .u8 (Int.fdiv i (2 ^ (8))), IntKind.wrap .u8 (Int.fdiv i (2 ^ (16)))]
theorem z_markText_s (k i : Int) : Spec Tryz.prog 76 [.int .i64 k, .int .i64 i] [] [] (fun v Φr Hr => v = .string (z_markText k i) ∧ Φr = [] ∧ Hr = []) := w_ropewalkkit_markText_s 0 k i rfl
def mc_markText (k i : Nat) : List Value := [.string (z_markText ((k : Nat) : Int) ((i : Nat) : Int))]
theorem fl_flatTexts (p : Option Addr) (c : Nat) (hs : List Hdr) (hL : hs.length ≤ 1073741824) (hb : ∀ h ∈ hs, h.2.1 ≤ 1073741824) : Spec Tryz.prog 47 [.slice p hs.length c] [] [.own 33 1 hdrR (.slice p hs.length c) hs, flatF 9 1 (hs.map row0)] (fun v Φr Hr => ∃ rows, FlE hs mc_markText rows ∧ v = .bool true ∧ Φr = [] ∧ Hr = [flatF 9 1 rows]) := by
 refine spec_of Tryz.func47 rfl Tryz.ntmps47 rfl (S := [_]) rfl (fun C => (wc_seq (wc_region (wP rfl (wl_nil (we_then (wc_seq (wc_seq (wc_region (wP rfl (wl_nil (we_then (wc_block (wc_loop (σ := List Twin × Nat) (fun s => s.2 ≤ hs.length ∧ FlA hs mc_markText s.2 0 s.1) (fun s => hs.length - s.2) (fun s => [(3, .int .i64 ((s.2 : Nat) : Int)), (2, .bool false), (0, .slice p hs.length c)]) (fun s => []) (fun s => [.own 33 1 hdrR (.slice p hs.length c) hs, flatF 9 1 s.1]) (hs.map row0,0) ⟨Nat.zero_le _, FlA.start⟩ [3,2,0] rfl (asK [] rfl) rfl (fun s1 oks1 => ?_)))))))))))))))
 refine wc_seq (wc_seq (wc_region (wP rfl (wP rfl (wN rfl tE_35 (wP rfl (wl_nil (we_then (wc_keep [19,3,2,0] (S' := [_,_,_,_]) rfl ?_)))))))))
 refine wc_cond rfl (fun h19 => ?_) (fun h19 => ?_)
 ·
  replace h19 := of_decide_eq_true h19
  have hk1 : s1.2 < hs.length := by omega
  obtain ⟨y1, hy1⟩ : ∃ y, hs[s1.2]? = some y := ⟨_, List.getElem?_eq_getElem hk1⟩
  have hB1 : y1.2.1 ≤ 1073741824 := hb _ (List.mem_of_getElem? hy1)
  refine wc_skip (we_then (wc_seq (wc_block (wc_seq (wc_region (wP rfl (wl_nil (we_then (wc_block (wc_loop (σ := List Twin × Nat) (fun s => s.2 ≤ y1.2.1 ∧ FlA hs mc_markText s1.2 s.2 s.1) (fun s => y1.2.1 - s.2) (fun s => [(4, .int .i64 ((s.2 : Nat) : Int)), (19, .bool (decide (((s1.2 : Nat) : Int) < ((hs.length : Nat) : Int)))), (3, .int .i64 ((s1.2 : Nat) : Int)), (2, .bool false), (0, .slice p hs.length c)]) (fun s => []) (fun s => [.own 33 1 hdrR (.slice p hs.length c) hs, flatF 9 1 s.1]) (s1.1,0) ⟨Nat.zero_le _, oks1.2⟩ [4,19,3,2,0] rfl (asK [] rfl) rfl (fun s2 oks2 => (wc_seq (wc_seq (wc_region ?_))))))))))))))
  refine wP rfl (wP rfl (wP rfl (wl_indexH 0 s1.2 rfl rfl rfl (freshS_eq rfl) rfl rfl rfl rfl rfl hk1 tE_35 tS_33 (fun g25 eg25 => ?_))))
  subst eg25
  refine wl_loadRow hdr_opens 0 s1.2 0 rfl rfl rfl (freshS_eq rfl) rfl rfl rfl hy1 tS_33 tA_33 (v := fun _ => .slice y1.1 y1.2.1 y1.2.2) (fun _ => rfl) (fun _ => rfl) (fun _ _ => (wN rfl tE_33 (wP rfl (wl_nil (we_then (wc_keep [28,4,19,3,2,0] (S' := [_,_,_,_,_,_]) rfl ?_))))))
  refine wc_cond rfl (fun h28 => ?_) (fun h28 => ?_)
  ·
   replace h28 := of_decide_eq_true h28
   obtain ⟨r2, hr2, hh2, hsm2, hl2⟩ := oks2.2.at_ hy1
   refine wc_skip (we_then (wc_seq (wc_block (wc_draw [0,1,2,3,4,5,6,8] rfl rfl (fun hok => (xP hok 0 rfl (xP hok 1 rfl (wx_indexK hok 2 0 s1.2 rfl rfl rfl (freshS_eq rfl) rfl rfl rfl rfl rfl rfl hk1 tE_35 tS_33 (wx_loadRow hok 3 hdr_opens 0 s1.2 0 rfl rfl rfl (freshS_eq rfl) rfl rfl rfl rfl hy1 tS_33 tA_33 (v := .slice y1.1 y1.2.1 y1.2.2) rfl rfl (fun _ => (xP hok 4 rfl (xP hok 5 rfl (xP hok 6 rfl (xS hok 7 rfl (wC [] [0,1] rfl fn_76 rfl (z_markText_s ((s1.2 : Nat) : Int) ((s2.2 : Nat) : Int)) (asK [] rfl) rfl (H' := [_,_]) rfl ?_)))))))))))))))
   rintro _ _ _ ⟨rfl, rfl, rfl⟩
   refine wl_nil (we_x [] [0] rfl rfl (wx_flIdxH hok 8 (p := y1.1) (m := y1.2.1) (cp := y1.2.2) 1 s1.2 s2.2 rfl rfl rfl (freshS_eq rfl) rfl rfl rfl hr2 hh2 rfl rfl rfl (by omega) hl2 tE_33 tS_9 (fun g39 eg39 => (xS hok 9 rfl (wl_flStore (cs := mc_markText s1.2 s2.2) 1 s1.2 s2.2 rfl rfl rfl rfl hr2 hsm2 (hdr_eq hh2 eg39) rfl (by omega) rfl rfl tS_9 rfl (one_of rfl) (H' := [_,_]) rfl (wl_nil (we_x [] [] rfl rfl (wx_done hok rfl (we_block_normal (we_then (wc_region (wP rfl (wP rfl (wl_as (d := 30) (v' := .int .i64 ((s2.2 + 1 : Nat) : Int)) (S' := [_,_,_,_,_,_,_,_,_,_,_,_,_,_,_,_]) rfl rfl (nat_add (a := s2.2) (b := 1) (by omega)) ?_))))))))))))))
   refine wl_pure (S' := [_,_,_,_,_,_,_,_,_,_,_,_,_,_,_,_]) rfl rfl rfl rfl rfl (wl_nil ?_)
   refine we_round (s2.1.set s1.2 ⟨r2.h, (r2.l.set s2.2 (some (mc_markText s1.2 s2.2))), r2.h, (r2.l.set s2.2 (some (mc_markText s1.2 s2.2)))⟩, s2.2 + 1) (by show y1.2.1 - (s2.2 + 1) < _; omega) ⟨by show s2.2 + 1 ≤ _; omega, oks2.2.store hy1 hr2 (by omega)⟩ [4,19,3,2,0] rfl (asK [] rfl) rfl
  ·
   replace h28 := of_decide_eq_false h28
   refine wc_exit (we_then_exit (we_then_exit (we_block_hit (we_block_normal (we_then (wc_region (wP rfl (wP rfl (wl_as (d := 21) (v' := .int .i64 ((s1.2 + 1 : Nat) : Int)) (S' := [_,_,_,_,_,_,_]) rfl rfl (nat_add (a := s1.2) (b := 1) (by omega)) (wl_pure (S' := [_,_,_,_,_,_,_]) rfl rfl rfl rfl rfl (wl_nil ?_)))))))))))
   refine we_round (s2.1, s1.2 + 1) (by show hs.length - (s1.2 + 1) < _; omega) ⟨by show s1.2 + 1 ≤ _; omega, oks2.2.next hy1 (by omega)⟩ [3,2,0] rfl (asK [] rfl) rfl
 ·
  replace h19 := of_decide_eq_false h19
  refine wc_exit (we_then_exit (we_then_exit (we_block_hit (we_then (wc_seq (wc_region (wP rfl (wN rfl tE_35 (wl_makeSlice (m := hs.length) hdrR (none, 0,0) rfl rfl rfl (freshS_eq rfl) rfl rfl rfl rfl rfl tE_35 tR_33 rfl rfl (fun _ _ => rfl) (by omega) (by omega) (fun g42 => (wP rfl (wl_nil (we_then (wc_keep [5,19,3,2,0] (S' := [_,_,_,_,_]) rfl ?_))))))))))))))
  refine wc_seq (wc_seq (wc_region (wP rfl (wl_nil (we_then (wc_block (wc_loop (σ := List Hdr × List Twin × Nat) (fun s => s.2.2 ≤ hs.length ∧ FlB hs mc_markText s.1 s.2.2 s.2.1) (fun s => hs.length - s.2.2) (fun s => [(6, .int .i64 ((s.2.2 : Nat) : Int)), (5, .slice (some ⟨g42,0, none⟩) hs.length hs.length), (19, .bool (decide (((s1.2 : Nat) : Int) < ((hs.length : Nat) : Int)))), (3, .int .i64 ((s1.2 : Nat) : Int)), (2, .bool false), (0, .slice p hs.length c)]) (fun s => []) (fun s => [.own 33 1 hdrR (.slice (some ⟨g42,0, none⟩) hs.length hs.length) s.1, .own 33 1 hdrR (.slice p hs.length c) hs, flatF 9 1 s.2.1]) (List.replicate hs.length (none, 0,0), s1.1,0) ⟨Nat.zero_le _, oks1.2.grow (by omega) (by simp)⟩ [6,5,19,3,2,0] rfl (asK [] rfl) rfl (fun s3 oks3 => (wc_seq (wc_seq (wc_region (wP rfl (wP rfl (wN rfl tE_35 ?_))))))))))))))
  refine wP rfl (wl_nil (we_then (wc_keep [46,6,5,19,3,2,0] (S' := [_,_,_,_,_,_,_]) rfl ?_)))
  refine wc_cond rfl (fun h46 => ?_) (fun h46 => ?_)
  ·
   replace h46 := of_decide_eq_true h46
   have hk3 : s3.2.2 < hs.length := by omega
   obtain ⟨y3, hy3⟩ : ∃ y, hs[s3.2.2]? = some y := ⟨_, List.getElem?_eq_getElem hk3⟩
   have hB3 : y3.2.1 ≤ 1073741824 := hb _ (List.mem_of_getElem? hy3)
   refine wc_skip (we_then (wc_seq (wc_block (wc_seq (wc_region (wP rfl (wP rfl (wl_indexH 1 s3.2.2 rfl rfl rfl (freshS_eq rfl) rfl rfl rfl rfl rfl hk3 tE_35 tS_33 (fun g51 eg51 => ?_)))))))))
   subst eg51
   refine wl_loadRow hdr_opens 1 s3.2.2 0 rfl rfl rfl (freshS_eq rfl) rfl rfl rfl hy3 tS_33 tA_33 (v := fun _ => .slice y3.1 y3.2.1 y3.2.2) (fun _ => rfl) (fun _ => rfl) (fun _ _ => (wP rfl (wl_nil (we_then (wc_keep [7,46,6,5,19,3,2,0] (S' := [_,_,_,_,_,_,_,_]) rfl (wc_seq (wc_seq (wc_region (wP rfl (wl_nil (we_then (wc_block (wc_loop (σ := List Twin × Hdr × Nat) (fun s => s.2.2 ≤ 64 ∧ FlC hs mc_markText s3.1 s3.2.2 s.2.2 s.2.1 s.1) (fun s => 64 - s.2.2) (fun s => [(8, .int .i64 ((s.2.2 : Nat) : Int)), (7, .slice s.2.1.1 s.2.1.2.1 s.2.1.2.2), (46, .bool (decide (((s3.2.2 : Nat) : Int) < ((hs.length : Nat) : Int)))), (6, .int .i64 ((s3.2.2 : Nat) : Int)), (5, .slice (some ⟨g42,0, none⟩) hs.length hs.length), (19, .bool (decide (((s1.2 : Nat) : Int) < ((hs.length : Nat) : Int)))), (3, .int .i64 ((s1.2 : Nat) : Int)), (2, .bool false), (0, .slice (some ⟨g51,0, none⟩) hs.length c)]) (fun s => []) (fun s => [.own 33 1 hdrR (.slice (some ⟨g42,0, none⟩) hs.length hs.length) s3.1, .own 33 1 hdrR (.slice (some ⟨g51,0, none⟩) hs.length c) hs, flatF 9 1 s.1]) (s3.2.1, y3,0) ⟨Nat.zero_le _, oks3.2.begin hy3⟩ [8,7,46,6,5,19,3,2,0] rfl (asK [] rfl) rfl (fun s4 oks4 => (wc_seq ?_)))))))))))))))
   refine wc_seq (wc_region (wP rfl (wP rfl (wl_nil (we_then (wc_keep [54,8,7,46,6,5,19,3,2,0] (S' := [_,_,_,_,_,_,_,_,_,_]) rfl ?_))))))
   refine wc_cond rfl (fun h54 => ?_) (fun h54 => ?_)
   ·
    replace h54 := of_decide_eq_true h54
    obtain ⟨r4, hr4, hh4, hl4, hg4, hm4⟩ := oks4.2.at_ hy3
    refine wc_skip (we_then (wc_seq (wc_block (wc_region (wP rfl (wP rfl (wP rfl (wP rfl (wl_indexK 1 s3.2.2 rfl rfl rfl (freshS_eq rfl) rfl rfl rfl rfl rfl hk3 tE_35 tS_33 (wl_loadRow hdr_opens 1 s3.2.2 0 rfl rfl rfl (freshS_eq rfl) rfl rfl rfl hy3 tS_33 tA_33 (v := fun _ => .slice y3.1 y3.2.1 y3.2.2) (fun _ => rfl) (fun _ => rfl) (fun _ _ => (wN rfl tE_33 (wP rfl (wP rfl ?_))))))))))))))
    refine wl_as (d := 65) (v' := .int .i64 ((y3.2.1 + s4.2.2 : Nat) : Int)) (S' := [_,_,_,_,_,_,_,_,_,_,_,_,_,_,_,_,_,_]) rfl rfl (nat_add (a := y3.2.1) (b := s4.2.2) (by omega)) (wC [] [0,1,2] rfl fn_76 rfl (z_markText_s ((s3.2.2 : Nat) : Int) ((y3.2.1 + s4.2.2 : Nat) : Int)) (asK [] rfl) rfl (H' := [_,_,_]) rfl ?_)
    rintro _ _ _ ⟨rfl, rfl, rfl⟩
    refine wl_buildSlice rfl rfl rfl (freshS_eq rfl) rfl tE_33 tS_9 tZ_9 rfl (zs := [.string ⟨#[]⟩]) (by kernel_rfl) rfl (out := [_]) rfl (fun g67 => (wl_flAppB (cs := mc_markText s3.2.2 (y3.2.1 + s4.2.2)) 3 s3.2.2 0 rfl rfl rfl (freshS_eq rfl) rfl rfl hr4 (by rw [hg4]; rfl) rfl rfl rfl (one_of rfl) tE_33 tR_9 rfl rfl (by rw [hm4]; simp only [marks_len, List.length_append, List.length_cons, List.length_nil]; omega) (by rw [hm4]; simp only [marks_len, List.length_append, List.length_cons, List.length_nil]; omega) (H2 := fun gh68 => [_,_,_, flatF 9 1 (s4.1.set s3.2.2 ⟨r4.h, r4.l, gh68, r4.m ++ [some (mc_markText s3.2.2 (y3.2.1 + s4.2.2))]⟩)]) (fun _ => rfl) (fun gh68 => (wl_drop 0 rfl (H' := [_,_,_]) rfl (wl_pure (S' := [_,_,_,_,_,_,_,_,_,_,_,_,_,_,_,_,_,_,_,_,_]) rfl rfl rfl rfl rfl (wl_nil (we_block_normal (we_then (wc_region (wP rfl (wP rfl (wl_as (d := 56) (v' := .int .i64 ((s4.2.2 + 1 : Nat) : Int)) (S' := [_,_,_,_,_,_,_,_,_,_,_,_,_,_,_,_,_,_,_,_,_,_,_]) rfl rfl (nat_add (a := s4.2.2) (b := 1) (by omega)) (wl_pure (S' := [_,_,_,_,_,_,_,_,_,_,_,_,_,_,_,_,_,_,_,_,_,_,_]) rfl rfl rfl rfl rfl (wl_nil ?_))))))))))))))
    refine we_round (s4.1.set s3.2.2 ⟨r4.h, r4.l, gh68, r4.m ++ [some (mc_markText s3.2.2 (y3.2.1 + s4.2.2))]⟩, gh68, s4.2.2 + 1) (by show 64 - (s4.2.2 + 1) < _; omega) ⟨by show s4.2.2 + 1 ≤ 64; omega, oks4.2.app hy3 hr4 _⟩ [8,7,46,6,5,19,3,2,0] rfl (asK [] rfl) rfl
   ·
    replace h54 := of_decide_eq_false h54
    refine wc_exit (we_then_exit (we_then_exit (we_block_hit (we_then (wc_region (wP rfl (wP rfl (wP rfl (wl_indexK 0 s3.2.2 rfl rfl rfl (freshS_eq rfl) rfl rfl rfl rfl rfl (by rw [oks3.2.2.1]; exact hk3) tE_35 tS_33 (wl_storeRow (u := s4.2.1) 0 s3.2.2 rfl rfl rfl rfl rfl (by rw [oks3.2.2.1]; exact hk3) rfl rfl tS_33 rfl (fun _ _ _ => rfl) (H' := [_,_,_]) rfl (wl_nil (we_block_normal (we_then ?_)))))))))))))
    refine wc_region (wP rfl (wP rfl (wl_as (d := 48) (v' := .int .i64 ((s3.2.2 + 1 : Nat) : Int)) (S' := [_,_,_,_,_,_,_,_,_,_,_,_,_,_,_]) rfl rfl (nat_add (a := s3.2.2) (b := 1) (by omega)) (wl_pure (S' := [_,_,_,_,_,_,_,_,_,_,_,_,_,_,_]) rfl rfl rfl rfl rfl (wl_nil ?_)))))
    have hc3 := oks4.2
    rw [show s4.2.2 = 64 from by omega] at hc3
    refine we_round (s3.1.set s3.2.2 s4.2.1, s4.1, s3.2.2 + 1) (by show hs.length - (s3.2.2 + 1) < _; omega) ⟨by show s3.2.2 + 1 ≤ _; omega, hc3.done hk3⟩ [6,5,19,3,2,0] rfl (asK [] rfl) rfl
  ·
   replace h46 := of_decide_eq_false h46
   refine wc_exit (we_then_exit (we_then_exit (we_block_hit (we_then (wc_seq (wc_seq (wc_region (wP rfl (wl_nil (we_then (wc_block (wc_loop (σ := Nat) (fun s => s ≤ hs.length) (fun s => hs.length - s) (fun s => [(9, .int .i64 ((s : Nat) : Int)), (46, .bool (decide (((s3.2.2 : Nat) : Int) < ((hs.length : Nat) : Int)))), (6, .int .i64 ((s3.2.2 : Nat) : Int)), (5, .slice (some ⟨g42,0, none⟩) hs.length hs.length), (19, .bool (decide (((s1.2 : Nat) : Int) < ((hs.length : Nat) : Int)))), (3, .int .i64 ((s1.2 : Nat) : Int)), (2, .bool false), (0, .slice p hs.length c)]) (fun s => []) (fun s => [.own 33 1 hdrR (.slice (some ⟨g42,0, none⟩) hs.length hs.length) s3.1, .own 33 1 hdrR (.slice p hs.length c) hs, flatF 9 1 s3.2.1]) 0 (Nat.zero_le _) [9,46,6,5,19,3,2,0] rfl (asK [] rfl) rfl (fun s5 oks5 => (wc_seq ?_))))))))))))))
   refine wc_seq (wc_region (wP rfl (wP rfl (wN rfl tE_35 (wP rfl (wl_nil (we_then (wc_keep [76,9,46,6,5,19,3,2,0] (S' := [_,_,_,_,_,_,_,_,_]) rfl ?_))))))))
   refine wc_cond rfl (fun h76 => ?_) (fun h76 => ?_)
   ·
    replace h76 := of_decide_eq_true h76
    have hk5 : s5 < hs.length := by omega
    obtain ⟨y5, hy5⟩ : ∃ y, hs[s5]? = some y := ⟨_, List.getElem?_eq_getElem hk5⟩
    have hB5 : y5.2.1 ≤ 1073741824 := hb _ (List.mem_of_getElem? hy5)
    obtain ⟨r5, hr5, hh5, hl5, hg5, hm5⟩ := oks3.2.look (by omega) hy5
    refine wc_flLen 2 rfl hr5 (fun hA5 hC5 => ?_)
    rw [hl5, marks_len] at hA5
    rw [hm5, marks_len] at hC5
    refine wc_skip (we_then (wc_seq (wc_block (wc_seq (wc_region (wP rfl (wl_nil (we_then (wc_block (wc_loop (σ := Nat) (fun s => s ≤ y5.2.1 + 64) (fun s => y5.2.1 + 64 - s) (fun s => [(10, .int .i64 ((s : Nat) : Int)), (76, .bool (decide (((s5 : Nat) : Int) < ((hs.length : Nat) : Int)))), (9, .int .i64 ((s5 : Nat) : Int)), (46, .bool (decide (((s3.2.2 : Nat) : Int) < ((hs.length : Nat) : Int)))), (6, .int .i64 ((s3.2.2 : Nat) : Int)), (5, .slice (some ⟨g42,0, none⟩) hs.length hs.length), (19, .bool (decide (((s1.2 : Nat) : Int) < ((hs.length : Nat) : Int)))), (3, .int .i64 ((s1.2 : Nat) : Int)), (2, .bool false), (0, .slice p hs.length c)]) (fun s => []) (fun s => [.own 33 1 hdrR (.slice (some ⟨g42,0, none⟩) hs.length hs.length) s3.1, .own 33 1 hdrR (.slice p hs.length c) hs, flatF 9 1 s3.2.1]) 0 (Nat.zero_le _) [10,76,9,46,6,5,19,3,2,0] rfl (asK [] rfl) rfl (fun s6 oks6 => (wc_seq (wc_seq (wc_region ?_))))))))))))))
    refine wP rfl (wP rfl (wP rfl (wl_indexK 0 s5 rfl rfl rfl (freshS_eq rfl) rfl rfl rfl rfl rfl (by rw [oks3.2.2.1]; exact hk5) tE_35 tS_33 (wl_loadRow hdr_opens 0 s5 0 rfl rfl rfl (freshS_eq rfl) rfl rfl rfl hg5 tS_33 tA_33 (v := fun _ => .slice r5.g.1 r5.g.2.1 r5.g.2.2) (fun _ => rfl) (fun _ => rfl) (fun _ _ => (wN rfl tE_33 (wP rfl (wl_nil (we_then (wc_keep [85,10,76,9,46,6,5,19,3,2,0] (S' := [_,_,_,_,_,_,_,_,_,_,_]) rfl ?_))))))))))
    refine wc_cond rfl (fun h85 => ?_) (fun h85 => ?_)
    ·
     replace h85 := of_decide_eq_true h85
     refine wc_skip (we_then (wc_seq (wc_block (wc_seq (wc_draw [0,1,2,3,4,5,6,7,8,10,11,12,13,14,15,16,17,18,19,20,21,22,23,24,25,26,27,28,29,31,32,33,34] rfl rfl (fun hok => (xP hok 0 rfl (xP hok 1 rfl (wx_indexK hok 2 0 s5 rfl rfl rfl (freshS_eq rfl) rfl rfl rfl rfl rfl rfl (by rw [oks3.2.2.1]; exact hk5) tE_35 tS_33 (wx_loadRow hok 3 hdr_opens 0 s5 0 rfl rfl rfl (freshS_eq rfl) rfl rfl rfl rfl hg5 tS_33 tA_33 (v := .slice r5.g.1 r5.g.2.1 r5.g.2.2) rfl rfl (fun _ => (xP hok 4 rfl (wx_flIdxG hok 5 (p := r5.g.1) (m := r5.g.2.1) (cp := r5.g.2.2) 2 s5 s6 rfl rfl rfl (freshS_eq rfl) rfl rfl rfl hr5 rfl rfl rfl rfl (by omega) (by rw [hm5, marks_len]; omega) tE_33 tS_9 (fun g93 eg93 => (wx_flLoadG hok 6 2 s5 s6 rfl rfl rfl (freshS_eq rfl) rfl rfl rfl hr5 (hdr_eqG eg93) rfl (cs := mc_markText s5 s6) (by rw [hm5]; exact marks_at (by omega)) tS_9 tA_9 rfl (v := .string (z_markText ((s5 : Nat) : Int) ((s6 : Nat) : Int))) rfl (xP hok 7 rfl ?_))))))))))))))))
     refine xP hok 8 rfl (xS hok 9 rfl (wC [] [0,1,2] rfl fn_76 rfl (z_markText_s ((s5 : Nat) : Int) ((s6 : Nat) : Int)) (asK [] rfl) rfl (H' := [_,_,_]) rfl ?_))
     rintro _ _ _ ⟨rfl, rfl, rfl⟩
     refine wl_nil (we_x [] [2,0] rfl rfl (xP hok 10 rfl (wx_as (d := 98) (v' := .bool true) (S' := [_,_,_,_,_,_,_,_,_,_,_,_,_,_,_,_,_,_,_,_,_]) rfl rfl (congrArg Value.bool (by simp)) (xP hok 11 rfl (xP hok 12 rfl (xP hok 13 rfl (xP hok 14 rfl (xP hok 15 rfl (wx_indexH hok 16 1 s5 rfl rfl rfl (freshS_eq rfl) rfl rfl rfl rfl rfl rfl hk5 tE_35 tS_33 (fun g104 eg104 => ?_))))))))))
     subst eg104
     refine wx_loadRow hok 17 hdr_opens 1 s5 0 rfl rfl rfl (freshS_eq rfl) rfl rfl rfl rfl hy5 tS_33 tA_33 (v := .slice y5.1 y5.2.1 y5.2.2) rfl rfl (fun _ => (wx_len hok 18 rfl rfl rfl (freshS_eq rfl) rfl rfl rfl tE_33 (xP hok 19 rfl (xP hok 20 rfl ?_))))
     refine wx_split (d := 108) (S' := [_,_,_,_,_,_,_,_,_,_,_,_,_,_,_,_,_,_,_,_,_,_,_,_,_,_,_,_,_,_,_]) rfl rfl (fun h108 => ?_) (fun h108 => ?_)
     ·
      replace h108 := of_decide_eq_true h108
      refine xP hok 21 rfl (xP hok 22 rfl (wx_indexK hok 23 1 s5 rfl rfl rfl (freshS_eq rfl) rfl rfl rfl rfl rfl rfl hk5 tE_35 tS_33 (wx_loadRow hok 24 hdr_opens 1 s5 0 rfl rfl rfl (freshS_eq rfl) rfl rfl rfl rfl hy5 tS_33 tA_33 (v := .slice y5.1 y5.2.1 y5.2.2) rfl rfl (fun _ => (xP hok 25 rfl (wx_flIdxH hok 26 (p := y5.1) (m := y5.2.1) (cp := y5.2.2) 2 s5 s6 rfl rfl rfl (freshS_eq rfl) rfl rfl rfl hr5 hh5 rfl rfl rfl (by omega) (by rw [hl5, marks_len]) tE_33 tS_9 (fun g114 eg114 => (wx_flLoadH hok 27 2 s5 s6 rfl rfl rfl (freshS_eq rfl) rfl rfl rfl hr5 (hdr_eq hh5 eg114) rfl (cs := mc_markText s5 s6) (by rw [hl5]; exact marks_at (by omega)) tS_9 tA_9 rfl (v := .string (z_markText ((s5 : Nat) : Int) ((s6 : Nat) : Int))) rfl (xP hok 28 rfl (xP hok 29 rfl (xS hok 30 rfl (wC [] [0,1,2] rfl fn_76 rfl (z_markText_s ((s5 : Nat) : Int) ((s6 : Nat) : Int)) (asK [] rfl) rfl (H' := [_,_,_]) rfl ?_))))))))))))
      rintro _ _ _ ⟨rfl, rfl, rfl⟩
      refine wl_nil (we_x [] [2,1,1,2,0] rfl rfl (xP hok 31 rfl (wx_as (d := 119) (v' := .bool true) (S' := [_,_,_,_,_,_,_,_,_,_,_,_,_,_,_,_,_,_,_,_,_,_,_,_,_,_,_,_,_,_,_,_,_,_,_,_,_,_,_,_,_,_]) rfl rfl (congrArg Value.bool (by simp)) (xP hok 32 rfl (xP hok 33 rfl (xP hok 34 rfl (wx_done hok rfl (we_then (wc_keep [122,85,10,76,9,46,6,5,19,3,2,0] (S' := [_,_,_,_,_,_,_,_,_,_,_,_]) rfl (wc_false rfl (wc_skip (we_block_normal (we_then ?_)))))))))))))
      refine wc_region (wP rfl (wP rfl (wl_as (d := 87) (v' := .int .i64 ((s6 + 1 : Nat) : Int)) (S' := [_,_,_,_,_,_,_,_,_,_,_,_,_]) rfl rfl (nat_add (a := s6) (b := 1) (by omega)) (wl_pure (S' := [_,_,_,_,_,_,_,_,_,_,_,_,_]) rfl rfl rfl rfl rfl (wl_nil ?_)))))
      refine we_round (s6 + 1) (by omega) (by omega) [10,76,9,46,6,5,19,3,2,0] rfl (asK [] rfl) rfl
     ·
      replace h108 := of_decide_eq_false h108
      refine xO hok 21 rfl (xO hok 22 rfl (xO hok 23 rfl (xO hok 24 rfl (xO hok 25 rfl (xO hok 26 rfl (xO hok 27 rfl (xO hok 28 rfl (xO hok 29 rfl (xS hok 30 rfl (wO rfl (wl_nil (we_x [] [1,2,0] rfl rfl (xO hok 31 rfl ?_)))))))))))))
      refine xO hok 32 rfl (xP hok 33 rfl (xP hok 34 rfl (wx_done hok rfl (we_then (wc_keep [122,85,10,76,9,46,6,5,19,3,2,0] (S' := [_,_,_,_,_,_,_,_,_,_,_,_]) rfl (wc_false rfl (wc_skip (we_block_normal (we_then (wc_region (wP rfl (wP rfl (wl_as (d := 87) (v' := .int .i64 ((s6 + 1 : Nat) : Int)) (S' := [_,_,_,_,_,_,_,_,_,_,_,_,_]) rfl rfl (nat_add (a := s6) (b := 1) (by omega)) ?_)))))))))))))
      refine wl_pure (S' := [_,_,_,_,_,_,_,_,_,_,_,_,_]) rfl rfl rfl rfl rfl (wl_nil ?_)
      refine we_round (s6 + 1) (by omega) (by omega) [10,76,9,46,6,5,19,3,2,0] rfl (asK [] rfl) rfl
    ·
     replace h85 := of_decide_eq_false h85
     refine wc_exit (we_then_exit (we_then_exit (we_block_hit (we_block_normal (we_then (wc_region (wP rfl (wP rfl (wl_as (d := 78) (v' := .int .i64 ((s5 + 1 : Nat) : Int)) (S' := [_,_,_,_,_,_,_,_,_,_,_,_]) rfl rfl (nat_add (a := s5) (b := 1) (by omega)) (wl_pure (S' := [_,_,_,_,_,_,_,_,_,_,_,_]) rfl rfl rfl rfl rfl (wl_nil ?_)))))))))))
     refine we_round (s5 + 1) (by omega) (by omega) [9,46,6,5,19,3,2,0] rfl (asK [] rfl) rfl
   ·
    replace h76 := of_decide_eq_false h76
    refine wc_exit (we_then_exit (we_then_exit (we_block_hit (we_then (wc_seq (wc_seq (wc_region (wP rfl (wl_nil (we_then (wc_block (wc_loop (σ := List Hdr × List Twin × Nat) (fun s => s.2.2 ≤ hs.length ∧ FlD hs mc_markText s.1 s.2.2 s.2.1) (fun s => hs.length - s.2.2) (fun s => [(11, .int .i64 ((s.2.2 : Nat) : Int)), (76, .bool (decide (((s5 : Nat) : Int) < ((hs.length : Nat) : Int)))), (9, .int .i64 ((s5 : Nat) : Int)), (46, .bool (decide (((s3.2.2 : Nat) : Int) < ((hs.length : Nat) : Int)))), (6, .int .i64 ((s3.2.2 : Nat) : Int)), (5, .slice (some ⟨g42,0, none⟩) hs.length hs.length), (19, .bool (decide (((s1.2 : Nat) : Int) < ((hs.length : Nat) : Int)))), (3, .int .i64 ((s1.2 : Nat) : Int)), (2, .bool false), (0, .slice p hs.length c)]) (fun s => []) (fun s => [.own 33 1 hdrR (.slice (some ⟨g42,0, none⟩) hs.length hs.length) s.1, .own 33 1 hdrR (.slice p hs.length c) hs, flatF 9 1 s.2.1]) (s3.1, s3.2.1,0) ⟨Nat.zero_le _, oks3.2.again⟩ [11,76,9,46,6,5,19,3,2,0] rfl (asK [] rfl) rfl (fun s7 oks7 => (wc_seq ?_))))))))))))))
    refine wc_seq (wc_region (wP rfl (wP rfl (wN rfl tE_35 (wP rfl (wl_nil (we_then (wc_keep [126,11,76,9,46,6,5,19,3,2,0] (S' := [_,_,_,_,_,_,_,_,_,_,_]) rfl ?_))))))))
    refine wc_cond rfl (fun h126 => ?_) (fun h126 => ?_)
    ·
     replace h126 := of_decide_eq_true h126
     have hk7 : s7.2.2 < hs.length := by omega
     obtain ⟨y7, hy7⟩ : ∃ y, hs[s7.2.2]? = some y := ⟨_, List.getElem?_eq_getElem hk7⟩
     have hB7 : y7.2.1 ≤ 1073741824 := hb _ (List.mem_of_getElem? hy7)
     obtain ⟨r7, hr7, hh7, hl7⟩ := oks7.2.at_ hy7
     refine wc_skip (we_then (wc_seq (wc_block (wc_seq (wc_region (wl_makeSlice (m := 64) celR (none : Cel) rfl rfl rfl (freshS_eq rfl) rfl rfl rfl rfl rfl tE_33 tR_9 rfl rfl (fun _ _ => cel_any rfl) (by omega) (by omega) (fun g129 => (wP rfl (wl_nil (we_then (wc_keep [12,126,11,76,9,46,6,5,19,3,2,0] (S' := [_,_,_,_,_,_,_,_,_,_,_,_]) rfl (wc_seq (wc_seq (wc_region ?_))))))))))))))
     refine wP rfl (wl_nil (we_then (wc_block (wc_loop (σ := List Cel × Nat) (fun s => s.2 ≤ 64 ∧ s.1.length = 64) (fun s => 64 - s.2) (fun s => [(13, .int .i64 ((s.2 : Nat) : Int)), (12, .slice (some ⟨g129,0, none⟩) 64 64), (126, .bool (decide (((s7.2.2 : Nat) : Int) < ((hs.length : Nat) : Int)))), (11, .int .i64 ((s7.2.2 : Nat) : Int)), (76, .bool (decide (((s5 : Nat) : Int) < ((hs.length : Nat) : Int)))), (9, .int .i64 ((s5 : Nat) : Int)), (46, .bool (decide (((s3.2.2 : Nat) : Int) < ((hs.length : Nat) : Int)))), (6, .int .i64 ((s3.2.2 : Nat) : Int)), (5, .slice (some ⟨g42,0, none⟩) hs.length hs.length), (19, .bool (decide (((s1.2 : Nat) : Int) < ((hs.length : Nat) : Int)))), (3, .int .i64 ((s1.2 : Nat) : Int)), (2, .bool false), (0, .slice p hs.length c)]) (fun s => []) (fun s => [.own 9 1 celR (.slice (some ⟨g129,0, none⟩) 64 64) s.1, .own 33 1 hdrR (.slice (some ⟨g42,0, none⟩) hs.length hs.length) s7.1, .own 33 1 hdrR (.slice p hs.length c) hs, flatF 9 1 s7.2.1]) (List.replicate 64 (none : Cel), 0) ⟨Nat.zero_le _, by simp⟩ [13,12,126,11,76,9,46,6,5,19,3,2,0] rfl (asK [] rfl) rfl (fun s8 oks8 => (wc_seq (wc_seq (wc_region (wP rfl (wP rfl (wl_nil (we_then (wc_keep [131,13,12,126,11,76,9,46,6,5,19,3,2,0] (S' := [_,_,_,_,_,_,_,_,_,_,_,_,_,_]) rfl ?_)))))))))))))
     refine wc_cond rfl (fun h131 => ?_) (fun h131 => ?_)
     ·
      replace h131 := of_decide_eq_true h131
      refine wc_skip (we_then (wc_seq (wc_block (wc_region (wP rfl (wP rfl (wP rfl (wP rfl (wN rfl tE_35 (wP rfl (wl_as (d := 139) (v' := .int .i64 ((s7.2.2 + hs.length : Nat) : Int)) (S' := [_,_,_,_,_,_,_,_,_,_,_,_,_,_,_,_,_,_,_]) rfl rfl (nat_add (a := s7.2.2) (b := hs.length) (by omega)) (wP rfl (wC [] [0,1,2,3] rfl fn_76 rfl (z_markText_s ((s7.2.2 + hs.length : Nat) : Int) ((s8.2 : Nat) : Int)) (asK [] rfl) rfl (H' := [_,_,_,_]) rfl ?_)))))))))))))
      rintro _ _ _ ⟨rfl, rfl, rfl⟩
      refine wl_indexK 0 s8.2 rfl rfl rfl (freshS_eq rfl) rfl rfl rfl rfl rfl (by rw [oks8.2]; omega) tE_33 tS_9 (wl_storeRow (u := some ([.string (z_markText ((s7.2.2 + hs.length : Nat) : Int) ((s8.2 : Nat) : Int))] : List Value)) 0 s8.2 rfl rfl rfl rfl rfl (by rw [oks8.2]; omega) rfl rfl tS_9 rfl (fun _ _ _ => cel_some rfl) (H' := [_,_,_,_]) rfl (wl_nil (we_block_normal (we_then (wc_region (wP rfl (wP rfl (wl_as (d := 133) (v' := .int .i64 ((s8.2 + 1 : Nat) : Int)) (S' := [_,_,_,_,_,_,_,_,_,_,_,_,_,_,_,_,_,_,_,_,_,_,_,_]) rfl rfl (nat_add (a := s8.2) (b := 1) (by omega)) (wl_pure (S' := [_,_,_,_,_,_,_,_,_,_,_,_,_,_,_,_,_,_,_,_,_,_,_,_]) rfl rfl rfl rfl rfl (wl_nil ?_))))))))))
      refine we_round (s8.1.set s8.2 (some ([.string (z_markText ((s7.2.2 + hs.length : Nat) : Int) ((s8.2 : Nat) : Int))] : List Value)), s8.2 + 1) (by show 64 - (s8.2 + 1) < _; omega) ⟨by show s8.2 + 1 ≤ 64; omega, by show (List.set _ _ _).length = 64; rw [List.length_set]; exact oks8.2⟩ [13,12,126,11,76,9,46,6,5,19,3,2,0] rfl (asK [] rfl) rfl
     ·
      replace h131 := of_decide_eq_false h131
      refine wc_exit (we_then_exit (we_then_exit (we_block_hit (we_then (wc_region (wP rfl (wP rfl (wP rfl (wP rfl (wl_indexH 2 s7.2.2 rfl rfl rfl (freshS_eq rfl) rfl rfl rfl rfl rfl hk7 tE_35 tS_33 (fun g147 eg147 => ?_)))))))))))
      subst eg147
      refine wl_loadRow hdr_opens 2 s7.2.2 0 rfl rfl rfl (freshS_eq rfl) rfl rfl rfl hy7 tS_33 tA_33 (v := fun _ => .slice y7.1 y7.2.1 y7.2.2) (fun _ => rfl) (fun _ => rfl) (fun _ _ => (wP rfl (wl_sh [_,_,_, flatF 9 1 (s7.2.1.set s7.2.2 ⟨r7.h, r7.l, r7.h, r7.l⟩)] (fun _ h => h.flReset 3 s7.2.2 rfl hr7) (wl_flAppO 3 s7.2.2 0 rfl rfl rfl (freshS_eq rfl) rfl rfl (set_eqT _ hr7) (by show _ = some (hdv r7.h); rw [hh7]; rfl) rfl rfl oks8.2 (by decide) tE_33 tR_9 rfl rfl (by show r7.l.length + _ ≤ _; rw [hl7, marks_len]; omega) (by show (r7.l.length + _) * _ ≤ _; rw [hl7, marks_len]; omega) (H2 := fun gh150 => [_,_,_, flatF 9 1 ((s7.2.1.set s7.2.2 ⟨r7.h, r7.l, r7.h, r7.l⟩).set s7.2.2 ⟨r7.h, r7.l, gh150, r7.l ++ s8.1⟩)]) (fun _ => rfl) (fun gh150 => (wl_drop 0 rfl (H' := [_,_,_]) rfl (wl_indexK 0 s7.2.2 rfl rfl rfl (freshS_eq rfl) rfl rfl rfl rfl rfl (by rw [oks7.2.2.1]; exact hk7) tE_35 tS_33 (wl_storeRow (u := gh150) 0 s7.2.2 rfl rfl rfl rfl rfl (by rw [oks7.2.2.1]; exact hk7) rfl rfl tS_33 rfl (fun _ _ _ => rfl) (H' := [_,_,_]) rfl (wl_nil (we_block_normal (we_then (wc_region (wP rfl (wP rfl (wl_as (d := 128) (v' := .int .i64 ((s7.2.2 + 1 : Nat) : Int)) (S' := [_,_,_,_,_,_,_,_,_,_,_,_,_,_,_,_,_,_,_,_,_,_,_,_]) rfl rfl (nat_add (a := s7.2.2) (b := 1) (by omega)) ?_)))))))))))))))
      refine wl_pure (S' := [_,_,_,_,_,_,_,_,_,_,_,_,_,_,_,_,_,_,_,_,_,_,_,_]) rfl rfl rfl rfl rfl (wl_nil ?_)
      refine we_round (s7.1.set s7.2.2 gh150, (s7.2.1.set s7.2.2 ⟨r7.h, r7.l, r7.h, r7.l⟩).set s7.2.2 ⟨r7.h, r7.l, gh150, r7.l ++ s8.1⟩, s7.2.2 + 1) (by show hs.length - (s7.2.2 + 1) < _; omega) ⟨by show s7.2.2 + 1 ≤ _; omega, oks7.2.app hy7 hr7 _ _⟩ [11,76,9,46,6,5,19,3,2,0] rfl (asK [] rfl) rfl
    ·
     replace h126 := of_decide_eq_false h126
     refine wc_exit (we_then_exit (we_then_exit (we_block_hit (we_then (wc_seq (wc_seq (wc_region (wP rfl (wl_nil (we_then (wc_block (wc_loop (σ := Nat) (fun s => s ≤ hs.length) (fun s => hs.length - s) (fun s => [(14, .int .i64 ((s : Nat) : Int)), (126, .bool (decide (((s7.2.2 : Nat) : Int) < ((hs.length : Nat) : Int)))), (11, .int .i64 ((s7.2.2 : Nat) : Int)), (76, .bool (decide (((s5 : Nat) : Int) < ((hs.length : Nat) : Int)))), (9, .int .i64 ((s5 : Nat) : Int)), (46, .bool (decide (((s3.2.2 : Nat) : Int) < ((hs.length : Nat) : Int)))), (6, .int .i64 ((s3.2.2 : Nat) : Int)), (5, .slice (some ⟨g42,0, none⟩) hs.length hs.length), (19, .bool (decide (((s1.2 : Nat) : Int) < ((hs.length : Nat) : Int)))), (3, .int .i64 ((s1.2 : Nat) : Int)), (2, .bool false), (0, .slice p hs.length c)]) (fun s => []) (fun s => [.own 33 1 hdrR (.slice (some ⟨g42,0, none⟩) hs.length hs.length) s7.1, .own 33 1 hdrR (.slice p hs.length c) hs, flatF 9 1 s7.2.1]) 0 (Nat.zero_le _) [14,126,11,76,9,46,6,5,19,3,2,0] rfl (asK [] rfl) rfl (fun s9 oks9 => (wc_seq ?_))))))))))))))
     refine wc_seq (wc_region (wP rfl (wP rfl (wN rfl tE_35 (wP rfl (wl_nil (we_then (wc_keep [155,14,126,11,76,9,46,6,5,19,3,2,0] (S' := [_,_,_,_,_,_,_,_,_,_,_,_,_]) rfl ?_))))))))
     refine wc_cond rfl (fun h155 => ?_) (fun h155 => ?_)
     ·
      replace h155 := of_decide_eq_true h155
      have hk9 : s9 < hs.length := by omega
      obtain ⟨y9, hy9⟩ : ∃ y, hs[s9]? = some y := ⟨_, List.getElem?_eq_getElem hk9⟩
      have hB9 : y9.2.1 ≤ 1073741824 := hb _ (List.mem_of_getElem? hy9)
      obtain ⟨r9, hr9, hh9, hl9, hg9, t9, hm9⟩ := oks7.2.look (by omega) hy9
      refine wc_flLen 2 rfl hr9 (fun hA9 hC9 => ?_)
      rw [hl9, marks_len] at hA9
      have hE9 := hC9
      rw [hm9, List.length_append, marks_len] at hE9
      refine wc_skip (we_then (wc_seq (wc_block (wc_seq (wc_region (wP rfl (wl_nil (we_then (wc_block (wc_loop (σ := Nat) (fun s => s ≤ y9.2.1) (fun s => y9.2.1 - s) (fun s => [(15, .int .i64 ((s : Nat) : Int)), (155, .bool (decide (((s9 : Nat) : Int) < ((hs.length : Nat) : Int)))), (14, .int .i64 ((s9 : Nat) : Int)), (126, .bool (decide (((s7.2.2 : Nat) : Int) < ((hs.length : Nat) : Int)))), (11, .int .i64 ((s7.2.2 : Nat) : Int)), (76, .bool (decide (((s5 : Nat) : Int) < ((hs.length : Nat) : Int)))), (9, .int .i64 ((s5 : Nat) : Int)), (46, .bool (decide (((s3.2.2 : Nat) : Int) < ((hs.length : Nat) : Int)))), (6, .int .i64 ((s3.2.2 : Nat) : Int)), (5, .slice (some ⟨g42,0, none⟩) hs.length hs.length), (19, .bool (decide (((s1.2 : Nat) : Int) < ((hs.length : Nat) : Int)))), (3, .int .i64 ((s1.2 : Nat) : Int)), (2, .bool false), (0, .slice p hs.length c)]) (fun s => []) (fun s => [.own 33 1 hdrR (.slice (some ⟨g42,0, none⟩) hs.length hs.length) s7.1, .own 33 1 hdrR (.slice p hs.length c) hs, flatF 9 1 s7.2.1]) 0 (Nat.zero_le _) [15,155,14,126,11,76,9,46,6,5,19,3,2,0] rfl (asK [] rfl) rfl (fun s10 oks10 => (wc_seq (wc_seq (wc_region ?_))))))))))))))
      refine wP rfl (wP rfl (wP rfl (wl_indexH 1 s9 rfl rfl rfl (freshS_eq rfl) rfl rfl rfl rfl rfl hk9 tE_35 tS_33 (fun g161 eg161 => ?_))))
      subst eg161
      refine wl_loadRow hdr_opens 1 s9 0 rfl rfl rfl (freshS_eq rfl) rfl rfl rfl hy9 tS_33 tA_33 (v := fun _ => .slice y9.1 y9.2.1 y9.2.2) (fun _ => rfl) (fun _ => rfl) (fun _ _ => (wN rfl tE_33 (wP rfl (wl_nil (we_then (wc_keep [164,15,155,14,126,11,76,9,46,6,5,19,3,2,0] (S' := [_,_,_,_,_,_,_,_,_,_,_,_,_,_,_]) rfl ?_))))))
      refine wc_cond rfl (fun h164 => ?_) (fun h164 => ?_)
      ·
       replace h164 := of_decide_eq_true h164
       refine wc_skip (we_then (wc_seq (wc_block (wc_seq (wc_draw [0,1,2,3,4,5,6,7,8,10,11,12,13,14,15,16,17,18,19,20,21,23,24,25] rfl rfl (fun hok => (xP hok 0 rfl (xP hok 1 rfl (wx_indexK hok 2 1 s9 rfl rfl rfl (freshS_eq rfl) rfl rfl rfl rfl rfl rfl hk9 tE_35 tS_33 (wx_loadRow hok 3 hdr_opens 1 s9 0 rfl rfl rfl (freshS_eq rfl) rfl rfl rfl rfl hy9 tS_33 tA_33 (v := .slice y9.1 y9.2.1 y9.2.2) rfl rfl (fun _ => (xP hok 4 rfl (wx_flIdxH hok 5 (p := y9.1) (m := y9.2.1) (cp := y9.2.2) 2 s9 s10 rfl rfl rfl (freshS_eq rfl) rfl rfl rfl hr9 hh9 rfl rfl rfl (by omega) (by rw [hl9, marks_len]) tE_33 tS_9 (fun g172 eg172 => (wx_flLoadH hok 6 2 s9 s10 rfl rfl rfl (freshS_eq rfl) rfl rfl rfl hr9 (hdr_eq hh9 eg172) rfl (cs := mc_markText s9 s10) (by rw [hl9]; exact marks_at (by omega)) tS_9 tA_9 rfl (v := .string (z_markText ((s9 : Nat) : Int) ((s10 : Nat) : Int))) rfl (xP hok 7 rfl ?_))))))))))))))))
       refine xP hok 8 rfl (xS hok 9 rfl (wC [] [0,1,2] rfl fn_76 rfl (z_markText_s ((s9 : Nat) : Int) ((s10 : Nat) : Int)) (asK [] rfl) rfl (H' := [_,_,_]) rfl ?_))
       rintro _ _ _ ⟨rfl, rfl, rfl⟩
       refine wl_nil (we_x [] [2,1] rfl rfl (xP hok 10 rfl (wx_as (d := 177) (v' := .bool true) (S' := [_,_,_,_,_,_,_,_,_,_,_,_,_,_,_,_,_,_,_,_,_,_,_,_,_]) rfl rfl (congrArg Value.bool (by simp)) (xP hok 11 rfl (xP hok 12 rfl (xP hok 13 rfl (xP hok 14 rfl (wx_indexK hok 15 0 s9 rfl rfl rfl (freshS_eq rfl) rfl rfl rfl rfl rfl rfl (by rw [oks7.2.2.1]; exact hk9) tE_35 tS_33 (wx_loadRow hok 16 hdr_opens 0 s9 0 rfl rfl rfl (freshS_eq rfl) rfl rfl rfl rfl hg9 tS_33 tA_33 (v := .slice r9.g.1 r9.g.2.1 r9.g.2.2) rfl rfl (fun _ => (xP hok 17 rfl (wx_flIdxG hok 18 (p := r9.g.1) (m := r9.g.2.1) (cp := r9.g.2.2) 2 s9 s10 rfl rfl rfl (freshS_eq rfl) rfl rfl rfl hr9 rfl rfl rfl rfl (by omega) hC9.symm tE_33 tS_9 (fun g185 eg185 => (wx_flLoadG hok 19 2 s9 s10 rfl rfl rfl (freshS_eq rfl) rfl rfl rfl hr9 (hdr_eqG eg185) rfl (cs := mc_markText s9 s10) (by rw [hm9]; exact app_at (by omega)) tS_9 tA_9 rfl (v := .string (z_markText ((s9 : Nat) : Int) ((s10 : Nat) : Int))) rfl (xP hok 20 rfl ?_)))))))))))))))
       refine xP hok 21 rfl (xS hok 22 rfl (wC [] [0,1,2] rfl fn_76 rfl (z_markText_s ((s9 : Nat) : Int) ((s10 : Nat) : Int)) (asK [] rfl) rfl (H' := [_,_,_]) rfl ?_))
       rintro _ _ _ ⟨rfl, rfl, rfl⟩
       refine wl_nil (we_x [] [2,0,2,1] rfl rfl (xP hok 23 rfl (wx_as (d := 190) (v' := .bool true) (S' := [_,_,_,_,_,_,_,_,_,_,_,_,_,_,_,_,_,_,_,_,_,_,_,_,_,_,_,_,_,_,_,_,_,_,_,_,_,_]) rfl rfl (congrArg Value.bool (by simp)) (xP hok 24 rfl (xP hok 25 rfl (wx_done hok rfl (we_then (wc_keep [192,164,15,155,14,126,11,76,9,46,6,5,19,3,2,0] (S' := [_,_,_,_,_,_,_,_,_,_,_,_,_,_,_,_]) rfl (wc_false rfl (wc_skip (we_block_normal (we_then (wc_region ?_)))))))))))))
       refine wP rfl (wP rfl (wl_as (d := 166) (v' := .int .i64 ((s10 + 1 : Nat) : Int)) (S' := [_,_,_,_,_,_,_,_,_,_,_,_,_,_,_,_,_]) rfl rfl (nat_add (a := s10) (b := 1) (by omega)) (wl_pure (S' := [_,_,_,_,_,_,_,_,_,_,_,_,_,_,_,_,_]) rfl rfl rfl rfl rfl (wl_nil ?_))))
       refine we_round (s10 + 1) (by omega) (by omega) [15,155,14,126,11,76,9,46,6,5,19,3,2,0] rfl (asK [] rfl) rfl
      ·
       replace h164 := of_decide_eq_false h164
       refine wc_exit (we_then_exit (we_then_exit (we_block_hit (we_block_normal (we_then (wc_region (wP rfl (wP rfl (wl_as (d := 157) (v' := .int .i64 ((s9 + 1 : Nat) : Int)) (S' := [_,_,_,_,_,_,_,_,_,_,_,_,_,_,_,_]) rfl rfl (nat_add (a := s9) (b := 1) (by omega)) (wl_pure (S' := [_,_,_,_,_,_,_,_,_,_,_,_,_,_,_,_]) rfl rfl rfl rfl rfl (wl_nil ?_)))))))))))
       refine we_round (s9 + 1) (by omega) (by omega) [14,126,11,76,9,46,6,5,19,3,2,0] rfl (asK [] rfl) rfl
     ·
      replace h155 := of_decide_eq_false h155
      refine wc_exit (we_then_exit (we_then_exit (we_block_hit (we_then (wc_seq (wc_region (wl_pure (S' := [_,_,_,_,_,_,_,_,_,_,_,_]) rfl rfl rfl rfl rfl (wl_nil (we_then (wc_ret (ret_one (Hr := [flatF 9 1 s7.2.1]) [2] Tryz.results47 (res_tmp rfl) ?_ (asK [] rfl) rfl rfl (.inl rfl))))))))))))
      exact ⟨_, oks7.2.left, rfl, rfl, rfl⟩
theorem z_markByte_s (k i : Int) : Spec Tryz.prog 20 [.int .i64 k, .int .i64 i] [] [] (fun v Φr Hr => v = .int .u8 (z_markByte k i) ∧ Φr = [] ∧ Hr = []) := w_ropewalkkit_markByte_s 0 k i rfl
def mc_markByte (k i : Nat) : List Value := [.int .u8 (z_markByte ((k : Nat) : Int) ((i : Nat) : Int))]
theorem fl_flatBytes (p : Option Addr) (c : Nat) (hs : List Hdr) (hL : hs.length ≤ 1073741824) (hb : ∀ h ∈ hs, h.2.1 ≤ 1073741824) : Spec Tryz.prog 48 [.slice p hs.length c] [] [.own 22 1 hdrR (.slice p hs.length c) hs, flatF 5 1 (hs.map row0)] (fun v Φr Hr => ∃ rows, FlE hs mc_markByte rows ∧ v = .bool true ∧ Φr = [] ∧ Hr = [flatF 5 1 rows]) := by
 refine spec_of Tryz.func48 rfl Tryz.ntmps48 rfl (S := [_]) rfl (fun C => (wc_seq (wc_region (wP rfl (wl_nil (we_then (wc_seq (wc_seq (wc_region (wP rfl (wl_nil (we_then (wc_block (wc_loop (σ := List Twin × Nat) (fun s => s.2 ≤ hs.length ∧ FlA hs mc_markByte s.2 0 s.1) (fun s => hs.length - s.2) (fun s => [(3, .int .i64 ((s.2 : Nat) : Int)), (2, .bool false), (0, .slice p hs.length c)]) (fun s => []) (fun s => [.own 22 1 hdrR (.slice p hs.length c) hs, flatF 5 1 s.1]) (hs.map row0,0) ⟨Nat.zero_le _, FlA.start⟩ [3,2,0] rfl (asK [] rfl) rfl (fun s1 oks1 => ?_)))))))))))))))
 refine wc_seq (wc_seq (wc_region (wP rfl (wP rfl (wN rfl tE_37 (wP rfl (wl_nil (we_then (wc_keep [19,3,2,0] (S' := [_,_,_,_]) rfl ?_)))))))))
 refine wc_cond rfl (fun h19 => ?_) (fun h19 => ?_)
 ·
  replace h19 := of_decide_eq_true h19
  have hk1 : s1.2 < hs.length := by omega
  obtain ⟨y1, hy1⟩ : ∃ y, hs[s1.2]? = some y := ⟨_, List.getElem?_eq_getElem hk1⟩
  have hB1 : y1.2.1 ≤ 1073741824 := hb _ (List.mem_of_getElem? hy1)
  refine wc_skip (we_then (wc_seq (wc_block (wc_seq (wc_region (wP rfl (wl_nil (we_then (wc_block (wc_loop (σ := List Twin × Nat) (fun s => s.2 ≤ y1.2.1 ∧ FlA hs mc_markByte s1.2 s.2 s.1) (fun s => y1.2.1 - s.2) (fun s => [(4, .int .i64 ((s.2 : Nat) : Int)), (19, .bool (decide (((s1.2 : Nat) : Int) < ((hs.length : Nat) : Int)))), (3, .int .i64 ((s1.2 : Nat) : Int)), (2, .bool false), (0, .slice p hs.length c)]) (fun s => []) (fun s => [.own 22 1 hdrR (.slice p hs.length c) hs, flatF 5 1 s.1]) (s1.1,0) ⟨Nat.zero_le _, oks1.2⟩ [4,19,3,2,0] rfl (asK [] rfl) rfl (fun s2 oks2 => (wc_seq (wc_seq (wc_region ?_))))))))))))))
  refine wP rfl (wP rfl (wP rfl (wl_indexH 0 s1.2 rfl rfl rfl (freshS_eq rfl) rfl rfl rfl rfl rfl hk1 tE_37 tS_22 (fun g25 eg25 => ?_))))
  subst eg25
  refine wl_loadRow hdr_opens 0 s1.2 0 rfl rfl rfl (freshS_eq rfl) rfl rfl rfl hy1 tS_22 tA_22 (v := fun _ => .slice y1.1 y1.2.1 y1.2.2) (fun _ => rfl) (fun _ => rfl) (fun _ _ => (wN rfl tE_22 (wP rfl (wl_nil (we_then (wc_keep [28,4,19,3,2,0] (S' := [_,_,_,_,_,_]) rfl ?_))))))
  refine wc_cond rfl (fun h28 => ?_) (fun h28 => ?_)
  ·
   replace h28 := of_decide_eq_true h28
   obtain ⟨r2, hr2, hh2, hsm2, hl2⟩ := oks2.2.at_ hy1
   refine wc_skip (we_then (wc_seq (wc_block (wc_draw [0,1,2,3,4,5,6,8] rfl rfl (fun hok => (xP hok 0 rfl (xP hok 1 rfl (wx_indexK hok 2 0 s1.2 rfl rfl rfl (freshS_eq rfl) rfl rfl rfl rfl rfl rfl hk1 tE_37 tS_22 (wx_loadRow hok 3 hdr_opens 0 s1.2 0 rfl rfl rfl (freshS_eq rfl) rfl rfl rfl rfl hy1 tS_22 tA_22 (v := .slice y1.1 y1.2.1 y1.2.2) rfl rfl (fun _ => (xP hok 4 rfl (xP hok 5 rfl (xP hok 6 rfl (xS hok 7 rfl (wC [] [0,1] rfl fn_20 rfl (z_markByte_s ((s1.2 : Nat) : Int) ((s2.2 : Nat) : Int)) (asK [] rfl) rfl (H' := [_,_]) rfl ?_)))))))))))))))
   rintro _ _ _ ⟨rfl, rfl, rfl⟩
   refine wl_nil (we_x [] [0] rfl rfl (wx_flIdxH hok 8 (p := y1.1) (m := y1.2.1) (cp := y1.2.2) 1 s1.2 s2.2 rfl rfl rfl (freshS_eq rfl) rfl rfl rfl hr2 hh2 rfl rfl rfl (by omega) hl2 tE_22 tS_5 (fun g39 eg39 => (xS hok 9 rfl (wl_flStore (cs := mc_markByte s1.2 s2.2) 1 s1.2 s2.2 rfl rfl rfl rfl hr2 hsm2 (hdr_eq hh2 eg39) rfl (by omega) rfl rfl tS_5 rfl (one_of rfl) (H' := [_,_]) rfl (wl_nil (we_x [] [] rfl rfl (wx_done hok rfl (we_block_normal (we_then (wc_region (wP rfl (wP rfl (wl_as (d := 30) (v' := .int .i64 ((s2.2 + 1 : Nat) : Int)) (S' := [_,_,_,_,_,_,_,_,_,_,_,_,_,_,_,_]) rfl rfl (nat_add (a := s2.2) (b := 1) (by omega)) ?_))))))))))))))
   refine wl_pure (S' := [_,_,_,_,_,_,_,_,_,_,_,_,_,_,_,_]) rfl rfl rfl rfl rfl (wl_nil ?_)
   refine we_round (s2.1.set s1.2 ⟨r2.h, (r2.l.set s2.2 (some (mc_markByte s1.2 s2.2))), r2.h, (r2.l.set s2.2 (some (mc_markByte s1.2 s2.2)))⟩, s2.2 + 1) (by show y1.2.1 - (s2.2 + 1) < _; omega) ⟨by show s2.2 + 1 ≤ _; omega, oks2.2.store hy1 hr2 (by omega)⟩ [4,19,3,2,0] rfl (asK [] rfl) rfl
  ·
   replace h28 := of_decide_eq_false h28
   refine wc_exit (we_then_exit (we_then_exit (we_block_hit (we_block_normal (we_then (wc_region (wP rfl (wP rfl (wl_as (d := 21) (v' := .int .i64 ((s1.2 + 1 : Nat) : Int)) (S' := [_,_,_,_,_,_,_]) rfl rfl (nat_add (a := s1.2) (b := 1) (by omega)) (wl_pure (S' := [_,_,_,_,_,_,_]) rfl rfl rfl rfl rfl (wl_nil ?_)))))))))))
   refine we_round (s2.1, s1.2 + 1) (by show hs.length - (s1.2 + 1) < _; omega) ⟨by show s1.2 + 1 ≤ _; omega, oks2.2.next hy1 (by omega)⟩ [3,2,0] rfl (asK [] rfl) rfl
 ·
  replace h19 := of_decide_eq_false h19
  refine wc_exit (we_then_exit (we_then_exit (we_block_hit (we_then (wc_seq (wc_region (wP rfl (wN rfl tE_37 (wl_makeSlice (m := hs.length) hdrR (none, 0,0) rfl rfl rfl (freshS_eq rfl) rfl rfl rfl rfl rfl tE_37 tR_22 rfl rfl (fun _ _ => rfl) (by omega) (by omega) (fun g42 => (wP rfl (wl_nil (we_then (wc_keep [5,19,3,2,0] (S' := [_,_,_,_,_]) rfl ?_))))))))))))))
  refine wc_seq (wc_seq (wc_region (wP rfl (wl_nil (we_then (wc_block (wc_loop (σ := List Hdr × List Twin × Nat) (fun s => s.2.2 ≤ hs.length ∧ FlB hs mc_markByte s.1 s.2.2 s.2.1) (fun s => hs.length - s.2.2) (fun s => [(6, .int .i64 ((s.2.2 : Nat) : Int)), (5, .slice (some ⟨g42,0, none⟩) hs.length hs.length), (19, .bool (decide (((s1.2 : Nat) : Int) < ((hs.length : Nat) : Int)))), (3, .int .i64 ((s1.2 : Nat) : Int)), (2, .bool false), (0, .slice p hs.length c)]) (fun s => []) (fun s => [.own 22 1 hdrR (.slice (some ⟨g42,0, none⟩) hs.length hs.length) s.1, .own 22 1 hdrR (.slice p hs.length c) hs, flatF 5 1 s.2.1]) (List.replicate hs.length (none, 0,0), s1.1,0) ⟨Nat.zero_le _, oks1.2.grow (by omega) (by simp)⟩ [6,5,19,3,2,0] rfl (asK [] rfl) rfl (fun s3 oks3 => (wc_seq (wc_seq (wc_region (wP rfl (wP rfl (wN rfl tE_37 ?_))))))))))))))
  refine wP rfl (wl_nil (we_then (wc_keep [46,6,5,19,3,2,0] (S' := [_,_,_,_,_,_,_]) rfl ?_)))
  refine wc_cond rfl (fun h46 => ?_) (fun h46 => ?_)
  ·
   replace h46 := of_decide_eq_true h46
   have hk3 : s3.2.2 < hs.length := by omega
   obtain ⟨y3, hy3⟩ : ∃ y, hs[s3.2.2]? = some y := ⟨_, List.getElem?_eq_getElem hk3⟩
   have hB3 : y3.2.1 ≤ 1073741824 := hb _ (List.mem_of_getElem? hy3)
   refine wc_skip (we_then (wc_seq (wc_block (wc_seq (wc_region (wP rfl (wP rfl (wl_indexH 1 s3.2.2 rfl rfl rfl (freshS_eq rfl) rfl rfl rfl rfl rfl hk3 tE_37 tS_22 (fun g51 eg51 => ?_)))))))))
   subst eg51
   refine wl_loadRow hdr_opens 1 s3.2.2 0 rfl rfl rfl (freshS_eq rfl) rfl rfl rfl hy3 tS_22 tA_22 (v := fun _ => .slice y3.1 y3.2.1 y3.2.2) (fun _ => rfl) (fun _ => rfl) (fun _ _ => (wP rfl (wl_nil (we_then (wc_keep [7,46,6,5,19,3,2,0] (S' := [_,_,_,_,_,_,_,_]) rfl (wc_seq (wc_seq (wc_region (wP rfl (wl_nil (we_then (wc_block (wc_loop (σ := List Twin × Hdr × Nat) (fun s => s.2.2 ≤ 64 ∧ FlC hs mc_markByte s3.1 s3.2.2 s.2.2 s.2.1 s.1) (fun s => 64 - s.2.2) (fun s => [(8, .int .i64 ((s.2.2 : Nat) : Int)), (7, .slice s.2.1.1 s.2.1.2.1 s.2.1.2.2), (46, .bool (decide (((s3.2.2 : Nat) : Int) < ((hs.length : Nat) : Int)))), (6, .int .i64 ((s3.2.2 : Nat) : Int)), (5, .slice (some ⟨g42,0, none⟩) hs.length hs.length), (19, .bool (decide (((s1.2 : Nat) : Int) < ((hs.length : Nat) : Int)))), (3, .int .i64 ((s1.2 : Nat) : Int)), (2, .bool false), (0, .slice (some ⟨g51,0, none⟩) hs.length c)]) (fun s => []) (fun s => [.own 22 1 hdrR (.slice (some ⟨g42,0, none⟩) hs.length hs.length) s3.1, .own 22 1 hdrR (.slice (some ⟨g51,0, none⟩) hs.length c) hs, flatF 5 1 s.1]) (s3.2.1, y3,0) ⟨Nat.zero_le _, oks3.2.begin hy3⟩ [8,7,46,6,5,19,3,2,0] rfl (asK [] rfl) rfl (fun s4 oks4 => (wc_seq ?_)))))))))))))))
   refine wc_seq (wc_region (wP rfl (wP rfl (wl_nil (we_then (wc_keep [54,8,7,46,6,5,19,3,2,0] (S' := [_,_,_,_,_,_,_,_,_,_]) rfl ?_))))))
   refine wc_cond rfl (fun h54 => ?_) (fun h54 => ?_)
   ·
    replace h54 := of_decide_eq_true h54
    obtain ⟨r4, hr4, hh4, hl4, hg4, hm4⟩ := oks4.2.at_ hy3
    refine wc_skip (we_then (wc_seq (wc_block (wc_region (wP rfl (wP rfl (wP rfl (wP rfl (wl_indexK 1 s3.2.2 rfl rfl rfl (freshS_eq rfl) rfl rfl rfl rfl rfl hk3 tE_37 tS_22 (wl_loadRow hdr_opens 1 s3.2.2 0 rfl rfl rfl (freshS_eq rfl) rfl rfl rfl hy3 tS_22 tA_22 (v := fun _ => .slice y3.1 y3.2.1 y3.2.2) (fun _ => rfl) (fun _ => rfl) (fun _ _ => (wN rfl tE_22 (wP rfl (wP rfl ?_))))))))))))))
    refine wl_as (d := 65) (v' := .int .i64 ((y3.2.1 + s4.2.2 : Nat) : Int)) (S' := [_,_,_,_,_,_,_,_,_,_,_,_,_,_,_,_,_,_]) rfl rfl (nat_add (a := y3.2.1) (b := s4.2.2) (by omega)) (wC [] [0,1,2] rfl fn_20 rfl (z_markByte_s ((s3.2.2 : Nat) : Int) ((y3.2.1 + s4.2.2 : Nat) : Int)) (asK [] rfl) rfl (H' := [_,_,_]) rfl ?_)
    rintro _ _ _ ⟨rfl, rfl, rfl⟩
    refine wl_buildSlice rfl rfl rfl (freshS_eq rfl) rfl tE_22 tS_5 tZ_5 rfl (zs := [.int .u8 0]) (by kernel_rfl) rfl (out := [_]) rfl (fun g67 => (wl_flAppB (cs := mc_markByte s3.2.2 (y3.2.1 + s4.2.2)) 3 s3.2.2 0 rfl rfl rfl (freshS_eq rfl) rfl rfl hr4 (by rw [hg4]; rfl) rfl rfl rfl (one_of rfl) tE_22 tR_5 rfl rfl (by rw [hm4]; simp only [marks_len, List.length_append, List.length_cons, List.length_nil]; omega) (by rw [hm4]; simp only [marks_len, List.length_append, List.length_cons, List.length_nil]; omega) (H2 := fun gh68 => [_,_,_, flatF 5 1 (s4.1.set s3.2.2 ⟨r4.h, r4.l, gh68, r4.m ++ [some (mc_markByte s3.2.2 (y3.2.1 + s4.2.2))]⟩)]) (fun _ => rfl) (fun gh68 => (wl_drop 0 rfl (H' := [_,_,_]) rfl (wl_pure (S' := [_,_,_,_,_,_,_,_,_,_,_,_,_,_,_,_,_,_,_,_,_]) rfl rfl rfl rfl rfl (wl_nil (we_block_normal (we_then (wc_region (wP rfl (wP rfl (wl_as (d := 56) (v' := .int .i64 ((s4.2.2 + 1 : Nat) : Int)) (S' := [_,_,_,_,_,_,_,_,_,_,_,_,_,_,_,_,_,_,_,_,_,_,_]) rfl rfl (nat_add (a := s4.2.2) (b := 1) (by omega)) (wl_pure (S' := [_,_,_,_,_,_,_,_,_,_,_,_,_,_,_,_,_,_,_,_,_,_,_]) rfl rfl rfl rfl rfl (wl_nil ?_))))))))))))))
    refine we_round (s4.1.set s3.2.2 ⟨r4.h, r4.l, gh68, r4.m ++ [some (mc_markByte s3.2.2 (y3.2.1 + s4.2.2))]⟩, gh68, s4.2.2 + 1) (by show 64 - (s4.2.2 + 1) < _; omega) ⟨by show s4.2.2 + 1 ≤ 64; omega, oks4.2.app hy3 hr4 _⟩ [8,7,46,6,5,19,3,2,0] rfl (asK [] rfl) rfl
   ·
    replace h54 := of_decide_eq_false h54
    refine wc_exit (we_then_exit (we_then_exit (we_block_hit (we_then (wc_region (wP rfl (wP rfl (wP rfl (wl_indexK 0 s3.2.2 rfl rfl rfl (freshS_eq rfl) rfl rfl rfl rfl rfl (by rw [oks3.2.2.1]; exact hk3) tE_37 tS_22 (wl_storeRow (u := s4.2.1) 0 s3.2.2 rfl rfl rfl rfl rfl (by rw [oks3.2.2.1]; exact hk3) rfl rfl tS_22 rfl (fun _ _ _ => rfl) (H' := [_,_,_]) rfl (wl_nil (we_block_normal (we_then ?_)))))))))))))
    refine wc_region (wP rfl (wP rfl (wl_as (d := 48) (v' := .int .i64 ((s3.2.2 + 1 : Nat) : Int)) (S' := [_,_,_,_,_,_,_,_,_,_,_,_,_,_,_]) rfl rfl (nat_add (a := s3.2.2) (b := 1) (by omega)) (wl_pure (S' := [_,_,_,_,_,_,_,_,_,_,_,_,_,_,_]) rfl rfl rfl rfl rfl (wl_nil ?_)))))
    have hc3 := oks4.2
    rw [show s4.2.2 = 64 from by omega] at hc3
    refine we_round (s3.1.set s3.2.2 s4.2.1, s4.1, s3.2.2 + 1) (by show hs.length - (s3.2.2 + 1) < _; omega) ⟨by show s3.2.2 + 1 ≤ _; omega, hc3.done hk3⟩ [6,5,19,3,2,0] rfl (asK [] rfl) rfl
  ·
   replace h46 := of_decide_eq_false h46
   refine wc_exit (we_then_exit (we_then_exit (we_block_hit (we_then (wc_seq (wc_seq (wc_region (wP rfl (wl_nil (we_then (wc_block (wc_loop (σ := Nat) (fun s => s ≤ hs.length) (fun s => hs.length - s) (fun s => [(9, .int .i64 ((s : Nat) : Int)), (46, .bool (decide (((s3.2.2 : Nat) : Int) < ((hs.length : Nat) : Int)))), (6, .int .i64 ((s3.2.2 : Nat) : Int)), (5, .slice (some ⟨g42,0, none⟩) hs.length hs.length), (19, .bool (decide (((s1.2 : Nat) : Int) < ((hs.length : Nat) : Int)))), (3, .int .i64 ((s1.2 : Nat) : Int)), (2, .bool false), (0, .slice p hs.length c)]) (fun s => []) (fun s => [.own 22 1 hdrR (.slice (some ⟨g42,0, none⟩) hs.length hs.length) s3.1, .own 22 1 hdrR (.slice p hs.length c) hs, flatF 5 1 s3.2.1]) 0 (Nat.zero_le _) [9,46,6,5,19,3,2,0] rfl (asK [] rfl) rfl (fun s5 oks5 => (wc_seq ?_))))))))))))))
   refine wc_seq (wc_region (wP rfl (wP rfl (wN rfl tE_37 (wP rfl (wl_nil (we_then (wc_keep [76,9,46,6,5,19,3,2,0] (S' := [_,_,_,_,_,_,_,_,_]) rfl ?_))))))))
   refine wc_cond rfl (fun h76 => ?_) (fun h76 => ?_)
   ·
    replace h76 := of_decide_eq_true h76
    have hk5 : s5 < hs.length := by omega
    obtain ⟨y5, hy5⟩ : ∃ y, hs[s5]? = some y := ⟨_, List.getElem?_eq_getElem hk5⟩
    have hB5 : y5.2.1 ≤ 1073741824 := hb _ (List.mem_of_getElem? hy5)
    obtain ⟨r5, hr5, hh5, hl5, hg5, hm5⟩ := oks3.2.look (by omega) hy5
    refine wc_flLen 2 rfl hr5 (fun hA5 hC5 => ?_)
    rw [hl5, marks_len] at hA5
    rw [hm5, marks_len] at hC5
    refine wc_skip (we_then (wc_seq (wc_block (wc_seq (wc_region (wP rfl (wl_nil (we_then (wc_block (wc_loop (σ := Nat) (fun s => s ≤ y5.2.1 + 64) (fun s => y5.2.1 + 64 - s) (fun s => [(10, .int .i64 ((s : Nat) : Int)), (76, .bool (decide (((s5 : Nat) : Int) < ((hs.length : Nat) : Int)))), (9, .int .i64 ((s5 : Nat) : Int)), (46, .bool (decide (((s3.2.2 : Nat) : Int) < ((hs.length : Nat) : Int)))), (6, .int .i64 ((s3.2.2 : Nat) : Int)), (5, .slice (some ⟨g42,0, none⟩) hs.length hs.length), (19, .bool (decide (((s1.2 : Nat) : Int) < ((hs.length : Nat) : Int)))), (3, .int .i64 ((s1.2 : Nat) : Int)), (2, .bool false), (0, .slice p hs.length c)]) (fun s => []) (fun s => [.own 22 1 hdrR (.slice (some ⟨g42,0, none⟩) hs.length hs.length) s3.1, .own 22 1 hdrR (.slice p hs.length c) hs, flatF 5 1 s3.2.1]) 0 (Nat.zero_le _) [10,76,9,46,6,5,19,3,2,0] rfl (asK [] rfl) rfl (fun s6 oks6 => (wc_seq (wc_seq (wc_region ?_))))))))))))))
    refine wP rfl (wP rfl (wP rfl (wl_indexK 0 s5 rfl rfl rfl (freshS_eq rfl) rfl rfl rfl rfl rfl (by rw [oks3.2.2.1]; exact hk5) tE_37 tS_22 (wl_loadRow hdr_opens 0 s5 0 rfl rfl rfl (freshS_eq rfl) rfl rfl rfl hg5 tS_22 tA_22 (v := fun _ => .slice r5.g.1 r5.g.2.1 r5.g.2.2) (fun _ => rfl) (fun _ => rfl) (fun _ _ => (wN rfl tE_22 (wP rfl (wl_nil (we_then (wc_keep [85,10,76,9,46,6,5,19,3,2,0] (S' := [_,_,_,_,_,_,_,_,_,_,_]) rfl ?_))))))))))
    refine wc_cond rfl (fun h85 => ?_) (fun h85 => ?_)
    ·
     replace h85 := of_decide_eq_true h85
     refine wc_skip (we_then (wc_seq (wc_block (wc_seq (wc_draw [0,1,2,3,4,5,6,7,8,10,11,12,13,14,15,16,17,18,19,20,21,22,23,24,25,26,27,28,29,31,32,33,34] rfl rfl (fun hok => (xP hok 0 rfl (xP hok 1 rfl (wx_indexK hok 2 0 s5 rfl rfl rfl (freshS_eq rfl) rfl rfl rfl rfl rfl rfl (by rw [oks3.2.2.1]; exact hk5) tE_37 tS_22 (wx_loadRow hok 3 hdr_opens 0 s5 0 rfl rfl rfl (freshS_eq rfl) rfl rfl rfl rfl hg5 tS_22 tA_22 (v := .slice r5.g.1 r5.g.2.1 r5.g.2.2) rfl rfl (fun _ => (xP hok 4 rfl (wx_flIdxG hok 5 (p := r5.g.1) (m := r5.g.2.1) (cp := r5.g.2.2) 2 s5 s6 rfl rfl rfl (freshS_eq rfl) rfl rfl rfl hr5 rfl rfl rfl rfl (by omega) (by rw [hm5, marks_len]; omega) tE_22 tS_5 (fun g93 eg93 => (wx_flLoadG hok 6 2 s5 s6 rfl rfl rfl (freshS_eq rfl) rfl rfl rfl hr5 (hdr_eqG eg93) rfl (cs := mc_markByte s5 s6) (by rw [hm5]; exact marks_at (by omega)) tS_5 tA_5 rfl (v := .int .u8 (z_markByte ((s5 : Nat) : Int) ((s6 : Nat) : Int))) rfl (xP hok 7 rfl ?_))))))))))))))))
     refine xP hok 8 rfl (xS hok 9 rfl (wC [] [0,1,2] rfl fn_20 rfl (z_markByte_s ((s5 : Nat) : Int) ((s6 : Nat) : Int)) (asK [] rfl) rfl (H' := [_,_,_]) rfl ?_))
     rintro _ _ _ ⟨rfl, rfl, rfl⟩
     refine wl_nil (we_x [] [2,0] rfl rfl (xP hok 10 rfl (wx_as (d := 98) (v' := .bool true) (S' := [_,_,_,_,_,_,_,_,_,_,_,_,_,_,_,_,_,_,_,_,_]) rfl rfl (congrArg Value.bool (by simp)) (xP hok 11 rfl (xP hok 12 rfl (xP hok 13 rfl (xP hok 14 rfl (xP hok 15 rfl (wx_indexH hok 16 1 s5 rfl rfl rfl (freshS_eq rfl) rfl rfl rfl rfl rfl rfl hk5 tE_37 tS_22 (fun g104 eg104 => ?_))))))))))
     subst eg104
     refine wx_loadRow hok 17 hdr_opens 1 s5 0 rfl rfl rfl (freshS_eq rfl) rfl rfl rfl rfl hy5 tS_22 tA_22 (v := .slice y5.1 y5.2.1 y5.2.2) rfl rfl (fun _ => (wx_len hok 18 rfl rfl rfl (freshS_eq rfl) rfl rfl rfl tE_22 (xP hok 19 rfl (xP hok 20 rfl ?_))))
     refine wx_split (d := 108) (S' := [_,_,_,_,_,_,_,_,_,_,_,_,_,_,_,_,_,_,_,_,_,_,_,_,_,_,_,_,_,_,_]) rfl rfl (fun h108 => ?_) (fun h108 => ?_)
     ·
      replace h108 := of_decide_eq_true h108
      refine xP hok 21 rfl (xP hok 22 rfl (wx_indexK hok 23 1 s5 rfl rfl rfl (freshS_eq rfl) rfl rfl rfl rfl rfl rfl hk5 tE_37 tS_22 (wx_loadRow hok 24 hdr_opens 1 s5 0 rfl rfl rfl (freshS_eq rfl) rfl rfl rfl rfl hy5 tS_22 tA_22 (v := .slice y5.1 y5.2.1 y5.2.2) rfl rfl (fun _ => (xP hok 25 rfl (wx_flIdxH hok 26 (p := y5.1) (m := y5.2.1) (cp := y5.2.2) 2 s5 s6 rfl rfl rfl (freshS_eq rfl) rfl rfl rfl hr5 hh5 rfl rfl rfl (by omega) (by rw [hl5, marks_len]) tE_22 tS_5 (fun g114 eg114 => (wx_flLoadH hok 27 2 s5 s6 rfl rfl rfl (freshS_eq rfl) rfl rfl rfl hr5 (hdr_eq hh5 eg114) rfl (cs := mc_markByte s5 s6) (by rw [hl5]; exact marks_at (by omega)) tS_5 tA_5 rfl (v := .int .u8 (z_markByte ((s5 : Nat) : Int) ((s6 : Nat) : Int))) rfl (xP hok 28 rfl (xP hok 29 rfl (xS hok 30 rfl (wC [] [0,1,2] rfl fn_20 rfl (z_markByte_s ((s5 : Nat) : Int) ((s6 : Nat) : Int)) (asK [] rfl) rfl (H' := [_,_,_]) rfl ?_))))))))))))
      rintro _ _ _ ⟨rfl, rfl, rfl⟩
      refine wl_nil (we_x [] [2,1,1,2,0] rfl rfl (xP hok 31 rfl (wx_as (d := 119) (v' := .bool true) (S' := [_,_,_,_,_,_,_,_,_,_,_,_,_,_,_,_,_,_,_,_,_,_,_,_,_,_,_,_,_,_,_,_,_,_,_,_,_,_,_,_,_,_]) rfl rfl (congrArg Value.bool (by simp)) (xP hok 32 rfl (xP hok 33 rfl (xP hok 34 rfl (wx_done hok rfl (we_then (wc_keep [122,85,10,76,9,46,6,5,19,3,2,0] (S' := [_,_,_,_,_,_,_,_,_,_,_,_]) rfl (wc_false rfl (wc_skip (we_block_normal (we_then ?_)))))))))))))
      refine wc_region (wP rfl (wP rfl (wl_as (d := 87) (v' := .int .i64 ((s6 + 1 : Nat) : Int)) (S' := [_,_,_,_,_,_,_,_,_,_,_,_,_]) rfl rfl (nat_add (a := s6) (b := 1) (by omega)) (wl_pure (S' := [_,_,_,_,_,_,_,_,_,_,_,_,_]) rfl rfl rfl rfl rfl (wl_nil ?_)))))
      refine we_round (s6 + 1) (by omega) (by omega) [10,76,9,46,6,5,19,3,2,0] rfl (asK [] rfl) rfl
     ·
      replace h108 := of_decide_eq_false h108
      refine xO hok 21 rfl (xO hok 22 rfl (xO hok 23 rfl (xO hok 24 rfl (xO hok 25 rfl (xO hok 26 rfl (xO hok 27 rfl (xO hok 28 rfl (xO hok 29 rfl (xS hok 30 rfl (wO rfl (wl_nil (we_x [] [1,2,0] rfl rfl (xO hok 31 rfl ?_)))))))))))))
      refine xO hok 32 rfl (xP hok 33 rfl (xP hok 34 rfl (wx_done hok rfl (we_then (wc_keep [122,85,10,76,9,46,6,5,19,3,2,0] (S' := [_,_,_,_,_,_,_,_,_,_,_,_]) rfl (wc_false rfl (wc_skip (we_block_normal (we_then (wc_region (wP rfl (wP rfl (wl_as (d := 87) (v' := .int .i64 ((s6 + 1 : Nat) : Int)) (S' := [_,_,_,_,_,_,_,_,_,_,_,_,_]) rfl rfl (nat_add (a := s6) (b := 1) (by omega)) ?_)))))))))))))
      refine wl_pure (S' := [_,_,_,_,_,_,_,_,_,_,_,_,_]) rfl rfl rfl rfl rfl (wl_nil ?_)
      refine we_round (s6 + 1) (by omega) (by omega) [10,76,9,46,6,5,19,3,2,0] rfl (asK [] rfl) rfl
    ·
     replace h85 := of_decide_eq_false h85
     refine wc_exit (we_then_exit (we_then_exit (we_block_hit (we_block_normal (we_then (wc_region (wP rfl (wP rfl (wl_as (d := 78) (v' := .int .i64 ((s5 + 1 : Nat) : Int)) (S' := [_,_,_,_,_,_,_,_,_,_,_,_]) rfl rfl (nat_add (a := s5) (b := 1) (by omega)) (wl_pure (S' := [_,_,_,_,_,_,_,_,_,_,_,_]) rfl rfl rfl rfl rfl (wl_nil ?_)))))))))))
     refine we_round (s5 + 1) (by omega) (by omega) [9,46,6,5,19,3,2,0] rfl (asK [] rfl) rfl
   ·
    replace h76 := of_decide_eq_false h76
    refine wc_exit (we_then_exit (we_then_exit (we_block_hit (we_then (wc_seq (wc_seq (wc_region (wP rfl (wl_nil (we_then (wc_block (wc_loop (σ := List Hdr × List Twin × Nat) (fun s => s.2.2 ≤ hs.length ∧ FlD hs mc_markByte s.1 s.2.2 s.2.1) (fun s => hs.length - s.2.2) (fun s => [(11, .int .i64 ((s.2.2 : Nat) : Int)), (76, .bool (decide (((s5 : Nat) : Int) < ((hs.length : Nat) : Int)))), (9, .int .i64 ((s5 : Nat) : Int)), (46, .bool (decide (((s3.2.2 : Nat) : Int) < ((hs.length : Nat) : Int)))), (6, .int .i64 ((s3.2.2 : Nat) : Int)), (5, .slice (some ⟨g42,0, none⟩) hs.length hs.length), (19, .bool (decide (((s1.2 : Nat) : Int) < ((hs.length : Nat) : Int)))), (3, .int .i64 ((s1.2 : Nat) : Int)), (2, .bool false), (0, .slice p hs.length c)]) (fun s => []) (fun s => [.own 22 1 hdrR (.slice (some ⟨g42,0, none⟩) hs.length hs.length) s.1, .own 22 1 hdrR (.slice p hs.length c) hs, flatF 5 1 s.2.1]) (s3.1, s3.2.1,0) ⟨Nat.zero_le _, oks3.2.again⟩ [11,76,9,46,6,5,19,3,2,0] rfl (asK [] rfl) rfl (fun s7 oks7 => (wc_seq ?_))))))))))))))
    refine wc_seq (wc_region (wP rfl (wP rfl (wN rfl tE_37 (wP rfl (wl_nil (we_then (wc_keep [126,11,76,9,46,6,5,19,3,2,0] (S' := [_,_,_,_,_,_,_,_,_,_,_]) rfl ?_))))))))
    refine wc_cond rfl (fun h126 => ?_) (fun h126 => ?_)
    ·
     replace h126 := of_decide_eq_true h126
     have hk7 : s7.2.2 < hs.length := by omega
     obtain ⟨y7, hy7⟩ : ∃ y, hs[s7.2.2]? = some y := ⟨_, List.getElem?_eq_getElem hk7⟩
     have hB7 : y7.2.1 ≤ 1073741824 := hb _ (List.mem_of_getElem? hy7)
     obtain ⟨r7, hr7, hh7, hl7⟩ := oks7.2.at_ hy7
     refine wc_skip (we_then (wc_seq (wc_block (wc_seq (wc_region (wl_makeSlice (m := 64) celR (none : Cel) rfl rfl rfl (freshS_eq rfl) rfl rfl rfl rfl rfl tE_22 tR_5 rfl rfl (fun _ _ => cel_any rfl) (by omega) (by omega) (fun g129 => (wP rfl (wl_nil (we_then (wc_keep [12,126,11,76,9,46,6,5,19,3,2,0] (S' := [_,_,_,_,_,_,_,_,_,_,_,_]) rfl (wc_seq (wc_seq (wc_region ?_))))))))))))))
     refine wP rfl (wl_nil (we_then (wc_block (wc_loop (σ := List Cel × Nat) (fun s => s.2 ≤ 64 ∧ s.1.length = 64) (fun s => 64 - s.2) (fun s => [(13, .int .i64 ((s.2 : Nat) : Int)), (12, .slice (some ⟨g129,0, none⟩) 64 64), (126, .bool (decide (((s7.2.2 : Nat) : Int) < ((hs.length : Nat) : Int)))), (11, .int .i64 ((s7.2.2 : Nat) : Int)), (76, .bool (decide (((s5 : Nat) : Int) < ((hs.length : Nat) : Int)))), (9, .int .i64 ((s5 : Nat) : Int)), (46, .bool (decide (((s3.2.2 : Nat) : Int) < ((hs.length : Nat) : Int)))), (6, .int .i64 ((s3.2.2 : Nat) : Int)), (5, .slice (some ⟨g42,0, none⟩) hs.length hs.length), (19, .bool (decide (((s1.2 : Nat) : Int) < ((hs.length : Nat) : Int)))), (3, .int .i64 ((s1.2 : Nat) : Int)), (2, .bool false), (0, .slice p hs.length c)]) (fun s => []) (fun s => [.own 5 1 celR (.slice (some ⟨g129,0, none⟩) 64 64) s.1, .own 22 1 hdrR (.slice (some ⟨g42,0, none⟩) hs.length hs.length) s7.1, .own 22 1 hdrR (.slice p hs.length c) hs, flatF 5 1 s7.2.1]) (List.replicate 64 (none : Cel), 0) ⟨Nat.zero_le _, by simp⟩ [13,12,126,11,76,9,46,6,5,19,3,2,0] rfl (asK [] rfl) rfl (fun s8 oks8 => (wc_seq (wc_seq (wc_region (wP rfl (wP rfl (wl_nil (we_then (wc_keep [131,13,12,126,11,76,9,46,6,5,19,3,2,0] (S' := [_,_,_,_,_,_,_,_,_,_,_,_,_,_]) rfl ?_)))))))))))))
     refine wc_cond rfl (fun h131 => ?_) (fun h131 => ?_)
     ·
      replace h131 := of_decide_eq_true h131
      refine wc_skip (we_then (wc_seq (wc_block (wc_region (wP rfl (wP rfl (wP rfl (wP rfl (wN rfl tE_37 (wP rfl (wl_as (d := 139) (v' := .int .i64 ((s7.2.2 + hs.length : Nat) : Int)) (S' := [_,_,_,_,_,_,_,_,_,_,_,_,_,_,_,_,_,_,_]) rfl rfl (nat_add (a := s7.2.2) (b := hs.length) (by omega)) (wP rfl (wC [] [0,1,2,3] rfl fn_20 rfl (z_markByte_s ((s7.2.2 + hs.length : Nat) : Int) ((s8.2 : Nat) : Int)) (asK [] rfl) rfl (H' := [_,_,_,_]) rfl ?_)))))))))))))
      rintro _ _ _ ⟨rfl, rfl, rfl⟩
      refine wl_indexK 0 s8.2 rfl rfl rfl (freshS_eq rfl) rfl rfl rfl rfl rfl (by rw [oks8.2]; omega) tE_22 tS_5 (wl_storeRow (u := some ([.int .u8 (z_markByte ((s7.2.2 + hs.length : Nat) : Int) ((s8.2 : Nat) : Int))] : List Value)) 0 s8.2 rfl rfl rfl rfl rfl (by rw [oks8.2]; omega) rfl rfl tS_5 rfl (fun _ _ _ => cel_some rfl) (H' := [_,_,_,_]) rfl (wl_nil (we_block_normal (we_then (wc_region (wP rfl (wP rfl (wl_as (d := 133) (v' := .int .i64 ((s8.2 + 1 : Nat) : Int)) (S' := [_,_,_,_,_,_,_,_,_,_,_,_,_,_,_,_,_,_,_,_,_,_,_,_]) rfl rfl (nat_add (a := s8.2) (b := 1) (by omega)) (wl_pure (S' := [_,_,_,_,_,_,_,_,_,_,_,_,_,_,_,_,_,_,_,_,_,_,_,_]) rfl rfl rfl rfl rfl (wl_nil ?_))))))))))
      refine we_round (s8.1.set s8.2 (some ([.int .u8 (z_markByte ((s7.2.2 + hs.length : Nat) : Int) ((s8.2 : Nat) : Int))] : List Value)), s8.2 + 1) (by show 64 - (s8.2 + 1) < _; omega) ⟨by show s8.2 + 1 ≤ 64; omega, by show (List.set _ _ _).length = 64; rw [List.length_set]; exact oks8.2⟩ [13,12,126,11,76,9,46,6,5,19,3,2,0] rfl (asK [] rfl) rfl
     ·
      replace h131 := of_decide_eq_false h131
      refine wc_exit (we_then_exit (we_then_exit (we_block_hit (we_then (wc_region (wP rfl (wP rfl (wP rfl (wP rfl (wl_indexH 2 s7.2.2 rfl rfl rfl (freshS_eq rfl) rfl rfl rfl rfl rfl hk7 tE_37 tS_22 (fun g147 eg147 => ?_)))))))))))
      subst eg147
      refine wl_loadRow hdr_opens 2 s7.2.2 0 rfl rfl rfl (freshS_eq rfl) rfl rfl rfl hy7 tS_22 tA_22 (v := fun _ => .slice y7.1 y7.2.1 y7.2.2) (fun _ => rfl) (fun _ => rfl) (fun _ _ => (wP rfl (wl_sh [_,_,_, flatF 5 1 (s7.2.1.set s7.2.2 ⟨r7.h, r7.l, r7.h, r7.l⟩)] (fun _ h => h.flReset 3 s7.2.2 rfl hr7) (wl_flAppO 3 s7.2.2 0 rfl rfl rfl (freshS_eq rfl) rfl rfl (set_eqT _ hr7) (by show _ = some (hdv r7.h); rw [hh7]; rfl) rfl rfl oks8.2 (by decide) tE_22 tR_5 rfl rfl (by show r7.l.length + _ ≤ _; rw [hl7, marks_len]; omega) (by show (r7.l.length + _) * _ ≤ _; rw [hl7, marks_len]; omega) (H2 := fun gh150 => [_,_,_, flatF 5 1 ((s7.2.1.set s7.2.2 ⟨r7.h, r7.l, r7.h, r7.l⟩).set s7.2.2 ⟨r7.h, r7.l, gh150, r7.l ++ s8.1⟩)]) (fun _ => rfl) (fun gh150 => (wl_drop 0 rfl (H' := [_,_,_]) rfl (wl_indexK 0 s7.2.2 rfl rfl rfl (freshS_eq rfl) rfl rfl rfl rfl rfl (by rw [oks7.2.2.1]; exact hk7) tE_37 tS_22 (wl_storeRow (u := gh150) 0 s7.2.2 rfl rfl rfl rfl rfl (by rw [oks7.2.2.1]; exact hk7) rfl rfl tS_22 rfl (fun _ _ _ => rfl) (H' := [_,_,_]) rfl (wl_nil (we_block_normal (we_then (wc_region (wP rfl (wP rfl (wl_as (d := 128) (v' := .int .i64 ((s7.2.2 + 1 : Nat) : Int)) (S' := [_,_,_,_,_,_,_,_,_,_,_,_,_,_,_,_,_,_,_,_,_,_,_,_]) rfl rfl (nat_add (a := s7.2.2) (b := 1) (by omega)) ?_)))))))))))))))
      refine wl_pure (S' := [_,_,_,_,_,_,_,_,_,_,_,_,_,_,_,_,_,_,_,_,_,_,_,_]) rfl rfl rfl rfl rfl (wl_nil ?_)
      refine we_round (s7.1.set s7.2.2 gh150, (s7.2.1.set s7.2.2 ⟨r7.h, r7.l, r7.h, r7.l⟩).set s7.2.2 ⟨r7.h, r7.l, gh150, r7.l ++ s8.1⟩, s7.2.2 + 1) (by show hs.length - (s7.2.2 + 1) < _; omega) ⟨by show s7.2.2 + 1 ≤ _; omega, oks7.2.app hy7 hr7 _ _⟩ [11,76,9,46,6,5,19,3,2,0] rfl (asK [] rfl) rfl
    ·
     replace h126 := of_decide_eq_false h126
     refine wc_exit (we_then_exit (we_then_exit (we_block_hit (we_then (wc_seq (wc_seq (wc_region (wP rfl (wl_nil (we_then (wc_block (wc_loop (σ := Nat) (fun s => s ≤ hs.length) (fun s => hs.length - s) (fun s => [(14, .int .i64 ((s : Nat) : Int)), (126, .bool (decide (((s7.2.2 : Nat) : Int) < ((hs.length : Nat) : Int)))), (11, .int .i64 ((s7.2.2 : Nat) : Int)), (76, .bool (decide (((s5 : Nat) : Int) < ((hs.length : Nat) : Int)))), (9, .int .i64 ((s5 : Nat) : Int)), (46, .bool (decide (((s3.2.2 : Nat) : Int) < ((hs.length : Nat) : Int)))), (6, .int .i64 ((s3.2.2 : Nat) : Int)), (5, .slice (some ⟨g42,0, none⟩) hs.length hs.length), (19, .bool (decide (((s1.2 : Nat) : Int) < ((hs.length : Nat) : Int)))), (3, .int .i64 ((s1.2 : Nat) : Int)), (2, .bool false), (0, .slice p hs.length c)]) (fun s => []) (fun s => [.own 22 1 hdrR (.slice (some ⟨g42,0, none⟩) hs.length hs.length) s7.1, .own 22 1 hdrR (.slice p hs.length c) hs, flatF 5 1 s7.2.1]) 0 (Nat.zero_le _) [14,126,11,76,9,46,6,5,19,3,2,0] rfl (asK [] rfl) rfl (fun s9 oks9 => (wc_seq ?_))))))))))))))
     refine wc_seq (wc_region (wP rfl (wP rfl (wN rfl tE_37 (wP rfl (wl_nil (we_then (wc_keep [155,14,126,11,76,9,46,6,5,19,3,2,0] (S' := [_,_,_,_,_,_,_,_,_,_,_,_,_]) rfl ?_))))))))
     refine wc_cond rfl (fun h155 => ?_) (fun h155 => ?_)
     ·
      replace h155 := of_decide_eq_true h155
      have hk9 : s9 < hs.length := by omega
      obtain ⟨y9, hy9⟩ : ∃ y, hs[s9]? = some y := ⟨_, List.getElem?_eq_getElem hk9⟩
      have hB9 : y9.2.1 ≤ 1073741824 := hb _ (List.mem_of_getElem? hy9)
      obtain ⟨r9, hr9, hh9, hl9, hg9, t9, hm9⟩ := oks7.2.look (by omega) hy9
      refine wc_flLen 2 rfl hr9 (fun hA9 hC9 => ?_)
      rw [hl9, marks_len] at hA9
      have hE9 := hC9
      rw [hm9, List.length_append, marks_len] at hE9
      refine wc_skip (we_then (wc_seq (wc_block (wc_seq (wc_region (wP rfl (wl_nil (we_then (wc_block (wc_loop (σ := Nat) (fun s => s ≤ y9.2.1) (fun s => y9.2.1 - s) (fun s => [(15, .int .i64 ((s : Nat) : Int)), (155, .bool (decide (((s9 : Nat) : Int) < ((hs.length : Nat) : Int)))), (14, .int .i64 ((s9 : Nat) : Int)), (126, .bool (decide (((s7.2.2 : Nat) : Int) < ((hs.length : Nat) : Int)))), (11, .int .i64 ((s7.2.2 : Nat) : Int)), (76, .bool (decide (((s5 : Nat) : Int) < ((hs.length : Nat) : Int)))), (9, .int .i64 ((s5 : Nat) : Int)), (46, .bool (decide (((s3.2.2 : Nat) : Int) < ((hs.length : Nat) : Int)))), (6, .int .i64 ((s3.2.2 : Nat) : Int)), (5, .slice (some ⟨g42,0, none⟩) hs.length hs.length), (19, .bool (decide (((s1.2 : Nat) : Int) < ((hs.length : Nat) : Int)))), (3, .int .i64 ((s1.2 : Nat) : Int)), (2, .bool false), (0, .slice p hs.length c)]) (fun s => []) (fun s => [.own 22 1 hdrR (.slice (some ⟨g42,0, none⟩) hs.length hs.length) s7.1, .own 22 1 hdrR (.slice p hs.length c) hs, flatF 5 1 s7.2.1]) 0 (Nat.zero_le _) [15,155,14,126,11,76,9,46,6,5,19,3,2,0] rfl (asK [] rfl) rfl (fun s10 oks10 => (wc_seq (wc_seq (wc_region ?_))))))))))))))
      refine wP rfl (wP rfl (wP rfl (wl_indexH 1 s9 rfl rfl rfl (freshS_eq rfl) rfl rfl rfl rfl rfl hk9 tE_37 tS_22 (fun g161 eg161 => ?_))))
      subst eg161
      refine wl_loadRow hdr_opens 1 s9 0 rfl rfl rfl (freshS_eq rfl) rfl rfl rfl hy9 tS_22 tA_22 (v := fun _ => .slice y9.1 y9.2.1 y9.2.2) (fun _ => rfl) (fun _ => rfl) (fun _ _ => (wN rfl tE_22 (wP rfl (wl_nil (we_then (wc_keep [164,15,155,14,126,11,76,9,46,6,5,19,3,2,0] (S' := [_,_,_,_,_,_,_,_,_,_,_,_,_,_,_]) rfl ?_))))))
      refine wc_cond rfl (fun h164 => ?_) (fun h164 => ?_)
      ·
       replace h164 := of_decide_eq_true h164
       refine wc_skip (we_then (wc_seq (wc_block (wc_seq (wc_draw [0,1,2,3,4,5,6,7,8,10,11,12,13,14,15,16,17,18,19,20,21,23,24,25] rfl rfl (fun hok => (xP hok 0 rfl (xP hok 1 rfl (wx_indexK hok 2 1 s9 rfl rfl rfl (freshS_eq rfl) rfl rfl rfl rfl rfl rfl hk9 tE_37 tS_22 (wx_loadRow hok 3 hdr_opens 1 s9 0 rfl rfl rfl (freshS_eq rfl) rfl rfl rfl rfl hy9 tS_22 tA_22 (v := .slice y9.1 y9.2.1 y9.2.2) rfl rfl (fun _ => (xP hok 4 rfl (wx_flIdxH hok 5 (p := y9.1) (m := y9.2.1) (cp := y9.2.2) 2 s9 s10 rfl rfl rfl (freshS_eq rfl) rfl rfl rfl hr9 hh9 rfl rfl rfl (by omega) (by rw [hl9, marks_len]) tE_22 tS_5 (fun g172 eg172 => (wx_flLoadH hok 6 2 s9 s10 rfl rfl rfl (freshS_eq rfl) rfl rfl rfl hr9 (hdr_eq hh9 eg172) rfl (cs := mc_markByte s9 s10) (by rw [hl9]; exact marks_at (by omega)) tS_5 tA_5 rfl (v := .int .u8 (z_markByte ((s9 : Nat) : Int) ((s10 : Nat) : Int))) rfl (xP hok 7 rfl ?_))))))))))))))))
       refine xP hok 8 rfl (xS hok 9 rfl (wC [] [0,1,2] rfl fn_20 rfl (z_markByte_s ((s9 : Nat) : Int) ((s10 : Nat) : Int)) (asK [] rfl) rfl (H' := [_,_,_]) rfl ?_))
       rintro _ _ _ ⟨rfl, rfl, rfl⟩
       refine wl_nil (we_x [] [2,1] rfl rfl (xP hok 10 rfl (wx_as (d := 177) (v' := .bool true) (S' := [_,_,_,_,_,_,_,_,_,_,_,_,_,_,_,_,_,_,_,_,_,_,_,_,_]) rfl rfl (congrArg Value.bool (by simp)) (xP hok 11 rfl (xP hok 12 rfl (xP hok 13 rfl (xP hok 14 rfl (wx_indexK hok 15 0 s9 rfl rfl rfl (freshS_eq rfl) rfl rfl rfl rfl rfl rfl (by rw [oks7.2.2.1]; exact hk9) tE_37 tS_22 (wx_loadRow hok 16 hdr_opens 0 s9 0 rfl rfl rfl (freshS_eq rfl) rfl rfl rfl rfl hg9 tS_22 tA_22 (v := .slice r9.g.1 r9.g.2.1 r9.g.2.2) rfl rfl (fun _ => (xP hok 17 rfl (wx_flIdxG hok 18 (p := r9.g.1) (m := r9.g.2.1) (cp := r9.g.2.2) 2 s9 s10 rfl rfl rfl (freshS_eq rfl) rfl rfl rfl hr9 rfl rfl rfl rfl (by omega) hC9.symm tE_22 tS_5 (fun g185 eg185 => (wx_flLoadG hok 19 2 s9 s10 rfl rfl rfl (freshS_eq rfl) rfl rfl rfl hr9 (hdr_eqG eg185) rfl (cs := mc_markByte s9 s10) (by rw [hm9]; exact app_at (by omega)) tS_5 tA_5 rfl (v := .int .u8 (z_markByte ((s9 : Nat) : Int) ((s10 : Nat) : Int))) rfl (xP hok 20 rfl ?_)))))))))))))))
       refine xP hok 21 rfl (xS hok 22 rfl (wC [] [0,1,2] rfl fn_20 rfl (z_markByte_s ((s9 : Nat) : Int) ((s10 : Nat) : Int)) (asK [] rfl) rfl (H' := [_,_,_]) rfl ?_))
       rintro _ _ _ ⟨rfl, rfl, rfl⟩
       refine wl_nil (we_x [] [2,0,2,1] rfl rfl (xP hok 23 rfl (wx_as (d := 190) (v' := .bool true) (S' := [_,_,_,_,_,_,_,_,_,_,_,_,_,_,_,_,_,_,_,_,_,_,_,_,_,_,_,_,_,_,_,_,_,_,_,_,_,_]) rfl rfl (congrArg Value.bool (by simp)) (xP hok 24 rfl (xP hok 25 rfl (wx_done hok rfl (we_then (wc_keep [192,164,15,155,14,126,11,76,9,46,6,5,19,3,2,0] (S' := [_,_,_,_,_,_,_,_,_,_,_,_,_,_,_,_]) rfl (wc_false rfl (wc_skip (we_block_normal (we_then (wc_region ?_)))))))))))))
       refine wP rfl (wP rfl (wl_as (d := 166) (v' := .int .i64 ((s10 + 1 : Nat) : Int)) (S' := [_,_,_,_,_,_,_,_,_,_,_,_,_,_,_,_,_]) rfl rfl (nat_add (a := s10) (b := 1) (by omega)) (wl_pure (S' := [_,_,_,_,_,_,_,_,_,_,_,_,_,_,_,_,_]) rfl rfl rfl rfl rfl (wl_nil ?_))))
       refine we_round (s10 + 1) (by omega) (by omega) [15,155,14,126,11,76,9,46,6,5,19,3,2,0] rfl (asK [] rfl) rfl
      ·
       replace h164 := of_decide_eq_false h164
       refine wc_exit (we_then_exit (we_then_exit (we_block_hit (we_block_normal (we_then (wc_region (wP rfl (wP rfl (wl_as (d := 157) (v' := .int .i64 ((s9 + 1 : Nat) : Int)) (S' := [_,_,_,_,_,_,_,_,_,_,_,_,_,_,_,_]) rfl rfl (nat_add (a := s9) (b := 1) (by omega)) (wl_pure (S' := [_,_,_,_,_,_,_,_,_,_,_,_,_,_,_,_]) rfl rfl rfl rfl rfl (wl_nil ?_)))))))))))
       refine we_round (s9 + 1) (by omega) (by omega) [14,126,11,76,9,46,6,5,19,3,2,0] rfl (asK [] rfl) rfl
     ·
      replace h155 := of_decide_eq_false h155
      refine wc_exit (we_then_exit (we_then_exit (we_block_hit (we_then (wc_seq (wc_region (wl_pure (S' := [_,_,_,_,_,_,_,_,_,_,_,_]) rfl rfl rfl rfl rfl (wl_nil (we_then (wc_ret (ret_one (Hr := [flatF 5 1 s7.2.1]) [2] Tryz.results48 (res_tmp rfl) ?_ (asK [] rfl) rfl rfl (.inl rfl))))))))))))
      exact ⟨_, oks7.2.left, rfl, rfl, rfl⟩
theorem ap_apart (g : Nat) (p4 : Option Addr) (c4 : Nat) (h4 : List Hdr) (p5 : Option Addr) (c5 : Nat) (h5 : List Hdr) (hL4 : h4.length ≤ 1073741824) (hB4 : Bd h4) (hL5 : h5.length ≤ 1073741824) (hB5 : Bd h5) : Spec Tryz.prog 33 [.pointer (some ⟨g, 0, none⟩)] [] [.blk g [.slice none 0 0, .slice none 0 0, .slice none 0 0, .slice none 0 0, .slice p4 h4.length c4, .slice p5 h5.length c5, .slice none 0 0, .slice none 0 0, .slice none 0 0, .slice none 0 0, .slice none 0 0, .slice none 0 0, .slice none 0 0, .slice none 0 0, .slice none 0 0, .slice none 0 0, .slice none 0 0, .slice none 0 0, .slice none 0 0, .slice none 0 0, .slice none 0 0, .slice none 0 0, .slice none 0 0, .slice none 0 0, .slice none 0 0, .slice none 0 0, .slice none 0 0, .slice none 0 0, .slice none 0 0] 90, .own 33 1 hdrR (.slice p4 h4.length c4) h4, flatF 9 1 (h4.map row0), .own 22 1 hdrR (.slice p5 h5.length c5) h5, flatF 5 1 (h5.map row0)] (fun v Φr Hr => ∃ (r4 : List Twin) (r5 : List Twin), FlE h4 mc_markText r4 ∧ FlE h5 mc_markByte r5 ∧ v = .bool true ∧ Φr = [] ∧ Hr = [flatF 9 1 r4, flatF 5 1 r5]) := by
 refine spec_of Tryz.func33 rfl Tryz.ntmps33 rfl (S := [_]) rfl (fun C => (wc_seq (wc_region (wP rfl (wl_nil (we_then (wc_seq (wc_region (wP rfl (wP rfl (wF rfl tF_90_0 (wD 0 0 rfl tS_62 tA_62 rfl (wC [] [0,1,2,3,4] rfl fn_43 rfl (nil_flat Tryz.func43 rfl Tryz.ntmps43 Tryz.results43 rfl (by kernel_rfl)) (asK [] rfl) rfl (H' := [_,_,_,_,_]) rfl ?_)))))))))))))
 rintro _ _ _ ⟨rfl, rfl, rfl⟩
 refine wP rfl (wP rfl (wP rfl (wF rfl tF_90_1 (wD 0 1 rfl tS_63 tA_63 rfl (wC [] [0,1,2,3,4] rfl fn_44 rfl (nil_flat Tryz.func44 rfl Tryz.ntmps44 Tryz.results44 rfl (by kernel_rfl)) (asK [] rfl) rfl (H' := [_,_,_,_,_]) rfl ?_)))))
 rintro _ _ _ ⟨rfl, rfl, rfl⟩
 refine wP rfl (wP rfl (wP rfl (wP rfl (wF rfl tF_90_2 (wD 0 2 rfl tS_64 tA_64 rfl (wC [] [0,1,2,3,4] rfl fn_45 rfl (nil_flat Tryz.func45 rfl Tryz.ntmps45 Tryz.results45 rfl (by kernel_rfl)) (asK [] rfl) rfl (H' := [_,_,_,_,_]) rfl ?_))))))
 rintro _ _ _ ⟨rfl, rfl, rfl⟩
 refine wP rfl (wP rfl (wP rfl (wP rfl (wF rfl tF_90_3 (wD 0 3 rfl tS_65 tA_65 rfl (wC [] [0,1,2,3,4] rfl fn_46 rfl (nil_flat Tryz.func46 rfl Tryz.ntmps46 Tryz.results46 rfl (by kernel_rfl)) (asK [] rfl) rfl (H' := [_,_,_,_,_]) rfl ?_))))))
 rintro _ _ _ ⟨rfl, rfl, rfl⟩
 refine wP rfl (wP rfl (wP rfl (wP rfl (wF rfl tF_90_4 (wD 0 4 rfl tS_35 tA_35 rfl (wC [1,2] [0,3,4] rfl fn_47 rfl (fl_flatTexts p4 c4 h4 hL4 hB4) (asK [] rfl) rfl (H' := [_,_,_]) rfl ?_))))))
 rintro _ _ _ ⟨r4, hE4, rfl, rfl, rfl⟩
 refine wP rfl (wP rfl (wP rfl (wP rfl (wF rfl tF_90_5 (wD 1 5 rfl tS_37 tA_37 rfl (wC [2,3] [0,1] rfl fn_48 rfl (fl_flatBytes p5 c5 h5 hL5 hB5) (asK [] rfl) rfl (H' := [_,_]) rfl ?_))))))
 rintro _ _ _ ⟨r5, hE5, rfl, rfl, rfl⟩
 refine wP rfl (wP rfl (wP rfl (wP rfl (wF rfl tF_90_6 (wD 2 6 rfl tS_66 tA_66 rfl (wC [] [0,1,2] rfl fn_49 rfl (nil_flat Tryz.func49 rfl Tryz.ntmps49 Tryz.results49 rfl (by kernel_rfl)) (asK [] rfl) rfl (H' := [_,_,_]) rfl ?_))))))
 rintro _ _ _ ⟨rfl, rfl, rfl⟩
 refine wP rfl (wP rfl (wP rfl (wP rfl (wF rfl tF_90_7 (wD 2 7 rfl tS_67 tA_67 rfl (wC [] [0,1,2] rfl fn_50 rfl (nil_flat Tryz.func50 rfl Tryz.ntmps50 Tryz.results50 rfl (by kernel_rfl)) (asK [] rfl) rfl (H' := [_,_,_]) rfl ?_))))))
 rintro _ _ _ ⟨rfl, rfl, rfl⟩
 refine wP rfl (wP rfl (wP rfl (wP rfl (wF rfl tF_90_8 (wD 2 8 rfl tS_68 tA_68 rfl (wC [] [0,1,2] rfl fn_51 rfl (nil_flat Tryz.func51 rfl Tryz.ntmps51 Tryz.results51 rfl (by kernel_rfl)) (asK [] rfl) rfl (H' := [_,_,_]) rfl ?_))))))
 rintro _ _ _ ⟨rfl, rfl, rfl⟩
 refine wP rfl (wP rfl (wP rfl (wP rfl (wF rfl tF_90_9 (wD 2 9 rfl tS_69 tA_69 rfl (wC [] [0,1,2] rfl fn_52 rfl (nil_flat Tryz.func52 rfl Tryz.ntmps52 Tryz.results52 rfl (by kernel_rfl)) (asK [] rfl) rfl (H' := [_,_,_]) rfl ?_))))))
 rintro _ _ _ ⟨rfl, rfl, rfl⟩
 refine wP rfl (wP rfl (wP rfl (wP rfl (wF rfl tF_90_10 (wD 2 10 rfl tS_70 tA_70 rfl (wC [] [0,1,2] rfl fn_53 rfl (nil_flat Tryz.func53 rfl Tryz.ntmps53 Tryz.results53 rfl (by kernel_rfl)) (asK [] rfl) rfl (H' := [_,_,_]) rfl ?_))))))
 rintro _ _ _ ⟨rfl, rfl, rfl⟩
 refine wP rfl (wP rfl (wP rfl (wP rfl (wF rfl tF_90_11 (wD 2 11 rfl tS_71 tA_71 rfl (wC [] [0,1,2] rfl fn_54 rfl (nil_flat Tryz.func54 rfl Tryz.ntmps54 Tryz.results54 rfl (by kernel_rfl)) (asK [] rfl) rfl (H' := [_,_,_]) rfl ?_))))))
 rintro _ _ _ ⟨rfl, rfl, rfl⟩
 refine wP rfl (wP rfl (wP rfl (wP rfl (wF rfl tF_90_12 (wD 2 12 rfl tS_72 tA_72 rfl (wC [] [0,1,2] rfl fn_55 rfl (nil_flat Tryz.func55 rfl Tryz.ntmps55 Tryz.results55 rfl (by kernel_rfl)) (asK [] rfl) rfl (H' := [_,_,_]) rfl ?_))))))
 rintro _ _ _ ⟨rfl, rfl, rfl⟩
 refine wP rfl (wP rfl (wP rfl (wP rfl (wF rfl tF_90_13 (wD 2 13 rfl tS_73 tA_73 rfl (wC [] [0,1,2] rfl fn_56 rfl (nil_flat Tryz.func56 rfl Tryz.ntmps56 Tryz.results56 rfl (by kernel_rfl)) (asK [] rfl) rfl (H' := [_,_,_]) rfl ?_))))))
 rintro _ _ _ ⟨rfl, rfl, rfl⟩
 refine wP rfl (wP rfl (wP rfl (wP rfl (wF rfl tF_90_14 (wD 2 14 rfl tS_74 tA_74 rfl (wC [] [0,1,2] rfl fn_57 rfl (nil_flat Tryz.func57 rfl Tryz.ntmps57 Tryz.results57 rfl (by kernel_rfl)) (asK [] rfl) rfl (H' := [_,_,_]) rfl ?_))))))
 rintro _ _ _ ⟨rfl, rfl, rfl⟩
 refine wP rfl (wP rfl (wP rfl (wP rfl (wF rfl tF_90_15 (wD 2 15 rfl tS_75 tA_75 rfl (wC [] [0,1,2] rfl fn_58 rfl (nil_flat Tryz.func58 rfl Tryz.ntmps58 Tryz.results58 rfl (by kernel_rfl)) (asK [] rfl) rfl (H' := [_,_,_]) rfl ?_))))))
 rintro _ _ _ ⟨rfl, rfl, rfl⟩
 refine wP rfl (wP rfl (wP rfl (wP rfl (wF rfl tF_90_16 (wD 2 16 rfl tS_76 tA_76 rfl (wC [] [0,1,2] rfl fn_59 rfl (nil_flat Tryz.func59 rfl Tryz.ntmps59 Tryz.results59 rfl (by kernel_rfl)) (asK [] rfl) rfl (H' := [_,_,_]) rfl ?_))))))
 rintro _ _ _ ⟨rfl, rfl, rfl⟩
 refine wP rfl (wP rfl (wP rfl (wP rfl (wF rfl tF_90_17 (wD 2 17 rfl tS_77 tA_77 rfl (wC [] [0,1,2] rfl fn_60 rfl (nil_flat Tryz.func60 rfl Tryz.ntmps60 Tryz.results60 rfl (by kernel_rfl)) (asK [] rfl) rfl (H' := [_,_,_]) rfl ?_))))))
 rintro _ _ _ ⟨rfl, rfl, rfl⟩
 refine wP rfl (wP rfl (wP rfl (wP rfl (wF rfl tF_90_18 (wD 2 18 rfl tS_78 tA_78 rfl (wC [] [0,1,2] rfl fn_61 rfl (nil_flat Tryz.func61 rfl Tryz.ntmps61 Tryz.results61 rfl (by kernel_rfl)) (asK [] rfl) rfl (H' := [_,_,_]) rfl ?_))))))
 rintro _ _ _ ⟨rfl, rfl, rfl⟩
 refine wP rfl (wP rfl (wP rfl (wP rfl (wF rfl tF_90_19 (wD 2 19 rfl tS_79 tA_79 rfl (wC [] [0,1,2] rfl fn_62 rfl (nil_flat Tryz.func62 rfl Tryz.ntmps62 Tryz.results62 rfl (by kernel_rfl)) (asK [] rfl) rfl (H' := [_,_,_]) rfl ?_))))))
 rintro _ _ _ ⟨rfl, rfl, rfl⟩
 refine wP rfl (wP rfl (wP rfl (wP rfl (wF rfl tF_90_20 (wD 2 20 rfl tS_80 tA_80 rfl (wC [] [0,1,2] rfl fn_63 rfl (nil_flat Tryz.func63 rfl Tryz.ntmps63 Tryz.results63 rfl (by kernel_rfl)) (asK [] rfl) rfl (H' := [_,_,_]) rfl ?_))))))
 rintro _ _ _ ⟨rfl, rfl, rfl⟩
 refine wP rfl (wP rfl (wP rfl (wP rfl (wF rfl tF_90_21 (wD 2 21 rfl tS_81 tA_81 rfl (wC [] [0,1,2] rfl fn_64 rfl (nil_flat Tryz.func64 rfl Tryz.ntmps64 Tryz.results64 rfl (by kernel_rfl)) (asK [] rfl) rfl (H' := [_,_,_]) rfl ?_))))))
 rintro _ _ _ ⟨rfl, rfl, rfl⟩
 refine wP rfl (wP rfl (wP rfl (wP rfl (wF rfl tF_90_22 (wD 2 22 rfl tS_82 tA_82 rfl (wC [] [0,1,2] rfl fn_65 rfl (nil_flat Tryz.func65 rfl Tryz.ntmps65 Tryz.results65 rfl (by kernel_rfl)) (asK [] rfl) rfl (H' := [_,_,_]) rfl ?_))))))
 rintro _ _ _ ⟨rfl, rfl, rfl⟩
 refine wP rfl (wP rfl (wP rfl (wP rfl (wF rfl tF_90_23 (wD 2 23 rfl tS_83 tA_83 rfl (wC [] [0,1,2] rfl fn_66 rfl (nil_flat Tryz.func66 rfl Tryz.ntmps66 Tryz.results66 rfl (by kernel_rfl)) (asK [] rfl) rfl (H' := [_,_,_]) rfl ?_))))))
 rintro _ _ _ ⟨rfl, rfl, rfl⟩
 refine wP rfl (wP rfl (wP rfl (wP rfl (wF rfl tF_90_24 (wD 2 24 rfl tS_84 tA_84 rfl (wC [] [0,1,2] rfl fn_67 rfl (nil_flat Tryz.func67 rfl Tryz.ntmps67 Tryz.results67 rfl (by kernel_rfl)) (asK [] rfl) rfl (H' := [_,_,_]) rfl ?_))))))
 rintro _ _ _ ⟨rfl, rfl, rfl⟩
 refine wP rfl (wP rfl (wP rfl (wP rfl (wF rfl tF_90_25 (wD 2 25 rfl tS_85 tA_85 rfl (wC [] [0,1,2] rfl fn_68 rfl (nil_flat Tryz.func68 rfl Tryz.ntmps68 Tryz.results68 rfl (by kernel_rfl)) (asK [] rfl) rfl (H' := [_,_,_]) rfl ?_))))))
 rintro _ _ _ ⟨rfl, rfl, rfl⟩
 refine wP rfl (wP rfl (wP rfl (wP rfl (wF rfl tF_90_26 (wD 2 26 rfl tS_86 tA_86 rfl (wC [] [0,1,2] rfl fn_69 rfl (nil_flat Tryz.func69 rfl Tryz.ntmps69 Tryz.results69 rfl (by kernel_rfl)) (asK [] rfl) rfl (H' := [_,_,_]) rfl ?_))))))
 rintro _ _ _ ⟨rfl, rfl, rfl⟩
 refine wP rfl (wP rfl (wP rfl (wP rfl (wF rfl tF_90_27 (wD 2 27 rfl tS_87 tA_87 rfl (wC [] [0,1,2] rfl fn_70 rfl (nil_flat Tryz.func70 rfl Tryz.ntmps70 Tryz.results70 rfl (by kernel_rfl)) (asK [] rfl) rfl (H' := [_,_,_]) rfl ?_))))))
 rintro _ _ _ ⟨rfl, rfl, rfl⟩
 refine wP rfl (wP rfl (wP rfl (wP rfl (wF rfl tF_90_28 (wD 2 28 rfl tS_88 tA_88 rfl (wC [] [0,1,2] rfl fn_71 rfl (nil_flat Tryz.func71 rfl Tryz.ntmps71 Tryz.results71 rfl (by kernel_rfl)) (asK [] rfl) rfl (H' := [_,_,_]) rfl ?_))))))
 rintro _ _ _ ⟨rfl, rfl, rfl⟩
 refine wP rfl (wl_pure (S' := [_,_,_,_,_,_,_,_,_,_,_,_,_,_,_,_,_,_,_,_,_,_,_,_,_,_,_,_,_,_,_,_,_,_,_,_,_,_,_,_,_,_,_,_,_,_,_,_,_,_,_,_,_,_,_,_,_,_,_,_,_,_,_,_,_,_,_,_,_,_,_,_,_,_,_,_,_,_,_,_,_,_,_,_,_,_,_,_,_,_,_,_,_,_,_,_,_,_,_,_,_,_,_,_,_,_,_,_,_,_,_,_,_,_,_,_,_,_,_,_,_,_,_,_,_,_,_,_,_,_,_,_,_,_,_,_,_,_,_,_,_,_,_,_,_,_,_,_,_,_,_,_,_,_,_,_,_,_,_,_,_,_,_,_,_,_,_,_,_,_,_,_,_,_,_,_,_,_,_,_,_,_,_,_,_,_,_,_,_,_,_,_,_,_,_,_,_,_,_,_,_,_]) rfl rfl rfl rfl rfl (wl_nil (we_then (wc_keep [2,0] (S' := [_,_]) rfl (wc_ret (ret_one (Hr := [flatF 9 1 r4, flatF 5 1 r5]) [1,0] Tryz.results33 (res_tmp rfl) ?_ (asK [] rfl) rfl rfl (.inl rfl)))))))
 exact ⟨_,_, hE4, hE5, rfl, rfl, rfl⟩
theorem ap_ApartBytes (p : Option Addr) (n c : Nat) (zs : List ((List Int) × (Option Addr × Nat))) (hzn : n = zs.length) (hz8 : zs.length ≤ 8) (hx : ∀ z ∈ zs, z.1.length ≤ 10000) : Spec Tryz.prog 13 [.slice p n c] [] [.own 22 1 T_l_u8.pair (.slice p n c) zs, bagF T_l_u8 (zs.drop 0) none] (fun v Φr Hr => ∃ (r4 : List Twin) (r5 : List Twin), FlE (zs.map hzd) mc_markByte r5 ∧ v = .bool true ∧ Φr = [] ∧ Hr = [flatF 9 1 r4, flatF 5 1 r5]) := by
 subst hzn
 refine spec_of Tryz.func13 rfl Tryz.ntmps13 rfl (S := [_]) rfl (fun C => (wc_seq (wc_region (wP rfl (wl_nil (we_then (wc_seq (wc_region (wl_build rfl rfl rfl (freshS_eq rfl) rfl tZ_90 tP_90 rfl (out := [_,_,_,_,_,_,_,_,_,_,_,_,_,_,_,_,_,_,_,_,_,_,_,_,_,_,_,_,_]) rfl (wB rfl (fun g6 => (wP rfl (wl_nil (we_then (wc_keep [3,2,0] (S' := [_,_,_]) rfl ?_)))))))))))))))
 refine wc_seq (wc_seq (wc_region (wP rfl (wl_nil (we_then (wc_block (wc_sh [flatF 5 1 [], .blk g6 [.slice none 0 0, .slice none 0 0, .slice none 0 0, .slice none 0 0, .slice none 0 0, .slice none 0 0, .slice none 0 0, .slice none 0 0, .slice none 0 0, .slice none 0 0, .slice none 0 0, .slice none 0 0, .slice none 0 0, .slice none 0 0, .slice none 0 0, .slice none 0 0, .slice none 0 0, .slice none 0 0, .slice none 0 0, .slice none 0 0, .slice none 0 0, .slice none 0 0, .slice none 0 0, .slice none 0 0, .slice none 0 0, .slice none 0 0, .slice none 0 0, .slice none 0 0, .slice none 0 0] 90, .own 22 1 T_l_u8.pair (.slice p zs.length c) zs, bagF T_l_u8 (zs.drop 0) none] (fun _ h => h.flNil 5 1) (wc_rowNil 22 1 hdrR (wc_sh [flatF 9 1 [], .own 22 1 hdrR (.slice none 0 0) [], flatF 5 1 [], .blk g6 [.slice none 0 0, .slice none 0 0, .slice none 0 0, .slice none 0 0, .slice none 0 0, .slice none 0 0, .slice none 0 0, .slice none 0 0, .slice none 0 0, .slice none 0 0, .slice none 0 0, .slice none 0 0, .slice none 0 0, .slice none 0 0, .slice none 0 0, .slice none 0 0, .slice none 0 0, .slice none 0 0, .slice none 0 0, .slice none 0 0, .slice none 0 0, .slice none 0 0, .slice none 0 0, .slice none 0 0, .slice none 0 0, .slice none 0 0, .slice none 0 0, .slice none 0 0, .slice none 0 0] 90, .own 22 1 T_l_u8.pair (.slice p zs.length c) zs, bagF T_l_u8 (zs.drop 0) none] (fun _ h => h.flNil 9 1) (wc_rowNil 33 1 hdrR (wc_loop (σ := Option Addr × Nat × List Hdr × Option Addr × Nat × List Hdr × Nat) (fun s => s.2.2.2.2.2.2 ≤ zs.length ∧ s.2.2.1.length ≤ s.2.2.2.2.2.2 * 0 ∧ Bd s.2.2.1 ∧ s.2.2.2.2.2.1.length ≤ s.2.2.2.2.2.2 * 1 ∧ Bd s.2.2.2.2.2.1 ∧ s.2.2.2.2.2.1 = (zs.take s.2.2.2.2.2.2).map hzd) (fun s => zs.length - s.2.2.2.2.2.2) (fun s => [(4, .int .i64 ((s.2.2.2.2.2.2 : Nat) : Int)), (3, .pointer (some ⟨g6,0, none⟩)), (2, .bool false), (0, .slice p zs.length c)]) (fun s => []) (fun s => [.own 33 1 hdrR (.slice s.1 s.2.2.1.length s.2.1) s.2.2.1, flatF 9 1 (s.2.2.1.map row0), .own 22 1 hdrR (.slice s.2.2.2.1 s.2.2.2.2.2.1.length s.2.2.2.2.1) s.2.2.2.2.2.1, flatF 5 1 (s.2.2.2.2.2.1.map row0), .blk g6 [.slice none 0 0, .slice none 0 0, .slice none 0 0, .slice none 0 0, .slice s.1 s.2.2.1.length s.2.1, .slice s.2.2.2.1 s.2.2.2.2.2.1.length s.2.2.2.2.1, .slice none 0 0, .slice none 0 0, .slice none 0 0, .slice none 0 0, .slice none 0 0, .slice none 0 0, .slice none 0 0, .slice none 0 0, .slice none 0 0, .slice none 0 0, .slice none 0 0, .slice none 0 0, .slice none 0 0, .slice none 0 0, .slice none 0 0, .slice none 0 0, .slice none 0 0, .slice none 0 0, .slice none 0 0, .slice none 0 0, .slice none 0 0, .slice none 0 0, .slice none 0 0] 90, .own 22 1 T_l_u8.pair (.slice p zs.length c) zs, bagF T_l_u8 (zs.drop s.2.2.2.2.2.2) none]) (none, 0,[], none, 0,[],0) ⟨Nat.zero_le _, Nat.zero_le _, Bd.nil, Nat.zero_le _, Bd.nil, rfl⟩ [4,3,2,0] rfl (asK [] rfl) rfl (fun s1 oks1 => (wc_seq (wc_seq ?_))))))))))))))
 refine wc_region (wP rfl (wP rfl (wN rfl tE_37 (wP rfl (wl_nil (we_then (wc_keep [10,4,3,2,0] (S' := [_,_,_,_,_]) rfl ?_)))))))
 refine wc_cond rfl (fun h10 => ?_) (fun h10 => ?_)
 ·
  replace h10 := of_decide_eq_true h10
  obtain ⟨hi2, hl4, hb4, hl5, hb5, hxe⟩ := oks1
  have hi1 : s1.2.2.2.2.2.2 < zs.length := by omega
  obtain ⟨z1, hz1⟩ : ∃ z, zs[s1.2.2.2.2.2.2]? = some z := ⟨_, List.getElem?_eq_getElem hi1⟩
  have hxs := hx z1 (List.mem_of_getElem? hz1)
  refine wc_skip (we_then (wc_seq (wc_block (wc_region (wP rfl (wP rfl (wP rfl (wl_indexH 5 s1.2.2.2.2.2.2 rfl rfl rfl (freshS_eq rfl) rfl rfl rfl rfl rfl hi1 tE_37 tS_22 (fun g16 eg16 => ?_)))))))))
  subst eg16
  refine wl_loadRow pair_opens 5 s1.2.2.2.2.2.2 0 rfl rfl rfl (freshS_eq rfl) rfl rfl rfl hz1 tS_22 tA_22 (v := fun _ => .slice z1.2.1 z1.1.length z1.2.2) (fun _ => rfl) (fun _ => rfl) (fun _ _ => (wl_sh [.own 5 1 R_u8 (.slice z1.2.1 z1.1.length z1.2.2) z1.1, .own 33 1 hdrR (.slice s1.1 s1.2.2.1.length s1.2.1) s1.2.2.1, flatF 9 1 (s1.2.2.1.map row0), .own 22 1 hdrR (.slice s1.2.2.2.1 s1.2.2.2.2.2.1.length s1.2.2.2.2.1) s1.2.2.2.2.2.1, flatF 5 1 (s1.2.2.2.2.2.1.map row0), .blk g6 [.slice none 0 0, .slice none 0 0, .slice none 0 0, .slice none 0 0, .slice s1.1 s1.2.2.1.length s1.2.1, .slice s1.2.2.2.1 s1.2.2.2.2.2.1.length s1.2.2.2.2.1, .slice none 0 0, .slice none 0 0, .slice none 0 0, .slice none 0 0, .slice none 0 0, .slice none 0 0, .slice none 0 0, .slice none 0 0, .slice none 0 0, .slice none 0 0, .slice none 0 0, .slice none 0 0, .slice none 0 0, .slice none 0 0, .slice none 0 0, .slice none 0 0, .slice none 0 0, .slice none 0 0, .slice none 0 0, .slice none 0 0, .slice none 0 0, .slice none 0 0, .slice none 0 0] 90, .own 22 1 T_l_u8.pair (.slice (some ⟨g16,0, none⟩) zs.length c) zs, bagF T_l_u8 (zs.drop (s1.2.2.2.2.2.2 + 1)) none] (fun _ h => h.bagUncons 6 rfl hz1) (wl_sh [flatF 5 1 ([row0 (z1.2.1, z1.1.length, z1.2.2)]), .own 33 1 hdrR (.slice s1.1 s1.2.2.1.length s1.2.1) s1.2.2.1, flatF 9 1 (s1.2.2.1.map row0), .own 22 1 hdrR (.slice s1.2.2.2.1 s1.2.2.2.2.2.1.length s1.2.2.2.2.1) s1.2.2.2.2.2.1, flatF 5 1 (s1.2.2.2.2.2.1.map row0), .blk g6 [.slice none 0 0, .slice none 0 0, .slice none 0 0, .slice none 0 0, .slice s1.1 s1.2.2.1.length s1.2.1, .slice s1.2.2.2.1 s1.2.2.2.2.2.1.length s1.2.2.2.2.1, .slice none 0 0, .slice none 0 0, .slice none 0 0, .slice none 0 0, .slice none 0 0, .slice none 0 0, .slice none 0 0, .slice none 0 0, .slice none 0 0, .slice none 0 0, .slice none 0 0, .slice none 0 0, .slice none 0 0, .slice none 0 0, .slice none 0 0, .slice none 0 0, .slice none 0 0, .slice none 0 0, .slice none 0 0, .slice none 0 0, .slice none 0 0, .slice none 0 0, .slice none 0 0] 90, .own 22 1 T_l_u8.pair (.slice (some ⟨g16,0, none⟩) zs.length c) zs, bagF T_l_u8 (zs.drop (s1.2.2.2.2.2.2 + 1)) none] (fun _ h => h.flOne 0 rfl) (wC [5,3,4,0] [1,2,6,7] rfl fn_32 rfl (ap_putBytes _ s1.1 s1.2.1 s1.2.2.1 s1.2.2.2.1 s1.2.2.2.2.1 s1.2.2.2.2.2.1 z1.2.1 z1.1.length z1.2.2 (by omega) hb5 hxs) (asK [] rfl) rfl (H' := [_,_,_,_]) rfl ?_))))
  rintro _ _ _ ⟨q5_1, d5_1, k5_1, hl5_1, hb5_1, hx_1, rfl, rfl, rfl⟩
  refine wl_nil (we_block_normal (we_then (wc_region (wP rfl (wP rfl (wl_as (d := 12) (v' := .int .i64 ((s1.2.2.2.2.2.2 + 1 : Nat) : Int)) (S' := [_,_,_,_,_,_,_,_,_,_,_,_]) rfl rfl (nat_add (a := s1.2.2.2.2.2.2) (b := 1) (by omega)) (wl_pure (S' := [_,_,_,_,_,_,_,_,_,_,_,_]) rfl rfl rfl rfl rfl (wl_nil (we_pick [3,4,1,2,0,5,6] rfl (H' := [_,_,_,_,_,_,_]) rfl ?_)))))))))
  refine we_round (s1.1, s1.2.1, s1.2.2.1, q5_1, d5_1, k5_1, s1.2.2.2.2.2.2 + 1) (by show zs.length - (s1.2.2.2.2.2.2 + 1) < zs.length - s1.2.2.2.2.2.2; omega) ⟨by show s1.2.2.2.2.2.2 + 1 ≤ _; omega, by have := hl4; show List.length (s1.2.2.1) ≤ (s1.2.2.2.2.2.2 + 1) * _; omega, hb4, by have := hl5_1; show List.length (k5_1) ≤ (s1.2.2.2.2.2.2 + 1) * _; omega, hb5_1, (by show _ = (zs.take (s1.2.2.2.2.2.2 + 1)).map hzd; rw [hx_1, hxe]; exact take_hzd hz1)⟩ [4,3,2,0] rfl (asK [] rfl) rfl
 ·
  replace h10 := of_decide_eq_false h10
  obtain ⟨hi2, hl4, hb4, hl5, hb5, hxe⟩ := oks1
  refine wc_exit (we_then_exit (we_then_exit (we_block_hit (we_then (wc_seq (wc_region (wP rfl (wC [4,0,1,2,3] [5,6] rfl fn_33 rfl (ap_apart _ s1.1 s1.2.1 s1.2.2.1 s1.2.2.2.1 s1.2.2.2.2.1 s1.2.2.2.2.2.1 (by omega) hb4 (by omega) hb5) (asK [] rfl) rfl (H' := [_,_]) rfl ?_))))))))
  rintro _ _ _ ⟨r4, r5, hE4, hE5, rfl, rfl, rfl⟩
  refine wl_pure (S' := [_,_,_,_,_,_]) rfl rfl rfl rfl rfl (wl_nil (we_then (wc_keep [2,10,4,3,0] (S' := [_,_,_,_,_]) rfl (wc_ret (ret_one (Hr := [flatF 9 1 r4, flatF 5 1 r5]) [0,1] Tryz.results13 (res_tmp rfl) ?_ (asK [] rfl) rfl rfl (.inl rfl))))))
  rw [hxe, List.take_of_length_le (by omega)] at hE5
  exact ⟨_,_, hE5, rfl, rfl, rfl⟩
theorem ap_putTexts (g : Nat) (p4 : Option Addr) (c4 : Nat) (h4 : List Hdr) (p5 : Option Addr) (c5 : Nat) (h5 : List Hdr) (p : Option Addr) (n c : Nat) (hL4 : h4.length + 1 ≤ 1073741824) (hB4 : Bd h4) (hn : n ≤ 10000) : Spec Tryz.prog 34 [.pointer (some ⟨g, 0, none⟩), .slice p n c] [] [.blk g [.slice none 0 0, .slice none 0 0, .slice none 0 0, .slice none 0 0, .slice p4 h4.length c4, .slice p5 h5.length c5, .slice none 0 0, .slice none 0 0, .slice none 0 0, .slice none 0 0, .slice none 0 0, .slice none 0 0, .slice none 0 0, .slice none 0 0, .slice none 0 0, .slice none 0 0, .slice none 0 0, .slice none 0 0, .slice none 0 0, .slice none 0 0, .slice none 0 0, .slice none 0 0, .slice none 0 0, .slice none 0 0, .slice none 0 0, .slice none 0 0, .slice none 0 0, .slice none 0 0, .slice none 0 0] 90, .own 33 1 hdrR (.slice p4 h4.length c4) h4, flatF 9 1 (h4.map row0), flatF 9 1 ([row0 (p, n, c)])] (fun v Φr Hr => ∃ (q4 : Option Addr) (d4 : Nat) (k4 : List Hdr), k4.length ≤ h4.length + 1 ∧ Bd k4 ∧ k4 = h4 ++ ([(p, n, c)] : List Hdr) ∧ v = .tuple #[] ∧ Φr = [] ∧ Hr = [.blk g [.slice none 0 0, .slice none 0 0, .slice none 0 0, .slice none 0 0, .slice q4 k4.length d4, .slice p5 h5.length c5, .slice none 0 0, .slice none 0 0, .slice none 0 0, .slice none 0 0, .slice none 0 0, .slice none 0 0, .slice none 0 0, .slice none 0 0, .slice none 0 0, .slice none 0 0, .slice none 0 0, .slice none 0 0, .slice none 0 0, .slice none 0 0, .slice none 0 0, .slice none 0 0, .slice none 0 0, .slice none 0 0, .slice none 0 0, .slice none 0 0, .slice none 0 0, .slice none 0 0, .slice none 0 0] 90, .own 33 1 hdrR (.slice q4 k4.length d4) k4, flatF 9 1 (k4.map row0)]) := by
 refine spec_of Tryz.func34 rfl Tryz.ntmps34 rfl (S := [_,_]) rfl (fun C => (wc_region (wP rfl (wP rfl (wP rfl (wF rfl tF_90_4 (wD 0 4 rfl tS_35 tA_35 rfl (wP rfl (wl_buildSlice rfl rfl rfl (freshS_eq rfl) rfl tE_35 tS_33 tZ_33 rfl (zs := [.slice none 0 0]) (by kernel_rfl) rfl (out := [_]) rfl (fun g10 => (wl_appendH ([(p, n, c)] : List Hdr) 2 0 rfl rfl rfl (freshS_eq rfl) rfl rfl rfl rfl rfl (fun F w hφ => ⟨[_],[], rfl, rfl, rfl, rfl⟩) tE_35 tR_33 rfl rfl (by simp; omega) (by simp; omega) (H2 := fun p11 c11 => [.blk g10 [.slice p n c] 33, .blk g [.slice none 0 0, .slice none 0 0, .slice none 0 0, .slice none 0 0, .slice p4 h4.length c4, .slice p5 h5.length c5, .slice none 0 0, .slice none 0 0, .slice none 0 0, .slice none 0 0, .slice none 0 0, .slice none 0 0, .slice none 0 0, .slice none 0 0, .slice none 0 0, .slice none 0 0, .slice none 0 0, .slice none 0 0, .slice none 0 0, .slice none 0 0, .slice none 0 0, .slice none 0 0, .slice none 0 0, .slice none 0 0, .slice none 0 0, .slice none 0 0, .slice none 0 0, .slice none 0 0, .slice none 0 0] 90, .own 33 1 hdrR (.slice p11 ((h4 ++ ([(p, n, c)] : List Hdr)).length) c11) (h4 ++ ([(p, n, c)] : List Hdr)), flatF 9 1 (h4.map row0), flatF 9 1 ([row0 (p, n, c)])]) (fun _ _ => rfl) (fun p11 c11 => (wl_drop 0 rfl (H' := [_,_,_,_]) rfl (wP rfl (wF rfl tF_90_4 (wS 0 4 rfl tS_35 (all' := [_,_,_,_,_,_,_,_,_,_,_,_,_,_,_,_,_,_,_,_,_,_,_,_,_,_,_,_,_]) rfl (H' := [_,_,_,_]) rfl ?_))))))))))))))))
 refine wl_nil (we_sh [.blk g [.slice none 0 0, .slice none 0 0, .slice none 0 0, .slice none 0 0, .slice p11 ((h4 ++ ([(p, n, c)] : List Hdr)).length) c11, .slice p5 h5.length c5, .slice none 0 0, .slice none 0 0, .slice none 0 0, .slice none 0 0, .slice none 0 0, .slice none 0 0, .slice none 0 0, .slice none 0 0, .slice none 0 0, .slice none 0 0, .slice none 0 0, .slice none 0 0, .slice none 0 0, .slice none 0 0, .slice none 0 0, .slice none 0 0, .slice none 0 0, .slice none 0 0, .slice none 0 0, .slice none 0 0, .slice none 0 0, .slice none 0 0, .slice none 0 0] 90, .own 33 1 hdrR (.slice p11 ((h4 ++ ([(p, n, c)] : List Hdr)).length) c11) (h4 ++ ([(p, n, c)] : List Hdr)), flatF 9 1 ((h4 ++ [(p, n, c)]).map row0)] (fun _ h => h.flPush 2 3 rfl rfl rfl) (ret_none (Hr := [.blk g [.slice none 0 0, .slice none 0 0, .slice none 0 0, .slice none 0 0, .slice p11 ((h4 ++ ([(p, n, c)] : List Hdr)).length) c11, .slice p5 h5.length c5, .slice none 0 0, .slice none 0 0, .slice none 0 0, .slice none 0 0, .slice none 0 0, .slice none 0 0, .slice none 0 0, .slice none 0 0, .slice none 0 0, .slice none 0 0, .slice none 0 0, .slice none 0 0, .slice none 0 0, .slice none 0 0, .slice none 0 0, .slice none 0 0, .slice none 0 0, .slice none 0 0, .slice none 0 0, .slice none 0 0, .slice none 0 0, .slice none 0 0, .slice none 0 0] 90, .own 33 1 hdrR (.slice p11 ((h4 ++ ([(p, n, c)] : List Hdr)).length) c11) (h4 ++ ([(p, n, c)] : List Hdr)), flatF 9 1 ((h4 ++ [(p, n, c)]).map row0)]) [0,1,2] Tryz.results34 ?_ (asK [] rfl) rfl rfl (.inr rfl)))
 exact ⟨_,_,_, by simp, hB4.push hn, rfl, rfl, rfl, rfl⟩
theorem ap_ApartTexts (p : Option Addr) (n c : Nat) (zs : List ((List ByteArray) × (Option Addr × Nat))) (hzn : n = zs.length) (hz8 : zs.length ≤ 8) (hx : ∀ z ∈ zs, z.1.length ≤ 10000) : Spec Tryz.prog 14 [.slice p n c] [] [.own 33 1 T_l_str.pair (.slice p n c) zs, bagF T_l_str (zs.drop 0) none] (fun v Φr Hr => ∃ (r4 : List Twin) (r5 : List Twin), FlE (zs.map hzd) mc_markText r4 ∧ v = .bool true ∧ Φr = [] ∧ Hr = [flatF 9 1 r4, flatF 5 1 r5]) := by
 subst hzn
 refine spec_of Tryz.func14 rfl Tryz.ntmps14 rfl (S := [_]) rfl (fun C => (wc_seq (wc_region (wP rfl (wl_nil (we_then (wc_seq (wc_region (wl_build rfl rfl rfl (freshS_eq rfl) rfl tZ_90 tP_90 rfl (out := [_,_,_,_,_,_,_,_,_,_,_,_,_,_,_,_,_,_,_,_,_,_,_,_,_,_,_,_,_]) rfl (wB rfl (fun g6 => (wP rfl (wl_nil (we_then (wc_keep [3,2,0] (S' := [_,_,_]) rfl ?_)))))))))))))))
 refine wc_seq (wc_seq (wc_region (wP rfl (wl_nil (we_then (wc_block (wc_sh [flatF 5 1 [], .blk g6 [.slice none 0 0, .slice none 0 0, .slice none 0 0, .slice none 0 0, .slice none 0 0, .slice none 0 0, .slice none 0 0, .slice none 0 0, .slice none 0 0, .slice none 0 0, .slice none 0 0, .slice none 0 0, .slice none 0 0, .slice none 0 0, .slice none 0 0, .slice none 0 0, .slice none 0 0, .slice none 0 0, .slice none 0 0, .slice none 0 0, .slice none 0 0, .slice none 0 0, .slice none 0 0, .slice none 0 0, .slice none 0 0, .slice none 0 0, .slice none 0 0, .slice none 0 0, .slice none 0 0] 90, .own 33 1 T_l_str.pair (.slice p zs.length c) zs, bagF T_l_str (zs.drop 0) none] (fun _ h => h.flNil 5 1) (wc_rowNil 22 1 hdrR (wc_sh [flatF 9 1 [], .own 22 1 hdrR (.slice none 0 0) [], flatF 5 1 [], .blk g6 [.slice none 0 0, .slice none 0 0, .slice none 0 0, .slice none 0 0, .slice none 0 0, .slice none 0 0, .slice none 0 0, .slice none 0 0, .slice none 0 0, .slice none 0 0, .slice none 0 0, .slice none 0 0, .slice none 0 0, .slice none 0 0, .slice none 0 0, .slice none 0 0, .slice none 0 0, .slice none 0 0, .slice none 0 0, .slice none 0 0, .slice none 0 0, .slice none 0 0, .slice none 0 0, .slice none 0 0, .slice none 0 0, .slice none 0 0, .slice none 0 0, .slice none 0 0, .slice none 0 0] 90, .own 33 1 T_l_str.pair (.slice p zs.length c) zs, bagF T_l_str (zs.drop 0) none] (fun _ h => h.flNil 9 1) (wc_rowNil 33 1 hdrR (wc_loop (σ := Option Addr × Nat × List Hdr × Option Addr × Nat × List Hdr × Nat) (fun s => s.2.2.2.2.2.2 ≤ zs.length ∧ s.2.2.1.length ≤ s.2.2.2.2.2.2 * 1 ∧ Bd s.2.2.1 ∧ s.2.2.2.2.2.1.length ≤ s.2.2.2.2.2.2 * 0 ∧ Bd s.2.2.2.2.2.1 ∧ s.2.2.1 = (zs.take s.2.2.2.2.2.2).map hzd) (fun s => zs.length - s.2.2.2.2.2.2) (fun s => [(4, .int .i64 ((s.2.2.2.2.2.2 : Nat) : Int)), (3, .pointer (some ⟨g6,0, none⟩)), (2, .bool false), (0, .slice p zs.length c)]) (fun s => []) (fun s => [.own 33 1 hdrR (.slice s.1 s.2.2.1.length s.2.1) s.2.2.1, flatF 9 1 (s.2.2.1.map row0), .own 22 1 hdrR (.slice s.2.2.2.1 s.2.2.2.2.2.1.length s.2.2.2.2.1) s.2.2.2.2.2.1, flatF 5 1 (s.2.2.2.2.2.1.map row0), .blk g6 [.slice none 0 0, .slice none 0 0, .slice none 0 0, .slice none 0 0, .slice s.1 s.2.2.1.length s.2.1, .slice s.2.2.2.1 s.2.2.2.2.2.1.length s.2.2.2.2.1, .slice none 0 0, .slice none 0 0, .slice none 0 0, .slice none 0 0, .slice none 0 0, .slice none 0 0, .slice none 0 0, .slice none 0 0, .slice none 0 0, .slice none 0 0, .slice none 0 0, .slice none 0 0, .slice none 0 0, .slice none 0 0, .slice none 0 0, .slice none 0 0, .slice none 0 0, .slice none 0 0, .slice none 0 0, .slice none 0 0, .slice none 0 0, .slice none 0 0, .slice none 0 0] 90, .own 33 1 T_l_str.pair (.slice p zs.length c) zs, bagF T_l_str (zs.drop s.2.2.2.2.2.2) none]) (none, 0,[], none, 0,[],0) ⟨Nat.zero_le _, Nat.zero_le _, Bd.nil, Nat.zero_le _, Bd.nil, rfl⟩ [4,3,2,0] rfl (asK [] rfl) rfl (fun s1 oks1 => (wc_seq (wc_seq ?_))))))))))))))
 refine wc_region (wP rfl (wP rfl (wN rfl tE_35 (wP rfl (wl_nil (we_then (wc_keep [10,4,3,2,0] (S' := [_,_,_,_,_]) rfl ?_)))))))
 refine wc_cond rfl (fun h10 => ?_) (fun h10 => ?_)
 ·
  replace h10 := of_decide_eq_true h10
  obtain ⟨hi2, hl4, hb4, hl5, hb5, hxe⟩ := oks1
  have hi1 : s1.2.2.2.2.2.2 < zs.length := by omega
  obtain ⟨z1, hz1⟩ : ∃ z, zs[s1.2.2.2.2.2.2]? = some z := ⟨_, List.getElem?_eq_getElem hi1⟩
  have hxs := hx z1 (List.mem_of_getElem? hz1)
  refine wc_skip (we_then (wc_seq (wc_block (wc_region (wP rfl (wP rfl (wP rfl (wl_indexH 5 s1.2.2.2.2.2.2 rfl rfl rfl (freshS_eq rfl) rfl rfl rfl rfl rfl hi1 tE_35 tS_33 (fun g16 eg16 => ?_)))))))))
  subst eg16
  refine wl_loadRow pair_opens 5 s1.2.2.2.2.2.2 0 rfl rfl rfl (freshS_eq rfl) rfl rfl rfl hz1 tS_33 tA_33 (v := fun _ => .slice z1.2.1 z1.1.length z1.2.2) (fun _ => rfl) (fun _ => rfl) (fun _ _ => (wl_sh [.own 9 1 R_str (.slice z1.2.1 z1.1.length z1.2.2) z1.1, .own 33 1 hdrR (.slice s1.1 s1.2.2.1.length s1.2.1) s1.2.2.1, flatF 9 1 (s1.2.2.1.map row0), .own 22 1 hdrR (.slice s1.2.2.2.1 s1.2.2.2.2.2.1.length s1.2.2.2.2.1) s1.2.2.2.2.2.1, flatF 5 1 (s1.2.2.2.2.2.1.map row0), .blk g6 [.slice none 0 0, .slice none 0 0, .slice none 0 0, .slice none 0 0, .slice s1.1 s1.2.2.1.length s1.2.1, .slice s1.2.2.2.1 s1.2.2.2.2.2.1.length s1.2.2.2.2.1, .slice none 0 0, .slice none 0 0, .slice none 0 0, .slice none 0 0, .slice none 0 0, .slice none 0 0, .slice none 0 0, .slice none 0 0, .slice none 0 0, .slice none 0 0, .slice none 0 0, .slice none 0 0, .slice none 0 0, .slice none 0 0, .slice none 0 0, .slice none 0 0, .slice none 0 0, .slice none 0 0, .slice none 0 0, .slice none 0 0, .slice none 0 0, .slice none 0 0, .slice none 0 0] 90, .own 33 1 T_l_str.pair (.slice (some ⟨g16,0, none⟩) zs.length c) zs, bagF T_l_str (zs.drop (s1.2.2.2.2.2.2 + 1)) none] (fun _ h => h.bagUncons 6 rfl hz1) (wl_sh [flatF 9 1 ([row0 (z1.2.1, z1.1.length, z1.2.2)]), .own 33 1 hdrR (.slice s1.1 s1.2.2.1.length s1.2.1) s1.2.2.1, flatF 9 1 (s1.2.2.1.map row0), .own 22 1 hdrR (.slice s1.2.2.2.1 s1.2.2.2.2.2.1.length s1.2.2.2.2.1) s1.2.2.2.2.2.1, flatF 5 1 (s1.2.2.2.2.2.1.map row0), .blk g6 [.slice none 0 0, .slice none 0 0, .slice none 0 0, .slice none 0 0, .slice s1.1 s1.2.2.1.length s1.2.1, .slice s1.2.2.2.1 s1.2.2.2.2.2.1.length s1.2.2.2.2.1, .slice none 0 0, .slice none 0 0, .slice none 0 0, .slice none 0 0, .slice none 0 0, .slice none 0 0, .slice none 0 0, .slice none 0 0, .slice none 0 0, .slice none 0 0, .slice none 0 0, .slice none 0 0, .slice none 0 0, .slice none 0 0, .slice none 0 0, .slice none 0 0, .slice none 0 0, .slice none 0 0, .slice none 0 0, .slice none 0 0, .slice none 0 0, .slice none 0 0, .slice none 0 0] 90, .own 33 1 T_l_str.pair (.slice (some ⟨g16,0, none⟩) zs.length c) zs, bagF T_l_str (zs.drop (s1.2.2.2.2.2.2 + 1)) none] (fun _ h => h.flOne 0 rfl) (wC [5,1,2,0] [3,4,6,7] rfl fn_34 rfl (ap_putTexts _ s1.1 s1.2.1 s1.2.2.1 s1.2.2.2.1 s1.2.2.2.2.1 s1.2.2.2.2.2.1 z1.2.1 z1.1.length z1.2.2 (by omega) hb4 hxs) (asK [] rfl) rfl (H' := [_,_,_,_]) rfl ?_))))
  rintro _ _ _ ⟨q4_1, d4_1, k4_1, hl4_1, hb4_1, hx_1, rfl, rfl, rfl⟩
  refine wl_nil (we_block_normal (we_then (wc_region (wP rfl (wP rfl (wl_as (d := 12) (v' := .int .i64 ((s1.2.2.2.2.2.2 + 1 : Nat) : Int)) (S' := [_,_,_,_,_,_,_,_,_,_,_,_]) rfl rfl (nat_add (a := s1.2.2.2.2.2.2) (b := 1) (by omega)) (wl_pure (S' := [_,_,_,_,_,_,_,_,_,_,_,_]) rfl rfl rfl rfl rfl (wl_nil (we_pick [1,2,3,4,0,5,6] rfl (H' := [_,_,_,_,_,_,_]) rfl ?_)))))))))
  refine we_round (q4_1, d4_1, k4_1, s1.2.2.2.1, s1.2.2.2.2.1, s1.2.2.2.2.2.1, s1.2.2.2.2.2.2 + 1) (by show zs.length - (s1.2.2.2.2.2.2 + 1) < zs.length - s1.2.2.2.2.2.2; omega) ⟨by show s1.2.2.2.2.2.2 + 1 ≤ _; omega, by have := hl4_1; show List.length (k4_1) ≤ (s1.2.2.2.2.2.2 + 1) * _; omega, hb4_1, by have := hl5; show List.length (s1.2.2.2.2.2.1) ≤ (s1.2.2.2.2.2.2 + 1) * _; omega, hb5, (by show _ = (zs.take (s1.2.2.2.2.2.2 + 1)).map hzd; rw [hx_1, hxe]; exact take_hzd hz1)⟩ [4,3,2,0] rfl (asK [] rfl) rfl
 ·
  replace h10 := of_decide_eq_false h10
  obtain ⟨hi2, hl4, hb4, hl5, hb5, hxe⟩ := oks1
  refine wc_exit (we_then_exit (we_then_exit (we_block_hit (we_then (wc_seq (wc_region (wP rfl (wC [4,0,1,2,3] [5,6] rfl fn_33 rfl (ap_apart _ s1.1 s1.2.1 s1.2.2.1 s1.2.2.2.1 s1.2.2.2.2.1 s1.2.2.2.2.2.1 (by omega) hb4 (by omega) hb5) (asK [] rfl) rfl (H' := [_,_]) rfl ?_))))))))
  rintro _ _ _ ⟨r4, r5, hE4, hE5, rfl, rfl, rfl⟩
  refine wl_pure (S' := [_,_,_,_,_,_]) rfl rfl rfl rfl rfl (wl_nil (we_then (wc_keep [2,10,4,3,0] (S' := [_,_,_,_,_]) rfl (wc_ret (ret_one (Hr := [flatF 9 1 r4, flatF 5 1 r5]) [0,1] Tryz.results14 (res_tmp rfl) ?_ (asK [] rfl) rfl rfl (.inl rfl))))))
  rw [hxe, List.take_of_length_le (by omega)] at hE4
  exact ⟨_,_, hE4, rfl, rfl, rfl⟩
theorem w_ropewalkkit_TurnBytes_v2_s (N : Nat) (qp0 : Option Addr) (qn1 : Nat) (qc2 : Nat) (l0 : List Int) (o0 : List Int) (hm : m_ropewalkkit_TurnBytes_v2 N l0 = some o0) : Spec Tryz.prog 15 [.slice qp0 qn1 qc2] [] [.own 5 1 R_u8 (.slice qp0 qn1 qc2) l0] (fun v Φr Hr => v = .tuple #[] ∧ Φr = [] ∧ Hr = [.own 5 1 R_u8 (.slice qp0 qn1 qc2) o0]) := by
 unfold m_ropewalkkit_TurnBytes_v2 at hm
 refine spec_of Tryz.func15 rfl Tryz.ntmps15 rfl (S := [_]) rfl (fun C => (wc_seq (wc_region (wP rfl (wl_nil (we_then (wc_block (wc_loop (σ := Nat × Nat × (List Int)) (fun (nu1, u1_2, u1_0_l) => iter (m_ropewalkkit_TurnBytes_v2_L1 N) nu1 (u1_2, u1_0_l) = some o0) (fun (nu1, u1_2, u1_0_l) => nu1) (fun (nu1, u1_2, u1_0_l) => [(2, .int .i64 ((u1_2 : Nat) : Int)), (0, .slice qp0 qn1 qc2)]) (fun (nu1, u1_2, u1_0_l) => []) (fun (nu1, u1_2, u1_0_l) => [.own 5 1 R_u8 (.slice qp0 qn1 qc2) u1_0_l]) (N, 0, l0) hm [2,0] rfl (asK [] rfl) rfl (fun s_ hm => ?_)))))))))
 obtain ⟨nu1, u1_2, u1_0_l⟩ := s_
 try dsimp only at hm ⊢
 obtain ⟨mu1, bu1, hnu1, hq, hLu1⟩ := iter_some hm
 clear hm
 subst hnu1
 replace hm := hq
 clear hq
 unfold m_ropewalkkit_TurnBytes_v2_L1 at hm
 try dsimp only at hm
 refine wc_seq (wc_seq (wc_region (wP rfl (wP rfl (wl_ownLen 0 rfl (fun hl5 _ => (wN rfl tE_22 (wl_as (d := 5) (v' := .int .i64 ((u1_0_l.length : Nat) : Int)) (S' := [_,_,_,_]) rfl rfl (len_is hl5) (wP rfl (wl_as (d := 6) (v' := .bool (decide (u1_2 < u1_0_l.length))) (S' := [_,_,_,_,_]) rfl rfl (natlt (a := u1_2) (b := u1_0_l.length)) (wl_nil (we_then (wc_keep [6,2,0] (S' := [_,_,_]) rfl ?_)))))))))))))
 refine wc_cond rfl (fun hb6 => ?_) (fun hb6 => ?_)
 ·
  replace hm := iteT hm hb6
  refine wc_keep [2,0] (S' := [_,_]) rfl (wc_skip (we_then (wc_seq (wc_block (wc_region (wP rfl (wP rfl (wP rfl (wP rfl ?_)))))))))
  obtain ⟨x13, hx13, hm⟩ := bindO_some hm
  refine wl_indexH 0 u1_2 rfl rfl rfl (freshS_eq rfl) rfl rfl rfl rfl rfl (get_lt hx13) tE_22 tS_5 (fun g13 eg13 => ?_)
  subst eg13
  refine wl_loadRow R_u8_opens 0 u1_2 0 rfl rfl rfl (freshS_eq rfl) rfl rfl rfl hx13 tS_5 tA_5 (v := fun _ => .int .u8 x13) (fun _ => rfl) (fun _ => rfl) (fun _ _ => (wl_bin rfl rfl rfl (freshS_eq rfl) rfl rfl rfl run_xor ?_))
  obtain ⟨x16, hx16, hm⟩ := bindO_some hm
  refine wl_indexK 0 u1_2 rfl rfl rfl (freshS_eq rfl) rfl rfl rfl rfl rfl (get_lt hx16) tE_22 tS_5 (wl_storeRow (u := bitsI .xor .u8 x13 255) 0 u1_2 rfl rfl rfl rfl rfl (get_lt hx16) rfl rfl tS_5 rfl (fun F w hφ => ⟨(), rfl, ask_nil⟩) (H' := [_]) rfl (wl_nil (we_block_normal (we_then (wc_keep [2,0] (S' := [_,_]) rfl (wc_region (wP rfl (wP rfl ?_))))))))
  obtain ⟨hg8, hm⟩ := gd_some hm
  refine wl_as (d := 8) (v' := .int .i64 ((u1_2 + 1 : Nat) : Int)) (S' := [_,_,_]) rfl rfl (nat_add (a := u1_2) (b := 1) hg8) (wl_pure (S' := [_,_,_]) rfl rfl rfl rfl rfl (wl_nil ?_))
  have hE := (Option.some.inj hm).symm
  replace hE := link_inl hLu1 hE
  refine we_roundK (_, u1_2 + 1, u1_0_l.set u1_2 (bitsI .xor .u8 x13 255)) (Nat.lt_succ_self _) hE [2,0] rfl (asK [] rfl) rfl
 ·
  replace hm := iteF hm hb6
  refine wc_keep [] (S' := []) rfl (wc_exit (we_then_exit (we_then_exit (we_block_hit ?_))))
  have hE := (Option.some.inj hm).symm
  replace hE := link_inr hLu1 hE
  replace hE := hE.symm
  subst hE
  refine ret_none (Hr := [_]) [0] Tryz.results15 ⟨rfl, rfl, rfl⟩ (asK [] rfl) rfl rfl (.inr rfl)
theorem w_ropewalkkit_CopyBytes_s (N : Nat) (qp0 : Option Addr) (qc1 : Nat) (l0 : List Int)  (hm : m_ropewalkkit_CopyBytes N l0 = some ()) : Spec Tryz.prog 16 [.slice qp0 l0.length qc1] [.sli 1 R_u8 qp0 qc1 l0] [] (fun v Φr Hr => ∃ (o0 : Option Addr) (o1 : Nat), v = .slice o0 (l0).length o1 ∧ Φr = [] ∧ Hr = [.own 5 1 R_u8 (.slice o0 (l0).length o1) l0]) := by
 unfold m_ropewalkkit_CopyBytes at hm
 refine spec_of Tryz.func16 rfl Tryz.ntmps16 rfl (S := [_]) rfl (fun C => (wc_seq (wc_region (wP rfl (wl_nil (we_then (wc_keep [0] (S' := [_]) rfl (wc_seq (wc_region (wP rfl (wl_nil (we_then (wc_seq (wc_region ?_))))))))))))))
 refine wP rfl (wP rfl (wl_rowNil 5 1 R_u8 ?_))
 obtain ⟨hg6, hm⟩ := gd_some hm
 refine wl_append 0 0 rfl rfl rfl (freshS_eq rfl) rfl rfl rfl rfl rfl tE_22 tR_5 rfl rfl (Nat.le_trans hg6 (by decide)) (Nat.le_trans (Nat.mul_le_mul_right _ hg6) (by decide)) (H2 := fun p6 c6 => [.own 5 1 R_u8 (.slice p6 (l0).length c6) l0]) (fun _ _ => rfl) (fun p6 c6 => (wP rfl (wl_nil (we_then (wc_keep [2] (S' := [_]) rfl (wc_ret ?_))))))
 have hE := (Option.some.inj hm).symm
 refine ret_one (Hr := [_]) [0] Tryz.results16 (res_tmp rfl) ⟨p6, c6, rfl, rfl, rfl⟩ (asK [] rfl) rfl rfl (.inl rfl)
end Go.Proofs.YtkakbckmajdggaaGreat
