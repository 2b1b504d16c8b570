import Derived.Test.YtighbinghbnjhaaGreatXW2
namespace Go.Proofs.YtighbinghbnjhaaGreat
open Go.RowKit
set_option maxRecDepth 100000
set_option maxHeartbeats 4000000
theorem w_ropewalkkit_KeptSessions_W_s (N : Nat) (qp0 : Option Addr) (qc1 : Nat) (l0 : List SessDS) (k1 : Nat) (qp2 : Option Addr) (qc3 : Nat) (l2 : List SessD) (o0 : Bool) (hm : m_ropewalkkit_KeptSessions_W N l0 k1 l2 = some o0) : Spec Tryz.prog 12 [.slice qp0 k1 qc1, .slice qp2 l2.length qc3] [.sli 6 RS_SessD qp0 qc1 l0, .sli 6 R_SessD qp2 qc3 l2] [] (fun v Φr Hr => v = .bool o0 ∧ Φr = [] ∧ Hr = []) := by
 unfold m_ropewalkkit_KeptSessions_W at hm
 refine spec_of Tryz.func12 rfl Tryz.ntmps12 rfl (S := [_,_]) rfl (fun C => (wc_seq (wc_region (wP rfl (wl_nil (we_then (wc_keep [0,1] (S' := [_,_]) rfl (wc_seq (wc_seq (wc_region (wP rfl (wN rfl tE_22 (wP rfl (wN rfl tE_22 ?_))))))))))))))
 refine wP rfl (wl_as (d := 11) (v' := .bool (k1 != l2.length)) (S' := [_,_,_,_,_,_]) rfl rfl (natne (a := k1) (b := l2.length)) (wl_nil (we_then (wc_keep [11,0,1] (S' := [_,_,_]) rfl ?_))))
 refine wc_cond rfl (fun hb11 => ?_) (fun hb11 => ?_)
 ·
  replace hm := iteT hm hb11
  refine wc_keep [] (S' := []) rfl (wc_seq (wc_region (wP rfl (wl_nil (we_then (wc_ret (we_then_ret ?_)))))))
  have hE := (Option.some.inj hm).symm
  replace hE := hE.symm
  subst hE
  refine ret_one (Hr := []) [] Tryz.results12 (res_tmp rfl) ⟨rfl, rfl, rfl⟩ (asK [] rfl) rfl rfl (.inl rfl)
 ·
  replace hm := iteF hm hb11
  refine wc_keep [0,1] (S' := [_,_]) rfl (wc_skip (we_then (wc_seq (wc_region (wP rfl (wP rfl (wN rfl tE_22 (wP rfl ?_))))))))
  obtain ⟨hg15, hm⟩ := gd_some hm
  refine wl_as (d := 15) (v' := .int .i64 ((l2.length + 12 : Nat) : Int)) (S' := [_,_,_,_,_]) rfl rfl (nat_add (a := l2.length) (b := 12) hg15) ?_
  obtain ⟨hg16, hm⟩ := gd_some hm
  refine wl_sliToF 0 rfl rfl rfl (freshS_eq rfl) rfl rfl rfl rfl rfl tE_22 tS_31 hg16 (fun p16 => (wP rfl (wl_nil (we_then (wc_keep [5,1] (S' := [_,_]) rfl (wc_seq ?_))))))
  obtain ⟨bj_1, hm, hLj_1⟩ := bindS_some hm
  refine wc_cut (σ := Unit) (fun _ => bj_1 = .inl ()) (fun _ => []) (fun _ => []) (fun _ => []) ?_ ?_
  ·
   refine wc_seq (wc_region (wP rfl (wl_nil (we_then (wc_block (wc_loop (σ := Nat × Nat) (fun (nu1, u1_6) => iter (m_ropewalkkit_KeptSessions_W_L1 N l0 l2) nu1 u1_6 = some bj_1) (fun (nu1, u1_6) => nu1) (fun (nu1, u1_6) => [(6, .int .i64 ((u1_6 : Nat) : Int)), (5, .slice p16 ((l0.take (l2.length + 12)).length) qc1), (1, .slice qp2 l2.length qc3)]) (fun (nu1, u1_6) => [.sli 6 RS_SessD p16 qc1 (l0.take (l2.length + 12)), .sli 6 R_SessD qp2 qc3 l2]) (fun (nu1, u1_6) => []) (N, 0) hm [6,5,1] rfl (asK [0,2] rfl) rfl (fun s_ hm => ?_)))))))
   obtain ⟨nu1, u1_6⟩ := s_
   try dsimp only at hm ⊢
   obtain ⟨mu1, bu1, hnu1, hq, hLu1⟩ := iter_some hm
   clear hm
   subst hnu1
   replace hm := hq
   clear hq
   unfold m_ropewalkkit_KeptSessions_W_L1 at hm
   try dsimp only at hm
   refine wc_seq (wc_seq (wc_region (wP rfl (wP rfl (wN rfl tE_22 (wP rfl (wl_as (d := 20) (v' := .bool (decide (u1_6 < ((l0.take (l2.length + 12)).length)))) (S' := [_,_,_,_,_,_]) rfl rfl (natlt (a := u1_6) (b := (l0.take (l2.length + 12)).length)) (wl_nil (we_then (wc_keep [20,6,5,1] (S' := [_,_,_,_]) rfl ?_))))))))))
   refine wc_cond rfl (fun hb20 => ?_) (fun hb20 => ?_)
   ·
    replace hm := iteT hm hb20
    refine wc_keep [6,5,1] (S' := [_,_,_]) rfl (wc_skip (we_then (wc_seq (wc_block (wc_seq ?_)))))
    obtain ⟨bj_2, hm, hLj_2⟩ := bindO_some hm
    unfold m_ropewalkkit_KeptSessions_W_C2 at hm
    refine wc_cut (σ := Bool) (fun j_2_57 => bj_2 = j_2_57) (fun j_2_57 => [(6, .int .i64 ((u1_6 : Nat) : Int)), (5, .slice p16 ((l0.take (l2.length + 12)).length) qc1), (1, .slice qp2 l2.length qc3), (57, .bool j_2_57)]) (fun j_2_57 => [.sli 6 RS_SessD p16 qc1 (l0.take (l2.length + 12)), .sli 6 R_SessD qp2 qc3 l2]) (fun j_2_57 => []) ?_ ?_
    ·
     rcases ite_some hm with ⟨hs27, hm⟩ | ⟨hs27, hm⟩
     ·
      obtain ⟨x30, hx30, hm⟩ := bindO_some hm
      obtain ⟨x34, hx34, hm⟩ := bindO_some hm
      obtain ⟨v36, hc36, hm⟩ := bindO_some hm
      rcases ite_some hm with ⟨hs39, hm⟩ | ⟨hs39, hm⟩
      ·
       refine wc_draw [0,1,2,3,4,5,6,7,8,9,10,11,12,14,15,16,17,18,19,20,21,22,23,24,25,26,27,28,29,32,33,34] rfl rfl (fun hok => (xP hok 0 rfl (xP hok 1 rfl (wx_len hok 2 rfl rfl rfl (freshS_eq rfl) rfl rfl rfl tE_22 (xP hok 3 rfl (wx_as (d := 26) (v' := .bool (decide (u1_6 < l2.length))) (S' := [_,_,_,_,_,_]) rfl rfl (natlt (a := u1_6) (b := l2.length)) (xP hok 4 rfl (wx_as (d := 27) (v' := .bool true) (S' := [_,_,_,_,_,_,_]) rfl rfl (bool_is hs27) (xP hok 5 rfl (xP hok 6 rfl (wx_indexA hok 7 0 u1_6 rfl rfl rfl (freshS_eq rfl) rfl rfl rfl rfl rfl rfl hx30 tE_22 tS_31 (fun b30 q30 cs30 hlx30 => (wx_openR RS_SessD_opens 1 rfl (fun r30 er30 _ => ?_))))))))))))))
       subst er30
       refine wx_load hok 8 2 0 rfl rfl rfl (freshS_eq rfl) rfl rfl rfl rfl (cs := [_,_,_,_,_,_]) rfl tS_31 tA_31 rfl rfl (xP hok 9 rfl (xP hok 10 rfl (wx_indexA hok 11 5 u1_6 rfl rfl rfl (freshS_eq rfl) rfl rfl rfl rfl rfl rfl hx34 tE_22 tS_31 (fun b34 q34 cs34 hlx34 => (wx_openR R_SessD_opens 1 rfl (fun r34 er34 _ => ?_))))))
       subst er34
       refine wx_load hok 12 2 0 rfl rfl rfl (freshS_eq rfl) rfl rfl rfl rfl (cs := [_,_,_,_,_,_]) rfl tS_31 tA_31 rfl rfl (xS hok 13 rfl (wC [] [] rfl fn_27 rfl (w_ropewalkkit_KeptSession_W_s N x30.id x30.seq x30.r.err x30.r.num r30.1.1 r30.1.2 (x30.r.facts ++ x30.r.factsT) x30.r.facts.length r30.2.1 r30.2.2 (x30.r.said ++ x30.r.saidT) x30.r.said.length x34.id x34.seq x34.r.err x34.r.num r34.1.1 r34.1.2 x34.r.facts r34.2.1 r34.2.2 x34.r.said _ hc36) (asK [4,5,0,1] rfl) rfl (H' := []) rfl ?_))
       rintro _ _ _ ⟨rfl, rfl, rfl⟩
       refine wl_nil (we_x [0,1,2,3,4,5,6,7,8,9] [] rfl rfl (xP hok 14 rfl (xP hok 15 rfl (xP hok 16 rfl (wx_as (d := 39) (v' := .bool true) (S' := [_,_,_,_,_,_,_,_,_,_,_,_,_,_,_,_,_,_,_]) rfl rfl (bool_is hs39) (xO hok 17 rfl (xO hok 18 rfl (xO hok 19 rfl (xO hok 20 rfl (xO hok 21 rfl (xO hok 22 rfl (xO hok 23 rfl (xO hok 24 rfl ?_)))))))))))))
       refine xO hok 25 rfl (xO hok 26 rfl (xO hok 27 rfl (xO hok 28 rfl (xO hok 29 rfl (xS hok 30 rfl (wO rfl (wl_nil (we_x [0,1,2,3,4,5,6,7,8,9] [] rfl rfl (xS hok 31 rfl (wO rfl (wl_nil (we_x [0,1,2,3,4,5,6,7,8,9] [] rfl rfl (xO hok 32 rfl ?_)))))))))))))
       refine xO hok 33 rfl (xP hok 34 rfl (wx_done hok rfl ?_))
       have hE := (Option.some.inj hm).symm
       refine we_join true hE [6,5,1,57] rfl (asK [8,9] rfl) rfl
      ·
       rcases ite_some hm with ⟨hs44, hm⟩ | ⟨hs44, hm⟩
       ·
        obtain ⟨x47, hx47, hm⟩ := bindO_some hm
        obtain ⟨hg52, hm⟩ := gd_some hm
        obtain ⟨_, hc53, hm⟩ := bindO_some hm
        try dsimp only at hm
        obtain ⟨v54, hc54, hm⟩ := bindO_some hm
        refine wc_draw [0,1,2,3,4,5,6,7,8,9,10,11,12,14,15,16,17,18,19,20,21,22,23,24,25,26,27,28,29,32,33,34] rfl rfl (fun hok => (xP hok 0 rfl (xP hok 1 rfl (wx_len hok 2 rfl rfl rfl (freshS_eq rfl) rfl rfl rfl tE_22 (xP hok 3 rfl (wx_as (d := 26) (v' := .bool (decide (u1_6 < l2.length))) (S' := [_,_,_,_,_,_]) rfl rfl (natlt (a := u1_6) (b := l2.length)) (xP hok 4 rfl (wx_as (d := 27) (v' := .bool true) (S' := [_,_,_,_,_,_,_]) rfl rfl (bool_is hs27) (xP hok 5 rfl (xP hok 6 rfl (wx_indexA hok 7 0 u1_6 rfl rfl rfl (freshS_eq rfl) rfl rfl rfl rfl rfl rfl hx30 tE_22 tS_31 (fun b30 q30 cs30 hlx30 => (wx_openR RS_SessD_opens 1 rfl (fun r30 er30 _ => ?_))))))))))))))
        subst er30
        refine wx_load hok 8 2 0 rfl rfl rfl (freshS_eq rfl) rfl rfl rfl rfl (cs := [_,_,_,_,_,_]) rfl tS_31 tA_31 rfl rfl (xP hok 9 rfl (xP hok 10 rfl (wx_indexA hok 11 5 u1_6 rfl rfl rfl (freshS_eq rfl) rfl rfl rfl rfl rfl rfl hx34 tE_22 tS_31 (fun b34 q34 cs34 hlx34 => (wx_openR R_SessD_opens 1 rfl (fun r34 er34 _ => ?_))))))
        subst er34
        refine wx_load hok 12 2 0 rfl rfl rfl (freshS_eq rfl) rfl rfl rfl rfl (cs := [_,_,_,_,_,_]) rfl tS_31 tA_31 rfl rfl (xS hok 13 rfl (wC [] [] rfl fn_27 rfl (w_ropewalkkit_KeptSession_W_s N x30.id x30.seq x30.r.err x30.r.num r30.1.1 r30.1.2 (x30.r.facts ++ x30.r.factsT) x30.r.facts.length r30.2.1 r30.2.2 (x30.r.said ++ x30.r.saidT) x30.r.said.length x34.id x34.seq x34.r.err x34.r.num r34.1.1 r34.1.2 x34.r.facts r34.2.1 r34.2.2 x34.r.said _ hc36) (asK [4,5,0,1] rfl) rfl (H' := []) rfl ?_))
        rintro _ _ _ ⟨rfl, rfl, rfl⟩
        refine wl_nil (we_x [0,1,2,3,4,5,6,7,8,9] [] rfl rfl (xP hok 14 rfl (xP hok 15 rfl (xP hok 16 rfl (wx_as (d := 39) (v' := .bool false) (S' := [_,_,_,_,_,_,_,_,_,_,_,_,_,_,_,_,_,_,_]) rfl rfl (bool_is hs39) (xP hok 17 rfl (xP hok 18 rfl (wx_len hok 19 rfl rfl rfl (freshS_eq rfl) rfl rfl rfl tE_22 (xP hok 20 rfl (wx_as (d := 43) (v' := .bool (decide (l2.length ≤ u1_6))) (S' := [_,_,_,_,_,_,_,_,_,_,_,_,_,_,_,_,_,_,_,_,_,_,_]) rfl rfl (natge (a := u1_6) (b := l2.length)) (xP hok 21 rfl (wx_as (d := 44) (v' := .bool true) (S' := [_,_,_,_,_,_,_,_,_,_,_,_,_,_,_,_,_,_,_,_,_,_,_,_]) rfl rfl (bool_is hs44) (xP hok 22 rfl ?_)))))))))))))
        refine xP hok 23 rfl (wx_indexA hok 24 8 u1_6 rfl rfl rfl (freshS_eq rfl) rfl rfl rfl rfl rfl rfl hx47 tE_22 tS_31 (fun b47 q47 cs47 hlx47 => (wx_openR RS_SessD_opens 1 rfl (fun r47 er47 _ => ?_))))
        subst er47
        refine wx_load hok 25 2 0 rfl rfl rfl (freshS_eq rfl) rfl rfl rfl rfl (cs := [_,_,_,_,_,_]) rfl tS_31 tA_31 rfl rfl (xP hok 26 rfl (xP hok 27 rfl (wx_len hok 28 rfl rfl rfl (freshS_eq rfl) rfl rfl rfl tE_22 (xP hok 29 rfl (wx_as (d := 52) (v' := .int .i64 (((u1_6 : Nat) : Int) - ((l2.length : Nat) : Int))) (S' := [_,_,_,_,_,_,_,_,_,_,_,_,_,_,_,_,_,_,_,_,_,_,_,_,_,_,_,_,_,_,_,_]) rfl rfl (i64_in hg52) (xS hok 30 rfl (wC [] [] rfl fn_24 rfl (w_ropewalkkit_markSession_s N 1 (((u1_6 : Nat) : Int) - ((l2.length : Nat) : Int)) hc53) (asK [] rfl) rfl (H' := []) rfl ?_)))))))
        rintro _ _ _ ⟨rfl, rfl, rfl⟩
        refine wl_nil (we_x [0,1,2,3,4,5,6,7,8,9,10,11,12,13] [] rfl rfl (xS hok 31 rfl (wl_fact (.sli 3 R_FactD none 0 ([] : List FactD)) (fun _ _ _ => sli_none) (wl_fact (.sli 3 R_V none 0 ([] : List V)) (fun _ _ _ => sli_none) (wC [] [] rfl fn_28 rfl (w_ropewalkkit_SameSession_W_s N x47.id x47.seq x47.r.err x47.r.num r47.1.1 r47.1.2 (x47.r.facts ++ x47.r.factsT) x47.r.facts.length r47.2.1 r47.2.2 (x47.r.said ++ x47.r.saidT) x47.r.said.length (IntKind.wrap .i64 ((IntKind.wrap .i64 (1000003 * (IntKind.wrap .i64 (1 + 7)))) + (((u1_6 : Nat) : Int) - ((l2.length : Nat) : Int)))) 0 0 0 none 0 ([] : List FactD) none 0 ([] : List V) _ hc54) (asK [2,3,1,0] rfl) rfl (H' := []) rfl ?_)))))
        rintro _ _ _ ⟨rfl, rfl, rfl⟩
        refine wl_nil (we_x [2,3,4,5,6,7,8,9,10,11,12,13,14,15] [] rfl rfl (xP hok 32 rfl (xP hok 33 rfl (xP hok 34 rfl (wx_done hok rfl ?_)))))
        have hE := (Option.some.inj hm).symm
        refine we_join (!v54) hE [6,5,1,57] rfl (asK [14,15] rfl) rfl
       ·
        refine wc_draw [0,1,2,3,4,5,6,7,8,9,10,11,12,14,15,16,17,18,19,20,21,22,23,24,25,26,27,28,29,32,33,34] rfl rfl (fun hok => (xP hok 0 rfl (xP hok 1 rfl (wx_len hok 2 rfl rfl rfl (freshS_eq rfl) rfl rfl rfl tE_22 (xP hok 3 rfl (wx_as (d := 26) (v' := .bool (decide (u1_6 < l2.length))) (S' := [_,_,_,_,_,_]) rfl rfl (natlt (a := u1_6) (b := l2.length)) (xP hok 4 rfl (wx_as (d := 27) (v' := .bool true) (S' := [_,_,_,_,_,_,_]) rfl rfl (bool_is hs27) (xP hok 5 rfl (xP hok 6 rfl (wx_indexA hok 7 0 u1_6 rfl rfl rfl (freshS_eq rfl) rfl rfl rfl rfl rfl rfl hx30 tE_22 tS_31 (fun b30 q30 cs30 hlx30 => (wx_openR RS_SessD_opens 1 rfl (fun r30 er30 _ => ?_))))))))))))))
        subst er30
        refine wx_load hok 8 2 0 rfl rfl rfl (freshS_eq rfl) rfl rfl rfl rfl (cs := [_,_,_,_,_,_]) rfl tS_31 tA_31 rfl rfl (xP hok 9 rfl (xP hok 10 rfl (wx_indexA hok 11 5 u1_6 rfl rfl rfl (freshS_eq rfl) rfl rfl rfl rfl rfl rfl hx34 tE_22 tS_31 (fun b34 q34 cs34 hlx34 => (wx_openR R_SessD_opens 1 rfl (fun r34 er34 _ => ?_))))))
        subst er34
        refine wx_load hok 12 2 0 rfl rfl rfl (freshS_eq rfl) rfl rfl rfl rfl (cs := [_,_,_,_,_,_]) rfl tS_31 tA_31 rfl rfl (xS hok 13 rfl (wC [] [] rfl fn_27 rfl (w_ropewalkkit_KeptSession_W_s N x30.id x30.seq x30.r.err x30.r.num r30.1.1 r30.1.2 (x30.r.facts ++ x30.r.factsT) x30.r.facts.length r30.2.1 r30.2.2 (x30.r.said ++ x30.r.saidT) x30.r.said.length x34.id x34.seq x34.r.err x34.r.num r34.1.1 r34.1.2 x34.r.facts r34.2.1 r34.2.2 x34.r.said _ hc36) (asK [4,5,0,1] rfl) rfl (H' := []) rfl ?_))
        rintro _ _ _ ⟨rfl, rfl, rfl⟩
        refine wl_nil (we_x [0,1,2,3,4,5,6,7,8,9] [] rfl rfl (xP hok 14 rfl (xP hok 15 rfl (xP hok 16 rfl (wx_as (d := 39) (v' := .bool false) (S' := [_,_,_,_,_,_,_,_,_,_,_,_,_,_,_,_,_,_,_]) rfl rfl (bool_is hs39) (xP hok 17 rfl (xP hok 18 rfl (wx_len hok 19 rfl rfl rfl (freshS_eq rfl) rfl rfl rfl tE_22 (xP hok 20 rfl (wx_as (d := 43) (v' := .bool (decide (l2.length ≤ u1_6))) (S' := [_,_,_,_,_,_,_,_,_,_,_,_,_,_,_,_,_,_,_,_,_,_,_]) rfl rfl (natge (a := u1_6) (b := l2.length)) (xP hok 21 rfl (wx_as (d := 44) (v' := .bool false) (S' := [_,_,_,_,_,_,_,_,_,_,_,_,_,_,_,_,_,_,_,_,_,_,_,_]) rfl rfl (bool_is hs44) (xO hok 22 rfl ?_)))))))))))))
        refine xO hok 23 rfl (xO hok 24 rfl (xO hok 25 rfl (xO hok 26 rfl (xO hok 27 rfl (xO hok 28 rfl (xO hok 29 rfl (xS hok 30 rfl (wO rfl (wl_nil (we_x [0,1,2,3,4,5,6,7,8,9] [] rfl rfl (xS hok 31 rfl (wO rfl (wl_nil ?_)))))))))))))
        refine we_x [0,1,2,3,4,5,6,7,8,9] [] rfl rfl (xO hok 32 rfl (xP hok 33 rfl (xP hok 34 rfl (wx_done hok rfl ?_))))
        have hE := (Option.some.inj hm).symm
        refine we_join false hE [6,5,1,57] rfl (asK [8,9] rfl) rfl
     ·
      rcases ite_some hm with ⟨hs44, hm⟩ | ⟨hs44, hm⟩
      ·
       obtain ⟨x47, hx47, hm⟩ := bindO_some hm
       obtain ⟨hg52, hm⟩ := gd_some hm
       obtain ⟨_, hc53, hm⟩ := bindO_some hm
       try dsimp only at hm
       obtain ⟨v54, hc54, hm⟩ := bindO_some hm
       refine wc_draw [0,1,2,3,4,5,6,7,8,9,10,11,12,14,15,16,17,18,19,20,21,22,23,24,25,26,27,28,29,32,33,34] rfl rfl (fun hok => (xP hok 0 rfl (xP hok 1 rfl (wx_len hok 2 rfl rfl rfl (freshS_eq rfl) rfl rfl rfl tE_22 (xP hok 3 rfl (wx_as (d := 26) (v' := .bool (decide (u1_6 < l2.length))) (S' := [_,_,_,_,_,_]) rfl rfl (natlt (a := u1_6) (b := l2.length)) (xP hok 4 rfl (wx_as (d := 27) (v' := .bool false) (S' := [_,_,_,_,_,_,_]) rfl rfl (bool_is hs27) (xO hok 5 rfl (xO hok 6 rfl (xO hok 7 rfl (xO hok 8 rfl (xO hok 9 rfl (xO hok 10 rfl ?_))))))))))))))
       refine xO hok 11 rfl (xO hok 12 rfl (xS hok 13 rfl (wO rfl (wl_nil (we_x [0,1] [] rfl rfl (xO hok 14 rfl (xP hok 15 rfl (xP hok 16 rfl (xP hok 17 rfl (xP hok 18 rfl (wx_len hok 19 rfl rfl rfl (freshS_eq rfl) rfl rfl rfl tE_22 (xP hok 20 rfl (wx_as (d := 43) (v' := .bool (decide (l2.length ≤ u1_6))) (S' := [_,_,_,_,_,_,_,_,_,_,_,_,_,_,_,_,_,_,_,_,_,_,_]) rfl rfl (natge (a := u1_6) (b := l2.length)) ?_)))))))))))))
       refine xP hok 21 rfl (wx_as (d := 44) (v' := .bool true) (S' := [_,_,_,_,_,_,_,_,_,_,_,_,_,_,_,_,_,_,_,_,_,_,_,_]) rfl rfl (bool_is hs44) (xP hok 22 rfl (xP hok 23 rfl (wx_indexA hok 24 0 u1_6 rfl rfl rfl (freshS_eq rfl) rfl rfl rfl rfl rfl rfl hx47 tE_22 tS_31 (fun b47 q47 cs47 hlx47 => (wx_openR RS_SessD_opens 1 rfl (fun r47 er47 _ => ?_)))))))
       subst er47
       refine wx_load hok 25 2 0 rfl rfl rfl (freshS_eq rfl) rfl rfl rfl rfl (cs := [_,_,_,_,_,_]) rfl tS_31 tA_31 rfl rfl (xP hok 26 rfl (xP hok 27 rfl (wx_len hok 28 rfl rfl rfl (freshS_eq rfl) rfl rfl rfl tE_22 (xP hok 29 rfl (wx_as (d := 52) (v' := .int .i64 (((u1_6 : Nat) : Int) - ((l2.length : Nat) : Int))) (S' := [_,_,_,_,_,_,_,_,_,_,_,_,_,_,_,_,_,_,_,_,_,_,_,_,_,_,_,_,_,_,_,_]) rfl rfl (i64_in hg52) (xS hok 30 rfl (wC [] [] rfl fn_24 rfl (w_ropewalkkit_markSession_s N 1 (((u1_6 : Nat) : Int) - ((l2.length : Nat) : Int)) hc53) (asK [] rfl) rfl (H' := []) rfl ?_)))))))
       rintro _ _ _ ⟨rfl, rfl, rfl⟩
       refine wl_nil (we_x [0,1,2,3,4,5] [] rfl rfl (xS hok 31 rfl (wl_fact (.sli 3 R_FactD none 0 ([] : List FactD)) (fun _ _ _ => sli_none) (wl_fact (.sli 3 R_V none 0 ([] : List V)) (fun _ _ _ => sli_none) (wC [] [] rfl fn_28 rfl (w_ropewalkkit_SameSession_W_s N x47.id x47.seq x47.r.err x47.r.num r47.1.1 r47.1.2 (x47.r.facts ++ x47.r.factsT) x47.r.facts.length r47.2.1 r47.2.2 (x47.r.said ++ x47.r.saidT) x47.r.said.length (IntKind.wrap .i64 ((IntKind.wrap .i64 (1000003 * (IntKind.wrap .i64 (1 + 7)))) + (((u1_6 : Nat) : Int) - ((l2.length : Nat) : Int)))) 0 0 0 none 0 ([] : List FactD) none 0 ([] : List V) _ hc54) (asK [2,3,1,0] rfl) rfl (H' := []) rfl ?_)))))
       rintro _ _ _ ⟨rfl, rfl, rfl⟩
       refine wl_nil (we_x [2,3,4,5,6,7] [] rfl rfl (xP hok 32 rfl (xP hok 33 rfl (xP hok 34 rfl (wx_done hok rfl ?_)))))
       have hE := (Option.some.inj hm).symm
       refine we_join (!v54) hE [6,5,1,57] rfl (asK [6,7] rfl) rfl
      ·
       refine wc_draw [0,1,2,3,4,5,6,7,8,9,10,11,12,14,15,16,17,18,19,20,21,22,23,24,25,26,27,28,29,32,33,34] rfl rfl (fun hok => (xP hok 0 rfl (xP hok 1 rfl (wx_len hok 2 rfl rfl rfl (freshS_eq rfl) rfl rfl rfl tE_22 (xP hok 3 rfl (wx_as (d := 26) (v' := .bool (decide (u1_6 < l2.length))) (S' := [_,_,_,_,_,_]) rfl rfl (natlt (a := u1_6) (b := l2.length)) (xP hok 4 rfl (wx_as (d := 27) (v' := .bool false) (S' := [_,_,_,_,_,_,_]) rfl rfl (bool_is hs27) (xO hok 5 rfl (xO hok 6 rfl (xO hok 7 rfl (xO hok 8 rfl (xO hok 9 rfl (xO hok 10 rfl ?_))))))))))))))
       refine xO hok 11 rfl (xO hok 12 rfl (xS hok 13 rfl (wO rfl (wl_nil (we_x [0,1] [] rfl rfl (xO hok 14 rfl (xP hok 15 rfl (xP hok 16 rfl (xP hok 17 rfl (xP hok 18 rfl (wx_len hok 19 rfl rfl rfl (freshS_eq rfl) rfl rfl rfl tE_22 (xP hok 20 rfl (wx_as (d := 43) (v' := .bool (decide (l2.length ≤ u1_6))) (S' := [_,_,_,_,_,_,_,_,_,_,_,_,_,_,_,_,_,_,_,_,_,_,_]) rfl rfl (natge (a := u1_6) (b := l2.length)) ?_)))))))))))))
       refine xP hok 21 rfl (wx_as (d := 44) (v' := .bool false) (S' := [_,_,_,_,_,_,_,_,_,_,_,_,_,_,_,_,_,_,_,_,_,_,_,_]) rfl rfl (bool_is hs44) (xO hok 22 rfl (xO hok 23 rfl (xO hok 24 rfl (xO hok 25 rfl (xO hok 26 rfl (xO hok 27 rfl (xO hok 28 rfl (xO hok 29 rfl (xS hok 30 rfl (wO rfl (wl_nil (we_x [0,1] [] rfl rfl ?_)))))))))))))
       refine xS hok 31 rfl (wO rfl (wl_nil (we_x [0,1] [] rfl rfl (xO hok 32 rfl (xP hok 33 rfl (xP hok 34 rfl (wx_done hok rfl ?_)))))))
       have hE := (Option.some.inj hm).symm
       refine we_join false hE [6,5,1,57] rfl (asK [0,1] rfl) rfl
    ·
     rintro j_2_57 hE
     try dsimp only
     have hm := hLj_2
     rw [hE] at hm
     refine wc_cond rfl (fun hb57 => ?_) (fun hb57 => ?_)
     ·
      replace hm := iteT hm hb57
      refine wc_keep [] (S' := []) rfl (wc_seq (wc_region (wP rfl (wl_nil (we_then (wc_ret (we_block_ret (we_then_ret (we_then_ret (we_block_ret (we_then_ret ?_)))))))))))
      have hE := (Option.some.inj hm).symm
      replace hE := link_inr hLu1 hE
      replace hE := link_inr hLj_1 hE
      replace hE := hE.symm
      subst hE
      refine ret_one (Hr := []) [] Tryz.results12 (res_tmp rfl) ⟨rfl, rfl, rfl⟩ (asK [] rfl) rfl rfl (.inl rfl)
     ·
      replace hm := iteF hm hb57
      refine wc_keep [6,5,1] (S' := [_,_,_]) rfl (wc_skip (we_block_normal (we_then (wc_region (wP rfl (wP rfl ?_))))))
      obtain ⟨hg22, hm⟩ := gd_some hm
      refine wl_as (d := 22) (v' := .int .i64 ((u1_6 + 1 : Nat) : Int)) (S' := [_,_,_,_]) rfl rfl (nat_add (a := u1_6) (b := 1) hg22) (wl_pure (S' := [_,_,_,_]) rfl rfl rfl rfl rfl (wl_nil ?_))
      have hE := (Option.some.inj hm).symm
      replace hE := link_inl hLu1 hE
      refine we_roundK (_, u1_6 + 1) (Nat.lt_succ_self _) hE [6,5,1] rfl (asK [0,1] rfl) rfl
   ·
    replace hm := iteF hm hb20
    refine wc_keep [] (S' := []) rfl (wc_exit (we_then_exit (we_then_exit (we_block_hit ?_))))
    have hE := (Option.some.inj hm).symm
    replace hE := link_inr hLu1 hE
    refine we_join () hE [] rfl (asK [] rfl) rfl
  ·
   rintro _ hE
   try dsimp only
   have hm := link_inl hLj_1 hE
   try dsimp only at hm
   refine wc_seq (wc_region (wP rfl (wl_nil (we_then (wc_ret ?_)))))
   have hE := (Option.some.inj hm).symm
   replace hE := hE.symm
   subst hE
   refine ret_one (Hr := []) [] Tryz.results12 (res_tmp rfl) ⟨rfl, rfl, rfl⟩ (asK [] rfl) rfl rfl (.inl rfl)
theorem w_ropewalkkit_OverValues_V_s (N : Nat) (qp0 : Option Addr) (qn1 : Nat) (qc2 : Nat) (l0 : List V) (k1 : Nat) (o0 : List V) (hm : m_ropewalkkit_OverValues_V N l0 k1 = some o0) : Spec Tryz.prog 58 [.slice qp0 k1 qc2] [] [.own 149 3 R_V (.slice qp0 qn1 qc2) l0] (fun v Φr Hr => v = .tuple #[] ∧ Φr = [] ∧ Hr = [.own 149 3 R_V (.slice qp0 qn1 qc2) o0]) := by
 unfold m_ropewalkkit_OverValues_V at hm
 refine spec_of Tryz.func58 rfl Tryz.ntmps58 rfl (S := [_]) rfl (fun C => (wc_seq (wc_region (wP rfl (wP rfl (wN rfl tE_27 (wP rfl ?_)))))))
 obtain ⟨hg7, hm⟩ := gd_some hm
 refine wl_as (d := 7) (v' := .int .i64 ((k1 + 12 : Nat) : Int)) (S' := [_,_,_,_]) rfl rfl (nat_add (a := k1) (b := 12) hg7) ?_
 obtain ⟨hg8, hm⟩ := gd_some hm
 refine wl_ownSpot 0 rfl (fun hsp8 hcm8 => (wl_sliceTo rfl rfl rfl (freshS_eq rfl) rfl rfl rfl rfl tE_27 tS_149 (Nat.le_trans hg8 (by rw [← hcm8.2]; exact hcm8.1)) hsp8 (wP rfl (wl_nil (we_then (wc_keep [2] (S' := [_]) rfl (wc_seq (wc_region (wP rfl (wl_nil (we_then (wc_block (wc_loop (σ := Nat × Nat × (List V)) (fun (nu1, u1_3, u1_2_l) => iter (m_ropewalkkit_OverValues_V_L1 N k1) nu1 (u1_3, u1_2_l) = some o0) (fun (nu1, u1_3, u1_2_l) => nu1) (fun (nu1, u1_3, u1_2_l) => [(3, .int .i64 ((u1_3 : Nat) : Int)), (2, .slice qp0 (k1 + 12) qc2)]) (fun (nu1, u1_3, u1_2_l) => []) (fun (nu1, u1_3, u1_2_l) => [.own 149 3 R_V (.slice qp0 qn1 qc2) u1_2_l]) (N, 0, l0) hm [3,2] rfl (asK [] rfl) rfl (fun s_ hm => ?_))))))))))))))
 obtain ⟨nu1, u1_3, u1_2_l⟩ := s_
 try dsimp only at hm ⊢
 obtain ⟨mu1, bu1, hnu1, hq, hLu1⟩ := iter_some hm
 clear hm
 subst hnu1
 replace hm := hq
 clear hq
 unfold m_ropewalkkit_OverValues_V_L1 at hm
 try dsimp only at hm
 refine wc_seq (wc_seq (wc_region (wP rfl (wP rfl (wN rfl tE_27 (wP rfl (wl_as (d := 12) (v' := .bool (decide (u1_3 < (k1 + 12)))) (S' := [_,_,_,_,_]) rfl rfl (natlt (a := u1_3) (b := k1 + 12)) (wl_nil (we_then (wc_keep [12,3,2] (S' := [_,_,_]) rfl ?_))))))))))
 refine wc_cond rfl (fun hb12 => ?_) (fun hb12 => ?_)
 ·
  replace hm := iteT hm hb12
  refine wc_keep [3,2] (S' := [_,_]) rfl (wc_skip (we_then (wc_seq (wc_block (wc_region (wP rfl (wP rfl (wP rfl ?_))))))))
  obtain ⟨_, hc18, hm⟩ := bindO_some hm
  try dsimp only at hm
  refine wC [] [0] rfl fn_97 rfl (w_ropewalkkit_markValue_s N 2 ((u1_3 : Nat) : Int) hc18) (asK [] rfl) rfl (H' := [_]) rfl ?_
  rintro _ _ _ ⟨rfl, rfl, rfl⟩
  obtain ⟨x19, hx19, hm⟩ := bindO_some hm
  obtain ⟨hqx19, hm⟩ := gd_some hm
  refine wl_indexS 0 u1_3 rfl rfl rfl (freshS_eq rfl) rfl rfl rfl rfl rfl hqx19 (get_lt hx19) tE_27 tS_149 (fun g19 eg19 => ?_)
  subst eg19
  refine wl_storeRow (u := (⟨0, (IntKind.wrap .i64 ((IntKind.wrap .i64 (1000003 * (IntKind.wrap .i64 (2 + 7)))) + ((u1_3 : Nat) : Int))), (⟨#[]⟩ : ByteArray)⟩ : V)) 0 u1_3 rfl rfl rfl rfl rfl (get_lt hx19) rfl rfl tS_149 rfl (fun F w hφ => ⟨(), rfl, ask_nil⟩) (H' := [_]) rfl (wl_nil (we_block_normal (we_then (wc_keep [3,2] (S' := [_,_]) rfl (wc_region (wP rfl (wP rfl ?_)))))))
  obtain ⟨hg14, hm⟩ := gd_some hm
  refine wl_as (d := 14) (v' := .int .i64 ((u1_3 + 1 : Nat) : Int)) (S' := [_,_,_]) rfl rfl (nat_add (a := u1_3) (b := 1) hg14) (wl_pure (S' := [_,_,_]) rfl rfl rfl rfl rfl (wl_nil ?_))
  have hE := (Option.some.inj hm).symm
  replace hE := link_inl hLu1 hE
  refine we_roundK (_, u1_3 + 1, (u1_2_l.set u1_3 (⟨0, (IntKind.wrap .i64 ((IntKind.wrap .i64 (1000003 * (IntKind.wrap .i64 (2 + 7)))) + ((u1_3 : Nat) : Int))), (⟨#[]⟩ : ByteArray)⟩ : V))) (Nat.lt_succ_self _) hE [3,2] rfl (asK [] rfl) rfl
 ·
  replace hm := iteF hm hb12
  refine wc_keep [] (S' := []) rfl (wc_exit (we_then_exit (we_then_exit (we_block_hit ?_))))
  have hE := (Option.some.inj hm).symm
  replace hE := link_inr hLu1 hE
  replace hE := hE.symm
  subst hE
  refine ret_none (Hr := [_]) [0] Tryz.results58 ⟨rfl, rfl, rfl⟩ (asK [] rfl) rfl rfl (.inr rfl)
theorem w_ropewalkkit_OverFact_V_s (N : Nat) (a0 : Int) (a1 : Int) (qp0 : Option Addr) (qn1 : Nat) (qc2 : Nat) (l2 : List V) (k3 : Nat) (o0 : List V) (hm : m_ropewalkkit_OverFact_V N a0 a1 l2 k3 = some o0) : Spec Tryz.prog 102 [.agg #[.int .i64 a0, .int .i64 a1, .slice qp0 k3 qc2]] [] [.own 149 3 R_V (.slice qp0 qn1 qc2) l2] (fun v Φr Hr => v = .tuple #[] ∧ Φr = [] ∧ Hr = [.own 149 3 R_V (.slice qp0 qn1 qc2) o0]) := by
 unfold m_ropewalkkit_OverFact_V at hm
 refine spec_of Tryz.func102 rfl Tryz.ntmps102 rfl (S := [_]) rfl (fun C => (wc_seq (wc_region (wB rfl (fun g1 => (wl_nil (we_then (wc_keep [1] (S' := [_]) rfl (wc_region (wF rfl tF_55_2 (wD 0 2 rfl tS_27 tA_27 rfl (wl_ownLen 1 rfl (fun hzqn1 _ => ?_)))))))))))))
 subst hzqn1
 obtain ⟨v4, hc4, hm⟩ := bindO_some hm
 refine wC [1] [0] rfl fn_58 rfl (w_ropewalkkit_OverValues_V_s N qp0 l2.length qc2 l2 k3 _ hc4) (asK [] rfl) rfl (H' := [_]) rfl ?_
 rintro _ _ _ ⟨rfl, rfl, rfl⟩
 refine wl_nil ?_
 have hE := (Option.some.inj hm).symm
 replace hE := hE.symm
 subst hE
 refine ret_none (Hr := [_]) [0] Tryz.results102 ⟨rfl, rfl, rfl⟩ (asK [] rfl) rfl rfl (.inr rfl)
theorem w_ropewalkkit_OverFacts_V_s (N : Nat) (qp0 : Option Addr) (qn1 : Nat) (qc2 : Nat) (l0 : List FactDS) (k1 : Nat) (o0 : List FactDS) (hm : m_ropewalkkit_OverFacts_V N l0 k1 = some o0) : Spec Tryz.prog 57 [.slice qp0 k1 qc2] [] [treeF TS_FactD 55 3 (.slice qp0 qn1 qc2) l0] (fun v Φr Hr => v = .tuple #[] ∧ Φr = [] ∧ Hr = [treeF TS_FactD 55 3 (.slice qp0 qn1 qc2) o0]) := by
 unfold m_ropewalkkit_OverFacts_V at hm
 refine spec_of Tryz.func57 rfl Tryz.ntmps57 rfl (S := [_]) rfl (fun C => (wc_seq ?_))
 obtain ⟨bj_1, hm, hLj_1⟩ := bindO_some hm
 refine wc_cut (σ := List FactDS) (fun j_1_0_l => bj_1 = j_1_0_l) (fun j_1_0_l => [(0, .slice qp0 k1 qc2)]) (fun j_1_0_l => []) (fun j_1_0_l => [treeF TS_FactD 55 3 (.slice qp0 qn1 qc2) j_1_0_l]) ?_ ?_
 ·
  refine wc_seq (wc_region (wP rfl (wl_nil (we_then (wc_block (wc_loop (σ := Nat × Nat × (List FactDS)) (fun (nu1, u1_2, u1_0_l) => iter (m_ropewalkkit_OverFacts_V_L1 N k1) nu1 (u1_2, u1_0_l) = some bj_1) (fun (nu1, u1_2, u1_0_l) => nu1) (fun (nu1, u1_2, u1_0_l) => [(2, .int .i64 ((u1_2 : Nat) : Int)), (0, .slice qp0 k1 qc2)]) (fun (nu1, u1_2, u1_0_l) => []) (fun (nu1, u1_2, u1_0_l) => [treeF TS_FactD 55 3 (.slice qp0 qn1 qc2) u1_0_l]) (N, 0, l0) hm [2,0] rfl (asK [] rfl) rfl (fun s_ hm => ?_)))))))
  obtain ⟨nu1, u1_2, u1_0_l⟩ := s_
  try dsimp only at hm ⊢
  obtain ⟨mu1, bu1, hnu1, hq, hLu1⟩ := iter_some hm
  clear hm
  subst hnu1
  replace hm := hq
  clear hq
  unfold m_ropewalkkit_OverFacts_V_L1 at hm
  try dsimp only at hm
  refine wc_seq (wc_seq (wc_region (wP rfl (wP rfl (wN rfl tE_26 (wP rfl (wl_as (d := 8) (v' := .bool (decide (u1_2 < k1))) (S' := [_,_,_,_,_]) rfl rfl (natlt (a := u1_2) (b := k1)) (wl_nil (we_then (wc_keep [8,2,0] (S' := [_,_,_]) rfl ?_))))))))))
  refine wc_cond rfl (fun hb8 => ?_) (fun hb8 => ?_)
  ·
   replace hm := iteT hm hb8
   refine wc_keep [2,0] (S' := [_,_]) rfl (wc_skip (we_then (wc_seq (wc_block (wc_region (wP rfl (wP rfl (wl_treeOut 0 rfl (fun zz13 hzz13 => ?_)))))))))
   obtain ⟨x13, hx13, hm⟩ := bindO_some hm
   obtain ⟨rr13, hrr13⟩ := zip_at hzz13 hx13
   obtain ⟨hq13, hm⟩ := gd_some hm
   refine wl_indexS 1 u1_2 rfl rfl rfl (freshS_eq rfl) rfl rfl rfl rfl rfl hq13 (get_lt hrr13) tE_26 tS_55 (fun g13 eg13 => ?_)
   subst eg13
   refine wl_sh [.own 149 3 R_V (.slice rr13.1 ((x13.args ++ x13.argsT).length) rr13.2) (x13.args ++ x13.argsT), bagF TS_FactD zz13 (some u1_2), _] (fun _ h => h.bagOpen 0 u1_2 rfl hrr13) (wl_loadRow pair_opens 2 u1_2 0 rfl rfl rfl (freshS_eq rfl) rfl rfl rfl hrr13 tS_55 tA_55 (v := fun _ => .agg #[.int .i64 (x13.id), .int .i64 (x13.ty), .slice rr13.1 x13.args.length rr13.2]) (fun _ => rfl) (fun _ => rfl) (fun _ _ => ?_))
   obtain ⟨v15, hc15, hm⟩ := bindO_some hm
   refine wC [0] [1,2] rfl fn_102 rfl (w_ropewalkkit_OverFact_V_s N x13.id x13.ty rr13.1 ((x13.args ++ x13.argsT).length) rr13.2 (x13.args ++ x13.argsT) x13.args.length _ hc15) (asK [] rfl) rfl (H' := [_,_]) rfl ?_
   rintro _ _ _ ⟨rfl, rfl, rfl⟩
   refine wl_nil (we_block_normal (we_then (wc_keep [2,0] (S' := [_,_]) rfl (wc_region (wP rfl (wP rfl ?_))))))
   obtain ⟨hg10, hm⟩ := gd_some hm
   refine wl_as (d := 10) (v' := .int .i64 ((u1_2 + 1 : Nat) : Int)) (S' := [_,_,_]) rfl rfl (nat_add (a := u1_2) (b := 1) hg10) (wl_pure (S' := [_,_,_]) rfl rfl rfl rfl rfl (wl_nil ?_))
   have hE := (Option.some.inj hm).symm
   replace hE := link_inl hLu1 hE
   refine we_ownLen 0 rfl (fun hz2 _ => (we_hAs 0 (φ' := .own 149 3 R_V (.slice rr13.1 v15.length rr13.2) v15) rfl (by rw [hz2]) (H' := [_,_,_]) rfl ?_))
   have hzn3 : (v15.take x13.args.length).length = x13.args.length := take_len (by first | (have hh := congrArg (· + 0) hz2; simp only [List.length_append, List.length_set, List.length_take] at hh ⊢; omega) | (simp only [List.length_append, List.length_set, List.length_take]; omega))
   refine we_hAs 0 (φ' := .own 149 3 R_V (.slice rr13.1 ((v15.take x13.args.length ++ v15.drop x13.args.length).length) rr13.2) (v15.take x13.args.length ++ v15.drop x13.args.length)) rfl (by rw [List.take_append_drop]) (H' := [.own 149 3 R_V (.slice rr13.1 ((v15.take x13.args.length ++ v15.drop x13.args.length).length) rr13.2) (v15.take x13.args.length ++ v15.drop x13.args.length), bagF TS_FactD zz13 (some u1_2), .own 55 3 TS_FactD.pair (.slice (some ⟨g13,0, none⟩) qn1 qc2) zz13]) rfl (we_sh [_,_, .own 55 3 TS_FactD.pair (.slice (some ⟨g13,0, none⟩) qn1 qc2) (zz13.set u1_2 ((⟨x13.id, x13.ty, v15.take x13.args.length, v15.drop x13.args.length⟩ : FactDS), rr13))] (fun _ h => h.pairAs (zs := zz13) (x := x13) (r := rr13) 2 rfl hrr13 (by show CS_FactD _ _ = CS_FactD _ _; simp only [CS_FactD, hzn3])) (we_sh [bagF TS_FactD (zz13.set u1_2 ((⟨x13.id, x13.ty, v15.take x13.args.length, v15.drop x13.args.length⟩ : FactDS), rr13)) none, _] (fun _ h => Holds.bagClose (T := TS_FactD) (x := (⟨x13.id, x13.ty, v15.take x13.args.length, v15.drop x13.args.length⟩ : FactDS)) (r := rr13) (i := u1_2) (zs := zz13) (H := [_,_]) h 0 rfl) ?_))
   have hzs4 : List.map (fun x : FactDS × (Option Addr × Nat) => x.1) (zz13.set u1_2 ((⟨x13.id, x13.ty, v15.take x13.args.length, v15.drop x13.args.length⟩ : FactDS), rr13)) = u1_0_l.set u1_2 (⟨x13.id, x13.ty, v15.take x13.args.length, v15.drop x13.args.length⟩ : FactDS) := pair_set hzz13
   refine we_sh [treeF TS_FactD 55 3 (.slice (some ⟨g13,0, none⟩) qn1 qc2) (u1_0_l.set u1_2 (⟨x13.id, x13.ty, v15.take x13.args.length, v15.drop x13.args.length⟩ : FactDS))] (fun _ h => h.treeIn 1 0 rfl rfl rfl hzs4) ?_
   refine we_roundK (_, u1_2 + 1, (u1_0_l.set u1_2 (⟨x13.id, x13.ty, v15.take x13.args.length, v15.drop x13.args.length⟩ : FactDS))) (Nat.lt_succ_self _) hE [2,0] rfl (asK [] rfl) rfl
  ·
   replace hm := iteF hm hb8
   refine wc_keep [0] (S' := [_]) rfl (wc_exit (we_then_exit (we_then_exit (we_block_hit ?_))))
   have hE := (Option.some.inj hm).symm
   replace hE := link_inr hLu1 hE
   refine we_join u1_0_l hE [0] rfl (asK [] rfl) rfl
 ·
  rintro j_1_0_l hE
  try dsimp only
  have hm := hLj_1
  rw [hE] at hm
  refine wc_seq (wc_region (wP rfl (wP rfl (wN rfl tE_26 (wP rfl ?_)))))
  obtain ⟨hg19, hm⟩ := gd_some hm
  refine wl_as (d := 19) (v' := .int .i64 ((k1 + 12 : Nat) : Int)) (S' := [_,_,_,_]) rfl rfl (nat_add (a := k1) (b := 12) hg19) ?_
  obtain ⟨hg20, hm⟩ := gd_some hm
  refine wl_treeOut 0 rfl (fun zz20 hzz20 => ?_)
  have hgt20 : k1 + 12 ≤ zz20.length := by rw [pair_len hzz20]; exact hg20
  refine wl_ownSpot 1 rfl (fun hsp20 hcm20 => (wl_sliceTo rfl rfl rfl (freshS_eq rfl) rfl rfl rfl rfl tE_26 tS_55 (Nat.le_trans hgt20 (by rw [← hcm20.2]; exact hcm20.1)) hsp20 (wP rfl (wl_nil (we_then (wc_keep [3] (S' := [_]) rfl (wc_seq (wc_region (wP rfl (wl_nil (we_then (wc_block (wc_sh [treeF TS_FactD 55 3 (.slice qp0 qn1 qc2) j_1_0_l] (fun _ h => h.treeIn 1 0 rfl rfl rfl hzz20) (wc_loop (σ := Nat × Nat × (List FactDS)) (fun (nu2, u2_4, u2_3_l) => iter (m_ropewalkkit_OverFacts_V_L2 N k1) nu2 (u2_4, u2_3_l) = some o0) (fun (nu2, u2_4, u2_3_l) => nu2) (fun (nu2, u2_4, u2_3_l) => [(4, .int .i64 ((u2_4 : Nat) : Int)), (3, .slice qp0 (k1 + 12) qc2)]) (fun (nu2, u2_4, u2_3_l) => []) (fun (nu2, u2_4, u2_3_l) => [treeF TS_FactD 55 3 (.slice qp0 qn1 qc2) u2_3_l]) (N, 0, j_1_0_l) hm [4,3] rfl (asK [] rfl) rfl (fun s_ hm => ?_)))))))))))))))
  obtain ⟨nu2, u2_4, u2_3_l⟩ := s_
  try dsimp only at hm ⊢
  obtain ⟨mu2, bu2, hnu2, hq, hLu2⟩ := iter_some hm
  clear hm
  subst hnu2
  replace hm := hq
  clear hq
  unfold m_ropewalkkit_OverFacts_V_L2 at hm
  try dsimp only at hm
  refine wc_seq (wc_seq (wc_region (wP rfl (wP rfl (wN rfl tE_26 (wP rfl (wl_as (d := 24) (v' := .bool (decide (u2_4 < (k1 + 12)))) (S' := [_,_,_,_,_]) rfl rfl (natlt (a := u2_4) (b := k1 + 12)) (wl_nil (we_then (wc_keep [24,4,3] (S' := [_,_,_]) rfl ?_))))))))))
  refine wc_cond rfl (fun hb24 => ?_) (fun hb24 => ?_)
  ·
   replace hm := iteT hm hb24
   refine wc_keep [4,3] (S' := [_,_]) rfl (wc_skip (we_then (wc_seq (wc_block (wc_region (wP rfl (wP rfl (wP rfl ?_))))))))
   obtain ⟨_, hc30, hm⟩ := bindO_some hm
   try dsimp only at hm
   refine wC [] [0] rfl fn_96 rfl (w_ropewalkkit_markFact_s N 2 ((u2_4 : Nat) : Int) hc30) (asK [] rfl) rfl (H' := [_]) rfl ?_
   rintro _ _ _ ⟨rfl, rfl, rfl⟩
   refine wl_treeOut 0 rfl (fun zz31 hzz31 => ?_)
   obtain ⟨x31, hx31, hm⟩ := bindO_some hm
   obtain ⟨rr31, hrr31⟩ := zip_at hzz31 hx31
   obtain ⟨hq31, hm⟩ := gd_some hm
   refine wl_indexS 1 u2_4 rfl rfl rfl (freshS_eq rfl) rfl rfl rfl rfl rfl hq31 (get_lt hrr31) tE_26 tS_55 (fun g31 eg31 => ?_)
   subst eg31
   refine wl_sh [.own 149 3 R_V (.slice rr31.1 ((x31.args ++ x31.argsT).length) rr31.2) (x31.args ++ x31.argsT), bagF TS_FactD zz31 (some u2_4), _] (fun _ h => h.bagOpen 0 u2_4 rfl hrr31) (wl_rowNil 149 3 R_V (wl_hAs 0 (φ' := .own 149 3 R_V (.slice none ((([] : List V) ++ []).length) 0) (([] : List V) ++ [])) rfl rfl (H' := [_,_,_,_]) rfl (wl_storeRow (u := ((⟨(IntKind.wrap .i64 ((IntKind.wrap .i64 (1000003 * (IntKind.wrap .i64 (2 + 7)))) + ((u2_4 : Nat) : Int))), 0, ([] : List V), []⟩ : FactDS), (none, 0))) 3 u2_4 rfl rfl rfl rfl rfl (get_lt hrr31) rfl rfl tS_55 rfl (fun _ _ _ => rfl) (H' := [_,_,_,_]) rfl ?_)))
   have hrs10 : (zz31.set u2_4 ((⟨(IntKind.wrap .i64 ((IntKind.wrap .i64 (1000003 * (IntKind.wrap .i64 (2 + 7)))) + ((u2_4 : Nat) : Int))), 0, ([] : List V), []⟩ : FactDS), (none, 0)))[u2_4]? = some ((⟨(IntKind.wrap .i64 ((IntKind.wrap .i64 (1000003 * (IntKind.wrap .i64 (2 + 7)))) + ((u2_4 : Nat) : Int))), 0, ([] : List V), []⟩ : FactDS), (none, 0)) := set_atZ hrr31
   have hzs10 : List.map (fun x : FactDS × (Option Addr × Nat) => x.1) (zz31.set u2_4 ((⟨(IntKind.wrap .i64 ((IntKind.wrap .i64 (1000003 * (IntKind.wrap .i64 (2 + 7)))) + ((u2_4 : Nat) : Int))), 0, ([] : List V), []⟩ : FactDS), (none, 0))) = u2_3_l.set u2_4 (⟨(IntKind.wrap .i64 ((IntKind.wrap .i64 (1000003 * (IntKind.wrap .i64 (2 + 7)))) + ((u2_4 : Nat) : Int))), 0, ([] : List V), []⟩ : FactDS) := pair_set hzz31
   refine wl_nil (we_block_normal (we_then (wc_keep [4,3] (S' := [_,_]) rfl (wc_region (wP rfl (wP rfl ?_))))))
   obtain ⟨hg26, hm⟩ := gd_some hm
   refine wl_as (d := 26) (v' := .int .i64 ((u2_4 + 1 : Nat) : Int)) (S' := [_,_,_]) rfl rfl (nat_add (a := u2_4) (b := 1) hg26) (wl_pure (S' := [_,_,_]) rfl rfl rfl rfl rfl (wl_nil ?_))
   have hE := (Option.some.inj hm).symm
   replace hE := link_inl hLu2 hE
   refine we_sh [_, bagF TS_FactD (zz31.set u2_4 ((⟨(IntKind.wrap .i64 ((IntKind.wrap .i64 (1000003 * (IntKind.wrap .i64 (2 + 7)))) + ((u2_4 : Nat) : Int))), 0, ([] : List V), []⟩ : FactDS), (none, 0))) none, _] (fun _ h => Holds.bagClose (T := TS_FactD) (x := (⟨(IntKind.wrap .i64 ((IntKind.wrap .i64 (1000003 * (IntKind.wrap .i64 (2 + 7)))) + ((u2_4 : Nat) : Int))), 0, ([] : List V), []⟩ : FactDS)) (r := (none, 0)) (i := u2_4) (zs := zz31) (H := [_,_,_]) h 1 rfl) ?_
   have hzs11 : List.map (fun x : FactDS × (Option Addr × Nat) => x.1) (zz31.set u2_4 ((⟨(IntKind.wrap .i64 ((IntKind.wrap .i64 (1000003 * (IntKind.wrap .i64 (2 + 7)))) + ((u2_4 : Nat) : Int))), 0, ([] : List V), []⟩ : FactDS), (none, 0))) = u2_3_l.set u2_4 (⟨(IntKind.wrap .i64 ((IntKind.wrap .i64 (1000003 * (IntKind.wrap .i64 (2 + 7)))) + ((u2_4 : Nat) : Int))), 0, ([] : List V), []⟩ : FactDS) := pair_set hzz31
   refine we_sh [_, treeF TS_FactD 55 3 (.slice (some ⟨g31,0, none⟩) qn1 qc2) (u2_3_l.set u2_4 (⟨(IntKind.wrap .i64 ((IntKind.wrap .i64 (1000003 * (IntKind.wrap .i64 (2 + 7)))) + ((u2_4 : Nat) : Int))), 0, ([] : List V), []⟩ : FactDS))] (fun _ h => h.treeIn 2 1 rfl rfl rfl hzs11) (we_pick [1] rfl (H' := [_]) rfl ?_)
   refine we_roundK (_, u2_4 + 1, (u2_3_l.set u2_4 (⟨(IntKind.wrap .i64 ((IntKind.wrap .i64 (1000003 * (IntKind.wrap .i64 (2 + 7)))) + ((u2_4 : Nat) : Int))), 0, ([] : List V), []⟩ : FactDS))) (Nat.lt_succ_self _) hE [4,3] rfl (asK [] rfl) rfl
  ·
   replace hm := iteF hm hb24
   refine wc_keep [] (S' := []) rfl (wc_exit (we_then_exit (we_then_exit (we_block_hit ?_))))
   have hE := (Option.some.inj hm).symm
   replace hE := link_inr hLu2 hE
   replace hE := hE.symm
   subst hE
   refine ret_none (Hr := [_]) [0] Tryz.results57 ⟨rfl, rfl, rfl⟩ (asK [] rfl) rfl rfl (.inr rfl)
theorem w_ropewalkkit_OverReply_V_s (N : Nat) (a0 : Int) (a1 : Int) (qp0 : Option Addr) (qn1 : Nat) (qc2 : Nat) (l2 : List FactDS) (k3 : Nat) (qp3 : Option Addr) (qn4 : Nat) (qc5 : Nat) (l4 : List V) (k5 : Nat) (o0 : List FactDS) (o1 : List V) (hm : m_ropewalkkit_OverReply_V N a0 a1 l2 k3 l4 k5 = some (o0, o1)) : Spec Tryz.prog 36 [.agg #[.int .i64 a0, .int .i64 a1, .slice qp0 k3 qc2, .slice qp3 k5 qc5]] [] [treeF TS_FactD 55 3 (.slice qp0 qn1 qc2) l2, .own 149 3 R_V (.slice qp3 qn4 qc5) l4] (fun v Φr Hr => v = .tuple #[] ∧ Φr = [] ∧ Hr = [treeF TS_FactD 55 3 (.slice qp0 qn1 qc2) o0, .own 149 3 R_V (.slice qp3 qn4 qc5) o1]) := by
 unfold m_ropewalkkit_OverReply_V at hm
 refine spec_of Tryz.func36 rfl Tryz.ntmps36 rfl (S := [_]) rfl (fun C => (wc_seq (wc_region (wB rfl (fun g1 => (wl_nil (we_then (wc_keep [1] (S' := [_]) rfl (wc_seq (wc_region (wF rfl tF_29_2 (wD 0 2 rfl tS_26 tA_26 rfl (wl_treeLen 1 rfl (fun hzt2 _ => ?_))))))))))))))
 subst hzt2
 obtain ⟨v4, hc4, hm⟩ := bindO_some hm
 refine wC [1] [0,2] rfl fn_57 rfl (w_ropewalkkit_OverFacts_V_s N qp0 l2.length qc2 l2 k3 _ hc4) (asK [] rfl) rfl (H' := [_,_]) rfl ?_
 rintro _ _ _ ⟨rfl, rfl, rfl⟩
 refine wl_nil (we_then (wc_keep [1] (S' := [_]) rfl (wc_region (wF rfl tF_29_3 (wD 1 3 rfl tS_27 tA_27 rfl (wl_ownLen 2 rfl (fun hzqn4 _ => ?_)))))))
 subst hzqn4
 obtain ⟨v7, hc7, hm⟩ := bindO_some hm
 refine wC [2] [0,1] rfl fn_58 rfl (w_ropewalkkit_OverValues_V_s N qp3 l4.length qc5 l4 k5 _ hc7) (asK [] rfl) rfl (H' := [_,_]) rfl ?_
 rintro _ _ _ ⟨rfl, rfl, rfl⟩
 refine wl_nil ?_
 have hE := (Option.some.inj hm).symm
 obtain ⟨hE0, hE1⟩ := Prod.mk.inj hE
 clear hE
 replace hE0 := hE0.symm
 subst hE0
 replace hE1 := hE1.symm
 subst hE1
 refine ret_none (Hr := [_,_]) [1,0] Tryz.results36 ⟨rfl, rfl, rfl⟩ (asK [] rfl) rfl rfl (.inr rfl)
theorem w_ropewalkkit_OverSession_V_s (N : Nat) (a0 : Int) (a1 : Int) (a2 : Int) (a3 : Int) (qp0 : Option Addr) (qn1 : Nat) (qc2 : Nat) (l4 : List FactDS) (k5 : Nat) (qp3 : Option Addr) (qn4 : Nat) (qc5 : Nat) (l6 : List V) (k7 : Nat) (o0 : List FactDS) (o1 : List V) (hm : m_ropewalkkit_OverSession_V N a0 a1 a2 a3 l4 k5 l6 k7 = some (o0, o1)) : Spec Tryz.prog 29 [.agg #[.int .i64 a0, .int .i64 a1, .int .i64 a2, .int .i64 a3, .slice qp0 k5 qc2, .slice qp3 k7 qc5]] [] [treeF TS_FactD 55 3 (.slice qp0 qn1 qc2) l4, .own 149 3 R_V (.slice qp3 qn4 qc5) l6] (fun v Φr Hr => v = .tuple #[] ∧ Φr = [] ∧ Hr = [treeF TS_FactD 55 3 (.slice qp0 qn1 qc2) o0, .own 149 3 R_V (.slice qp3 qn4 qc5) o1]) := by
 unfold m_ropewalkkit_OverSession_V at hm
 refine spec_of Tryz.func29 rfl Tryz.ntmps29 rfl (S := [_]) rfl (fun C => (wc_seq (wc_region (wB rfl (fun g1 => (wl_nil (we_then (wc_keep [1] (S' := [_]) rfl (wc_region (wF rfl tF_31_2 (wl_loadH 0 2 rfl rfl rfl (freshS_eq rfl) rfl rfl rfl (cs := [_,_,_,_]) rfl tS_29 tA_29 rfl rfl (wl_treeLen 1 rfl (fun hzt1 _ => ?_)))))))))))))
 subst hzt1
 refine wl_ownLen 2 rfl (fun hzqn4 _ => ?_)
 subst hzqn4
 obtain ⟨⟨v4_0, v4_1⟩, hc4, hm⟩ := bindO_some hm
 try dsimp only at hm
 refine wC [1,2] [0] rfl fn_36 rfl (w_ropewalkkit_OverReply_V_s N a2 a3 qp0 l4.length qc2 l4 k5 qp3 l6.length qc5 l6 k7 _ _ hc4) (asK [] rfl) rfl (H' := [_]) rfl ?_
 rintro _ _ _ ⟨rfl, rfl, rfl⟩
 refine wl_nil ?_
 have hE := (Option.some.inj hm).symm
 obtain ⟨hE0, hE1⟩ := Prod.mk.inj hE
 clear hE
 replace hE0 := hE0.symm
 subst hE0
 replace hE1 := hE1.symm
 subst hE1
 refine ret_none (Hr := [_,_]) [0,1] Tryz.results29 ⟨rfl, rfl, rfl⟩ (asK [] rfl) rfl rfl (.inr rfl)
theorem w_ropewalkkit_OverSessions_V_s (N : Nat) (qp0 : Option Addr) (qn1 : Nat) (qc2 : Nat) (l0 : List SessDS) (k1 : Nat) (o0 : List SessDS) (hm : m_ropewalkkit_OverSessions_V N l0 k1 = some o0) : Spec Tryz.prog 13 [.slice qp0 k1 qc2] [] [treeF TS_SessD 31 6 (.slice qp0 qn1 qc2) l0] (fun v Φr Hr => v = .tuple #[] ∧ Φr = [] ∧ Hr = [treeF TS_SessD 31 6 (.slice qp0 qn1 qc2) o0]) := by
 unfold m_ropewalkkit_OverSessions_V at hm
 refine spec_of Tryz.func13 rfl Tryz.ntmps13 rfl (S := [_]) rfl (fun C => (wc_seq ?_))
 obtain ⟨bj_1, hm, hLj_1⟩ := bindO_some hm
 refine wc_cut (σ := List SessDS) (fun j_1_0_l => bj_1 = j_1_0_l) (fun j_1_0_l => [(0, .slice qp0 k1 qc2)]) (fun j_1_0_l => []) (fun j_1_0_l => [treeF TS_SessD 31 6 (.slice qp0 qn1 qc2) j_1_0_l]) ?_ ?_
 ·
  refine wc_seq (wc_region (wP rfl (wl_nil (we_then (wc_block (wc_loop (σ := Nat × Nat × (List SessDS)) (fun (nu1, u1_2, u1_0_l) => iter (m_ropewalkkit_OverSessions_V_L1 N k1) nu1 (u1_2, u1_0_l) = some bj_1) (fun (nu1, u1_2, u1_0_l) => nu1) (fun (nu1, u1_2, u1_0_l) => [(2, .int .i64 ((u1_2 : Nat) : Int)), (0, .slice qp0 k1 qc2)]) (fun (nu1, u1_2, u1_0_l) => []) (fun (nu1, u1_2, u1_0_l) => [treeF TS_SessD 31 6 (.slice qp0 qn1 qc2) u1_0_l]) (N, 0, l0) hm [2,0] rfl (asK [] rfl) rfl (fun s_ hm => ?_)))))))
  obtain ⟨nu1, u1_2, u1_0_l⟩ := s_
  try dsimp only at hm ⊢
  obtain ⟨mu1, bu1, hnu1, hq, hLu1⟩ := iter_some hm
  clear hm
  subst hnu1
  replace hm := hq
  clear hq
  unfold m_ropewalkkit_OverSessions_V_L1 at hm
  try dsimp only at hm
  refine wc_seq (wc_seq (wc_region (wP rfl (wP rfl (wN rfl tE_22 (wP rfl (wl_as (d := 8) (v' := .bool (decide (u1_2 < k1))) (S' := [_,_,_,_,_]) rfl rfl (natlt (a := u1_2) (b := k1)) (wl_nil (we_then (wc_keep [8,2,0] (S' := [_,_,_]) rfl ?_))))))))))
  refine wc_cond rfl (fun hb8 => ?_) (fun hb8 => ?_)
  ·
   replace hm := iteT hm hb8
   refine wc_keep [2,0] (S' := [_,_]) rfl (wc_skip (we_then (wc_seq (wc_block (wc_region (wP rfl (wP rfl (wl_treeOut 0 rfl (fun zz13 hzz13 => ?_)))))))))
   obtain ⟨x13, hx13, hm⟩ := bindO_some hm
   obtain ⟨rr13, hrr13⟩ := zip_at hzz13 hx13
   obtain ⟨hq13, hm⟩ := gd_some hm
   refine wl_indexS 1 u1_2 rfl rfl rfl (freshS_eq rfl) rfl rfl rfl rfl rfl hq13 (get_lt hrr13) tE_22 tS_31 (fun g13 eg13 => ?_)
   subst eg13
   refine wl_sh [.own 149 3 R_V (.slice rr13.2.1 ((x13.r.said ++ x13.r.saidT).length) rr13.2.2) (x13.r.said ++ x13.r.saidT), treeF TS_FactD 55 3 (.slice rr13.1.1 ((x13.r.facts ++ x13.r.factsT).length) rr13.1.2) (x13.r.facts ++ x13.r.factsT), bagF TS_SessD zz13 (some u1_2), _] (fun _ h => h.bagOpen 0 u1_2 rfl hrr13) (wl_loadRow pair_opens 3 u1_2 0 rfl rfl rfl (freshS_eq rfl) rfl rfl rfl hrr13 tS_31 tA_31 (v := fun _ => .agg #[.int .i64 (x13.id), .int .i64 (x13.seq), .int .i64 (x13.r.err), .int .i64 (x13.r.num), .slice rr13.1.1 x13.r.facts.length rr13.1.2, .slice rr13.2.1 x13.r.said.length rr13.2.2]) (fun _ => rfl) (fun _ => rfl) (fun _ _ => ?_))
   obtain ⟨⟨v15_0, v15_1⟩, hc15, hm⟩ := bindO_some hm
   try dsimp only at hm
   refine wC [1,0] [2,3] rfl fn_29 rfl (w_ropewalkkit_OverSession_V_s N x13.id x13.seq x13.r.err x13.r.num rr13.1.1 ((x13.r.facts ++ x13.r.factsT).length) rr13.1.2 (x13.r.facts ++ x13.r.factsT) x13.r.facts.length rr13.2.1 ((x13.r.said ++ x13.r.saidT).length) rr13.2.2 (x13.r.said ++ x13.r.saidT) x13.r.said.length _ _ hc15) (asK [] rfl) rfl (H' := [_,_]) rfl ?_
   rintro _ _ _ ⟨rfl, rfl, rfl⟩
   refine wl_nil (we_block_normal (we_then (wc_keep [2,0] (S' := [_,_]) rfl (wc_region (wP rfl (wP rfl ?_))))))
   obtain ⟨hg10, hm⟩ := gd_some hm
   refine wl_as (d := 10) (v' := .int .i64 ((u1_2 + 1 : Nat) : Int)) (S' := [_,_,_]) rfl rfl (nat_add (a := u1_2) (b := 1) hg10) (wl_pure (S' := [_,_,_]) rfl rfl rfl rfl rfl (wl_nil ?_))
   have hE := (Option.some.inj hm).symm
   replace hE := link_inl hLu1 hE
   refine we_treeLen 0 rfl (fun hzt3 _ => (we_hAs 0 (φ' := treeF TS_FactD 55 3 (.slice rr13.1.1 v15_0.length rr13.1.2) v15_0) rfl (by rw [hzt3]) (H' := [treeF TS_FactD 55 3 (.slice rr13.1.1 v15_0.length rr13.1.2) v15_0, .own 149 3 R_V (.slice rr13.2.1 ((x13.r.said ++ x13.r.saidT).length) rr13.2.2) v15_1, bagF TS_SessD zz13 (some u1_2), .own 31 6 TS_SessD.pair (.slice (some ⟨g13,0, none⟩) qn1 qc2) zz13]) rfl (we_ownLen 1 rfl (fun hz4 _ => (we_hAs 1 (φ' := .own 149 3 R_V (.slice rr13.2.1 v15_1.length rr13.2.2) v15_1) rfl (by rw [hz4]) (H' := [_,_,_,_]) rfl ?_)))))
   have hzn4 : (v15_0.take x13.r.facts.length).length = x13.r.facts.length := take_len (by first | (have hh := congrArg (· + 0) hzt3; simp only [List.length_append, List.length_set, List.length_take] at hh ⊢; omega) | (simp only [List.length_append, List.length_set, List.length_take]; omega))
   refine we_hAs 0 (φ' := treeF TS_FactD 55 3 (.slice rr13.1.1 ((v15_0.take x13.r.facts.length ++ v15_0.drop x13.r.facts.length).length) rr13.1.2) (v15_0.take x13.r.facts.length ++ v15_0.drop x13.r.facts.length)) rfl (by rw [List.take_append_drop]) (H' := [treeF TS_FactD 55 3 (.slice rr13.1.1 ((v15_0.take x13.r.facts.length ++ v15_0.drop x13.r.facts.length).length) rr13.1.2) (v15_0.take x13.r.facts.length ++ v15_0.drop x13.r.facts.length), .own 149 3 R_V (.slice rr13.2.1 v15_1.length rr13.2.2) v15_1, bagF TS_SessD zz13 (some u1_2), .own 31 6 TS_SessD.pair (.slice (some ⟨g13,0, none⟩) qn1 qc2) zz13]) rfl ?_
   have hzn5 : (v15_1.take x13.r.said.length).length = x13.r.said.length := take_len (by first | (have hh := congrArg (· + 0) hz4; simp only [List.length_append, List.length_set, List.length_take] at hh ⊢; omega) | (simp only [List.length_append, List.length_set, List.length_take]; omega))
   refine we_hAs 1 (φ' := .own 149 3 R_V (.slice rr13.2.1 ((v15_1.take x13.r.said.length ++ v15_1.drop x13.r.said.length).length) rr13.2.2) (v15_1.take x13.r.said.length ++ v15_1.drop x13.r.said.length)) rfl (by rw [List.take_append_drop]) (H' := [treeF TS_FactD 55 3 (.slice rr13.1.1 ((v15_0.take x13.r.facts.length ++ v15_0.drop x13.r.facts.length).length) rr13.1.2) (v15_0.take x13.r.facts.length ++ v15_0.drop x13.r.facts.length), .own 149 3 R_V (.slice rr13.2.1 ((v15_1.take x13.r.said.length ++ v15_1.drop x13.r.said.length).length) rr13.2.2) (v15_1.take x13.r.said.length ++ v15_1.drop x13.r.said.length), bagF TS_SessD zz13 (some u1_2), .own 31 6 TS_SessD.pair (.slice (some ⟨g13,0, none⟩) qn1 qc2) zz13]) rfl (we_sh [_,_,_, .own 31 6 TS_SessD.pair (.slice (some ⟨g13,0, none⟩) qn1 qc2) (zz13.set u1_2 ((⟨x13.id, x13.seq, (⟨x13.r.err, x13.r.num, v15_0.take x13.r.facts.length, v15_0.drop x13.r.facts.length, v15_1.take x13.r.said.length, v15_1.drop x13.r.said.length⟩ : ReplyDS)⟩ : SessDS), rr13))] (fun _ h => h.pairAs (zs := zz13) (x := x13) (r := rr13) 3 rfl hrr13 (by show CS_SessD _ _ = CS_SessD _ _; simp only [CS_SessD, hzn4, hzn5])) (we_pick [1,0,2,3] rfl (H' := [_,_,_,_]) rfl (we_sh [bagF TS_SessD (zz13.set u1_2 ((⟨x13.id, x13.seq, (⟨x13.r.err, x13.r.num, v15_0.take x13.r.facts.length, v15_0.drop x13.r.facts.length, v15_1.take x13.r.said.length, v15_1.drop x13.r.said.length⟩ : ReplyDS)⟩ : SessDS), rr13)) none, _] (fun _ h => Holds.bagClose (T := TS_SessD) (x := (⟨x13.id, x13.seq, (⟨x13.r.err, x13.r.num, v15_0.take x13.r.facts.length, v15_0.drop x13.r.facts.length, v15_1.take x13.r.said.length, v15_1.drop x13.r.said.length⟩ : ReplyDS)⟩ : SessDS)) (r := rr13) (i := u1_2) (zs := zz13) (H := [_,_]) h 0 rfl) ?_)))
   have hzs6 : List.map (fun x : SessDS × ((Option Addr × Nat) × (Option Addr × Nat)) => x.1) (zz13.set u1_2 ((⟨x13.id, x13.seq, (⟨x13.r.err, x13.r.num, v15_0.take x13.r.facts.length, v15_0.drop x13.r.facts.length, v15_1.take x13.r.said.length, v15_1.drop x13.r.said.length⟩ : ReplyDS)⟩ : SessDS), rr13)) = u1_0_l.set u1_2 (⟨x13.id, x13.seq, (⟨x13.r.err, x13.r.num, v15_0.take x13.r.facts.length, v15_0.drop x13.r.facts.length, v15_1.take x13.r.said.length, v15_1.drop x13.r.said.length⟩ : ReplyDS)⟩ : SessDS) := pair_set hzz13
   refine we_sh [treeF TS_SessD 31 6 (.slice (some ⟨g13,0, none⟩) qn1 qc2) (u1_0_l.set u1_2 (⟨x13.id, x13.seq, (⟨x13.r.err, x13.r.num, v15_0.take x13.r.facts.length, v15_0.drop x13.r.facts.length, v15_1.take x13.r.said.length, v15_1.drop x13.r.said.length⟩ : ReplyDS)⟩ : SessDS))] (fun _ h => h.treeIn 1 0 rfl rfl rfl hzs6) ?_
   refine we_roundK (_, u1_2 + 1, (u1_0_l.set u1_2 (⟨x13.id, x13.seq, (⟨x13.r.err, x13.r.num, v15_0.take x13.r.facts.length, v15_0.drop x13.r.facts.length, v15_1.take x13.r.said.length, v15_1.drop x13.r.said.length⟩ : ReplyDS)⟩ : SessDS))) (Nat.lt_succ_self _) hE [2,0] rfl (asK [] rfl) rfl
  ·
   replace hm := iteF hm hb8
   refine wc_keep [0] (S' := [_]) rfl (wc_exit (we_then_exit (we_then_exit (we_block_hit ?_))))
   have hE := (Option.some.inj hm).symm
   replace hE := link_inr hLu1 hE
   refine we_join u1_0_l hE [0] rfl (asK [] rfl) rfl
 ·
  rintro j_1_0_l hE
  try dsimp only
  have hm := hLj_1
  rw [hE] at hm
  refine wc_seq (wc_region (wP rfl (wP rfl (wN rfl tE_22 (wP rfl ?_)))))
  obtain ⟨hg19, hm⟩ := gd_some hm
  refine wl_as (d := 19) (v' := .int .i64 ((k1 + 12 : Nat) : Int)) (S' := [_,_,_,_]) rfl rfl (nat_add (a := k1) (b := 12) hg19) ?_
  obtain ⟨hg20, hm⟩ := gd_some hm
  refine wl_treeOut 0 rfl (fun zz20 hzz20 => ?_)
  have hgt20 : k1 + 12 ≤ zz20.length := by rw [pair_len hzz20]; exact hg20
  refine wl_ownSpot 1 rfl (fun hsp20 hcm20 => (wl_sliceTo rfl rfl rfl (freshS_eq rfl) rfl rfl rfl rfl tE_22 tS_31 (Nat.le_trans hgt20 (by rw [← hcm20.2]; exact hcm20.1)) hsp20 (wP rfl (wl_nil (we_then (wc_keep [3] (S' := [_]) rfl (wc_seq (wc_region (wP rfl (wl_nil (we_then (wc_block (wc_sh [treeF TS_SessD 31 6 (.slice qp0 qn1 qc2) j_1_0_l] (fun _ h => h.treeIn 1 0 rfl rfl rfl hzz20) (wc_loop (σ := Nat × Nat × (List SessDS)) (fun (nu2, u2_4, u2_3_l) => iter (m_ropewalkkit_OverSessions_V_L2 N k1) nu2 (u2_4, u2_3_l) = some o0) (fun (nu2, u2_4, u2_3_l) => nu2) (fun (nu2, u2_4, u2_3_l) => [(4, .int .i64 ((u2_4 : Nat) : Int)), (3, .slice qp0 (k1 + 12) qc2)]) (fun (nu2, u2_4, u2_3_l) => []) (fun (nu2, u2_4, u2_3_l) => [treeF TS_SessD 31 6 (.slice qp0 qn1 qc2) u2_3_l]) (N, 0, j_1_0_l) hm [4,3] rfl (asK [] rfl) rfl (fun s_ hm => ?_)))))))))))))))
  obtain ⟨nu2, u2_4, u2_3_l⟩ := s_
  try dsimp only at hm ⊢
  obtain ⟨mu2, bu2, hnu2, hq, hLu2⟩ := iter_some hm
  clear hm
  subst hnu2
  replace hm := hq
  clear hq
  unfold m_ropewalkkit_OverSessions_V_L2 at hm
  try dsimp only at hm
  refine wc_seq (wc_seq (wc_region (wP rfl (wP rfl (wN rfl tE_22 (wP rfl (wl_as (d := 24) (v' := .bool (decide (u2_4 < (k1 + 12)))) (S' := [_,_,_,_,_]) rfl rfl (natlt (a := u2_4) (b := k1 + 12)) (wl_nil (we_then (wc_keep [24,4,3] (S' := [_,_,_]) rfl ?_))))))))))
  refine wc_cond rfl (fun hb24 => ?_) (fun hb24 => ?_)
  ·
   replace hm := iteT hm hb24
   refine wc_keep [4,3] (S' := [_,_]) rfl (wc_skip (we_then (wc_seq (wc_block (wc_region (wP rfl (wP rfl (wP rfl ?_))))))))
   obtain ⟨_, hc30, hm⟩ := bindO_some hm
   try dsimp only at hm
   refine wC [] [0] rfl fn_24 rfl (w_ropewalkkit_markSession_s N 2 ((u2_4 : Nat) : Int) hc30) (asK [] rfl) rfl (H' := [_]) rfl ?_
   rintro _ _ _ ⟨rfl, rfl, rfl⟩
   refine wl_treeOut 0 rfl (fun zz31 hzz31 => ?_)
   obtain ⟨x31, hx31, hm⟩ := bindO_some hm
   obtain ⟨rr31, hrr31⟩ := zip_at hzz31 hx31
   obtain ⟨hq31, hm⟩ := gd_some hm
   refine wl_indexS 1 u2_4 rfl rfl rfl (freshS_eq rfl) rfl rfl rfl rfl rfl hq31 (get_lt hrr31) tE_22 tS_31 (fun g31 eg31 => ?_)
   subst eg31
   refine wl_sh [.own 149 3 R_V (.slice rr31.2.1 ((x31.r.said ++ x31.r.saidT).length) rr31.2.2) (x31.r.said ++ x31.r.saidT), treeF TS_FactD 55 3 (.slice rr31.1.1 ((x31.r.facts ++ x31.r.factsT).length) rr31.1.2) (x31.r.facts ++ x31.r.factsT), bagF TS_SessD zz31 (some u2_4), _] (fun _ h => h.bagOpen 0 u2_4 rfl hrr31) (wl_sh [treeF TS_FactD 55 3 (.slice none 0 0) [],_,_,_,_] (fun _ h => h.treeNil TS_FactD 55 3) (wl_rowNil 149 3 R_V (wl_hAs 1 (φ' := treeF TS_FactD 55 3 (.slice none ((([] : List FactDS) ++ []).length) 0) (([] : List FactDS) ++ [])) rfl rfl (H' := [_,_,_,_,_,_]) rfl (wl_hAs 0 (φ' := .own 149 3 R_V (.slice none ((([] : List V) ++ []).length) 0) (([] : List V) ++ [])) rfl rfl (H' := [_,_,_,_,_,_]) rfl (wl_storeRow (u := ((⟨(IntKind.wrap .i64 ((IntKind.wrap .i64 (1000003 * (IntKind.wrap .i64 (2 + 7)))) + ((u2_4 : Nat) : Int))), 0, (⟨0,0, ([] : List FactDS), [], ([] : List V), []⟩ : ReplyDS)⟩ : SessDS), ((none, 0), (none, 0)))) 5 u2_4 rfl rfl rfl rfl rfl (get_lt hrr31) rfl rfl tS_31 rfl (fun _ _ _ => rfl) (H' := [_,_,_,_,_,_]) rfl ?_)))))
   have hrs12 : (zz31.set u2_4 ((⟨(IntKind.wrap .i64 ((IntKind.wrap .i64 (1000003 * (IntKind.wrap .i64 (2 + 7)))) + ((u2_4 : Nat) : Int))), 0, (⟨0,0, ([] : List FactDS), [], ([] : List V), []⟩ : ReplyDS)⟩ : SessDS), ((none, 0), (none, 0))))[u2_4]? = some ((⟨(IntKind.wrap .i64 ((IntKind.wrap .i64 (1000003 * (IntKind.wrap .i64 (2 + 7)))) + ((u2_4 : Nat) : Int))), 0, (⟨0,0, ([] : List FactDS), [], ([] : List V), []⟩ : ReplyDS)⟩ : SessDS), ((none, 0), (none, 0))) := set_atZ hrr31
   have hzs12 : List.map (fun x : SessDS × ((Option Addr × Nat) × (Option Addr × Nat)) => x.1) (zz31.set u2_4 ((⟨(IntKind.wrap .i64 ((IntKind.wrap .i64 (1000003 * (IntKind.wrap .i64 (2 + 7)))) + ((u2_4 : Nat) : Int))), 0, (⟨0,0, ([] : List FactDS), [], ([] : List V), []⟩ : ReplyDS)⟩ : SessDS), ((none, 0), (none, 0)))) = u2_3_l.set u2_4 (⟨(IntKind.wrap .i64 ((IntKind.wrap .i64 (1000003 * (IntKind.wrap .i64 (2 + 7)))) + ((u2_4 : Nat) : Int))), 0, (⟨0,0, ([] : List FactDS), [], ([] : List V), []⟩ : ReplyDS)⟩ : SessDS) := pair_set hzz31
   refine wl_nil (we_block_normal (we_then (wc_keep [4,3] (S' := [_,_]) rfl (wc_region (wP rfl (wP rfl ?_))))))
   obtain ⟨hg26, hm⟩ := gd_some hm
   refine wl_as (d := 26) (v' := .int .i64 ((u2_4 + 1 : Nat) : Int)) (S' := [_,_,_]) rfl rfl (nat_add (a := u2_4) (b := 1) hg26) (wl_pure (S' := [_,_,_]) rfl rfl rfl rfl rfl (wl_nil ?_))
   have hE := (Option.some.inj hm).symm
   replace hE := link_inl hLu2 hE
   refine we_sh [_,_, bagF TS_SessD (zz31.set u2_4 ((⟨(IntKind.wrap .i64 ((IntKind.wrap .i64 (1000003 * (IntKind.wrap .i64 (2 + 7)))) + ((u2_4 : Nat) : Int))), 0, (⟨0,0, ([] : List FactDS), [], ([] : List V), []⟩ : ReplyDS)⟩ : SessDS), ((none, 0), (none, 0)))) none, _] (fun _ h => Holds.bagClose (T := TS_SessD) (x := (⟨(IntKind.wrap .i64 ((IntKind.wrap .i64 (1000003 * (IntKind.wrap .i64 (2 + 7)))) + ((u2_4 : Nat) : Int))), 0, (⟨0,0, ([] : List FactDS), [], ([] : List V), []⟩ : ReplyDS)⟩ : SessDS)) (r := ((none, 0), (none, 0))) (i := u2_4) (zs := zz31) (H := [_,_,_,_]) h 2 rfl) ?_
   have hzs13 : List.map (fun x : SessDS × ((Option Addr × Nat) × (Option Addr × Nat)) => x.1) (zz31.set u2_4 ((⟨(IntKind.wrap .i64 ((IntKind.wrap .i64 (1000003 * (IntKind.wrap .i64 (2 + 7)))) + ((u2_4 : Nat) : Int))), 0, (⟨0,0, ([] : List FactDS), [], ([] : List V), []⟩ : ReplyDS)⟩ : SessDS), ((none, 0), (none, 0)))) = u2_3_l.set u2_4 (⟨(IntKind.wrap .i64 ((IntKind.wrap .i64 (1000003 * (IntKind.wrap .i64 (2 + 7)))) + ((u2_4 : Nat) : Int))), 0, (⟨0,0, ([] : List FactDS), [], ([] : List V), []⟩ : ReplyDS)⟩ : SessDS) := pair_set hzz31
   refine we_sh [_,_, treeF TS_SessD 31 6 (.slice (some ⟨g31,0, none⟩) qn1 qc2) (u2_3_l.set u2_4 (⟨(IntKind.wrap .i64 ((IntKind.wrap .i64 (1000003 * (IntKind.wrap .i64 (2 + 7)))) + ((u2_4 : Nat) : Int))), 0, (⟨0,0, ([] : List FactDS), [], ([] : List V), []⟩ : ReplyDS)⟩ : SessDS))] (fun _ h => h.treeIn 3 2 rfl rfl rfl hzs13) (we_pick [2] rfl (H' := [_]) rfl ?_)
   refine we_roundK (_, u2_4 + 1, (u2_3_l.set u2_4 (⟨(IntKind.wrap .i64 ((IntKind.wrap .i64 (1000003 * (IntKind.wrap .i64 (2 + 7)))) + ((u2_4 : Nat) : Int))), 0, (⟨0,0, ([] : List FactDS), [], ([] : List V), []⟩ : ReplyDS)⟩ : SessDS))) (Nat.lt_succ_self _) hE [4,3] rfl (asK [] rfl) rfl
  ·
   replace hm := iteF hm hb24
   refine wc_keep [] (S' := []) rfl (wc_exit (we_then_exit (we_then_exit (we_block_hit ?_))))
   have hE := (Option.some.inj hm).symm
   replace hE := link_inr hLu2 hE
   replace hE := hE.symm
   subst hE
   refine ret_none (Hr := [_]) [0] Tryz.results13 ⟨rfl, rfl, rfl⟩ (asK [] rfl) rfl rfl (.inr rfl)
theorem w_ropewalkkit_Pick_s (N : Nat) (a0 : Int) (a1 : Int) (o0 : Int) (hm : m_ropewalkkit_Pick N a0 a1 = some o0) : Spec Tryz.prog 30 [.int .i64 a0, .int .i64 a1] [] [] (fun v Φr Hr => v = .int .i64 o0 ∧ Φr = [] ∧ Hr = []) := by
 unfold m_ropewalkkit_Pick at hm
 refine spec_of Tryz.func30 rfl Tryz.ntmps30 rfl (S := [_,_]) rfl (fun C => (wc_seq (wc_region (wP rfl (wl_nil (we_then (wc_keep [0,1] (S' := [_,_]) rfl (wc_seq (wc_seq (wc_region (wP rfl (wP rfl (wl_nil (we_then ?_))))))))))))))
 refine wc_keep [6,0,1] (S' := [_,_,_]) rfl ?_
 refine wc_cond rfl (fun hb6 => ?_) (fun hb6 => ?_)
 ·
  replace hm := iteT hm hb6
  refine wc_keep [] (S' := []) rfl (wc_seq (wc_region (wP rfl (wl_nil (we_then (wc_ret (we_then_ret ?_)))))))
  have hE := (Option.some.inj hm).symm
  replace hE := hE.symm
  subst hE
  refine ret_one (Hr := []) [] Tryz.results30 (res_tmp rfl) ⟨rfl, rfl, rfl⟩ (asK [] rfl) rfl rfl (.inl rfl)
 ·
  replace hm := iteF hm hb6
  refine wc_keep [0,1] (S' := [_,_]) rfl (wc_skip (we_then (wc_seq (wc_region (wP rfl (wP rfl ?_))))))
  obtain ⟨hg9, hm⟩ := gd_some hm
  refine wl_bin rfl rfl rfl (freshS_eq rfl) rfl rfl rfl (run_rem hg9) (wl_pure (S' := [_,_,_,_]) rfl rfl rfl rfl rfl (wl_nil (we_then (wc_keep [0,1] (S' := [_,_]) rfl (wc_seq ?_)))))
  obtain ⟨bj_1, hm, hLj_1⟩ := bindO_some hm
  refine wc_cut (σ := Int) (fun j_1_0 => bj_1 = j_1_0) (fun j_1_0 => [(0, .int .i64 j_1_0)]) (fun j_1_0 => []) (fun j_1_0 => []) ?_ ?_
  ·
   refine wc_seq (wc_region (wP rfl (wP rfl (wl_nil (we_then (wc_keep [11,0,1] (S' := [_,_,_]) rfl ?_))))))
   refine wc_cond rfl (fun hb11 => ?_) (fun hb11 => ?_)
   ·
    replace hm := iteT hm hb11
    refine wc_keep [0,1] (S' := [_,_]) rfl (wc_region (wP rfl (wP rfl (wP rfl ?_))))
    obtain ⟨hg14, hm⟩ := gd_some hm
    refine wl_as (d := 14) (v' := .int .i64 ((Int.tmod a0 a1) + a1)) (S' := [_,_,_,_]) rfl rfl (i64_in hg14) (wl_pure (S' := [_,_,_,_]) rfl rfl rfl rfl rfl (wl_nil ?_))
    have hE := (Option.some.inj hm).symm
    refine we_join ((Int.tmod a0 a1) + a1) hE [0] rfl (asK [] rfl) rfl
   ·
    replace hm := iteF hm hb11
    refine wc_keep [0] (S' := [_]) rfl (wc_skip ?_)
    have hE := (Option.some.inj hm).symm
    refine we_join (Int.tmod a0 a1) hE [0] rfl (asK [] rfl) rfl
  ·
   rintro j_1_0 hE
   try dsimp only
   have hm := hLj_1
   rw [hE] at hm
   refine wc_seq (wc_region (wP rfl (wP rfl (wl_nil (we_then (wc_keep [4] (S' := [_]) rfl (wc_ret ?_)))))))
   have hE := (Option.some.inj hm).symm
   replace hE := hE.symm
   subst hE
   refine ret_one (Hr := []) [] Tryz.results30 (res_tmp rfl) ⟨rfl, rfl, rfl⟩ (asK [] rfl) rfl rfl (.inl rfl)
theorem w_session_Table_known_v2_s (N : Nat) (qg0 : Nat) (qp1 : Option Addr) (qn2 : Nat) (qc3 : Nat) (l0 : List SessD) (a1 : Int)  (hm : m_session_Table_known N l0 a1 = some ()) : Spec Tryz.prog 42 [.pointer (some ⟨qg0,0, none⟩)] [] [.blk qg0 [.slice qp1 qn2 qc3, .int .i64 a1] 65, treeF T_SessD 31 6 (.slice qp1 qn2 qc3) l0] (fun v Φr Hr => v = .bool (decide (a1 > 0)) ∧ Φr = [] ∧ Hr = [.blk qg0 [.slice qp1 qn2 qc3, .int .i64 a1] 65, treeF T_SessD 31 6 (.slice qp1 qn2 qc3) l0]) := by
 unfold m_session_Table_known at hm
 refine spec_of Tryz.func42 rfl Tryz.ntmps42 rfl (S := [_]) rfl (fun C => (wc_seq (wc_region (wP rfl (wl_nil (we_then (wc_keep [0] (S' := [_]) rfl (wc_seq (wc_region (wP rfl (wl_bin rfl rfl rfl (freshS_eq rfl) rfl rfl rfl (neqP tQ_33 _ _ _) (wP rfl (wP rfl (wP rfl ?_))))))))))))))
 refine wF rfl tF_65_1 (wD 0 1 rfl tS_3 tA_3 rfl (wP rfl (wP rfl (wP rfl (wl_nil (we_then (wc_keep [2] (S' := [_]) rfl (wc_ret ?_))))))))
 have hE := (Option.some.inj hm).symm
 refine ret_one (Hr := [_,_]) [0,1] Tryz.results42 (res_tmp rfl) ⟨rfl, rfl, rfl⟩ (asK [] rfl) rfl rfl (.inl rfl)
theorem w_session_Table_Open_v2_s (N : Nat) (qg0 : Nat) (qp1 : Option Addr) (qn2 : Nat) (qc3 : Nat) (l0 : List SessD) (a1 : Int) (o0 : Int) (o1 : Nat) (o4 : List SessD) (o6 : Int) (hm : m_session_Table_Open_v2 N l0 a1 = some (o0, o1, o4, o6)) : Spec Tryz.prog 19 [.pointer (some ⟨qg0,0, none⟩)] [] [.blk qg0 [.slice qp1 qn2 qc3, .int .i64 a1] 65, treeF T_SessD 31 6 (.slice qp1 qn2 qc3) l0] (fun v Φr Hr => ∃ (o2 : Option Addr) (o3 : Nat) (o5 : Nat), v = .tuple #[.int .i64 o0, .int .i64 ((o1 : Nat) : Int)] ∧ Φr = [] ∧ Hr = [.blk qg0 [.slice o2 o5 o3, .int .i64 o6] 65, treeF T_SessD 31 6 (.slice o2 o5 o3) o4]) := by
 unfold m_session_Table_Open_v2 at hm
 refine spec_of Tryz.func19 rfl Tryz.ntmps19 rfl (S := [_]) rfl (fun C => (wc_seq (wc_region (wP rfl (wP rfl (wl_nil (we_then (wc_keep [0] (S' := [_]) rfl (wc_seq (wc_block (wc_seq (wc_region (wP rfl ?_)))))))))))))
 obtain ⟨_, hc6, hm⟩ := bindO_some hm
 try dsimp only at hm
 refine wC [0,1] [] rfl fn_42 rfl (w_session_Table_known_v2_s N qg0 qp1 qn2 qc3 l0 a1 hc6) (asK [] rfl) rfl (H' := []) rfl ?_
 rintro _ _ _ ⟨rfl, rfl, rfl⟩
 refine wP rfl (wP rfl (wl_nil (we_then (wc_keep [4,0] (S' := [_,_]) rfl ?_))))
 refine wc_cond rfl (fun hb4 => ?_) (fun hb4 => ?_)
 ·
  replace hm := iteT hm hb4
  refine wc_keep [] (S' := []) rfl (wc_seq (wc_region (wP rfl (wP rfl (wl_nil (we_then (wc_ret (we_block_ret (we_then_ret ?_)))))))))
  have hE := (Option.some.inj hm).symm
  obtain ⟨hE0, hF1⟩ := Prod.mk.inj hE
  obtain ⟨hE1, hF2⟩ := Prod.mk.inj hF1
  obtain ⟨hE2, hE3⟩ := Prod.mk.inj hF2
  clear hE hF1 hF2
  replace hE0 := hE0.symm
  subst hE0
  replace hE1 := hE1.symm
  subst hE1
  replace hE2 := hE2.symm
  subst hE2
  replace hE3 := hE3.symm
  subst hE3
  refine ret_two (Hr := [_,_]) [0,1] Tryz.results19 (res_tmp rfl) (res_tmp rfl) ⟨qp1, qc3, qn2, rfl, rfl, rfl⟩ (asK [] rfl) rfl rfl (.inl rfl)
 ·
  replace hm := iteF hm hb4
  refine wc_keep [0] (S' := [_]) rfl (wc_seq ?_)
  obtain ⟨bj_1, hm, hLj_1⟩ := bindO_some hm
  refine wc_cut (σ := Bool) (fun j_1_8 => bj_1 = j_1_8) (fun j_1_8 => [(0, .pointer (some ⟨qg0,0, none⟩)), (8, .bool j_1_8)]) (fun j_1_8 => []) (fun j_1_8 => [.blk qg0 [.slice qp1 qn2 qc3, .int .i64 a1] 65, treeF T_SessD 31 6 (.slice qp1 qn2 qc3) l0]) ?_ ?_
  ·
   refine wc_region (wP rfl (wP rfl (wF rfl tF_65_0 (wF rfl tF_63_0 (wD 0 0 rfl tS_22 tA_22 rfl (wl_treeLen 1 rfl (fun hzt4 _ => ?_)))))))
   subst hzt4
   refine wN rfl tE_22 (wP rfl (wl_as (d := 15) (v' := .bool (decide (32 ≤ l0.length))) (S' := [_,_,_,_,_,_,_]) rfl rfl (natge (a := l0.length) (b := 32)) (wP rfl ?_)))
   refine wl_split (d := 16) (S' := [_,_,_,_,_,_,_,_]) rfl rfl (fun hs16 => ?_) (fun hs16 => ?_)
   ·
    replace hm := iteT hm hs16
    refine wO rfl (wO rfl (wO rfl (wO rfl (wO rfl (wP rfl (wP rfl (wl_nil ?_)))))))
    have hE := (Option.some.inj hm).symm
    refine we_join true hE [0,8] rfl (asK [] rfl) rfl
   ·
    replace hm := iteF hm hs16
    refine wP rfl (wP rfl (wF rfl tF_65_1 (wD 0 1 rfl tS_3 tA_3 rfl (wP rfl (wP rfl (wP rfl (wl_nil ?_)))))))
    have hE := (Option.some.inj hm).symm
    refine we_join (decide (a1 > 1099511627776)) hE [0,8] rfl (asK [] rfl) rfl
  ·
   rintro j_1_8 hE
   try dsimp only
   have hm := hLj_1
   rw [hE] at hm
   refine wc_cond rfl (fun hb8 => ?_) (fun hb8 => ?_)
   ·
    replace hm := iteT hm hb8
    refine wc_keep [] (S' := []) rfl (wc_seq (wc_region (wP rfl (wP rfl (wl_nil (we_then (wc_ret (we_block_ret (we_then_ret ?_)))))))))
    have hE := (Option.some.inj hm).symm
    obtain ⟨hE0, hF1⟩ := Prod.mk.inj hE
    obtain ⟨hE1, hF2⟩ := Prod.mk.inj hF1
    obtain ⟨hE2, hE3⟩ := Prod.mk.inj hF2
    clear hE hF1 hF2
    replace hE0 := hE0.symm
    subst hE0
    replace hE1 := hE1.symm
    subst hE1
    replace hE2 := hE2.symm
    subst hE2
    replace hE3 := hE3.symm
    subst hE3
    refine ret_two (Hr := [_,_]) [0,1] Tryz.results19 (res_tmp rfl) (res_tmp rfl) ⟨qp1, qc3, qn2, rfl, rfl, rfl⟩ (asK [] rfl) rfl rfl (.inl rfl)
   ·
    replace hm := iteF hm hb8
    refine wc_keep [0] (S' := [_]) rfl (wc_skip (we_block_normal (we_then (wc_seq ?_))))
    obtain ⟨hg35, hm⟩ := gd_some hm
    refine wc_draw [0,1,2,3,4,5,6,7,8,9,10,13,14,15] rfl rfl (fun hok => (xP hok 0 rfl (xP hok 1 rfl (xP hok 2 rfl (wx_fieldAddr hok 3 rfl rfl rfl (freshS_eq rfl) rfl rfl rfl tF_65_0 (wx_fieldAddr hok 4 rfl rfl rfl (freshS_eq rfl) rfl rfl rfl tF_63_0 (wx_loadH hok 5 0 0 rfl rfl rfl (freshS_eq rfl) rfl rfl rfl rfl (cs := [_]) rfl tS_22 tA_22 rfl rfl (xP hok 6 rfl (xP hok 7 rfl (wx_fieldAddr hok 8 rfl rfl rfl (freshS_eq rfl) rfl rfl rfl tF_65_1 (wx_loadH hok 9 0 1 rfl rfl rfl (freshS_eq rfl) rfl rfl rfl rfl (cs := [_]) rfl tS_3 tA_3 rfl rfl (wx_build hok 10 rfl rfl rfl (freshS_eq rfl) rfl rfl tZ_31 tP_31 rfl (out := [_,_,_,_,_,_]) rfl (xS hok 11 rfl (wl_buildSlice rfl rfl rfl (freshS_eq rfl) rfl tE_22 tS_31 tZ_31 rfl (zs := [.int .i64 0, .int .i64 0, .int .i64 0, .int .i64 0, .slice none 0 0, .slice none 0 0]) (by kernel_rfl) rfl (out := [_,_,_,_,_,_]) rfl (fun g34 => ?_)))))))))))))))
    refine wl_nil (we_x [] [1,1] rfl rfl (xS hok 12 rfl (wl_treeLen 2 rfl (fun hzt8 _ => ?_))))
    subst hzt8
    refine wl_sh [treeF T_FactD 55 3 (.slice none 0 0) [],_,_,_] (fun _ h => h.treeNil T_FactD 55 3) (wl_rowNil 149 3 R_V (wl_treeOut 4 rfl (fun zz35 hzz35 => ?_)))
    have hzs2 : List.map (fun x : SessD × ((Option Addr × Nat) × (Option Addr × Nat)) => x.1) (zz35 ++ [((⟨a1,0, (⟨0,0,[],[]⟩ : ReplyD)⟩ : SessD), ((none, 0), (none, 0)))]) = l0 ++ [(⟨a1,0, (⟨0,0,[],[]⟩ : ReplyD)⟩ : SessD)] := pair_app hzz35 (us := [(⟨a1,0, (⟨0,0,[],[]⟩ : ReplyD)⟩ : SessD)]) rfl
    have hgl35 : zz35.length + ([((⟨a1,0, (⟨0,0,[],[]⟩ : ReplyD)⟩ : SessD), ((none, 0), (none, 0)))] : List (SessD × ((Option Addr × Nat) × (Option Addr × Nat)))).length ≤ 1759218604441 := by rw [pair_len hzz35]; exact hg35
    refine wl_appendH (R := T_SessD.pair) ([((⟨a1,0, (⟨0,0,[],[]⟩ : ReplyD)⟩ : SessD), ((none, 0), (none, 0)))]) 5 3 rfl rfl rfl (freshS_eq rfl) rfl rfl rfl rfl rfl (fun F w hφ => ⟨[.int .i64 a1, .int .i64 0, .int .i64 0, .int .i64 0, .slice none 0 0, .slice none 0 0],[], rfl, rfl, rfl, rfl⟩) tE_22 tR_31 rfl rfl (Nat.le_trans hgl35 (by decide)) (Nat.le_trans (Nat.mul_le_mul_right _ hgl35) (by decide)) (H2 := fun p35 c35 => [_,_,_,_,_, .own 31 6 T_SessD.pair (.slice p35 ((zz35 ++ [((⟨a1,0, (⟨0,0,[],[]⟩ : ReplyD)⟩ : SessD), ((none, 0), (none, 0)))]).length) c35) (zz35 ++ [((⟨a1,0, (⟨0,0,[],[]⟩ : ReplyD)⟩ : SessD), ((none, 0), (none, 0)))])]) (fun _ _ => rfl) (fun p35 c35 => (wl_drop 3 rfl (H' := [_,_,_,_,_]) rfl (wl_as (d := 35) (v' := .slice p35 ((l0 ++ [(⟨a1,0, (⟨0,0,[],[]⟩ : ReplyD)⟩ : SessD)]).length) c35) (S' := [_,_,_,_,_,_,_,_,_,_,_,_,_]) rfl rfl (by rw [pair_len hzs2]) (wl_hAs 4 (φ' := .own 31 6 T_SessD.pair (.slice p35 ((l0 ++ [(⟨a1,0, (⟨0,0,[],[]⟩ : ReplyD)⟩ : SessD)]).length) c35) (zz35 ++ [((⟨a1,0, (⟨0,0,[],[]⟩ : ReplyD)⟩ : SessD), ((none, 0), (none, 0)))])) rfl (by rw [pair_len hzs2]) (H' := [_,_,_,_,_]) rfl (wl_pick [1,2,0,3,4] rfl (H' := [_,_,_,_,_]) rfl (wl_sh [bagF T_SessD (zz35 ++ [((⟨a1,0, (⟨0,0,[],[]⟩ : ReplyD)⟩ : SessD), ((none, 0), (none, 0)))]) none, _,_] (fun _ h => Holds.bagPush (T := T_SessD) (x := (⟨a1,0, (⟨0,0,[],[]⟩ : ReplyD)⟩ : SessD)) (r := ((none, 0), (none, 0))) (zs := zz35) (H := [_,_,_]) h 0 rfl) (wl_sh [_, treeF T_SessD 31 6 (.slice p35 ((l0 ++ [(⟨a1,0, (⟨0,0,[],[]⟩ : ReplyD)⟩ : SessD)]).length) c35) (l0 ++ [(⟨a1,0, (⟨0,0,[],[]⟩ : ReplyD)⟩ : SessD)])] (fun _ h => h.treeIn 2 0 rfl rfl rfl hzs2) (wl_nil (we_x [] [0] rfl rfl (xP hok 13 rfl (wx_fieldAddr hok 14 rfl rfl rfl (freshS_eq rfl) rfl rfl rfl tF_65_0 (wx_fieldAddr hok 15 rfl rfl rfl (freshS_eq rfl) rfl rfl rfl tF_63_0 (xS hok 16 rfl (wS 0 0 rfl tS_22 (all' := [_,_]) rfl (H' := [_,_]) rfl ?_))))))))))))))
    refine wl_nil (we_x [] [] rfl rfl (wx_done hok rfl (we_then (wc_keep [0] (S' := [_]) rfl (wc_seq (wc_region (wP rfl (wP rfl (wF rfl tF_65_1 (wD 0 1 rfl tS_3 tA_3 rfl (wP rfl ?_)))))))))))
    obtain ⟨hg43, hm⟩ := gd_some hm
    refine wl_as (d := 43) (v' := .int .i64 (a1 + 1)) (S' := [_,_,_,_,_]) rfl rfl (i64_in hg43) (wP rfl (wF rfl tF_65_1 (wS 0 1 rfl tS_3 (all' := [_,_]) rfl (H' := [_,_]) rfl (wl_nil (we_then (wc_keep [0] (S' := [_]) rfl (wc_seq (wc_region (wP rfl (wP rfl (wF rfl tF_65_1 (wD 0 1 rfl tS_3 tA_3 rfl (wP rfl ?_)))))))))))))
    obtain ⟨hg50, hm⟩ := gd_some hm
    refine wl_as (d := 50) (v' := .int .i64 ((a1 + 1) - 1)) (S' := [_,_,_,_,_]) rfl rfl (i64_in hg50) (wP rfl (wP rfl (wl_nil (we_then (wc_keep [3,2] (S' := [_,_]) rfl (wc_ret ?_))))))
    have hE := (Option.some.inj hm).symm
    obtain ⟨hE0, hF1⟩ := Prod.mk.inj hE
    obtain ⟨hE1, hF2⟩ := Prod.mk.inj hF1
    obtain ⟨hE2, hE3⟩ := Prod.mk.inj hF2
    clear hE hF1 hF2
    replace hE0 := hE0.symm
    subst hE0
    replace hE1 := hE1.symm
    subst hE1
    replace hE2 := hE2.symm
    subst hE2
    replace hE3 := hE3.symm
    subst hE3
    refine ret_two (Hr := [_,_]) [0,1] Tryz.results19 (res_tmp rfl) (res_tmp rfl) ⟨p35, c35, (l0 ++ [(⟨a1,0, (⟨0,0,[],[]⟩ : ReplyD)⟩ : SessD)]).length, rfl, rfl, rfl⟩ (asK [] rfl) rfl rfl (.inl rfl)
theorem w_session_row_find_v2_s (N : Nat) (qg0 : Nat) (qp1 : Option Addr) (qn2 : Nat) (qc3 : Nat) (l0 : List SessD) (a1 : Int) (a2 : Int) (o0 : Int) (hm : m_session_row_find N l0 a1 a2 = some o0) : Spec Tryz.prog 92 [.pointer (some ⟨qg0,0, none⟩), .int .i64 a2] [] [.blk qg0 [.slice qp1 qn2 qc3, .int .i64 a1] 65, treeF T_SessD 31 6 (.slice qp1 qn2 qc3) l0] (fun v Φr Hr => v = .int .i64 o0 ∧ Φr = [] ∧ Hr = [.blk qg0 [.slice qp1 qn2 qc3, .int .i64 a1] 65, treeF T_SessD 31 6 (.slice qp1 qn2 qc3) l0]) := by
 unfold m_session_row_find at hm
 refine spec_of Tryz.func92 rfl Tryz.ntmps92 rfl (S := [_,_]) rfl (fun C => (wc_seq (wc_region (wB rfl (fun g3 => (wP rfl (wl_nil (we_then (wc_keep [3,0] (S' := [_,_]) rfl (wc_seq (wc_region (wP rfl (wP rfl (wF rfl tF_63_0 (wD 1 0 rfl tS_22 tA_22 rfl ?_)))))))))))))))
 refine wl_makeFunc rfl rfl rfl (freshS_eq rfl) rfl rfl (wl_treeLen 2 rfl (fun hzt2 _ => ?_))
 subst hzt2
 obtain ⟨v10, hc10, hm⟩ := bindO_some hm
 refine wl_lend [0] [1,2] [2] rfl rfl rfl (freshS_eq rfl) rfl rfl fn_142 rfl (w_slices_IndexFunc_Session_s N qp1 qc3 l0 g3 a2 _ hc10) (fun F w hφ hh => (ask_cons (tree_sli T_SessD_lend (hh _ (mem_at (k := 0) rfl)) (fun _ h => h) (fun _ h => h)) ask_nil)) (fun _ _ _ hR => by obtain ⟨rfl, rfl, rfl⟩ := hR; exact ⟨rfl, (free_cons (blk_free) (fun _ h => free_nil h))⟩) rfl rfl (H' := [_,_]) rfl ?_
 rintro _ _ _ ⟨rfl, rfl, rfl⟩
 refine wP rfl (wl_nil (we_then (wc_keep [4] (S' := [_]) rfl (wc_ret ?_))))
 have hE := (Option.some.inj hm).symm
 replace hE := hE.symm
 subst hE
 refine ret_one (Hr := [_,_]) [1,2] Tryz.results92 (res_tmp rfl) ⟨rfl, rfl, rfl⟩ (asK [] rfl) rfl rfl (.inl rfl)
theorem w_session_Table_at_v2_s (N : Nat) (qg0 : Nat) (qp1 : Option Addr) (qn2 : Nat) (qc3 : Nat) (l0 : List SessD) (a1 : Int) (a2 : Int) (o0 : Int) (o1 : Nat) (hm : m_session_Table_at N l0 a1 a2 = some (o0, o1)) : Spec Tryz.prog 45 [.pointer (some ⟨qg0,0, none⟩), .int .i64 a2] [] [.blk qg0 [.slice qp1 qn2 qc3, .int .i64 a1] 65, treeF T_SessD 31 6 (.slice qp1 qn2 qc3) l0] (fun v Φr Hr => v = .tuple #[.int .i64 o0, .int .i64 ((o1 : Nat) : Int)] ∧ Φr = [] ∧ Hr = [.blk qg0 [.slice qp1 qn2 qc3, .int .i64 a1] 65, treeF T_SessD 31 6 (.slice qp1 qn2 qc3) l0]) := by
 unfold m_session_Table_at at hm
 refine spec_of Tryz.func45 rfl Tryz.ntmps45 rfl (S := [_,_]) rfl (fun C => (wc_seq (wc_region (wP rfl (wP rfl (wl_nil (we_then (wc_keep [0,1] (S' := [_,_]) rfl (wc_seq (wc_seq (wc_region (wP rfl ?_))))))))))))
 obtain ⟨_, hc8, hm⟩ := bindO_some hm
 try dsimp only at hm
 refine wC [0,1] [] rfl fn_42 rfl (w_session_Table_known_v2_s N qg0 qp1 qn2 qc3 l0 a1 hc8) (asK [] rfl) rfl (H' := []) rfl ?_
 rintro _ _ _ ⟨rfl, rfl, rfl⟩
 refine wP rfl (wl_nil (we_then (wc_keep [9,0,1] (S' := [_,_,_]) rfl ?_)))
 refine wc_cond rfl (fun hb9 => ?_) (fun hb9 => ?_)
 ·
  replace hm := iteT hm hb9
  refine wc_keep [] (S' := []) rfl (wc_seq (wc_region (wP rfl (wP rfl (wl_nil (we_then (wc_ret (we_then_ret ?_))))))))
  have hE := (Option.some.inj hm).symm
  obtain ⟨hE0, hE1⟩ := Prod.mk.inj hE
  clear hE
  replace hE0 := hE0.symm
  subst hE0
  replace hE1 := hE1.symm
  subst hE1
  refine ret_two (Hr := [_,_]) [0,1] Tryz.results45 (res_tmp rfl) (res_tmp rfl) ⟨rfl, rfl, rfl⟩ (asK [] rfl) rfl rfl (.inl rfl)
 ·
  replace hm := iteF hm hb9
  refine wc_keep [0,1] (S' := [_,_]) rfl (wc_skip (we_then (wc_seq (wc_region (wP rfl (wP rfl (wF rfl tF_65_0 (wP rfl ?_))))))))
  obtain ⟨v14, hc14, hm⟩ := bindO_some hm
  refine wC [0,1] [] rfl fn_92 rfl (w_session_row_find_v2_s N qg0 qp1 qn2 qc3 l0 a1 a2 _ hc14) (asK [] rfl) rfl (H' := []) rfl ?_
  rintro _ _ _ ⟨rfl, rfl, rfl⟩
  refine wP rfl (wl_nil (we_then (wc_keep [6] (S' := [_]) rfl (wc_seq (wc_seq (wc_region (wP rfl (wP rfl (wl_nil (we_then (wc_keep [16,6] (S' := [_,_]) rfl ?_)))))))))))
  refine wc_cond rfl (fun hb16 => ?_) (fun hb16 => ?_)
  ·
   replace hm := iteT hm hb16
   refine wc_keep [] (S' := []) rfl (wc_seq (wc_region (wP rfl (wP rfl (wl_nil (we_then (wc_ret (we_then_ret ?_))))))))
   have hE := (Option.some.inj hm).symm
   obtain ⟨hE0, hE1⟩ := Prod.mk.inj hE
   clear hE
   replace hE0 := hE0.symm
   subst hE0
   replace hE1 := hE1.symm
   subst hE1
   refine ret_two (Hr := [_,_]) [0,1] Tryz.results45 (res_tmp rfl) (res_tmp rfl) ⟨rfl, rfl, rfl⟩ (asK [] rfl) rfl rfl (.inl rfl)
  ·
   replace hm := iteF hm hb16
   refine wc_keep [6] (S' := [_]) rfl (wc_skip (we_then (wc_seq (wc_region (wP rfl (wP rfl (wP rfl (wl_nil (we_then (wc_keep [5,4] (S' := [_,_]) rfl (wc_ret ?_)))))))))))
   have hE := (Option.some.inj hm).symm
   obtain ⟨hE0, hE1⟩ := Prod.mk.inj hE
   clear hE
   replace hE0 := hE0.symm
   subst hE0
   replace hE1 := hE1.symm
   subst hE1
   refine ret_two (Hr := [_,_]) [0,1] Tryz.results45 (res_tmp rfl) (res_tmp rfl) ⟨rfl, rfl, rfl⟩ (asK [] rfl) rfl rfl (.inl rfl)
theorem Delete47T_SessD_n (p : Option Addr) (c k : Nat) (L : List (SessD × ((Option Addr × Nat) × (Option Addr × Nat)))) (hk : k < L.length) : Spec Tryz.prog 47 [.slice p L.length c, .int .i64 ((k : Nat) : Int), .int .i64 ((k + 1 : Nat) : Int)] [] [.own 31 6 T_SessD.pair (.slice p L.length c) L] (fun v Φr Hr => ∃ p' c', v = .slice p' (L.take k ++ L.drop (k + 1)).length c' ∧ Φr = [] ∧ Hr = [.own 31 6 T_SessD.pair v (L.take k ++ L.drop (k + 1))]) := by
 refine spec_of Tryz.func47 rfl Tryz.ntmps47 rfl (S := [_,_,_]) rfl (fun C => (wc_ownSome 0 rfl (by omega) (fun g0 e0 hc1 hc2 => ?_)))
 subst e0
 refine wc_seq (wc_region (wP rfl (wl_nil (we_then (wc_seq (wc_region (wP rfl (wP rfl (wP rfl (wP rfl (wN rfl tE_22 (wl_slice3 rfl rfl rfl (freshS_eq rfl) rfl rfl rfl rfl rfl rfl rfl rfl tE_22 tS_31 (by omega) (by omega) (by omega) (fun a13 => (wl_nil ?_))))))))))))))
 refine we_then (wc_keep [6,0,1,2] (S' := [_,_,_,_]) rfl (wc_seq (wc_seq (wc_region (wP rfl (wP rfl (wP rfl (wl_nil (we_then (wc_keep [16,6,0,1,2] (S' := [_,_,_,_,_]) rfl ?_))))))))))
 refine wc_cond rfl (fun h16 => ?_) (fun h16 => ?_)
 ·
  replace h16 := eq_of_beq h16
  exfalso
  omega
 ·
  replace h16 := ne_of_beq_false h16
  refine wc_skip (we_then (wc_seq (wc_region (wP rfl (wN rfl tE_22 (wP rfl (wl_nil (we_then (wc_keep [7,16,6,0,1,2] (S' := [_,_,_,_,_,_]) rfl (wc_seq ?_))))))))))
  refine wc_cut (σ := Addr) (fun a25 => k + 1 < c → a25 = ⟨g0, (k + 1) * 6, none⟩) (fun a25 => [(0, .slice (some ⟨g0,0, none⟩) ((L.take k ++ L.drop (k + 1)).length) c), (7, .int .i64 ((L.length : Nat) : Int)), (16, .bool (((k : Nat) : Int) == ((k + 1 : Nat) : Int))), (6, .slice none 0 0), (1, .int .i64 ((k : Nat) : Int)), (2, .int .i64 ((k + 1 : Nat) : Int))]) (fun a25 => []) (fun a25 => [.own 31 6 T_SessD.pair (.slice (some ⟨g0,0, none⟩) ((L.take k ++ L.drop (k + 1)).length) c) (L.take k ++ L.drop (k + 1))]) ?_ ?_
  ·
   refine wc_draw [0,1,3,4] rfl rfl (fun hok => (xP hok 0 rfl (xP hok 1 rfl (xP hok 3 rfl (xP hok 4 rfl ?_)))))
   refine wx_step2 hok 2 5 rfl rfl rfl rfl rfl rfl ?_ ?_
   ·
    refine wl_sliceTo rfl rfl rfl (freshS_eq rfl) rfl rfl rfl rfl tE_22 tS_31 (by omega) (fun _ h => by cases h; rfl) (wl_nil (we_x [] [] rfl rfl (xS hok 5 rfl (wl_sliceFrom rfl rfl rfl (freshS_eq rfl) rfl rfl rfl rfl tE_22 tS_31 (by omega) (by omega) (fun a25 ha25 => (wl_nil (we_x [] [] rfl rfl (xS hok 6 rfl (wl_appendSelf 0 k (k + 1) rfl rfl rfl (freshS_eq rfl) rfl rfl rfl rfl (by omega) (by omega) (fun h => ha25 (by omega)) tE_22 tR_31 (H2 := [.own 31 6 T_SessD.pair (.slice (some ⟨g0,0, none⟩) ((L.take k ++ L.drop (k + 1)).length) c) (L.take k ++ L.drop (k + 1))]) rfl (fun _ => (wl_nil (we_x [] [] rfl rfl (xS hok 7 rfl (wl_pure (S' := [_,_,_,_,_,_,_,_,_,_,_,_]) rfl rfl rfl rfl rfl (wl_nil ?_)))))))))))))))
    refine we_x [] [] rfl rfl (wx_done hok rfl ?_)
    refine we_join (a25) ha25 [0,7,16,6,1,2] rfl (asK [] rfl) rfl
   ·
    refine wl_sliceFrom rfl rfl rfl (freshS_eq rfl) rfl rfl rfl rfl tE_22 tS_31 (by omega) (by omega) (fun a25 ha25 => (wl_nil (we_x [] [] rfl rfl (xS hok 2 rfl (wl_sliceTo rfl rfl rfl (freshS_eq rfl) rfl rfl rfl rfl tE_22 tS_31 (by omega) (fun _ h => by cases h; rfl) (wl_nil (we_x [] [] rfl rfl (xS hok 6 rfl (wl_appendSelf 0 k (k + 1) rfl rfl rfl (freshS_eq rfl) rfl rfl rfl rfl (by omega) (by omega) (fun h => ha25 (by omega)) tE_22 tR_31 (H2 := [.own 31 6 T_SessD.pair (.slice (some ⟨g0,0, none⟩) ((L.take k ++ L.drop (k + 1)).length) c) (L.take k ++ L.drop (k + 1))]) rfl (fun _ => (wl_nil (we_x [] [] rfl rfl (xS hok 7 rfl (wl_pure (S' := [_,_,_,_,_,_,_,_,_,_,_,_]) rfl rfl rfl rfl rfl (wl_nil ?_)))))))))))))))
    refine we_x [] [] rfl rfl (wx_done hok rfl ?_)
    refine we_join (a25) ha25 [0,7,16,6,1,2] rfl (asK [] rfl) rfl
  ·
   rintro a25 ha25
   try dsimp only
   refine wc_seq (wc_region (wP rfl (wP rfl (wN rfl tE_22 (wP rfl (wl_sliceMid rfl rfl rfl (freshS_eq rfl) rfl rfl rfl rfl rfl rfl tE_22 tS_31 (by simp; omega) (by omega) (fun a31 ha31 => (wl_clearTail 0 rfl rfl rfl rfl rfl (fun h => ha31 (by simp at h ⊢; omega)) (by simp; omega) tE_22 tZ_31 rfl rfl rfl (wl_nil (we_then (wc_keep [0,7,16,6,1,2] (S' := [_,_,_,_,_,_]) rfl (wc_seq (wc_region (wP rfl ?_))))))))))))))
   refine wl_pure (S' := [_,_,_,_,_,_]) rfl rfl rfl rfl rfl (wl_nil (we_then (wc_keep [6,0,7,16,1,2] (S' := [_,_,_,_,_,_]) rfl (wc_ret (ret_one (Hr := [.own 31 6 T_SessD.pair (.slice (some ⟨g0,0, none⟩) ((L.take k ++ L.drop (k + 1)).length) c) (L.take k ++ L.drop (k + 1))]) [0] Tryz.results47 (res_tmp rfl) ?_ (asK [] rfl) rfl rfl (.inl rfl))))))
   exact ⟨_,_, rfl, rfl, rfl⟩
theorem Delete47T_SessD_s (p : Option Addr) (c : Nat) (i : Int) (L : List (SessD × ((Option Addr × Nat) × (Option Addr × Nat)))) (h0 : 0 ≤ i) (hk : i.toNat < L.length) : Spec Tryz.prog 47 [.slice p L.length c, .int .i64 i, .int .i64 (i + 1)] [] [.own 31 6 T_SessD.pair (.slice p L.length c) L] (fun v Φr Hr => ∃ p' c', v = .slice p' (L.take i.toNat ++ L.drop (i.toNat + 1)).length c' ∧ Φr = [] ∧ Hr = [.own 31 6 T_SessD.pair v (L.take i.toNat ++ L.drop (i.toNat + 1))]) := by
  obtain ⟨k, rfl⟩ := Int.eq_ofNat_of_zero_le h0
  have e1 : ((k : Int) + 1) = ((k + 1 : Nat) : Int) := by omega
  rw [e1]
  exact Delete47T_SessD_n p c k L hk
theorem Delete47T_SessD_t (p : Option Addr) (c n : Nat) (i : Int) (L : List (SessD × ((Option Addr × Nat) × (Option Addr × Nat)))) (hn : n = L.length) (h0 : 0 ≤ i) (hk : i.toNat < L.length) : Spec Tryz.prog 47 [.slice p n c, .int .i64 i, .int .i64 (i + 1)] [] [.own 31 6 T_SessD.pair (.slice p n c) L] (fun v Φr Hr => ∃ p' c', v = .slice p' (L.take i.toNat ++ L.drop (i.toNat + 1)).length c' ∧ Φr = [] ∧ Hr = [.own 31 6 T_SessD.pair v (L.take i.toNat ++ L.drop (i.toNat + 1))]) := by
  subst hn
  exact Delete47T_SessD_s p c i L h0 hk
theorem w_session_Table_Expire_v2_s (N : Nat) (qg0 : Nat) (qp1 : Option Addr) (qn2 : Nat) (qc3 : Nat) (l0 : List SessD) (a1 : Int) (a2 : Int) (o0 : Nat) (o3 : List SessD) (hm : m_session_Table_Expire N l0 a1 a2 = some (o0, o3)) : Spec Tryz.prog 22 [.pointer (some ⟨qg0,0, none⟩), .int .i64 a2] [] [.blk qg0 [.slice qp1 qn2 qc3, .int .i64 a1] 65, treeF T_SessD 31 6 (.slice qp1 qn2 qc3) l0] (fun v Φr Hr => ∃ (o1 : Option Addr) (o2 : Nat) (o4 : Nat), v = .int .i64 ((o0 : Nat) : Int) ∧ Φr = [] ∧ Hr = [.blk qg0 [.slice o1 o4 o2, .int .i64 a1] 65, treeF T_SessD 31 6 (.slice o1 o4 o2) o3]) := by
 unfold m_session_Table_Expire at hm
 refine spec_of Tryz.func22 rfl Tryz.ntmps22 rfl (S := [_,_]) rfl (fun C => (wc_seq (wc_region (wP rfl (wl_nil (we_then (wc_keep [0,1] (S' := [_,_]) rfl (wc_seq (wc_region (wP rfl (wP rfl ?_)))))))))))
 obtain ⟨⟨v10_0, v10_1⟩, hc10, hm⟩ := bindO_some hm
 try dsimp only at hm
 refine wC [0,1] [] rfl fn_45 rfl (w_session_Table_at_v2_s N qg0 qp1 qn2 qc3 l0 a1 a2 _ _ hc10) (asK [] rfl) rfl (H' := []) rfl ?_
 rintro _ _ _ ⟨rfl, rfl, rfl⟩
 refine wP rfl (wP rfl (wP rfl (wP rfl (wP rfl (wl_nil (we_then (wc_keep [6,5,0] (S' := [_,_,_]) rfl (wc_seq ?_))))))))
 obtain ⟨bj_1, hm, hLj_1⟩ := bindO_some hm
 refine wc_cut (σ := (List SessD) × (Option Addr) × Nat × Nat) (fun (j_1_r0_f0_l, j_1_r0_f0_p, j_1_r0_f0_c, j_1_r0_f0_n) => bj_1 = j_1_r0_f0_l) (fun (j_1_r0_f0_l, j_1_r0_f0_p, j_1_r0_f0_c, j_1_r0_f0_n) => [(6, .int .i64 ((v10_1 : Nat) : Int))]) (fun (j_1_r0_f0_l, j_1_r0_f0_p, j_1_r0_f0_c, j_1_r0_f0_n) => []) (fun (j_1_r0_f0_l, j_1_r0_f0_p, j_1_r0_f0_c, j_1_r0_f0_n) => [.blk qg0 [.slice j_1_r0_f0_p j_1_r0_f0_n j_1_r0_f0_c, .int .i64 a1] 65, treeF T_SessD 31 6 (.slice j_1_r0_f0_p j_1_r0_f0_n j_1_r0_f0_c) j_1_r0_f0_l]) ?_ ?_
 ·
  refine wc_seq (wc_region (wP rfl (wP rfl (wl_as (d := 14) (v' := .bool (v10_1 == 0)) (S' := [_,_,_,_]) rfl rfl (nateq (a := v10_1) (b := 0)) (wl_nil (we_then (wc_keep [14,6,5,0] (S' := [_,_,_,_]) rfl ?_)))))))
  refine wc_cond rfl (fun hb14 => ?_) (fun hb14 => ?_)
  ·
   replace hm := iteT hm hb14
   refine wc_keep [6,5,0] (S' := [_,_,_]) rfl (wc_region (wP rfl (wP rfl (wP rfl (wF rfl tF_65_0 (wF rfl tF_63_0 (wD 0 0 rfl tS_22 tA_22 rfl (wP rfl (wP rfl (wP rfl ?_))))))))))
   obtain ⟨hg23, hm⟩ := gd_some hm
   refine wl_as (d := 23) (v' := .int .i64 (v10_0 + 1)) (S' := [_,_,_,_,_,_,_,_,_,_,_]) rfl rfl (i64_in hg23) (wl_treeLen 1 rfl (fun hzt2 _ => ?_))
   subst hzt2
   refine wl_treeOut 1 rfl (fun zz24 hzz24 => ?_)
   obtain ⟨hg24, hm⟩ := gd_some hm
   obtain ⟨hgk24, hm⟩ := gd_some hm
   have hzs2 : List.map (fun x : SessD × ((Option Addr × Nat) × (Option Addr × Nat)) => x.1) (zz24.take v10_0.toNat ++ zz24.drop (v10_0.toNat + 1)) = l0.take v10_0.toNat ++ l0.drop (v10_0.toNat + 1) := pair_del hzz24
   refine wC [2] [0,1] rfl fn_47 rfl (Delete47T_SessD_t qp1 qc3 l0.length v10_0 zz24 (by rw [pair_len hzz24]) hg24 (by rw [pair_len hzz24]; exact hgk24)) (asK [] rfl) rfl (H' := [_,_]) rfl ?_
   rintro _ _ _ ⟨p24, c24, rfl, rfl, rfl⟩
   refine wl_as (d := 24) (v' := .slice p24 ((l0.take v10_0.toNat ++ l0.drop (v10_0.toNat + 1)).length) c24) (S' := [_,_,_,_,_,_,_,_,_,_,_,_]) rfl rfl (by rw [pair_len hzs2]) (wl_hAs 0 (φ' := .own 31 6 T_SessD.pair (.slice p24 ((l0.take v10_0.toNat ++ l0.drop (v10_0.toNat + 1)).length) c24) (zz24.take v10_0.toNat ++ zz24.drop (v10_0.toNat + 1))) rfl (by rw [pair_len hzs2]) (H' := [_,_,_]) rfl (wl_sh [.own 31 6 T_SessD.pair (.slice p24 ((l0.take v10_0.toNat ++ l0.drop (v10_0.toNat + 1)).length) c24) (zz24.take v10_0.toNat ++ zz24.drop (v10_0.toNat + 1)), bagF T_SessD (zz24.take v10_0.toNat ++ zz24.drop (v10_0.toNat + 1)) none, .blk qg0 [.slice qp1 l0.length qc3, .int .i64 a1] 65] (fun _ h => h.bagDel 1 v10_0.toNat rfl) (wl_sh [treeF T_SessD 31 6 (.slice p24 ((l0.take v10_0.toNat ++ l0.drop (v10_0.toNat + 1)).length) c24) (l0.take v10_0.toNat ++ l0.drop (v10_0.toNat + 1)), _] (fun _ h => h.treeIn 0 1 rfl rfl rfl hzs2) (wP rfl (wF rfl tF_65_0 (wF rfl tF_63_0 (wS 1 0 rfl tS_22 (all' := [_,_]) rfl (H' := [_,_]) rfl (wl_nil ?_))))))))
   have hE := (Option.some.inj hm).symm
   refine we_pick [1,0] rfl (H' := [_,_]) rfl ?_
   refine we_join (l0.take v10_0.toNat ++ l0.drop (v10_0.toNat + 1), p24, c24, (l0.take v10_0.toNat ++ l0.drop (v10_0.toNat + 1)).length) hE [6] rfl (asK [] rfl) rfl
  ·
   replace hm := iteF hm hb14
   refine wc_keep [6] (S' := [_]) rfl (wc_skip ?_)
   have hE := (Option.some.inj hm).symm
   refine we_join (l0, qp1, qc3, qn2) hE [6] rfl (asK [] rfl) rfl
 ·
  rintro ⟨j_1_r0_f0_l, j_1_r0_f0_p, j_1_r0_f0_c, j_1_r0_f0_n⟩ hE
  try dsimp only
  have hm := hLj_1
  rw [hE] at hm
  refine wc_seq (wc_region (wP rfl (wP rfl (wl_nil (we_then (wc_keep [4] (S' := [_]) rfl (wc_ret ?_)))))))
  have hE := (Option.some.inj hm).symm
  obtain ⟨hE0, hE1⟩ := Prod.mk.inj hE
  clear hE
  replace hE0 := hE0.symm
  subst hE0
  replace hE1 := hE1.symm
  subst hE1
  refine ret_one (Hr := [_,_]) [0,1] Tryz.results22 (res_tmp rfl) ⟨j_1_r0_f0_p, j_1_r0_f0_c, j_1_r0_f0_n, rfl, rfl, rfl⟩ (asK [] rfl) rfl rfl (.inl rfl)
theorem w_session_Table_Done_v2_s (N : Nat) (qg0 : Nat) (qp1 : Option Addr) (qn2 : Nat) (qc3 : Nat) (l0 : List SessD) (a1 : Int) (a2 : Int) (a3 : Int) (a4 : Int) (a5 : Int) (qp4 : Option Addr) (qc5 : Nat) (l6 : List FactD) (qp6 : Option Addr) (qc7 : Nat) (l7 : List V) (o0 : Nat) (o1 : List SessD) (hm : m_session_Table_Done_v2 N l0 a1 a2 a3 a4 a5 l6 l7 = some (o0, o1)) : Spec Tryz.prog 21 [.pointer (some ⟨qg0,0, none⟩), .int .i64 a2, .int .i64 a3, .agg #[.int .i64 a4, .int .i64 a5, .slice qp4 l6.length qc5, .slice qp6 l7.length qc7]] [.sli 3 R_FactD qp4 qc5 l6, .sli 3 R_V qp6 qc7 l7] [.blk qg0 [.slice qp1 qn2 qc3, .int .i64 a1] 65, treeF T_SessD 31 6 (.slice qp1 qn2 qc3) l0] (fun v Φr Hr => v = .int .i64 ((o0 : Nat) : Int) ∧ Φr = [] ∧ Hr = [.blk qg0 [.slice qp1 qn2 qc3, .int .i64 a1] 65, treeF T_SessD 31 6 (.slice qp1 qn2 qc3) o1]) := by
 unfold m_session_Table_Done_v2 at hm
 refine spec_of Tryz.func21 rfl Tryz.ntmps21 rfl (S := [_,_,_,_]) rfl (fun C => (wc_seq (wc_region (wB rfl (fun g7 => (wP rfl (wl_nil (we_then (wc_keep [7,0,1,2] (S' := [_,_,_,_]) rfl (wc_seq (wc_region (wP rfl (wP rfl ?_)))))))))))))
 obtain ⟨⟨v14_0, v14_1⟩, hc14, hm⟩ := bindO_some hm
 try dsimp only at hm
 refine wC [1,2] [0] rfl fn_45 rfl (w_session_Table_at_v2_s N qg0 qp1 qn2 qc3 l0 a1 a2 _ _ hc14) (asK [] rfl) rfl (H' := [_]) rfl ?_
 rintro _ _ _ ⟨rfl, rfl, rfl⟩
 refine wP rfl (wP rfl (wP rfl (wP rfl (wP rfl (wl_nil (we_then (wc_keep [10,9,7,0,2] (S' := [_,_,_,_,_]) rfl (wc_seq (wc_block (wc_seq (wc_region (wP rfl (wP rfl ?_)))))))))))))
 refine wl_as (d := 19) (v' := .bool (v14_1 != 0)) (S' := [_,_,_,_,_,_]) rfl rfl (natne (a := v14_1) (b := 0)) (wP rfl (wl_nil (we_then (wc_keep [17,10,9,7,0,2] (S' := [_,_,_,_,_,_]) rfl ?_))))
 refine wc_cond rfl (fun hb17 => ?_) (fun hb17 => ?_)
 ·
  replace hm := iteT hm hb17
  refine wc_keep [10] (S' := [_]) rfl (wc_seq (wc_region (wP rfl (wP rfl (wl_nil (we_then (wc_keep [8] (S' := [_]) rfl (wc_ret (we_block_ret (we_then_ret ?_))))))))))
  have hE := (Option.some.inj hm).symm
  obtain ⟨hE0, hE1⟩ := Prod.mk.inj hE
  clear hE
  replace hE0 := hE0.symm
  subst hE0
  replace hE1 := hE1.symm
  subst hE1
  refine ret_one (Hr := [_,_]) [0,1] Tryz.results21 (res_tmp rfl) ⟨rfl, rfl, rfl⟩ (asK [] rfl) rfl rfl (.inl rfl)
 ·
  replace hm := iteF hm hb17
  refine wc_keep [9,7,0,2] (S' := [_,_,_,_]) rfl (wc_seq ?_)
  obtain ⟨bj_1, hm, hLj_1⟩ := bindO_some hm
  refine wc_cut (σ := Bool) (fun j_1_21 => bj_1 = j_1_21) (fun j_1_21 => [(9, .int .i64 v14_0), (7, .pointer (some ⟨g7,0, none⟩)), (0, .pointer (some ⟨qg0,0, none⟩)), (2, .int .i64 a3), (21, .bool j_1_21)]) (fun j_1_21 => [.sli 3 R_FactD qp4 qc5 l6, .sli 3 R_V qp6 qc7 l7]) (fun j_1_21 => [.blk g7 [.int .i64 a4, .int .i64 a5, .slice qp4 l6.length qc5, .slice qp6 l7.length qc7] 29, .blk qg0 [.slice qp1 qn2 qc3, .int .i64 a1] 65, treeF T_SessD 31 6 (.slice qp1 qn2 qc3) l0]) ?_ ?_
  ·
   refine wc_region (wP rfl (wP rfl (wP rfl ?_)))
   refine wl_split (d := 24) (S' := [_,_,_,_,_,_]) rfl rfl (fun hs24 => ?_) (fun hs24 => ?_)
   ·
    replace hm := iteT hm hs24
    refine wO rfl (wO rfl (wO rfl (wO rfl (wO rfl (wO rfl (wO rfl (wO rfl (wO rfl (wO rfl (wO rfl (wP rfl (wP rfl (wl_nil ?_)))))))))))))
    have hE := (Option.some.inj hm).symm
    refine we_pick [2,0,1] rfl (H' := [_,_,_]) rfl ?_
    refine we_join true hE [9,7,0,2,21] rfl (asK [0,1] rfl) rfl
   ·
    replace hm := iteF hm hs24
    refine wP rfl (wP rfl (wP rfl (wF rfl tF_65_0 (wF rfl tF_63_0 (wD 0 0 rfl tS_22 tA_22 rfl (wP rfl ?_))))))
    obtain ⟨hn32, hm⟩ := gd_some hm
    refine wl_treeOut 1 rfl (fun zz32 hzz32 => ?_)
    obtain ⟨x32, hx32, hm⟩ := bindO_some hm
    obtain ⟨rr32, hrr32⟩ := zip_at hzz32 hx32
    refine wl_indexH 2 v14_0.toNat rfl rfl rfl (freshS_eq rfl) rfl rfl rfl rfl (toNat_eq hn32) (get_lt hrr32) tE_22 tS_31 (fun g32 eg32 => ?_)
    subst eg32
    refine wF rfl tF_31_1 ?_
    obtain ⟨x34, hx34, hm⟩ := bindO_some hm
    obtain ⟨rr34, hrr34⟩ := zip_at hzz32 hx34
    refine wl_loadRow pair_opens 2 v14_0.toNat 1 rfl rfl rfl (freshS_eq rfl) rfl rfl rfl hrr34 tS_3 tA_3 (v := fun _ => .int .i64 (x34.seq)) (fun _ => rfl) (fun _ => rfl) (fun _ _ => (wP rfl (wP rfl (wP rfl (wl_nil ?_)))))
    have hE := (Option.some.inj hm).symm
    refine we_sh [_, treeF T_SessD 31 6 (.slice (some ⟨g32,0, none⟩) qn2 qc3) l0,_] (fun _ h => h.treeIn 2 0 rfl rfl rfl hzz32) (we_pick [2,0,1] rfl (H' := [_,_,_]) rfl ?_)
    refine we_join (decide (a3 ≤ x34.seq)) hE [9,7,0,2,21] rfl (asK [0,1] rfl) rfl
  ·
   rintro j_1_21 hE
   try dsimp only
   have hm := hLj_1
   rw [hE] at hm
   refine wc_cond rfl (fun hb21 => ?_) (fun hb21 => ?_)
   ·
    replace hm := iteT hm hb21
    refine wc_keep [] (S' := []) rfl (wc_seq (wc_region (wP rfl (wl_nil (we_then (wc_ret (we_block_ret (we_then_ret ?_))))))))
    have hE := (Option.some.inj hm).symm
    obtain ⟨hE0, hE1⟩ := Prod.mk.inj hE
    clear hE
    replace hE0 := hE0.symm
    subst hE0
    replace hE1 := hE1.symm
    subst hE1
    refine ret_one (Hr := [_,_]) [1,2] Tryz.results21 (res_tmp rfl) ⟨rfl, rfl, rfl⟩ (asK [] rfl) rfl rfl (.inl rfl)
   ·
    replace hm := iteF hm hb21
    refine wc_keep [9,7,0,2] (S' := [_,_,_,_]) rfl (wc_skip (we_block_normal (we_then (wc_seq ?_))))
    obtain ⟨v51, hc51, hm⟩ := bindO_some hm
    obtain ⟨hn52, hm⟩ := gd_some hm
    obtain ⟨x52, hx52, hm⟩ := bindO_some hm
    obtain ⟨x1012, hx1012, hm⟩ := bindO_some hm
    obtain ⟨hn54, hm⟩ := gd_some hm
    refine wc_draw [0,1,2,3,4,5,6,7,8,9,10,11,12,13,16,19] rfl rfl (fun hok => (xP hok 0 rfl (xP hok 1 rfl (wx_fieldAddr hok 2 rfl rfl rfl (freshS_eq rfl) rfl rfl rfl tF_65_0 (wx_fieldAddr hok 3 rfl rfl rfl (freshS_eq rfl) rfl rfl rfl tF_63_0 (wx_loadH hok 4 1 0 rfl rfl rfl (freshS_eq rfl) rfl rfl rfl rfl (cs := [_]) rfl tS_22 tA_22 rfl rfl (xP hok 5 rfl (xP hok 6 rfl (xP hok 7 rfl (wx_fieldAddr hok 8 rfl rfl rfl (freshS_eq rfl) rfl rfl rfl tF_65_0 (wx_fieldAddr hok 9 rfl rfl rfl (freshS_eq rfl) rfl rfl rfl tF_63_0 (wx_loadH hok 10 1 0 rfl rfl rfl (freshS_eq rfl) rfl rfl rfl rfl (cs := [_]) rfl tS_22 tA_22 rfl rfl (xP hok 11 rfl (xP hok 12 rfl ?_))))))))))))))
    refine wx_loadH hok 13 0 0 rfl rfl rfl (freshS_eq rfl) rfl rfl rfl rfl (cs := [_,_,_,_]) rfl tS_29 tA_29 rfl rfl (xS hok 14 rfl (wC [] [0,1,2] rfl fn_46 rfl (w_session_own_s N a4 a5 qp4 qc5 l6 qp6 qc7 l7 _ hc51) (asK [0,1] rfl) rfl (H' := [_,_,_]) rfl ?_))
    rintro _ _ _ ⟨p51_0, c51_1, p51_2, c51_3, rfl, rfl, rfl⟩
    refine wl_nil (we_x [0,1] [3,3] rfl rfl (xS hok 15 rfl (wl_treeOut 4 rfl (fun zz52 hzz52 => ?_))))
    obtain ⟨rr52, hrr52⟩ := zip_at hzz52 hx52
    refine wl_indexH 5 v14_0.toNat rfl rfl rfl (freshS_eq rfl) rfl rfl rfl rfl (toNat_eq hn52) (get_lt hrr52) tE_22 tS_31 (fun g52 eg52 => ?_)
    subst eg52
    refine wl_nil (we_x [0,1] [3] rfl rfl (wx_fieldAddr hok 16 rfl rfl rfl (freshS_eq rfl) rfl rfl rfl tF_31_1 (xS hok 17 rfl ?_)))
    obtain ⟨rr1012, hrr1012⟩ := zip_at hzz52 hx1012
    refine wl_sh [.own 149 3 R_V (.slice rr1012.2.1 x1012.r.said.length rr1012.2.2) x1012.r.said, treeF T_FactD 55 3 (.slice rr1012.1.1 x1012.r.facts.length rr1012.1.2) x1012.r.facts, bagF T_SessD zz52 (some v14_0.toNat), _,_,_,_,_] (fun _ h => h.bagOpen 0 v14_0.toNat rfl hrr1012) (wl_storePart (u := ((⟨x1012.id, a3, x1012.r⟩ : SessD), ((rr1012.1.1, rr1012.1.2), (rr1012.2.1, rr1012.2.2)))) 7 v14_0.toNat 1 rfl rfl rfl rfl rfl hrr1012 rfl rfl tS_3 rfl rfl (fun F w hφ ds hd => by cases hd; rfl) rfl (H' := [_,_,_,_,_,_,_,_]) rfl ?_)
    have hrs3 : (zz52.set v14_0.toNat ((⟨x1012.id, a3, x1012.r⟩ : SessD), ((rr1012.1.1, rr1012.1.2), (rr1012.2.1, rr1012.2.2))))[v14_0.toNat]? = some ((⟨x1012.id, a3, x1012.r⟩ : SessD), ((rr1012.1.1, rr1012.1.2), (rr1012.2.1, rr1012.2.2))) := set_atZ hrr1012
    have hzs3 : List.map (fun x : SessD × ((Option Addr × Nat) × (Option Addr × Nat)) => x.1) (zz52.set v14_0.toNat ((⟨x1012.id, a3, x1012.r⟩ : SessD), ((rr1012.1.1, rr1012.1.2), (rr1012.2.1, rr1012.2.2)))) = l0.set v14_0.toNat (⟨x1012.id, a3, x1012.r⟩ : SessD) := pair_set hzz52
    refine wl_nil (we_x [0,1] [5] rfl rfl (xS hok 18 rfl (wl_indexK 7 v14_0.toNat rfl rfl rfl (freshS_eq rfl) rfl rfl rfl rfl (toNat_eq hn54) (get_lt hrs3) tE_22 tS_31 (wl_nil (we_x [0,1] [] rfl rfl (wx_fieldAddr hok 19 rfl rfl rfl (freshS_eq rfl) rfl rfl rfl tF_31_2 (xS hok 20 rfl (wl_treeLen 3 rfl (fun hzt4 _ => (wl_at 4 (v' := .agg #[.int .i64 a4, .int .i64 a5, .slice p51_0 v51.length c51_1, .slice p51_2 l7.length c51_3]) rfl (by rw [hzt4]) (wl_hAs 3 (φ' := treeF T_FactD 55 3 (.slice p51_0 v51.length c51_1) v51) rfl (by rw [hzt4]) (H' := [_,_,_,_,_,_,_,_]) rfl (wl_storePart (u := ((⟨(⟨x1012.id, a3, x1012.r⟩ : SessD).id, (⟨x1012.id, a3, x1012.r⟩ : SessD).seq, (⟨a4, a5, v51, l7⟩ : ReplyD)⟩ : SessD), ((p51_0, c51_1), (p51_2, c51_3)))) 7 v14_0.toNat 2 rfl rfl rfl rfl rfl hrs3 rfl rfl tS_29 rfl rfl (fun F w hφ ds hd => by cases hd; rfl) rfl (H' := [_,_,_,_,_,_,_,_]) rfl (wl_hAs 7 (φ' := .own 31 6 T_SessD.pair (.slice (some ⟨g52,0, none⟩) qn2 qc3) (zz52.set v14_0.toNat ((⟨(⟨x1012.id, a3, x1012.r⟩ : SessD).id, (⟨x1012.id, a3, x1012.r⟩ : SessD).seq, (⟨a4, a5, v51, l7⟩ : ReplyD)⟩ : SessD), ((p51_0, c51_1), (p51_2, c51_3))))) rfl (by rw [List.set_set]) (H' := [_,_,_,_,_,_,_,_]) rfl ?_)))))))))))))
    have hrs4 : (zz52.set v14_0.toNat ((⟨(⟨x1012.id, a3, x1012.r⟩ : SessD).id, (⟨x1012.id, a3, x1012.r⟩ : SessD).seq, (⟨a4, a5, v51, l7⟩ : ReplyD)⟩ : SessD), ((p51_0, c51_1), (p51_2, c51_3))))[v14_0.toNat]? = some ((⟨(⟨x1012.id, a3, x1012.r⟩ : SessD).id, (⟨x1012.id, a3, x1012.r⟩ : SessD).seq, (⟨a4, a5, v51, l7⟩ : ReplyD)⟩ : SessD), ((p51_0, c51_1), (p51_2, c51_3))) := set_atZ hrr1012
    have hzs4 : List.map (fun x : SessD × ((Option Addr × Nat) × (Option Addr × Nat)) => x.1) (zz52.set v14_0.toNat ((⟨(⟨x1012.id, a3, x1012.r⟩ : SessD).id, (⟨x1012.id, a3, x1012.r⟩ : SessD).seq, (⟨a4, a5, v51, l7⟩ : ReplyD)⟩ : SessD), ((p51_0, c51_1), (p51_2, c51_3)))) = l0.set v14_0.toNat (⟨(⟨x1012.id, a3, x1012.r⟩ : SessD).id, (⟨x1012.id, a3, x1012.r⟩ : SessD).seq, (⟨a4, a5, v51, l7⟩ : ReplyD)⟩ : SessD) := pair_set hzz52
    refine wl_nil (we_x [0,1] [] rfl rfl (wx_done hok rfl (we_then (wc_keep [] (S' := []) rfl (wc_seq (wc_region (wP rfl (wl_nil (we_then (wc_ret ?_))))))))))
    have hE := (Option.some.inj hm).symm
    obtain ⟨hE0, hE1⟩ := Prod.mk.inj hE
    clear hE
    replace hE0 := hE0.symm
    subst hE0
    replace hE1 := hE1.symm
    subst hE1
    refine we_pick [4,3,0,1,2,5,6,7] rfl (H' := [_,_,_,_,_,_,_,_]) rfl (we_sh [_,_, bagF T_SessD (zz52.set v14_0.toNat ((⟨(⟨x1012.id, a3, x1012.r⟩ : SessD).id, (⟨x1012.id, a3, x1012.r⟩ : SessD).seq, (⟨a4, a5, v51, l7⟩ : ReplyD)⟩ : SessD), ((p51_0, c51_1), (p51_2, c51_3)))) none, _,_,_] (fun _ h => Holds.bagClose (T := T_SessD) (x := (⟨(⟨x1012.id, a3, x1012.r⟩ : SessD).id, (⟨x1012.id, a3, x1012.r⟩ : SessD).seq, (⟨a4, a5, v51, l7⟩ : ReplyD)⟩ : SessD)) (r := ((p51_0, c51_1), (p51_2, c51_3))) (i := v14_0.toNat) (zs := zz52) (H := [_,_,_,_,_,_]) h 2 rfl) ?_)
    have hzs5 : List.map (fun x : SessD × ((Option Addr × Nat) × (Option Addr × Nat)) => x.1) (zz52.set v14_0.toNat ((⟨(⟨x1012.id, a3, x1012.r⟩ : SessD).id, (⟨x1012.id, a3, x1012.r⟩ : SessD).seq, (⟨a4, a5, v51, l7⟩ : ReplyD)⟩ : SessD), ((p51_0, c51_1), (p51_2, c51_3)))) = l0.set v14_0.toNat (⟨(⟨x1012.id, a3, x1012.r⟩ : SessD).id, (⟨x1012.id, a3, x1012.r⟩ : SessD).seq, (⟨a4, a5, v51, l7⟩ : ReplyD)⟩ : SessD) := pair_set hzz52
    refine we_sh [_,_,_,_, treeF T_SessD 31 6 (.slice (some ⟨g52,0, none⟩) qn2 qc3) (l0.set v14_0.toNat (⟨(⟨x1012.id, a3, x1012.r⟩ : SessD).id, (⟨x1012.id, a3, x1012.r⟩ : SessD).seq, (⟨a4, a5, v51, l7⟩ : ReplyD)⟩ : SessD))] (fun _ h => h.treeIn 5 2 rfl rfl rfl hzs5) ?_
    refine ret_one (Hr := [_,_]) [3,4] Tryz.results21 (res_tmp rfl) ⟨rfl, rfl, rfl⟩ (asK [] rfl) rfl rfl (.inl rfl)
theorem w_session_Table_Ask_v2_s (N : Nat) (qg0 : Nat) (qp1 : Option Addr) (qn2 : Nat) (qc3 : Nat) (l0 : List SessD) (a1 : Int) (a2 : Int) (a3 : Int) (o0 : Int) (o1 : Int) (o4 : List FactD) (o8 : List V) (o10 : Bool) (o11 : Nat) (hm : m_session_Table_Ask N l0 a1 a2 a3 = some (o0, o1, o4, o8, o10, o11)) : Spec Tryz.prog 20 [.pointer (some ⟨qg0,0, none⟩), .int .i64 a2, .int .i64 a3] [] [.blk qg0 [.slice qp1 qn2 qc3, .int .i64 a1] 65, treeF T_SessD 31 6 (.slice qp1 qn2 qc3) l0] (fun v Φr Hr => ∃ (o2 : Option Addr) (o3 : Nat) (o5 : Nat) (o6 : Option Addr) (o7 : Nat) (o9 : Nat), v = .tuple #[.agg #[.int .i64 o0, .int .i64 o1, .slice o2 o5 o3, .slice o6 o9 o7], .bool o10, .int .i64 ((o11 : Nat) : Int)] ∧ Φr = [] ∧ Hr = [treeF T_FactD 55 3 (.slice o2 o5 o3) o4, .own 149 3 R_V (.slice o6 o9 o7) o8, .blk qg0 [.slice qp1 qn2 qc3, .int .i64 a1] 65, treeF T_SessD 31 6 (.slice qp1 qn2 qc3) l0]) := by
 unfold m_session_Table_Ask at hm
 refine spec_of Tryz.func20 rfl Tryz.ntmps20 rfl (S := [_,_,_]) rfl (fun C => (wc_seq (wc_region (wl_alloc rfl rfl rfl (freshS_eq rfl) rfl tZ_29 rfl (fun g6 => (wP rfl (wP rfl (wl_nil (we_then (wc_keep [6,0,1,2] (S' := [_,_,_,_]) rfl (wc_seq (wc_region (wP rfl (wP rfl ?_))))))))))))))
 obtain ⟨⟨v14_0, v14_1⟩, hc14, hm⟩ := bindO_some hm
 try dsimp only at hm
 refine wC [1,2] [0] rfl fn_45 rfl (w_session_Table_at_v2_s N qg0 qp1 qn2 qc3 l0 a1 a2 _ _ hc14) (asK [] rfl) rfl (H' := [_]) rfl ?_
 rintro _ _ _ ⟨rfl, rfl, rfl⟩
 refine wP rfl (wP rfl (wP rfl (wP rfl (wP rfl (wl_nil (we_then (wc_keep [8,9,6,0,2] (S' := [_,_,_,_,_]) rfl (wc_seq (wc_seq (wc_region (wP rfl (wP rfl (wl_as (d := 18) (v' := .bool (v14_1 != 0)) (S' := [_,_,_,_,_,_]) rfl rfl (natne (a := v14_1) (b := 0)) ?_)))))))))))))
 refine wl_nil (we_then (wc_keep [18,8,9,6,0,2] (S' := [_,_,_,_,_,_]) rfl ?_))
 refine wc_cond rfl (fun hb18 => ?_) (fun hb18 => ?_)
 ·
  replace hm := iteT hm hb18
  refine wc_keep [8,6] (S' := [_,_]) rfl (wc_seq (wc_region (wl_loadH 2 0 rfl rfl rfl (freshS_eq rfl) rfl rfl rfl (cs := [_,_,_,_]) rfl tS_29 tA_29 rfl rfl (wP rfl (wS 2 0 rfl tS_29 (all' := [_,_,_,_]) rfl (H' := [_,_,_]) rfl (wP rfl (wl_pure (S' := [_,_,_,_]) rfl rfl rfl rfl rfl (wl_nil (we_then (wc_keep [8,7,6] (S' := [_,_,_]) rfl (wc_ret (we_then_ret ?_))))))))))))
  have hE := (Option.some.inj hm).symm
  obtain ⟨hE0, hF1⟩ := Prod.mk.inj hE
  obtain ⟨hE1, hF2⟩ := Prod.mk.inj hF1
  obtain ⟨hE2, hF3⟩ := Prod.mk.inj hF2
  obtain ⟨hE3, hF4⟩ := Prod.mk.inj hF3
  obtain ⟨hE4, hE5⟩ := Prod.mk.inj hF4
  clear hE hF1 hF2 hF3 hF4
  replace hE0 := hE0.symm
  subst hE0
  replace hE1 := hE1.symm
  subst hE1
  replace hE2 := hE2.symm
  subst hE2
  replace hE3 := hE3.symm
  subst hE3
  replace hE4 := hE4.symm
  subst hE4
  replace hE5 := hE5.symm
  subst hE5
  refine we_sh [treeF T_FactD 55 3 (.slice none 0 0) [],_,_,_] (fun _ h => h.treeNil T_FactD 55 3) (we_rowNil 149 3 R_V ?_)
  refine ret_three (Hr := [_,_,_,_]) [1,0,2,3] Tryz.results20 (res_cell 4 rfl rfl tS_29 tA_29 rfl rfl) (res_tmp rfl) (res_tmp rfl) ⟨none, 0,0, none, 0,0, rfl, rfl, rfl⟩ (asK [] rfl) rfl rfl (.inl rfl)
 ·
  replace hm := iteF hm hb18
  refine wc_keep [9,6,0,2] (S' := [_,_,_,_]) rfl (wc_skip (we_then (wc_seq (wc_seq (wc_region (wP rfl (wP rfl (wF rfl tF_65_0 (wF rfl tF_63_0 (wD 0 0 rfl tS_22 tA_22 rfl (wP rfl ?_)))))))))))
  obtain ⟨hn27, hm⟩ := gd_some hm
  refine wl_treeOut 1 rfl (fun zz27 hzz27 => ?_)
  obtain ⟨x27, hx27, hm⟩ := bindO_some hm
  obtain ⟨rr27, hrr27⟩ := zip_at hzz27 hx27
  refine wl_indexH 2 v14_0.toNat rfl rfl rfl (freshS_eq rfl) rfl rfl rfl rfl (toNat_eq hn27) (get_lt hrr27) tE_22 tS_31 (fun g27 eg27 => ?_)
  subst eg27
  refine wl_sh [.own 149 3 R_V (.slice rr27.2.1 x27.r.said.length rr27.2.2) x27.r.said, treeF T_FactD 55 3 (.slice rr27.1.1 x27.r.facts.length rr27.1.2) x27.r.facts, bagF T_SessD zz27 (some v14_0.toNat), _,_,_] (fun _ h => h.bagOpen 0 v14_0.toNat rfl hrr27) (wl_loadRow pair_opens 4 v14_0.toNat 0 rfl rfl rfl (freshS_eq rfl) rfl rfl rfl hrr27 tS_31 tA_31 (v := fun _ => .agg #[.int .i64 (x27.id), .int .i64 (x27.seq), .int .i64 (x27.r.err), .int .i64 (x27.r.num), .slice rr27.1.1 x27.r.facts.length rr27.1.2, .slice rr27.2.1 x27.r.said.length rr27.2.2]) (fun _ => rfl) (fun _ => rfl) (fun _ _ => (wl_alloc rfl rfl rfl (freshS_eq rfl) rfl tZ_31 rfl (fun g10 => (wS 0 0 rfl tS_31 (all' := [_,_,_,_,_,_]) rfl (H' := [_,_,_,_,_,_,_]) rfl (wl_nil (we_then (wc_keep [10,6,2] (S' := [_,_,_]) rfl (wc_block (wc_seq ?_))))))))))
  obtain ⟨bj_1, hm, hLj_1⟩ := bindO_some hm
  refine wc_cut (σ := Bool) (fun j_1_29 => bj_1 = j_1_29) (fun j_1_29 => [(10, .pointer (some ⟨g10,0, none⟩)), (6, .pointer (some ⟨g6,0, none⟩)), (2, .int .i64 a3), (29, .bool j_1_29)]) (fun j_1_29 => []) (fun j_1_29 => [.blk g10 [.int .i64 (x27.id), .int .i64 (x27.seq), .int .i64 (x27.r.err), .int .i64 (x27.r.num), .slice rr27.1.1 x27.r.facts.length rr27.1.2, .slice rr27.2.1 x27.r.said.length rr27.2.2] 31, treeF T_FactD 55 3 (.slice rr27.1.1 x27.r.facts.length rr27.1.2) x27.r.facts, .own 149 3 R_V (.slice rr27.2.1 x27.r.said.length rr27.2.2) x27.r.said, .blk g6 [.int .i64 0, .int .i64 0, .slice none 0 0, .slice none 0 0] 29, .own 31 6 T_SessD.pair (.slice (some ⟨g27,0, none⟩) qn2 qc3) zz27, bagF T_SessD zz27 (some v14_0.toNat), .blk qg0 [.slice (some ⟨g27,0, none⟩) qn2 qc3, .int .i64 a1] 65]) ?_ ?_
  ·
   refine wc_region (wP rfl (wP rfl (wP rfl ?_)))
   refine wl_split (d := 32) (S' := [_,_,_,_,_]) rfl rfl (fun hs32 => ?_) (fun hs32 => ?_)
   ·
    replace hm := iteT hm hs32
    refine wO rfl (wO rfl (wO rfl (wO rfl (wP rfl (wP rfl (wl_nil ?_))))))
    have hE := (Option.some.inj hm).symm
    refine we_pick [0,2,1,6,5,3,4] rfl (H' := [_,_,_,_,_,_,_]) rfl ?_
    refine we_join true hE [10,6,2,29] rfl (asK [] rfl) rfl
   ·
    replace hm := iteF hm hs32
    refine wP rfl (wF rfl tF_31_1 (wD 0 1 rfl tS_3 tA_3 rfl (wP rfl (wP rfl (wP rfl (wl_nil ?_))))))
    have hE := (Option.some.inj hm).symm
    refine we_pick [0,2,1,6,5,3,4] rfl (H' := [_,_,_,_,_,_,_]) rfl ?_
    refine we_join (decide (a3 < x27.seq)) hE [10,6,2,29] rfl (asK [] rfl) rfl
  ·
   rintro j_1_29 hE
   try dsimp only
   have hm := hLj_1
   rw [hE] at hm
   refine wc_cond rfl (fun hb29 => ?_) (fun hb29 => ?_)
   ·
    replace hm := iteT hm hb29
    refine wc_keep [6] (S' := [_]) rfl (wc_seq (wc_region (wl_loadH 3 0 rfl rfl rfl (freshS_eq rfl) rfl rfl rfl (cs := [_,_,_,_]) rfl tS_29 tA_29 rfl rfl (wS 3 0 rfl tS_29 (all' := [_,_,_,_]) rfl (H' := [_,_,_,_,_,_,_]) rfl (wP rfl (wP rfl (wl_nil (we_then (wc_keep [8,7,6] (S' := [_,_,_]) rfl (wc_ret (we_block_ret (we_then_ret ?_))))))))))))
    have hE := (Option.some.inj hm).symm
    obtain ⟨hE0, hF1⟩ := Prod.mk.inj hE
    obtain ⟨hE1, hF2⟩ := Prod.mk.inj hF1
    obtain ⟨hE2, hF3⟩ := Prod.mk.inj hF2
    obtain ⟨hE3, hF4⟩ := Prod.mk.inj hF3
    obtain ⟨hE4, hE5⟩ := Prod.mk.inj hF4
    clear hE hF1 hF2 hF3 hF4
    replace hE0 := hE0.symm
    subst hE0
    replace hE1 := hE1.symm
    subst hE1
    replace hE2 := hE2.symm
    subst hE2
    replace hE3 := hE3.symm
    subst hE3
    replace hE4 := hE4.symm
    subst hE4
    replace hE5 := hE5.symm
    subst hE5
    refine we_sh [treeF T_FactD 55 3 (.slice none 0 0) [],_,_,_,_,_,_,_] (fun _ h => h.treeNil T_FactD 55 3) (we_rowNil 149 3 R_V (we_pick [4,3,0,1,2,5,6,7,8] rfl (H' := [_,_,_,_,_,_,_,_,_]) rfl (we_sh [_,_,_,_,_, bagF T_SessD (zz27.set v14_0.toNat (x27, rr27)) none, _] (fun _ h => Holds.bagClose (T := T_SessD) (x := x27) (r := rr27) (i := v14_0.toNat) (zs := zz27) (H := [_,_,_,_,_,_,_]) h 5 rfl) (we_hAs 5 (φ' := bagF T_SessD zz27 none) rfl (by rw [set_getZ hrr27]) (H' := [.own 149 3 R_V (.slice none 0 0) [], treeF T_FactD 55 3 (.slice none 0 0) [], .blk g10 [.int .i64 (x27.id), .int .i64 (x27.seq), .int .i64 (x27.r.err), .int .i64 (x27.r.num), .slice rr27.1.1 x27.r.facts.length rr27.1.2, .slice rr27.2.1 x27.r.said.length rr27.2.2] 31, .blk g6 [.int .i64 0, .int .i64 0, .slice none 0 0, .slice none 0 0] 29, .own 31 6 T_SessD.pair (.slice (some ⟨g27,0, none⟩) qn2 qc3) zz27, bagF T_SessD zz27 none, .blk qg0 [.slice (some ⟨g27,0, none⟩) qn2 qc3, .int .i64 a1] 65]) rfl (we_sh [_,_,_,_, treeF T_SessD 31 6 (.slice (some ⟨g27,0, none⟩) qn2 qc3) l0,_] (fun _ h => h.treeIn 4 5 rfl rfl rfl hzz27) ?_)))))
    refine ret_three (Hr := [_,_,_,_]) [1,0,5,4] Tryz.results20 (res_cell 3 rfl rfl tS_29 tA_29 rfl rfl) (res_tmp rfl) (res_tmp rfl) ⟨none, 0,0, none, 0,0, rfl, rfl, rfl⟩ (asK [] rfl) rfl rfl (.inl rfl)
   ·
    replace hm := iteF hm hb29
    refine wc_keep [10,6,2] (S' := [_,_,_]) rfl (wc_seq (wc_region (wP rfl (wF rfl tF_31_1 (wD 0 1 rfl tS_3 tA_3 rfl (wP rfl (wP rfl (wl_nil (we_then (wc_keep [39,10,6] (S' := [_,_,_]) rfl ?_))))))))))
    refine wc_cond rfl (fun hb39 => ?_) (fun hb39 => ?_)
    ·
     replace hm := iteT hm hb39
     refine wc_keep [10,6] (S' := [_,_]) rfl (wc_seq (wc_region (wF rfl tF_31_2 (wl_loadH 0 2 rfl rfl rfl (freshS_eq rfl) rfl rfl rfl (cs := [_,_,_,_]) rfl tS_29 tA_29 rfl rfl ?_))))
     obtain ⟨v46, hc46, hm⟩ := bindO_some hm
     refine wl_lend [] [0,1,2,3,4,5,6] [1,2] rfl rfl rfl (freshS_eq rfl) rfl rfl fn_46 rfl (w_session_own_s N x27.r.err x27.r.num rr27.1.1 rr27.1.2 x27.r.facts rr27.2.1 rr27.2.2 x27.r.said _ hc46) (fun F w hφ hh => (ask_cons (tree_sli T_FactD_lend (hh _ (mem_at (k := 0) rfl)) (fun _ h => h) (fun _ h => h)) (ask_cons (own_sli (hh _ (mem_at (k := 1) rfl))) ask_nil))) (fun _ _ _ hR => by obtain ⟨_,_,_,_, rfl, rfl, rfl⟩ := hR; exact ⟨rfl, (free_cons (tree_free T_FactD_free) (free_cons (own_free mkRep_free) (fun _ h => free_nil h)))⟩) rfl rfl (H' := [_,_,_,_,_,_,_]) rfl ?_
     rintro _ _ _ ⟨p46_0, c46_1, p46_2, c46_3, rfl, rfl, rfl⟩
     refine wS 5 0 rfl tS_29 (all' := [_,_,_,_]) rfl (H' := [_,_,_,_,_,_,_,_,_]) rfl (wP rfl (wP rfl (wl_nil (we_then (wc_keep [8,7,6] (S' := [_,_,_]) rfl (wc_ret (we_block_ret (we_then_ret ?_))))))))
     have hE := (Option.some.inj hm).symm
     obtain ⟨hE0, hF1⟩ := Prod.mk.inj hE
     obtain ⟨hE1, hF2⟩ := Prod.mk.inj hF1
     obtain ⟨hE2, hF3⟩ := Prod.mk.inj hF2
     obtain ⟨hE3, hF4⟩ := Prod.mk.inj hF3
     obtain ⟨hE4, hE5⟩ := Prod.mk.inj hF4
     clear hE hF1 hF2 hF3 hF4
     replace hE0 := hE0.symm
     subst hE0
     replace hE1 := hE1.symm
     subst hE1
     replace hE2 := hE2.symm
     subst hE2
     replace hE3 := hE3.symm
     subst hE3
     replace hE4 := hE4.symm
     subst hE4
     replace hE5 := hE5.symm
     subst hE5
     refine we_pick [4,3,0,1,2,5,6,7,8] rfl (H' := [_,_,_,_,_,_,_,_,_]) rfl (we_sh [_,_,_,_,_, bagF T_SessD (zz27.set v14_0.toNat (x27, rr27)) none, _] (fun _ h => Holds.bagClose (T := T_SessD) (x := x27) (r := rr27) (i := v14_0.toNat) (zs := zz27) (H := [_,_,_,_,_,_,_]) h 5 rfl) (we_hAs 5 (φ' := bagF T_SessD zz27 none) rfl (by rw [set_getZ hrr27]) (H' := [treeF T_FactD 55 3 (.slice p46_0 x27.r.facts.length c46_1) v46, .own 149 3 R_V (.slice p46_2 x27.r.said.length c46_3) x27.r.said, .blk g10 [.int .i64 (x27.id), .int .i64 (x27.seq), .int .i64 (x27.r.err), .int .i64 (x27.r.num), .slice rr27.1.1 x27.r.facts.length rr27.1.2, .slice rr27.2.1 x27.r.said.length rr27.2.2] 31, .blk g6 [.int .i64 (x27.r.err), .int .i64 (x27.r.num), .slice p46_0 x27.r.facts.length c46_1, .slice p46_2 x27.r.said.length c46_3] 29, .own 31 6 T_SessD.pair (.slice (some ⟨g27,0, none⟩) qn2 qc3) zz27, bagF T_SessD zz27 none, .blk qg0 [.slice (some ⟨g27,0, none⟩) qn2 qc3, .int .i64 a1] 65]) rfl (we_sh [_,_,_,_, treeF T_SessD 31 6 (.slice (some ⟨g27,0, none⟩) qn2 qc3) l0,_] (fun _ h => h.treeIn 4 5 rfl rfl rfl hzz27) ?_)))
     refine ret_three (Hr := [_,_,_,_]) [0,1,5,4] Tryz.results20 (res_cell 3 rfl rfl tS_29 tA_29 rfl rfl) (res_tmp rfl) (res_tmp rfl) ⟨p46_0, c46_1, x27.r.facts.length, p46_2, c46_3, x27.r.said.length, rfl, rfl, rfl⟩ (asK [] rfl) rfl rfl (.inl rfl)
    ·
     replace hm := iteF hm hb39
     refine wc_keep [6] (S' := [_]) rfl (wc_skip (we_block_normal (we_then (wc_seq (wc_region (wl_loadH 3 0 rfl rfl rfl (freshS_eq rfl) rfl rfl rfl (cs := [_,_,_,_]) rfl tS_29 tA_29 rfl rfl (wS 3 0 rfl tS_29 (all' := [_,_,_,_]) rfl (H' := [_,_,_,_,_,_,_]) rfl (wP rfl (wP rfl (wl_nil (we_then (wc_keep [8,7,6] (S' := [_,_,_]) rfl (wc_ret ?_)))))))))))))
     have hE := (Option.some.inj hm).symm
     obtain ⟨hE0, hF1⟩ := Prod.mk.inj hE
     obtain ⟨hE1, hF2⟩ := Prod.mk.inj hF1
     obtain ⟨hE2, hF3⟩ := Prod.mk.inj hF2
     obtain ⟨hE3, hF4⟩ := Prod.mk.inj hF3
     obtain ⟨hE4, hE5⟩ := Prod.mk.inj hF4
     clear hE hF1 hF2 hF3 hF4
     replace hE0 := hE0.symm
     subst hE0
     replace hE1 := hE1.symm
     subst hE1
     replace hE2 := hE2.symm
     subst hE2
     replace hE3 := hE3.symm
     subst hE3
     replace hE4 := hE4.symm
     subst hE4
     replace hE5 := hE5.symm
     subst hE5
     refine we_sh [treeF T_FactD 55 3 (.slice none 0 0) [],_,_,_,_,_,_,_] (fun _ h => h.treeNil T_FactD 55 3) (we_rowNil 149 3 R_V (we_pick [4,3,0,1,2,5,6,7,8] rfl (H' := [_,_,_,_,_,_,_,_,_]) rfl (we_sh [_,_,_,_,_, bagF T_SessD (zz27.set v14_0.toNat (x27, rr27)) none, _] (fun _ h => Holds.bagClose (T := T_SessD) (x := x27) (r := rr27) (i := v14_0.toNat) (zs := zz27) (H := [_,_,_,_,_,_,_]) h 5 rfl) (we_hAs 5 (φ' := bagF T_SessD zz27 none) rfl (by rw [set_getZ hrr27]) (H' := [.own 149 3 R_V (.slice none 0 0) [], treeF T_FactD 55 3 (.slice none 0 0) [], .blk g10 [.int .i64 (x27.id), .int .i64 (x27.seq), .int .i64 (x27.r.err), .int .i64 (x27.r.num), .slice rr27.1.1 x27.r.facts.length rr27.1.2, .slice rr27.2.1 x27.r.said.length rr27.2.2] 31, .blk g6 [.int .i64 0, .int .i64 0, .slice none 0 0, .slice none 0 0] 29, .own 31 6 T_SessD.pair (.slice (some ⟨g27,0, none⟩) qn2 qc3) zz27, bagF T_SessD zz27 none, .blk qg0 [.slice (some ⟨g27,0, none⟩) qn2 qc3, .int .i64 a1] 65]) rfl (we_sh [_,_,_,_, treeF T_SessD 31 6 (.slice (some ⟨g27,0, none⟩) qn2 qc3) l0,_] (fun _ h => h.treeIn 4 5 rfl rfl rfl hzz27) ?_)))))
     refine ret_three (Hr := [_,_,_,_]) [1,0,5,4] Tryz.results20 (res_cell 3 rfl rfl tS_29 tA_29 rfl rfl) (res_tmp rfl) (res_tmp rfl) ⟨none, 0,0, none, 0,0, rfl, rfl, rfl⟩ (asK [] rfl) rfl rfl (.inl rfl)
theorem w_ropewalkkit_SameValues_s (N : Nat) (qp0 : Option Addr) (qc1 : Nat) (l0 : List V) (qp2 : Option Addr) (qc3 : Nat) (l1 : List V) (o0 : Bool) (hm : m_ropewalkkit_SameValues N l0 l1 = some o0) : Spec Tryz.prog 60 [.slice qp0 l0.length qc1, .slice qp2 l1.length qc3] [.sli 3 R_V qp0 qc1 l0, .sli 3 R_V qp2 qc3 l1] [] (fun v Φr Hr => v = .bool o0 ∧ Φr = [] ∧ Hr = []) := by
 unfold m_ropewalkkit_SameValues at hm
 refine spec_of Tryz.func60 rfl Tryz.ntmps60 rfl (S := [_,_]) rfl (fun C => (wc_seq (wc_region (wP rfl (wl_nil (we_then (wc_keep [0,1] (S' := [_,_]) rfl (wc_seq (wc_seq (wc_region (wP rfl (wN rfl tE_27 (wP rfl (wN rfl tE_27 ?_))))))))))))))
 refine wP rfl (wl_as (d := 10) (v' := .bool (l0.length != l1.length)) (S' := [_,_,_,_,_,_]) rfl rfl (natne (a := l0.length) (b := l1.length)) (wl_nil (we_then (wc_keep [10,0,1] (S' := [_,_,_]) rfl ?_))))
 refine wc_cond rfl (fun hb10 => ?_) (fun hb10 => ?_)
 ·
  replace hm := iteT hm hb10
  refine wc_keep [] (S' := []) rfl (wc_seq (wc_region (wP rfl (wl_nil (we_then (wc_ret (we_then_ret ?_)))))))
  have hE := (Option.some.inj hm).symm
  replace hE := hE.symm
  subst hE
  refine ret_one (Hr := []) [] Tryz.results60 (res_tmp rfl) ⟨rfl, rfl, rfl⟩ (asK [] rfl) rfl rfl (.inl rfl)
 ·
  replace hm := iteF hm hb10
  refine wc_keep [0,1] (S' := [_,_]) rfl (wc_skip (we_then (wc_seq ?_)))
  obtain ⟨bj_1, hm, hLj_1⟩ := bindS_some hm
  refine wc_cut (σ := Unit) (fun _ => bj_1 = .inl ()) (fun _ => []) (fun _ => []) (fun _ => []) ?_ ?_
  ·
   refine wc_seq (wc_region (wP rfl (wl_nil (we_then (wc_block (wc_loop (σ := Nat × Nat) (fun (nu1, u1_5) => iter (m_ropewalkkit_SameValues_L1 N l0 l1) nu1 u1_5 = some bj_1) (fun (nu1, u1_5) => nu1) (fun (nu1, u1_5) => [(5, .int .i64 ((u1_5 : Nat) : Int)), (0, .slice qp0 l0.length qc1), (1, .slice qp2 l1.length qc3)]) (fun (nu1, u1_5) => [.sli 3 R_V qp0 qc1 l0, .sli 3 R_V qp2 qc3 l1]) (fun (nu1, u1_5) => []) (N, 0) hm [5,0,1] rfl (asK [0,1] rfl) rfl (fun s_ hm => ?_)))))))
   obtain ⟨nu1, u1_5⟩ := s_
   try dsimp only at hm ⊢
   obtain ⟨mu1, bu1, hnu1, hq, hLu1⟩ := iter_some hm
   clear hm
   subst hnu1
   replace hm := hq
   clear hq
   unfold m_ropewalkkit_SameValues_L1 at hm
   try dsimp only at hm
   refine wc_seq (wc_seq (wc_region (wP rfl (wP rfl (wN rfl tE_27 (wP rfl (wl_as (d := 14) (v' := .bool (decide (u1_5 < l0.length))) (S' := [_,_,_,_,_,_]) rfl rfl (natlt (a := u1_5) (b := l0.length)) (wl_nil (we_then (wc_keep [14,5,0,1] (S' := [_,_,_,_]) rfl ?_))))))))))
   refine wc_cond rfl (fun hb14 => ?_) (fun hb14 => ?_)
   ·
    replace hm := iteT hm hb14
    refine wc_keep [5,0,1] (S' := [_,_,_]) rfl (wc_skip (we_then (wc_seq (wc_block (wc_seq ?_)))))
    obtain ⟨x19, hx19, hm⟩ := bindO_some hm
    obtain ⟨x23, hx23, hm⟩ := bindO_some hm
    refine wc_draw [0,1,2,3,4,5,6,7,8] rfl rfl (fun hok => (xP hok 0 rfl (xP hok 1 rfl (wx_indexA hok 2 0 u1_5 rfl rfl rfl (freshS_eq rfl) rfl rfl rfl rfl rfl rfl hx19 tE_27 tS_149 (fun b19 q19 cs19 hlx19 => (wx_openR R_V_opens 1 rfl (fun r19 er19 _ => ?_)))))))
    subst er19
    refine wx_load hok 3 0 0 rfl rfl rfl (freshS_eq rfl) rfl rfl rfl rfl (cs := [_,_,_]) rfl tS_149 tA_149 rfl rfl (xP hok 4 rfl (xP hok 5 rfl (wx_indexA hok 6 3 u1_5 rfl rfl rfl (freshS_eq rfl) rfl rfl rfl rfl rfl rfl hx23 tE_27 tS_149 (fun b23 q23 cs23 hlx23 => (wx_openR R_V_opens 1 rfl (fun r23 er23 _ => ?_))))))
    subst er23
    refine wx_load hok 7 0 0 rfl rfl rfl (freshS_eq rfl) rfl rfl rfl rfl (cs := [_,_,_]) rfl tS_149 tA_149 rfl rfl (wx_bin hok 8 rfl rfl rfl (freshS_eq rfl) rfl rfl rfl rfl (neqV _ _ x19 x23) (wx_done hok rfl (we_then (wc_keep [25,5,0,1] (S' := [_,_,_,_]) rfl ?_))))
    refine wc_cond rfl (fun hb25 => ?_) (fun hb25 => ?_)
    ·
     replace hm := iteT hm hb25
     refine wc_keep [] (S' := []) rfl (wc_seq (wc_region (wP rfl (wl_nil (we_then (wc_ret (we_block_ret (we_then_ret (we_then_ret (we_block_ret (we_then_ret ?_)))))))))))
     have hE := (Option.some.inj hm).symm
     replace hE := link_inr hLu1 hE
     replace hE := link_inr hLj_1 hE
     replace hE := hE.symm
     subst hE
     refine ret_one (Hr := []) [] Tryz.results60 (res_tmp rfl) ⟨rfl, rfl, rfl⟩ (asK [] rfl) rfl rfl (.inl rfl)
    ·
     replace hm := iteF hm hb25
     refine wc_keep [5,0,1] (S' := [_,_,_]) rfl (wc_skip (we_block_normal (we_then (wc_region (wP rfl (wP rfl ?_))))))
     obtain ⟨hg16, hm⟩ := gd_some hm
     refine wl_as (d := 16) (v' := .int .i64 ((u1_5 + 1 : Nat) : Int)) (S' := [_,_,_,_]) rfl rfl (nat_add (a := u1_5) (b := 1) hg16) (wl_pure (S' := [_,_,_,_]) rfl rfl rfl rfl rfl (wl_nil ?_))
     have hE := (Option.some.inj hm).symm
     replace hE := link_inl hLu1 hE
     refine we_roundK (_, u1_5 + 1) (Nat.lt_succ_self _) hE [5,0,1] rfl (asK [4,5] rfl) rfl
   ·
    replace hm := iteF hm hb14
    refine wc_keep [] (S' := []) rfl (wc_exit (we_then_exit (we_then_exit (we_block_hit ?_))))
    have hE := (Option.some.inj hm).symm
    replace hE := link_inr hLu1 hE
    refine we_join () hE [] rfl (asK [] rfl) rfl
  ·
   rintro _ hE
   try dsimp only
   have hm := link_inl hLj_1 hE
   try dsimp only at hm
   refine wc_seq (wc_region (wP rfl (wl_nil (we_then (wc_ret ?_)))))
   have hE := (Option.some.inj hm).symm
   replace hE := hE.symm
   subst hE
   refine ret_one (Hr := []) [] Tryz.results60 (res_tmp rfl) ⟨rfl, rfl, rfl⟩ (asK [] rfl) rfl rfl (.inl rfl)
theorem w_ropewalkkit_SameFact_s (N : Nat) (a0 : Int) (a1 : Int) (qp0 : Option Addr) (qc1 : Nat) (l2 : List V) (a3 : Int) (a4 : Int) (qp2 : Option Addr) (qc3 : Nat) (l5 : List V) (o0 : Bool) (hm : m_ropewalkkit_SameFact N a0 a1 l2 a3 a4 l5 = some o0) : Spec Tryz.prog 101 [.agg #[.int .i64 a0, .int .i64 a1, .slice qp0 l2.length qc1], .agg #[.int .i64 a3, .int .i64 a4, .slice qp2 l5.length qc3]] [.sli 3 R_V qp0 qc1 l2, .sli 3 R_V qp2 qc3 l5] [] (fun v Φr Hr => v = .bool o0 ∧ Φr = [] ∧ Hr = []) := by
 unfold m_ropewalkkit_SameFact at hm
 refine spec_of Tryz.func101 rfl Tryz.ntmps101 rfl (S := [_,_]) rfl (fun C => (wc_seq (wc_region (wB rfl (fun g2 => (wB rfl (fun g3 => (wP rfl (wl_nil (we_then (wc_keep [3,2] (S' := [_,_]) rfl (wc_seq (wc_region (wF rfl tF_55_0 (wD 1 0 rfl tS_3 tA_3 rfl (wF rfl tF_55_0 ?_))))))))))))))))
 refine wD 0 0 rfl tS_3 tA_3 rfl (wP rfl (wP rfl ?_))
 refine wl_split (d := 10) (S' := [_,_,_,_,_,_,_]) rfl rfl (fun hs10 => ?_) (fun hs10 => ?_)
 ·
  replace hm := iteT hm hs10
  refine wF rfl tF_55_1 (wD 1 1 rfl tS_3 tA_3 rfl (wF rfl tF_55_1 (wD 0 1 rfl tS_3 tA_3 rfl (wP rfl (wP rfl (wP rfl ?_))))))
  refine wl_split (d := 17) (S' := [_,_,_,_,_,_,_,_,_,_,_,_,_,_]) rfl rfl (fun hs17 => ?_) (fun hs17 => ?_)
  ·
   replace hm := iteT hm hs17
   refine wF rfl tF_55_2 (wD 1 2 rfl tS_27 tA_27 rfl (wF rfl tF_55_2 (wD 0 2 rfl tS_27 tA_27 rfl ?_)))
   obtain ⟨v22, hc22, hm⟩ := bindO_some hm
   refine wC [] [0,1] rfl fn_60 rfl (w_ropewalkkit_SameValues_s N qp0 qc1 l2 qp2 qc3 l5 _ hc22) (asK [0,1] rfl) rfl (H' := [_,_]) rfl ?_
   rintro _ _ _ ⟨rfl, rfl, rfl⟩
   refine wP rfl (wP rfl (wl_nil (we_then (wc_keep [4] (S' := [_]) rfl (wc_ret ?_)))))
   have hE := (Option.some.inj hm).symm
   replace hE := hE.symm
   subst hE
   refine ret_one (Hr := []) [] Tryz.results101 (res_tmp rfl) ⟨rfl, rfl, rfl⟩ (asK [] rfl) rfl rfl (.inl rfl)
  ·
   replace hm := iteF hm hs17
   refine wO rfl (wO rfl (wO rfl (wO rfl (wO rfl (wP rfl (wP rfl (wl_nil (we_then (wc_keep [4] (S' := [_]) rfl (wc_ret ?_))))))))))
   have hE := (Option.some.inj hm).symm
   replace hE := hE.symm
   subst hE
   refine ret_one (Hr := []) [] Tryz.results101 (res_tmp rfl) ⟨rfl, rfl, rfl⟩ (asK [] rfl) rfl rfl (.inl rfl)
 ·
  replace hm := iteF hm hs10
  refine wO rfl (wO rfl (wO rfl (wO rfl (wO rfl (wP rfl (wP rfl (wO rfl (wO rfl (wO rfl (wO rfl (wO rfl (wP rfl (wP rfl ?_)))))))))))))
  refine wl_nil (we_then (wc_keep [4] (S' := [_]) rfl (wc_ret ?_)))
  have hE := (Option.some.inj hm).symm
  replace hE := hE.symm
  subst hE
  refine ret_one (Hr := []) [] Tryz.results101 (res_tmp rfl) ⟨rfl, rfl, rfl⟩ (asK [] rfl) rfl rfl (.inl rfl)
theorem w_ropewalkkit_SameFacts_s (N : Nat) (qp0 : Option Addr) (qc1 : Nat) (l0 : List FactD) (qp2 : Option Addr) (qc3 : Nat) (l1 : List FactD) (o0 : Bool) (hm : m_ropewalkkit_SameFacts N l0 l1 = some o0) : Spec Tryz.prog 59 [.slice qp0 l0.length qc1, .slice qp2 l1.length qc3] [.sli 3 R_FactD qp0 qc1 l0, .sli 3 R_FactD qp2 qc3 l1] [] (fun v Φr Hr => v = .bool o0 ∧ Φr = [] ∧ Hr = []) := by
 unfold m_ropewalkkit_SameFacts at hm
 refine spec_of Tryz.func59 rfl Tryz.ntmps59 rfl (S := [_,_]) rfl (fun C => (wc_seq (wc_region (wP rfl (wl_nil (we_then (wc_keep [0,1] (S' := [_,_]) rfl (wc_seq (wc_seq (wc_region (wP rfl (wN rfl tE_26 (wP rfl (wN rfl tE_26 ?_))))))))))))))
 refine wP rfl (wl_as (d := 10) (v' := .bool (l0.length != l1.length)) (S' := [_,_,_,_,_,_]) rfl rfl (natne (a := l0.length) (b := l1.length)) (wl_nil (we_then (wc_keep [10,0,1] (S' := [_,_,_]) rfl ?_))))
 refine wc_cond rfl (fun hb10 => ?_) (fun hb10 => ?_)
 ·
  replace hm := iteT hm hb10
  refine wc_keep [] (S' := []) rfl (wc_seq (wc_region (wP rfl (wl_nil (we_then (wc_ret (we_then_ret ?_)))))))
  have hE := (Option.some.inj hm).symm
  replace hE := hE.symm
  subst hE
  refine ret_one (Hr := []) [] Tryz.results59 (res_tmp rfl) ⟨rfl, rfl, rfl⟩ (asK [] rfl) rfl rfl (.inl rfl)
 ·
  replace hm := iteF hm hb10
  refine wc_keep [0,1] (S' := [_,_]) rfl (wc_skip (we_then (wc_seq ?_)))
  obtain ⟨bj_1, hm, hLj_1⟩ := bindS_some hm
  refine wc_cut (σ := Unit) (fun _ => bj_1 = .inl ()) (fun _ => []) (fun _ => []) (fun _ => []) ?_ ?_
  ·
   refine wc_seq (wc_region (wP rfl (wl_nil (we_then (wc_block (wc_loop (σ := Nat × Nat) (fun (nu1, u1_5) => iter (m_ropewalkkit_SameFacts_L1 N l0 l1) nu1 u1_5 = some bj_1) (fun (nu1, u1_5) => nu1) (fun (nu1, u1_5) => [(5, .int .i64 ((u1_5 : Nat) : Int)), (0, .slice qp0 l0.length qc1), (1, .slice qp2 l1.length qc3)]) (fun (nu1, u1_5) => [.sli 3 R_FactD qp0 qc1 l0, .sli 3 R_FactD qp2 qc3 l1]) (fun (nu1, u1_5) => []) (N, 0) hm [5,0,1] rfl (asK [0,1] rfl) rfl (fun s_ hm => ?_)))))))
   obtain ⟨nu1, u1_5⟩ := s_
   try dsimp only at hm ⊢
   obtain ⟨mu1, bu1, hnu1, hq, hLu1⟩ := iter_some hm
   clear hm
   subst hnu1
   replace hm := hq
   clear hq
   unfold m_ropewalkkit_SameFacts_L1 at hm
   try dsimp only at hm
   refine wc_seq (wc_seq (wc_region (wP rfl (wP rfl (wN rfl tE_26 (wP rfl (wl_as (d := 14) (v' := .bool (decide (u1_5 < l0.length))) (S' := [_,_,_,_,_,_]) rfl rfl (natlt (a := u1_5) (b := l0.length)) (wl_nil (we_then (wc_keep [14,5,0,1] (S' := [_,_,_,_]) rfl ?_))))))))))
   refine wc_cond rfl (fun hb14 => ?_) (fun hb14 => ?_)
   ·
    replace hm := iteT hm hb14
    refine wc_keep [5,0,1] (S' := [_,_,_]) rfl (wc_skip (we_then (wc_seq (wc_block (wc_seq ?_)))))
    obtain ⟨x19, hx19, hm⟩ := bindO_some hm
    obtain ⟨x23, hx23, hm⟩ := bindO_some hm
    obtain ⟨v25, hc25, hm⟩ := bindO_some hm
    refine wc_draw [0,1,2,3,4,5,6,7,9] rfl rfl (fun hok => (xP hok 0 rfl (xP hok 1 rfl (wx_indexA hok 2 0 u1_5 rfl rfl rfl (freshS_eq rfl) rfl rfl rfl rfl rfl rfl hx19 tE_26 tS_55 (fun b19 q19 cs19 hlx19 => (wx_openR R_FactD_opens 1 rfl (fun r19 er19 _ => ?_)))))))
    subst er19
    refine wx_load hok 3 1 0 rfl rfl rfl (freshS_eq rfl) rfl rfl rfl rfl (cs := [_,_,_]) rfl tS_55 tA_55 rfl rfl (xP hok 4 rfl (xP hok 5 rfl (wx_indexA hok 6 4 u1_5 rfl rfl rfl (freshS_eq rfl) rfl rfl rfl rfl rfl rfl hx23 tE_26 tS_55 (fun b23 q23 cs23 hlx23 => (wx_openR R_FactD_opens 1 rfl (fun r23 er23 _ => ?_))))))
    subst er23
    refine wx_load hok 7 1 0 rfl rfl rfl (freshS_eq rfl) rfl rfl rfl rfl (cs := [_,_,_]) rfl tS_55 tA_55 rfl rfl (xS hok 8 rfl (wC [] [] rfl fn_101 rfl (w_ropewalkkit_SameFact_s N x19.id x19.ty r19.1 r19.2 x19.args x23.id x23.ty r23.1 r23.2 x23.args _ hc25) (asK [3,0] rfl) rfl (H' := []) rfl ?_))
    rintro _ _ _ ⟨rfl, rfl, rfl⟩
    refine wl_nil (we_x [0,1,2,3,4,5,6,7] [] rfl rfl (xP hok 9 rfl (wx_done hok rfl (we_then (wc_keep [26,5,0,1] (S' := [_,_,_,_]) rfl ?_)))))
    refine wc_cond rfl (fun hb26 => ?_) (fun hb26 => ?_)
    ·
     replace hm := iteT hm hb26
     refine wc_keep [] (S' := []) rfl (wc_seq (wc_region (wP rfl (wl_nil (we_then (wc_ret (we_block_ret (we_then_ret (we_then_ret (we_block_ret (we_then_ret ?_)))))))))))
     have hE := (Option.some.inj hm).symm
     replace hE := link_inr hLu1 hE
     replace hE := link_inr hLj_1 hE
     replace hE := hE.symm
     subst hE
     refine ret_one (Hr := []) [] Tryz.results59 (res_tmp rfl) ⟨rfl, rfl, rfl⟩ (asK [] rfl) rfl rfl (.inl rfl)
    ·
     replace hm := iteF hm hb26
     refine wc_keep [5,0,1] (S' := [_,_,_]) rfl (wc_skip (we_block_normal (we_then (wc_region (wP rfl (wP rfl ?_))))))
     obtain ⟨hg16, hm⟩ := gd_some hm
     refine wl_as (d := 16) (v' := .int .i64 ((u1_5 + 1 : Nat) : Int)) (S' := [_,_,_,_]) rfl rfl (nat_add (a := u1_5) (b := 1) hg16) (wl_pure (S' := [_,_,_,_]) rfl rfl rfl rfl rfl (wl_nil ?_))
     have hE := (Option.some.inj hm).symm
     replace hE := link_inl hLu1 hE
     refine we_roundK (_, u1_5 + 1) (Nat.lt_succ_self _) hE [5,0,1] rfl (asK [6,7] rfl) rfl
   ·
    replace hm := iteF hm hb14
    refine wc_keep [] (S' := []) rfl (wc_exit (we_then_exit (we_then_exit (we_block_hit ?_))))
    have hE := (Option.some.inj hm).symm
    replace hE := link_inr hLu1 hE
    refine we_join () hE [] rfl (asK [] rfl) rfl
  ·
   rintro _ hE
   try dsimp only
   have hm := link_inl hLj_1 hE
   try dsimp only at hm
   refine wc_seq (wc_region (wP rfl (wl_nil (we_then (wc_ret ?_)))))
   have hE := (Option.some.inj hm).symm
   replace hE := hE.symm
   subst hE
   refine ret_one (Hr := []) [] Tryz.results59 (res_tmp rfl) ⟨rfl, rfl, rfl⟩ (asK [] rfl) rfl rfl (.inl rfl)
theorem w_ropewalkkit_SameReply_s (N : Nat) (a0 : Int) (a1 : Int) (qp0 : Option Addr) (qc1 : Nat) (l2 : List FactD) (qp2 : Option Addr) (qc3 : Nat) (l3 : List V) (a4 : Int) (a5 : Int) (qp4 : Option Addr) (qc5 : Nat) (l6 : List FactD) (qp6 : Option Addr) (qc7 : Nat) (l7 : List V) (o0 : Bool) (hm : m_ropewalkkit_SameReply N a0 a1 l2 l3 a4 a5 l6 l7 = some o0) : Spec Tryz.prog 38 [.agg #[.int .i64 a0, .int .i64 a1, .slice qp0 l2.length qc1, .slice qp2 l3.length qc3], .agg #[.int .i64 a4, .int .i64 a5, .slice qp4 l6.length qc5, .slice qp6 l7.length qc7]] [.sli 3 R_FactD qp0 qc1 l2, .sli 3 R_V qp2 qc3 l3, .sli 3 R_FactD qp4 qc5 l6, .sli 3 R_V qp6 qc7 l7] [] (fun v Φr Hr => v = .bool o0 ∧ Φr = [] ∧ Hr = []) := by
 unfold m_ropewalkkit_SameReply at hm
 refine spec_of Tryz.func38 rfl Tryz.ntmps38 rfl (S := [_,_]) rfl (fun C => (wc_seq (wc_region (wB rfl (fun g2 => (wB rfl (fun g3 => (wP rfl (wl_nil (we_then (wc_keep [3,2] (S' := [_,_]) rfl (wc_seq ?_))))))))))))
 obtain ⟨bj_1, hm, hLj_1⟩ := bindO_some hm
 unfold m_ropewalkkit_SameReply_C1 at hm
 refine wc_cut (σ := Bool) (fun j_1_4 => bj_1 = j_1_4) (fun j_1_4 => [(4, .bool j_1_4)]) (fun j_1_4 => []) (fun j_1_4 => []) ?_ ?_
 ·
  refine wc_region (wF rfl tF_29_0 (wD 1 0 rfl tS_25 tA_25 rfl (wF rfl tF_29_0 (wD 0 0 rfl tS_25 tA_25 rfl (wP rfl (wP rfl ?_))))))
  refine wl_split (d := 10) (S' := [_,_,_,_,_,_,_]) rfl rfl (fun hs10 => ?_) (fun hs10 => ?_)
  ·
   replace hm := iteT hm hs10
   refine wF rfl tF_29_1 (wD 1 1 rfl tS_3 tA_3 rfl (wF rfl tF_29_1 (wD 0 1 rfl tS_3 tA_3 rfl (wP rfl (wP rfl (wP rfl ?_))))))
   refine wl_split (d := 17) (S' := [_,_,_,_,_,_,_,_,_,_,_,_,_,_]) rfl rfl (fun hs17 => ?_) (fun hs17 => ?_)
   ·
    replace hm := iteT hm hs17
    refine wF rfl tF_29_2 (wD 1 2 rfl tS_26 tA_26 rfl (wF rfl tF_29_2 (wD 0 2 rfl tS_26 tA_26 rfl ?_)))
    obtain ⟨v22, hc22, hm⟩ := bindO_some hm
    refine wC [] [0,1] rfl fn_59 rfl (w_ropewalkkit_SameFacts_s N qp0 qc1 l2 qp4 qc5 l6 _ hc22) (asK [0,2] rfl) rfl (H' := [_,_]) rfl ?_
    rintro _ _ _ ⟨rfl, rfl, rfl⟩
    refine wP rfl (wP rfl ?_)
    refine wl_split (d := 24) (S' := [_,_,_,_,_,_,_,_,_,_,_,_,_,_,_,_,_,_,_,_,_]) rfl rfl (fun hs24 => ?_) (fun hs24 => ?_)
    ·
     replace hm := iteT hm hs24
     refine wF rfl tF_29_3 (wD 1 3 rfl tS_27 tA_27 rfl (wF rfl tF_29_3 (wD 0 3 rfl tS_27 tA_27 rfl ?_)))
     obtain ⟨v29, hc29, hm⟩ := bindO_some hm
     refine wC [] [0,1] rfl fn_60 rfl (w_ropewalkkit_SameValues_s N qp2 qc3 l3 qp6 qc7 l7 _ hc29) (asK [1,3] rfl) rfl (H' := [_,_]) rfl ?_
     rintro _ _ _ ⟨rfl, rfl, rfl⟩
     refine wP rfl (wP rfl (wl_nil ?_))
     have hE := (Option.some.inj hm).symm
     refine we_pick [] rfl (H' := []) rfl ?_
     refine we_join v29 hE [4] rfl (asK [] rfl) rfl
    ·
     replace hm := iteF hm hs24
     refine wO rfl (wO rfl (wO rfl (wO rfl (wO rfl (wP rfl (wP rfl (wl_nil ?_)))))))
     have hE := (Option.some.inj hm).symm
     refine we_pick [] rfl (H' := []) rfl ?_
     refine we_join false hE [4] rfl (asK [] rfl) rfl
   ·
    replace hm := iteF hm hs17
    refine wO rfl (wO rfl (wO rfl (wO rfl (wO rfl (wP rfl (wP rfl (wO rfl (wO rfl (wO rfl (wO rfl (wO rfl (wP rfl (wP rfl ?_)))))))))))))
    refine wl_nil ?_
    have hE := (Option.some.inj hm).symm
    refine we_pick [] rfl (H' := []) rfl ?_
    refine we_join false hE [4] rfl (asK [] rfl) rfl
  ·
   replace hm := iteF hm hs10
   refine wO rfl (wO rfl (wO rfl (wO rfl (wO rfl (wP rfl (wP rfl (wO rfl (wO rfl (wO rfl (wO rfl (wO rfl (wP rfl (wP rfl ?_)))))))))))))
   refine wO rfl (wO rfl (wO rfl (wO rfl (wO rfl (wP rfl (wP rfl (wl_nil ?_)))))))
   have hE := (Option.some.inj hm).symm
   refine we_pick [] rfl (H' := []) rfl ?_
   refine we_join false hE [4] rfl (asK [] rfl) rfl
 ·
  rintro j_1_4 hE
  try dsimp only
  have hm := hLj_1
  rw [hE] at hm
  refine wc_ret ?_
  have hE := (Option.some.inj hm).symm
  replace hE := hE.symm
  subst hE
  refine ret_one (Hr := []) [] Tryz.results38 (res_tmp rfl) ⟨rfl, rfl, rfl⟩ (asK [] rfl) rfl rfl (.inl rfl)
theorem ap_putValues (g : Nat) (p6 : Option Addr) (c6 : Nat) (h6 : List Hdr) (p7 : Option Addr) (c7 : Nat) (h7 : List Hdr) (p19 : Option Addr) (c19 : Nat) (h19 : List Hdr) (p26 : Option Addr) (c26 : Nat) (h26 : List Hdr) (p : Option Addr) (n c : Nat) (hL6 : h6.length + 1 ≤ 1073741824) (hB6 : Bd h6) (hn : n ≤ 10000) : Spec Tryz.prog 146 [.pointer (some ⟨g, 0, none⟩), .slice p n c] [] [.blk g [.slice none 0 0, .slice none 0 0, .slice none 0 0, .slice none 0 0, .slice none 0 0, .slice none 0 0, .slice p6 h6.length c6, .slice p7 h7.length c7, .slice none 0 0, .slice none 0 0, .slice none 0 0, .slice none 0 0, .slice none 0 0, .slice none 0 0, .slice none 0 0, .slice none 0 0, .slice none 0 0, .slice none 0 0, .slice none 0 0, .slice p19 h19.length c19, .slice none 0 0, .slice none 0 0, .slice none 0 0, .slice none 0 0, .slice none 0 0, .slice none 0 0, .slice p26 h26.length c26, .slice none 0 0, .slice none 0 0] 109, .own 27 1 hdrR (.slice p6 h6.length c6) h6, flatF 149 3 (h6.map row0), flatF 149 3 ([row0 (p, n, c)])] (fun v Φr Hr => ∃ (q6 : Option Addr) (d6 : Nat) (k6 : List Hdr), k6.length ≤ h6.length + 1 ∧ Bd k6 ∧ k6 = h6 ++ ([(p, n, c)] : List Hdr) ∧ v = .tuple #[] ∧ Φr = [] ∧ Hr = [.blk g [.slice none 0 0, .slice none 0 0, .slice none 0 0, .slice none 0 0, .slice none 0 0, .slice none 0 0, .slice q6 k6.length d6, .slice p7 h7.length c7, .slice none 0 0, .slice none 0 0, .slice none 0 0, .slice none 0 0, .slice none 0 0, .slice none 0 0, .slice none 0 0, .slice none 0 0, .slice none 0 0, .slice none 0 0, .slice none 0 0, .slice p19 h19.length c19, .slice none 0 0, .slice none 0 0, .slice none 0 0, .slice none 0 0, .slice none 0 0, .slice none 0 0, .slice p26 h26.length c26, .slice none 0 0, .slice none 0 0] 109, .own 27 1 hdrR (.slice q6 k6.length d6) k6, flatF 149 3 (k6.map row0)]) := by
 refine spec_of Tryz.func146 rfl Tryz.ntmps146 rfl (S := [_,_]) rfl (fun C => (wc_region (wP rfl (wP rfl (wP rfl (wF rfl tF_109_6 (wD 0 6 rfl tS_87 tA_87 rfl (wP rfl (wl_buildSlice rfl rfl rfl (freshS_eq rfl) rfl tE_87 tS_27 tZ_27 rfl (zs := [.slice none 0 0]) (by kernel_rfl) rfl (out := [_]) rfl (fun g10 => (wl_appendH ([(p, n, c)] : List Hdr) 2 0 rfl rfl rfl (freshS_eq rfl) rfl rfl rfl rfl rfl (fun F w hφ => ⟨[_],[], rfl, rfl, rfl, rfl⟩) tE_87 tR_27 rfl rfl (by simp; omega) (by simp; omega) (H2 := fun p11 c11 => [.blk g10 [.slice p n c] 27, .blk g [.slice none 0 0, .slice none 0 0, .slice none 0 0, .slice none 0 0, .slice none 0 0, .slice none 0 0, .slice p6 h6.length c6, .slice p7 h7.length c7, .slice none 0 0, .slice none 0 0, .slice none 0 0, .slice none 0 0, .slice none 0 0, .slice none 0 0, .slice none 0 0, .slice none 0 0, .slice none 0 0, .slice none 0 0, .slice none 0 0, .slice p19 h19.length c19, .slice none 0 0, .slice none 0 0, .slice none 0 0, .slice none 0 0, .slice none 0 0, .slice none 0 0, .slice p26 h26.length c26, .slice none 0 0, .slice none 0 0] 109, .own 27 1 hdrR (.slice p11 ((h6 ++ ([(p, n, c)] : List Hdr)).length) c11) (h6 ++ ([(p, n, c)] : List Hdr)), flatF 149 3 (h6.map row0), flatF 149 3 ([row0 (p, n, c)])]) (fun _ _ => rfl) (fun p11 c11 => (wl_drop 0 rfl (H' := [_,_,_,_]) rfl (wP rfl (wF rfl tF_109_6 (wS 0 6 rfl tS_87 (all' := [_,_,_,_,_,_,_,_,_,_,_,_,_,_,_,_,_,_,_,_,_,_,_,_,_,_,_,_,_]) rfl (H' := [_,_,_,_]) rfl ?_))))))))))))))))
 refine wl_nil (we_sh [.blk g [.slice none 0 0, .slice none 0 0, .slice none 0 0, .slice none 0 0, .slice none 0 0, .slice none 0 0, .slice p11 ((h6 ++ ([(p, n, c)] : List Hdr)).length) c11, .slice p7 h7.length c7, .slice none 0 0, .slice none 0 0, .slice none 0 0, .slice none 0 0, .slice none 0 0, .slice none 0 0, .slice none 0 0, .slice none 0 0, .slice none 0 0, .slice none 0 0, .slice none 0 0, .slice p19 h19.length c19, .slice none 0 0, .slice none 0 0, .slice none 0 0, .slice none 0 0, .slice none 0 0, .slice none 0 0, .slice p26 h26.length c26, .slice none 0 0, .slice none 0 0] 109, .own 27 1 hdrR (.slice p11 ((h6 ++ ([(p, n, c)] : List Hdr)).length) c11) (h6 ++ ([(p, n, c)] : List Hdr)), flatF 149 3 ((h6 ++ [(p, n, c)]).map row0)] (fun _ h => h.flPush 2 3 rfl rfl rfl) (ret_none (Hr := [.blk g [.slice none 0 0, .slice none 0 0, .slice none 0 0, .slice none 0 0, .slice none 0 0, .slice none 0 0, .slice p11 ((h6 ++ ([(p, n, c)] : List Hdr)).length) c11, .slice p7 h7.length c7, .slice none 0 0, .slice none 0 0, .slice none 0 0, .slice none 0 0, .slice none 0 0, .slice none 0 0, .slice none 0 0, .slice none 0 0, .slice none 0 0, .slice none 0 0, .slice none 0 0, .slice p19 h19.length c19, .slice none 0 0, .slice none 0 0, .slice none 0 0, .slice none 0 0, .slice none 0 0, .slice none 0 0, .slice p26 h26.length c26, .slice none 0 0, .slice none 0 0] 109, .own 27 1 hdrR (.slice p11 ((h6 ++ ([(p, n, c)] : List Hdr)).length) c11) (h6 ++ ([(p, n, c)] : List Hdr)), flatF 149 3 ((h6 ++ [(p, n, c)]).map row0)]) [0,1,2] Tryz.results146 ?_ (asK [] rfl) rfl rfl (.inr rfl)))
 exact ⟨_,_,_, by simp, hB6.push hn, rfl, rfl, rfl, rfl⟩
end Go.Proofs.YtighbinghbnjhaaGreat
