import Derived.Test.YthmkahbkhoijbaaGreatDoorXW2
namespace Go.Proofs.YthmkahbkhoijbaaGreatDoor
open Go.RowKit
set_option maxRecDepth 100000
set_option maxHeartbeats 4000000
theorem w_ropewalkref11_Of_s1 (N : Nat) (a0 : Int) (qp0 : Option Addr) (qc1 : Nat) (l1 : List FactD) (o3 : List FactD) (hm : m_ropewalkref11_Of N a0 l1 = some (.inr o3)) : Spec Tryz.prog 10 [.int .i64 a0, .slice qp0 l1.length qc1] [.sli 3 R_FactD qp0 qc1 l1] [] (fun v Φr Hr => ∃ (o0 : Nat) (o1 : Option Addr) (o2 : Nat) (o4 : Nat), v = .tuple #[.pointer (some ⟨o0,0, none⟩), .int .i64 0] ∧ Φr = [] ∧ Hr = [.blk o0 [.slice o1 o4 o2, .int .i64 a0] 63, .own 27 3 R_FactD (.slice o1 o4 o2) o3]) := by
 unfold m_ropewalkref11_Of at hm
 refine spec_of Tryz.func10 rfl Tryz.ntmps10 rfl (S := [_,_]) rfl (fun C => (wc_seq (wc_region (wP rfl (wP rfl (wl_nil (we_then (wc_keep [0,1] (S' := [_,_]) rfl (wc_seq (wc_seq ?_))))))))))
 obtain ⟨bj_1, hm, hLj_1⟩ := bindO_some hm
 refine wc_cut (σ := Bool) (fun j_1_18 => bj_1 = j_1_18) (fun j_1_18 => [(0, .int .i64 a0), (1, .slice qp0 l1.length qc1), (18, .bool j_1_18)]) (fun j_1_18 => [.sli 3 R_FactD qp0 qc1 l1]) (fun j_1_18 => []) ?_ ?_
 ·
  refine wc_region (wP rfl (wP rfl (wP rfl ?_)))
  refine wl_split (d := 10) (S' := [_,_,_,_]) rfl rfl (fun hs10 => ?_) (fun hs10 => ?_)
  ·
   replace hm := iteT hm hs10
   refine wO rfl (wO rfl (wP rfl (wP rfl (wO rfl (wO rfl (wO rfl (wP rfl (wl_nil ?_))))))))
   have hE := (Option.some.inj hm).symm
   refine we_join true hE [0,1,18] rfl (asK [0] rfl) rfl
  ·
   replace hm := iteF hm hs10
   refine wP rfl (wP rfl (wP rfl (wP rfl ?_)))
   refine wl_split (d := 14) (S' := [_,_,_,_,_,_,_,_]) rfl rfl (fun hs14 => ?_) (fun hs14 => ?_)
   ·
    replace hm := iteT hm hs14
    refine wO rfl (wO rfl (wO rfl (wP rfl (wl_nil ?_))))
    have hE := (Option.some.inj hm).symm
    refine we_join true hE [0,1,18] rfl (asK [0] rfl) rfl
   ·
    replace hm := iteF hm hs14
    refine wP rfl (wN rfl tE_22 (wP rfl (wl_as (d := 17) (v' := .bool (decide (256 < l1.length))) (S' := [_,_,_,_,_,_,_,_,_,_,_]) rfl rfl (natgt (a := l1.length) (b := 256)) (wP rfl (wl_nil ?_)))))
    have hE := (Option.some.inj hm).symm
    refine we_join (decide (256 < l1.length)) hE [0,1,18] rfl (asK [0] rfl) rfl
 ·
  rintro j_1_18 hE
  try dsimp only
  have hm := hLj_1
  rw [hE] at hm
  refine wc_cond rfl (fun hb18 => ?_) (fun hb18 => ?_)
  ·
   replace hm := iteT hm hb18
   refine wc_keep [] (S' := []) rfl (wc_seq (wc_region (wP rfl (wP rfl (wl_nil (we_then (wc_ret (we_then_ret ?_))))))))
   have hE := (Option.some.inj hm).symm
   cases hE
  ·
   replace hm := iteF hm hb18
   refine wc_keep [0,1] (S' := [_,_]) rfl (wc_skip (we_then (wc_seq (wc_region (wP rfl (wl_nil (we_then (wc_seq ?_))))))))
   obtain ⟨bj_2, hm, hLj_2⟩ := bindS_some hm
   refine wc_cut (σ := Unit) (fun _ => bj_2 = .inl ()) (fun _ => [(0, .int .i64 a0), (1, .slice qp0 l1.length qc1)]) (fun _ => [.sli 3 R_FactD qp0 qc1 l1]) (fun _ => []) ?_ ?_
   ·
    refine wc_seq (wc_region (wP rfl (wl_nil (we_then (wc_block (wc_loop (σ := Nat × Nat × Int) (fun (nu1, u1_7, u1_6) => iter (m_ropewalkref11_Of_L1 N l1 a0) nu1 (u1_7, u1_6) = some bj_2) (fun (nu1, u1_7, u1_6) => nu1) (fun (nu1, u1_7, u1_6) => [(7, .int .i64 ((u1_7 : Nat) : Int)), (6, .int .i64 u1_6), (0, .int .i64 a0), (1, .slice qp0 l1.length qc1)]) (fun (nu1, u1_7, u1_6) => [.sli 3 R_FactD qp0 qc1 l1]) (fun (nu1, u1_7, u1_6) => []) (N, 0,0) hm [7,6,0,1] rfl (asK [0] rfl) rfl (fun s_ hm => ?_)))))))
    obtain ⟨nu1, u1_7, u1_6⟩ := s_
    try dsimp only at hm ⊢
    obtain ⟨mu1, bu1, hnu1, hq, hLu1⟩ := iter_some hm
    clear hm
    subst hnu1
    replace hm := hq
    clear hq
    unfold m_ropewalkref11_Of_L1 at hm
    try dsimp only at hm
    refine wc_seq (wc_seq (wc_region (wP rfl (wP rfl (wN rfl tE_22 (wP rfl (wl_as (d := 22) (v' := .bool (decide (u1_7 < l1.length))) (S' := [_,_,_,_,_,_,_]) rfl rfl (natlt (a := u1_7) (b := l1.length)) (wl_nil (we_then (wc_keep [22,7,6,0,1] (S' := [_,_,_,_,_]) rfl ?_))))))))))
    refine wc_cond rfl (fun hb22 => ?_) (fun hb22 => ?_)
    ·
     replace hm := iteT hm hb22
     refine wc_keep [7,6,0,1] (S' := [_,_,_,_]) rfl (wc_skip (we_then (wc_seq (wc_block (wc_seq (wc_seq ?_))))))
     obtain ⟨bj_3, hm, hLj_3⟩ := bindO_some hm
     refine wc_cut (σ := Bool) (fun j_3_71 => bj_3 = j_3_71) (fun j_3_71 => [(7, .int .i64 ((u1_7 : Nat) : Int)), (0, .int .i64 a0), (1, .slice qp0 l1.length qc1), (71, .bool j_3_71)]) (fun j_3_71 => [.sli 3 R_FactD qp0 qc1 l1]) (fun j_3_71 => []) ?_ ?_
     ·
      obtain ⟨x27, hx27, hm⟩ := bindO_some hm
      rcases ite_some hm with ⟨hs32, hm⟩ | ⟨hs32, hm⟩
      ·
       refine wc_draw [0,1,2,3,4,5,6,7,8,9,10,11,12,13,14,15,16,17,18,19,20,21,22,23,24,25,26,28,29,30,31,32,34,35,36,37,38,39,40,41,42,43,45,46] rfl rfl (fun hok => (xP hok 0 rfl (xP hok 1 rfl (wx_indexA hok 2 0 u1_7 rfl rfl rfl (freshS_eq rfl) rfl rfl rfl rfl rfl rfl hx27 tE_22 tS_27 (fun b27 q27 cs27 hlx27 => (wx_openR R_FactD_opens 1 rfl (fun r27 er27 _ => ?_)))))))
       subst er27
       refine wx_fieldAddr hok 3 rfl rfl rfl (freshS_eq rfl) rfl rfl rfl tF_27_0 (wx_load hok 4 1 0 rfl rfl rfl (freshS_eq rfl) rfl rfl rfl rfl (cs := [_]) rfl tS_3 tA_3 rfl rfl (xP hok 5 rfl (xP hok 6 rfl (xP hok 7 rfl (wx_as (d := 32) (v' := .bool true) (S' := [_,_,_,_,_,_,_,_,_,_,_]) rfl rfl (bool_is hs32) (xO hok 8 rfl (xO hok 9 rfl (xO hok 10 rfl (xO hok 11 rfl (xO hok 12 rfl (xO hok 13 rfl (xO hok 14 rfl (xP hok 15 rfl ?_)))))))))))))
       refine xP hok 16 rfl (xO hok 17 rfl (xO hok 18 rfl (xO hok 19 rfl (xO hok 20 rfl (xO hok 21 rfl (xO hok 22 rfl (xO hok 23 rfl (xO hok 24 rfl (xO hok 25 rfl (xO hok 26 rfl (xS hok 27 rfl (wO rfl (wl_nil ?_)))))))))))))
       refine we_x [0,1,2,3] [] rfl rfl (xO hok 28 rfl (xP hok 29 rfl (xP hok 30 rfl (xO hok 31 rfl (xO hok 32 rfl (xO hok 34 rfl (xO hok 35 rfl (xO hok 36 rfl (xO hok 37 rfl (xO hok 38 rfl (xO hok 39 rfl (xO hok 40 rfl (xO hok 41 rfl ?_)))))))))))))
       refine xO hok 42 rfl (xO hok 43 rfl (xS hok 33 rfl (wO rfl (wl_nil (we_x [0,1,2,3] [] rfl rfl (xS hok 44 rfl (wO rfl (wl_nil (we_x [0,1,2,3] [] rfl rfl (xO hok 45 rfl (xP hok 46 rfl (wx_done hok rfl ?_))))))))))))
       have hE := (Option.some.inj hm).symm
       refine we_join true hE [7,0,1,71] rfl (asK [3] rfl) rfl
      ·
       obtain ⟨x35, hx35, hm⟩ := bindO_some hm
       rcases ite_some hm with ⟨hs41, hm⟩ | ⟨hs41, hm⟩
       ·
        refine wc_draw [0,1,2,3,4,5,6,7,8,9,10,11,12,13,14,15,16,17,18,19,20,21,22,23,24,25,26,28,29,30,31,32,34,35,36,37,38,39,40,41,42,43,45,46] rfl rfl (fun hok => (xP hok 0 rfl (xP hok 1 rfl (wx_indexA hok 2 0 u1_7 rfl rfl rfl (freshS_eq rfl) rfl rfl rfl rfl rfl rfl hx27 tE_22 tS_27 (fun b27 q27 cs27 hlx27 => (wx_openR R_FactD_opens 1 rfl (fun r27 er27 _ => ?_)))))))
        subst er27
        refine wx_fieldAddr hok 3 rfl rfl rfl (freshS_eq rfl) rfl rfl rfl tF_27_0 (wx_load hok 4 1 0 rfl rfl rfl (freshS_eq rfl) rfl rfl rfl rfl (cs := [_]) rfl tS_3 tA_3 rfl rfl (xP hok 5 rfl (xP hok 6 rfl (xP hok 7 rfl (wx_as (d := 32) (v' := .bool false) (S' := [_,_,_,_,_,_,_,_,_,_,_]) rfl rfl (bool_is hs32) (xP hok 8 rfl (xP hok 9 rfl (wx_indexA hok 10 3 u1_7 rfl rfl rfl (freshS_eq rfl) rfl rfl rfl rfl rfl rfl hx35 tE_22 tS_27 (fun b35 q35 cs35 hlx35 => (wx_openR R_FactD_opens 1 rfl (fun r35 er35 _ => ?_)))))))))))
        subst er35
        refine wx_fieldAddr hok 11 rfl rfl rfl (freshS_eq rfl) rfl rfl rfl tF_27_0 (wx_load hok 12 1 0 rfl rfl rfl (freshS_eq rfl) rfl rfl rfl rfl (cs := [_]) rfl tS_3 tA_3 rfl rfl (xP hok 13 rfl (xP hok 14 rfl (xP hok 15 rfl (xP hok 16 rfl (wx_as (d := 41) (v' := .bool true) (S' := [_,_,_,_,_,_,_,_,_,_,_,_,_,_,_,_,_,_,_,_]) rfl rfl (bool_is hs41) (xO hok 17 rfl (xO hok 18 rfl (xO hok 19 rfl (xO hok 20 rfl (xO hok 21 rfl (xO hok 22 rfl (xO hok 23 rfl ?_)))))))))))))
        refine xO hok 24 rfl (xO hok 25 rfl (xO hok 26 rfl (xS hok 27 rfl (wO rfl (wl_nil (we_x [0,1,2,3,4,5,6] [] rfl rfl (xO hok 28 rfl (xP hok 29 rfl (xP hok 30 rfl (xO hok 31 rfl (xO hok 32 rfl (xO hok 34 rfl (xO hok 35 rfl ?_)))))))))))))
        refine xO hok 36 rfl (xO hok 37 rfl (xO hok 38 rfl (xO hok 39 rfl (xO hok 40 rfl (xO hok 41 rfl (xO hok 42 rfl (xO hok 43 rfl (xS hok 33 rfl (wO rfl (wl_nil (we_x [0,1,2,3,4,5,6] [] rfl rfl (xS hok 44 rfl (wO rfl ?_)))))))))))))
        refine wl_nil (we_x [0,1,2,3,4,5,6] [] rfl rfl (xO hok 45 rfl (xP hok 46 rfl (wx_done hok rfl ?_))))
        have hE := (Option.some.inj hm).symm
        refine we_join true hE [7,0,1,71] rfl (asK [6] rfl) rfl
       ·
        obtain ⟨x44, hx44, hm⟩ := bindO_some hm
        obtain ⟨x49, hx49, hm⟩ := bindO_some hm
        obtain ⟨v52, hc52, hm⟩ := bindO_some hm
        rcases ite_some hm with ⟨hs55, hm⟩ | ⟨hs55, hm⟩
        ·
         refine wc_draw [0,1,2,3,4,5,6,7,8,9,10,11,12,13,14,15,16,17,18,19,20,21,22,23,24,25,26,28,29,30,31,32,34,35,36,37,38,39,40,41,42,43,45,46] rfl rfl (fun hok => (xP hok 0 rfl (xP hok 1 rfl (wx_indexA hok 2 0 u1_7 rfl rfl rfl (freshS_eq rfl) rfl rfl rfl rfl rfl rfl hx27 tE_22 tS_27 (fun b27 q27 cs27 hlx27 => (wx_openR R_FactD_opens 1 rfl (fun r27 er27 _ => ?_)))))))
         subst er27
         refine wx_fieldAddr hok 3 rfl rfl rfl (freshS_eq rfl) rfl rfl rfl tF_27_0 (wx_load hok 4 1 0 rfl rfl rfl (freshS_eq rfl) rfl rfl rfl rfl (cs := [_]) rfl tS_3 tA_3 rfl rfl (xP hok 5 rfl (xP hok 6 rfl (xP hok 7 rfl (wx_as (d := 32) (v' := .bool false) (S' := [_,_,_,_,_,_,_,_,_,_,_]) rfl rfl (bool_is hs32) (xP hok 8 rfl (xP hok 9 rfl (wx_indexA hok 10 3 u1_7 rfl rfl rfl (freshS_eq rfl) rfl rfl rfl rfl rfl rfl hx35 tE_22 tS_27 (fun b35 q35 cs35 hlx35 => (wx_openR R_FactD_opens 1 rfl (fun r35 er35 _ => ?_)))))))))))
         subst er35
         refine wx_fieldAddr hok 11 rfl rfl rfl (freshS_eq rfl) rfl rfl rfl tF_27_0 (wx_load hok 12 1 0 rfl rfl rfl (freshS_eq rfl) rfl rfl rfl rfl (cs := [_]) rfl tS_3 tA_3 rfl rfl (xP hok 13 rfl (xP hok 14 rfl (xP hok 15 rfl (xP hok 16 rfl (wx_as (d := 41) (v' := .bool false) (S' := [_,_,_,_,_,_,_,_,_,_,_,_,_,_,_,_,_,_,_,_]) rfl rfl (bool_is hs41) (xP hok 17 rfl (xP hok 18 rfl (wx_indexA hok 19 6 u1_7 rfl rfl rfl (freshS_eq rfl) rfl rfl rfl rfl rfl rfl hx44 tE_22 tS_27 (fun b44 q44 cs44 hlx44 => (wx_openR R_FactD_opens 1 rfl (fun r44 er44 _ => ?_))))))))))))
         subst er44
         refine wx_fieldAddr hok 20 rfl rfl rfl (freshS_eq rfl) rfl rfl rfl tF_27_1 (wx_load hok 21 1 1 rfl rfl rfl (freshS_eq rfl) rfl rfl rfl rfl (cs := [_]) rfl tS_3 tA_3 rfl rfl (xP hok 22 rfl (xP hok 23 rfl (wx_indexA hok 24 9 u1_7 rfl rfl rfl (freshS_eq rfl) rfl rfl rfl rfl rfl rfl hx49 tE_22 tS_27 (fun b49 q49 cs49 hlx49 => (wx_openR R_FactD_opens 1 rfl (fun r49 er49 _ => ?_)))))))
         subst er49
         refine wx_fieldAddr hok 25 rfl rfl rfl (freshS_eq rfl) rfl rfl rfl tF_27_2 (wx_load hok 26 1 2 rfl rfl rfl (freshS_eq rfl) rfl rfl rfl rfl (cs := [_]) rfl tS_25 tA_25 rfl rfl (xS hok 27 rfl (wC [] [] rfl fn_29 rfl (w_ropewalkref11_May_s N x44.ty r49.1 r49.2 x49.args _ hc52) (asK [0] rfl) rfl (H' := []) rfl ?_)))
         rintro _ _ _ ⟨rfl, rfl, rfl⟩
         refine wl_nil (we_x [0,1,2,3,4,5,6,7,8,9,10,11,12] [] rfl rfl (xP hok 28 rfl (xP hok 29 rfl (xP hok 30 rfl (wx_as (d := 55) (v' := .bool true) (S' := [_,_,_,_,_,_,_,_,_,_,_,_,_,_,_,_,_,_,_,_,_,_,_,_,_,_,_,_,_,_,_,_,_,_]) rfl rfl (bool_is hs55) (xO hok 31 rfl (xO hok 32 rfl (xO hok 34 rfl (xO hok 35 rfl (xO hok 36 rfl (xO hok 37 rfl (xO hok 38 rfl (xO hok 39 rfl ?_)))))))))))))
         refine xO hok 40 rfl (xO hok 41 rfl (xO hok 42 rfl (xO hok 43 rfl (xS hok 33 rfl (wO rfl (wl_nil (we_x [0,1,2,3,4,5,6,7,8,9,10,11,12] [] rfl rfl (xS hok 44 rfl (wO rfl (wl_nil (we_x [0,1,2,3,4,5,6,7,8,9,10,11,12] [] rfl rfl (xO hok 45 rfl (xP hok 46 rfl ?_)))))))))))))
         refine wx_done hok rfl ?_
         have hE := (Option.some.inj hm).symm
         refine we_join true hE [7,0,1,71] rfl (asK [12] rfl) rfl
        ·
         obtain ⟨hg58, hm⟩ := gd_some hm
         obtain ⟨x61, hx61, hm⟩ := bindO_some hm
         obtain ⟨x66, hx66, hm⟩ := bindO_some hm
         obtain ⟨v69, hc69, hm⟩ := bindO_some hm
         refine wc_draw [0,1,2,3,4,5,6,7,8,9,10,11,12,13,14,15,16,17,18,19,20,21,22,23,24,25,26,28,29,30,31,32,34,35,36,37,38,39,40,41,42,43,45,46] rfl rfl (fun hok => (xP hok 0 rfl (xP hok 1 rfl (wx_indexA hok 2 0 u1_7 rfl rfl rfl (freshS_eq rfl) rfl rfl rfl rfl rfl rfl hx27 tE_22 tS_27 (fun b27 q27 cs27 hlx27 => (wx_openR R_FactD_opens 1 rfl (fun r27 er27 _ => ?_)))))))
         subst er27
         refine wx_fieldAddr hok 3 rfl rfl rfl (freshS_eq rfl) rfl rfl rfl tF_27_0 (wx_load hok 4 1 0 rfl rfl rfl (freshS_eq rfl) rfl rfl rfl rfl (cs := [_]) rfl tS_3 tA_3 rfl rfl (xP hok 5 rfl (xP hok 6 rfl (xP hok 7 rfl (wx_as (d := 32) (v' := .bool false) (S' := [_,_,_,_,_,_,_,_,_,_,_]) rfl rfl (bool_is hs32) (xP hok 8 rfl (xP hok 9 rfl (wx_indexA hok 10 3 u1_7 rfl rfl rfl (freshS_eq rfl) rfl rfl rfl rfl rfl rfl hx35 tE_22 tS_27 (fun b35 q35 cs35 hlx35 => (wx_openR R_FactD_opens 1 rfl (fun r35 er35 _ => ?_)))))))))))
         subst er35
         refine wx_fieldAddr hok 11 rfl rfl rfl (freshS_eq rfl) rfl rfl rfl tF_27_0 (wx_load hok 12 1 0 rfl rfl rfl (freshS_eq rfl) rfl rfl rfl rfl (cs := [_]) rfl tS_3 tA_3 rfl rfl (xP hok 13 rfl (xP hok 14 rfl (xP hok 15 rfl (xP hok 16 rfl (wx_as (d := 41) (v' := .bool false) (S' := [_,_,_,_,_,_,_,_,_,_,_,_,_,_,_,_,_,_,_,_]) rfl rfl (bool_is hs41) (xP hok 17 rfl (xP hok 18 rfl (wx_indexA hok 19 6 u1_7 rfl rfl rfl (freshS_eq rfl) rfl rfl rfl rfl rfl rfl hx44 tE_22 tS_27 (fun b44 q44 cs44 hlx44 => (wx_openR R_FactD_opens 1 rfl (fun r44 er44 _ => ?_))))))))))))
         subst er44
         refine wx_fieldAddr hok 20 rfl rfl rfl (freshS_eq rfl) rfl rfl rfl tF_27_1 (wx_load hok 21 1 1 rfl rfl rfl (freshS_eq rfl) rfl rfl rfl rfl (cs := [_]) rfl tS_3 tA_3 rfl rfl (xP hok 22 rfl (xP hok 23 rfl (wx_indexA hok 24 9 u1_7 rfl rfl rfl (freshS_eq rfl) rfl rfl rfl rfl rfl rfl hx49 tE_22 tS_27 (fun b49 q49 cs49 hlx49 => (wx_openR R_FactD_opens 1 rfl (fun r49 er49 _ => ?_)))))))
         subst er49
         refine wx_fieldAddr hok 25 rfl rfl rfl (freshS_eq rfl) rfl rfl rfl tF_27_2 (wx_load hok 26 1 2 rfl rfl rfl (freshS_eq rfl) rfl rfl rfl rfl (cs := [_]) rfl tS_25 tA_25 rfl rfl (xS hok 27 rfl (wC [] [] rfl fn_29 rfl (w_ropewalkref11_May_s N x44.ty r49.1 r49.2 x49.args _ hc52) (asK [0] rfl) rfl (H' := []) rfl ?_)))
         rintro _ _ _ ⟨rfl, rfl, rfl⟩
         refine wl_nil (we_x [0,1,2,3,4,5,6,7,8,9,10,11,12] [] rfl rfl (xP hok 28 rfl (xP hok 29 rfl (xP hok 30 rfl (wx_as (d := 55) (v' := .bool false) (S' := [_,_,_,_,_,_,_,_,_,_,_,_,_,_,_,_,_,_,_,_,_,_,_,_,_,_,_,_,_,_,_,_,_,_]) rfl rfl (bool_is hs55) (xP hok 31 rfl (xP hok 32 rfl (xP hok 34 rfl (xP hok 35 rfl (wx_indexA hok 36 12 u1_7 rfl rfl rfl (freshS_eq rfl) rfl rfl rfl rfl rfl rfl hx61 tE_22 tS_27 (fun b61 q61 cs61 hlx61 => (wx_openR R_FactD_opens 1 rfl (fun r61 er61 _ => ?_)))))))))))))
         subst er61
         refine wx_fieldAddr hok 37 rfl rfl rfl (freshS_eq rfl) rfl rfl rfl tF_27_1 (wx_load hok 38 1 1 rfl rfl rfl (freshS_eq rfl) rfl rfl rfl rfl (cs := [_]) rfl tS_3 tA_3 rfl rfl (xP hok 39 rfl (xP hok 40 rfl (wx_indexA hok 41 15 u1_7 rfl rfl rfl (freshS_eq rfl) rfl rfl rfl rfl rfl rfl hx66 tE_22 tS_27 (fun b66 q66 cs66 hlx66 => (wx_openR R_FactD_opens 1 rfl (fun r66 er66 _ => ?_)))))))
         subst er66
         refine wx_fieldAddr hok 42 rfl rfl rfl (freshS_eq rfl) rfl rfl rfl tF_27_2 (wx_load hok 43 1 2 rfl rfl rfl (freshS_eq rfl) rfl rfl rfl rfl (cs := [_]) rfl tS_25 tA_25 rfl rfl (xS hok 33 rfl (wl_sliTo 18 rfl rfl rfl (freshS_eq rfl) rfl rfl rfl rfl rfl tE_22 tS_27 hg58 (fun p58 => (wl_nil (we_x [1,2,3,4,5,6,7,8,9,10,11,12,13,14,15,16,17,18,19] [] rfl rfl (xS hok 44 rfl (wC [] [] rfl fn_30 rfl (w_ropewalkref11_place_s N p58 qc1 (l1.take u1_7) x61.ty r66.1 r66.2 x66.args _ hc69) (asK [0,1] rfl) rfl (H' := []) rfl ?_))))))))
         rintro _ _ _ ⟨rfl, rfl, rfl⟩
         refine wl_nil (we_x [0,1,2,3,4,5,6,7,8,9,10,11,12,13,14,15,16,17,18,19] [] rfl rfl (xP hok 45 rfl (xP hok 46 rfl (wx_done hok rfl ?_))))
         have hE := (Option.some.inj hm).symm
         refine we_join (decide (v69 ≥ 0)) hE [7,0,1,71] rfl (asK [19] rfl) rfl
     ·
      rintro j_3_71 hE
      try dsimp only
      have hm := hLj_3
      rw [hE] at hm
      refine wc_cond rfl (fun hb71 => ?_) (fun hb71 => ?_)
      ·
       replace hm := iteT hm hb71
       refine wc_keep [] (S' := []) rfl (wc_seq (wc_region (wP rfl (wP rfl (wl_nil (we_then (wc_ret (we_then_ret (we_block_ret (we_then_ret (we_then_ret (we_block_ret (we_then_ret ?_)))))))))))))
       have hE := (Option.some.inj hm).symm
       replace hE := link_inr hLu1 hE
       replace hE := link_inr hLj_2 hE
       cases hE
      ·
       replace hm := iteF hm hb71
       refine wc_keep [7,0,1] (S' := [_,_,_]) rfl (wc_skip (we_then (wc_region (wP rfl (wP rfl ?_)))))
       obtain ⟨x74, hx74, hm⟩ := bindO_some hm
       refine wl_indexA 0 u1_7 rfl rfl rfl (freshS_eq rfl) rfl rfl rfl rfl rfl hx74 tE_22 tS_27 (fun b74 q74 cs74 hlx74 => (wl_open R_FactD_opens 1 rfl (fun r74 er74 _ => ?_)))
       subst er74
       refine wF rfl tF_27_0 (wl_load 1 0 rfl rfl rfl (freshS_eq rfl) rfl rfl rfl (cs := [_]) rfl tS_3 tA_3 rfl rfl (wP rfl (wl_nil (we_block_normal (we_then (wc_keep [6,7,0,1] (S' := [_,_,_,_]) rfl (wc_region (wP rfl (wP rfl ?_)))))))))
       obtain ⟨hg24, hm⟩ := gd_some hm
       refine wl_as (d := 24) (v' := .int .i64 ((u1_7 + 1 : Nat) : Int)) (S' := [_,_,_,_,_]) rfl rfl (nat_add (a := u1_7) (b := 1) hg24) (wl_pure (S' := [_,_,_,_,_]) rfl rfl rfl rfl rfl (wl_nil ?_))
       have hE := (Option.some.inj hm).symm
       replace hE := link_inl hLu1 hE
       refine we_roundK (_, u1_7 + 1, x74.id) (Nat.lt_succ_self _) hE [7,6,0,1] rfl (asK [3] rfl) rfl
    ·
     replace hm := iteF hm hb22
     refine wc_keep [0,1] (S' := [_,_]) rfl (wc_exit (we_then_exit (we_then_exit (we_block_hit ?_))))
     have hE := (Option.some.inj hm).symm
     replace hE := link_inr hLu1 hE
     refine we_join () hE [0,1] rfl (asK [0] rfl) rfl
   ·
    rintro _ hE
    try dsimp only
    have hm := link_inl hLj_2 hE
    try dsimp only at hm
    refine wc_seq (wc_region (wP rfl ?_))
    obtain ⟨v78, hc78, hm⟩ := bindO_some hm
    refine wC [] [] rfl fn_19 rfl (w_ropewalkkit_CopyFacts_s N qp0 qc1 l1 _ hc78) (asK [0] rfl) rfl (H' := []) rfl ?_
    rintro _ _ _ ⟨p78_0, c78_1, c78_2, rfl, rfl, rfl⟩
    refine wl_sh [.own 27 3 R_FactD (.slice p78_0 c78_2 c78_1) v78] (fun _ h => h.letgo T_FactD_lend 0 rfl) (wP rfl (wl_build rfl rfl rfl (freshS_eq rfl) rfl tZ_63 tP_63 rfl (out := [_,_]) rfl (wB rfl (fun g81 => (wP rfl (wP rfl (wl_nil (we_then (wc_keep [5,4] (S' := [_,_]) rfl (wc_ret ?_))))))))))
    have hE := (Option.some.inj hm).symm
    replace hE := Sum.inr.inj hE
    replace hE := hE.symm
    subst hE
    refine ret_two (Hr := [_,_]) [0,1] Tryz.results10 (res_tmp rfl) (res_tmp rfl) ⟨g81, p78_0, c78_1, c78_2, rfl, rfl, rfl⟩ (asK [] rfl) rfl rfl (.inl rfl)
theorem w_ropewalkkit_SameValues_W_s (N : Nat) (qp0 : Option Addr) (qc1 : Nat) (l0 : List V) (k1 : Nat) (qp2 : Option Addr) (qc3 : Nat) (l2 : List V) (o0 : Bool) (hm : m_ropewalkkit_SameValues_W N l0 k1 l2 = some o0) : Spec Tryz.prog 61 [.slice qp0 k1 qc1, .slice qp2 l2.length qc3] [.sli 3 R_V qp0 qc1 l0, .sli 3 R_V qp2 qc3 l2] [] (fun v Φr Hr => v = .bool o0 ∧ Φr = [] ∧ Hr = []) := by
 unfold m_ropewalkkit_SameValues_W at hm
 refine spec_of Tryz.func61 rfl Tryz.ntmps61 rfl (S := [_,_]) rfl (fun C => (wc_seq (wc_region (wP rfl (wl_nil (we_then (wc_keep [0,1] (S' := [_,_]) rfl (wc_seq (wc_seq (wc_region (wP rfl (wN rfl tE_25 (wP rfl (wN rfl tE_25 ?_))))))))))))))
 refine wP rfl (wl_as (d := 10) (v' := .bool (k1 != l2.length)) (S' := [_,_,_,_,_,_]) rfl rfl (natne (a := k1) (b := l2.length)) (wl_nil (we_then (wc_keep [10,0,1] (S' := [_,_,_]) rfl ?_))))
 refine wc_cond rfl (fun hb10 => ?_) (fun hb10 => ?_)
 ·
  replace hm := iteT hm hb10
  refine wc_keep [] (S' := []) rfl (wc_seq (wc_region (wP rfl (wl_nil (we_then (wc_ret (we_then_ret ?_)))))))
  have hE := (Option.some.inj hm).symm
  replace hE := hE.symm
  subst hE
  refine ret_one (Hr := []) [] Tryz.results61 (res_tmp rfl) ⟨rfl, rfl, rfl⟩ (asK [] rfl) rfl rfl (.inl rfl)
 ·
  replace hm := iteF hm hb10
  refine wc_keep [0,1] (S' := [_,_]) rfl (wc_skip (we_then (wc_seq ?_)))
  obtain ⟨bj_1, hm, hLj_1⟩ := bindS_some hm
  refine wc_cut (σ := Unit) (fun _ => bj_1 = .inl ()) (fun _ => []) (fun _ => []) (fun _ => []) ?_ ?_
  ·
   refine wc_seq (wc_region (wP rfl (wl_nil (we_then (wc_block (wc_loop (σ := Nat × Nat) (fun (nu1, u1_5) => iter (m_ropewalkkit_SameValues_W_L1 N k1 l0 l2) nu1 u1_5 = some bj_1) (fun (nu1, u1_5) => nu1) (fun (nu1, u1_5) => [(5, .int .i64 ((u1_5 : Nat) : Int)), (0, .slice qp0 k1 qc1), (1, .slice qp2 l2.length qc3)]) (fun (nu1, u1_5) => [.sli 3 R_V qp0 qc1 l0, .sli 3 R_V qp2 qc3 l2]) (fun (nu1, u1_5) => []) (N, 0) hm [5,0,1] rfl (asK [0,1] rfl) rfl (fun s_ hm => ?_)))))))
   obtain ⟨nu1, u1_5⟩ := s_
   try dsimp only at hm ⊢
   obtain ⟨mu1, bu1, hnu1, hq, hLu1⟩ := iter_some hm
   clear hm
   subst hnu1
   replace hm := hq
   clear hq
   unfold m_ropewalkkit_SameValues_W_L1 at hm
   try dsimp only at hm
   refine wc_seq (wc_seq (wc_region (wP rfl (wP rfl (wN rfl tE_25 (wP rfl (wl_as (d := 14) (v' := .bool (decide (u1_5 < k1))) (S' := [_,_,_,_,_,_]) rfl rfl (natlt (a := u1_5) (b := k1)) (wl_nil (we_then (wc_keep [14,5,0,1] (S' := [_,_,_,_]) rfl ?_))))))))))
   refine wc_cond rfl (fun hb14 => ?_) (fun hb14 => ?_)
   ·
    replace hm := iteT hm hb14
    refine wc_keep [5,0,1] (S' := [_,_,_]) rfl (wc_skip (we_then (wc_seq (wc_block (wc_seq ?_)))))
    obtain ⟨hqx19, hm⟩ := gd_some hm
    obtain ⟨x19, hx19, hm⟩ := bindO_some hm
    obtain ⟨x23, hx23, hm⟩ := bindO_some hm
    refine wc_draw [0,1,2,3,4,5,6,7,8] rfl rfl (fun hok => (xP hok 0 rfl (xP hok 1 rfl (wx_indexF hok 2 0 u1_5 rfl rfl rfl (freshS_eq rfl) rfl rfl rfl rfl rfl rfl hqx19 hx19 tE_25 tS_51 (fun b19 q19 cs19 hlx19 => (wx_openR R_V_opens 1 rfl (fun r19 er19 _ => ?_)))))))
    subst er19
    refine wx_load hok 3 0 0 rfl rfl rfl (freshS_eq rfl) rfl rfl rfl rfl (cs := [_,_,_]) rfl tS_51 tA_51 rfl rfl (xP hok 4 rfl (xP hok 5 rfl (wx_indexA hok 6 3 u1_5 rfl rfl rfl (freshS_eq rfl) rfl rfl rfl rfl rfl rfl hx23 tE_25 tS_51 (fun b23 q23 cs23 hlx23 => (wx_openR R_V_opens 1 rfl (fun r23 er23 _ => ?_))))))
    subst er23
    refine wx_load hok 7 0 0 rfl rfl rfl (freshS_eq rfl) rfl rfl rfl rfl (cs := [_,_,_]) rfl tS_51 tA_51 rfl rfl (wx_bin hok 8 rfl rfl rfl (freshS_eq rfl) rfl rfl rfl rfl (neqV _ _ x19 x23) (wx_done hok rfl (we_then (wc_keep [25,5,0,1] (S' := [_,_,_,_]) rfl ?_))))
    refine wc_cond rfl (fun hb25 => ?_) (fun hb25 => ?_)
    ·
     replace hm := iteT hm hb25
     refine wc_keep [] (S' := []) rfl (wc_seq (wc_region (wP rfl (wl_nil (we_then (wc_ret (we_block_ret (we_then_ret (we_then_ret (we_block_ret (we_then_ret ?_)))))))))))
     have hE := (Option.some.inj hm).symm
     replace hE := link_inr hLu1 hE
     replace hE := link_inr hLj_1 hE
     replace hE := hE.symm
     subst hE
     refine ret_one (Hr := []) [] Tryz.results61 (res_tmp rfl) ⟨rfl, rfl, rfl⟩ (asK [] rfl) rfl rfl (.inl rfl)
    ·
     replace hm := iteF hm hb25
     refine wc_keep [5,0,1] (S' := [_,_,_]) rfl (wc_skip (we_block_normal (we_then (wc_region (wP rfl (wP rfl ?_))))))
     obtain ⟨hg16, hm⟩ := gd_some hm
     refine wl_as (d := 16) (v' := .int .i64 ((u1_5 + 1 : Nat) : Int)) (S' := [_,_,_,_]) rfl rfl (nat_add (a := u1_5) (b := 1) hg16) (wl_pure (S' := [_,_,_,_]) rfl rfl rfl rfl rfl (wl_nil ?_))
     have hE := (Option.some.inj hm).symm
     replace hE := link_inl hLu1 hE
     refine we_roundK (_, u1_5 + 1) (Nat.lt_succ_self _) hE [5,0,1] rfl (asK [4,5] rfl) rfl
   ·
    replace hm := iteF hm hb14
    refine wc_keep [] (S' := []) rfl (wc_exit (we_then_exit (we_then_exit (we_block_hit ?_))))
    have hE := (Option.some.inj hm).symm
    replace hE := link_inr hLu1 hE
    refine we_join () hE [] rfl (asK [] rfl) rfl
  ·
   rintro _ hE
   try dsimp only
   have hm := link_inl hLj_1 hE
   try dsimp only at hm
   refine wc_seq (wc_region (wP rfl (wl_nil (we_then (wc_ret ?_)))))
   have hE := (Option.some.inj hm).symm
   replace hE := hE.symm
   subst hE
   refine ret_one (Hr := []) [] Tryz.results61 (res_tmp rfl) ⟨rfl, rfl, rfl⟩ (asK [] rfl) rfl rfl (.inl rfl)
theorem w_ropewalkkit_SameFact_W_s (N : Nat) (a0 : Int) (a1 : Int) (qp0 : Option Addr) (qc1 : Nat) (l2 : List V) (k3 : Nat) (a4 : Int) (a5 : Int) (qp2 : Option Addr) (qc3 : Nat) (l6 : List V) (o0 : Bool) (hm : m_ropewalkkit_SameFact_W N a0 a1 l2 k3 a4 a5 l6 = some o0) : Spec Tryz.prog 32 [.agg #[.int .i64 a0, .int .i64 a1, .slice qp0 k3 qc1], .agg #[.int .i64 a4, .int .i64 a5, .slice qp2 l6.length qc3]] [.sli 3 R_V qp0 qc1 l2, .sli 3 R_V qp2 qc3 l6] [] (fun v Φr Hr => v = .bool o0 ∧ Φr = [] ∧ Hr = []) := by
 unfold m_ropewalkkit_SameFact_W at hm
 refine spec_of Tryz.func32 rfl Tryz.ntmps32 rfl (S := [_,_]) rfl (fun C => (wc_seq (wc_region (wB rfl (fun g2 => (wB rfl (fun g3 => (wP rfl (wl_nil (we_then (wc_keep [3,2] (S' := [_,_]) rfl (wc_seq (wc_region (wF rfl tF_27_0 (wD 1 0 rfl tS_3 tA_3 rfl (wF rfl tF_27_0 ?_))))))))))))))))
 refine wD 0 0 rfl tS_3 tA_3 rfl (wP rfl (wP rfl ?_))
 refine wl_split (d := 10) (S' := [_,_,_,_,_,_,_]) rfl rfl (fun hs10 => ?_) (fun hs10 => ?_)
 ·
  replace hm := iteT hm hs10
  refine wF rfl tF_27_1 (wD 1 1 rfl tS_3 tA_3 rfl (wF rfl tF_27_1 (wD 0 1 rfl tS_3 tA_3 rfl (wP rfl (wP rfl (wP rfl ?_))))))
  refine wl_split (d := 17) (S' := [_,_,_,_,_,_,_,_,_,_,_,_,_,_]) rfl rfl (fun hs17 => ?_) (fun hs17 => ?_)
  ·
   replace hm := iteT hm hs17
   refine wF rfl tF_27_2 (wD 1 2 rfl tS_25 tA_25 rfl (wF rfl tF_27_2 (wD 0 2 rfl tS_25 tA_25 rfl ?_)))
   obtain ⟨v22, hc22, hm⟩ := bindO_some hm
   refine wC [] [0,1] rfl fn_61 rfl (w_ropewalkkit_SameValues_W_s N qp0 qc1 l2 k3 qp2 qc3 l6 _ hc22) (asK [0,1] rfl) rfl (H' := [_,_]) rfl ?_
   rintro _ _ _ ⟨rfl, rfl, rfl⟩
   refine wP rfl (wP rfl (wl_nil (we_then (wc_keep [4] (S' := [_]) rfl (wc_ret ?_)))))
   have hE := (Option.some.inj hm).symm
   replace hE := hE.symm
   subst hE
   refine ret_one (Hr := []) [] Tryz.results32 (res_tmp rfl) ⟨rfl, rfl, rfl⟩ (asK [] rfl) rfl rfl (.inl rfl)
  ·
   replace hm := iteF hm hs17
   refine wO rfl (wO rfl (wO rfl (wO rfl (wO rfl (wP rfl (wP rfl (wl_nil (we_then (wc_keep [4] (S' := [_]) rfl (wc_ret ?_))))))))))
   have hE := (Option.some.inj hm).symm
   replace hE := hE.symm
   subst hE
   refine ret_one (Hr := []) [] Tryz.results32 (res_tmp rfl) ⟨rfl, rfl, rfl⟩ (asK [] rfl) rfl rfl (.inl rfl)
 ·
  replace hm := iteF hm hs10
  refine wO rfl (wO rfl (wO rfl (wO rfl (wO rfl (wP rfl (wP rfl (wO rfl (wO rfl (wO rfl (wO rfl (wO rfl (wP rfl (wP rfl ?_)))))))))))))
  refine wl_nil (we_then (wc_keep [4] (S' := [_]) rfl (wc_ret ?_)))
  have hE := (Option.some.inj hm).symm
  replace hE := hE.symm
  subst hE
  refine ret_one (Hr := []) [] Tryz.results32 (res_tmp rfl) ⟨rfl, rfl, rfl⟩ (asK [] rfl) rfl rfl (.inl rfl)
theorem w_ropewalkkit_KeptValues_W_s (N : Nat) (qp0 : Option Addr) (qc1 : Nat) (l0 : List V) (k1 : Nat) (qp2 : Option Addr) (qc3 : Nat) (l2 : List V) (o0 : Bool) (hm : m_ropewalkkit_KeptValues_W N l0 k1 l2 = some o0) : Spec Tryz.prog 42 [.slice qp0 k1 qc1, .slice qp2 l2.length qc3] [.sli 3 R_V qp0 qc1 l0, .sli 3 R_V qp2 qc3 l2] [] (fun v Φr Hr => v = .bool o0 ∧ Φr = [] ∧ Hr = []) := by
 unfold m_ropewalkkit_KeptValues_W at hm
 refine spec_of Tryz.func42 rfl Tryz.ntmps42 rfl (S := [_,_]) rfl (fun C => (wc_seq (wc_region (wP rfl (wl_nil (we_then (wc_keep [0,1] (S' := [_,_]) rfl (wc_seq (wc_seq (wc_region (wP rfl (wN rfl tE_25 (wP rfl (wN rfl tE_25 ?_))))))))))))))
 refine wP rfl (wl_as (d := 11) (v' := .bool (k1 != l2.length)) (S' := [_,_,_,_,_,_]) rfl rfl (natne (a := k1) (b := l2.length)) (wl_nil (we_then (wc_keep [11,0,1] (S' := [_,_,_]) rfl ?_))))
 refine wc_cond rfl (fun hb11 => ?_) (fun hb11 => ?_)
 ·
  replace hm := iteT hm hb11
  refine wc_keep [] (S' := []) rfl (wc_seq (wc_region (wP rfl (wl_nil (we_then (wc_ret (we_then_ret ?_)))))))
  have hE := (Option.some.inj hm).symm
  replace hE := hE.symm
  subst hE
  refine ret_one (Hr := []) [] Tryz.results42 (res_tmp rfl) ⟨rfl, rfl, rfl⟩ (asK [] rfl) rfl rfl (.inl rfl)
 ·
  replace hm := iteF hm hb11
  refine wc_keep [0,1] (S' := [_,_]) rfl (wc_skip (we_then (wc_seq (wc_region (wP rfl (wP rfl (wN rfl tE_25 (wP rfl ?_))))))))
  obtain ⟨hg15, hm⟩ := gd_some hm
  refine wl_as (d := 15) (v' := .int .i64 ((l2.length + 12 : Nat) : Int)) (S' := [_,_,_,_,_]) rfl rfl (nat_add (a := l2.length) (b := 12) hg15) ?_
  obtain ⟨hg16, hm⟩ := gd_some hm
  refine wl_sliToF 0 rfl rfl rfl (freshS_eq rfl) rfl rfl rfl rfl rfl tE_25 tS_51 hg16 (fun p16 => (wP rfl (wl_nil (we_then (wc_keep [5,1] (S' := [_,_]) rfl (wc_seq ?_))))))
  obtain ⟨bj_1, hm, hLj_1⟩ := bindS_some hm
  refine wc_cut (σ := Unit) (fun _ => bj_1 = .inl ()) (fun _ => []) (fun _ => []) (fun _ => []) ?_ ?_
  ·
   refine wc_seq (wc_region (wP rfl (wl_nil (we_then (wc_block (wc_loop (σ := Nat × Nat) (fun (nu1, u1_6) => iter (m_ropewalkkit_KeptValues_W_L1 N l0 l2) nu1 u1_6 = some bj_1) (fun (nu1, u1_6) => nu1) (fun (nu1, u1_6) => [(6, .int .i64 ((u1_6 : Nat) : Int)), (5, .slice p16 ((l0.take (l2.length + 12)).length) qc1), (1, .slice qp2 l2.length qc3)]) (fun (nu1, u1_6) => [.sli 3 R_V p16 qc1 (l0.take (l2.length + 12)), .sli 3 R_V qp2 qc3 l2]) (fun (nu1, u1_6) => []) (N, 0) hm [6,5,1] rfl (asK [0,2] rfl) rfl (fun s_ hm => ?_)))))))
   obtain ⟨nu1, u1_6⟩ := s_
   try dsimp only at hm ⊢
   obtain ⟨mu1, bu1, hnu1, hq, hLu1⟩ := iter_some hm
   clear hm
   subst hnu1
   replace hm := hq
   clear hq
   unfold m_ropewalkkit_KeptValues_W_L1 at hm
   try dsimp only at hm
   refine wc_seq (wc_seq (wc_region (wP rfl (wP rfl (wN rfl tE_25 (wP rfl (wl_as (d := 20) (v' := .bool (decide (u1_6 < ((l0.take (l2.length + 12)).length)))) (S' := [_,_,_,_,_,_]) rfl rfl (natlt (a := u1_6) (b := (l0.take (l2.length + 12)).length)) (wl_nil (we_then (wc_keep [20,6,5,1] (S' := [_,_,_,_]) rfl ?_))))))))))
   refine wc_cond rfl (fun hb20 => ?_) (fun hb20 => ?_)
   ·
    replace hm := iteT hm hb20
    refine wc_keep [6,5,1] (S' := [_,_,_]) rfl (wc_skip (we_then (wc_seq (wc_block (wc_seq ?_)))))
    obtain ⟨bj_2, hm, hLj_2⟩ := bindO_some hm
    unfold m_ropewalkkit_KeptValues_W_C2 at hm
    refine wc_cut (σ := Bool) (fun j_2_57 => bj_2 = j_2_57) (fun j_2_57 => [(6, .int .i64 ((u1_6 : Nat) : Int)), (5, .slice p16 ((l0.take (l2.length + 12)).length) qc1), (1, .slice qp2 l2.length qc3), (57, .bool j_2_57)]) (fun j_2_57 => [.sli 3 R_V p16 qc1 (l0.take (l2.length + 12)), .sli 3 R_V qp2 qc3 l2]) (fun j_2_57 => []) ?_ ?_
    ·
     rcases ite_some hm with ⟨hs27, hm⟩ | ⟨hs27, hm⟩
     ·
      obtain ⟨x30, hx30, hm⟩ := bindO_some hm
      obtain ⟨x34, hx34, hm⟩ := bindO_some hm
      rcases ite_some hm with ⟨hs39, hm⟩ | ⟨hs39, hm⟩
      ·
       refine wc_draw [0,1,2,3,4,5,6,7,8,9,10,11,12,13,14,15,16,17,18,19,20,21,22,23,24,25,26,27,28,29,31,32,33,34] rfl rfl (fun hok => (xP hok 0 rfl (xP hok 1 rfl (wx_len hok 2 rfl rfl rfl (freshS_eq rfl) rfl rfl rfl tE_25 (xP hok 3 rfl (wx_as (d := 26) (v' := .bool (decide (u1_6 < l2.length))) (S' := [_,_,_,_,_,_]) rfl rfl (natlt (a := u1_6) (b := l2.length)) (xP hok 4 rfl (wx_as (d := 27) (v' := .bool true) (S' := [_,_,_,_,_,_,_]) rfl rfl (bool_is hs27) (xP hok 5 rfl (xP hok 6 rfl (wx_indexA hok 7 0 u1_6 rfl rfl rfl (freshS_eq rfl) rfl rfl rfl rfl rfl rfl hx30 tE_25 tS_51 (fun b30 q30 cs30 hlx30 => (wx_openR R_V_opens 1 rfl (fun r30 er30 _ => ?_))))))))))))))
       subst er30
       refine wx_load hok 8 0 0 rfl rfl rfl (freshS_eq rfl) rfl rfl rfl rfl (cs := [_,_,_]) rfl tS_51 tA_51 rfl rfl (xP hok 9 rfl (xP hok 10 rfl (wx_indexA hok 11 3 u1_6 rfl rfl rfl (freshS_eq rfl) rfl rfl rfl rfl rfl rfl hx34 tE_25 tS_51 (fun b34 q34 cs34 hlx34 => (wx_openR R_V_opens 1 rfl (fun r34 er34 _ => ?_))))))
       subst er34
       refine wx_load hok 12 0 0 rfl rfl rfl (freshS_eq rfl) rfl rfl rfl rfl (cs := [_,_,_]) rfl tS_51 tA_51 rfl rfl (wx_bin hok 13 rfl rfl rfl (freshS_eq rfl) rfl rfl rfl rfl (eqlV _ _ x30 x34) (xP hok 14 rfl (xP hok 15 rfl (xP hok 16 rfl (wx_as (d := 39) (v' := .bool true) (S' := [_,_,_,_,_,_,_,_,_,_,_,_,_,_,_,_,_,_,_]) rfl rfl (bool_is hs39) (xO hok 17 rfl (xO hok 18 rfl (xO hok 19 rfl (xO hok 20 rfl (xO hok 21 rfl (xO hok 22 rfl (xO hok 23 rfl (xO hok 24 rfl ?_)))))))))))))
       refine xO hok 25 rfl (xO hok 26 rfl (xO hok 27 rfl (xO hok 28 rfl (xO hok 29 rfl (xS hok 30 rfl (wO rfl (wl_nil (we_x [0,1,2,3,4,5] [] rfl rfl (xO hok 31 rfl (xO hok 32 rfl (xO hok 33 rfl (xP hok 34 rfl (wx_done hok rfl ?_)))))))))))))
       have hE := (Option.some.inj hm).symm
       refine we_join true hE [6,5,1,57] rfl (asK [4,5] rfl) rfl
      ·
       rcases ite_some hm with ⟨hs44, hm⟩ | ⟨hs44, hm⟩
       ·
        obtain ⟨x47, hx47, hm⟩ := bindO_some hm
        obtain ⟨hg52, hm⟩ := gd_some hm
        obtain ⟨_, hc53, hm⟩ := bindO_some hm
        try dsimp only at hm
        refine wc_draw [0,1,2,3,4,5,6,7,8,9,10,11,12,13,14,15,16,17,18,19,20,21,22,23,24,25,26,27,28,29,31,32,33,34] rfl rfl (fun hok => (xP hok 0 rfl (xP hok 1 rfl (wx_len hok 2 rfl rfl rfl (freshS_eq rfl) rfl rfl rfl tE_25 (xP hok 3 rfl (wx_as (d := 26) (v' := .bool (decide (u1_6 < l2.length))) (S' := [_,_,_,_,_,_]) rfl rfl (natlt (a := u1_6) (b := l2.length)) (xP hok 4 rfl (wx_as (d := 27) (v' := .bool true) (S' := [_,_,_,_,_,_,_]) rfl rfl (bool_is hs27) (xP hok 5 rfl (xP hok 6 rfl (wx_indexA hok 7 0 u1_6 rfl rfl rfl (freshS_eq rfl) rfl rfl rfl rfl rfl rfl hx30 tE_25 tS_51 (fun b30 q30 cs30 hlx30 => (wx_openR R_V_opens 1 rfl (fun r30 er30 _ => ?_))))))))))))))
        subst er30
        refine wx_load hok 8 0 0 rfl rfl rfl (freshS_eq rfl) rfl rfl rfl rfl (cs := [_,_,_]) rfl tS_51 tA_51 rfl rfl (xP hok 9 rfl (xP hok 10 rfl (wx_indexA hok 11 3 u1_6 rfl rfl rfl (freshS_eq rfl) rfl rfl rfl rfl rfl rfl hx34 tE_25 tS_51 (fun b34 q34 cs34 hlx34 => (wx_openR R_V_opens 1 rfl (fun r34 er34 _ => ?_))))))
        subst er34
        refine wx_load hok 12 0 0 rfl rfl rfl (freshS_eq rfl) rfl rfl rfl rfl (cs := [_,_,_]) rfl tS_51 tA_51 rfl rfl (wx_bin hok 13 rfl rfl rfl (freshS_eq rfl) rfl rfl rfl rfl (eqlV _ _ x30 x34) (xP hok 14 rfl (xP hok 15 rfl (xP hok 16 rfl (wx_as (d := 39) (v' := .bool false) (S' := [_,_,_,_,_,_,_,_,_,_,_,_,_,_,_,_,_,_,_]) rfl rfl (bool_is hs39) (xP hok 17 rfl (xP hok 18 rfl (wx_len hok 19 rfl rfl rfl (freshS_eq rfl) rfl rfl rfl tE_25 (xP hok 20 rfl (wx_as (d := 43) (v' := .bool (decide (l2.length ≤ u1_6))) (S' := [_,_,_,_,_,_,_,_,_,_,_,_,_,_,_,_,_,_,_,_,_,_,_]) rfl rfl (natge (a := u1_6) (b := l2.length)) (xP hok 21 rfl (wx_as (d := 44) (v' := .bool true) (S' := [_,_,_,_,_,_,_,_,_,_,_,_,_,_,_,_,_,_,_,_,_,_,_,_]) rfl rfl (bool_is hs44) (xP hok 22 rfl ?_)))))))))))))
        refine xP hok 23 rfl (wx_indexA hok 24 4 u1_6 rfl rfl rfl (freshS_eq rfl) rfl rfl rfl rfl rfl rfl hx47 tE_25 tS_51 (fun b47 q47 cs47 hlx47 => (wx_openR R_V_opens 1 rfl (fun r47 er47 _ => ?_))))
        subst er47
        refine wx_load hok 25 0 0 rfl rfl rfl (freshS_eq rfl) rfl rfl rfl rfl (cs := [_,_,_]) rfl tS_51 tA_51 rfl rfl (xP hok 26 rfl (xP hok 27 rfl (wx_len hok 28 rfl rfl rfl (freshS_eq rfl) rfl rfl rfl tE_25 (xP hok 29 rfl (wx_as (d := 52) (v' := .int .i64 (((u1_6 : Nat) : Int) - ((l2.length : Nat) : Int))) (S' := [_,_,_,_,_,_,_,_,_,_,_,_,_,_,_,_,_,_,_,_,_,_,_,_,_,_,_,_,_,_,_,_]) rfl rfl (i64_in hg52) (xS hok 30 rfl (wC [] [] rfl fn_62 rfl (w_ropewalkkit_markValue_s N 1 (((u1_6 : Nat) : Int) - ((l2.length : Nat) : Int)) hc53) (asK [] rfl) rfl (H' := []) rfl ?_)))))))
        rintro _ _ _ ⟨rfl, rfl, rfl⟩
        refine wl_nil (we_x [0,1,2,3,4,5,6,7] [] rfl rfl (wx_bin hok 31 rfl rfl rfl (freshS_eq rfl) rfl rfl rfl rfl (eqlV _ _ x47 (⟨0, IntKind.wrap .i64 ((IntKind.wrap .i64 (1000003 * (IntKind.wrap .i64 (1 + 7)))) + (((u1_6 : Nat) : Int) - ((l2.length : Nat) : Int))), (⟨#[]⟩ : ByteArray)⟩ : V)) (xP hok 32 rfl (xP hok 33 rfl (xP hok 34 rfl (wx_done hok rfl ?_))))))
        have hE := (Option.some.inj hm).symm
        refine we_join (!(decide (x47 = (⟨0, IntKind.wrap .i64 ((IntKind.wrap .i64 (1000003 * (IntKind.wrap .i64 (1 + 7)))) + (((u1_6 : Nat) : Int) - ((l2.length : Nat) : Int))), (⟨#[]⟩ : ByteArray)⟩ : V)))) hE [6,5,1,57] rfl (asK [6,7] rfl) rfl
       ·
        refine wc_draw [0,1,2,3,4,5,6,7,8,9,10,11,12,13,14,15,16,17,18,19,20,21,22,23,24,25,26,27,28,29,31,32,33,34] rfl rfl (fun hok => (xP hok 0 rfl (xP hok 1 rfl (wx_len hok 2 rfl rfl rfl (freshS_eq rfl) rfl rfl rfl tE_25 (xP hok 3 rfl (wx_as (d := 26) (v' := .bool (decide (u1_6 < l2.length))) (S' := [_,_,_,_,_,_]) rfl rfl (natlt (a := u1_6) (b := l2.length)) (xP hok 4 rfl (wx_as (d := 27) (v' := .bool true) (S' := [_,_,_,_,_,_,_]) rfl rfl (bool_is hs27) (xP hok 5 rfl (xP hok 6 rfl (wx_indexA hok 7 0 u1_6 rfl rfl rfl (freshS_eq rfl) rfl rfl rfl rfl rfl rfl hx30 tE_25 tS_51 (fun b30 q30 cs30 hlx30 => (wx_openR R_V_opens 1 rfl (fun r30 er30 _ => ?_))))))))))))))
        subst er30
        refine wx_load hok 8 0 0 rfl rfl rfl (freshS_eq rfl) rfl rfl rfl rfl (cs := [_,_,_]) rfl tS_51 tA_51 rfl rfl (xP hok 9 rfl (xP hok 10 rfl (wx_indexA hok 11 3 u1_6 rfl rfl rfl (freshS_eq rfl) rfl rfl rfl rfl rfl rfl hx34 tE_25 tS_51 (fun b34 q34 cs34 hlx34 => (wx_openR R_V_opens 1 rfl (fun r34 er34 _ => ?_))))))
        subst er34
        refine wx_load hok 12 0 0 rfl rfl rfl (freshS_eq rfl) rfl rfl rfl rfl (cs := [_,_,_]) rfl tS_51 tA_51 rfl rfl (wx_bin hok 13 rfl rfl rfl (freshS_eq rfl) rfl rfl rfl rfl (eqlV _ _ x30 x34) (xP hok 14 rfl (xP hok 15 rfl (xP hok 16 rfl (wx_as (d := 39) (v' := .bool false) (S' := [_,_,_,_,_,_,_,_,_,_,_,_,_,_,_,_,_,_,_]) rfl rfl (bool_is hs39) (xP hok 17 rfl (xP hok 18 rfl (wx_len hok 19 rfl rfl rfl (freshS_eq rfl) rfl rfl rfl tE_25 (xP hok 20 rfl (wx_as (d := 43) (v' := .bool (decide (l2.length ≤ u1_6))) (S' := [_,_,_,_,_,_,_,_,_,_,_,_,_,_,_,_,_,_,_,_,_,_,_]) rfl rfl (natge (a := u1_6) (b := l2.length)) (xP hok 21 rfl (wx_as (d := 44) (v' := .bool false) (S' := [_,_,_,_,_,_,_,_,_,_,_,_,_,_,_,_,_,_,_,_,_,_,_,_]) rfl rfl (bool_is hs44) (xO hok 22 rfl ?_)))))))))))))
        refine xO hok 23 rfl (xO hok 24 rfl (xO hok 25 rfl (xO hok 26 rfl (xO hok 27 rfl (xO hok 28 rfl (xO hok 29 rfl (xS hok 30 rfl (wO rfl (wl_nil (we_x [0,1,2,3,4,5] [] rfl rfl (xO hok 31 rfl (xO hok 32 rfl (xP hok 33 rfl ?_)))))))))))))
        refine xP hok 34 rfl (wx_done hok rfl ?_)
        have hE := (Option.some.inj hm).symm
        refine we_join false hE [6,5,1,57] rfl (asK [4,5] rfl) rfl
     ·
      rcases ite_some hm with ⟨hs44, hm⟩ | ⟨hs44, hm⟩
      ·
       obtain ⟨x47, hx47, hm⟩ := bindO_some hm
       obtain ⟨hg52, hm⟩ := gd_some hm
       obtain ⟨_, hc53, hm⟩ := bindO_some hm
       try dsimp only at hm
       refine wc_draw [0,1,2,3,4,5,6,7,8,9,10,11,12,13,14,15,16,17,18,19,20,21,22,23,24,25,26,27,28,29,31,32,33,34] rfl rfl (fun hok => (xP hok 0 rfl (xP hok 1 rfl (wx_len hok 2 rfl rfl rfl (freshS_eq rfl) rfl rfl rfl tE_25 (xP hok 3 rfl (wx_as (d := 26) (v' := .bool (decide (u1_6 < l2.length))) (S' := [_,_,_,_,_,_]) rfl rfl (natlt (a := u1_6) (b := l2.length)) (xP hok 4 rfl (wx_as (d := 27) (v' := .bool false) (S' := [_,_,_,_,_,_,_]) rfl rfl (bool_is hs27) (xO hok 5 rfl (xO hok 6 rfl (xO hok 7 rfl (xO hok 8 rfl (xO hok 9 rfl (xO hok 10 rfl ?_))))))))))))))
       refine xO hok 11 rfl (xO hok 12 rfl (xO hok 13 rfl (xO hok 14 rfl (xP hok 15 rfl (xP hok 16 rfl (xP hok 17 rfl (xP hok 18 rfl (wx_len hok 19 rfl rfl rfl (freshS_eq rfl) rfl rfl rfl tE_25 (xP hok 20 rfl (wx_as (d := 43) (v' := .bool (decide (l2.length ≤ u1_6))) (S' := [_,_,_,_,_,_,_,_,_,_,_,_,_,_,_,_,_,_,_,_,_,_,_]) rfl rfl (natge (a := u1_6) (b := l2.length)) (xP hok 21 rfl (wx_as (d := 44) (v' := .bool true) (S' := [_,_,_,_,_,_,_,_,_,_,_,_,_,_,_,_,_,_,_,_,_,_,_,_]) rfl rfl (bool_is hs44) (xP hok 22 rfl ?_)))))))))))))
       refine xP hok 23 rfl (wx_indexA hok 24 0 u1_6 rfl rfl rfl (freshS_eq rfl) rfl rfl rfl rfl rfl rfl hx47 tE_25 tS_51 (fun b47 q47 cs47 hlx47 => (wx_openR R_V_opens 1 rfl (fun r47 er47 _ => ?_))))
       subst er47
       refine wx_load hok 25 0 0 rfl rfl rfl (freshS_eq rfl) rfl rfl rfl rfl (cs := [_,_,_]) rfl tS_51 tA_51 rfl rfl (xP hok 26 rfl (xP hok 27 rfl (wx_len hok 28 rfl rfl rfl (freshS_eq rfl) rfl rfl rfl tE_25 (xP hok 29 rfl (wx_as (d := 52) (v' := .int .i64 (((u1_6 : Nat) : Int) - ((l2.length : Nat) : Int))) (S' := [_,_,_,_,_,_,_,_,_,_,_,_,_,_,_,_,_,_,_,_,_,_,_,_,_,_,_,_,_,_,_,_]) rfl rfl (i64_in hg52) (xS hok 30 rfl (wC [] [] rfl fn_62 rfl (w_ropewalkkit_markValue_s N 1 (((u1_6 : Nat) : Int) - ((l2.length : Nat) : Int)) hc53) (asK [] rfl) rfl (H' := []) rfl ?_)))))))
       rintro _ _ _ ⟨rfl, rfl, rfl⟩
       refine wl_nil (we_x [0,1,2,3] [] rfl rfl (wx_bin hok 31 rfl rfl rfl (freshS_eq rfl) rfl rfl rfl rfl (eqlV _ _ x47 (⟨0, IntKind.wrap .i64 ((IntKind.wrap .i64 (1000003 * (IntKind.wrap .i64 (1 + 7)))) + (((u1_6 : Nat) : Int) - ((l2.length : Nat) : Int))), (⟨#[]⟩ : ByteArray)⟩ : V)) (xP hok 32 rfl (xP hok 33 rfl (xP hok 34 rfl (wx_done hok rfl ?_))))))
       have hE := (Option.some.inj hm).symm
       refine we_join (!(decide (x47 = (⟨0, IntKind.wrap .i64 ((IntKind.wrap .i64 (1000003 * (IntKind.wrap .i64 (1 + 7)))) + (((u1_6 : Nat) : Int) - ((l2.length : Nat) : Int))), (⟨#[]⟩ : ByteArray)⟩ : V)))) hE [6,5,1,57] rfl (asK [2,3] rfl) rfl
      ·
       refine wc_draw [0,1,2,3,4,5,6,7,8,9,10,11,12,13,14,15,16,17,18,19,20,21,22,23,24,25,26,27,28,29,31,32,33,34] rfl rfl (fun hok => (xP hok 0 rfl (xP hok 1 rfl (wx_len hok 2 rfl rfl rfl (freshS_eq rfl) rfl rfl rfl tE_25 (xP hok 3 rfl (wx_as (d := 26) (v' := .bool (decide (u1_6 < l2.length))) (S' := [_,_,_,_,_,_]) rfl rfl (natlt (a := u1_6) (b := l2.length)) (xP hok 4 rfl (wx_as (d := 27) (v' := .bool false) (S' := [_,_,_,_,_,_,_]) rfl rfl (bool_is hs27) (xO hok 5 rfl (xO hok 6 rfl (xO hok 7 rfl (xO hok 8 rfl (xO hok 9 rfl (xO hok 10 rfl ?_))))))))))))))
       refine xO hok 11 rfl (xO hok 12 rfl (xO hok 13 rfl (xO hok 14 rfl (xP hok 15 rfl (xP hok 16 rfl (xP hok 17 rfl (xP hok 18 rfl (wx_len hok 19 rfl rfl rfl (freshS_eq rfl) rfl rfl rfl tE_25 (xP hok 20 rfl (wx_as (d := 43) (v' := .bool (decide (l2.length ≤ u1_6))) (S' := [_,_,_,_,_,_,_,_,_,_,_,_,_,_,_,_,_,_,_,_,_,_,_]) rfl rfl (natge (a := u1_6) (b := l2.length)) (xP hok 21 rfl (wx_as (d := 44) (v' := .bool false) (S' := [_,_,_,_,_,_,_,_,_,_,_,_,_,_,_,_,_,_,_,_,_,_,_,_]) rfl rfl (bool_is hs44) (xO hok 22 rfl ?_)))))))))))))
       refine xO hok 23 rfl (xO hok 24 rfl (xO hok 25 rfl (xO hok 26 rfl (xO hok 27 rfl (xO hok 28 rfl (xO hok 29 rfl (xS hok 30 rfl (wO rfl (wl_nil (we_x [0,1] [] rfl rfl (xO hok 31 rfl (xO hok 32 rfl (xP hok 33 rfl ?_)))))))))))))
       refine xP hok 34 rfl (wx_done hok rfl ?_)
       have hE := (Option.some.inj hm).symm
       refine we_join false hE [6,5,1,57] rfl (asK [0,1] rfl) rfl
    ·
     rintro j_2_57 hE
     try dsimp only
     have hm := hLj_2
     rw [hE] at hm
     refine wc_cond rfl (fun hb57 => ?_) (fun hb57 => ?_)
     ·
      replace hm := iteT hm hb57
      refine wc_keep [] (S' := []) rfl (wc_seq (wc_region (wP rfl (wl_nil (we_then (wc_ret (we_block_ret (we_then_ret (we_then_ret (we_block_ret (we_then_ret ?_)))))))))))
      have hE := (Option.some.inj hm).symm
      replace hE := link_inr hLu1 hE
      replace hE := link_inr hLj_1 hE
      replace hE := hE.symm
      subst hE
      refine ret_one (Hr := []) [] Tryz.results42 (res_tmp rfl) ⟨rfl, rfl, rfl⟩ (asK [] rfl) rfl rfl (.inl rfl)
     ·
      replace hm := iteF hm hb57
      refine wc_keep [6,5,1] (S' := [_,_,_]) rfl (wc_skip (we_block_normal (we_then (wc_region (wP rfl (wP rfl ?_))))))
      obtain ⟨hg22, hm⟩ := gd_some hm
      refine wl_as (d := 22) (v' := .int .i64 ((u1_6 + 1 : Nat) : Int)) (S' := [_,_,_,_]) rfl rfl (nat_add (a := u1_6) (b := 1) hg22) (wl_pure (S' := [_,_,_,_]) rfl rfl rfl rfl rfl (wl_nil ?_))
      have hE := (Option.some.inj hm).symm
      replace hE := link_inl hLu1 hE
      refine we_roundK (_, u1_6 + 1) (Nat.lt_succ_self _) hE [6,5,1] rfl (asK [0,1] rfl) rfl
   ·
    replace hm := iteF hm hb20
    refine wc_keep [] (S' := []) rfl (wc_exit (we_then_exit (we_then_exit (we_block_hit ?_))))
    have hE := (Option.some.inj hm).symm
    replace hE := link_inr hLu1 hE
    refine we_join () hE [] rfl (asK [] rfl) rfl
  ·
   rintro _ hE
   try dsimp only
   have hm := link_inl hLj_1 hE
   try dsimp only at hm
   refine wc_seq (wc_region (wP rfl (wl_nil (we_then (wc_ret ?_)))))
   have hE := (Option.some.inj hm).symm
   replace hE := hE.symm
   subst hE
   refine ret_one (Hr := []) [] Tryz.results42 (res_tmp rfl) ⟨rfl, rfl, rfl⟩ (asK [] rfl) rfl rfl (.inl rfl)
theorem w_ropewalkkit_KeptFact_W_s (N : Nat) (a0 : Int) (a1 : Int) (qp0 : Option Addr) (qc1 : Nat) (l2 : List V) (k3 : Nat) (a4 : Int) (a5 : Int) (qp2 : Option Addr) (qc3 : Nat) (l6 : List V) (o0 : Bool) (hm : m_ropewalkkit_KeptFact_W N a0 a1 l2 k3 a4 a5 l6 = some o0) : Spec Tryz.prog 31 [.agg #[.int .i64 a0, .int .i64 a1, .slice qp0 k3 qc1], .agg #[.int .i64 a4, .int .i64 a5, .slice qp2 l6.length qc3]] [.sli 3 R_V qp0 qc1 l2, .sli 3 R_V qp2 qc3 l6] [] (fun v Φr Hr => v = .bool o0 ∧ Φr = [] ∧ Hr = []) := by
 unfold m_ropewalkkit_KeptFact_W at hm
 refine spec_of Tryz.func31 rfl Tryz.ntmps31 rfl (S := [_,_]) rfl (fun C => (wc_seq (wc_region (wB rfl (fun g2 => (wB rfl (fun g3 => (wP rfl (wl_nil (we_then (wc_keep [3,2] (S' := [_,_]) rfl (wc_seq (wc_region (wl_loadH 1 0 rfl rfl rfl (freshS_eq rfl) rfl rfl rfl (cs := [_,_,_]) rfl tS_27 tA_27 rfl rfl (wl_loadH 0 0 rfl rfl rfl (freshS_eq rfl) rfl rfl rfl (cs := [_,_,_]) rfl tS_27 tA_27 rfl rfl ?_)))))))))))))))
 obtain ⟨v7, hc7, hm⟩ := bindO_some hm
 refine wC [] [0,1] rfl fn_32 rfl (w_ropewalkkit_SameFact_W_s N a0 a1 qp0 qc1 l2 k3 a4 a5 qp2 qc3 l6 _ hc7) (asK [0,1] rfl) rfl (H' := [_,_]) rfl ?_
 rintro _ _ _ ⟨rfl, rfl, rfl⟩
 refine wP rfl ?_
 refine wl_split (d := 8) (S' := [_,_,_,_,_]) rfl rfl (fun hs8 => ?_) (fun hs8 => ?_)
 ·
  replace hm := iteT hm hs8
  refine wF rfl tF_27_2 (wD 1 2 rfl tS_25 tA_25 rfl (wF rfl tF_27_2 (wD 0 2 rfl tS_25 tA_25 rfl ?_)))
  obtain ⟨v13, hc13, hm⟩ := bindO_some hm
  refine wC [] [0,1] rfl fn_42 rfl (w_ropewalkkit_KeptValues_W_s N qp0 qc1 l2 k3 qp2 qc3 l6 _ hc13) (asK [0,1] rfl) rfl (H' := [_,_]) rfl ?_
  rintro _ _ _ ⟨rfl, rfl, rfl⟩
  refine wP rfl (wP rfl (wl_nil (we_then (wc_keep [4] (S' := [_]) rfl (wc_ret ?_)))))
  have hE := (Option.some.inj hm).symm
  replace hE := hE.symm
  subst hE
  refine ret_one (Hr := []) [] Tryz.results31 (res_tmp rfl) ⟨rfl, rfl, rfl⟩ (asK [] rfl) rfl rfl (.inl rfl)
 ·
  replace hm := iteF hm hs8
  refine wO rfl (wO rfl (wO rfl (wO rfl (wO rfl (wP rfl (wP rfl (wl_nil (we_then (wc_keep [4] (S' := [_]) rfl (wc_ret ?_))))))))))
  have hE := (Option.some.inj hm).symm
  replace hE := hE.symm
  subst hE
  refine ret_one (Hr := []) [] Tryz.results31 (res_tmp rfl) ⟨rfl, rfl, rfl⟩ (asK [] rfl) rfl rfl (.inl rfl)
theorem w_ropewalkkit_KeptFacts_W_s (N : Nat) (qp0 : Option Addr) (qc1 : Nat) (l0 : List FactDS) (k1 : Nat) (qp2 : Option Addr) (qc3 : Nat) (l2 : List FactD) (o0 : Bool) (hm : m_ropewalkkit_KeptFacts_W N l0 k1 l2 = some o0) : Spec Tryz.prog 11 [.slice qp0 k1 qc1, .slice qp2 l2.length qc3] [.sli 3 RS_FactD qp0 qc1 l0, .sli 3 R_FactD qp2 qc3 l2] [] (fun v Φr Hr => v = .bool o0 ∧ Φr = [] ∧ Hr = []) := by
 unfold m_ropewalkkit_KeptFacts_W at hm
 refine spec_of Tryz.func11 rfl Tryz.ntmps11 rfl (S := [_,_]) rfl (fun C => (wc_seq (wc_region (wP rfl (wl_nil (we_then (wc_keep [0,1] (S' := [_,_]) rfl (wc_seq (wc_seq (wc_region (wP rfl (wN rfl tE_22 (wP rfl (wN rfl tE_22 ?_))))))))))))))
 refine wP rfl (wl_as (d := 11) (v' := .bool (k1 != l2.length)) (S' := [_,_,_,_,_,_]) rfl rfl (natne (a := k1) (b := l2.length)) (wl_nil (we_then (wc_keep [11,0,1] (S' := [_,_,_]) rfl ?_))))
 refine wc_cond rfl (fun hb11 => ?_) (fun hb11 => ?_)
 ·
  replace hm := iteT hm hb11
  refine wc_keep [] (S' := []) rfl (wc_seq (wc_region (wP rfl (wl_nil (we_then (wc_ret (we_then_ret ?_)))))))
  have hE := (Option.some.inj hm).symm
  replace hE := hE.symm
  subst hE
  refine ret_one (Hr := []) [] Tryz.results11 (res_tmp rfl) ⟨rfl, rfl, rfl⟩ (asK [] rfl) rfl rfl (.inl rfl)
 ·
  replace hm := iteF hm hb11
  refine wc_keep [0,1] (S' := [_,_]) rfl (wc_skip (we_then (wc_seq (wc_region (wP rfl (wP rfl (wN rfl tE_22 (wP rfl ?_))))))))
  obtain ⟨hg15, hm⟩ := gd_some hm
  refine wl_as (d := 15) (v' := .int .i64 ((l2.length + 12 : Nat) : Int)) (S' := [_,_,_,_,_]) rfl rfl (nat_add (a := l2.length) (b := 12) hg15) ?_
  obtain ⟨hg16, hm⟩ := gd_some hm
  refine wl_sliToF 0 rfl rfl rfl (freshS_eq rfl) rfl rfl rfl rfl rfl tE_22 tS_27 hg16 (fun p16 => (wP rfl (wl_nil (we_then (wc_keep [5,1] (S' := [_,_]) rfl (wc_seq ?_))))))
  obtain ⟨bj_1, hm, hLj_1⟩ := bindS_some hm
  refine wc_cut (σ := Unit) (fun _ => bj_1 = .inl ()) (fun _ => []) (fun _ => []) (fun _ => []) ?_ ?_
  ·
   refine wc_seq (wc_region (wP rfl (wl_nil (we_then (wc_block (wc_loop (σ := Nat × Nat) (fun (nu1, u1_6) => iter (m_ropewalkkit_KeptFacts_W_L1 N l0 l2) nu1 u1_6 = some bj_1) (fun (nu1, u1_6) => nu1) (fun (nu1, u1_6) => [(6, .int .i64 ((u1_6 : Nat) : Int)), (5, .slice p16 ((l0.take (l2.length + 12)).length) qc1), (1, .slice qp2 l2.length qc3)]) (fun (nu1, u1_6) => [.sli 3 RS_FactD p16 qc1 (l0.take (l2.length + 12)), .sli 3 R_FactD qp2 qc3 l2]) (fun (nu1, u1_6) => []) (N, 0) hm [6,5,1] rfl (asK [0,2] rfl) rfl (fun s_ hm => ?_)))))))
   obtain ⟨nu1, u1_6⟩ := s_
   try dsimp only at hm ⊢
   obtain ⟨mu1, bu1, hnu1, hq, hLu1⟩ := iter_some hm
   clear hm
   subst hnu1
   replace hm := hq
   clear hq
   unfold m_ropewalkkit_KeptFacts_W_L1 at hm
   try dsimp only at hm
   refine wc_seq (wc_seq (wc_region (wP rfl (wP rfl (wN rfl tE_22 (wP rfl (wl_as (d := 20) (v' := .bool (decide (u1_6 < ((l0.take (l2.length + 12)).length)))) (S' := [_,_,_,_,_,_]) rfl rfl (natlt (a := u1_6) (b := (l0.take (l2.length + 12)).length)) (wl_nil (we_then (wc_keep [20,6,5,1] (S' := [_,_,_,_]) rfl ?_))))))))))
   refine wc_cond rfl (fun hb20 => ?_) (fun hb20 => ?_)
   ·
    replace hm := iteT hm hb20
    refine wc_keep [6,5,1] (S' := [_,_,_]) rfl (wc_skip (we_then (wc_seq (wc_block (wc_seq ?_)))))
    obtain ⟨bj_2, hm, hLj_2⟩ := bindO_some hm
    unfold m_ropewalkkit_KeptFacts_W_C2 at hm
    refine wc_cut (σ := Bool) (fun j_2_57 => bj_2 = j_2_57) (fun j_2_57 => [(6, .int .i64 ((u1_6 : Nat) : Int)), (5, .slice p16 ((l0.take (l2.length + 12)).length) qc1), (1, .slice qp2 l2.length qc3), (57, .bool j_2_57)]) (fun j_2_57 => [.sli 3 RS_FactD p16 qc1 (l0.take (l2.length + 12)), .sli 3 R_FactD qp2 qc3 l2]) (fun j_2_57 => []) ?_ ?_
    ·
     rcases ite_some hm with ⟨hs27, hm⟩ | ⟨hs27, hm⟩
     ·
      obtain ⟨x30, hx30, hm⟩ := bindO_some hm
      obtain ⟨x34, hx34, hm⟩ := bindO_some hm
      obtain ⟨v36, hc36, hm⟩ := bindO_some hm
      rcases ite_some hm with ⟨hs39, hm⟩ | ⟨hs39, hm⟩
      ·
       refine wc_draw [0,1,2,3,4,5,6,7,8,9,10,11,12,14,15,16,17,18,19,20,21,22,23,24,25,26,27,28,29,32,33,34] rfl rfl (fun hok => (xP hok 0 rfl (xP hok 1 rfl (wx_len hok 2 rfl rfl rfl (freshS_eq rfl) rfl rfl rfl tE_22 (xP hok 3 rfl (wx_as (d := 26) (v' := .bool (decide (u1_6 < l2.length))) (S' := [_,_,_,_,_,_]) rfl rfl (natlt (a := u1_6) (b := l2.length)) (xP hok 4 rfl (wx_as (d := 27) (v' := .bool true) (S' := [_,_,_,_,_,_,_]) rfl rfl (bool_is hs27) (xP hok 5 rfl (xP hok 6 rfl (wx_indexA hok 7 0 u1_6 rfl rfl rfl (freshS_eq rfl) rfl rfl rfl rfl rfl rfl hx30 tE_22 tS_27 (fun b30 q30 cs30 hlx30 => (wx_openR RS_FactD_opens 1 rfl (fun r30 er30 _ => ?_))))))))))))))
       subst er30
       refine wx_load hok 8 1 0 rfl rfl rfl (freshS_eq rfl) rfl rfl rfl rfl (cs := [_,_,_]) rfl tS_27 tA_27 rfl rfl (xP hok 9 rfl (xP hok 10 rfl (wx_indexA hok 11 4 u1_6 rfl rfl rfl (freshS_eq rfl) rfl rfl rfl rfl rfl rfl hx34 tE_22 tS_27 (fun b34 q34 cs34 hlx34 => (wx_openR R_FactD_opens 1 rfl (fun r34 er34 _ => ?_))))))
       subst er34
       refine wx_load hok 12 1 0 rfl rfl rfl (freshS_eq rfl) rfl rfl rfl rfl (cs := [_,_,_]) rfl tS_27 tA_27 rfl rfl (xS hok 13 rfl (wC [] [] rfl fn_31 rfl (w_ropewalkkit_KeptFact_W_s N x30.id x30.ty r30.1 r30.2 (x30.args ++ x30.argsT) x30.args.length x34.id x34.ty r34.1 r34.2 x34.args _ hc36) (asK [3,0] rfl) rfl (H' := []) rfl ?_))
       rintro _ _ _ ⟨rfl, rfl, rfl⟩
       refine wl_nil (we_x [0,1,2,3,4,5,6,7] [] rfl rfl (xP hok 14 rfl (xP hok 15 rfl (xP hok 16 rfl (wx_as (d := 39) (v' := .bool true) (S' := [_,_,_,_,_,_,_,_,_,_,_,_,_,_,_,_,_,_,_]) rfl rfl (bool_is hs39) (xO hok 17 rfl (xO hok 18 rfl (xO hok 19 rfl (xO hok 20 rfl (xO hok 21 rfl (xO hok 22 rfl (xO hok 23 rfl (xO hok 24 rfl ?_)))))))))))))
       refine xO hok 25 rfl (xO hok 26 rfl (xO hok 27 rfl (xO hok 28 rfl (xO hok 29 rfl (xS hok 30 rfl (wO rfl (wl_nil (we_x [0,1,2,3,4,5,6,7] [] rfl rfl (xS hok 31 rfl (wO rfl (wl_nil (we_x [0,1,2,3,4,5,6,7] [] rfl rfl (xO hok 32 rfl ?_)))))))))))))
       refine xO hok 33 rfl (xP hok 34 rfl (wx_done hok rfl ?_))
       have hE := (Option.some.inj hm).symm
       refine we_join true hE [6,5,1,57] rfl (asK [6,7] rfl) rfl
      ·
       rcases ite_some hm with ⟨hs44, hm⟩ | ⟨hs44, hm⟩
       ·
        obtain ⟨x47, hx47, hm⟩ := bindO_some hm
        obtain ⟨hg52, hm⟩ := gd_some hm
        obtain ⟨_, hc53, hm⟩ := bindO_some hm
        try dsimp only at hm
        obtain ⟨v54, hc54, hm⟩ := bindO_some hm
        refine wc_draw [0,1,2,3,4,5,6,7,8,9,10,11,12,14,15,16,17,18,19,20,21,22,23,24,25,26,27,28,29,32,33,34] rfl rfl (fun hok => (xP hok 0 rfl (xP hok 1 rfl (wx_len hok 2 rfl rfl rfl (freshS_eq rfl) rfl rfl rfl tE_22 (xP hok 3 rfl (wx_as (d := 26) (v' := .bool (decide (u1_6 < l2.length))) (S' := [_,_,_,_,_,_]) rfl rfl (natlt (a := u1_6) (b := l2.length)) (xP hok 4 rfl (wx_as (d := 27) (v' := .bool true) (S' := [_,_,_,_,_,_,_]) rfl rfl (bool_is hs27) (xP hok 5 rfl (xP hok 6 rfl (wx_indexA hok 7 0 u1_6 rfl rfl rfl (freshS_eq rfl) rfl rfl rfl rfl rfl rfl hx30 tE_22 tS_27 (fun b30 q30 cs30 hlx30 => (wx_openR RS_FactD_opens 1 rfl (fun r30 er30 _ => ?_))))))))))))))
        subst er30
        refine wx_load hok 8 1 0 rfl rfl rfl (freshS_eq rfl) rfl rfl rfl rfl (cs := [_,_,_]) rfl tS_27 tA_27 rfl rfl (xP hok 9 rfl (xP hok 10 rfl (wx_indexA hok 11 4 u1_6 rfl rfl rfl (freshS_eq rfl) rfl rfl rfl rfl rfl rfl hx34 tE_22 tS_27 (fun b34 q34 cs34 hlx34 => (wx_openR R_FactD_opens 1 rfl (fun r34 er34 _ => ?_))))))
        subst er34
        refine wx_load hok 12 1 0 rfl rfl rfl (freshS_eq rfl) rfl rfl rfl rfl (cs := [_,_,_]) rfl tS_27 tA_27 rfl rfl (xS hok 13 rfl (wC [] [] rfl fn_31 rfl (w_ropewalkkit_KeptFact_W_s N x30.id x30.ty r30.1 r30.2 (x30.args ++ x30.argsT) x30.args.length x34.id x34.ty r34.1 r34.2 x34.args _ hc36) (asK [3,0] rfl) rfl (H' := []) rfl ?_))
        rintro _ _ _ ⟨rfl, rfl, rfl⟩
        refine wl_nil (we_x [0,1,2,3,4,5,6,7] [] rfl rfl (xP hok 14 rfl (xP hok 15 rfl (xP hok 16 rfl (wx_as (d := 39) (v' := .bool false) (S' := [_,_,_,_,_,_,_,_,_,_,_,_,_,_,_,_,_,_,_]) rfl rfl (bool_is hs39) (xP hok 17 rfl (xP hok 18 rfl (wx_len hok 19 rfl rfl rfl (freshS_eq rfl) rfl rfl rfl tE_22 (xP hok 20 rfl (wx_as (d := 43) (v' := .bool (decide (l2.length ≤ u1_6))) (S' := [_,_,_,_,_,_,_,_,_,_,_,_,_,_,_,_,_,_,_,_,_,_,_]) rfl rfl (natge (a := u1_6) (b := l2.length)) (xP hok 21 rfl (wx_as (d := 44) (v' := .bool true) (S' := [_,_,_,_,_,_,_,_,_,_,_,_,_,_,_,_,_,_,_,_,_,_,_,_]) rfl rfl (bool_is hs44) (xP hok 22 rfl ?_)))))))))))))
        refine xP hok 23 rfl (wx_indexA hok 24 6 u1_6 rfl rfl rfl (freshS_eq rfl) rfl rfl rfl rfl rfl rfl hx47 tE_22 tS_27 (fun b47 q47 cs47 hlx47 => (wx_openR RS_FactD_opens 1 rfl (fun r47 er47 _ => ?_))))
        subst er47
        refine wx_load hok 25 1 0 rfl rfl rfl (freshS_eq rfl) rfl rfl rfl rfl (cs := [_,_,_]) rfl tS_27 tA_27 rfl rfl (xP hok 26 rfl (xP hok 27 rfl (wx_len hok 28 rfl rfl rfl (freshS_eq rfl) rfl rfl rfl tE_22 (xP hok 29 rfl (wx_as (d := 52) (v' := .int .i64 (((u1_6 : Nat) : Int) - ((l2.length : Nat) : Int))) (S' := [_,_,_,_,_,_,_,_,_,_,_,_,_,_,_,_,_,_,_,_,_,_,_,_,_,_,_,_,_,_,_,_]) rfl rfl (i64_in hg52) (xS hok 30 rfl (wC [] [] rfl fn_25 rfl (w_ropewalkkit_markFact_s N 1 (((u1_6 : Nat) : Int) - ((l2.length : Nat) : Int)) hc53) (asK [] rfl) rfl (H' := []) rfl ?_)))))))
        rintro _ _ _ ⟨rfl, rfl, rfl⟩
        refine wl_nil (we_x [0,1,2,3,4,5,6,7,8,9,10] [] rfl rfl (xS hok 31 rfl (wl_fact (.sli 3 R_V none 0 ([] : List V)) (fun _ _ _ => sli_none) (wC [] [] rfl fn_32 rfl (w_ropewalkkit_SameFact_W_s N x47.id x47.ty r47.1 r47.2 (x47.args ++ x47.argsT) x47.args.length (IntKind.wrap .i64 ((IntKind.wrap .i64 (1000003 * (IntKind.wrap .i64 (1 + 7)))) + (((u1_6 : Nat) : Int) - ((l2.length : Nat) : Int)))) 0 none 0 ([] : List V) _ hc54) (asK [1,0] rfl) rfl (H' := []) rfl ?_))))
        rintro _ _ _ ⟨rfl, rfl, rfl⟩
        refine wl_nil (we_x [1,2,3,4,5,6,7,8,9,10,11] [] rfl rfl (xP hok 32 rfl (xP hok 33 rfl (xP hok 34 rfl (wx_done hok rfl ?_)))))
        have hE := (Option.some.inj hm).symm
        refine we_join (!v54) hE [6,5,1,57] rfl (asK [10,11] rfl) rfl
       ·
        refine wc_draw [0,1,2,3,4,5,6,7,8,9,10,11,12,14,15,16,17,18,19,20,21,22,23,24,25,26,27,28,29,32,33,34] rfl rfl (fun hok => (xP hok 0 rfl (xP hok 1 rfl (wx_len hok 2 rfl rfl rfl (freshS_eq rfl) rfl rfl rfl tE_22 (xP hok 3 rfl (wx_as (d := 26) (v' := .bool (decide (u1_6 < l2.length))) (S' := [_,_,_,_,_,_]) rfl rfl (natlt (a := u1_6) (b := l2.length)) (xP hok 4 rfl (wx_as (d := 27) (v' := .bool true) (S' := [_,_,_,_,_,_,_]) rfl rfl (bool_is hs27) (xP hok 5 rfl (xP hok 6 rfl (wx_indexA hok 7 0 u1_6 rfl rfl rfl (freshS_eq rfl) rfl rfl rfl rfl rfl rfl hx30 tE_22 tS_27 (fun b30 q30 cs30 hlx30 => (wx_openR RS_FactD_opens 1 rfl (fun r30 er30 _ => ?_))))))))))))))
        subst er30
        refine wx_load hok 8 1 0 rfl rfl rfl (freshS_eq rfl) rfl rfl rfl rfl (cs := [_,_,_]) rfl tS_27 tA_27 rfl rfl (xP hok 9 rfl (xP hok 10 rfl (wx_indexA hok 11 4 u1_6 rfl rfl rfl (freshS_eq rfl) rfl rfl rfl rfl rfl rfl hx34 tE_22 tS_27 (fun b34 q34 cs34 hlx34 => (wx_openR R_FactD_opens 1 rfl (fun r34 er34 _ => ?_))))))
        subst er34
        refine wx_load hok 12 1 0 rfl rfl rfl (freshS_eq rfl) rfl rfl rfl rfl (cs := [_,_,_]) rfl tS_27 tA_27 rfl rfl (xS hok 13 rfl (wC [] [] rfl fn_31 rfl (w_ropewalkkit_KeptFact_W_s N x30.id x30.ty r30.1 r30.2 (x30.args ++ x30.argsT) x30.args.length x34.id x34.ty r34.1 r34.2 x34.args _ hc36) (asK [3,0] rfl) rfl (H' := []) rfl ?_))
        rintro _ _ _ ⟨rfl, rfl, rfl⟩
        refine wl_nil (we_x [0,1,2,3,4,5,6,7] [] rfl rfl (xP hok 14 rfl (xP hok 15 rfl (xP hok 16 rfl (wx_as (d := 39) (v' := .bool false) (S' := [_,_,_,_,_,_,_,_,_,_,_,_,_,_,_,_,_,_,_]) rfl rfl (bool_is hs39) (xP hok 17 rfl (xP hok 18 rfl (wx_len hok 19 rfl rfl rfl (freshS_eq rfl) rfl rfl rfl tE_22 (xP hok 20 rfl (wx_as (d := 43) (v' := .bool (decide (l2.length ≤ u1_6))) (S' := [_,_,_,_,_,_,_,_,_,_,_,_,_,_,_,_,_,_,_,_,_,_,_]) rfl rfl (natge (a := u1_6) (b := l2.length)) (xP hok 21 rfl (wx_as (d := 44) (v' := .bool false) (S' := [_,_,_,_,_,_,_,_,_,_,_,_,_,_,_,_,_,_,_,_,_,_,_,_]) rfl rfl (bool_is hs44) (xO hok 22 rfl ?_)))))))))))))
        refine xO hok 23 rfl (xO hok 24 rfl (xO hok 25 rfl (xO hok 26 rfl (xO hok 27 rfl (xO hok 28 rfl (xO hok 29 rfl (xS hok 30 rfl (wO rfl (wl_nil (we_x [0,1,2,3,4,5,6,7] [] rfl rfl (xS hok 31 rfl (wO rfl (wl_nil ?_)))))))))))))
        refine we_x [0,1,2,3,4,5,6,7] [] rfl rfl (xO hok 32 rfl (xP hok 33 rfl (xP hok 34 rfl (wx_done hok rfl ?_))))
        have hE := (Option.some.inj hm).symm
        refine we_join false hE [6,5,1,57] rfl (asK [6,7] rfl) rfl
     ·
      rcases ite_some hm with ⟨hs44, hm⟩ | ⟨hs44, hm⟩
      ·
       obtain ⟨x47, hx47, hm⟩ := bindO_some hm
       obtain ⟨hg52, hm⟩ := gd_some hm
       obtain ⟨_, hc53, hm⟩ := bindO_some hm
       try dsimp only at hm
       obtain ⟨v54, hc54, hm⟩ := bindO_some hm
       refine wc_draw [0,1,2,3,4,5,6,7,8,9,10,11,12,14,15,16,17,18,19,20,21,22,23,24,25,26,27,28,29,32,33,34] rfl rfl (fun hok => (xP hok 0 rfl (xP hok 1 rfl (wx_len hok 2 rfl rfl rfl (freshS_eq rfl) rfl rfl rfl tE_22 (xP hok 3 rfl (wx_as (d := 26) (v' := .bool (decide (u1_6 < l2.length))) (S' := [_,_,_,_,_,_]) rfl rfl (natlt (a := u1_6) (b := l2.length)) (xP hok 4 rfl (wx_as (d := 27) (v' := .bool false) (S' := [_,_,_,_,_,_,_]) rfl rfl (bool_is hs27) (xO hok 5 rfl (xO hok 6 rfl (xO hok 7 rfl (xO hok 8 rfl (xO hok 9 rfl (xO hok 10 rfl ?_))))))))))))))
       refine xO hok 11 rfl (xO hok 12 rfl (xS hok 13 rfl (wO rfl (wl_nil (we_x [0,1] [] rfl rfl (xO hok 14 rfl (xP hok 15 rfl (xP hok 16 rfl (xP hok 17 rfl (xP hok 18 rfl (wx_len hok 19 rfl rfl rfl (freshS_eq rfl) rfl rfl rfl tE_22 (xP hok 20 rfl (wx_as (d := 43) (v' := .bool (decide (l2.length ≤ u1_6))) (S' := [_,_,_,_,_,_,_,_,_,_,_,_,_,_,_,_,_,_,_,_,_,_,_]) rfl rfl (natge (a := u1_6) (b := l2.length)) ?_)))))))))))))
       refine xP hok 21 rfl (wx_as (d := 44) (v' := .bool true) (S' := [_,_,_,_,_,_,_,_,_,_,_,_,_,_,_,_,_,_,_,_,_,_,_,_]) rfl rfl (bool_is hs44) (xP hok 22 rfl (xP hok 23 rfl (wx_indexA hok 24 0 u1_6 rfl rfl rfl (freshS_eq rfl) rfl rfl rfl rfl rfl rfl hx47 tE_22 tS_27 (fun b47 q47 cs47 hlx47 => (wx_openR RS_FactD_opens 1 rfl (fun r47 er47 _ => ?_)))))))
       subst er47
       refine wx_load hok 25 1 0 rfl rfl rfl (freshS_eq rfl) rfl rfl rfl rfl (cs := [_,_,_]) rfl tS_27 tA_27 rfl rfl (xP hok 26 rfl (xP hok 27 rfl (wx_len hok 28 rfl rfl rfl (freshS_eq rfl) rfl rfl rfl tE_22 (xP hok 29 rfl (wx_as (d := 52) (v' := .int .i64 (((u1_6 : Nat) : Int) - ((l2.length : Nat) : Int))) (S' := [_,_,_,_,_,_,_,_,_,_,_,_,_,_,_,_,_,_,_,_,_,_,_,_,_,_,_,_,_,_,_,_]) rfl rfl (i64_in hg52) (xS hok 30 rfl (wC [] [] rfl fn_25 rfl (w_ropewalkkit_markFact_s N 1 (((u1_6 : Nat) : Int) - ((l2.length : Nat) : Int)) hc53) (asK [] rfl) rfl (H' := []) rfl ?_)))))))
       rintro _ _ _ ⟨rfl, rfl, rfl⟩
       refine wl_nil (we_x [0,1,2,3,4] [] rfl rfl (xS hok 31 rfl (wl_fact (.sli 3 R_V none 0 ([] : List V)) (fun _ _ _ => sli_none) (wC [] [] rfl fn_32 rfl (w_ropewalkkit_SameFact_W_s N x47.id x47.ty r47.1 r47.2 (x47.args ++ x47.argsT) x47.args.length (IntKind.wrap .i64 ((IntKind.wrap .i64 (1000003 * (IntKind.wrap .i64 (1 + 7)))) + (((u1_6 : Nat) : Int) - ((l2.length : Nat) : Int)))) 0 none 0 ([] : List V) _ hc54) (asK [1,0] rfl) rfl (H' := []) rfl ?_))))
       rintro _ _ _ ⟨rfl, rfl, rfl⟩
       refine wl_nil (we_x [1,2,3,4,5] [] rfl rfl (xP hok 32 rfl (xP hok 33 rfl (xP hok 34 rfl (wx_done hok rfl ?_)))))
       have hE := (Option.some.inj hm).symm
       refine we_join (!v54) hE [6,5,1,57] rfl (asK [4,5] rfl) rfl
      ·
       refine wc_draw [0,1,2,3,4,5,6,7,8,9,10,11,12,14,15,16,17,18,19,20,21,22,23,24,25,26,27,28,29,32,33,34] rfl rfl (fun hok => (xP hok 0 rfl (xP hok 1 rfl (wx_len hok 2 rfl rfl rfl (freshS_eq rfl) rfl rfl rfl tE_22 (xP hok 3 rfl (wx_as (d := 26) (v' := .bool (decide (u1_6 < l2.length))) (S' := [_,_,_,_,_,_]) rfl rfl (natlt (a := u1_6) (b := l2.length)) (xP hok 4 rfl (wx_as (d := 27) (v' := .bool false) (S' := [_,_,_,_,_,_,_]) rfl rfl (bool_is hs27) (xO hok 5 rfl (xO hok 6 rfl (xO hok 7 rfl (xO hok 8 rfl (xO hok 9 rfl (xO hok 10 rfl ?_))))))))))))))
       refine xO hok 11 rfl (xO hok 12 rfl (xS hok 13 rfl (wO rfl (wl_nil (we_x [0,1] [] rfl rfl (xO hok 14 rfl (xP hok 15 rfl (xP hok 16 rfl (xP hok 17 rfl (xP hok 18 rfl (wx_len hok 19 rfl rfl rfl (freshS_eq rfl) rfl rfl rfl tE_22 (xP hok 20 rfl (wx_as (d := 43) (v' := .bool (decide (l2.length ≤ u1_6))) (S' := [_,_,_,_,_,_,_,_,_,_,_,_,_,_,_,_,_,_,_,_,_,_,_]) rfl rfl (natge (a := u1_6) (b := l2.length)) ?_)))))))))))))
       refine xP hok 21 rfl (wx_as (d := 44) (v' := .bool false) (S' := [_,_,_,_,_,_,_,_,_,_,_,_,_,_,_,_,_,_,_,_,_,_,_,_]) rfl rfl (bool_is hs44) (xO hok 22 rfl (xO hok 23 rfl (xO hok 24 rfl (xO hok 25 rfl (xO hok 26 rfl (xO hok 27 rfl (xO hok 28 rfl (xO hok 29 rfl (xS hok 30 rfl (wO rfl (wl_nil (we_x [0,1] [] rfl rfl ?_)))))))))))))
       refine xS hok 31 rfl (wO rfl (wl_nil (we_x [0,1] [] rfl rfl (xO hok 32 rfl (xP hok 33 rfl (xP hok 34 rfl (wx_done hok rfl ?_)))))))
       have hE := (Option.some.inj hm).symm
       refine we_join false hE [6,5,1,57] rfl (asK [0,1] rfl) rfl
    ·
     rintro j_2_57 hE
     try dsimp only
     have hm := hLj_2
     rw [hE] at hm
     refine wc_cond rfl (fun hb57 => ?_) (fun hb57 => ?_)
     ·
      replace hm := iteT hm hb57
      refine wc_keep [] (S' := []) rfl (wc_seq (wc_region (wP rfl (wl_nil (we_then (wc_ret (we_block_ret (we_then_ret (we_then_ret (we_block_ret (we_then_ret ?_)))))))))))
      have hE := (Option.some.inj hm).symm
      replace hE := link_inr hLu1 hE
      replace hE := link_inr hLj_1 hE
      replace hE := hE.symm
      subst hE
      refine ret_one (Hr := []) [] Tryz.results11 (res_tmp rfl) ⟨rfl, rfl, rfl⟩ (asK [] rfl) rfl rfl (.inl rfl)
     ·
      replace hm := iteF hm hb57
      refine wc_keep [6,5,1] (S' := [_,_,_]) rfl (wc_skip (we_block_normal (we_then (wc_region (wP rfl (wP rfl ?_))))))
      obtain ⟨hg22, hm⟩ := gd_some hm
      refine wl_as (d := 22) (v' := .int .i64 ((u1_6 + 1 : Nat) : Int)) (S' := [_,_,_,_]) rfl rfl (nat_add (a := u1_6) (b := 1) hg22) (wl_pure (S' := [_,_,_,_]) rfl rfl rfl rfl rfl (wl_nil ?_))
      have hE := (Option.some.inj hm).symm
      replace hE := link_inl hLu1 hE
      refine we_roundK (_, u1_6 + 1) (Nat.lt_succ_self _) hE [6,5,1] rfl (asK [0,1] rfl) rfl
   ·
    replace hm := iteF hm hb20
    refine wc_keep [] (S' := []) rfl (wc_exit (we_then_exit (we_then_exit (we_block_hit ?_))))
    have hE := (Option.some.inj hm).symm
    replace hE := link_inr hLu1 hE
    refine we_join () hE [] rfl (asK [] rfl) rfl
  ·
   rintro _ hE
   try dsimp only
   have hm := link_inl hLj_1 hE
   try dsimp only at hm
   refine wc_seq (wc_region (wP rfl (wl_nil (we_then (wc_ret ?_)))))
   have hE := (Option.some.inj hm).symm
   replace hE := hE.symm
   subst hE
   refine ret_one (Hr := []) [] Tryz.results11 (res_tmp rfl) ⟨rfl, rfl, rfl⟩ (asK [] rfl) rfl rfl (.inl rfl)
theorem w_ropewalkkit_OverValues_V_s (N : Nat) (qp0 : Option Addr) (qn1 : Nat) (qc2 : Nat) (l0 : List V) (k1 : Nat) (o0 : List V) (hm : m_ropewalkkit_OverValues_V N l0 k1 = some o0) : Spec Tryz.prog 43 [.slice qp0 k1 qc2] [] [.own 51 3 R_V (.slice qp0 qn1 qc2) l0] (fun v Φr Hr => v = .tuple #[] ∧ Φr = [] ∧ Hr = [.own 51 3 R_V (.slice qp0 qn1 qc2) o0]) := by
 unfold m_ropewalkkit_OverValues_V at hm
 refine spec_of Tryz.func43 rfl Tryz.ntmps43 rfl (S := [_]) rfl (fun C => (wc_seq (wc_region (wP rfl (wP rfl (wN rfl tE_25 (wP rfl ?_)))))))
 obtain ⟨hg7, hm⟩ := gd_some hm
 refine wl_as (d := 7) (v' := .int .i64 ((k1 + 12 : Nat) : Int)) (S' := [_,_,_,_]) rfl rfl (nat_add (a := k1) (b := 12) hg7) ?_
 obtain ⟨hg8, hm⟩ := gd_some hm
 refine wl_ownSpot 0 rfl (fun hsp8 hcm8 => (wl_sliceTo rfl rfl rfl (freshS_eq rfl) rfl rfl rfl rfl tE_25 tS_51 (Nat.le_trans hg8 (by rw [← hcm8.2]; exact hcm8.1)) hsp8 (wP rfl (wl_nil (we_then (wc_keep [2] (S' := [_]) rfl (wc_seq (wc_region (wP rfl (wl_nil (we_then (wc_block (wc_loop (σ := Nat × Nat × (List V)) (fun (nu1, u1_3, u1_2_l) => iter (m_ropewalkkit_OverValues_V_L1 N k1) nu1 (u1_3, u1_2_l) = some o0) (fun (nu1, u1_3, u1_2_l) => nu1) (fun (nu1, u1_3, u1_2_l) => [(3, .int .i64 ((u1_3 : Nat) : Int)), (2, .slice qp0 (k1 + 12) qc2)]) (fun (nu1, u1_3, u1_2_l) => []) (fun (nu1, u1_3, u1_2_l) => [.own 51 3 R_V (.slice qp0 qn1 qc2) u1_2_l]) (N, 0, l0) hm [3,2] rfl (asK [] rfl) rfl (fun s_ hm => ?_))))))))))))))
 obtain ⟨nu1, u1_3, u1_2_l⟩ := s_
 try dsimp only at hm ⊢
 obtain ⟨mu1, bu1, hnu1, hq, hLu1⟩ := iter_some hm
 clear hm
 subst hnu1
 replace hm := hq
 clear hq
 unfold m_ropewalkkit_OverValues_V_L1 at hm
 try dsimp only at hm
 refine wc_seq (wc_seq (wc_region (wP rfl (wP rfl (wN rfl tE_25 (wP rfl (wl_as (d := 12) (v' := .bool (decide (u1_3 < (k1 + 12)))) (S' := [_,_,_,_,_]) rfl rfl (natlt (a := u1_3) (b := k1 + 12)) (wl_nil (we_then (wc_keep [12,3,2] (S' := [_,_,_]) rfl ?_))))))))))
 refine wc_cond rfl (fun hb12 => ?_) (fun hb12 => ?_)
 ·
  replace hm := iteT hm hb12
  refine wc_keep [3,2] (S' := [_,_]) rfl (wc_skip (we_then (wc_seq (wc_block (wc_region (wP rfl (wP rfl (wP rfl ?_))))))))
  obtain ⟨_, hc18, hm⟩ := bindO_some hm
  try dsimp only at hm
  refine wC [] [0] rfl fn_62 rfl (w_ropewalkkit_markValue_s N 2 ((u1_3 : Nat) : Int) hc18) (asK [] rfl) rfl (H' := [_]) rfl ?_
  rintro _ _ _ ⟨rfl, rfl, rfl⟩
  obtain ⟨x19, hx19, hm⟩ := bindO_some hm
  obtain ⟨hqx19, hm⟩ := gd_some hm
  refine wl_indexS 0 u1_3 rfl rfl rfl (freshS_eq rfl) rfl rfl rfl rfl rfl hqx19 (get_lt hx19) tE_25 tS_51 (fun g19 eg19 => ?_)
  subst eg19
  refine wl_storeRow (u := (⟨0, (IntKind.wrap .i64 ((IntKind.wrap .i64 (1000003 * (IntKind.wrap .i64 (2 + 7)))) + ((u1_3 : Nat) : Int))), (⟨#[]⟩ : ByteArray)⟩ : V)) 0 u1_3 rfl rfl rfl rfl rfl (get_lt hx19) rfl rfl tS_51 rfl (fun F w hφ => ⟨(), rfl, ask_nil⟩) (H' := [_]) rfl (wl_nil (we_block_normal (we_then (wc_keep [3,2] (S' := [_,_]) rfl (wc_region (wP rfl (wP rfl ?_)))))))
  obtain ⟨hg14, hm⟩ := gd_some hm
  refine wl_as (d := 14) (v' := .int .i64 ((u1_3 + 1 : Nat) : Int)) (S' := [_,_,_]) rfl rfl (nat_add (a := u1_3) (b := 1) hg14) (wl_pure (S' := [_,_,_]) rfl rfl rfl rfl rfl (wl_nil ?_))
  have hE := (Option.some.inj hm).symm
  replace hE := link_inl hLu1 hE
  refine we_roundK (_, u1_3 + 1, (u1_2_l.set u1_3 (⟨0, (IntKind.wrap .i64 ((IntKind.wrap .i64 (1000003 * (IntKind.wrap .i64 (2 + 7)))) + ((u1_3 : Nat) : Int))), (⟨#[]⟩ : ByteArray)⟩ : V))) (Nat.lt_succ_self _) hE [3,2] rfl (asK [] rfl) rfl
 ·
  replace hm := iteF hm hb12
  refine wc_keep [] (S' := []) rfl (wc_exit (we_then_exit (we_then_exit (we_block_hit ?_))))
  have hE := (Option.some.inj hm).symm
  replace hE := link_inr hLu1 hE
  replace hE := hE.symm
  subst hE
  refine ret_none (Hr := [_]) [0] Tryz.results43 ⟨rfl, rfl, rfl⟩ (asK [] rfl) rfl rfl (.inr rfl)
theorem w_ropewalkkit_OverFact_V_s (N : Nat) (a0 : Int) (a1 : Int) (qp0 : Option Addr) (qn1 : Nat) (qc2 : Nat) (l2 : List V) (k3 : Nat) (o0 : List V) (hm : m_ropewalkkit_OverFact_V N a0 a1 l2 k3 = some o0) : Spec Tryz.prog 33 [.agg #[.int .i64 a0, .int .i64 a1, .slice qp0 k3 qc2]] [] [.own 51 3 R_V (.slice qp0 qn1 qc2) l2] (fun v Φr Hr => v = .tuple #[] ∧ Φr = [] ∧ Hr = [.own 51 3 R_V (.slice qp0 qn1 qc2) o0]) := by
 unfold m_ropewalkkit_OverFact_V at hm
 refine spec_of Tryz.func33 rfl Tryz.ntmps33 rfl (S := [_]) rfl (fun C => (wc_seq (wc_region (wB rfl (fun g1 => (wl_nil (we_then (wc_keep [1] (S' := [_]) rfl (wc_region (wF rfl tF_27_2 (wD 0 2 rfl tS_25 tA_25 rfl (wl_ownLen 1 rfl (fun hzqn1 _ => ?_)))))))))))))
 subst hzqn1
 obtain ⟨v4, hc4, hm⟩ := bindO_some hm
 refine wC [1] [0] rfl fn_43 rfl (w_ropewalkkit_OverValues_V_s N qp0 l2.length qc2 l2 k3 _ hc4) (asK [] rfl) rfl (H' := [_]) rfl ?_
 rintro _ _ _ ⟨rfl, rfl, rfl⟩
 refine wl_nil ?_
 have hE := (Option.some.inj hm).symm
 replace hE := hE.symm
 subst hE
 refine ret_none (Hr := [_]) [0] Tryz.results33 ⟨rfl, rfl, rfl⟩ (asK [] rfl) rfl rfl (.inr rfl)
theorem w_ropewalkkit_OverFacts_V_s (N : Nat) (qp0 : Option Addr) (qn1 : Nat) (qc2 : Nat) (l0 : List FactDS) (k1 : Nat) (o0 : List FactDS) (hm : m_ropewalkkit_OverFacts_V N l0 k1 = some o0) : Spec Tryz.prog 12 [.slice qp0 k1 qc2] [] [treeF TS_FactD 27 3 (.slice qp0 qn1 qc2) l0] (fun v Φr Hr => v = .tuple #[] ∧ Φr = [] ∧ Hr = [treeF TS_FactD 27 3 (.slice qp0 qn1 qc2) o0]) := by
 unfold m_ropewalkkit_OverFacts_V at hm
 refine spec_of Tryz.func12 rfl Tryz.ntmps12 rfl (S := [_]) rfl (fun C => (wc_seq ?_))
 obtain ⟨bj_1, hm, hLj_1⟩ := bindO_some hm
 refine wc_cut (σ := List FactDS) (fun j_1_0_l => bj_1 = j_1_0_l) (fun j_1_0_l => [(0, .slice qp0 k1 qc2)]) (fun j_1_0_l => []) (fun j_1_0_l => [treeF TS_FactD 27 3 (.slice qp0 qn1 qc2) j_1_0_l]) ?_ ?_
 ·
  refine wc_seq (wc_region (wP rfl (wl_nil (we_then (wc_block (wc_loop (σ := Nat × Nat × (List FactDS)) (fun (nu1, u1_2, u1_0_l) => iter (m_ropewalkkit_OverFacts_V_L1 N k1) nu1 (u1_2, u1_0_l) = some bj_1) (fun (nu1, u1_2, u1_0_l) => nu1) (fun (nu1, u1_2, u1_0_l) => [(2, .int .i64 ((u1_2 : Nat) : Int)), (0, .slice qp0 k1 qc2)]) (fun (nu1, u1_2, u1_0_l) => []) (fun (nu1, u1_2, u1_0_l) => [treeF TS_FactD 27 3 (.slice qp0 qn1 qc2) u1_0_l]) (N, 0, l0) hm [2,0] rfl (asK [] rfl) rfl (fun s_ hm => ?_)))))))
  obtain ⟨nu1, u1_2, u1_0_l⟩ := s_
  try dsimp only at hm ⊢
  obtain ⟨mu1, bu1, hnu1, hq, hLu1⟩ := iter_some hm
  clear hm
  subst hnu1
  replace hm := hq
  clear hq
  unfold m_ropewalkkit_OverFacts_V_L1 at hm
  try dsimp only at hm
  refine wc_seq (wc_seq (wc_region (wP rfl (wP rfl (wN rfl tE_22 (wP rfl (wl_as (d := 8) (v' := .bool (decide (u1_2 < k1))) (S' := [_,_,_,_,_]) rfl rfl (natlt (a := u1_2) (b := k1)) (wl_nil (we_then (wc_keep [8,2,0] (S' := [_,_,_]) rfl ?_))))))))))
  refine wc_cond rfl (fun hb8 => ?_) (fun hb8 => ?_)
  ·
   replace hm := iteT hm hb8
   refine wc_keep [2,0] (S' := [_,_]) rfl (wc_skip (we_then (wc_seq (wc_block (wc_region (wP rfl (wP rfl (wl_treeOut 0 rfl (fun zz13 hzz13 => ?_)))))))))
   obtain ⟨x13, hx13, hm⟩ := bindO_some hm
   obtain ⟨rr13, hrr13⟩ := zip_at hzz13 hx13
   obtain ⟨hq13, hm⟩ := gd_some hm
   refine wl_indexS 1 u1_2 rfl rfl rfl (freshS_eq rfl) rfl rfl rfl rfl rfl hq13 (get_lt hrr13) tE_22 tS_27 (fun g13 eg13 => ?_)
   subst eg13
   refine wl_sh [.own 51 3 R_V (.slice rr13.1 ((x13.args ++ x13.argsT).length) rr13.2) (x13.args ++ x13.argsT), bagF TS_FactD zz13 (some u1_2), _] (fun _ h => h.bagOpen 0 u1_2 rfl hrr13) (wl_loadRow pair_opens 2 u1_2 0 rfl rfl rfl (freshS_eq rfl) rfl rfl rfl hrr13 tS_27 tA_27 (v := fun _ => .agg #[.int .i64 (x13.id), .int .i64 (x13.ty), .slice rr13.1 x13.args.length rr13.2]) (fun _ => rfl) (fun _ => rfl) (fun _ _ => ?_))
   obtain ⟨v15, hc15, hm⟩ := bindO_some hm
   refine wC [0] [1,2] rfl fn_33 rfl (w_ropewalkkit_OverFact_V_s N x13.id x13.ty rr13.1 ((x13.args ++ x13.argsT).length) rr13.2 (x13.args ++ x13.argsT) x13.args.length _ hc15) (asK [] rfl) rfl (H' := [_,_]) rfl ?_
   rintro _ _ _ ⟨rfl, rfl, rfl⟩
   refine wl_nil (we_block_normal (we_then (wc_keep [2,0] (S' := [_,_]) rfl (wc_region (wP rfl (wP rfl ?_))))))
   obtain ⟨hg10, hm⟩ := gd_some hm
   refine wl_as (d := 10) (v' := .int .i64 ((u1_2 + 1 : Nat) : Int)) (S' := [_,_,_]) rfl rfl (nat_add (a := u1_2) (b := 1) hg10) (wl_pure (S' := [_,_,_]) rfl rfl rfl rfl rfl (wl_nil ?_))
   have hE := (Option.some.inj hm).symm
   replace hE := link_inl hLu1 hE
   refine we_ownLen 0 rfl (fun hz2 _ => (we_hAs 0 (φ' := .own 51 3 R_V (.slice rr13.1 v15.length rr13.2) v15) rfl (by rw [hz2]) (H' := [_,_,_]) rfl ?_))
   have hzn3 : (v15.take x13.args.length).length = x13.args.length := take_len (by first | (have hh := congrArg (· + 0) hz2; simp only [List.length_append, List.length_set, List.length_take] at hh ⊢; omega) | (simp only [List.length_append, List.length_set, List.length_take]; omega))
   refine we_hAs 0 (φ' := .own 51 3 R_V (.slice rr13.1 ((v15.take x13.args.length ++ v15.drop x13.args.length).length) rr13.2) (v15.take x13.args.length ++ v15.drop x13.args.length)) rfl (by rw [List.take_append_drop]) (H' := [.own 51 3 R_V (.slice rr13.1 ((v15.take x13.args.length ++ v15.drop x13.args.length).length) rr13.2) (v15.take x13.args.length ++ v15.drop x13.args.length), bagF TS_FactD zz13 (some u1_2), .own 27 3 TS_FactD.pair (.slice (some ⟨g13,0, none⟩) qn1 qc2) zz13]) rfl (we_sh [_,_, .own 27 3 TS_FactD.pair (.slice (some ⟨g13,0, none⟩) qn1 qc2) (zz13.set u1_2 ((⟨x13.id, x13.ty, v15.take x13.args.length, v15.drop x13.args.length⟩ : FactDS), rr13))] (fun _ h => h.pairAs (zs := zz13) (x := x13) (r := rr13) 2 rfl hrr13 (by show CS_FactD _ _ = CS_FactD _ _; simp only [CS_FactD, hzn3])) (we_sh [bagF TS_FactD (zz13.set u1_2 ((⟨x13.id, x13.ty, v15.take x13.args.length, v15.drop x13.args.length⟩ : FactDS), rr13)) none, _] (fun _ h => Holds.bagClose (T := TS_FactD) (x := (⟨x13.id, x13.ty, v15.take x13.args.length, v15.drop x13.args.length⟩ : FactDS)) (r := rr13) (i := u1_2) (zs := zz13) (H := [_,_]) h 0 rfl) ?_))
   have hzs4 : List.map (fun x : FactDS × (Option Addr × Nat) => x.1) (zz13.set u1_2 ((⟨x13.id, x13.ty, v15.take x13.args.length, v15.drop x13.args.length⟩ : FactDS), rr13)) = u1_0_l.set u1_2 (⟨x13.id, x13.ty, v15.take x13.args.length, v15.drop x13.args.length⟩ : FactDS) := pair_set hzz13
   refine we_sh [treeF TS_FactD 27 3 (.slice (some ⟨g13,0, none⟩) qn1 qc2) (u1_0_l.set u1_2 (⟨x13.id, x13.ty, v15.take x13.args.length, v15.drop x13.args.length⟩ : FactDS))] (fun _ h => h.treeIn 1 0 rfl rfl rfl hzs4) ?_
   refine we_roundK (_, u1_2 + 1, (u1_0_l.set u1_2 (⟨x13.id, x13.ty, v15.take x13.args.length, v15.drop x13.args.length⟩ : FactDS))) (Nat.lt_succ_self _) hE [2,0] rfl (asK [] rfl) rfl
  ·
   replace hm := iteF hm hb8
   refine wc_keep [0] (S' := [_]) rfl (wc_exit (we_then_exit (we_then_exit (we_block_hit ?_))))
   have hE := (Option.some.inj hm).symm
   replace hE := link_inr hLu1 hE
   refine we_join u1_0_l hE [0] rfl (asK [] rfl) rfl
 ·
  rintro j_1_0_l hE
  try dsimp only
  have hm := hLj_1
  rw [hE] at hm
  refine wc_seq (wc_region (wP rfl (wP rfl (wN rfl tE_22 (wP rfl ?_)))))
  obtain ⟨hg19, hm⟩ := gd_some hm
  refine wl_as (d := 19) (v' := .int .i64 ((k1 + 12 : Nat) : Int)) (S' := [_,_,_,_]) rfl rfl (nat_add (a := k1) (b := 12) hg19) ?_
  obtain ⟨hg20, hm⟩ := gd_some hm
  refine wl_treeOut 0 rfl (fun zz20 hzz20 => ?_)
  have hgt20 : k1 + 12 ≤ zz20.length := by rw [pair_len hzz20]; exact hg20
  refine wl_ownSpot 1 rfl (fun hsp20 hcm20 => (wl_sliceTo rfl rfl rfl (freshS_eq rfl) rfl rfl rfl rfl tE_22 tS_27 (Nat.le_trans hgt20 (by rw [← hcm20.2]; exact hcm20.1)) hsp20 (wP rfl (wl_nil (we_then (wc_keep [3] (S' := [_]) rfl (wc_seq (wc_region (wP rfl (wl_nil (we_then (wc_block (wc_sh [treeF TS_FactD 27 3 (.slice qp0 qn1 qc2) j_1_0_l] (fun _ h => h.treeIn 1 0 rfl rfl rfl hzz20) (wc_loop (σ := Nat × Nat × (List FactDS)) (fun (nu2, u2_4, u2_3_l) => iter (m_ropewalkkit_OverFacts_V_L2 N k1) nu2 (u2_4, u2_3_l) = some o0) (fun (nu2, u2_4, u2_3_l) => nu2) (fun (nu2, u2_4, u2_3_l) => [(4, .int .i64 ((u2_4 : Nat) : Int)), (3, .slice qp0 (k1 + 12) qc2)]) (fun (nu2, u2_4, u2_3_l) => []) (fun (nu2, u2_4, u2_3_l) => [treeF TS_FactD 27 3 (.slice qp0 qn1 qc2) u2_3_l]) (N, 0, j_1_0_l) hm [4,3] rfl (asK [] rfl) rfl (fun s_ hm => ?_)))))))))))))))
  obtain ⟨nu2, u2_4, u2_3_l⟩ := s_
  try dsimp only at hm ⊢
  obtain ⟨mu2, bu2, hnu2, hq, hLu2⟩ := iter_some hm
  clear hm
  subst hnu2
  replace hm := hq
  clear hq
  unfold m_ropewalkkit_OverFacts_V_L2 at hm
  try dsimp only at hm
  refine wc_seq (wc_seq (wc_region (wP rfl (wP rfl (wN rfl tE_22 (wP rfl (wl_as (d := 24) (v' := .bool (decide (u2_4 < (k1 + 12)))) (S' := [_,_,_,_,_]) rfl rfl (natlt (a := u2_4) (b := k1 + 12)) (wl_nil (we_then (wc_keep [24,4,3] (S' := [_,_,_]) rfl ?_))))))))))
  refine wc_cond rfl (fun hb24 => ?_) (fun hb24 => ?_)
  ·
   replace hm := iteT hm hb24
   refine wc_keep [4,3] (S' := [_,_]) rfl (wc_skip (we_then (wc_seq (wc_block (wc_region (wP rfl (wP rfl (wP rfl ?_))))))))
   obtain ⟨_, hc30, hm⟩ := bindO_some hm
   try dsimp only at hm
   refine wC [] [0] rfl fn_25 rfl (w_ropewalkkit_markFact_s N 2 ((u2_4 : Nat) : Int) hc30) (asK [] rfl) rfl (H' := [_]) rfl ?_
   rintro _ _ _ ⟨rfl, rfl, rfl⟩
   refine wl_treeOut 0 rfl (fun zz31 hzz31 => ?_)
   obtain ⟨x31, hx31, hm⟩ := bindO_some hm
   obtain ⟨rr31, hrr31⟩ := zip_at hzz31 hx31
   obtain ⟨hq31, hm⟩ := gd_some hm
   refine wl_indexS 1 u2_4 rfl rfl rfl (freshS_eq rfl) rfl rfl rfl rfl rfl hq31 (get_lt hrr31) tE_22 tS_27 (fun g31 eg31 => ?_)
   subst eg31
   refine wl_sh [.own 51 3 R_V (.slice rr31.1 ((x31.args ++ x31.argsT).length) rr31.2) (x31.args ++ x31.argsT), bagF TS_FactD zz31 (some u2_4), _] (fun _ h => h.bagOpen 0 u2_4 rfl hrr31) (wl_rowNil 51 3 R_V (wl_hAs 0 (φ' := .own 51 3 R_V (.slice none ((([] : List V) ++ []).length) 0) (([] : List V) ++ [])) rfl rfl (H' := [_,_,_,_]) rfl (wl_storeRow (u := ((⟨(IntKind.wrap .i64 ((IntKind.wrap .i64 (1000003 * (IntKind.wrap .i64 (2 + 7)))) + ((u2_4 : Nat) : Int))), 0, ([] : List V), []⟩ : FactDS), (none, 0))) 3 u2_4 rfl rfl rfl rfl rfl (get_lt hrr31) rfl rfl tS_27 rfl (fun _ _ _ => rfl) (H' := [_,_,_,_]) rfl ?_)))
   have hrs10 : (zz31.set u2_4 ((⟨(IntKind.wrap .i64 ((IntKind.wrap .i64 (1000003 * (IntKind.wrap .i64 (2 + 7)))) + ((u2_4 : Nat) : Int))), 0, ([] : List V), []⟩ : FactDS), (none, 0)))[u2_4]? = some ((⟨(IntKind.wrap .i64 ((IntKind.wrap .i64 (1000003 * (IntKind.wrap .i64 (2 + 7)))) + ((u2_4 : Nat) : Int))), 0, ([] : List V), []⟩ : FactDS), (none, 0)) := set_atZ hrr31
   have hzs10 : List.map (fun x : FactDS × (Option Addr × Nat) => x.1) (zz31.set u2_4 ((⟨(IntKind.wrap .i64 ((IntKind.wrap .i64 (1000003 * (IntKind.wrap .i64 (2 + 7)))) + ((u2_4 : Nat) : Int))), 0, ([] : List V), []⟩ : FactDS), (none, 0))) = u2_3_l.set u2_4 (⟨(IntKind.wrap .i64 ((IntKind.wrap .i64 (1000003 * (IntKind.wrap .i64 (2 + 7)))) + ((u2_4 : Nat) : Int))), 0, ([] : List V), []⟩ : FactDS) := pair_set hzz31
   refine wl_nil (we_block_normal (we_then (wc_keep [4,3] (S' := [_,_]) rfl (wc_region (wP rfl (wP rfl ?_))))))
   obtain ⟨hg26, hm⟩ := gd_some hm
   refine wl_as (d := 26) (v' := .int .i64 ((u2_4 + 1 : Nat) : Int)) (S' := [_,_,_]) rfl rfl (nat_add (a := u2_4) (b := 1) hg26) (wl_pure (S' := [_,_,_]) rfl rfl rfl rfl rfl (wl_nil ?_))
   have hE := (Option.some.inj hm).symm
   replace hE := link_inl hLu2 hE
   refine we_sh [_, bagF TS_FactD (zz31.set u2_4 ((⟨(IntKind.wrap .i64 ((IntKind.wrap .i64 (1000003 * (IntKind.wrap .i64 (2 + 7)))) + ((u2_4 : Nat) : Int))), 0, ([] : List V), []⟩ : FactDS), (none, 0))) none, _] (fun _ h => Holds.bagClose (T := TS_FactD) (x := (⟨(IntKind.wrap .i64 ((IntKind.wrap .i64 (1000003 * (IntKind.wrap .i64 (2 + 7)))) + ((u2_4 : Nat) : Int))), 0, ([] : List V), []⟩ : FactDS)) (r := (none, 0)) (i := u2_4) (zs := zz31) (H := [_,_,_]) h 1 rfl) ?_
   have hzs11 : List.map (fun x : FactDS × (Option Addr × Nat) => x.1) (zz31.set u2_4 ((⟨(IntKind.wrap .i64 ((IntKind.wrap .i64 (1000003 * (IntKind.wrap .i64 (2 + 7)))) + ((u2_4 : Nat) : Int))), 0, ([] : List V), []⟩ : FactDS), (none, 0))) = u2_3_l.set u2_4 (⟨(IntKind.wrap .i64 ((IntKind.wrap .i64 (1000003 * (IntKind.wrap .i64 (2 + 7)))) + ((u2_4 : Nat) : Int))), 0, ([] : List V), []⟩ : FactDS) := pair_set hzz31
   refine we_sh [_, treeF TS_FactD 27 3 (.slice (some ⟨g31,0, none⟩) qn1 qc2) (u2_3_l.set u2_4 (⟨(IntKind.wrap .i64 ((IntKind.wrap .i64 (1000003 * (IntKind.wrap .i64 (2 + 7)))) + ((u2_4 : Nat) : Int))), 0, ([] : List V), []⟩ : FactDS))] (fun _ h => h.treeIn 2 1 rfl rfl rfl hzs11) (we_pick [1] rfl (H' := [_]) rfl ?_)
   refine we_roundK (_, u2_4 + 1, (u2_3_l.set u2_4 (⟨(IntKind.wrap .i64 ((IntKind.wrap .i64 (1000003 * (IntKind.wrap .i64 (2 + 7)))) + ((u2_4 : Nat) : Int))), 0, ([] : List V), []⟩ : FactDS))) (Nat.lt_succ_self _) hE [4,3] rfl (asK [] rfl) rfl
  ·
   replace hm := iteF hm hb24
   refine wc_keep [] (S' := []) rfl (wc_exit (we_then_exit (we_then_exit (we_block_hit ?_))))
   have hE := (Option.some.inj hm).symm
   replace hE := link_inr hLu2 hE
   replace hE := hE.symm
   subst hE
   refine ret_none (Hr := [_]) [0] Tryz.results12 ⟨rfl, rfl, rfl⟩ (asK [] rfl) rfl rfl (.inr rfl)
theorem w_ropewalkkit_Pick_s (N : Nat) (a0 : Int) (a1 : Int) (o0 : Int) (hm : m_ropewalkkit_Pick N a0 a1 = some o0) : Spec Tryz.prog 35 [.int .i64 a0, .int .i64 a1] [] [] (fun v Φr Hr => v = .int .i64 o0 ∧ Φr = [] ∧ Hr = []) := by
 unfold m_ropewalkkit_Pick at hm
 refine spec_of Tryz.func35 rfl Tryz.ntmps35 rfl (S := [_,_]) rfl (fun C => (wc_seq (wc_region (wP rfl (wl_nil (we_then (wc_keep [0,1] (S' := [_,_]) rfl (wc_seq (wc_seq (wc_region (wP rfl (wP rfl (wl_nil (we_then ?_))))))))))))))
 refine wc_keep [6,0,1] (S' := [_,_,_]) rfl ?_
 refine wc_cond rfl (fun hb6 => ?_) (fun hb6 => ?_)
 ·
  replace hm := iteT hm hb6
  refine wc_keep [] (S' := []) rfl (wc_seq (wc_region (wP rfl (wl_nil (we_then (wc_ret (we_then_ret ?_)))))))
  have hE := (Option.some.inj hm).symm
  replace hE := hE.symm
  subst hE
  refine ret_one (Hr := []) [] Tryz.results35 (res_tmp rfl) ⟨rfl, rfl, rfl⟩ (asK [] rfl) rfl rfl (.inl rfl)
 ·
  replace hm := iteF hm hb6
  refine wc_keep [0,1] (S' := [_,_]) rfl (wc_skip (we_then (wc_seq (wc_region (wP rfl (wP rfl ?_))))))
  obtain ⟨hg9, hm⟩ := gd_some hm
  refine wl_bin rfl rfl rfl (freshS_eq rfl) rfl rfl rfl (run_rem hg9) (wl_pure (S' := [_,_,_,_]) rfl rfl rfl rfl rfl (wl_nil (we_then (wc_keep [0,1] (S' := [_,_]) rfl (wc_seq ?_)))))
  obtain ⟨bj_1, hm, hLj_1⟩ := bindO_some hm
  refine wc_cut (σ := Int) (fun j_1_0 => bj_1 = j_1_0) (fun j_1_0 => [(0, .int .i64 j_1_0)]) (fun j_1_0 => []) (fun j_1_0 => []) ?_ ?_
  ·
   refine wc_seq (wc_region (wP rfl (wP rfl (wl_nil (we_then (wc_keep [11,0,1] (S' := [_,_,_]) rfl ?_))))))
   refine wc_cond rfl (fun hb11 => ?_) (fun hb11 => ?_)
   ·
    replace hm := iteT hm hb11
    refine wc_keep [0,1] (S' := [_,_]) rfl (wc_region (wP rfl (wP rfl (wP rfl ?_))))
    obtain ⟨hg14, hm⟩ := gd_some hm
    refine wl_as (d := 14) (v' := .int .i64 ((Int.tmod a0 a1) + a1)) (S' := [_,_,_,_]) rfl rfl (i64_in hg14) (wl_pure (S' := [_,_,_,_]) rfl rfl rfl rfl rfl (wl_nil ?_))
    have hE := (Option.some.inj hm).symm
    refine we_join ((Int.tmod a0 a1) + a1) hE [0] rfl (asK [] rfl) rfl
   ·
    replace hm := iteF hm hb11
    refine wc_keep [0] (S' := [_]) rfl (wc_skip ?_)
    have hE := (Option.some.inj hm).symm
    refine we_join (Int.tmod a0 a1) hE [0] rfl (asK [] rfl) rfl
  ·
   rintro j_1_0 hE
   try dsimp only
   have hm := hLj_1
   rw [hE] at hm
   refine wc_seq (wc_region (wP rfl (wP rfl (wl_nil (we_then (wc_keep [4] (S' := [_]) rfl (wc_ret ?_)))))))
   have hE := (Option.some.inj hm).symm
   replace hE := hE.symm
   subst hE
   refine ret_one (Hr := []) [] Tryz.results35 (res_tmp rfl) ⟨rfl, rfl, rfl⟩ (asK [] rfl) rfl rfl (.inl rfl)
theorem w_memory_Memory_Add_V_s (N : Nat) (qg0 : Nat) (qp1 : Option Addr) (qn2 : Nat) (qc3 : Nat) (l0 : List FactD) (a1 : Int) (a2 : Int) (qp4 : Option Addr) (qn5 : Nat) (qc6 : Nat) (l3 : List V) (k4 : Nat) (o0 : Int) (o1 : Nat) (o4 : List FactD) (o6 : Int) (hm : m_memory_Memory_Add_V N l0 a1 a2 l3 k4 = some (o0, o1, o4, o6)) : Spec Tryz.prog 20 [.pointer (some ⟨qg0,0, none⟩), .int .i64 a2, .slice qp4 k4 qc6] [] [.blk qg0 [.slice qp1 qn2 qc3, .int .i64 a1] 61, .own 27 3 R_FactD (.slice qp1 qn2 qc3) l0, .own 51 3 R_V (.slice qp4 qn5 qc6) l3] (fun v Φr Hr => ∃ (o2 : Option Addr) (o3 : Nat) (o5 : Nat), v = .tuple #[.int .i64 o0, .int .i64 ((o1 : Nat) : Int)] ∧ Φr = [] ∧ Hr = [.blk qg0 [.slice o2 o5 o3, .int .i64 o6] 61, .own 27 3 R_FactD (.slice o2 o5 o3) o4, .own 51 3 R_V (.slice qp4 qn5 qc6) l3]) := by
 unfold m_memory_Memory_Add_V at hm
 refine spec_of Tryz.func20 rfl Tryz.ntmps20 rfl (S := [_,_,_]) rfl (fun C => (wc_seq (wc_region (wP rfl (wP rfl (wl_nil (we_then (wc_keep [0,1,2] (S' := [_,_,_]) rfl (wc_seq (wc_block (wc_seq (wc_region (wP rfl ?_)))))))))))))
 obtain ⟨_, hc11, hm⟩ := bindO_some hm
 try dsimp only at hm
 refine wC [0,1] [2] rfl fn_45 rfl (w_memory_Memory_known_s N qg0 qp1 qn2 qc3 l0 a1 hc11) (asK [] rfl) rfl (H' := [_]) rfl ?_
 rintro _ _ _ ⟨rfl, rfl, rfl⟩
 refine wP rfl (wP rfl (wl_nil (we_then (wc_keep [9,0,1,2] (S' := [_,_,_,_]) rfl ?_))))
 refine wc_cond rfl (fun hb9 => ?_) (fun hb9 => ?_)
 ·
  replace hm := iteT hm hb9
  refine wc_keep [] (S' := []) rfl (wc_seq (wc_region (wP rfl (wP rfl (wl_nil (we_then (wc_ret (we_block_ret (we_then_ret ?_)))))))))
  have hE := (Option.some.inj hm).symm
  obtain ⟨hE0, hF1⟩ := Prod.mk.inj hE
  obtain ⟨hE1, hF2⟩ := Prod.mk.inj hF1
  obtain ⟨hE2, hE3⟩ := Prod.mk.inj hF2
  clear hE hF1 hF2
  replace hE0 := hE0.symm
  subst hE0
  replace hE1 := hE1.symm
  subst hE1
  replace hE2 := hE2.symm
  subst hE2
  replace hE3 := hE3.symm
  subst hE3
  refine ret_two (Hr := [_,_,_]) [0,1,2] Tryz.results20 (res_tmp rfl) (res_tmp rfl) ⟨qp1, qc3, qn2, rfl, rfl, rfl⟩ (asK [] rfl) rfl rfl (.inl rfl)
 ·
  replace hm := iteF hm hb9
  refine wc_keep [0,1,2] (S' := [_,_,_]) rfl (wc_seq (wc_region (wP rfl (wP rfl (wl_ownLen 2 rfl (fun hzqn5 _ => ?_))))))
  subst hzqn5
  obtain ⟨hzl4, hm⟩ := gd_some hm
  refine wl_at 0 (v' := .slice qp4 ((l3.take k4).length) qc6) rfl (by rw [take_len hzl4]) (wl_at 4 (v' := .slice qp4 ((l3.take k4).length) qc6) rfl (by rw [take_len hzl4]) ?_)
  obtain ⟨v16, hc16, hm⟩ := bindO_some hm
  refine wl_lend [] [0,1,2] [2] rfl rfl rfl (freshS_eq rfl) rfl rfl fn_26 rfl (w_memory_may_s N a2 qp4 qc6 (l3.take k4) _ hc16) (fun F w hφ hh => (ask_cons (sli_take (own_sli (hh _ (mem_at (k := 0) rfl))) k4) ask_nil)) (fun _ _ _ hR => by obtain ⟨rfl, rfl, rfl⟩ := hR; exact ⟨rfl, (fun _ h => free_nil h)⟩) rfl rfl (H' := [_,_,_]) rfl ?_
  rintro _ _ _ ⟨rfl, rfl, rfl⟩
  refine wl_at 1 (v' := .slice qp4 k4 qc6) rfl (by rw [take_len hzl4]) (wl_at 5 (v' := .slice qp4 k4 qc6) rfl (by rw [take_len hzl4]) (wP rfl (wP rfl (wl_nil (we_then (wc_keep [13,0,1,2] (S' := [_,_,_,_]) rfl ?_))))))
  refine wc_cond rfl (fun hb13 => ?_) (fun hb13 => ?_)
  ·
   replace hm := iteT hm hb13
   refine wc_keep [] (S' := []) rfl (wc_seq (wc_region (wP rfl (wP rfl (wl_nil (we_then (wc_ret (we_block_ret (we_then_ret ?_)))))))))
   have hE := (Option.some.inj hm).symm
   obtain ⟨hE0, hF1⟩ := Prod.mk.inj hE
   obtain ⟨hE1, hF2⟩ := Prod.mk.inj hF1
   obtain ⟨hE2, hE3⟩ := Prod.mk.inj hF2
   clear hE hF1 hF2
   replace hE0 := hE0.symm
   subst hE0
   replace hE1 := hE1.symm
   subst hE1
   replace hE2 := hE2.symm
   subst hE2
   replace hE3 := hE3.symm
   subst hE3
   refine ret_two (Hr := [_,_,_]) [0,1,2] Tryz.results20 (res_tmp rfl) (res_tmp rfl) ⟨qp1, qc3, qn2, rfl, rfl, rfl⟩ (asK [] rfl) rfl rfl (.inl rfl)
  ·
   replace hm := iteF hm hb13
   refine wc_keep [0,1,2] (S' := [_,_,_]) rfl (wc_skip (we_block_normal (we_then (wc_seq (wc_seq (wc_region (wP rfl (wP rfl (wF rfl tF_61_0 (wP rfl (wP rfl ?_)))))))))))
   obtain ⟨v23, hc23, hm⟩ := bindO_some hm
   refine wC [0,1,2] [] rfl fn_27 rfl (w_memory_row_says_V_s N qg0 qp1 qn2 qc3 l0 a1 a2 qp4 l3.length qc6 l3 k4 _ hc23) (asK [] rfl) rfl (H' := []) rfl ?_
   rintro _ _ _ ⟨rfl, rfl, rfl⟩
   refine wP rfl (wl_nil (we_then (wc_keep [8,0,1,2] (S' := [_,_,_,_]) rfl (wc_seq (wc_region (wP rfl (wP rfl (wl_nil (we_then (wc_keep [25,8,0,1,2] (S' := [_,_,_,_,_]) rfl ?_))))))))))
   refine wc_cond rfl (fun hb25 => ?_) (fun hb25 => ?_)
   ·
    replace hm := iteT hm hb25
    refine wc_keep [8,0] (S' := [_,_]) rfl (wc_seq (wc_region (wP rfl (wP rfl (wF rfl tF_61_0 (wF rfl tF_59_0 (wD 0 0 rfl tS_22 tA_22 rfl (wP rfl ?_))))))))
    obtain ⟨hn32, hm⟩ := gd_some hm
    obtain ⟨x32, hx32, hm⟩ := bindO_some hm
    refine wl_indexH 1 v23.toNat rfl rfl rfl (freshS_eq rfl) rfl rfl rfl rfl (toNat_eq hn32) (get_lt hx32) tE_22 tS_27 (fun g32 eg32 => ?_)
    subst eg32
    refine wF rfl tF_27_0 (wl_loadRow R_FactD_opens 1 v23.toNat 0 rfl rfl rfl (freshS_eq rfl) rfl rfl rfl hx32 tS_3 tA_3 (v := fun r34 => .int .i64 (x32.id)) (fun _ => rfl) (fun _ => rfl) (fun r34 _ => (wP rfl (wP rfl (wl_nil (we_then (wc_keep [7,6] (S' := [_,_]) rfl (wc_ret (we_then_ret ?_)))))))))
    have hE := (Option.some.inj hm).symm
    obtain ⟨hE0, hF1⟩ := Prod.mk.inj hE
    obtain ⟨hE1, hF2⟩ := Prod.mk.inj hF1
    obtain ⟨hE2, hE3⟩ := Prod.mk.inj hF2
    clear hE hF1 hF2
    replace hE0 := hE0.symm
    subst hE0
    replace hE1 := hE1.symm
    subst hE1
    replace hE2 := hE2.symm
    subst hE2
    replace hE3 := hE3.symm
    subst hE3
    refine ret_two (Hr := [_,_,_]) [0,1,2] Tryz.results20 (res_tmp rfl) (res_tmp rfl) ⟨some ⟨g32,0, none⟩, qc3, qn2, rfl, rfl, rfl⟩ (asK [] rfl) rfl rfl (.inl rfl)
   ·
    replace hm := iteF hm hb25
    refine wc_keep [0,1,2] (S' := [_,_,_]) rfl (wc_skip (we_then (wc_seq (wc_seq ?_))))
    obtain ⟨bj_1, hm, hLj_1⟩ := bindO_some hm
    refine wc_cut (σ := Bool) (fun j_1_48 => bj_1 = j_1_48) (fun j_1_48 => [(0, .pointer (some ⟨qg0,0, none⟩)), (1, .int .i64 a2), (2, .slice qp4 k4 qc6), (48, .bool j_1_48)]) (fun j_1_48 => []) (fun j_1_48 => [.blk qg0 [.slice qp1 qn2 qc3, .int .i64 a1] 61, .own 27 3 R_FactD (.slice qp1 qn2 qc3) l0, .own 51 3 R_V (.slice qp4 l3.length qc6) l3]) ?_ ?_
    ·
     refine wc_region (wP rfl (wP rfl (wF rfl tF_61_0 (wF rfl tF_59_0 (wD 0 0 rfl tS_22 tA_22 rfl (wl_ownLen 1 rfl (fun hl40 _ => (wN rfl tE_22 (wl_as (d := 40) (v' := .int .i64 ((l0.length : Nat) : Int)) (S' := [_,_,_,_,_,_,_,_]) rfl rfl (len_is hl40) (wP rfl (wl_as (d := 41) (v' := .bool (decide (256 ≤ l0.length))) (S' := [_,_,_,_,_,_,_,_,_]) rfl rfl (natge (a := l0.length) (b := 256)) (wP rfl ?_))))))))))))
     refine wl_split (d := 42) (S' := [_,_,_,_,_,_,_,_,_,_]) rfl rfl (fun hs42 => ?_) (fun hs42 => ?_)
     ·
      replace hm := iteT hm hs42
      refine wO rfl (wO rfl (wO rfl (wO rfl (wO rfl (wP rfl (wl_nil ?_))))))
      have hE := (Option.some.inj hm).symm
      refine we_join true hE [0,1,2,48] rfl (asK [] rfl) rfl
     ·
      replace hm := iteF hm hs42
      refine wP rfl (wP rfl (wF rfl tF_61_1 (wD 0 1 rfl tS_3 tA_3 rfl (wP rfl (wP rfl (wl_nil ?_))))))
      have hE := (Option.some.inj hm).symm
      refine we_join (decide (a1 > 1099511627776)) hE [0,1,2,48] rfl (asK [] rfl) rfl
    ·
     rintro j_1_48 hE
     try dsimp only
     have hm := hLj_1
     rw [hE] at hm
     refine wc_cond rfl (fun hb48 => ?_) (fun hb48 => ?_)
     ·
      replace hm := iteT hm hb48
      refine wc_keep [] (S' := []) rfl (wc_seq (wc_region (wP rfl (wP rfl (wl_nil (we_then (wc_ret (we_then_ret ?_))))))))
      have hE := (Option.some.inj hm).symm
      obtain ⟨hE0, hF1⟩ := Prod.mk.inj hE
      obtain ⟨hE1, hF2⟩ := Prod.mk.inj hF1
      obtain ⟨hE2, hE3⟩ := Prod.mk.inj hF2
      clear hE hF1 hF2
      replace hE0 := hE0.symm
      subst hE0
      replace hE1 := hE1.symm
      subst hE1
      replace hE2 := hE2.symm
      subst hE2
      replace hE3 := hE3.symm
      subst hE3
      refine ret_two (Hr := [_,_,_]) [0,1,2] Tryz.results20 (res_tmp rfl) (res_tmp rfl) ⟨qp1, qc3, qn2, rfl, rfl, rfl⟩ (asK [] rfl) rfl rfl (.inl rfl)
     ·
      replace hm := iteF hm hb48
      refine wc_keep [0,1,2] (S' := [_,_,_]) rfl (wc_skip (we_then (wc_seq ?_)))
      obtain ⟨hzl6, hm⟩ := gd_some hm
      obtain ⟨_, hc62, hm⟩ := bindO_some hm
      try dsimp only at hm
      obtain ⟨hg64, hm⟩ := gd_some hm
      refine wc_draw [0,1,2,3,4,5,6,7,8,9,10,11,12,16,17,18] rfl rfl (fun hok => (xP hok 0 rfl (xP hok 1 rfl (xP hok 2 rfl (wx_fieldAddr hok 3 rfl rfl rfl (freshS_eq rfl) rfl rfl rfl tF_61_0 (wx_fieldAddr hok 4 rfl rfl rfl (freshS_eq rfl) rfl rfl rfl tF_59_0 (wx_loadH hok 5 0 0 rfl rfl rfl (freshS_eq rfl) rfl rfl rfl rfl (cs := [_]) rfl tS_22 tA_22 rfl rfl (xP hok 6 rfl (xP hok 7 rfl (wx_fieldAddr hok 8 rfl rfl rfl (freshS_eq rfl) rfl rfl rfl tF_61_1 (wx_loadH hok 9 0 1 rfl rfl rfl (freshS_eq rfl) rfl rfl rfl rfl (cs := [_]) rfl tS_3 tA_3 rfl rfl (xP hok 10 rfl (xP hok 11 rfl (wx_build hok 12 rfl rfl rfl (freshS_eq rfl) rfl rfl tZ_27 tP_27 rfl (out := [_,_,_]) rfl ?_))))))))))))))
      refine xS hok 13 rfl (wl_at 0 (v' := .agg #[.int .i64 a1, .int .i64 a2, .slice qp4 ((l3.take k4).length) qc6]) rfl (by rw [take_len hzl6]) (wl_at 1 (v' := .slice qp4 ((l3.take k4).length) qc6) rfl (by rw [take_len hzl6]) (wl_at 15 (v' := .slice qp4 ((l3.take k4).length) qc6) rfl (by rw [take_len hzl6]) (wl_lend [] [0,1,2] [2] rfl rfl rfl (freshS_eq rfl) rfl rfl fn_28 rfl (w_memory_own_s N a1 a2 qp4 qc6 (l3.take k4) hc62) (fun F w hφ hh => (ask_cons (sli_take (own_sli (hh _ (mem_at (k := 0) rfl))) k4) ask_nil)) (fun _ _ _ hR => by obtain ⟨_,_, rfl, rfl, rfl⟩ := hR; exact ⟨rfl, (free_cons (own_free mkRep_free) (fun _ h => free_nil h))⟩) rfl rfl (H' := [_,_,_]) rfl ?_))))
      rintro _ _ _ ⟨p62_0, c62_1, rfl, rfl, rfl⟩
      refine wl_at 1 (v' := .agg #[.int .i64 a1, .int .i64 a2, .slice qp4 k4 qc6]) rfl (by rw [take_len hzl6]) (wl_at 2 (v' := .slice qp4 k4 qc6) rfl (by rw [take_len hzl6]) (wl_at 16 (v' := .slice qp4 k4 qc6) rfl (by rw [take_len hzl6]) (wl_nil (we_x [] [1,1] rfl rfl (xS hok 14 rfl (wl_buildSlice rfl rfl rfl (freshS_eq rfl) rfl tE_22 tS_27 tZ_27 rfl (zs := [.int .i64 0, .int .i64 0, .slice none 0 0]) (by kernel_rfl) rfl (out := [_,_,_]) rfl (fun g63 => (wl_nil (we_x [] [2,2] rfl rfl (xS hok 15 rfl (wl_freeze 1 rfl (H' := [_,_,_,_]) rfl (wl_fact (.sli 3 R_V p62_0 c62_1 (l3.take k4)) (fun F w hφ => own_sli (hφ _ (mem_at (k := 0) rfl))) (wl_appendH ([(⟨a1, a2, l3.take k4⟩ : FactD)]) 2 0 rfl rfl rfl (freshS_eq rfl) rfl rfl rfl rfl rfl (fun F w hφ => ⟨[.int .i64 a1, .int .i64 a2, .slice p62_0 ((l3.take k4).length) c62_1],[], rfl, rfl, ⟨(p62_0, c62_1), rfl, (ask_cons (hφ _ (mem_at (k := 0) rfl)) ask_nil)⟩, rfl⟩) tE_22 tR_27 rfl rfl (Nat.le_trans hg64 (by decide)) (Nat.le_trans (Nat.mul_le_mul_right _ hg64) (by decide)) (H2 := fun p64 c64 => [_,_, .own 27 3 R_FactD (.slice p64 ((l0 ++ ([(⟨a1, a2, l3.take k4⟩ : FactD)])).length) c64) (l0 ++ ([(⟨a1, a2, l3.take k4⟩ : FactD)])), _]) (fun _ _ => rfl) (fun p64 c64 => (wl_drop 0 rfl (H' := [_,_,_]) rfl ?_)))))))))))))))
      refine wl_nil (we_x [] [0] rfl rfl (xP hok 16 rfl (wx_fieldAddr hok 17 rfl rfl rfl (freshS_eq rfl) rfl rfl rfl tF_61_0 (wx_fieldAddr hok 18 rfl rfl rfl (freshS_eq rfl) rfl rfl rfl tF_59_0 (xS hok 19 rfl (wS 0 0 rfl tS_22 (all' := [_,_]) rfl (H' := [_,_,_]) rfl (wl_nil (we_x [0,1] [] rfl rfl (wx_done hok rfl (we_then (wc_keep [0] (S' := [_]) rfl (wc_seq (wc_region ?_)))))))))))))
      refine wP rfl (wP rfl (wF rfl tF_61_1 (wD 0 1 rfl tS_3 tA_3 rfl (wP rfl ?_))))
      obtain ⟨hg72, hm⟩ := gd_some hm
      refine wl_as (d := 72) (v' := .int .i64 (a1 + 1)) (S' := [_,_,_,_,_]) rfl rfl (i64_in hg72) (wP rfl (wF rfl tF_61_1 (wS 0 1 rfl tS_3 (all' := [_,_]) rfl (H' := [_,_,_]) rfl (wl_nil (we_then (wc_keep [0] (S' := [_]) rfl (wc_seq (wc_region (wP rfl (wP rfl (wF rfl tF_61_1 (wD 0 1 rfl tS_3 tA_3 rfl (wP rfl ?_)))))))))))))
      obtain ⟨hg79, hm⟩ := gd_some hm
      refine wl_as (d := 79) (v' := .int .i64 ((a1 + 1) - 1)) (S' := [_,_,_,_,_]) rfl rfl (i64_in hg79) (wP rfl (wP rfl (wl_nil (we_then (wc_keep [7,6] (S' := [_,_]) rfl (wc_ret ?_))))))
      have hE := (Option.some.inj hm).symm
      obtain ⟨hE0, hF1⟩ := Prod.mk.inj hE
      obtain ⟨hE1, hF2⟩ := Prod.mk.inj hF1
      obtain ⟨hE2, hE3⟩ := Prod.mk.inj hF2
      clear hE hF1 hF2
      replace hE0 := hE0.symm
      subst hE0
      replace hE1 := hE1.symm
      subst hE1
      replace hE2 := hE2.symm
      subst hE2
      replace hE3 := hE3.symm
      subst hE3
      refine ret_two (Hr := [_,_,_]) [0,1,2] Tryz.results20 (res_tmp rfl) (res_tmp rfl) ⟨p64, c64, (l0 ++ ([(⟨a1, a2, l3.take k4⟩ : FactD)])).length, rfl, rfl, rfl⟩ (asK [] rfl) rfl rfl (.inl rfl)
theorem w_ropewalkref11_Memory_Add_s (N : Nat) (qg0 : Nat) (qp1 : Option Addr) (qn2 : Nat) (qc3 : Nat) (l0 : List FactD) (a1 : Int) (a2 : Int) (qp4 : Option Addr) (qc5 : Nat) (l3 : List V) (o0 : Int) (o1 : Nat) (o4 : List FactD) (o6 : Int) (hm : m_ropewalkref11_Memory_Add N l0 a1 a2 l3 = some (o0, o1, o4, o6)) : Spec Tryz.prog 36 [.pointer (some ⟨qg0,0, none⟩), .int .i64 a2, .slice qp4 l3.length qc5] [.sli 3 R_V qp4 qc5 l3] [.blk qg0 [.slice qp1 qn2 qc3, .int .i64 a1] 63, .own 27 3 R_FactD (.slice qp1 qn2 qc3) l0] (fun v Φr Hr => ∃ (o2 : Option Addr) (o3 : Nat) (o5 : Nat), v = .tuple #[.int .i64 o0, .int .i64 ((o1 : Nat) : Int)] ∧ Φr = [] ∧ Hr = [.blk qg0 [.slice o2 o5 o3, .int .i64 o6] 63, .own 27 3 R_FactD (.slice o2 o5 o3) o4]) := by
 unfold m_ropewalkref11_Memory_Add at hm
 refine spec_of Tryz.func36 rfl Tryz.ntmps36 rfl (S := [_,_,_]) rfl (fun C => (wc_seq (wc_region (wP rfl (wP rfl (wl_nil (we_then (wc_keep [0,1,2] (S' := [_,_,_]) rfl (wc_seq (wc_seq (wc_region (wP rfl (wP rfl ?_)))))))))))))
 obtain ⟨v11, hc11, hm⟩ := bindO_some hm
 refine wC [] [0,1] rfl fn_29 rfl (w_ropewalkref11_May_s N a2 qp4 qc5 l3 _ hc11) (asK [0] rfl) rfl (H' := [_,_]) rfl ?_
 rintro _ _ _ ⟨rfl, rfl, rfl⟩
 refine wP rfl (wl_nil (we_then (wc_keep [12,0,1,2] (S' := [_,_,_,_]) rfl ?_)))
 refine wc_cond rfl (fun hb12 => ?_) (fun hb12 => ?_)
 ·
  replace hm := iteT hm hb12
  refine wc_keep [] (S' := []) rfl (wc_seq (wc_region (wP rfl (wP rfl (wl_nil (we_then (wc_ret (we_then_ret ?_))))))))
  have hE := (Option.some.inj hm).symm
  obtain ⟨hE0, hF1⟩ := Prod.mk.inj hE
  obtain ⟨hE1, hF2⟩ := Prod.mk.inj hF1
  obtain ⟨hE2, hE3⟩ := Prod.mk.inj hF2
  clear hE hF1 hF2
  replace hE0 := hE0.symm
  subst hE0
  replace hE1 := hE1.symm
  subst hE1
  replace hE2 := hE2.symm
  subst hE2
  replace hE3 := hE3.symm
  subst hE3
  refine ret_two (Hr := [_,_]) [0,1] Tryz.results36 (res_tmp rfl) (res_tmp rfl) ⟨qp1, qc3, qn2, rfl, rfl, rfl⟩ (asK [] rfl) rfl rfl (.inl rfl)
 ·
  replace hm := iteF hm hb12
  refine wc_keep [0,1,2] (S' := [_,_,_]) rfl (wc_skip (we_then (wc_seq (wc_region (wP rfl (wP rfl (wF rfl tF_63_0 (wD 0 0 rfl tS_22 tA_22 rfl (wP rfl (wP rfl (wl_ownLen 1 rfl (fun hzqn2 _ => ?_))))))))))))
  subst hzqn2
  obtain ⟨v19, hc19, hm⟩ := bindO_some hm
  refine wl_lend [] [0,1] [1] rfl rfl rfl (freshS_eq rfl) rfl rfl fn_30 rfl (w_ropewalkref11_place_s N qp1 qc3 l0 a2 qp4 qc5 l3 _ hc19) (fun F w hφ hh => (ask_cons (own_sli (hh _ (mem_at (k := 0) rfl))) (ask_cons (hφ _ (mem_at (k := 0) rfl)) ask_nil))) (fun _ _ _ hR => by obtain ⟨rfl, rfl, rfl⟩ := hR; exact ⟨rfl, (fun _ h => free_nil h)⟩) rfl rfl (H' := [_,_]) rfl ?_
  rintro _ _ _ ⟨rfl, rfl, rfl⟩
  refine wP rfl (wl_nil (we_then (wc_keep [8,0,1,2] (S' := [_,_,_,_]) rfl (wc_seq (wc_seq (wc_region (wP rfl (wP rfl (wl_nil (we_then (wc_keep [21,8,0,1,2] (S' := [_,_,_,_,_]) rfl ?_)))))))))))
  refine wc_cond rfl (fun hb21 => ?_) (fun hb21 => ?_)
  ·
   replace hm := iteT hm hb21
   refine wc_keep [8,0] (S' := [_,_]) rfl (wc_seq (wc_region (wP rfl (wP rfl (wF rfl tF_63_0 (wD 0 0 rfl tS_22 tA_22 rfl (wP rfl ?_)))))))
   obtain ⟨hn27, hm⟩ := gd_some hm
   obtain ⟨x27, hx27, hm⟩ := bindO_some hm
   refine wl_indexH 1 v19.toNat rfl rfl rfl (freshS_eq rfl) rfl rfl rfl rfl (toNat_eq hn27) (get_lt hx27) tE_22 tS_27 (fun g27 eg27 => ?_)
   subst eg27
   refine wF rfl tF_27_0 (wl_loadRow R_FactD_opens 1 v19.toNat 0 rfl rfl rfl (freshS_eq rfl) rfl rfl rfl hx27 tS_3 tA_3 (v := fun r29 => .int .i64 (x27.id)) (fun _ => rfl) (fun _ => rfl) (fun r29 _ => (wP rfl (wP rfl (wl_nil (we_then (wc_keep [7,6] (S' := [_,_]) rfl (wc_ret (we_then_ret ?_)))))))))
   have hE := (Option.some.inj hm).symm
   obtain ⟨hE0, hF1⟩ := Prod.mk.inj hE
   obtain ⟨hE1, hF2⟩ := Prod.mk.inj hF1
   obtain ⟨hE2, hE3⟩ := Prod.mk.inj hF2
   clear hE hF1 hF2
   replace hE0 := hE0.symm
   subst hE0
   replace hE1 := hE1.symm
   subst hE1
   replace hE2 := hE2.symm
   subst hE2
   replace hE3 := hE3.symm
   subst hE3
   refine ret_two (Hr := [_,_]) [0,1] Tryz.results36 (res_tmp rfl) (res_tmp rfl) ⟨some ⟨g27,0, none⟩, qc3, l0.length, rfl, rfl, rfl⟩ (asK [] rfl) rfl rfl (.inl rfl)
  ·
   replace hm := iteF hm hb21
   refine wc_keep [0,1,2] (S' := [_,_,_]) rfl (wc_skip (we_then (wc_seq (wc_seq ?_))))
   obtain ⟨bj_1, hm, hLj_1⟩ := bindO_some hm
   refine wc_cut (σ := Bool) (fun j_1_42 => bj_1 = j_1_42) (fun j_1_42 => [(0, .pointer (some ⟨qg0,0, none⟩)), (1, .int .i64 a2), (2, .slice qp4 l3.length qc5), (42, .bool j_1_42)]) (fun j_1_42 => [.sli 3 R_V qp4 qc5 l3]) (fun j_1_42 => [.blk qg0 [.slice qp1 l0.length qc3, .int .i64 a1] 63, .own 27 3 R_FactD (.slice qp1 l0.length qc3) l0]) ?_ ?_
   ·
    refine wc_region (wP rfl (wP rfl (wF rfl tF_63_0 (wD 0 0 rfl tS_22 tA_22 rfl (wN rfl tE_22 (wP rfl (wl_as (d := 35) (v' := .bool (decide (256 ≤ l0.length))) (S' := [_,_,_,_,_,_,_,_]) rfl rfl (natge (a := l0.length) (b := 256)) (wP rfl ?_))))))))
    refine wl_split (d := 36) (S' := [_,_,_,_,_,_,_,_,_]) rfl rfl (fun hs36 => ?_) (fun hs36 => ?_)
    ·
     replace hm := iteT hm hs36
     refine wO rfl (wO rfl (wO rfl (wO rfl (wO rfl (wP rfl (wl_nil ?_))))))
     have hE := (Option.some.inj hm).symm
     refine we_join true hE [0,1,2,42] rfl (asK [0] rfl) rfl
    ·
     replace hm := iteF hm hs36
     refine wP rfl (wP rfl (wF rfl tF_63_1 (wD 0 1 rfl tS_3 tA_3 rfl (wP rfl (wP rfl (wl_nil ?_))))))
     have hE := (Option.some.inj hm).symm
     refine we_join (decide (a1 > 1099511627776)) hE [0,1,2,42] rfl (asK [0] rfl) rfl
   ·
    rintro j_1_42 hE
    try dsimp only
    have hm := hLj_1
    rw [hE] at hm
    refine wc_cond rfl (fun hb42 => ?_) (fun hb42 => ?_)
    ·
     replace hm := iteT hm hb42
     refine wc_keep [] (S' := []) rfl (wc_seq (wc_region (wP rfl (wP rfl (wl_nil (we_then (wc_ret (we_then_ret ?_))))))))
     have hE := (Option.some.inj hm).symm
     obtain ⟨hE0, hF1⟩ := Prod.mk.inj hE
     obtain ⟨hE1, hF2⟩ := Prod.mk.inj hF1
     obtain ⟨hE2, hE3⟩ := Prod.mk.inj hF2
     clear hE hF1 hF2
     replace hE0 := hE0.symm
     subst hE0
     replace hE1 := hE1.symm
     subst hE1
     replace hE2 := hE2.symm
     subst hE2
     replace hE3 := hE3.symm
     subst hE3
     refine ret_two (Hr := [_,_]) [0,1] Tryz.results36 (res_tmp rfl) (res_tmp rfl) ⟨qp1, qc3, l0.length, rfl, rfl, rfl⟩ (asK [] rfl) rfl rfl (.inl rfl)
    ·
     replace hm := iteF hm hb42
     refine wc_keep [0,1,2] (S' := [_,_,_]) rfl (wc_skip (we_then (wc_seq ?_)))
     obtain ⟨v48, hc48, hm⟩ := bindO_some hm
     obtain ⟨_, hc55, hm⟩ := bindO_some hm
     try dsimp only at hm
     obtain ⟨hg58, hm⟩ := gd_some hm
     refine wc_draw [0,1,2,3,4,6,7,8,9,10,11,13,16,17] rfl rfl (fun hok => (xP hok 0 rfl (xP hok 1 rfl (xP hok 2 rfl (wx_fieldAddr hok 3 rfl rfl rfl (freshS_eq rfl) rfl rfl rfl tF_63_0 (wx_loadH hok 4 0 0 rfl rfl rfl (freshS_eq rfl) rfl rfl rfl rfl (cs := [_]) rfl tS_22 tA_22 rfl rfl (xP hok 6 rfl (xP hok 7 rfl (wx_fieldAddr hok 8 rfl rfl rfl (freshS_eq rfl) rfl rfl rfl tF_63_1 (wx_loadH hok 9 0 1 rfl rfl rfl (freshS_eq rfl) rfl rfl rfl rfl (cs := [_]) rfl tS_3 tA_3 rfl rfl (xP hok 10 rfl (xP hok 11 rfl (xS hok 5 rfl (wl_lend [] [0,1] [1] rfl rfl rfl (freshS_eq rfl) rfl rfl fn_19 rfl (w_ropewalkkit_CopyFacts_s N qp1 qc3 l0 _ hc48) (fun F w hφ hh => (ask_cons (own_sli (hh _ (mem_at (k := 0) rfl))) ask_nil)) (fun _ _ _ hR => by obtain ⟨_,_,_, rfl, rfl, rfl⟩ := hR; exact ⟨rfl, (free_cons (tree_free T_FactD_free) (fun _ h => free_nil h))⟩) rfl rfl (H' := [_,_]) rfl ?_))))))))))))))
     rintro _ _ _ ⟨p48_0, c48_1, c48_2, rfl, rfl, rfl⟩
     refine wl_nil (we_x [0] [1] rfl rfl (xS hok 12 rfl (wC [] [0,1,2] rfl fn_63 rfl (w_ropewalkkit_CopyValues_s N qp4 qc5 l3 hc55) (asK [0] rfl) rfl (H' := [_,_,_]) rfl ?_)))
     rintro _ _ _ ⟨p55_0, c55_1, rfl, rfl, rfl⟩
     refine wl_nil (we_x [0] [2,2] rfl rfl (wx_build hok 13 rfl rfl rfl (freshS_eq rfl) rfl rfl tZ_27 tP_27 rfl (out := [_,_,_]) rfl (xS hok 14 rfl (wl_buildSlice rfl rfl rfl (freshS_eq rfl) rfl tE_22 tS_27 tZ_27 rfl (zs := [.int .i64 0, .int .i64 0, .slice none 0 0]) (by kernel_rfl) rfl (out := [_,_,_]) rfl (fun g57 => (wl_nil (we_x [0] [3,3] rfl rfl (xS hok 15 rfl (wl_treeLen 2 rfl (fun hzt7 _ => ?_))))))))))
     subst hzt7
     refine wl_ownLen 1 rfl (fun hz8 _ => (wl_at 1 (v' := .agg #[.int .i64 a1, .int .i64 a2, .slice p55_0 l3.length c55_1]) rfl (by rw [hz8]) (wl_at 2 (v' := .slice p55_0 l3.length c55_1) rfl (by rw [hz8]) (wl_hAs 0 (φ' := .blk g57 [.int .i64 a1, .int .i64 a2, .slice p55_0 l3.length c55_1] 27) rfl (by rw [hz8]) (H' := [_,_,_,_,_]) rfl (wl_hAs 1 (φ' := .own 51 3 R_V (.slice p55_0 l3.length c55_1) l3) rfl (by rw [hz8]) (H' := [_,_,_,_,_]) rfl (wl_treeOut 2 rfl (fun zz58 hzz58 => ?_)))))))
     have hzs2 : List.map (fun x : FactD × (Option Addr × Nat) => x.1) (zz58 ++ [((⟨a1, a2, l3⟩ : FactD), (p55_0, c55_1))]) = v48 ++ [(⟨a1, a2, l3⟩ : FactD)] := pair_app hzz58 (us := [(⟨a1, a2, l3⟩ : FactD)]) rfl
     have hgl58 : zz58.length + ([((⟨a1, a2, l3⟩ : FactD), (p55_0, c55_1))] : List (FactD × (Option Addr × Nat))).length ≤ 3518437208883 := by rw [pair_len hzz58]; exact hg58
     refine wl_appendH (R := T_FactD.pair) ([((⟨a1, a2, l3⟩ : FactD), (p55_0, c55_1))]) 3 1 rfl rfl rfl (freshS_eq rfl) rfl rfl rfl rfl rfl (fun F w hφ => ⟨[.int .i64 a1, .int .i64 a2, .slice p55_0 l3.length c55_1],[], rfl, rfl, rfl, rfl⟩) tE_22 tR_27 rfl rfl (Nat.le_trans hgl58 (by decide)) (Nat.le_trans (Nat.mul_le_mul_right _ hgl58) (by decide)) (H2 := fun p58 c58 => [_,_,_, .own 27 3 T_FactD.pair (.slice p58 ((zz58 ++ [((⟨a1, a2, l3⟩ : FactD), (p55_0, c55_1))]).length) c58) (zz58 ++ [((⟨a1, a2, l3⟩ : FactD), (p55_0, c55_1))]), _,_]) (fun _ _ => rfl) (fun p58 c58 => (wl_drop 1 rfl (H' := [_,_,_,_,_]) rfl (wl_as (d := 58) (v' := .slice p58 ((v48 ++ [(⟨a1, a2, l3⟩ : FactD)]).length) c58) (S' := [_,_,_,_,_,_,_,_,_,_,_,_,_,_,_,_,_,_]) rfl rfl (by rw [pair_len hzs2]) (wl_hAs 2 (φ' := .own 27 3 T_FactD.pair (.slice p58 ((v48 ++ [(⟨a1, a2, l3⟩ : FactD)]).length) c58) (zz58 ++ [((⟨a1, a2, l3⟩ : FactD), (p55_0, c55_1))])) rfl (by rw [pair_len hzs2]) (H' := [_,_,_,_,_]) rfl (wl_pick [1,0,2,3,4] rfl (H' := [_,_,_,_,_]) rfl (wl_sh [bagF T_FactD (zz58 ++ [((⟨a1, a2, l3⟩ : FactD), (p55_0, c55_1))]) none, _,_,_] (fun _ h => Holds.bagPush (T := T_FactD) (x := (⟨a1, a2, l3⟩ : FactD)) (r := (p55_0, c55_1)) (zs := zz58) (H := [_,_,_,_]) h 0 rfl) (wl_sh [treeF T_FactD 27 3 (.slice p58 ((v48 ++ [(⟨a1, a2, l3⟩ : FactD)]).length) c58) (v48 ++ [(⟨a1, a2, l3⟩ : FactD)]), _,_] (fun _ h => h.treeIn 1 0 rfl rfl rfl hzs2) (wl_nil (we_x [0] [1,1] rfl rfl (xP hok 16 rfl (wx_fieldAddr hok 17 rfl rfl rfl (freshS_eq rfl) rfl rfl rfl tF_63_0 (xS hok 18 rfl (wS 1 0 rfl tS_22 (all' := [_,_]) rfl (H' := [_,_,_]) rfl (wl_nil ?_))))))))))))))
     refine we_x [0] [] rfl rfl (wx_done hok rfl (we_then (wc_keep [0] (S' := [_]) rfl (wc_seq (wc_region (wP rfl (wP rfl (wF rfl tF_63_1 (wD 1 1 rfl tS_3 tA_3 rfl (wP rfl ?_))))))))))
     obtain ⟨hg65, hm⟩ := gd_some hm
     refine wl_as (d := 65) (v' := .int .i64 (a1 + 1)) (S' := [_,_,_,_,_]) rfl rfl (i64_in hg65) (wP rfl (wF rfl tF_63_1 (wS 1 1 rfl tS_3 (all' := [_,_]) rfl (H' := [_,_,_]) rfl (wl_nil (we_then (wc_keep [0] (S' := [_]) rfl (wc_seq (wc_region (wP rfl (wP rfl (wF rfl tF_63_1 (wD 1 1 rfl tS_3 tA_3 rfl (wP rfl ?_)))))))))))))
     obtain ⟨hg72, hm⟩ := gd_some hm
     refine wl_as (d := 72) (v' := .int .i64 ((a1 + 1) - 1)) (S' := [_,_,_,_,_]) rfl rfl (i64_in hg72) (wP rfl (wP rfl (wl_nil (we_then (wc_keep [7,6] (S' := [_,_]) rfl (wc_ret ?_))))))
     have hE := (Option.some.inj hm).symm
     obtain ⟨hE0, hF1⟩ := Prod.mk.inj hE
     obtain ⟨hE1, hF2⟩ := Prod.mk.inj hF1
     obtain ⟨hE2, hE3⟩ := Prod.mk.inj hF2
     clear hE hF1 hF2
     replace hE0 := hE0.symm
     subst hE0
     replace hE1 := hE1.symm
     subst hE1
     replace hE2 := hE2.symm
     subst hE2
     replace hE3 := hE3.symm
     subst hE3
     refine we_sh [.own 27 3 R_FactD (.slice p58 ((v48 ++ [(⟨a1, a2, l3⟩ : FactD)]).length) c58) (v48 ++ [(⟨a1, a2, l3⟩ : FactD)]), _,_] (fun _ h => h.letgo T_FactD_lend 0 rfl) ?_
     refine ret_two (Hr := [_,_]) [1,0] Tryz.results36 (res_tmp rfl) (res_tmp rfl) ⟨p58, c58, (v48 ++ [(⟨a1, a2, l3⟩ : FactD)]).length, rfl, rfl, rfl⟩ (asK [] rfl) rfl rfl (.inl rfl)
theorem w_ropewalkref11_Memory_at_s (N : Nat) (qg0 : Nat) (qp1 : Option Addr) (qn2 : Nat) (qc3 : Nat) (l0 : List FactD) (a1 : Int) (a2 : Int) (o0 : Int) (hm : m_ropewalkref11_Memory_at N l0 a1 a2 = some o0) : Spec Tryz.prog 64 [.pointer (some ⟨qg0,0, none⟩), .int .i64 a2] [] [.blk qg0 [.slice qp1 qn2 qc3, .int .i64 a1] 63, .own 27 3 R_FactD (.slice qp1 qn2 qc3) l0] (fun v Φr Hr => v = .int .i64 o0 ∧ Φr = [] ∧ Hr = [.blk qg0 [.slice qp1 qn2 qc3, .int .i64 a1] 63, .own 27 3 R_FactD (.slice qp1 qn2 qc3) l0]) := by
 unfold m_ropewalkref11_Memory_at at hm
 refine spec_of Tryz.func64 rfl Tryz.ntmps64 rfl (S := [_,_]) rfl (fun C => (wc_seq (wc_region (wP rfl (wl_nil (we_then (wc_keep [0,1] (S' := [_,_]) rfl (wc_seq ?_))))))))
 obtain ⟨bj_1, hm, hLj_1⟩ := bindS_some hm
 refine wc_cut (σ := Unit) (fun _ => bj_1 = .inl ()) (fun _ => []) (fun _ => []) (fun _ => [.blk qg0 [.slice qp1 qn2 qc3, .int .i64 a1] 63, .own 27 3 R_FactD (.slice qp1 qn2 qc3) l0]) ?_ ?_
 ·
  refine wc_seq (wc_region (wP rfl (wl_nil (we_then (wc_block (wc_loop (σ := Nat × Nat) (fun (nu1, u1_5) => iter (m_ropewalkref11_Memory_at_L1 N l0 a2) nu1 u1_5 = some bj_1) (fun (nu1, u1_5) => nu1) (fun (nu1, u1_5) => [(5, .int .i64 ((u1_5 : Nat) : Int)), (0, .pointer (some ⟨qg0,0, none⟩)), (1, .int .i64 a2)]) (fun (nu1, u1_5) => []) (fun (nu1, u1_5) => [.blk qg0 [.slice qp1 qn2 qc3, .int .i64 a1] 63, .own 27 3 R_FactD (.slice qp1 qn2 qc3) l0]) (N, 0) hm [5,0,1] rfl (asK [] rfl) rfl (fun s_ hm => ?_)))))))
  obtain ⟨nu1, u1_5⟩ := s_
  try dsimp only at hm ⊢
  obtain ⟨mu1, bu1, hnu1, hq, hLu1⟩ := iter_some hm
  clear hm
  subst hnu1
  replace hm := hq
  clear hq
  unfold m_ropewalkref11_Memory_at_L1 at hm
  try dsimp only at hm
  refine wc_seq (wc_seq (wc_region (wP rfl (wP rfl (wP rfl (wF rfl tF_63_0 (wD 0 0 rfl tS_22 tA_22 rfl (wl_ownLen 1 rfl (fun hl11 _ => (wN rfl tE_22 (wl_as (d := 11) (v' := .int .i64 ((l0.length : Nat) : Int)) (S' := [_,_,_,_,_,_,_,_]) rfl rfl (len_is hl11) (wP rfl (wl_as (d := 12) (v' := .bool (decide (u1_5 < l0.length))) (S' := [_,_,_,_,_,_,_,_,_]) rfl rfl (natlt (a := u1_5) (b := l0.length)) (wl_nil ?_))))))))))))))
  refine we_then (wc_keep [12,5,0,1] (S' := [_,_,_,_]) rfl ?_)
  refine wc_cond rfl (fun hb12 => ?_) (fun hb12 => ?_)
  ·
   replace hm := iteT hm hb12
   refine wc_keep [5,0,1] (S' := [_,_,_]) rfl (wc_skip (we_then (wc_seq (wc_block (wc_seq (wc_region (wP rfl (wP rfl (wF rfl tF_63_0 (wD 0 0 rfl tS_22 tA_22 rfl (wP rfl ?_)))))))))))
   obtain ⟨x20, hx20, hm⟩ := bindO_some hm
   refine wl_indexH 1 u1_5 rfl rfl rfl (freshS_eq rfl) rfl rfl rfl rfl rfl (get_lt hx20) tE_22 tS_27 (fun g20 eg20 => ?_)
   subst eg20
   refine wF rfl tF_27_0 (wl_loadRow R_FactD_opens 1 u1_5 0 rfl rfl rfl (freshS_eq rfl) rfl rfl rfl hx20 tS_3 tA_3 (v := fun r22 => .int .i64 (x20.id)) (fun _ => rfl) (fun _ => rfl) (fun r22 _ => (wP rfl (wP rfl (wl_nil (we_then (wc_keep [24,5,0,1] (S' := [_,_,_,_]) rfl ?_)))))))
   refine wc_cond rfl (fun hb24 => ?_) (fun hb24 => ?_)
   ·
    replace hm := iteT hm hb24
    refine wc_keep [5] (S' := [_]) rfl (wc_seq (wc_region (wP rfl (wP rfl (wl_nil (we_then (wc_keep [4] (S' := [_]) rfl (wc_ret (we_block_ret (we_then_ret (we_then_ret (we_block_ret (we_then_ret ?_)))))))))))))
    have hE := (Option.some.inj hm).symm
    replace hE := link_inr hLu1 hE
    replace hE := link_inr hLj_1 hE
    replace hE := hE.symm
    subst hE
    refine ret_one (Hr := [_,_]) [0,1] Tryz.results64 (res_tmp rfl) ⟨rfl, rfl, rfl⟩ (asK [] rfl) rfl rfl (.inl rfl)
   ·
    replace hm := iteF hm hb24
    refine wc_keep [5,0,1] (S' := [_,_,_]) rfl (wc_skip (we_block_normal (we_then (wc_region (wP rfl (wP rfl ?_))))))
    obtain ⟨hg14, hm⟩ := gd_some hm
    refine wl_as (d := 14) (v' := .int .i64 ((u1_5 + 1 : Nat) : Int)) (S' := [_,_,_,_]) rfl rfl (nat_add (a := u1_5) (b := 1) hg14) (wl_pure (S' := [_,_,_,_]) rfl rfl rfl rfl rfl (wl_nil ?_))
    have hE := (Option.some.inj hm).symm
    replace hE := link_inl hLu1 hE
    refine we_roundK (_, u1_5 + 1) (Nat.lt_succ_self _) hE [5,0,1] rfl (asK [] rfl) rfl
  ·
   replace hm := iteF hm hb12
   refine wc_keep [] (S' := []) rfl (wc_exit (we_then_exit (we_then_exit (we_block_hit ?_))))
   have hE := (Option.some.inj hm).symm
   replace hE := link_inr hLu1 hE
   refine we_join () hE [] rfl (asK [] rfl) rfl
 ·
  rintro _ hE
  try dsimp only
  have hm := link_inl hLj_1 hE
  try dsimp only at hm
  refine wc_seq (wc_region (wP rfl (wl_nil (we_then (wc_ret ?_)))))
  have hE := (Option.some.inj hm).symm
  replace hE := hE.symm
  subst hE
  refine ret_one (Hr := [_,_]) [0,1] Tryz.results64 (res_tmp rfl) ⟨rfl, rfl, rfl⟩ (asK [] rfl) rfl rfl (.inl rfl)
theorem w_ropewalkref11_Memory_Drop_s (N : Nat) (qg0 : Nat) (qp1 : Option Addr) (qn2 : Nat) (qc3 : Nat) (l0 : List FactD) (a1 : Int) (a2 : Int) (o0 : Nat) (o3 : List FactD) (hm : m_ropewalkref11_Memory_Drop N l0 a1 a2 = some (o0, o3)) : Spec Tryz.prog 37 [.pointer (some ⟨qg0,0, none⟩), .int .i64 a2] [] [.blk qg0 [.slice qp1 qn2 qc3, .int .i64 a1] 63, .own 27 3 R_FactD (.slice qp1 qn2 qc3) l0] (fun v Φr Hr => ∃ (o1 : Option Addr) (o2 : Nat) (o4 : Nat), v = .int .i64 ((o0 : Nat) : Int) ∧ Φr = [] ∧ Hr = [.blk qg0 [.slice o1 o4 o2, .int .i64 a1] 63, .own 27 3 R_FactD (.slice o1 o4 o2) o3]) := by
 unfold m_ropewalkref11_Memory_Drop at hm
 refine spec_of Tryz.func37 rfl Tryz.ntmps37 rfl (S := [_,_]) rfl (fun C => (wc_seq (wc_region (wP rfl (wl_nil (we_then (wc_keep [0,1] (S' := [_,_]) rfl (wc_seq (wc_region (wP rfl (wP rfl ?_)))))))))))
 obtain ⟨v9, hc9, hm⟩ := bindO_some hm
 refine wC [0,1] [] rfl fn_64 rfl (w_ropewalkref11_Memory_at_s N qg0 qp1 qn2 qc3 l0 a1 a2 _ hc9) (asK [] rfl) rfl (H' := []) rfl ?_
 rintro _ _ _ ⟨rfl, rfl, rfl⟩
 refine wP rfl (wl_nil (we_then (wc_keep [5,0] (S' := [_,_]) rfl (wc_seq (wc_seq (wc_region (wP rfl (wP rfl (wl_nil (we_then (wc_keep [11,5,0] (S' := [_,_,_]) rfl ?_)))))))))))
 refine wc_cond rfl (fun hb11 => ?_) (fun hb11 => ?_)
 ·
  replace hm := iteT hm hb11
  refine wc_keep [] (S' := []) rfl (wc_seq (wc_region (wP rfl (wl_nil (we_then (wc_ret (we_then_ret ?_)))))))
  have hE := (Option.some.inj hm).symm
  obtain ⟨hE0, hE1⟩ := Prod.mk.inj hE
  clear hE
  replace hE0 := hE0.symm
  subst hE0
  replace hE1 := hE1.symm
  subst hE1
  refine ret_one (Hr := [_,_]) [0,1] Tryz.results37 (res_tmp rfl) ⟨qp1, qc3, qn2, rfl, rfl, rfl⟩ (asK [] rfl) rfl rfl (.inl rfl)
 ·
  replace hm := iteF hm hb11
  refine wc_keep [5,0] (S' := [_,_]) rfl (wc_skip (we_then (wc_seq (wc_region (wP rfl (wP rfl (wF rfl tF_63_0 (wD 0 0 rfl tS_22 tA_22 rfl (wP rfl ?_)))))))))
  obtain ⟨hn17_1, hm⟩ := gd_some hm
  obtain ⟨hg17, hm⟩ := gd_some hm
  refine wl_ownSpot 1 rfl (fun hsp17 hcm17 => (wl_sliceTo rfl rfl rfl (freshS_eq rfl) rfl rfl rfl (toNat_eq hn17_1) tE_22 tS_27 (Nat.le_trans hg17 (by rw [← hcm17.2]; exact hcm17.1)) hsp17 (wl_ownLen 1 rfl (fun hzqn2 _ => ?_))))
  subst hzqn2
  refine wl_freeze 1 rfl (H' := [_]) rfl (wl_fact (.sli 3 R_FactD qp1 qc3 l0) (fun F w hφ => own_sli (hφ _ (mem_at (k := 0) rfl))) (wl_fact (.sli 3 R_FactD qp1 qc3 (l0.take v9.toNat)) (fun _ _ hφ => view_to (hφ _ (mem_at (k := 0) rfl)) v9.toNat) (wl_at 0 (v' := .slice qp1 ((l0.take v9.toNat).length) qc3) rfl (take_slice hg17) ?_)))
  obtain ⟨v18, hc18, hm⟩ := bindO_some hm
  refine wC [] [0] rfl fn_19 rfl (w_ropewalkkit_CopyFacts_s N qp1 qc3 (l0.take v9.toNat) _ hc18) (asK [0] rfl) rfl (H' := [_]) rfl ?_
  rintro _ _ _ ⟨p18_0, c18_1, c18_2, rfl, rfl, rfl⟩
  refine wP rfl (wl_nil (we_then (wc_keep [6,5,0] (S' := [_,_,_]) rfl (wc_seq (wc_region (wP rfl (wP rfl (wP rfl (wP rfl (wF rfl tF_63_0 (wD 1 0 rfl tS_22 tA_22 rfl (wP rfl (wP rfl ?_)))))))))))))
  obtain ⟨hg26, hm⟩ := gd_some hm
  refine wl_as (d := 26) (v' := .int .i64 (v9 + 1)) (S' := [_,_,_,_,_,_,_,_,_,_]) rfl rfl (i64_in hg26) ?_
  obtain ⟨hn27_0, hm⟩ := gd_some hm
  obtain ⟨hg27, hm⟩ := gd_some hm
  refine wl_sliFrom 1 rfl rfl rfl (freshS_eq rfl) rfl rfl rfl rfl (toNat_eq hn27_0) tE_22 tS_27 hg27 (fun p27 => (wl_sh [.own 27 3 R_FactD (.slice p18_0 c18_2 c18_1) v18,_] (fun _ h => h.letgo T_FactD_lend 0 rfl) ?_))
  obtain ⟨hg28, hm⟩ := gd_some hm
  refine wl_append 0 0 rfl rfl rfl (freshS_eq rfl) rfl rfl rfl rfl rfl tE_22 tR_27 rfl rfl (Nat.le_trans hg28 (by decide)) (Nat.le_trans (Nat.mul_le_mul_right _ hg28) (by decide)) (H2 := fun p28 c28 => [.own 27 3 R_FactD (.slice p28 ((v18 ++ (l0.drop ((v9 + 1).toNat))).length) c28) (v18 ++ (l0.drop ((v9 + 1).toNat))), _]) (fun _ _ => rfl) (fun p28 c28 => (wP rfl (wF rfl tF_63_0 (wS 1 0 rfl tS_22 (all' := [_,_]) rfl (H' := [_,_]) rfl (wl_nil (we_then (wc_keep [] (S' := []) rfl (wc_seq (wc_region (wP rfl (wl_nil (we_then (wc_ret ?_)))))))))))))
  have hE := (Option.some.inj hm).symm
  obtain ⟨hE0, hE1⟩ := Prod.mk.inj hE
  clear hE
  replace hE0 := hE0.symm
  subst hE0
  replace hE1 := hE1.symm
  subst hE1
  refine ret_one (Hr := [_,_]) [1,0] Tryz.results37 (res_tmp rfl) ⟨p28, c28, (v18 ++ (l0.drop ((v9 + 1).toNat))).length, rfl, rfl, rfl⟩ (asK [] rfl) rfl rfl (.inl rfl)
theorem w_memory_Memory_Find_V_s (N : Nat) (qg0 : Nat) (qp1 : Option Addr) (qn2 : Nat) (qc3 : Nat) (l0 : List FactD) (a1 : Int) (a2 : Int) (qp4 : Option Addr) (qn5 : Nat) (qc6 : Nat) (l3 : List V) (k4 : Nat) (o0 : Int) (o1 : Bool) (hm : m_memory_Memory_Find_V N l0 a1 a2 l3 k4 = some (o0, o1)) : Spec Tryz.prog 38 [.pointer (some ⟨qg0,0, none⟩), .int .i64 a2, .slice qp4 k4 qc6] [] [.blk qg0 [.slice qp1 qn2 qc3, .int .i64 a1] 61, .own 27 3 R_FactD (.slice qp1 qn2 qc3) l0, .own 51 3 R_V (.slice qp4 qn5 qc6) l3] (fun v Φr Hr => v = .tuple #[.int .i64 o0, .bool o1] ∧ Φr = [] ∧ Hr = [.blk qg0 [.slice qp1 qn2 qc3, .int .i64 a1] 61, .own 27 3 R_FactD (.slice qp1 qn2 qc3) l0, .own 51 3 R_V (.slice qp4 qn5 qc6) l3]) := by
 unfold m_memory_Memory_Find_V at hm
 refine spec_of Tryz.func38 rfl Tryz.ntmps38 rfl (S := [_,_,_]) rfl (fun C => (wc_seq (wc_region (wP rfl (wP rfl (wl_nil (we_then (wc_keep [0,1,2] (S' := [_,_,_]) rfl (wc_seq (wc_seq (wc_region (wP rfl ?_))))))))))))
 obtain ⟨_, hc10, hm⟩ := bindO_some hm
 try dsimp only at hm
 refine wC [0,1] [2] rfl fn_45 rfl (w_memory_Memory_known_s N qg0 qp1 qn2 qc3 l0 a1 hc10) (asK [] rfl) rfl (H' := [_]) rfl ?_
 rintro _ _ _ ⟨rfl, rfl, rfl⟩
 refine wP rfl (wl_nil (we_then (wc_keep [11,0,1,2] (S' := [_,_,_,_]) rfl ?_)))
 refine wc_cond rfl (fun hb11 => ?_) (fun hb11 => ?_)
 ·
  replace hm := iteT hm hb11
  refine wc_keep [] (S' := []) rfl (wc_seq (wc_region (wP rfl (wP rfl (wl_nil (we_then (wc_ret (we_then_ret ?_))))))))
  have hE := (Option.some.inj hm).symm
  obtain ⟨hE0, hE1⟩ := Prod.mk.inj hE
  clear hE
  replace hE0 := hE0.symm
  subst hE0
  replace hE1 := hE1.symm
  subst hE1
  refine ret_two (Hr := [_,_,_]) [0,1,2] Tryz.results38 (res_tmp rfl) (res_tmp rfl) ⟨rfl, rfl, rfl⟩ (asK [] rfl) rfl rfl (.inl rfl)
 ·
  replace hm := iteF hm hb11
  refine wc_keep [0,1,2] (S' := [_,_,_]) rfl (wc_skip (we_then (wc_seq (wc_region (wP rfl (wP rfl (wF rfl tF_61_0 (wP rfl (wP rfl (wl_ownLen 2 rfl (fun hzqn5 _ => ?_)))))))))))
  subst hzqn5
  obtain ⟨v17, hc17, hm⟩ := bindO_some hm
  refine wC [0,1,2] [] rfl fn_27 rfl (w_memory_row_says_V_s N qg0 qp1 qn2 qc3 l0 a1 a2 qp4 l3.length qc6 l3 k4 _ hc17) (asK [] rfl) rfl (H' := []) rfl ?_
  rintro _ _ _ ⟨rfl, rfl, rfl⟩
  refine wP rfl (wl_nil (we_then (wc_keep [8,0] (S' := [_,_]) rfl (wc_seq (wc_seq (wc_region (wP rfl (wP rfl (wl_nil (we_then (wc_keep [19,8,0] (S' := [_,_,_]) rfl ?_)))))))))))
  refine wc_cond rfl (fun hb19 => ?_) (fun hb19 => ?_)
  ·
   replace hm := iteT hm hb19
   refine wc_keep [] (S' := []) rfl (wc_seq (wc_region (wP rfl (wP rfl (wl_nil (we_then (wc_ret (we_then_ret ?_))))))))
   have hE := (Option.some.inj hm).symm
   obtain ⟨hE0, hE1⟩ := Prod.mk.inj hE
   clear hE
   replace hE0 := hE0.symm
   subst hE0
   replace hE1 := hE1.symm
   subst hE1
   refine ret_two (Hr := [_,_,_]) [0,1,2] Tryz.results38 (res_tmp rfl) (res_tmp rfl) ⟨rfl, rfl, rfl⟩ (asK [] rfl) rfl rfl (.inl rfl)
  ·
   replace hm := iteF hm hb19
   refine wc_keep [8,0] (S' := [_,_]) rfl (wc_skip (we_then (wc_seq (wc_region (wP rfl (wP rfl (wF rfl tF_61_0 (wF rfl tF_59_0 (wD 0 0 rfl tS_22 tA_22 rfl (wP rfl ?_))))))))))
   obtain ⟨hn26, hm⟩ := gd_some hm
   obtain ⟨x26, hx26, hm⟩ := bindO_some hm
   refine wl_indexH 1 v17.toNat rfl rfl rfl (freshS_eq rfl) rfl rfl rfl rfl (toNat_eq hn26) (get_lt hx26) tE_22 tS_27 (fun g26 eg26 => ?_)
   subst eg26
   refine wF rfl tF_27_0 (wl_loadRow R_FactD_opens 1 v17.toNat 0 rfl rfl rfl (freshS_eq rfl) rfl rfl rfl hx26 tS_3 tA_3 (v := fun r28 => .int .i64 (x26.id)) (fun _ => rfl) (fun _ => rfl) (fun r28 _ => (wP rfl (wP rfl (wl_nil (we_then (wc_keep [7,6] (S' := [_,_]) rfl (wc_ret ?_))))))))
   have hE := (Option.some.inj hm).symm
   obtain ⟨hE0, hE1⟩ := Prod.mk.inj hE
   clear hE
   replace hE0 := hE0.symm
   subst hE0
   replace hE1 := hE1.symm
   subst hE1
   refine ret_two (Hr := [_,_,_]) [0,1,2] Tryz.results38 (res_tmp rfl) (res_tmp rfl) ⟨rfl, rfl, rfl⟩ (asK [] rfl) rfl rfl (.inl rfl)
theorem w_ropewalkref11_Memory_Find_s (N : Nat) (qg0 : Nat) (qp1 : Option Addr) (qn2 : Nat) (qc3 : Nat) (l0 : List FactD) (a1 : Int) (a2 : Int) (qp4 : Option Addr) (qc5 : Nat) (l3 : List V) (o0 : Int) (o1 : Bool) (hm : m_ropewalkref11_Memory_Find N l0 a1 a2 l3 = some (o0, o1)) : Spec Tryz.prog 39 [.pointer (some ⟨qg0,0, none⟩), .int .i64 a2, .slice qp4 l3.length qc5] [.sli 3 R_V qp4 qc5 l3] [.blk qg0 [.slice qp1 qn2 qc3, .int .i64 a1] 63, .own 27 3 R_FactD (.slice qp1 qn2 qc3) l0] (fun v Φr Hr => v = .tuple #[.int .i64 o0, .bool o1] ∧ Φr = [] ∧ Hr = [.blk qg0 [.slice qp1 qn2 qc3, .int .i64 a1] 63, .own 27 3 R_FactD (.slice qp1 qn2 qc3) l0]) := by
 unfold m_ropewalkref11_Memory_Find at hm
 refine spec_of Tryz.func39 rfl Tryz.ntmps39 rfl (S := [_,_,_]) rfl (fun C => (wc_seq (wc_region (wP rfl (wP rfl (wl_nil (we_then (wc_keep [0,1,2] (S' := [_,_,_]) rfl (wc_seq (wc_region (wP rfl (wP rfl (wF rfl tF_63_0 (wD 0 0 rfl tS_22 tA_22 rfl ?_))))))))))))))
 refine wP rfl (wP rfl (wl_ownLen 1 rfl (fun hzqn2 _ => ?_)))
 subst hzqn2
 obtain ⟨v15, hc15, hm⟩ := bindO_some hm
 refine wl_lend [] [0,1] [1] rfl rfl rfl (freshS_eq rfl) rfl rfl fn_30 rfl (w_ropewalkref11_place_s N qp1 qc3 l0 a2 qp4 qc5 l3 _ hc15) (fun F w hφ hh => (ask_cons (own_sli (hh _ (mem_at (k := 0) rfl))) (ask_cons (hφ _ (mem_at (k := 0) rfl)) ask_nil))) (fun _ _ _ hR => by obtain ⟨rfl, rfl, rfl⟩ := hR; exact ⟨rfl, (fun _ h => free_nil h)⟩) rfl rfl (H' := [_,_]) rfl ?_
 rintro _ _ _ ⟨rfl, rfl, rfl⟩
 refine wP rfl (wl_nil (we_then (wc_keep [8,0] (S' := [_,_]) rfl (wc_seq (wc_seq (wc_region (wP rfl (wP rfl (wl_nil (we_then (wc_keep [17,8,0] (S' := [_,_,_]) rfl ?_)))))))))))
 refine wc_cond rfl (fun hb17 => ?_) (fun hb17 => ?_)
 ·
  replace hm := iteT hm hb17
  refine wc_keep [] (S' := []) rfl (wc_seq (wc_region (wP rfl (wP rfl (wl_nil (we_then (wc_ret (we_then_ret ?_))))))))
  have hE := (Option.some.inj hm).symm
  obtain ⟨hE0, hE1⟩ := Prod.mk.inj hE
  clear hE
  replace hE0 := hE0.symm
  subst hE0
  replace hE1 := hE1.symm
  subst hE1
  refine ret_two (Hr := [_,_]) [0,1] Tryz.results39 (res_tmp rfl) (res_tmp rfl) ⟨rfl, rfl, rfl⟩ (asK [] rfl) rfl rfl (.inl rfl)
 ·
  replace hm := iteF hm hb17
  refine wc_keep [8,0] (S' := [_,_]) rfl (wc_skip (we_then (wc_seq (wc_region (wP rfl (wP rfl (wF rfl tF_63_0 (wD 0 0 rfl tS_22 tA_22 rfl (wP rfl ?_)))))))))
  obtain ⟨hn23, hm⟩ := gd_some hm
  obtain ⟨x23, hx23, hm⟩ := bindO_some hm
  refine wl_indexH 1 v15.toNat rfl rfl rfl (freshS_eq rfl) rfl rfl rfl rfl (toNat_eq hn23) (get_lt hx23) tE_22 tS_27 (fun g23 eg23 => ?_)
  subst eg23
  refine wF rfl tF_27_0 (wl_loadRow R_FactD_opens 1 v15.toNat 0 rfl rfl rfl (freshS_eq rfl) rfl rfl rfl hx23 tS_3 tA_3 (v := fun r25 => .int .i64 (x23.id)) (fun _ => rfl) (fun _ => rfl) (fun r25 _ => (wP rfl (wP rfl (wl_nil (we_then (wc_keep [7,6] (S' := [_,_]) rfl (wc_ret ?_))))))))
  have hE := (Option.some.inj hm).symm
  obtain ⟨hE0, hE1⟩ := Prod.mk.inj hE
  clear hE
  replace hE0 := hE0.symm
  subst hE0
  replace hE1 := hE1.symm
  subst hE1
  refine ret_two (Hr := [_,_]) [0,1] Tryz.results39 (res_tmp rfl) (res_tmp rfl) ⟨rfl, rfl, rfl⟩ (asK [] rfl) rfl rfl (.inl rfl)
theorem w_memory_Memory_Get_s (N : Nat) (qg0 : Nat) (qp1 : Option Addr) (qn2 : Nat) (qc3 : Nat) (l0 : List FactD) (a1 : Int) (a2 : Int) (o0 : Int) (o1 : Int) (o4 : List V) (o6 : Bool) (hm : m_memory_Memory_Get N l0 a1 a2 = some (o0, o1, o4, o6)) : Spec Tryz.prog 40 [.pointer (some ⟨qg0,0, none⟩), .int .i64 a2] [] [.blk qg0 [.slice qp1 qn2 qc3, .int .i64 a1] 61, .own 27 3 R_FactD (.slice qp1 qn2 qc3) l0] (fun v Φr Hr => ∃ (o2 : Option Addr) (o3 : Nat) (o5 : Nat), v = .tuple #[.agg #[.int .i64 o0, .int .i64 o1, .slice o2 o5 o3], .bool o6] ∧ Φr = [] ∧ Hr = [.own 51 3 R_V (.slice o2 o5 o3) o4, .blk qg0 [.slice qp1 qn2 qc3, .int .i64 a1] 61, .own 27 3 R_FactD (.slice qp1 qn2 qc3) l0]) := by
 unfold m_memory_Memory_Get at hm
 refine spec_of Tryz.func40 rfl Tryz.ntmps40 rfl (S := [_,_]) rfl (fun C => (wc_seq (wc_region (wl_alloc rfl rfl rfl (freshS_eq rfl) rfl tZ_27 rfl (fun g4 => (wP rfl (wl_nil (we_then (wc_keep [4,0,1] (S' := [_,_,_]) rfl (wc_seq (wc_seq (wc_region (wP rfl ?_)))))))))))))
 obtain ⟨_, hc9, hm⟩ := bindO_some hm
 try dsimp only at hm
 refine wC [1,2] [0] rfl fn_45 rfl (w_memory_Memory_known_s N qg0 qp1 qn2 qc3 l0 a1 hc9) (asK [] rfl) rfl (H' := [_]) rfl ?_
 rintro _ _ _ ⟨rfl, rfl, rfl⟩
 refine wP rfl (wl_nil (we_then (wc_keep [10,4,0,1] (S' := [_,_,_,_]) rfl ?_)))
 refine wc_cond rfl (fun hb10 => ?_) (fun hb10 => ?_)
 ·
  replace hm := iteT hm hb10
  refine wc_keep [4] (S' := [_]) rfl (wc_seq (wc_region (wl_build rfl rfl rfl (freshS_eq rfl) rfl tZ_27 tP_27 rfl (out := [_,_,_]) rfl (wS 2 0 rfl tS_27 (all' := [_,_,_]) rfl (H' := [_,_,_]) rfl (wP rfl (wl_nil (we_then (wc_keep [5,4] (S' := [_,_]) rfl (wc_ret (we_then_ret ?_))))))))))
  have hE := (Option.some.inj hm).symm
  obtain ⟨hE0, hF1⟩ := Prod.mk.inj hE
  obtain ⟨hE1, hF2⟩ := Prod.mk.inj hF1
  obtain ⟨hE2, hE3⟩ := Prod.mk.inj hF2
  clear hE hF1 hF2
  replace hE0 := hE0.symm
  subst hE0
  replace hE1 := hE1.symm
  subst hE1
  replace hE2 := hE2.symm
  subst hE2
  replace hE3 := hE3.symm
  subst hE3
  refine we_rowNil 51 3 R_V ?_
  refine ret_two (Hr := [_,_,_]) [0,1,2] Tryz.results40 (res_cell 3 rfl rfl tS_27 tA_27 rfl rfl) (res_tmp rfl) ⟨none, 0,0, rfl, rfl, rfl⟩ (asK [] rfl) rfl rfl (.inl rfl)
 ·
  replace hm := iteF hm hb10
  refine wc_keep [4,0,1] (S' := [_,_,_]) rfl (wc_skip (we_then (wc_seq (wc_region (wP rfl (wP rfl (wF rfl tF_61_0 (wP rfl ?_))))))))
  obtain ⟨⟨v17_0, v17_1⟩, hc17, hm⟩ := bindO_some hm
  try dsimp only at hm
  refine wC [0,1] [2] rfl fn_50 rfl (w_memory_row_at_s N qg0 qp1 qn2 qc3 l0 a1 a2 _ _ hc17) (asK [] rfl) rfl (H' := [_]) rfl ?_
  rintro _ _ _ ⟨rfl, rfl, rfl⟩
  refine wP rfl (wP rfl (wP rfl (wP rfl (wP rfl (wl_nil (we_then (wc_keep [7,6,4,0] (S' := [_,_,_,_]) rfl (wc_seq (wc_seq (wc_region (wP rfl (wP rfl (wl_nil ?_)))))))))))))
  refine we_then (wc_keep [21,6,4,0] (S' := [_,_,_,_]) rfl ?_)
  refine wc_cond rfl (fun hb21 => ?_) (fun hb21 => ?_)
  ·
   replace hm := iteT hm hb21
   refine wc_keep [4] (S' := [_]) rfl (wc_seq (wc_region (wl_build rfl rfl rfl (freshS_eq rfl) rfl tZ_27 tP_27 rfl (out := [_,_,_]) rfl (wS 2 0 rfl tS_27 (all' := [_,_,_]) rfl (H' := [_,_,_]) rfl (wP rfl (wl_nil (we_then (wc_keep [5,4] (S' := [_,_]) rfl (wc_ret (we_then_ret ?_))))))))))
   have hE := (Option.some.inj hm).symm
   obtain ⟨hE0, hF1⟩ := Prod.mk.inj hE
   obtain ⟨hE1, hF2⟩ := Prod.mk.inj hF1
   obtain ⟨hE2, hE3⟩ := Prod.mk.inj hF2
   clear hE hF1 hF2
   replace hE0 := hE0.symm
   subst hE0
   replace hE1 := hE1.symm
   subst hE1
   replace hE2 := hE2.symm
   subst hE2
   replace hE3 := hE3.symm
   subst hE3
   refine we_rowNil 51 3 R_V ?_
   refine ret_two (Hr := [_,_,_]) [0,1,2] Tryz.results40 (res_cell 3 rfl rfl tS_27 tA_27 rfl rfl) (res_tmp rfl) ⟨none, 0,0, rfl, rfl, rfl⟩ (asK [] rfl) rfl rfl (.inl rfl)
  ·
   replace hm := iteF hm hb21
   refine wc_keep [6,4,0] (S' := [_,_,_]) rfl (wc_skip (we_then (wc_seq (wc_region (wP rfl (wP rfl (wF rfl tF_61_0 (wF rfl tF_59_0 (wD 0 0 rfl tS_22 tA_22 rfl (wP rfl ?_))))))))))
   obtain ⟨hn29, hm⟩ := gd_some hm
   obtain ⟨x29, hx29, hm⟩ := bindO_some hm
   refine wl_indexH 1 v17_0.toNat rfl rfl rfl (freshS_eq rfl) rfl rfl rfl rfl (toNat_eq hn29) (get_lt hx29) tE_22 tS_27 (fun g29 eg29 => ?_)
   subst eg29
   refine wl_loadRow R_FactD_opens 1 v17_0.toNat 0 rfl rfl rfl (freshS_eq rfl) rfl rfl rfl hx29 tS_27 tA_27 (v := fun r30 => .agg #[.int .i64 (x29.id), .int .i64 (x29.ty), .slice r30.1 x29.args.length r30.2]) (fun _ => rfl) (fun _ => rfl) (fun r30 _ => ?_)
   obtain ⟨_, hc31, hm⟩ := bindO_some hm
   try dsimp only at hm
   refine wC [] [0,1,2] rfl fn_28 rfl (w_memory_own_s N x29.id x29.ty r30.1 r30.2 x29.args hc31) (asK [0] rfl) rfl (H' := [_,_,_]) rfl ?_
   rintro _ _ _ ⟨p31_0, c31_1, rfl, rfl, rfl⟩
   refine wS 3 0 rfl tS_27 (all' := [_,_,_]) rfl (H' := [_,_,_,_]) rfl (wP rfl (wl_nil (we_then (wc_keep [5,4] (S' := [_,_]) rfl (wc_ret ?_)))))
   have hE := (Option.some.inj hm).symm
   obtain ⟨hE0, hF1⟩ := Prod.mk.inj hE
   obtain ⟨hE1, hF2⟩ := Prod.mk.inj hF1
   obtain ⟨hE2, hE3⟩ := Prod.mk.inj hF2
   clear hE hF1 hF2
   replace hE0 := hE0.symm
   subst hE0
   replace hE1 := hE1.symm
   subst hE1
   replace hE2 := hE2.symm
   subst hE2
   replace hE3 := hE3.symm
   subst hE3
   refine ret_two (Hr := [_,_,_]) [0,1,2] Tryz.results40 (res_cell 3 rfl rfl tS_27 tA_27 rfl rfl) (res_tmp rfl) ⟨p31_0, c31_1, x29.args.length, rfl, rfl, rfl⟩ (asK [] rfl) rfl rfl (.inl rfl)
theorem w_ropewalkref11_Memory_Get_s (N : Nat) (qg0 : Nat) (qp1 : Option Addr) (qn2 : Nat) (qc3 : Nat) (l0 : List FactD) (a1 : Int) (a2 : Int) (o0 : Int) (o1 : Int) (o4 : List V) (o5 : Bool) (hm : m_ropewalkref11_Memory_Get N l0 a1 a2 = some (o0, o1, o4, o5)) : Spec Tryz.prog 41 [.pointer (some ⟨qg0,0, none⟩), .int .i64 a2] [] [.blk qg0 [.slice qp1 qn2 qc3, .int .i64 a1] 63, .own 27 3 R_FactD (.slice qp1 qn2 qc3) l0] (fun v Φr Hr => ∃ (o2 : Option Addr) (o3 : Nat), v = .tuple #[.agg #[.int .i64 o0, .int .i64 o1, .slice o2 o4.length o3], .bool o5] ∧ Φr = [.sli 3 R_V o2 o3 o4] ∧ Hr = [.blk qg0 [.slice qp1 qn2 qc3, .int .i64 a1] 63, .own 27 3 R_FactD (.slice qp1 qn2 qc3) l0]) := by
 unfold m_ropewalkref11_Memory_Get at hm
 refine spec_of Tryz.func41 rfl Tryz.ntmps41 rfl (S := [_,_]) rfl (fun C => (wc_seq (wc_region (wl_alloc rfl rfl rfl (freshS_eq rfl) rfl tZ_27 rfl (fun g4 => (wP rfl (wl_nil (we_then (wc_keep [4,0,1] (S' := [_,_,_]) rfl (wc_seq (wc_region (wP rfl (wP rfl ?_)))))))))))))
 obtain ⟨v9, hc9, hm⟩ := bindO_some hm
 refine wC [1,2] [0] rfl fn_64 rfl (w_ropewalkref11_Memory_at_s N qg0 qp1 qn2 qc3 l0 a1 a2 _ hc9) (asK [] rfl) rfl (H' := [_]) rfl ?_
 rintro _ _ _ ⟨rfl, rfl, rfl⟩
 refine wP rfl (wl_nil (we_then (wc_keep [6,4,0] (S' := [_,_,_]) rfl (wc_seq (wc_seq (wc_region (wP rfl (wP rfl (wl_nil (we_then (wc_keep [11,6,4,0] (S' := [_,_,_,_]) rfl ?_)))))))))))
 refine wc_cond rfl (fun hb11 => ?_) (fun hb11 => ?_)
 ·
  replace hm := iteT hm hb11
  refine wc_keep [4] (S' := [_]) rfl (wc_seq (wc_region (wl_build rfl rfl rfl (freshS_eq rfl) rfl tZ_27 tP_27 rfl (out := [_,_,_]) rfl (wS 2 0 rfl tS_27 (all' := [_,_,_]) rfl (H' := [_,_,_]) rfl (wP rfl (wl_nil (we_then (wc_keep [5,4] (S' := [_,_]) rfl (wc_ret (we_then_ret ?_))))))))))
  have hE := (Option.some.inj hm).symm
  obtain ⟨hE0, hF1⟩ := Prod.mk.inj hE
  obtain ⟨hE1, hF2⟩ := Prod.mk.inj hF1
  obtain ⟨hE2, hE3⟩ := Prod.mk.inj hF2
  clear hE hF1 hF2
  replace hE0 := hE0.symm
  subst hE0
  replace hE1 := hE1.symm
  subst hE1
  replace hE2 := hE2.symm
  subst hE2
  replace hE3 := hE3.symm
  subst hE3
  refine we_fact (.sli 3 R_V none 0 ([] : List V)) (fun _ _ _ => sli_none) ?_
  refine ret_two (Hr := [_,_]) [0,1] Tryz.results41 (res_cell 2 rfl rfl tS_27 tA_27 rfl rfl) (res_tmp rfl) ⟨none, 0, rfl, rfl, rfl⟩ (asK [0] rfl) rfl rfl (.inl rfl)
 ·
  replace hm := iteF hm hb11
  refine wc_keep [6,4,0] (S' := [_,_,_]) rfl (wc_skip (we_then (wc_seq (wc_region (wP rfl (wP rfl (wF rfl tF_63_0 (wD 0 0 rfl tS_22 tA_22 rfl (wP rfl ?_)))))))))
  obtain ⟨hn18, hm⟩ := gd_some hm
  obtain ⟨x18, hx18, hm⟩ := bindO_some hm
  refine wl_indexH 1 v9.toNat rfl rfl rfl (freshS_eq rfl) rfl rfl rfl rfl (toNat_eq hn18) (get_lt hx18) tE_22 tS_27 (fun g18 eg18 => ?_)
  subst eg18
  refine wl_loadRow R_FactD_opens 1 v9.toNat 0 rfl rfl rfl (freshS_eq rfl) rfl rfl rfl hx18 tS_27 tA_27 (v := fun r19 => .agg #[.int .i64 (x18.id), .int .i64 (x18.ty), .slice r19.1 x18.args.length r19.2]) (fun _ => rfl) (fun _ => rfl) (fun r19 _ => (wS 2 0 rfl tS_27 (all' := [_,_,_]) rfl (H' := [_,_,_]) rfl (wP rfl (wl_nil (we_then (wc_keep [5,4] (S' := [_,_]) rfl (wc_ret ?_)))))))
  have hE := (Option.some.inj hm).symm
  obtain ⟨hE0, hF1⟩ := Prod.mk.inj hE
  obtain ⟨hE1, hF2⟩ := Prod.mk.inj hF1
  obtain ⟨hE2, hE3⟩ := Prod.mk.inj hF2
  clear hE hF1 hF2
  replace hE0 := hE0.symm
  subst hE0
  replace hE1 := hE1.symm
  subst hE1
  replace hE2 := hE2.symm
  subst hE2
  replace hE3 := hE3.symm
  subst hE3
  refine ret_two (Hr := [_,_]) [0,1] Tryz.results41 (res_cell 2 rfl rfl tS_27 tA_27 rfl rfl) (res_tmp rfl) ⟨r19.1, r19.2, rfl, rfl, rfl⟩ (asK [0] rfl) rfl rfl (.inl rfl)
theorem w_ropewalkkit_SameFact_s (N : Nat) (a0 : Int) (a1 : Int) (qp0 : Option Addr) (qc1 : Nat) (l2 : List V) (a3 : Int) (a4 : Int) (qp2 : Option Addr) (qc3 : Nat) (l5 : List V) (o0 : Bool) (hm : m_ropewalkkit_SameFact N a0 a1 l2 a3 a4 l5 = some o0) : Spec Tryz.prog 32 [.agg #[.int .i64 a0, .int .i64 a1, .slice qp0 l2.length qc1], .agg #[.int .i64 a3, .int .i64 a4, .slice qp2 l5.length qc3]] [.sli 3 R_V qp0 qc1 l2, .sli 3 R_V qp2 qc3 l5] [] (fun v Φr Hr => v = .bool o0 ∧ Φr = [] ∧ Hr = []) := by
 unfold m_ropewalkkit_SameFact at hm
 refine spec_of Tryz.func32 rfl Tryz.ntmps32 rfl (S := [_,_]) rfl (fun C => (wc_seq (wc_region (wB rfl (fun g2 => (wB rfl (fun g3 => (wP rfl (wl_nil (we_then (wc_keep [3,2] (S' := [_,_]) rfl (wc_seq (wc_region (wF rfl tF_27_0 (wD 1 0 rfl tS_3 tA_3 rfl (wF rfl tF_27_0 ?_))))))))))))))))
 refine wD 0 0 rfl tS_3 tA_3 rfl (wP rfl (wP rfl ?_))
 refine wl_split (d := 10) (S' := [_,_,_,_,_,_,_]) rfl rfl (fun hs10 => ?_) (fun hs10 => ?_)
 ·
  replace hm := iteT hm hs10
  refine wF rfl tF_27_1 (wD 1 1 rfl tS_3 tA_3 rfl (wF rfl tF_27_1 (wD 0 1 rfl tS_3 tA_3 rfl (wP rfl (wP rfl (wP rfl ?_))))))
  refine wl_split (d := 17) (S' := [_,_,_,_,_,_,_,_,_,_,_,_,_,_]) rfl rfl (fun hs17 => ?_) (fun hs17 => ?_)
  ·
   replace hm := iteT hm hs17
   refine wF rfl tF_27_2 (wD 1 2 rfl tS_25 tA_25 rfl (wF rfl tF_27_2 (wD 0 2 rfl tS_25 tA_25 rfl ?_)))
   obtain ⟨v22, hc22, hm⟩ := bindO_some hm
   refine wC [] [0,1] rfl fn_61 rfl (w_ropewalkkit_SameValues_s N qp0 qc1 l2 qp2 qc3 l5 _ hc22) (asK [0,1] rfl) rfl (H' := [_,_]) rfl ?_
   rintro _ _ _ ⟨rfl, rfl, rfl⟩
   refine wP rfl (wP rfl (wl_nil (we_then (wc_keep [4] (S' := [_]) rfl (wc_ret ?_)))))
   have hE := (Option.some.inj hm).symm
   replace hE := hE.symm
   subst hE
   refine ret_one (Hr := []) [] Tryz.results32 (res_tmp rfl) ⟨rfl, rfl, rfl⟩ (asK [] rfl) rfl rfl (.inl rfl)
  ·
   replace hm := iteF hm hs17
   refine wO rfl (wO rfl (wO rfl (wO rfl (wO rfl (wP rfl (wP rfl (wl_nil (we_then (wc_keep [4] (S' := [_]) rfl (wc_ret ?_))))))))))
   have hE := (Option.some.inj hm).symm
   replace hE := hE.symm
   subst hE
   refine ret_one (Hr := []) [] Tryz.results32 (res_tmp rfl) ⟨rfl, rfl, rfl⟩ (asK [] rfl) rfl rfl (.inl rfl)
 ·
  replace hm := iteF hm hs10
  refine wO rfl (wO rfl (wO rfl (wO rfl (wO rfl (wP rfl (wP rfl (wO rfl (wO rfl (wO rfl (wO rfl (wO rfl (wP rfl (wP rfl ?_)))))))))))))
  refine wl_nil (we_then (wc_keep [4] (S' := [_]) rfl (wc_ret ?_)))
  have hE := (Option.some.inj hm).symm
  replace hE := hE.symm
  subst hE
  refine ret_one (Hr := []) [] Tryz.results32 (res_tmp rfl) ⟨rfl, rfl, rfl⟩ (asK [] rfl) rfl rfl (.inl rfl)
theorem ap_putValues (g : Nat) (p6 : Option Addr) (c6 : Nat) (h6 : List Hdr) (p7 : Option Addr) (c7 : Nat) (h7 : List Hdr) (p : Option Addr) (n c : Nat) (hL6 : h6.length + 1 ≤ 1073741824) (hB6 : Bd h6) (hn : n ≤ 10000) : Spec Tryz.prog 101 [.pointer (some ⟨g, 0, none⟩), .slice p n c] [] [.blk g [.slice none 0 0, .slice none 0 0, .slice none 0 0, .slice none 0 0, .slice none 0 0, .slice none 0 0, .slice p6 h6.length c6, .slice p7 h7.length c7, .slice none 0 0, .slice none 0 0, .slice none 0 0, .slice none 0 0, .slice none 0 0, .slice none 0 0, .slice none 0 0, .slice none 0 0, .slice none 0 0, .slice none 0 0, .slice none 0 0, .slice none 0 0, .slice none 0 0, .slice none 0 0, .slice none 0 0, .slice none 0 0, .slice none 0 0, .slice none 0 0, .slice none 0 0, .slice none 0 0, .slice none 0 0] 112, .own 25 1 hdrR (.slice p6 h6.length c6) h6, flatF 51 3 (h6.map row0), flatF 51 3 ([row0 (p, n, c)])] (fun v Φr Hr => ∃ (q6 : Option Addr) (d6 : Nat) (k6 : List Hdr), k6.length ≤ h6.length + 1 ∧ Bd k6 ∧ k6 = h6 ++ ([(p, n, c)] : List Hdr) ∧ v = .tuple #[] ∧ Φr = [] ∧ Hr = [.blk g [.slice none 0 0, .slice none 0 0, .slice none 0 0, .slice none 0 0, .slice none 0 0, .slice none 0 0, .slice q6 k6.length d6, .slice p7 h7.length c7, .slice none 0 0, .slice none 0 0, .slice none 0 0, .slice none 0 0, .slice none 0 0, .slice none 0 0, .slice none 0 0, .slice none 0 0, .slice none 0 0, .slice none 0 0, .slice none 0 0, .slice none 0 0, .slice none 0 0, .slice none 0 0, .slice none 0 0, .slice none 0 0, .slice none 0 0, .slice none 0 0, .slice none 0 0, .slice none 0 0, .slice none 0 0] 112, .own 25 1 hdrR (.slice q6 k6.length d6) k6, flatF 51 3 (k6.map row0)]) := by
 refine spec_of Tryz.func101 rfl Tryz.ntmps101 rfl (S := [_,_]) rfl (fun C => (wc_region (wP rfl (wP rfl (wP rfl (wF rfl tF_112_6 (wD 0 6 rfl tS_89 tA_89 rfl (wP rfl (wl_buildSlice rfl rfl rfl (freshS_eq rfl) rfl tE_89 tS_25 tZ_25 rfl (zs := [.slice none 0 0]) (by kernel_rfl) rfl (out := [_]) rfl (fun g10 => (wl_appendH ([(p, n, c)] : List Hdr) 2 0 rfl rfl rfl (freshS_eq rfl) rfl rfl rfl rfl rfl (fun F w hφ => ⟨[_],[], rfl, rfl, rfl, rfl⟩) tE_89 tR_25 rfl rfl (by simp; omega) (by simp; omega) (H2 := fun p11 c11 => [.blk g10 [.slice p n c] 25, .blk g [.slice none 0 0, .slice none 0 0, .slice none 0 0, .slice none 0 0, .slice none 0 0, .slice none 0 0, .slice p6 h6.length c6, .slice p7 h7.length c7, .slice none 0 0, .slice none 0 0, .slice none 0 0, .slice none 0 0, .slice none 0 0, .slice none 0 0, .slice none 0 0, .slice none 0 0, .slice none 0 0, .slice none 0 0, .slice none 0 0, .slice none 0 0, .slice none 0 0, .slice none 0 0, .slice none 0 0, .slice none 0 0, .slice none 0 0, .slice none 0 0, .slice none 0 0, .slice none 0 0, .slice none 0 0] 112, .own 25 1 hdrR (.slice p11 ((h6 ++ ([(p, n, c)] : List Hdr)).length) c11) (h6 ++ ([(p, n, c)] : List Hdr)), flatF 51 3 (h6.map row0), flatF 51 3 ([row0 (p, n, c)])]) (fun _ _ => rfl) (fun p11 c11 => (wl_drop 0 rfl (H' := [_,_,_,_]) rfl (wP rfl (wF rfl tF_112_6 (wS 0 6 rfl tS_89 (all' := [_,_,_,_,_,_,_,_,_,_,_,_,_,_,_,_,_,_,_,_,_,_,_,_,_,_,_,_,_]) rfl (H' := [_,_,_,_]) rfl ?_))))))))))))))))
 refine wl_nil (we_sh [.blk g [.slice none 0 0, .slice none 0 0, .slice none 0 0, .slice none 0 0, .slice none 0 0, .slice none 0 0, .slice p11 ((h6 ++ ([(p, n, c)] : List Hdr)).length) c11, .slice p7 h7.length c7, .slice none 0 0, .slice none 0 0, .slice none 0 0, .slice none 0 0, .slice none 0 0, .slice none 0 0, .slice none 0 0, .slice none 0 0, .slice none 0 0, .slice none 0 0, .slice none 0 0, .slice none 0 0, .slice none 0 0, .slice none 0 0, .slice none 0 0, .slice none 0 0, .slice none 0 0, .slice none 0 0, .slice none 0 0, .slice none 0 0, .slice none 0 0] 112, .own 25 1 hdrR (.slice p11 ((h6 ++ ([(p, n, c)] : List Hdr)).length) c11) (h6 ++ ([(p, n, c)] : List Hdr)), flatF 51 3 ((h6 ++ [(p, n, c)]).map row0)] (fun _ h => h.flPush 2 3 rfl rfl rfl) (ret_none (Hr := [.blk g [.slice none 0 0, .slice none 0 0, .slice none 0 0, .slice none 0 0, .slice none 0 0, .slice none 0 0, .slice p11 ((h6 ++ ([(p, n, c)] : List Hdr)).length) c11, .slice p7 h7.length c7, .slice none 0 0, .slice none 0 0, .slice none 0 0, .slice none 0 0, .slice none 0 0, .slice none 0 0, .slice none 0 0, .slice none 0 0, .slice none 0 0, .slice none 0 0, .slice none 0 0, .slice none 0 0, .slice none 0 0, .slice none 0 0, .slice none 0 0, .slice none 0 0, .slice none 0 0, .slice none 0 0, .slice none 0 0, .slice none 0 0, .slice none 0 0] 112, .own 25 1 hdrR (.slice p11 ((h6 ++ ([(p, n, c)] : List Hdr)).length) c11) (h6 ++ ([(p, n, c)] : List Hdr)), flatF 51 3 ((h6 ++ [(p, n, c)]).map row0)]) [0,1,2] Tryz.results101 ?_ (asK [] rfl) rfl rfl (.inr rfl)))
 exact ⟨_,_,_, by simp, hB6.push hn, rfl, rfl, rfl, rfl⟩
theorem ap_oneFact (g : Nat) (p6 : Option Addr) (c6 : Nat) (h6 : List Hdr) (p7 : Option Addr) (c7 : Nat) (h7 : List Hdr) (a0 : Int) (a1 : Int) (p_2 : Option Addr) (n_2 c_2 : Nat) (hL6 : h6.length + 1 ≤ 1073741824) (hB6 : Bd h6) (b_2 : n_2 ≤ 10000) : Spec Tryz.prog 65 [.pointer (some ⟨g, 0, none⟩), .agg #[.int .i64 a0, .int .i64 a1, .slice p_2 n_2 c_2]] [] [.blk g [.slice none 0 0, .slice none 0 0, .slice none 0 0, .slice none 0 0, .slice none 0 0, .slice none 0 0, .slice p6 h6.length c6, .slice p7 h7.length c7, .slice none 0 0, .slice none 0 0, .slice none 0 0, .slice none 0 0, .slice none 0 0, .slice none 0 0, .slice none 0 0, .slice none 0 0, .slice none 0 0, .slice none 0 0, .slice none 0 0, .slice none 0 0, .slice none 0 0, .slice none 0 0, .slice none 0 0, .slice none 0 0, .slice none 0 0, .slice none 0 0, .slice none 0 0, .slice none 0 0, .slice none 0 0] 112, .own 25 1 hdrR (.slice p6 h6.length c6) h6, flatF 51 3 (h6.map row0), flatF 51 3 ([row0 (p_2, n_2, c_2)])] (fun v Φr Hr => ∃ (q6 : Option Addr) (d6 : Nat) (k6 : List Hdr), k6.length ≤ h6.length + 1 ∧ Bd k6 ∧ v = .tuple #[] ∧ Φr = [] ∧ Hr = [.blk g [.slice none 0 0, .slice none 0 0, .slice none 0 0, .slice none 0 0, .slice none 0 0, .slice none 0 0, .slice q6 k6.length d6, .slice p7 h7.length c7, .slice none 0 0, .slice none 0 0, .slice none 0 0, .slice none 0 0, .slice none 0 0, .slice none 0 0, .slice none 0 0, .slice none 0 0, .slice none 0 0, .slice none 0 0, .slice none 0 0, .slice none 0 0, .slice none 0 0, .slice none 0 0, .slice none 0 0, .slice none 0 0, .slice none 0 0, .slice none 0 0, .slice none 0 0, .slice none 0 0, .slice none 0 0] 112, .own 25 1 hdrR (.slice q6 k6.length d6) k6, flatF 51 3 (k6.map row0)]) := by
 refine spec_of Tryz.func65 rfl Tryz.ntmps65 rfl (S := [_,_]) rfl (fun C => (wc_seq (wc_region (wB rfl (fun g3 => (wl_nil (we_then (wc_region (wP rfl (wF rfl tF_27_2 (wD 0 2 rfl tS_25 tA_25 rfl (wC [1,2,3,4] [0] rfl fn_101 rfl (ap_putValues _ p6 c6 h6 p7 c7 h7 p_2 n_2 c_2 (by omega) hB6 b_2) (asK [] rfl) rfl (H' := [_]) rfl ?_))))))))))))
 rintro _ _ _ ⟨q6_1, d6_1, k6_1, hl6_1, hb6_1, hx_1, rfl, rfl, rfl⟩
 refine wl_nil (ret_none (Hr := [.blk g [.slice none 0 0, .slice none 0 0, .slice none 0 0, .slice none 0 0, .slice none 0 0, .slice none 0 0, .slice q6_1 k6_1.length d6_1, .slice p7 h7.length c7, .slice none 0 0, .slice none 0 0, .slice none 0 0, .slice none 0 0, .slice none 0 0, .slice none 0 0, .slice none 0 0, .slice none 0 0, .slice none 0 0, .slice none 0 0, .slice none 0 0, .slice none 0 0, .slice none 0 0, .slice none 0 0, .slice none 0 0, .slice none 0 0, .slice none 0 0, .slice none 0 0, .slice none 0 0, .slice none 0 0, .slice none 0 0] 112, .own 25 1 hdrR (.slice q6_1 k6_1.length d6_1) k6_1, flatF 51 3 (k6_1.map row0)]) [0,1,2] Tryz.results65 ?_ (asK [] rfl) rfl rfl (.inr rfl))
 exact ⟨_,_,_, by have := hl6_1; omega, hb6_1, rfl, rfl, rfl⟩
end Go.Proofs.YthmkahbkhoijbaaGreatDoor
