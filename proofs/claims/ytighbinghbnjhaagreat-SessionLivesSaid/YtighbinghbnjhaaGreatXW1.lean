import Derived.Test.YtighbinghbnjhaaGreatXM
import Derived.Test.YtighbinghbnjhaaGreatTypesP
import Derived.Test.YtighbinghbnjhaaGreatEq
import Derived.Test.YtighbinghbnjhaaGreatMapK
import Derived.Test.YtighbinghbnjhaaGreatAuto
import Derived.Test.YtighbinghbnjhaaGreatView
import Derived.Test.YtighbinghbnjhaaGreatMapE
import Derived.Test.YtighbinghbnjhaaGreatFlat
import Derived.Test.YtighbinghbnjhaaGreatApart
import Derived.Test.YtighbinghbnjhaaGreatRun
import Derived.Test.YtighbinghbnjhaaGreatShort
import Derived.Test.YtighbinghbnjhaaGreatAb
namespace Go.Proofs.YtighbinghbnjhaaGreat
open Go.RowKit
set_option maxRecDepth 100000
set_option maxHeartbeats 4000000
theorem w_ropewalklaw27_great_s (N : Nat) (a0 : Int) (a1 : Int) (qp0 : Option Addr) (qc1 : Nat) (l2 : List FactD) (qp2 : Option Addr) (qc3 : Nat) (l3 : List V) (o0 : Bool) (hm : m_ropewalklaw27_great N a0 a1 l2 l3 = some o0) : Spec Tryz.prog 5 [.agg #[.int .i64 a0, .int .i64 a1, .slice qp0 l2.length qc1, .slice qp2 l3.length qc3]] [.sli 3 R_FactD qp0 qc1 l2, .sli 3 R_V qp2 qc3 l3] [] (fun v Φr Hr => v = .bool o0 ∧ Φr = [] ∧ Hr = []) := by
 unfold m_ropewalklaw27_great at hm
 refine spec_of Tryz.func5 rfl Tryz.ntmps5 rfl (S := [_]) rfl (fun C => (wc_seq (wc_region (wB rfl (fun g1 => (wP rfl (wl_nil (we_then (wc_keep [1] (S' := [_]) rfl (wc_seq (wc_region (wF rfl tF_29_2 (wD 0 2 rfl tS_26 tA_26 rfl (wN rfl tE_26 (wF rfl tF_29_3 ?_)))))))))))))))
 refine wD 0 3 rfl tS_27 tA_27 rfl (wN rfl tE_27 (wP rfl ?_))
 obtain ⟨hg11, hm⟩ := gd_some hm
 refine wl_as (d := 11) (v' := .int .i64 ((l2.length + l3.length : Nat) : Int)) (S' := [_,_,_,_,_,_,_]) rfl rfl (nat_add (a := l2.length) (b := l3.length) hg11) (wP rfl (wl_nil (we_then (wc_keep [3,1] (S' := [_,_]) rfl (wc_seq ?_)))))
 obtain ⟨bj_1, hm, hLj_1⟩ := bindO_some hm
 refine wc_cut (σ := Nat) (fun j_1_3 => bj_1 = j_1_3) (fun j_1_3 => [(3, .int .i64 ((j_1_3 : Nat) : Int))]) (fun j_1_3 => []) (fun j_1_3 => []) ?_ ?_
 ·
  refine wc_seq (wc_region (wP rfl (wl_nil (we_then (wc_block (wc_loop (σ := Nat × Nat × Nat) (fun (nu1, u1_4, u1_3) => iter (m_ropewalklaw27_great_L1 N l2) nu1 (u1_4, u1_3) = some bj_1) (fun (nu1, u1_4, u1_3) => nu1) (fun (nu1, u1_4, u1_3) => [(4, .int .i64 ((u1_4 : Nat) : Int)), (3, .int .i64 ((u1_3 : Nat) : Int)), (1, .pointer (some ⟨g1,0, none⟩))]) (fun (nu1, u1_4, u1_3) => [.sli 3 R_FactD qp0 qc1 l2, .sli 3 R_V qp2 qc3 l3]) (fun (nu1, u1_4, u1_3) => [.blk g1 [.int .i64 a0, .int .i64 a1, .slice qp0 l2.length qc1, .slice qp2 l3.length qc3] 29]) (N, 0, l2.length + l3.length) hm [4,3,1] rfl (asK [0,1] rfl) rfl (fun s_ hm => ?_)))))))
  obtain ⟨nu1, u1_4, u1_3⟩ := s_
  try dsimp only at hm ⊢
  obtain ⟨mu1, bu1, hnu1, hq, hLu1⟩ := iter_some hm
  clear hm
  subst hnu1
  replace hm := hq
  clear hq
  unfold m_ropewalklaw27_great_L1 at hm
  try dsimp only at hm
  refine wc_seq (wc_seq ?_)
  obtain ⟨bj_2, hm, hLj_2⟩ := bindO_some hm
  refine wc_cut (σ := Bool) (fun j_2_20 => bj_2 = j_2_20) (fun j_2_20 => [(4, .int .i64 ((u1_4 : Nat) : Int)), (3, .int .i64 ((u1_3 : Nat) : Int)), (1, .pointer (some ⟨g1,0, none⟩)), (20, .bool j_2_20)]) (fun j_2_20 => [.sli 3 R_FactD qp0 qc1 l2, .sli 3 R_V qp2 qc3 l3]) (fun j_2_20 => [.blk g1 [.int .i64 a0, .int .i64 a1, .slice qp0 l2.length qc1, .slice qp2 l3.length qc3] 29]) ?_ ?_
  ·
   refine wc_region (wP rfl (wF rfl tF_29_2 (wD 0 2 rfl tS_26 tA_26 rfl (wN rfl tE_26 (wP rfl (wl_as (d := 16) (v' := .bool (decide (u1_4 < l2.length))) (S' := [_,_,_,_,_,_,_]) rfl rfl (natlt (a := u1_4) (b := l2.length)) (wP rfl ?_)))))))
   refine wl_split (d := 17) (S' := [_,_,_,_,_,_,_,_]) rfl rfl (fun hs17 => ?_) (fun hs17 => ?_)
   ·
    replace hm := iteT hm hs17
    refine wP rfl (wP rfl (wl_as (d := 19) (v' := .bool (decide (u1_3 ≤ 200))) (S' := [_,_,_,_,_,_,_,_,_,_]) rfl rfl (natle (a := u1_3) (b := 200)) (wP rfl (wl_nil ?_))))
    have hE := (Option.some.inj hm).symm
    refine we_join (decide (u1_3 ≤ 200)) hE [4,3,1,20] rfl (asK [0,1] rfl) rfl
   ·
    replace hm := iteF hm hs17
    refine wO rfl (wO rfl (wP rfl (wl_nil ?_)))
    have hE := (Option.some.inj hm).symm
    refine we_join false hE [4,3,1,20] rfl (asK [0,1] rfl) rfl
  ·
   rintro j_2_20 hE
   try dsimp only
   have hm := hLj_2
   rw [hE] at hm
   refine wc_cond rfl (fun hb20 => ?_) (fun hb20 => ?_)
   ·
    replace hm := iteT hm hb20
    refine wc_keep [4,3,1] (S' := [_,_,_]) rfl (wc_skip (we_then (wc_seq (wc_block (wc_region (wP rfl (wF rfl tF_29_2 (wD 0 2 rfl tS_26 tA_26 rfl (wP rfl ?_)))))))))
    obtain ⟨x27, hx27, hm⟩ := bindO_some hm
    refine wl_indexA 0 u1_4 rfl rfl rfl (freshS_eq rfl) rfl rfl rfl rfl rfl hx27 tE_26 tS_55 (fun b27 q27 cs27 hlx27 => (wl_open R_FactD_opens 1 rfl (fun r27 er27 _ => ?_)))
    subst er27
    refine wF rfl tF_55_2 (wl_load 1 2 rfl rfl rfl (freshS_eq rfl) rfl rfl rfl (cs := [_]) rfl tS_27 tA_27 rfl rfl (wN rfl tE_27 (wP rfl ?_)))
    obtain ⟨hg31, hm⟩ := gd_some hm
    refine wl_as (d := 31) (v' := .int .i64 ((u1_3 + x27.args.length : Nat) : Int)) (S' := [_,_,_,_,_,_,_,_,_,_,_]) rfl rfl (nat_add (a := u1_3) (b := x27.args.length) hg31) (wl_pure (S' := [_,_,_,_,_,_,_,_,_,_,_]) rfl rfl rfl rfl rfl (wl_nil (we_block_normal (we_then (wc_keep [3,4,1] (S' := [_,_,_]) rfl (wc_region (wP rfl (wP rfl ?_))))))))
    obtain ⟨hg22, hm⟩ := gd_some hm
    refine wl_as (d := 22) (v' := .int .i64 ((u1_4 + 1 : Nat) : Int)) (S' := [_,_,_,_]) rfl rfl (nat_add (a := u1_4) (b := 1) hg22) (wl_pure (S' := [_,_,_,_]) rfl rfl rfl rfl rfl (wl_nil ?_))
    have hE := (Option.some.inj hm).symm
    replace hE := link_inl hLu1 hE
    refine we_roundK (_, u1_4 + 1, u1_3 + x27.args.length) (Nat.lt_succ_self _) hE [4,3,1] rfl (asK [3,4] rfl) rfl
   ·
    replace hm := iteF hm hb20
    refine wc_keep [3] (S' := [_]) rfl (wc_exit (we_then_exit (we_then_exit (we_block_hit ?_))))
    have hE := (Option.some.inj hm).symm
    replace hE := link_inr hLu1 hE
    refine we_pick [] rfl (H' := []) rfl ?_
    refine we_join u1_3 hE [3] rfl (asK [] rfl) rfl
 ·
  rintro j_1_3 hE
  try dsimp only
  have hm := hLj_1
  rw [hE] at hm
  refine wc_seq (wc_region (wP rfl (wP rfl (wl_as (d := 33) (v' := .bool (decide (200 < j_1_3))) (S' := [_,_]) rfl rfl (natgt (a := j_1_3) (b := 200)) (wP rfl (wl_nil (we_then (wc_keep [2] (S' := [_]) rfl (wc_ret ?_)))))))))
  have hE := (Option.some.inj hm).symm
  replace hE := hE.symm
  subst hE
  refine ret_one (Hr := []) [] Tryz.results5 (res_tmp rfl) ⟨rfl, rfl, rfl⟩ (asK [] rfl) rfl rfl (.inl rfl)
theorem w_session_New_s (N : Nat)   (hm : m_session_New N = some ()) : Spec Tryz.prog 7 [] [] [] (fun v Φr Hr => ∃ (o0 : Nat), v = .pointer (some ⟨o0,0, none⟩) ∧ Φr = [] ∧ Hr = [.blk o0 [.slice none 0 0, .int .i64 1] 65]) := by
 unfold m_session_New at hm
 refine spec_of Tryz.func7 rfl Tryz.ntmps7 rfl (S := []) rfl (fun C => (wc_seq (wc_region (wP rfl (wl_nil (we_then (wc_keep [] (S' := []) rfl (wc_seq (wc_region (wl_build rfl rfl rfl (freshS_eq rfl) rfl tZ_65 tP_65 rfl (out := [_,_]) rfl (wB rfl (fun g2 => (wP rfl (wl_nil (we_then ?_)))))))))))))))
 refine wc_keep [0] (S' := [_]) rfl (wc_ret ?_)
 have hE := (Option.some.inj hm).symm
 refine ret_one (Hr := [_]) [0] Tryz.results7 (res_tmp rfl) ⟨g2, rfl, rfl, rfl⟩ (asK [] rfl) rfl rfl (.inl rfl)
theorem w_session_Table_known_s (N : Nat) (qg0 : Nat) (qp1 : Option Addr) (qn2 : Nat) (qc3 : Nat) (l0 : List SessD) (a1 : Int)  (hm : m_session_Table_known N l0 a1 = some ()) : Spec Tryz.prog 42 [.pointer (some ⟨qg0,0, none⟩)] [] [.blk qg0 [.slice qp1 qn2 qc3, .int .i64 a1] 65, .own 31 6 R_SessD (.slice qp1 qn2 qc3) l0] (fun v Φr Hr => v = .bool (decide (a1 > 0)) ∧ Φr = [] ∧ Hr = [.blk qg0 [.slice qp1 qn2 qc3, .int .i64 a1] 65, .own 31 6 R_SessD (.slice qp1 qn2 qc3) l0]) := by
 unfold m_session_Table_known at hm
 refine spec_of Tryz.func42 rfl Tryz.ntmps42 rfl (S := [_]) rfl (fun C => (wc_seq (wc_region (wP rfl (wl_nil (we_then (wc_keep [0] (S' := [_]) rfl (wc_seq (wc_region (wP rfl (wl_bin rfl rfl rfl (freshS_eq rfl) rfl rfl rfl (neqP tQ_33 _ _ _) (wP rfl (wP rfl (wP rfl ?_))))))))))))))
 refine wF rfl tF_65_1 (wD 0 1 rfl tS_3 tA_3 rfl (wP rfl (wP rfl (wP rfl (wl_nil (we_then (wc_keep [2] (S' := [_]) rfl (wc_ret ?_))))))))
 have hE := (Option.some.inj hm).symm
 refine ret_one (Hr := [_,_]) [0,1] Tryz.results42 (res_tmp rfl) ⟨rfl, rfl, rfl⟩ (asK [] rfl) rfl rfl (.inl rfl)
theorem w_session_Table_Open_s (N : Nat) (qg0 : Nat) (qp1 : Option Addr) (qn2 : Nat) (qc3 : Nat) (l0 : List SessD) (a1 : Int) (o0 : Int) (o1 : Nat) (o4 : List SessD) (o6 : Int) (hm : m_session_Table_Open N l0 a1 = some (o0, o1, o4, o6)) : Spec Tryz.prog 19 [.pointer (some ⟨qg0,0, none⟩)] [] [.blk qg0 [.slice qp1 qn2 qc3, .int .i64 a1] 65, .own 31 6 R_SessD (.slice qp1 qn2 qc3) l0] (fun v Φr Hr => ∃ (o2 : Option Addr) (o3 : Nat) (o5 : Nat), v = .tuple #[.int .i64 o0, .int .i64 ((o1 : Nat) : Int)] ∧ Φr = [] ∧ Hr = [.blk qg0 [.slice o2 o5 o3, .int .i64 o6] 65, .own 31 6 R_SessD (.slice o2 o5 o3) o4]) := by
 unfold m_session_Table_Open at hm
 refine spec_of Tryz.func19 rfl Tryz.ntmps19 rfl (S := [_]) rfl (fun C => (wc_seq (wc_region (wP rfl (wP rfl (wl_nil (we_then (wc_keep [0] (S' := [_]) rfl (wc_seq (wc_block (wc_seq (wc_region (wP rfl ?_)))))))))))))
 obtain ⟨_, hc6, hm⟩ := bindO_some hm
 try dsimp only at hm
 refine wC [0,1] [] rfl fn_42 rfl (w_session_Table_known_s N qg0 qp1 qn2 qc3 l0 a1 hc6) (asK [] rfl) rfl (H' := []) rfl ?_
 rintro _ _ _ ⟨rfl, rfl, rfl⟩
 refine wP rfl (wP rfl (wl_nil (we_then (wc_keep [4,0] (S' := [_,_]) rfl ?_))))
 refine wc_cond rfl (fun hb4 => ?_) (fun hb4 => ?_)
 ·
  replace hm := iteT hm hb4
  refine wc_keep [] (S' := []) rfl (wc_seq (wc_region (wP rfl (wP rfl (wl_nil (we_then (wc_ret (we_block_ret (we_then_ret ?_)))))))))
  have hE := (Option.some.inj hm).symm
  obtain ⟨hE0, hF1⟩ := Prod.mk.inj hE
  obtain ⟨hE1, hF2⟩ := Prod.mk.inj hF1
  obtain ⟨hE2, hE3⟩ := Prod.mk.inj hF2
  clear hE hF1 hF2
  replace hE0 := hE0.symm
  subst hE0
  replace hE1 := hE1.symm
  subst hE1
  replace hE2 := hE2.symm
  subst hE2
  replace hE3 := hE3.symm
  subst hE3
  refine ret_two (Hr := [_,_]) [0,1] Tryz.results19 (res_tmp rfl) (res_tmp rfl) ⟨qp1, qc3, qn2, rfl, rfl, rfl⟩ (asK [] rfl) rfl rfl (.inl rfl)
 ·
  replace hm := iteF hm hb4
  refine wc_keep [0] (S' := [_]) rfl (wc_seq ?_)
  obtain ⟨bj_1, hm, hLj_1⟩ := bindO_some hm
  refine wc_cut (σ := Bool) (fun j_1_8 => bj_1 = j_1_8) (fun j_1_8 => [(0, .pointer (some ⟨qg0,0, none⟩)), (8, .bool j_1_8)]) (fun j_1_8 => []) (fun j_1_8 => [.blk qg0 [.slice qp1 qn2 qc3, .int .i64 a1] 65, .own 31 6 R_SessD (.slice qp1 qn2 qc3) l0]) ?_ ?_
  ·
   refine wc_region (wP rfl (wP rfl (wF rfl tF_65_0 (wF rfl tF_63_0 (wD 0 0 rfl tS_22 tA_22 rfl (wl_ownLen 1 rfl (fun hl14 _ => (wN rfl tE_22 (wl_as (d := 14) (v' := .int .i64 ((l0.length : Nat) : Int)) (S' := [_,_,_,_,_,_]) rfl rfl (len_is hl14) (wP rfl (wl_as (d := 15) (v' := .bool (decide (32 ≤ l0.length))) (S' := [_,_,_,_,_,_,_]) rfl rfl (natge (a := l0.length) (b := 32)) (wP rfl ?_))))))))))))
   refine wl_split (d := 16) (S' := [_,_,_,_,_,_,_,_]) rfl rfl (fun hs16 => ?_) (fun hs16 => ?_)
   ·
    replace hm := iteT hm hs16
    refine wO rfl (wO rfl (wO rfl (wO rfl (wO rfl (wP rfl (wP rfl (wl_nil ?_)))))))
    have hE := (Option.some.inj hm).symm
    refine we_join true hE [0,8] rfl (asK [] rfl) rfl
   ·
    replace hm := iteF hm hs16
    refine wP rfl (wP rfl (wF rfl tF_65_1 (wD 0 1 rfl tS_3 tA_3 rfl (wP rfl (wP rfl (wP rfl (wl_nil ?_)))))))
    have hE := (Option.some.inj hm).symm
    refine we_join (decide (a1 > 1099511627776)) hE [0,8] rfl (asK [] rfl) rfl
  ·
   rintro j_1_8 hE
   try dsimp only
   have hm := hLj_1
   rw [hE] at hm
   refine wc_cond rfl (fun hb8 => ?_) (fun hb8 => ?_)
   ·
    replace hm := iteT hm hb8
    refine wc_keep [] (S' := []) rfl (wc_seq (wc_region (wP rfl (wP rfl (wl_nil (we_then (wc_ret (we_block_ret (we_then_ret ?_)))))))))
    have hE := (Option.some.inj hm).symm
    obtain ⟨hE0, hF1⟩ := Prod.mk.inj hE
    obtain ⟨hE1, hF2⟩ := Prod.mk.inj hF1
    obtain ⟨hE2, hE3⟩ := Prod.mk.inj hF2
    clear hE hF1 hF2
    replace hE0 := hE0.symm
    subst hE0
    replace hE1 := hE1.symm
    subst hE1
    replace hE2 := hE2.symm
    subst hE2
    replace hE3 := hE3.symm
    subst hE3
    refine ret_two (Hr := [_,_]) [0,1] Tryz.results19 (res_tmp rfl) (res_tmp rfl) ⟨qp1, qc3, qn2, rfl, rfl, rfl⟩ (asK [] rfl) rfl rfl (.inl rfl)
   ·
    replace hm := iteF hm hb8
    refine wc_keep [0] (S' := [_]) rfl (wc_skip (we_block_normal (we_then (wc_seq ?_))))
    obtain ⟨hg35, hm⟩ := gd_some hm
    refine wc_draw [0,1,2,3,4,5,6,7,8,9,10,13,14,15] rfl rfl (fun hok => (xP hok 0 rfl (xP hok 1 rfl (xP hok 2 rfl (wx_fieldAddr hok 3 rfl rfl rfl (freshS_eq rfl) rfl rfl rfl tF_65_0 (wx_fieldAddr hok 4 rfl rfl rfl (freshS_eq rfl) rfl rfl rfl tF_63_0 (wx_loadH hok 5 0 0 rfl rfl rfl (freshS_eq rfl) rfl rfl rfl rfl (cs := [_]) rfl tS_22 tA_22 rfl rfl (xP hok 6 rfl (xP hok 7 rfl (wx_fieldAddr hok 8 rfl rfl rfl (freshS_eq rfl) rfl rfl rfl tF_65_1 (wx_loadH hok 9 0 1 rfl rfl rfl (freshS_eq rfl) rfl rfl rfl rfl (cs := [_]) rfl tS_3 tA_3 rfl rfl (wx_build hok 10 rfl rfl rfl (freshS_eq rfl) rfl rfl tZ_31 tP_31 rfl (out := [_,_,_,_,_,_]) rfl (xS hok 11 rfl (wl_buildSlice rfl rfl rfl (freshS_eq rfl) rfl tE_22 tS_31 tZ_31 rfl (zs := [.int .i64 0, .int .i64 0, .int .i64 0, .int .i64 0, .slice none 0 0, .slice none 0 0]) (by kernel_rfl) rfl (out := [_,_,_,_,_,_]) rfl (fun g34 => ?_)))))))))))))))
    refine wl_nil (we_x [] [1,1] rfl rfl (xS hok 12 rfl (wl_appendH ([(⟨a1,0, (⟨0,0,[],[]⟩ : ReplyD)⟩ : SessD)]) 2 0 rfl rfl rfl (freshS_eq rfl) rfl rfl rfl rfl rfl (fun F w hφ => ⟨[.int .i64 a1, .int .i64 0, .int .i64 0, .int .i64 0, .slice none 0 0, .slice none 0 0],[], rfl, rfl, ⟨((none, 0), (none, 0)), rfl, (ask_cons sli_none (ask_cons sli_none ask_nil))⟩, rfl⟩) tE_22 tR_31 rfl rfl (Nat.le_trans hg35 (by decide)) (Nat.le_trans (Nat.mul_le_mul_right _ hg35) (by decide)) (H2 := fun p35 c35 => [_,_, .own 31 6 R_SessD (.slice p35 ((l0 ++ ([(⟨a1,0, (⟨0,0,[],[]⟩ : ReplyD)⟩ : SessD)])).length) c35) (l0 ++ ([(⟨a1,0, (⟨0,0,[],[]⟩ : ReplyD)⟩ : SessD)]))]) (fun _ _ => rfl) (fun p35 c35 => (wl_drop 0 rfl (H' := [_,_]) rfl (wl_nil (we_x [] [0] rfl rfl (xP hok 13 rfl (wx_fieldAddr hok 14 rfl rfl rfl (freshS_eq rfl) rfl rfl rfl tF_65_0 (wx_fieldAddr hok 15 rfl rfl rfl (freshS_eq rfl) rfl rfl rfl tF_63_0 (xS hok 16 rfl (wS 0 0 rfl tS_22 (all' := [_,_]) rfl (H' := [_,_]) rfl (wl_nil (we_x [] [] rfl rfl ?_))))))))))))))
    refine wx_done hok rfl (we_then (wc_keep [0] (S' := [_]) rfl (wc_seq (wc_region (wP rfl (wP rfl (wF rfl tF_65_1 (wD 0 1 rfl tS_3 tA_3 rfl (wP rfl ?_)))))))))
    obtain ⟨hg43, hm⟩ := gd_some hm
    refine wl_as (d := 43) (v' := .int .i64 (a1 + 1)) (S' := [_,_,_,_,_]) rfl rfl (i64_in hg43) (wP rfl (wF rfl tF_65_1 (wS 0 1 rfl tS_3 (all' := [_,_]) rfl (H' := [_,_]) rfl (wl_nil (we_then (wc_keep [0] (S' := [_]) rfl (wc_seq (wc_region (wP rfl (wP rfl (wF rfl tF_65_1 (wD 0 1 rfl tS_3 tA_3 rfl (wP rfl ?_)))))))))))))
    obtain ⟨hg50, hm⟩ := gd_some hm
    refine wl_as (d := 50) (v' := .int .i64 ((a1 + 1) - 1)) (S' := [_,_,_,_,_]) rfl rfl (i64_in hg50) (wP rfl (wP rfl (wl_nil (we_then (wc_keep [3,2] (S' := [_,_]) rfl (wc_ret ?_))))))
    have hE := (Option.some.inj hm).symm
    obtain ⟨hE0, hF1⟩ := Prod.mk.inj hE
    obtain ⟨hE1, hF2⟩ := Prod.mk.inj hF1
    obtain ⟨hE2, hE3⟩ := Prod.mk.inj hF2
    clear hE hF1 hF2
    replace hE0 := hE0.symm
    subst hE0
    replace hE1 := hE1.symm
    subst hE1
    replace hE2 := hE2.symm
    subst hE2
    replace hE3 := hE3.symm
    subst hE3
    refine ret_two (Hr := [_,_]) [0,1] Tryz.results19 (res_tmp rfl) (res_tmp rfl) ⟨p35, c35, (l0 ++ ([(⟨a1,0, (⟨0,0,[],[]⟩ : ReplyD)⟩ : SessD)])).length, rfl, rfl, rfl⟩ (asK [] rfl) rfl rfl (.inl rfl)
theorem w_session_row_find_1_s (N : Nat) (a0 : Int) (a1 : Int) (a2 : Int) (a3 : Int) (qp0 : Option Addr) (qc1 : Nat) (l4 : List FactD) (qp2 : Option Addr) (qc3 : Nat) (l5 : List V) (qg4 : Nat) (a6 : Int)  (hm : m_session_row_find_1 N a0 a1 a2 a3 l4 l5 a6 = some ()) : Spec Tryz.prog 143 [.agg #[.int .i64 a0, .int .i64 a1, .int .i64 a2, .int .i64 a3, .slice qp0 l4.length qc1, .slice qp2 l5.length qc3], .pointer (some ⟨qg4,0, none⟩)] [.sli 3 R_FactD qp0 qc1 l4, .sli 3 R_V qp2 qc3 l5] [.blk qg4 [.int .i64 a6] 3] (fun v Φr Hr => v = .bool (a0 == a6) ∧ Φr = [] ∧ Hr = [.blk qg4 [.int .i64 a6] 3]) := by
 unfold m_session_row_find_1 at hm
 refine spec_of Tryz.func143 rfl Tryz.ntmps143 rfl (S := [_,_]) rfl (fun C => (wc_seq (wc_region (wB rfl (fun g2 => (wP rfl (wl_nil (we_then (wc_keep [2,1] (S' := [_,_]) rfl (wc_seq (wc_region (wF rfl tF_31_0 (wD 0 0 rfl tS_3 tA_3 rfl (wD 1 0 rfl tS_3 tA_3 rfl (wP rfl ?_)))))))))))))))
 refine wP rfl (wl_nil (we_then (wc_keep [3] (S' := [_]) rfl (wc_ret ?_))))
 have hE := (Option.some.inj hm).symm
 refine ret_one (Hr := [_]) [1] Tryz.results143 (res_tmp rfl) ⟨rfl, rfl, rfl⟩ (asK [] rfl) rfl rfl (.inl rfl)
theorem w_slices_IndexFunc_Session_s (N : Nat) (qp0 : Option Addr) (qc1 : Nat) (l0 : List SessD) (qg2 : Nat) (a1 : Int) (o0 : Int) (hm : m_slices_IndexFunc_Session N l0 a1 = some o0) : Spec Tryz.prog 142 [.slice qp0 l0.length qc1, .func (.func 143) #[] #[.pointer (some ⟨qg2,0, none⟩)]] [.sli 6 R_SessD qp0 qc1 l0] [.blk qg2 [.int .i64 a1] 3] (fun v Φr Hr => v = .int .i64 o0 ∧ Φr = [] ∧ Hr = [.blk qg2 [.int .i64 a1] 3]) := by
 unfold m_slices_IndexFunc_Session at hm
 refine spec_of Tryz.func142 rfl Tryz.ntmps142 rfl (S := [_,_]) rfl (fun C => (wc_seq (wc_region (wP rfl (wl_nil (we_then (wc_keep [0,1] (S' := [_,_]) rfl (wc_seq ?_))))))))
 obtain ⟨bj_1, hm, hLj_1⟩ := bindS_some hm
 refine wc_cut (σ := Unit) (fun _ => bj_1 = .inl ()) (fun _ => []) (fun _ => []) (fun _ => [.blk qg2 [.int .i64 a1] 3]) ?_ ?_
 ·
  refine wc_seq (wc_region (wP rfl (wN rfl tE_22 (wP rfl (wl_nil (we_then (wc_keep [8,7,0,1] (S' := [_,_,_,_]) rfl (wc_block (wc_loop (σ := Nat × Nat) (fun (nu1, u1_8) => iter (m_slices_IndexFunc_Session_L1 N l0 a1) nu1 u1_8 = some bj_1) (fun (nu1, u1_8) => nu1) (fun (nu1, u1_8) => [(8, .int .i64 ((u1_8 : Nat) : Int)), (7, .int .i64 ((l0.length : Nat) : Int)), (0, .slice qp0 l0.length qc1), (1, .func (.func 143) #[] #[.pointer (some ⟨qg2,0, none⟩)])]) (fun (nu1, u1_8) => [.sli 6 R_SessD qp0 qc1 l0]) (fun (nu1, u1_8) => [.blk qg2 [.int .i64 a1] 3]) (N, 0) hm [8,7,0,1] rfl (asK [0] rfl) rfl (fun s_ hm => ?_))))))))))
  obtain ⟨nu1, u1_8⟩ := s_
  try dsimp only at hm ⊢
  obtain ⟨mu1, bu1, hnu1, hq, hLu1⟩ := iter_some hm
  clear hm
  subst hnu1
  replace hm := hq
  clear hq
  unfold m_slices_IndexFunc_Session_L1 at hm
  try dsimp only at hm
  refine wc_seq (wc_region (wP rfl (wl_as (d := 9) (v' := .bool (decide (u1_8 < l0.length))) (S' := [_,_,_,_]) rfl rfl (natlt (a := u1_8) (b := l0.length)) (wl_nil (we_then (wc_seq ?_))))))
  refine wc_cond rfl (fun hb9 => ?_) (fun hb9 => ?_)
  ·
   replace hm := iteT hm hb9
   refine wc_keep [8,7,0,1] (S' := [_,_,_,_]) rfl (wc_skip (we_then (wc_seq (wc_block (wc_seq (wc_region (wP rfl (wP rfl (wl_nil (we_then (wc_keep [5,8,7,0,1] (S' := [_,_,_,_,_]) rfl (wc_seq (wc_region ?_)))))))))))))
   refine wP rfl (wP rfl (wP rfl ?_))
   obtain ⟨x14, hx14, hm⟩ := bindO_some hm
   refine wl_indexA 0 u1_8 rfl rfl rfl (freshS_eq rfl) rfl rfl rfl rfl rfl hx14 tE_22 tS_31 (fun b14 q14 cs14 hlx14 => (wl_open R_SessD_opens 1 rfl (fun r14 er14 _ => ?_)))
   subst er14
   refine wl_load 2 0 rfl rfl rfl (freshS_eq rfl) rfl rfl rfl (cs := [_,_,_,_,_,_]) rfl tS_31 tA_31 rfl rfl ?_
   obtain ⟨_, hc16, hm⟩ := bindO_some hm
   try dsimp only at hm
   refine wl_callDyn [0] [] rfl rfl rfl (freshS_eq rfl) rfl rfl rfl fn_143 rfl rfl (w_session_row_find_1_s N x14.id x14.seq x14.r.err x14.r.num r14.1.1 r14.1.2 x14.r.facts r14.2.1 r14.2.2 x14.r.said qg2 a1 hc16) (asK [0,1] rfl) rfl (H' := []) rfl ?_
   rintro _ _ _ ⟨rfl, rfl, rfl⟩
   refine wl_nil (we_then (wc_keep [16,5,8,7,0,1] (S' := [_,_,_,_,_,_]) rfl ?_))
   refine wc_cond rfl (fun hb16 => ?_) (fun hb16 => ?_)
   ·
    replace hm := iteT hm hb16
    refine wc_keep [5] (S' := [_]) rfl (wc_seq (wc_region (wP rfl (wP rfl (wl_nil (we_then (wc_keep [4] (S' := [_]) rfl (wc_ret (we_block_ret (we_then_ret (we_then_ret (we_block_ret (we_then_ret ?_)))))))))))))
    have hE := (Option.some.inj hm).symm
    replace hE := link_inr hLu1 hE
    replace hE := link_inr hLj_1 hE
    replace hE := hE.symm
    subst hE
    refine ret_one (Hr := [_]) [0] Tryz.results142 (res_tmp rfl) ⟨rfl, rfl, rfl⟩ (asK [] rfl) rfl rfl (.inl rfl)
   ·
    replace hm := iteF hm hb16
    refine wc_keep [8,7,0,1] (S' := [_,_,_,_]) rfl (wc_skip (we_block_normal (we_then (wc_region (wP rfl ?_)))))
    obtain ⟨hg18, hm⟩ := gd_some hm
    refine wl_as (d := 18) (v' := .int .i64 ((u1_8 + 1 : Nat) : Int)) (S' := [_,_,_,_]) rfl rfl (nat_add (a := u1_8) (b := 1) hg18) (wl_pure (S' := [_,_,_,_]) rfl rfl rfl rfl rfl (wl_nil ?_))
    have hE := (Option.some.inj hm).symm
    replace hE := link_inl hLu1 hE
    refine we_roundK (_, u1_8 + 1) (Nat.lt_succ_self _) hE [8,7,0,1] rfl (asK [4] rfl) rfl
  ·
   replace hm := iteF hm hb9
   refine wc_keep [] (S' := []) rfl (wc_exit (we_then_exit (we_then_exit (we_block_hit ?_))))
   have hE := (Option.some.inj hm).symm
   replace hE := link_inr hLu1 hE
   refine we_join () hE [] rfl (asK [] rfl) rfl
 ·
  rintro _ hE
  try dsimp only
  have hm := link_inl hLj_1 hE
  try dsimp only at hm
  refine wc_seq (wc_region (wP rfl (wl_nil (we_then (wc_ret ?_)))))
  have hE := (Option.some.inj hm).symm
  replace hE := hE.symm
  subst hE
  refine ret_one (Hr := [_]) [0] Tryz.results142 (res_tmp rfl) ⟨rfl, rfl, rfl⟩ (asK [] rfl) rfl rfl (.inl rfl)
theorem w_session_row_find_s (N : Nat) (qg0 : Nat) (qp1 : Option Addr) (qn2 : Nat) (qc3 : Nat) (l0 : List SessD) (a1 : Int) (a2 : Int) (o0 : Int) (hm : m_session_row_find N l0 a1 a2 = some o0) : Spec Tryz.prog 92 [.pointer (some ⟨qg0,0, none⟩), .int .i64 a2] [] [.blk qg0 [.slice qp1 qn2 qc3, .int .i64 a1] 65, .own 31 6 R_SessD (.slice qp1 qn2 qc3) l0] (fun v Φr Hr => v = .int .i64 o0 ∧ Φr = [] ∧ Hr = [.blk qg0 [.slice qp1 qn2 qc3, .int .i64 a1] 65, .own 31 6 R_SessD (.slice qp1 qn2 qc3) l0]) := by
 unfold m_session_row_find at hm
 refine spec_of Tryz.func92 rfl Tryz.ntmps92 rfl (S := [_,_]) rfl (fun C => (wc_seq (wc_region (wB rfl (fun g3 => (wP rfl (wl_nil (we_then (wc_keep [3,0] (S' := [_,_]) rfl (wc_seq (wc_region (wP rfl (wP rfl (wF rfl tF_63_0 (wD 1 0 rfl tS_22 tA_22 rfl ?_)))))))))))))))
 refine wl_makeFunc rfl rfl rfl (freshS_eq rfl) rfl rfl (wl_ownLen 2 rfl (fun hzqn2 _ => ?_))
 subst hzqn2
 obtain ⟨v10, hc10, hm⟩ := bindO_some hm
 refine wl_lend [0] [1,2] [2] rfl rfl rfl (freshS_eq rfl) rfl rfl fn_142 rfl (w_slices_IndexFunc_Session_s N qp1 qc3 l0 g3 a2 _ hc10) (fun F w hφ hh => (ask_cons (own_sli (hh _ (mem_at (k := 0) rfl))) ask_nil)) (fun _ _ _ hR => by obtain ⟨rfl, rfl, rfl⟩ := hR; exact ⟨rfl, (free_cons (blk_free) (fun _ h => free_nil h))⟩) rfl rfl (H' := [_,_]) rfl ?_
 rintro _ _ _ ⟨rfl, rfl, rfl⟩
 refine wP rfl (wl_nil (we_then (wc_keep [4] (S' := [_]) rfl (wc_ret ?_))))
 have hE := (Option.some.inj hm).symm
 replace hE := hE.symm
 subst hE
 refine ret_one (Hr := [_,_]) [1,2] Tryz.results92 (res_tmp rfl) ⟨rfl, rfl, rfl⟩ (asK [] rfl) rfl rfl (.inl rfl)
theorem w_session_Table_at_s (N : Nat) (qg0 : Nat) (qp1 : Option Addr) (qn2 : Nat) (qc3 : Nat) (l0 : List SessD) (a1 : Int) (a2 : Int) (o0 : Int) (o1 : Nat) (hm : m_session_Table_at N l0 a1 a2 = some (o0, o1)) : Spec Tryz.prog 45 [.pointer (some ⟨qg0,0, none⟩), .int .i64 a2] [] [.blk qg0 [.slice qp1 qn2 qc3, .int .i64 a1] 65, .own 31 6 R_SessD (.slice qp1 qn2 qc3) l0] (fun v Φr Hr => v = .tuple #[.int .i64 o0, .int .i64 ((o1 : Nat) : Int)] ∧ Φr = [] ∧ Hr = [.blk qg0 [.slice qp1 qn2 qc3, .int .i64 a1] 65, .own 31 6 R_SessD (.slice qp1 qn2 qc3) l0]) := by
 unfold m_session_Table_at at hm
 refine spec_of Tryz.func45 rfl Tryz.ntmps45 rfl (S := [_,_]) rfl (fun C => (wc_seq (wc_region (wP rfl (wP rfl (wl_nil (we_then (wc_keep [0,1] (S' := [_,_]) rfl (wc_seq (wc_seq (wc_region (wP rfl ?_))))))))))))
 obtain ⟨_, hc8, hm⟩ := bindO_some hm
 try dsimp only at hm
 refine wC [0,1] [] rfl fn_42 rfl (w_session_Table_known_s N qg0 qp1 qn2 qc3 l0 a1 hc8) (asK [] rfl) rfl (H' := []) rfl ?_
 rintro _ _ _ ⟨rfl, rfl, rfl⟩
 refine wP rfl (wl_nil (we_then (wc_keep [9,0,1] (S' := [_,_,_]) rfl ?_)))
 refine wc_cond rfl (fun hb9 => ?_) (fun hb9 => ?_)
 ·
  replace hm := iteT hm hb9
  refine wc_keep [] (S' := []) rfl (wc_seq (wc_region (wP rfl (wP rfl (wl_nil (we_then (wc_ret (we_then_ret ?_))))))))
  have hE := (Option.some.inj hm).symm
  obtain ⟨hE0, hE1⟩ := Prod.mk.inj hE
  clear hE
  replace hE0 := hE0.symm
  subst hE0
  replace hE1 := hE1.symm
  subst hE1
  refine ret_two (Hr := [_,_]) [0,1] Tryz.results45 (res_tmp rfl) (res_tmp rfl) ⟨rfl, rfl, rfl⟩ (asK [] rfl) rfl rfl (.inl rfl)
 ·
  replace hm := iteF hm hb9
  refine wc_keep [0,1] (S' := [_,_]) rfl (wc_skip (we_then (wc_seq (wc_region (wP rfl (wP rfl (wF rfl tF_65_0 (wP rfl ?_))))))))
  obtain ⟨v14, hc14, hm⟩ := bindO_some hm
  refine wC [0,1] [] rfl fn_92 rfl (w_session_row_find_s N qg0 qp1 qn2 qc3 l0 a1 a2 _ hc14) (asK [] rfl) rfl (H' := []) rfl ?_
  rintro _ _ _ ⟨rfl, rfl, rfl⟩
  refine wP rfl (wl_nil (we_then (wc_keep [6] (S' := [_]) rfl (wc_seq (wc_seq (wc_region (wP rfl (wP rfl (wl_nil (we_then (wc_keep [16,6] (S' := [_,_]) rfl ?_)))))))))))
  refine wc_cond rfl (fun hb16 => ?_) (fun hb16 => ?_)
  ·
   replace hm := iteT hm hb16
   refine wc_keep [] (S' := []) rfl (wc_seq (wc_region (wP rfl (wP rfl (wl_nil (we_then (wc_ret (we_then_ret ?_))))))))
   have hE := (Option.some.inj hm).symm
   obtain ⟨hE0, hE1⟩ := Prod.mk.inj hE
   clear hE
   replace hE0 := hE0.symm
   subst hE0
   replace hE1 := hE1.symm
   subst hE1
   refine ret_two (Hr := [_,_]) [0,1] Tryz.results45 (res_tmp rfl) (res_tmp rfl) ⟨rfl, rfl, rfl⟩ (asK [] rfl) rfl rfl (.inl rfl)
  ·
   replace hm := iteF hm hb16
   refine wc_keep [6] (S' := [_]) rfl (wc_skip (we_then (wc_seq (wc_region (wP rfl (wP rfl (wP rfl (wl_nil (we_then (wc_keep [5,4] (S' := [_,_]) rfl (wc_ret ?_)))))))))))
   have hE := (Option.some.inj hm).symm
   obtain ⟨hE0, hE1⟩ := Prod.mk.inj hE
   clear hE
   replace hE0 := hE0.symm
   subst hE0
   replace hE1 := hE1.symm
   subst hE1
   refine ret_two (Hr := [_,_]) [0,1] Tryz.results45 (res_tmp rfl) (res_tmp rfl) ⟨rfl, rfl, rfl⟩ (asK [] rfl) rfl rfl (.inl rfl)
theorem Clone93f_s (p : Option Addr) (c : Nat) (l : List V) (hb : l.length ≤ 4398046511104) : Spec Tryz.prog 93 [.slice p l.length c] [.sli 3 R_V p c l] [] (fun v Φr Hr => ∃ p' c', v = .slice p' l.length c' ∧ Φr = [] ∧ Hr = [.own 149 3 R_V v l]) := by
 refine spec_of Tryz.func93 rfl Tryz.ntmps93 rfl (S := [_]) rfl (fun C => (wc_know (fun F w h => sli_nil (h _ (mem_at (k := 0) rfl))) (fun isnil => (wc_seq (wc_region (wP rfl (wl_nil (we_then (wc_seq (wc_seq (wc_region (wP rfl (wl_eqlNil rfl rfl rfl (freshS_eq rfl) rfl rfl rfl tE_27 (wl_nil (we_then ?_)))))))))))))))
 refine wc_keep [4,2,0] (S' := [_,_,_]) rfl ?_
 refine wc_cond rfl (fun h4 => ?_) (fun h4 => ?_)
 ·
  replace h4 := isNone_true h4
  obtain rfl := isnil h4
  subst h4
  refine wc_rowNil 149 3 R_V (wc_seq (wc_region (wl_pure (S' := [_,_]) rfl rfl rfl rfl rfl (wl_nil (we_then (wc_ret (we_then_ret (ret_one (Hr := [.own 149 3 R_V (.slice none 0 0) []]) [0] Tryz.results93 (res_tmp rfl) ?_ (asK [] rfl) rfl rfl (.inl rfl)))))))))
  exact ⟨none, 0, rfl, rfl, rfl⟩
 ·
  replace h4 := isNone_false h4
  refine wc_skip (we_then (wc_seq (wc_region (wl_buildSlice rfl rfl rfl (freshS_eq rfl) rfl tE_27 tS_149 tZ_149 rfl (zs := []) (by kernel_rfl) rfl (out := []) rfl (fun g5 => (wP rfl (wl_row (sz := 3) (m := 0) R_V [] 0 rfl (fun F w hφ => rfl) rfl (by decide) (H' := [_]) rfl (wl_append 0 0 rfl rfl rfl (freshS_eq rfl) rfl rfl rfl rfl rfl tE_27 tR_149 rfl rfl (by simp; omega) (by simp; omega) (H2 := fun p7 c7 => [.own 149 3 R_V (.slice p7 (l).length c7) l]) (fun _ _ => rfl) (fun p7 c7 => (wl_pure (S' := [_,_,_,_,_]) rfl rfl rfl rfl rfl (wl_nil (we_then (wc_keep [2,4,0] (S' := [_,_,_]) rfl (wc_ret (ret_one (Hr := [.own 149 3 R_V (.slice p7 (l).length c7) l]) [0] Tryz.results93 (res_tmp rfl) ?_ (asK [] rfl) rfl rfl (.inl rfl))))))))))))))))
  exact ⟨_,_, rfl, rfl, rfl⟩
theorem Clone94f_s (p : Option Addr) (c : Nat) (l : List FactD) (hb : l.length ≤ 3518437208883) : Spec Tryz.prog 94 [.slice p l.length c] [.sli 3 R_FactD p c l] [] (fun v Φr Hr => ∃ p' c', v = .slice p' l.length c' ∧ Φr = [] ∧ Hr = [.own 55 3 R_FactD v l]) := by
 refine spec_of Tryz.func94 rfl Tryz.ntmps94 rfl (S := [_]) rfl (fun C => (wc_know (fun F w h => sli_nil (h _ (mem_at (k := 0) rfl))) (fun isnil => (wc_seq (wc_region (wP rfl (wl_nil (we_then (wc_seq (wc_seq (wc_region (wP rfl (wl_eqlNil rfl rfl rfl (freshS_eq rfl) rfl rfl rfl tE_26 (wl_nil (we_then ?_)))))))))))))))
 refine wc_keep [4,2,0] (S' := [_,_,_]) rfl ?_
 refine wc_cond rfl (fun h4 => ?_) (fun h4 => ?_)
 ·
  replace h4 := isNone_true h4
  obtain rfl := isnil h4
  subst h4
  refine wc_rowNil 55 3 R_FactD (wc_seq (wc_region (wl_pure (S' := [_,_]) rfl rfl rfl rfl rfl (wl_nil (we_then (wc_ret (we_then_ret (ret_one (Hr := [.own 55 3 R_FactD (.slice none 0 0) []]) [0] Tryz.results94 (res_tmp rfl) ?_ (asK [] rfl) rfl rfl (.inl rfl)))))))))
  exact ⟨none, 0, rfl, rfl, rfl⟩
 ·
  replace h4 := isNone_false h4
  refine wc_skip (we_then (wc_seq (wc_region (wl_buildSlice rfl rfl rfl (freshS_eq rfl) rfl tE_26 tS_55 tZ_55 rfl (zs := []) (by kernel_rfl) rfl (out := []) rfl (fun g5 => (wP rfl (wl_row (sz := 3) (m := 0) R_FactD [] 0 rfl (fun F w hφ => rfl) rfl (by decide) (H' := [_]) rfl (wl_append 0 0 rfl rfl rfl (freshS_eq rfl) rfl rfl rfl rfl rfl tE_26 tR_55 rfl rfl (by simp; omega) (by simp; omega) (H2 := fun p7 c7 => [.own 55 3 R_FactD (.slice p7 (l).length c7) l]) (fun _ _ => rfl) (fun p7 c7 => (wl_pure (S' := [_,_,_,_,_]) rfl rfl rfl rfl rfl (wl_nil (we_then (wc_keep [2,4,0] (S' := [_,_,_]) rfl (wc_ret (ret_one (Hr := [.own 55 3 R_FactD (.slice p7 (l).length c7) l]) [0] Tryz.results94 (res_tmp rfl) ?_ (asK [] rfl) rfl rfl (.inl rfl))))))))))))))))
  exact ⟨_,_, rfl, rfl, rfl⟩
theorem w_session_own_s (N : Nat) (a0 : Int) (a1 : Int) (qp0 : Option Addr) (qc1 : Nat) (l2 : List FactD) (qp2 : Option Addr) (qc3 : Nat) (l3 : List V) (o2 : List FactD) (hm : m_session_own N a0 a1 l2 l3 = some o2) : Spec Tryz.prog 46 [.agg #[.int .i64 a0, .int .i64 a1, .slice qp0 l2.length qc1, .slice qp2 l3.length qc3]] [.sli 3 R_FactD qp0 qc1 l2, .sli 3 R_V qp2 qc3 l3] [] (fun v Φr Hr => ∃ (o0 : Option Addr) (o1 : Nat) (o3 : Option Addr) (o4 : Nat), v = .agg #[.int .i64 a0, .int .i64 a1, .slice o0 l2.length o1, .slice o3 l3.length o4] ∧ Φr = [] ∧ Hr = [treeF T_FactD 55 3 (.slice o0 l2.length o1) o2, .own 149 3 R_V (.slice o3 l3.length o4) l3]) := by
 unfold m_session_own at hm
 refine spec_of Tryz.func46 rfl Tryz.ntmps46 rfl (S := [_]) rfl (fun C => (wc_seq (wc_region (wB rfl (fun g1 => (wl_alloc rfl rfl rfl (freshS_eq rfl) rfl tZ_29 rfl (fun g2 => (wl_nil (we_then (wc_keep [2,1] (S' := [_,_]) rfl (wc_seq (wc_region (wF rfl tF_29_3 (wD 1 3 rfl tS_27 tA_27 rfl ?_))))))))))))))
 obtain ⟨hg6, hm⟩ := gd_some hm
 refine wC [] [0,1] rfl fn_93 rfl (Clone93f_s qp2 qc3 l3 hg6) (asK [1] rfl) rfl (H' := [_,_]) rfl ?_
 rintro _ _ _ ⟨p6, c6, rfl, rfl, rfl⟩
 refine wF rfl tF_29_3 (wS 2 3 rfl tS_27 (all' := [_,_,_,_]) rfl (H' := [_,_,_]) rfl (wl_nil (we_then (wc_keep [2,1] (S' := [_,_]) rfl (wc_seq (wc_region (wF rfl tF_29_2 (wD 2 2 rfl tS_26 tA_26 rfl ?_))))))))
 obtain ⟨hg10, hm⟩ := gd_some hm
 refine wC [] [0,1,2] rfl fn_94 rfl (Clone94f_s qp0 qc1 l2 hg10) (asK [0] rfl) rfl (H' := [_,_,_]) rfl ?_
 rintro _ _ _ ⟨p10, c10, rfl, rfl, rfl⟩
 refine wF rfl tF_29_2 (wS 3 2 rfl tS_26 (all' := [_,_,_,_]) rfl (H' := [_,_,_,_]) rfl (wl_nil (we_then (wc_keep [2,1] (S' := [_,_]) rfl (wc_seq ?_)))))
 obtain ⟨bj_1, hm, hLj_1⟩ := bindO_some hm
 refine wc_cut (σ := (List FactD) × Nat) (fun (j_1_1_f2_l, j_1_sh2) => bj_1 = (j_1_1_f2_l, j_1_sh2)) (fun (j_1_1_f2_l, j_1_sh2) => [(2, .pointer (some ⟨g2,0, none⟩)), (1, .pointer (some ⟨g1,0, none⟩))]) (fun (j_1_1_f2_l, j_1_sh2) => []) (fun (j_1_1_f2_l, j_1_sh2) => [.blk g2 [.int .i64 0, .int .i64 0, .slice none 0 0, .slice none 0 0] 29, .blk g1 [.int .i64 a0, .int .i64 a1, .slice p10 l2.length c10, .slice p6 l3.length c6] 29, shellF T_FactD R_FactD 55 3 (.slice p10 l2.length c10) j_1_1_f2_l j_1_sh2, .own 149 3 R_V (.slice p6 l3.length c6) l3]) ?_ ?_
 ·
  refine wc_seq (wc_region (wF rfl tF_29_2 (wD 3 2 rfl tS_26 tA_26 rfl (wN rfl tE_26 (wP rfl (wl_nil (we_then (wc_keep [15,14,2,1] (S' := [_,_,_,_]) rfl (wc_block (wc_sh [shellF T_FactD R_FactD 55 3 (.slice p10 l2.length c10) l2 0,_,_,_] (fun _ h => h.toShell T_FactD_cells 0 rfl) (wc_pick [2,3,0,1] rfl (H' := [_,_,_,_]) rfl (wc_loop (σ := Nat × Nat × (List FactD)) (fun (nu1, u1_15, u1_1_f2_l) => iter (m_session_own_L1 N l2) nu1 (u1_15, u1_1_f2_l) = some bj_1) (fun (nu1, u1_15, u1_1_f2_l) => nu1) (fun (nu1, u1_15, u1_1_f2_l) => [(15, .int .i64 ((u1_15 : Nat) : Int)), (14, .int .i64 ((l2.length : Nat) : Int)), (2, .pointer (some ⟨g2,0, none⟩)), (1, .pointer (some ⟨g1,0, none⟩))]) (fun (nu1, u1_15, u1_1_f2_l) => []) (fun (nu1, u1_15, u1_1_f2_l) => [.blk g2 [.int .i64 0, .int .i64 0, .slice none 0 0, .slice none 0 0] 29, .blk g1 [.int .i64 a0, .int .i64 a1, .slice p10 l2.length c10, .slice p6 l3.length c6] 29, shellF T_FactD R_FactD 55 3 (.slice p10 l2.length c10) u1_1_f2_l u1_15, .own 149 3 R_V (.slice p6 l3.length c6) l3]) (N, 0, l2) hm [15,14,2,1] rfl (asK [] rfl) rfl (fun s_ hm => ?_)))))))))))))
  obtain ⟨nu1, u1_15, u1_1_f2_l⟩ := s_
  try dsimp only at hm ⊢
  obtain ⟨mu1, bu1, hnu1, hq, hLu1⟩ := iter_some hm
  clear hm
  subst hnu1
  replace hm := hq
  clear hq
  unfold m_session_own_L1 at hm
  try dsimp only at hm
  refine wc_seq (wc_region (wP rfl (wl_as (d := 16) (v' := .bool (decide (u1_15 < l2.length))) (S' := [_,_,_,_]) rfl rfl (natlt (a := u1_15) (b := l2.length)) (wl_nil (we_then (wc_seq ?_))))))
  refine wc_cond rfl (fun hb16 => ?_) (fun hb16 => ?_)
  ·
   replace hm := iteT hm hb16
   refine wc_keep [15,14,2,1] (S' := [_,_,_,_]) rfl (wc_skip (we_then (wc_seq (wc_block (wc_seq (wc_region (wP rfl (wP rfl (wl_nil (we_then (wc_keep [3,15,14,2,1] (S' := [_,_,_,_,_]) rfl ?_)))))))))))
   obtain ⟨x24, hx24, hm⟩ := bindO_some hm
   obtain ⟨x26, hx26, hm⟩ := bindO_some hm
   obtain ⟨hg27, hm⟩ := gd_some hm
   obtain ⟨x28, hx28, hm⟩ := bindO_some hm
   obtain ⟨x1007, hx1007, hm⟩ := bindO_some hm
   refine wc_draw [0,1,2,3,4,5,7,11] rfl rfl (fun hok => (wx_fieldAddr hok 0 rfl rfl rfl (freshS_eq rfl) rfl rfl rfl tF_29_2 (wx_loadH hok 1 1 2 rfl rfl rfl (freshS_eq rfl) rfl rfl rfl rfl (cs := [_]) rfl tS_26 tA_26 rfl rfl (xP hok 2 rfl (wx_fieldAddr hok 3 rfl rfl rfl (freshS_eq rfl) rfl rfl rfl tF_29_2 (wx_loadH hok 4 1 2 rfl rfl rfl (freshS_eq rfl) rfl rfl rfl rfl (cs := [_]) rfl tS_26 tA_26 rfl rfl (xP hok 5 rfl (xS hok 6 rfl (wl_shellOut 2 rfl (fun zz24 hzz24 => ?_))))))))))
   obtain ⟨rr24, hrr24⟩ := zip_at hzz24 hx24
   refine wl_indexH 3 u1_15 rfl rfl rfl (freshS_eq rfl) rfl rfl rfl rfl rfl (get_lt hrr24) tE_26 tS_55 (fun g24 eg24 => ?_)
   subst eg24
   refine wl_nil (we_x [] [2] rfl rfl (wx_fieldAddr hok 7 rfl rfl rfl (freshS_eq rfl) rfl rfl rfl tF_55_2 (xS hok 8 rfl ?_)))
   obtain ⟨rr26, hrr26⟩ := zip_at hzz24 hx26
   refine wl_fact (.sli 3 R_V rr26.1 rr26.2 x26.args) (fun F w hφ => T_FactD_read _ _ F w ((hφ _ (mem_at (k := 0) rfl)) u1_15 _ hrr26 (Nat.le_refl _)) _ (mem_at (k := 0) rfl)) (wl_loadRow pair_opens 3 u1_15 2 rfl rfl rfl (freshS_eq rfl) rfl rfl rfl hrr26 tS_27 tA_27 (v := fun _ => .slice rr26.1 x26.args.length rr26.2) (fun _ => rfl) (fun _ => rfl) (fun _ _ => (wl_nil (we_x [1] [2,2] rfl rfl (xS hok 9 rfl (wC [] [0,1,2,3,4] rfl fn_93 rfl (Clone93f_s rr26.1 rr26.2 x26.args hg27) (asK [0] rfl) rfl (H' := [_,_,_,_,_]) rfl ?_))))))
   rintro _ _ _ ⟨p27, c27, rfl, rfl, rfl⟩
   refine wl_nil (we_x [0,1] [3,3] rfl rfl (xS hok 10 rfl ?_))
   obtain ⟨rr28, hrr28⟩ := zip_at hzz24 hx28
   refine wl_indexK 4 u1_15 rfl rfl rfl (freshS_eq rfl) rfl rfl rfl rfl rfl (get_lt hrr28) tE_26 tS_55 (wl_nil (we_x [0,1] [] rfl rfl (wx_fieldAddr hok 11 rfl rfl rfl (freshS_eq rfl) rfl rfl rfl tF_55_2 (xS hok 12 rfl ?_))))
   obtain ⟨rr1007, hrr1007⟩ := zip_at hzz24 hx1007
   refine wl_storePart (u := ((⟨x1007.id, x1007.ty, x26.args⟩ : FactD), (p27, c27))) 4 u1_15 2 rfl rfl rfl rfl rfl hrr1007 rfl rfl tS_27 rfl rfl (fun F w hφ ds hd => by cases hd; rfl) rfl (H' := [_,_,_,_,_,_]) rfl (wl_fact (laterF T_FactD R_FactD (zz24.set u1_15 ((⟨x1007.id, x1007.ty, x26.args⟩ : FactD), (p27, c27))) (u1_15 + 1)) (fun F w hφ => later_set (hφ _ (mem_at (k := 1) rfl))) (wl_sh [bagF T_FactD ((zz24.take u1_15) ++ [((⟨x1007.id, x1007.ty, x26.args⟩ : FactD), (p27, c27))]) none, _,_,_,_] (fun _ h => Holds.bagPush (T := T_FactD) (x := (⟨x1007.id, x1007.ty, x26.args⟩ : FactD)) (r := (p27, c27)) (zs := zz24.take u1_15) (H := [_,_,_,_,_]) h 0 rfl) (wl_hAs 0 (φ' := bagF T_FactD ((zz24.set u1_15 ((⟨x1007.id, x1007.ty, x26.args⟩ : FactD), (p27, c27))).take (u1_15 + 1)) none) rfl (by rw [take_setZ hrr1007]) (H' := [_,_,_,_,_]) rfl ?_)))
   have hzs12 : List.map (fun x : FactD × (Option Addr × Nat) => x.1) (zz24.set u1_15 ((⟨x1007.id, x1007.ty, x26.args⟩ : FactD), (p27, c27))) = u1_1_f2_l.set u1_15 (⟨x1007.id, x1007.ty, x26.args⟩ : FactD) := pair_set hzz24
   refine wl_nil (we_x [1,2] [] rfl rfl (wx_done hok rfl (we_block_normal (we_then (wc_keep [15,14,2,1] (S' := [_,_,_,_]) rfl (wc_region (wP rfl ?_)))))))
   obtain ⟨hg30, hm⟩ := gd_some hm
   refine wl_as (d := 30) (v' := .int .i64 ((u1_15 + 1 : Nat) : Int)) (S' := [_,_,_,_]) rfl rfl (nat_add (a := u1_15) (b := 1) hg30) (wl_pure (S' := [_,_,_,_]) rfl rfl rfl rfl rfl (wl_nil ?_))
   have hE := (Option.some.inj hm).symm
   replace hE := link_inl hLu1 hE
   refine we_sh [_,_, shellF T_FactD R_FactD 55 3 (.slice (some ⟨g24,0, none⟩) l2.length c10) (u1_1_f2_l.set u1_15 (⟨x1007.id, x1007.ty, x26.args⟩ : FactD)) (u1_15 + 1), _] (fun _ h => h.shellIn 3 0 0 rfl rfl rfl rfl hzs12) ?_
   refine we_roundK (_, u1_15 + 1, (u1_1_f2_l.set u1_15 (⟨x1007.id, x1007.ty, x26.args⟩ : FactD))) (Nat.lt_succ_self _) hE [15,14,2,1] rfl (asK [] rfl) rfl
  ·
   replace hm := iteF hm hb16
   refine wc_keep [2,1] (S' := [_,_]) rfl (wc_exit (we_then_exit (we_then_exit (we_block_hit ?_))))
   have hE := (Option.some.inj hm).symm
   replace hE := link_inr hLu1 hE
   refine we_join (u1_1_f2_l, u1_15) hE [2,1] rfl (asK [] rfl) rfl
 ·
  rintro ⟨j_1_1_f2_l, j_1_sh2⟩ hE
  try dsimp only
  have hm := hLj_1
  rw [hE] at hm
  try dsimp only at hm
  refine wc_seq (wc_region (wl_loadH 1 0 rfl rfl rfl (freshS_eq rfl) rfl rfl rfl (cs := [_,_,_,_]) rfl tS_29 tA_29 rfl rfl (wS 0 0 rfl tS_29 (all' := [_,_,_,_]) rfl (H' := [_,_,_,_]) rfl (wl_nil (we_then (wc_keep [2] (S' := [_]) rfl (wc_ret ?_)))))))
  obtain ⟨hgs13, hm⟩ := gd_some hm
  refine we_sh [_,_, treeF T_FactD 55 3 (.slice p10 l2.length c10) j_1_1_f2_l, _] (fun _ h => h.shellDone 2 rfl hgs13) ?_
  have hE := (Option.some.inj hm).symm
  replace hE := hE.symm
  subst hE
  refine ret_one (Hr := [_,_]) [2,3] Tryz.results46 (res_cell 0 rfl rfl tS_29 tA_29 rfl rfl) ⟨p10, c10, p6, c6, rfl, rfl, rfl⟩ (asK [] rfl) rfl rfl (.inl rfl)
theorem w_session_Table_Ask_s (N : Nat) (qg0 : Nat) (qp1 : Option Addr) (qn2 : Nat) (qc3 : Nat) (l0 : List SessD) (a1 : Int) (a2 : Int) (a3 : Int) (o0 : Int) (o1 : Int) (o4 : List FactD) (o8 : List V) (o10 : Bool) (o11 : Nat) (hm : m_session_Table_Ask N l0 a1 a2 a3 = some (o0, o1, o4, o8, o10, o11)) : Spec Tryz.prog 20 [.pointer (some ⟨qg0,0, none⟩), .int .i64 a2, .int .i64 a3] [] [.blk qg0 [.slice qp1 qn2 qc3, .int .i64 a1] 65, .own 31 6 R_SessD (.slice qp1 qn2 qc3) l0] (fun v Φr Hr => ∃ (o2 : Option Addr) (o3 : Nat) (o5 : Nat) (o6 : Option Addr) (o7 : Nat) (o9 : Nat), v = .tuple #[.agg #[.int .i64 o0, .int .i64 o1, .slice o2 o5 o3, .slice o6 o9 o7], .bool o10, .int .i64 ((o11 : Nat) : Int)] ∧ Φr = [] ∧ Hr = [treeF T_FactD 55 3 (.slice o2 o5 o3) o4, .own 149 3 R_V (.slice o6 o9 o7) o8, .blk qg0 [.slice qp1 qn2 qc3, .int .i64 a1] 65, .own 31 6 R_SessD (.slice qp1 qn2 qc3) l0]) := by
 unfold m_session_Table_Ask at hm
 refine spec_of Tryz.func20 rfl Tryz.ntmps20 rfl (S := [_,_,_]) rfl (fun C => (wc_seq (wc_region (wl_alloc rfl rfl rfl (freshS_eq rfl) rfl tZ_29 rfl (fun g6 => (wP rfl (wP rfl (wl_nil (we_then (wc_keep [6,0,1,2] (S' := [_,_,_,_]) rfl (wc_seq (wc_region (wP rfl (wP rfl ?_))))))))))))))
 obtain ⟨⟨v14_0, v14_1⟩, hc14, hm⟩ := bindO_some hm
 try dsimp only at hm
 refine wC [1,2] [0] rfl fn_45 rfl (w_session_Table_at_s N qg0 qp1 qn2 qc3 l0 a1 a2 _ _ hc14) (asK [] rfl) rfl (H' := [_]) rfl ?_
 rintro _ _ _ ⟨rfl, rfl, rfl⟩
 refine wP rfl (wP rfl (wP rfl (wP rfl (wP rfl (wl_nil (we_then (wc_keep [8,9,6,0,2] (S' := [_,_,_,_,_]) rfl (wc_seq (wc_seq (wc_region (wP rfl (wP rfl (wl_as (d := 18) (v' := .bool (v14_1 != 0)) (S' := [_,_,_,_,_,_]) rfl rfl (natne (a := v14_1) (b := 0)) ?_)))))))))))))
 refine wl_nil (we_then (wc_keep [18,8,9,6,0,2] (S' := [_,_,_,_,_,_]) rfl ?_))
 refine wc_cond rfl (fun hb18 => ?_) (fun hb18 => ?_)
 ·
  replace hm := iteT hm hb18
  refine wc_keep [8,6] (S' := [_,_]) rfl (wc_seq (wc_region (wl_loadH 2 0 rfl rfl rfl (freshS_eq rfl) rfl rfl rfl (cs := [_,_,_,_]) rfl tS_29 tA_29 rfl rfl (wP rfl (wS 2 0 rfl tS_29 (all' := [_,_,_,_]) rfl (H' := [_,_,_]) rfl (wP rfl (wl_pure (S' := [_,_,_,_]) rfl rfl rfl rfl rfl (wl_nil (we_then (wc_keep [8,7,6] (S' := [_,_,_]) rfl (wc_ret (we_then_ret ?_))))))))))))
  have hE := (Option.some.inj hm).symm
  obtain ⟨hE0, hF1⟩ := Prod.mk.inj hE
  obtain ⟨hE1, hF2⟩ := Prod.mk.inj hF1
  obtain ⟨hE2, hF3⟩ := Prod.mk.inj hF2
  obtain ⟨hE3, hF4⟩ := Prod.mk.inj hF3
  obtain ⟨hE4, hE5⟩ := Prod.mk.inj hF4
  clear hE hF1 hF2 hF3 hF4
  replace hE0 := hE0.symm
  subst hE0
  replace hE1 := hE1.symm
  subst hE1
  replace hE2 := hE2.symm
  subst hE2
  replace hE3 := hE3.symm
  subst hE3
  replace hE4 := hE4.symm
  subst hE4
  replace hE5 := hE5.symm
  subst hE5
  refine we_sh [treeF T_FactD 55 3 (.slice none 0 0) [],_,_,_] (fun _ h => h.treeNil T_FactD 55 3) (we_rowNil 149 3 R_V ?_)
  refine ret_three (Hr := [_,_,_,_]) [1,0,2,3] Tryz.results20 (res_cell 4 rfl rfl tS_29 tA_29 rfl rfl) (res_tmp rfl) (res_tmp rfl) ⟨none, 0,0, none, 0,0, rfl, rfl, rfl⟩ (asK [] rfl) rfl rfl (.inl rfl)
 ·
  replace hm := iteF hm hb18
  refine wc_keep [9,6,0,2] (S' := [_,_,_,_]) rfl (wc_skip (we_then (wc_seq (wc_seq (wc_region (wP rfl (wP rfl (wF rfl tF_65_0 (wF rfl tF_63_0 (wD 0 0 rfl tS_22 tA_22 rfl (wP rfl ?_)))))))))))
  obtain ⟨hn27, hm⟩ := gd_some hm
  obtain ⟨x27, hx27, hm⟩ := bindO_some hm
  refine wl_indexH 1 v14_0.toNat rfl rfl rfl (freshS_eq rfl) rfl rfl rfl rfl (toNat_eq hn27) (get_lt hx27) tE_22 tS_31 (fun g27 eg27 => ?_)
  subst eg27
  refine wl_loadRow R_SessD_opens 1 v14_0.toNat 0 rfl rfl rfl (freshS_eq rfl) rfl rfl rfl hx27 tS_31 tA_31 (v := fun r28 => .agg #[.int .i64 (x27.id), .int .i64 (x27.seq), .int .i64 (x27.r.err), .int .i64 (x27.r.num), .slice r28.1.1 x27.r.facts.length r28.1.2, .slice r28.2.1 x27.r.said.length r28.2.2]) (fun _ => rfl) (fun _ => rfl) (fun r28 _ => (wl_alloc rfl rfl rfl (freshS_eq rfl) rfl tZ_31 rfl (fun g10 => (wS 0 0 rfl tS_31 (all' := [_,_,_,_,_,_]) rfl (H' := [_,_,_,_]) rfl (wl_nil (we_then (wc_keep [10,6,2] (S' := [_,_,_]) rfl (wc_block (wc_seq ?_)))))))))
  obtain ⟨bj_1, hm, hLj_1⟩ := bindO_some hm
  refine wc_cut (σ := Bool) (fun j_1_29 => bj_1 = j_1_29) (fun j_1_29 => [(10, .pointer (some ⟨g10,0, none⟩)), (6, .pointer (some ⟨g6,0, none⟩)), (2, .int .i64 a3), (29, .bool j_1_29)]) (fun j_1_29 => [.sli 3 R_FactD r28.1.1 r28.1.2 x27.r.facts, .sli 3 R_V r28.2.1 r28.2.2 x27.r.said]) (fun j_1_29 => [.blk g10 [.int .i64 (x27.id), .int .i64 (x27.seq), .int .i64 (x27.r.err), .int .i64 (x27.r.num), .slice r28.1.1 x27.r.facts.length r28.1.2, .slice r28.2.1 x27.r.said.length r28.2.2] 31, .blk g6 [.int .i64 0, .int .i64 0, .slice none 0 0, .slice none 0 0] 29, .blk qg0 [.slice (some ⟨g27,0, none⟩) qn2 qc3, .int .i64 a1] 65, .own 31 6 R_SessD (.slice (some ⟨g27,0, none⟩) qn2 qc3) l0]) ?_ ?_
  ·
   refine wc_region (wP rfl (wP rfl (wP rfl ?_)))
   refine wl_split (d := 32) (S' := [_,_,_,_,_]) rfl rfl (fun hs32 => ?_) (fun hs32 => ?_)
   ·
    replace hm := iteT hm hs32
    refine wO rfl (wO rfl (wO rfl (wO rfl (wP rfl (wP rfl (wl_nil ?_))))))
    have hE := (Option.some.inj hm).symm
    refine we_pick [0,3,1,2] rfl (H' := [_,_,_,_]) rfl ?_
    refine we_join true hE [10,6,2,29] rfl (asK [0,1] rfl) rfl
   ·
    replace hm := iteF hm hs32
    refine wP rfl (wF rfl tF_31_1 (wD 0 1 rfl tS_3 tA_3 rfl (wP rfl (wP rfl (wP rfl (wl_nil ?_))))))
    have hE := (Option.some.inj hm).symm
    refine we_pick [0,3,1,2] rfl (H' := [_,_,_,_]) rfl ?_
    refine we_join (decide (a3 < x27.seq)) hE [10,6,2,29] rfl (asK [0,1] rfl) rfl
  ·
   rintro j_1_29 hE
   try dsimp only
   have hm := hLj_1
   rw [hE] at hm
   refine wc_cond rfl (fun hb29 => ?_) (fun hb29 => ?_)
   ·
    replace hm := iteT hm hb29
    refine wc_keep [6] (S' := [_]) rfl (wc_seq (wc_region (wl_loadH 1 0 rfl rfl rfl (freshS_eq rfl) rfl rfl rfl (cs := [_,_,_,_]) rfl tS_29 tA_29 rfl rfl (wS 1 0 rfl tS_29 (all' := [_,_,_,_]) rfl (H' := [_,_,_,_]) rfl (wP rfl (wP rfl (wl_nil (we_then (wc_keep [8,7,6] (S' := [_,_,_]) rfl (wc_ret (we_block_ret (we_then_ret ?_))))))))))))
    have hE := (Option.some.inj hm).symm
    obtain ⟨hE0, hF1⟩ := Prod.mk.inj hE
    obtain ⟨hE1, hF2⟩ := Prod.mk.inj hF1
    obtain ⟨hE2, hF3⟩ := Prod.mk.inj hF2
    obtain ⟨hE3, hF4⟩ := Prod.mk.inj hF3
    obtain ⟨hE4, hE5⟩ := Prod.mk.inj hF4
    clear hE hF1 hF2 hF3 hF4
    replace hE0 := hE0.symm
    subst hE0
    replace hE1 := hE1.symm
    subst hE1
    replace hE2 := hE2.symm
    subst hE2
    replace hE3 := hE3.symm
    subst hE3
    replace hE4 := hE4.symm
    subst hE4
    replace hE5 := hE5.symm
    subst hE5
    refine we_sh [treeF T_FactD 55 3 (.slice none 0 0) [],_,_,_,_] (fun _ h => h.treeNil T_FactD 55 3) (we_rowNil 149 3 R_V ?_)
    refine ret_three (Hr := [_,_,_,_]) [1,0,4,5] Tryz.results20 (res_cell 3 rfl rfl tS_29 tA_29 rfl rfl) (res_tmp rfl) (res_tmp rfl) ⟨none, 0,0, none, 0,0, rfl, rfl, rfl⟩ (asK [] rfl) rfl rfl (.inl rfl)
   ·
    replace hm := iteF hm hb29
    refine wc_keep [10,6,2] (S' := [_,_,_]) rfl (wc_seq (wc_region (wP rfl (wF rfl tF_31_1 (wD 0 1 rfl tS_3 tA_3 rfl (wP rfl (wP rfl (wl_nil (we_then (wc_keep [39,10,6] (S' := [_,_,_]) rfl ?_))))))))))
    refine wc_cond rfl (fun hb39 => ?_) (fun hb39 => ?_)
    ·
     replace hm := iteT hm hb39
     refine wc_keep [10,6] (S' := [_,_]) rfl (wc_seq (wc_region (wF rfl tF_31_2 (wl_loadH 0 2 rfl rfl rfl (freshS_eq rfl) rfl rfl rfl (cs := [_,_,_,_]) rfl tS_29 tA_29 rfl rfl ?_))))
     obtain ⟨v46, hc46, hm⟩ := bindO_some hm
     refine wC [] [0,1,2,3] rfl fn_46 rfl (w_session_own_s N x27.r.err x27.r.num r28.1.1 r28.1.2 x27.r.facts r28.2.1 r28.2.2 x27.r.said _ hc46) (asK [0,1] rfl) rfl (H' := [_,_,_,_]) rfl ?_
     rintro _ _ _ ⟨p46_0, c46_1, p46_2, c46_3, rfl, rfl, rfl⟩
     refine wS 3 0 rfl tS_29 (all' := [_,_,_,_]) rfl (H' := [_,_,_,_,_,_]) rfl (wP rfl (wP rfl (wl_nil (we_then (wc_keep [8,7,6] (S' := [_,_,_]) rfl (wc_ret (we_block_ret (we_then_ret ?_))))))))
     have hE := (Option.some.inj hm).symm
     obtain ⟨hE0, hF1⟩ := Prod.mk.inj hE
     obtain ⟨hE1, hF2⟩ := Prod.mk.inj hF1
     obtain ⟨hE2, hF3⟩ := Prod.mk.inj hF2
     obtain ⟨hE3, hF4⟩ := Prod.mk.inj hF3
     obtain ⟨hE4, hE5⟩ := Prod.mk.inj hF4
     clear hE hF1 hF2 hF3 hF4
     replace hE0 := hE0.symm
     subst hE0
     replace hE1 := hE1.symm
     subst hE1
     replace hE2 := hE2.symm
     subst hE2
     replace hE3 := hE3.symm
     subst hE3
     replace hE4 := hE4.symm
     subst hE4
     replace hE5 := hE5.symm
     subst hE5
     refine ret_three (Hr := [_,_,_,_]) [0,1,4,5] Tryz.results20 (res_cell 3 rfl rfl tS_29 tA_29 rfl rfl) (res_tmp rfl) (res_tmp rfl) ⟨p46_0, c46_1, x27.r.facts.length, p46_2, c46_3, x27.r.said.length, rfl, rfl, rfl⟩ (asK [] rfl) rfl rfl (.inl rfl)
    ·
     replace hm := iteF hm hb39
     refine wc_keep [6] (S' := [_]) rfl (wc_skip (we_block_normal (we_then (wc_seq (wc_region (wl_loadH 1 0 rfl rfl rfl (freshS_eq rfl) rfl rfl rfl (cs := [_,_,_,_]) rfl tS_29 tA_29 rfl rfl (wS 1 0 rfl tS_29 (all' := [_,_,_,_]) rfl (H' := [_,_,_,_]) rfl (wP rfl (wP rfl (wl_nil (we_then (wc_keep [8,7,6] (S' := [_,_,_]) rfl (wc_ret ?_)))))))))))))
     have hE := (Option.some.inj hm).symm
     obtain ⟨hE0, hF1⟩ := Prod.mk.inj hE
     obtain ⟨hE1, hF2⟩ := Prod.mk.inj hF1
     obtain ⟨hE2, hF3⟩ := Prod.mk.inj hF2
     obtain ⟨hE3, hF4⟩ := Prod.mk.inj hF3
     obtain ⟨hE4, hE5⟩ := Prod.mk.inj hF4
     clear hE hF1 hF2 hF3 hF4
     replace hE0 := hE0.symm
     subst hE0
     replace hE1 := hE1.symm
     subst hE1
     replace hE2 := hE2.symm
     subst hE2
     replace hE3 := hE3.symm
     subst hE3
     replace hE4 := hE4.symm
     subst hE4
     replace hE5 := hE5.symm
     subst hE5
     refine we_sh [treeF T_FactD 55 3 (.slice none 0 0) [],_,_,_,_] (fun _ h => h.treeNil T_FactD 55 3) (we_rowNil 149 3 R_V ?_)
     refine ret_three (Hr := [_,_,_,_]) [1,0,4,5] Tryz.results20 (res_cell 3 rfl rfl tS_29 tA_29 rfl rfl) (res_tmp rfl) (res_tmp rfl) ⟨none, 0,0, none, 0,0, rfl, rfl, rfl⟩ (asK [] rfl) rfl rfl (.inl rfl)
theorem w_session_Table_Done_s (N : Nat) (qg0 : Nat) (qp1 : Option Addr) (qn2 : Nat) (qc3 : Nat) (l0 : List SessD) (a1 : Int) (a2 : Int) (a3 : Int) (a4 : Int) (a5 : Int) (qp4 : Option Addr) (qc5 : Nat) (l6 : List FactD) (qp6 : Option Addr) (qc7 : Nat) (l7 : List V) (o0 : Nat) (o1 : List SessD) (hm : m_session_Table_Done N l0 a1 a2 a3 a4 a5 l6 l7 = some (o0, o1)) : Spec Tryz.prog 21 [.pointer (some ⟨qg0,0, none⟩), .int .i64 a2, .int .i64 a3, .agg #[.int .i64 a4, .int .i64 a5, .slice qp4 l6.length qc5, .slice qp6 l7.length qc7]] [.sli 3 R_FactD qp4 qc5 l6, .sli 3 R_V qp6 qc7 l7] [.blk qg0 [.slice qp1 qn2 qc3, .int .i64 a1] 65, .own 31 6 R_SessD (.slice qp1 qn2 qc3) l0] (fun v Φr Hr => v = .int .i64 ((o0 : Nat) : Int) ∧ Φr = [] ∧ Hr = [.blk qg0 [.slice qp1 qn2 qc3, .int .i64 a1] 65, .own 31 6 R_SessD (.slice qp1 qn2 qc3) o1]) := by
 unfold m_session_Table_Done at hm
 refine spec_of Tryz.func21 rfl Tryz.ntmps21 rfl (S := [_,_,_,_]) rfl (fun C => (wc_seq (wc_region (wB rfl (fun g7 => (wP rfl (wl_nil (we_then (wc_keep [7,0,1,2] (S' := [_,_,_,_]) rfl (wc_seq (wc_region (wP rfl (wP rfl ?_)))))))))))))
 obtain ⟨⟨v14_0, v14_1⟩, hc14, hm⟩ := bindO_some hm
 try dsimp only at hm
 refine wC [1,2] [0] rfl fn_45 rfl (w_session_Table_at_s N qg0 qp1 qn2 qc3 l0 a1 a2 _ _ hc14) (asK [] rfl) rfl (H' := [_]) rfl ?_
 rintro _ _ _ ⟨rfl, rfl, rfl⟩
 refine wP rfl (wP rfl (wP rfl (wP rfl (wP rfl (wl_nil (we_then (wc_keep [10,9,7,0,2] (S' := [_,_,_,_,_]) rfl (wc_seq (wc_block (wc_seq (wc_region (wP rfl (wP rfl ?_)))))))))))))
 refine wl_as (d := 19) (v' := .bool (v14_1 != 0)) (S' := [_,_,_,_,_,_]) rfl rfl (natne (a := v14_1) (b := 0)) (wP rfl (wl_nil (we_then (wc_keep [17,10,9,7,0,2] (S' := [_,_,_,_,_,_]) rfl ?_))))
 refine wc_cond rfl (fun hb17 => ?_) (fun hb17 => ?_)
 ·
  replace hm := iteT hm hb17
  refine wc_keep [10] (S' := [_]) rfl (wc_seq (wc_region (wP rfl (wP rfl (wl_nil (we_then (wc_keep [8] (S' := [_]) rfl (wc_ret (we_block_ret (we_then_ret ?_))))))))))
  have hE := (Option.some.inj hm).symm
  obtain ⟨hE0, hE1⟩ := Prod.mk.inj hE
  clear hE
  replace hE0 := hE0.symm
  subst hE0
  replace hE1 := hE1.symm
  subst hE1
  refine ret_one (Hr := [_,_]) [0,1] Tryz.results21 (res_tmp rfl) ⟨rfl, rfl, rfl⟩ (asK [] rfl) rfl rfl (.inl rfl)
 ·
  replace hm := iteF hm hb17
  refine wc_keep [9,7,0,2] (S' := [_,_,_,_]) rfl (wc_seq ?_)
  obtain ⟨bj_1, hm, hLj_1⟩ := bindO_some hm
  refine wc_cut (σ := Bool) (fun j_1_21 => bj_1 = j_1_21) (fun j_1_21 => [(9, .int .i64 v14_0), (7, .pointer (some ⟨g7,0, none⟩)), (0, .pointer (some ⟨qg0,0, none⟩)), (2, .int .i64 a3), (21, .bool j_1_21)]) (fun j_1_21 => [.sli 3 R_FactD qp4 qc5 l6, .sli 3 R_V qp6 qc7 l7]) (fun j_1_21 => [.blk g7 [.int .i64 a4, .int .i64 a5, .slice qp4 l6.length qc5, .slice qp6 l7.length qc7] 29, .blk qg0 [.slice qp1 qn2 qc3, .int .i64 a1] 65, .own 31 6 R_SessD (.slice qp1 qn2 qc3) l0]) ?_ ?_
  ·
   refine wc_region (wP rfl (wP rfl (wP rfl ?_)))
   refine wl_split (d := 24) (S' := [_,_,_,_,_,_]) rfl rfl (fun hs24 => ?_) (fun hs24 => ?_)
   ·
    replace hm := iteT hm hs24
    refine wO rfl (wO rfl (wO rfl (wO rfl (wO rfl (wO rfl (wO rfl (wO rfl (wO rfl (wO rfl (wO rfl (wP rfl (wP rfl (wl_nil ?_)))))))))))))
    have hE := (Option.some.inj hm).symm
    refine we_pick [2,0,1] rfl (H' := [_,_,_]) rfl ?_
    refine we_join true hE [9,7,0,2,21] rfl (asK [0,1] rfl) rfl
   ·
    replace hm := iteF hm hs24
    refine wP rfl (wP rfl (wP rfl (wF rfl tF_65_0 (wF rfl tF_63_0 (wD 0 0 rfl tS_22 tA_22 rfl (wP rfl ?_))))))
    obtain ⟨hn32, hm⟩ := gd_some hm
    obtain ⟨x32, hx32, hm⟩ := bindO_some hm
    refine wl_indexH 1 v14_0.toNat rfl rfl rfl (freshS_eq rfl) rfl rfl rfl rfl (toNat_eq hn32) (get_lt hx32) tE_22 tS_31 (fun g32 eg32 => ?_)
    subst eg32
    refine wF rfl tF_31_1 (wl_loadRow R_SessD_opens 1 v14_0.toNat 1 rfl rfl rfl (freshS_eq rfl) rfl rfl rfl hx32 tS_3 tA_3 (v := fun r34 => .int .i64 (x32.seq)) (fun _ => rfl) (fun _ => rfl) (fun r34 _ => (wP rfl (wP rfl (wP rfl (wl_nil ?_))))))
    have hE := (Option.some.inj hm).symm
    refine we_pick [2,0,1] rfl (H' := [_,_,_]) rfl ?_
    refine we_join (decide (a3 ≤ x32.seq)) hE [9,7,0,2,21] rfl (asK [2,3] rfl) rfl
  ·
   rintro j_1_21 hE
   try dsimp only
   have hm := hLj_1
   rw [hE] at hm
   refine wc_cond rfl (fun hb21 => ?_) (fun hb21 => ?_)
   ·
    replace hm := iteT hm hb21
    refine wc_keep [] (S' := []) rfl (wc_seq (wc_region (wP rfl (wl_nil (we_then (wc_ret (we_block_ret (we_then_ret ?_))))))))
    have hE := (Option.some.inj hm).symm
    obtain ⟨hE0, hE1⟩ := Prod.mk.inj hE
    clear hE
    replace hE0 := hE0.symm
    subst hE0
    replace hE1 := hE1.symm
    subst hE1
    refine ret_one (Hr := [_,_]) [1,2] Tryz.results21 (res_tmp rfl) ⟨rfl, rfl, rfl⟩ (asK [] rfl) rfl rfl (.inl rfl)
   ·
    replace hm := iteF hm hb21
    refine wc_keep [9,7,0,2] (S' := [_,_,_,_]) rfl (wc_skip (we_block_normal (we_then (wc_seq ?_))))
    obtain ⟨v51, hc51, hm⟩ := bindO_some hm
    obtain ⟨hn52, hm⟩ := gd_some hm
    obtain ⟨x52, hx52, hm⟩ := bindO_some hm
    obtain ⟨hn54, hm⟩ := gd_some hm
    obtain ⟨x54, hx54, hm⟩ := bindO_some hm
    refine wc_draw [0,1,2,3,4,5,6,7,8,9,10,11,12,13,15,16,18,19] rfl rfl (fun hok => (xP hok 0 rfl (xP hok 1 rfl (wx_fieldAddr hok 2 rfl rfl rfl (freshS_eq rfl) rfl rfl rfl tF_65_0 (wx_fieldAddr hok 3 rfl rfl rfl (freshS_eq rfl) rfl rfl rfl tF_63_0 (wx_loadH hok 4 1 0 rfl rfl rfl (freshS_eq rfl) rfl rfl rfl rfl (cs := [_]) rfl tS_22 tA_22 rfl rfl (xP hok 5 rfl (xP hok 6 rfl (xP hok 7 rfl (wx_fieldAddr hok 8 rfl rfl rfl (freshS_eq rfl) rfl rfl rfl tF_65_0 (wx_fieldAddr hok 9 rfl rfl rfl (freshS_eq rfl) rfl rfl rfl tF_63_0 (wx_loadH hok 10 1 0 rfl rfl rfl (freshS_eq rfl) rfl rfl rfl rfl (cs := [_]) rfl tS_22 tA_22 rfl rfl (xP hok 11 rfl (xP hok 12 rfl ?_))))))))))))))
    refine wx_loadH hok 13 0 0 rfl rfl rfl (freshS_eq rfl) rfl rfl rfl rfl (cs := [_,_,_,_]) rfl tS_29 tA_29 rfl rfl (xS hok 14 rfl (wC [] [0,1,2] rfl fn_46 rfl (w_session_own_s N a4 a5 qp4 qc5 l6 qp6 qc7 l7 _ hc51) (asK [0,1] rfl) rfl (H' := [_,_,_]) rfl ?_))
    rintro _ _ _ ⟨p51_0, c51_1, p51_2, c51_3, rfl, rfl, rfl⟩
    refine wl_nil (we_x [0,1] [3,3] rfl rfl (wx_indexH hok 15 4 v14_0.toNat rfl rfl rfl (freshS_eq rfl) rfl rfl rfl rfl rfl (toNat_eq hn52) (get_lt hx52) tE_22 tS_31 (fun g52 eg52 => ?_)))
    subst eg52
    refine wx_fieldAddr hok 16 rfl rfl rfl (freshS_eq rfl) rfl rfl rfl tF_31_1 (xS hok 17 rfl (wl_storePart (u := (⟨x52.id, a3, x52.r⟩ : SessD)) 4 v14_0.toNat 1 rfl rfl rfl rfl rfl hx52 rfl rfl tS_3 rfl rfl (fun F w hφ ds hd => by obtain ⟨rx52, rfl, hf⟩ := hd; exact ⟨((rx52.1.1, rx52.1.2), (rx52.2.1, rx52.2.2)), rfl, (ask_cons (hf _ (mem_at (k := 0) rfl)) (ask_cons (hf _ (mem_at (k := 1) rfl)) ask_nil))⟩) rfl (H' := [_,_,_,_,_]) rfl (wl_nil (we_x [0,1] [2] rfl rfl (wx_indexK hok 18 4 v14_0.toNat rfl rfl rfl (freshS_eq rfl) rfl rfl rfl rfl rfl (toNat_eq hn54) (get_lt hx54) tE_22 tS_31 (wx_fieldAddr hok 19 rfl rfl rfl (freshS_eq rfl) rfl rfl rfl tF_31_2 (xS hok 20 rfl (wl_treeLen 0 rfl (fun hzt4 _ => (wl_at 4 (v' := .agg #[.int .i64 a4, .int .i64 a5, .slice p51_0 v51.length c51_1, .slice p51_2 l7.length c51_3]) rfl (by rw [hzt4]) (wl_hAs 0 (φ' := treeF T_FactD 55 3 (.slice p51_0 v51.length c51_1) v51) rfl (by rw [hzt4]) (H' := [_,_,_,_,_]) rfl (wl_freeze 0 rfl (H' := [_,_,_,_]) rfl (wl_fact (.sli 3 R_FactD p51_0 c51_1 v51) (fun F w hφ => tree_sli T_FactD_lend (hφ _ (mem_at (k := 0) rfl)) (fun _ h => h) (fun _ h => h)) (wl_freeze 0 rfl (H' := [_,_,_]) rfl ?_))))))))))))))
    refine wl_fact (.sli 3 R_V p51_2 c51_3 l7) (fun F w hφ => own_sli (hφ _ (mem_at (k := 0) rfl))) (wl_storePart (u := (⟨x54.id, x54.seq, (⟨a4, a5, v51, l7⟩ : ReplyD)⟩ : SessD)) 2 v14_0.toNat 2 rfl rfl rfl rfl rfl hx54 rfl rfl tS_29 rfl rfl (fun F w hφ ds hd => by obtain ⟨rx54, rfl, hf⟩ := hd; exact ⟨((p51_0, c51_1), (p51_2, c51_3)), rfl, (ask_cons (hφ _ (mem_at (k := 2) rfl)) (ask_cons (hφ _ (mem_at (k := 0) rfl)) ask_nil))⟩) rfl (H' := [_,_,_]) rfl (wl_nil (we_x [4,5] [] rfl rfl (wx_done hok rfl (we_then (wc_keep [] (S' := []) rfl (wc_seq (wc_region (wP rfl (wl_nil (we_then (wc_ret ?_))))))))))))
    have hE := (Option.some.inj hm).symm
    obtain ⟨hE0, hE1⟩ := Prod.mk.inj hE
    clear hE
    replace hE0 := hE0.symm
    subst hE0
    replace hE1 := hE1.symm
    subst hE1
    refine ret_one (Hr := [_,_]) [1,2] Tryz.results21 (res_tmp rfl) ⟨rfl, rfl, rfl⟩ (asK [] rfl) rfl rfl (.inl rfl)
theorem Delete47_n (p : Option Addr) (c k : Nat) (L : List SessD) (hk : k < L.length) : Spec Tryz.prog 47 [.slice p L.length c, .int .i64 ((k : Nat) : Int), .int .i64 ((k + 1 : Nat) : Int)] [] [.own 31 6 R_SessD (.slice p L.length c) L] (fun v Φr Hr => ∃ p' c', v = .slice p' (L.take k ++ L.drop (k + 1)).length c' ∧ Φr = [] ∧ Hr = [.own 31 6 R_SessD v (L.take k ++ L.drop (k + 1))]) := by
 refine spec_of Tryz.func47 rfl Tryz.ntmps47 rfl (S := [_,_,_]) rfl (fun C => (wc_ownSome 0 rfl (by omega) (fun g0 e0 hc1 hc2 => ?_)))
 subst e0
 refine wc_seq (wc_region (wP rfl (wl_nil (we_then (wc_seq (wc_region (wP rfl (wP rfl (wP rfl (wP rfl (wN rfl tE_22 (wl_slice3 rfl rfl rfl (freshS_eq rfl) rfl rfl rfl rfl rfl rfl rfl rfl tE_22 tS_31 (by omega) (by omega) (by omega) (fun a13 => (wl_nil ?_))))))))))))))
 refine we_then (wc_keep [6,0,1,2] (S' := [_,_,_,_]) rfl (wc_seq (wc_seq (wc_region (wP rfl (wP rfl (wP rfl (wl_nil (we_then (wc_keep [16,6,0,1,2] (S' := [_,_,_,_,_]) rfl ?_))))))))))
 refine wc_cond rfl (fun h16 => ?_) (fun h16 => ?_)
 ·
  replace h16 := eq_of_beq h16
  exfalso
  omega
 ·
  replace h16 := ne_of_beq_false h16
  refine wc_skip (we_then (wc_seq (wc_region (wP rfl (wN rfl tE_22 (wP rfl (wl_nil (we_then (wc_keep [7,16,6,0,1,2] (S' := [_,_,_,_,_,_]) rfl (wc_seq ?_))))))))))
  refine wc_cut (σ := Addr) (fun a25 => k + 1 < c → a25 = ⟨g0, (k + 1) * 6, none⟩) (fun a25 => [(0, .slice (some ⟨g0,0, none⟩) ((L.take k ++ L.drop (k + 1)).length) c), (7, .int .i64 ((L.length : Nat) : Int)), (16, .bool (((k : Nat) : Int) == ((k + 1 : Nat) : Int))), (6, .slice none 0 0), (1, .int .i64 ((k : Nat) : Int)), (2, .int .i64 ((k + 1 : Nat) : Int))]) (fun a25 => []) (fun a25 => [.own 31 6 R_SessD (.slice (some ⟨g0,0, none⟩) ((L.take k ++ L.drop (k + 1)).length) c) (L.take k ++ L.drop (k + 1))]) ?_ ?_
  ·
   refine wc_draw [0,1,3,4] rfl rfl (fun hok => (xP hok 0 rfl (xP hok 1 rfl (xP hok 3 rfl (xP hok 4 rfl ?_)))))
   refine wx_step2 hok 2 5 rfl rfl rfl rfl rfl rfl ?_ ?_
   ·
    refine wl_sliceTo rfl rfl rfl (freshS_eq rfl) rfl rfl rfl rfl tE_22 tS_31 (by omega) (fun _ h => by cases h; rfl) (wl_nil (we_x [] [] rfl rfl (xS hok 5 rfl (wl_sliceFrom rfl rfl rfl (freshS_eq rfl) rfl rfl rfl rfl tE_22 tS_31 (by omega) (by omega) (fun a25 ha25 => (wl_nil (we_x [] [] rfl rfl (xS hok 6 rfl (wl_appendSelf 0 k (k + 1) rfl rfl rfl (freshS_eq rfl) rfl rfl rfl rfl (by omega) (by omega) (fun h => ha25 (by omega)) tE_22 tR_31 (H2 := [.own 31 6 R_SessD (.slice (some ⟨g0,0, none⟩) ((L.take k ++ L.drop (k + 1)).length) c) (L.take k ++ L.drop (k + 1))]) rfl (fun _ => (wl_nil (we_x [] [] rfl rfl (xS hok 7 rfl (wl_pure (S' := [_,_,_,_,_,_,_,_,_,_,_,_]) rfl rfl rfl rfl rfl (wl_nil ?_)))))))))))))))
    refine we_x [] [] rfl rfl (wx_done hok rfl ?_)
    refine we_join (a25) ha25 [0,7,16,6,1,2] rfl (asK [] rfl) rfl
   ·
    refine wl_sliceFrom rfl rfl rfl (freshS_eq rfl) rfl rfl rfl rfl tE_22 tS_31 (by omega) (by omega) (fun a25 ha25 => (wl_nil (we_x [] [] rfl rfl (xS hok 2 rfl (wl_sliceTo rfl rfl rfl (freshS_eq rfl) rfl rfl rfl rfl tE_22 tS_31 (by omega) (fun _ h => by cases h; rfl) (wl_nil (we_x [] [] rfl rfl (xS hok 6 rfl (wl_appendSelf 0 k (k + 1) rfl rfl rfl (freshS_eq rfl) rfl rfl rfl rfl (by omega) (by omega) (fun h => ha25 (by omega)) tE_22 tR_31 (H2 := [.own 31 6 R_SessD (.slice (some ⟨g0,0, none⟩) ((L.take k ++ L.drop (k + 1)).length) c) (L.take k ++ L.drop (k + 1))]) rfl (fun _ => (wl_nil (we_x [] [] rfl rfl (xS hok 7 rfl (wl_pure (S' := [_,_,_,_,_,_,_,_,_,_,_,_]) rfl rfl rfl rfl rfl (wl_nil ?_)))))))))))))))
    refine we_x [] [] rfl rfl (wx_done hok rfl ?_)
    refine we_join (a25) ha25 [0,7,16,6,1,2] rfl (asK [] rfl) rfl
  ·
   rintro a25 ha25
   try dsimp only
   refine wc_seq (wc_region (wP rfl (wP rfl (wN rfl tE_22 (wP rfl (wl_sliceMid rfl rfl rfl (freshS_eq rfl) rfl rfl rfl rfl rfl rfl tE_22 tS_31 (by simp; omega) (by omega) (fun a31 ha31 => (wl_clearTail 0 rfl rfl rfl rfl rfl (fun h => ha31 (by simp at h ⊢; omega)) (by simp; omega) tE_22 tZ_31 rfl rfl rfl (wl_nil (we_then (wc_keep [0,7,16,6,1,2] (S' := [_,_,_,_,_,_]) rfl (wc_seq (wc_region (wP rfl ?_))))))))))))))
   refine wl_pure (S' := [_,_,_,_,_,_]) rfl rfl rfl rfl rfl (wl_nil (we_then (wc_keep [6,0,7,16,1,2] (S' := [_,_,_,_,_,_]) rfl (wc_ret (ret_one (Hr := [.own 31 6 R_SessD (.slice (some ⟨g0,0, none⟩) ((L.take k ++ L.drop (k + 1)).length) c) (L.take k ++ L.drop (k + 1))]) [0] Tryz.results47 (res_tmp rfl) ?_ (asK [] rfl) rfl rfl (.inl rfl))))))
   exact ⟨_,_, rfl, rfl, rfl⟩
theorem Delete47_s (p : Option Addr) (c : Nat) (i : Int) (L : List SessD) (h0 : 0 ≤ i) (hk : i.toNat < L.length) : Spec Tryz.prog 47 [.slice p L.length c, .int .i64 i, .int .i64 (i + 1)] [] [.own 31 6 R_SessD (.slice p L.length c) L] (fun v Φr Hr => ∃ p' c', v = .slice p' (L.take i.toNat ++ L.drop (i.toNat + 1)).length c' ∧ Φr = [] ∧ Hr = [.own 31 6 R_SessD v (L.take i.toNat ++ L.drop (i.toNat + 1))]) := by
  obtain ⟨k, rfl⟩ := Int.eq_ofNat_of_zero_le h0
  have e1 : ((k : Int) + 1) = ((k + 1 : Nat) : Int) := by omega
  rw [e1]
  exact Delete47_n p c k L hk
theorem w_session_Table_Expire_s (N : Nat) (qg0 : Nat) (qp1 : Option Addr) (qn2 : Nat) (qc3 : Nat) (l0 : List SessD) (a1 : Int) (a2 : Int) (o0 : Nat) (o3 : List SessD) (hm : m_session_Table_Expire N l0 a1 a2 = some (o0, o3)) : Spec Tryz.prog 22 [.pointer (some ⟨qg0,0, none⟩), .int .i64 a2] [] [.blk qg0 [.slice qp1 qn2 qc3, .int .i64 a1] 65, .own 31 6 R_SessD (.slice qp1 qn2 qc3) l0] (fun v Φr Hr => ∃ (o1 : Option Addr) (o2 : Nat) (o4 : Nat), v = .int .i64 ((o0 : Nat) : Int) ∧ Φr = [] ∧ Hr = [.blk qg0 [.slice o1 o4 o2, .int .i64 a1] 65, .own 31 6 R_SessD (.slice o1 o4 o2) o3]) := by
 unfold m_session_Table_Expire at hm
 refine spec_of Tryz.func22 rfl Tryz.ntmps22 rfl (S := [_,_]) rfl (fun C => (wc_seq (wc_region (wP rfl (wl_nil (we_then (wc_keep [0,1] (S' := [_,_]) rfl (wc_seq (wc_region (wP rfl (wP rfl ?_)))))))))))
 obtain ⟨⟨v10_0, v10_1⟩, hc10, hm⟩ := bindO_some hm
 try dsimp only at hm
 refine wC [0,1] [] rfl fn_45 rfl (w_session_Table_at_s N qg0 qp1 qn2 qc3 l0 a1 a2 _ _ hc10) (asK [] rfl) rfl (H' := []) rfl ?_
 rintro _ _ _ ⟨rfl, rfl, rfl⟩
 refine wP rfl (wP rfl (wP rfl (wP rfl (wP rfl (wl_nil (we_then (wc_keep [6,5,0] (S' := [_,_,_]) rfl (wc_seq ?_))))))))
 obtain ⟨bj_1, hm, hLj_1⟩ := bindO_some hm
 refine wc_cut (σ := (List SessD) × (Option Addr) × Nat × Nat) (fun (j_1_r0_f0_l, j_1_r0_f0_p, j_1_r0_f0_c, j_1_r0_f0_n) => bj_1 = j_1_r0_f0_l) (fun (j_1_r0_f0_l, j_1_r0_f0_p, j_1_r0_f0_c, j_1_r0_f0_n) => [(6, .int .i64 ((v10_1 : Nat) : Int))]) (fun (j_1_r0_f0_l, j_1_r0_f0_p, j_1_r0_f0_c, j_1_r0_f0_n) => []) (fun (j_1_r0_f0_l, j_1_r0_f0_p, j_1_r0_f0_c, j_1_r0_f0_n) => [.blk qg0 [.slice j_1_r0_f0_p j_1_r0_f0_n j_1_r0_f0_c, .int .i64 a1] 65, .own 31 6 R_SessD (.slice j_1_r0_f0_p j_1_r0_f0_n j_1_r0_f0_c) j_1_r0_f0_l]) ?_ ?_
 ·
  refine wc_seq (wc_region (wP rfl (wP rfl (wl_as (d := 14) (v' := .bool (v10_1 == 0)) (S' := [_,_,_,_]) rfl rfl (nateq (a := v10_1) (b := 0)) (wl_nil (we_then (wc_keep [14,6,5,0] (S' := [_,_,_,_]) rfl ?_)))))))
  refine wc_cond rfl (fun hb14 => ?_) (fun hb14 => ?_)
  ·
   replace hm := iteT hm hb14
   refine wc_keep [6,5,0] (S' := [_,_,_]) rfl (wc_region (wP rfl (wP rfl (wP rfl (wF rfl tF_65_0 (wF rfl tF_63_0 (wD 0 0 rfl tS_22 tA_22 rfl (wP rfl (wP rfl (wP rfl ?_))))))))))
   obtain ⟨hg23, hm⟩ := gd_some hm
   refine wl_as (d := 23) (v' := .int .i64 (v10_0 + 1)) (S' := [_,_,_,_,_,_,_,_,_,_,_]) rfl rfl (i64_in hg23) (wl_ownLen 1 rfl (fun hzqn2 _ => ?_))
   subst hzqn2
   obtain ⟨hg24, hm⟩ := gd_some hm
   obtain ⟨hgk24, hm⟩ := gd_some hm
   refine wC [1] [0] rfl fn_47 rfl (Delete47_s qp1 qc3 v10_0 l0 hg24 hgk24) (asK [] rfl) rfl (H' := [_]) rfl ?_
   rintro _ _ _ ⟨p24, c24, rfl, rfl, rfl⟩
   refine wP rfl (wF rfl tF_65_0 (wF rfl tF_63_0 (wS 1 0 rfl tS_22 (all' := [_,_]) rfl (H' := [_,_]) rfl (wl_nil ?_))))
   have hE := (Option.some.inj hm).symm
   refine we_pick [1,0] rfl (H' := [_,_]) rfl ?_
   refine we_join (l0.take v10_0.toNat ++ l0.drop (v10_0.toNat + 1), p24, c24, (l0.take v10_0.toNat ++ l0.drop (v10_0.toNat + 1)).length) hE [6] rfl (asK [] rfl) rfl
  ·
   replace hm := iteF hm hb14
   refine wc_keep [6] (S' := [_]) rfl (wc_skip ?_)
   have hE := (Option.some.inj hm).symm
   refine we_join (l0, qp1, qc3, qn2) hE [6] rfl (asK [] rfl) rfl
 ·
  rintro ⟨j_1_r0_f0_l, j_1_r0_f0_p, j_1_r0_f0_c, j_1_r0_f0_n⟩ hE
  try dsimp only
  have hm := hLj_1
  rw [hE] at hm
  refine wc_seq (wc_region (wP rfl (wP rfl (wl_nil (we_then (wc_keep [4] (S' := [_]) rfl (wc_ret ?_)))))))
  have hE := (Option.some.inj hm).symm
  obtain ⟨hE0, hE1⟩ := Prod.mk.inj hE
  clear hE
  replace hE0 := hE0.symm
  subst hE0
  replace hE1 := hE1.symm
  subst hE1
  refine ret_one (Hr := [_,_]) [0,1] Tryz.results22 (res_tmp rfl) ⟨j_1_r0_f0_p, j_1_r0_f0_c, j_1_r0_f0_n, rfl, rfl, rfl⟩ (asK [] rfl) rfl rfl (.inl rfl)
theorem w_ropewalklaw27_awake_s (N : Nat)  (o0 : Bool) (hm : m_ropewalklaw27_awake N = some o0) : Spec Tryz.prog 6 [] [] [] (fun v Φr Hr => v = .bool o0 ∧ Φr = [] ∧ Hr = []) := by
 unfold m_ropewalklaw27_awake at hm
 refine spec_of Tryz.func6 rfl Tryz.ntmps6 rfl (S := []) rfl (fun C => (wc_seq (wc_region (wP rfl (wl_nil (we_then (wc_keep [] (S' := []) rfl (wc_seq (wc_region ?_)))))))))
 obtain ⟨_, hc21, hm⟩ := bindO_some hm
 try dsimp only at hm
 refine wC [] [] rfl fn_7 rfl (w_session_New_s N  hc21) (asK [] rfl) rfl (H' := []) rfl ?_
 rintro _ _ _ ⟨c21_0, rfl, rfl, rfl⟩
 refine wP rfl (wl_nil (we_then (wc_keep [1] (S' := [_]) rfl (wc_seq (wc_region (wP rfl (wl_rowNil 31 6 R_SessD ?_)))))))
 obtain ⟨⟨v24_0, v24_1, v24_2, v24_3⟩, hc24, hm⟩ := bindO_some hm
 try dsimp only at hm
 refine wC [1,0] [] rfl fn_19 rfl (w_session_Table_Open_s N c21_0 none 0 0 [] 1 _ _ _ _ hc24) (asK [] rfl) rfl (H' := []) rfl ?_
 rintro _ _ _ ⟨p24_0, c24_1, c24_2, rfl, rfl, rfl⟩
 refine wP rfl (wP rfl (wP rfl (wP rfl (wP rfl (wl_nil (we_then (wc_keep [3,2,1] (S' := [_,_,_]) rfl (wc_seq (wc_region (wP rfl ?_))))))))))
 obtain ⟨⟨v29_0, v29_1, v29_2, v29_3, v29_4, v29_5⟩, hc29, hm⟩ := bindO_some hm
 try dsimp only at hm
 refine wC [0,1] [] rfl fn_20 rfl (w_session_Table_Ask_s N c21_0 p24_0 c24_2 c24_1 v24_2 v24_3 1 4 _ _ _ _ _ _ hc29) (asK [] rfl) rfl (H' := []) rfl ?_
 rintro _ _ _ ⟨p29_0, c29_1, c29_2, p29_3, c29_4, c29_5, rfl, rfl, rfl⟩
 refine wP rfl (wP rfl (wP rfl (wP rfl (wl_alloc rfl rfl rfl (freshS_eq rfl) rfl tZ_29 rfl (fun g4 => (wS 0 0 rfl tS_29 (all' := [_,_,_,_]) rfl (H' := [_,_,_,_,_]) rfl (wP rfl (wP rfl (wl_nil (we_then (wc_keep [6,5,3,2,1] (S' := [_,_,_,_,_]) rfl (wc_seq (wc_region (wP rfl ?_))))))))))))))
 refine wl_build rfl rfl rfl (freshS_eq rfl) rfl tZ_29 tP_29 rfl (out := [_,_,_,_]) rfl (wl_fact (.sli 3 R_FactD none 0 ([] : List FactD)) (fun _ _ _ => sli_none) (wl_fact (.sli 3 R_V none 0 ([] : List V)) (fun _ _ _ => sli_none) ?_))
 obtain ⟨⟨v35_0, v35_1⟩, hc35, hm⟩ := bindO_some hm
 try dsimp only at hm
 refine wC [3,4] [0,1,2] rfl fn_21 rfl (w_session_Table_Done_s N c21_0 p24_0 c24_2 c24_1 v24_2 v24_3 1 4 0 9 none 0 ([] : List FactD) none 0 ([] : List V) _ _ hc35) (asK [1,0] rfl) rfl (H' := [_,_,_]) rfl ?_
 rintro _ _ _ ⟨rfl, rfl, rfl⟩
 refine wP rfl (wl_nil (we_then (wc_keep [7,6,5,3,2,1] (S' := [_,_,_,_,_,_]) rfl (wc_seq (wc_region (wP rfl ?_))))))
 obtain ⟨⟨v38_0, v38_1, v38_2, v38_3, v38_4, v38_5⟩, hc38, hm⟩ := bindO_some hm
 try dsimp only at hm
 refine wC [0,1] [2,3,4] rfl fn_20 rfl (w_session_Table_Ask_s N c21_0 p24_0 c24_2 c24_1 v35_1 v24_3 1 4 _ _ _ _ _ _ hc38) (asK [] rfl) rfl (H' := [_,_,_]) rfl ?_
 rintro _ _ _ ⟨p38_0, c38_1, c38_2, p38_3, c38_4, c38_5, rfl, rfl, rfl⟩
 refine wP rfl (wP rfl (wP rfl (wP rfl (wl_alloc rfl rfl rfl (freshS_eq rfl) rfl tZ_29 rfl (fun g8 => (wS 0 0 rfl tS_29 (all' := [_,_,_,_]) rfl (H' := [_,_,_,_,_,_,_,_]) rfl (wP rfl (wP rfl (wl_nil (we_then (wc_keep [10,9,8,7,6,5,3,2,1] (S' := [_,_,_,_,_,_,_,_,_]) rfl (wc_seq (wc_region (wP rfl ?_))))))))))))))
 obtain ⟨⟨v44_0, v44_1, v44_2, v44_3, v44_4, v44_5⟩, hc44, hm⟩ := bindO_some hm
 try dsimp only at hm
 refine wC [3,4] [0,1,2,5,6,7] rfl fn_20 rfl (w_session_Table_Ask_s N c21_0 p24_0 c24_2 c24_1 v35_1 v24_3 1 3 _ _ _ _ _ _ hc44) (asK [] rfl) rfl (H' := [_,_,_,_,_,_]) rfl ?_
 rintro _ _ _ ⟨p44_0, c44_1, c44_2, p44_3, c44_4, c44_5, rfl, rfl, rfl⟩
 refine wP rfl (wP rfl (wP rfl (wP rfl (wl_alloc rfl rfl rfl (freshS_eq rfl) rfl tZ_29 rfl (fun g11 => (wS 0 0 rfl tS_29 (all' := [_,_,_,_]) rfl (H' := [_,_,_,_,_,_,_,_,_,_,_]) rfl (wP rfl (wP rfl (wl_nil (we_then (wc_keep [13,10,9,8,7,6,5,3,2,1] (S' := [_,_,_,_,_,_,_,_,_,_]) rfl (wc_seq (wc_region (wP rfl ?_))))))))))))))
 obtain ⟨⟨v50_0, v50_1, v50_2, v50_3, v50_4, v50_5⟩, hc50, hm⟩ := bindO_some hm
 try dsimp only at hm
 refine wC [3,4] [0,1,2,5,6,7,8,9,10] rfl fn_20 rfl (w_session_Table_Ask_s N c21_0 p24_0 c24_2 c24_1 v35_1 v24_3 2 1 _ _ _ _ _ _ hc50) (asK [] rfl) rfl (H' := [_,_,_,_,_,_,_,_,_]) rfl ?_
 rintro _ _ _ ⟨p50_0, c50_1, c50_2, p50_3, c50_4, c50_5, rfl, rfl, rfl⟩
 refine wP rfl (wP rfl (wP rfl (wP rfl (wl_alloc rfl rfl rfl (freshS_eq rfl) rfl tZ_29 rfl (fun g14 => (wS 0 0 rfl tS_29 (all' := [_,_,_,_]) rfl (H' := [_,_,_,_,_,_,_,_,_,_,_,_,_,_]) rfl (wP rfl (wP rfl (wl_nil (we_then (wc_keep [16,13,10,9,8,7,6,5,3,2,1] (S' := [_,_,_,_,_,_,_,_,_,_,_]) rfl (wc_seq (wc_region (wP rfl ?_))))))))))))))
 refine wl_build rfl rfl rfl (freshS_eq rfl) rfl tZ_29 tP_29 rfl (out := [_,_,_,_]) rfl (wl_fact (.sli 3 R_FactD none 0 ([] : List FactD)) (fun _ _ _ => sli_none) (wl_fact (.sli 3 R_V none 0 ([] : List V)) (fun _ _ _ => sli_none) ?_))
 obtain ⟨⟨v56_0, v56_1⟩, hc56, hm⟩ := bindO_some hm
 try dsimp only at hm
 refine wC [3,4] [0,1,2,5,6,7,8,9,10,11,12,13] rfl fn_21 rfl (w_session_Table_Done_s N c21_0 p24_0 c24_2 c24_1 v35_1 v24_3 1 4 0 0 none 0 ([] : List FactD) none 0 ([] : List V) _ _ hc56) (asK [1,0] rfl) rfl (H' := [_,_,_,_,_,_,_,_,_,_,_,_]) rfl ?_
 rintro _ _ _ ⟨rfl, rfl, rfl⟩
 refine wP rfl (wl_nil (we_then (wc_keep [17,16,13,10,9,8,7,6,5,3,2,1] (S' := [_,_,_,_,_,_,_,_,_,_,_,_]) rfl (wc_seq (wc_region (wP rfl ?_))))))
 obtain ⟨⟨v58_0, v58_1⟩, hc58, hm⟩ := bindO_some hm
 try dsimp only at hm
 refine wC [0,1] [2,3,4,5,6,7,8,9,10,11,12,13] rfl fn_22 rfl (w_session_Table_Expire_s N c21_0 p24_0 c24_2 c24_1 v56_1 v24_3 1 _ _ hc58) (asK [] rfl) rfl (H' := [_,_,_,_,_,_,_,_,_,_,_,_]) rfl ?_
 rintro _ _ _ ⟨p58_0, c58_1, c58_2, rfl, rfl, rfl⟩
 refine wP rfl (wl_nil (we_then (wc_keep [18,17,16,13,10,9,8,7,6,5,3,2,1] (S' := [_,_,_,_,_,_,_,_,_,_,_,_,_]) rfl (wc_seq (wc_region (wP rfl ?_))))))
 obtain ⟨⟨v61_0, v61_1, v61_2, v61_3⟩, hc61, hm⟩ := bindO_some hm
 try dsimp only at hm
 refine wC [0,1] [2,3,4,5,6,7,8,9,10,11,12,13] rfl fn_19 rfl (w_session_Table_Open_s N c21_0 p58_0 c58_2 c58_1 v58_1 v24_3 _ _ _ _ hc61) (asK [] rfl) rfl (H' := [_,_,_,_,_,_,_,_,_,_,_,_]) rfl ?_
 rintro _ _ _ ⟨p61_0, c61_1, c61_2, rfl, rfl, rfl⟩
 refine wP rfl (wP rfl (wP rfl (wP rfl (wP rfl (wl_nil (we_then (wc_keep [20,19,18,17,16,13,10,9,8,7,6,5,3,2] (S' := [_,_,_,_,_,_,_,_,_,_,_,_,_,_]) rfl (wc_seq ?_))))))))
 obtain ⟨bj_1, hm, hLj_1⟩ := bindO_some hm
 unfold m_ropewalklaw27_awake_C1 at hm
 refine wc_cut (σ := Bool) (fun j_1_0 => bj_1 = j_1_0) (fun j_1_0 => [(0, .bool j_1_0)]) (fun j_1_0 => []) (fun j_1_0 => []) ?_ ?_
 ·
  refine wc_region (wP rfl (wP rfl (wP rfl ?_)))
  refine wl_split (d := 66) (S' := [_,_,_,_,_,_,_,_,_,_,_,_,_,_,_,_]) rfl rfl (fun hs66 => ?_) (fun hs66 => ?_)
  ·
   replace hm := iteT hm hs66
   refine wP rfl (wP rfl (wl_as (d := 68) (v' := .bool (v24_1 == 0)) (S' := [_,_,_,_,_,_,_,_,_,_,_,_,_,_,_,_,_,_]) rfl rfl (nateq (a := v24_1) (b := 0)) (wP rfl (wP rfl ?_))))
   refine wl_split (d := 70) (S' := [_,_,_,_,_,_,_,_,_,_,_,_,_,_,_,_,_,_,_,_]) rfl rfl (fun hs70 => ?_) (fun hs70 => ?_)
   ·
    replace hm := iteT hm hs70
    refine wP rfl (wP rfl (wP rfl (wP rfl ?_)))
    refine wl_split (d := 74) (S' := [_,_,_,_,_,_,_,_,_,_,_,_,_,_,_,_,_,_,_,_,_,_,_,_]) rfl rfl (fun hs74 => ?_) (fun hs74 => ?_)
    ·
     replace hm := iteT hm hs74
     refine wP rfl (wP rfl (wl_as (d := 76) (v' := .bool (v29_5 == 0)) (S' := [_,_,_,_,_,_,_,_,_,_,_,_,_,_,_,_,_,_,_,_,_,_,_,_,_,_]) rfl rfl (nateq (a := v29_5) (b := 0)) (wP rfl (wP rfl ?_))))
     refine wl_split (d := 78) (S' := [_,_,_,_,_,_,_,_,_,_,_,_,_,_,_,_,_,_,_,_,_,_,_,_,_,_,_,_]) rfl rfl (fun hs78 => ?_) (fun hs78 => ?_)
     ·
      replace hm := iteT hm hs78
      refine wP rfl (wP rfl (wl_as (d := 80) (v' := .bool (v35_0 == 0)) (S' := [_,_,_,_,_,_,_,_,_,_,_,_,_,_,_,_,_,_,_,_,_,_,_,_,_,_,_,_,_,_]) rfl rfl (nateq (a := v35_0) (b := 0)) (wP rfl (wP rfl ?_))))
      refine wl_split (d := 82) (S' := [_,_,_,_,_,_,_,_,_,_,_,_,_,_,_,_,_,_,_,_,_,_,_,_,_,_,_,_,_,_,_,_]) rfl rfl (fun hs82 => ?_) (fun hs82 => ?_)
      ·
       replace hm := iteT hm hs82
       refine wF rfl tF_29_1 (wD 8 1 rfl tS_3 tA_3 rfl (wP rfl (wP rfl (wP rfl ?_))))
       refine wl_split (d := 87) (S' := [_,_,_,_,_,_,_,_,_,_,_,_,_,_,_,_,_,_,_,_,_,_,_,_,_,_,_,_,_,_,_,_,_,_,_,_,_]) rfl rfl (fun hs87 => ?_) (fun hs87 => ?_)
       ·
        replace hm := iteT hm hs87
        refine wP rfl (wP rfl (wP rfl ?_))
        refine wl_split (d := 90) (S' := [_,_,_,_,_,_,_,_,_,_,_,_,_,_,_,_,_,_,_,_,_,_,_,_,_,_,_,_,_,_,_,_,_,_,_,_,_,_,_,_]) rfl rfl (fun hs90 => ?_) (fun hs90 => ?_)
        ·
         replace hm := iteT hm hs90
         refine wP rfl (wP rfl (wl_as (d := 92) (v' := .bool (v38_5 == 0)) (S' := [_,_,_,_,_,_,_,_,_,_,_,_,_,_,_,_,_,_,_,_,_,_,_,_,_,_,_,_,_,_,_,_,_,_,_,_,_,_,_,_,_,_]) rfl rfl (nateq (a := v38_5) (b := 0)) (wP rfl (wP rfl ?_))))
         refine wl_split (d := 94) (S' := [_,_,_,_,_,_,_,_,_,_,_,_,_,_,_,_,_,_,_,_,_,_,_,_,_,_,_,_,_,_,_,_,_,_,_,_,_,_,_,_,_,_,_,_]) rfl rfl (fun hs94 => ?_) (fun hs94 => ?_)
         ·
          replace hm := iteT hm hs94
          refine wP rfl (wP rfl (wl_as (d := 96) (v' := .bool (v44_5 == 304)) (S' := [_,_,_,_,_,_,_,_,_,_,_,_,_,_,_,_,_,_,_,_,_,_,_,_,_,_,_,_,_,_,_,_,_,_,_,_,_,_,_,_,_,_,_,_,_,_]) rfl rfl (nateq (a := v44_5) (b := 304)) (wP rfl (wP rfl ?_))))
          refine wl_split (d := 98) (S' := [_,_,_,_,_,_,_,_,_,_,_,_,_,_,_,_,_,_,_,_,_,_,_,_,_,_,_,_,_,_,_,_,_,_,_,_,_,_,_,_,_,_,_,_,_,_,_,_]) rfl rfl (fun hs98 => ?_) (fun hs98 => ?_)
          ·
           replace hm := iteT hm hs98
           refine wP rfl (wP rfl (wl_as (d := 100) (v' := .bool (v50_5 == 303)) (S' := [_,_,_,_,_,_,_,_,_,_,_,_,_,_,_,_,_,_,_,_,_,_,_,_,_,_,_,_,_,_,_,_,_,_,_,_,_,_,_,_,_,_,_,_,_,_,_,_,_,_]) rfl rfl (nateq (a := v50_5) (b := 303)) (wP rfl (wP rfl ?_))))
           refine wl_split (d := 102) (S' := [_,_,_,_,_,_,_,_,_,_,_,_,_,_,_,_,_,_,_,_,_,_,_,_,_,_,_,_,_,_,_,_,_,_,_,_,_,_,_,_,_,_,_,_,_,_,_,_,_,_,_,_]) rfl rfl (fun hs102 => ?_) (fun hs102 => ?_)
           ·
            replace hm := iteT hm hs102
            refine wP rfl (wP rfl (wl_as (d := 104) (v' := .bool (v56_0 == 304)) (S' := [_,_,_,_,_,_,_,_,_,_,_,_,_,_,_,_,_,_,_,_,_,_,_,_,_,_,_,_,_,_,_,_,_,_,_,_,_,_,_,_,_,_,_,_,_,_,_,_,_,_,_,_,_,_]) rfl rfl (nateq (a := v56_0) (b := 304)) (wP rfl (wP rfl ?_))))
            refine wl_split (d := 106) (S' := [_,_,_,_,_,_,_,_,_,_,_,_,_,_,_,_,_,_,_,_,_,_,_,_,_,_,_,_,_,_,_,_,_,_,_,_,_,_,_,_,_,_,_,_,_,_,_,_,_,_,_,_,_,_,_,_]) rfl rfl (fun hs106 => ?_) (fun hs106 => ?_)
            ·
             replace hm := iteT hm hs106
             refine wP rfl (wP rfl (wl_as (d := 108) (v' := .bool (v58_0 == 0)) (S' := [_,_,_,_,_,_,_,_,_,_,_,_,_,_,_,_,_,_,_,_,_,_,_,_,_,_,_,_,_,_,_,_,_,_,_,_,_,_,_,_,_,_,_,_,_,_,_,_,_,_,_,_,_,_,_,_,_,_]) rfl rfl (nateq (a := v58_0) (b := 0)) (wP rfl (wP rfl ?_))))
             refine wl_split (d := 110) (S' := [_,_,_,_,_,_,_,_,_,_,_,_,_,_,_,_,_,_,_,_,_,_,_,_,_,_,_,_,_,_,_,_,_,_,_,_,_,_,_,_,_,_,_,_,_,_,_,_,_,_,_,_,_,_,_,_,_,_,_,_]) rfl rfl (fun hs110 => ?_) (fun hs110 => ?_)
             ·
              replace hm := iteT hm hs110
              refine wP rfl (wP rfl (wP rfl (wP rfl ?_)))
              refine wl_split (d := 114) (S' := [_,_,_,_,_,_,_,_,_,_,_,_,_,_,_,_,_,_,_,_,_,_,_,_,_,_,_,_,_,_,_,_,_,_,_,_,_,_,_,_,_,_,_,_,_,_,_,_,_,_,_,_,_,_,_,_,_,_,_,_,_,_,_,_]) rfl rfl (fun hs114 => ?_) (fun hs114 => ?_)
              ·
               replace hm := iteT hm hs114
               refine wP rfl (wP rfl (wl_as (d := 116) (v' := .bool (v61_1 == 0)) (S' := [_,_,_,_,_,_,_,_,_,_,_,_,_,_,_,_,_,_,_,_,_,_,_,_,_,_,_,_,_,_,_,_,_,_,_,_,_,_,_,_,_,_,_,_,_,_,_,_,_,_,_,_,_,_,_,_,_,_,_,_,_,_,_,_,_,_]) rfl rfl (nateq (a := v61_1) (b := 0)) (wP rfl (wP rfl (wl_nil ?_)))))
               have hE := (Option.some.inj hm).symm
               refine we_pick [] rfl (H' := []) rfl ?_
               refine we_join (v61_1 == 0) hE [0] rfl (asK [] rfl) rfl
              ·
               replace hm := iteF hm hs114
               refine wO rfl (wO rfl (wP rfl (wP rfl (wl_nil ?_))))
               have hE := (Option.some.inj hm).symm
               refine we_pick [] rfl (H' := []) rfl ?_
               refine we_join false hE [0] rfl (asK [] rfl) rfl
             ·
              replace hm := iteF hm hs110
              refine wO rfl (wO rfl (wP rfl (wP rfl (wO rfl (wO rfl (wP rfl (wP rfl (wl_nil ?_))))))))
              have hE := (Option.some.inj hm).symm
              refine we_pick [] rfl (H' := []) rfl ?_
              refine we_join false hE [0] rfl (asK [] rfl) rfl
            ·
             replace hm := iteF hm hs106
             refine wO rfl (wO rfl (wP rfl (wP rfl (wO rfl (wO rfl (wP rfl (wP rfl (wO rfl (wO rfl (wP rfl (wP rfl (wl_nil ?_))))))))))))
             have hE := (Option.some.inj hm).symm
             refine we_pick [] rfl (H' := []) rfl ?_
             refine we_join false hE [0] rfl (asK [] rfl) rfl
           ·
            replace hm := iteF hm hs102
            refine wO rfl (wO rfl (wP rfl (wP rfl (wO rfl (wO rfl (wP rfl (wP rfl (wO rfl (wO rfl (wP rfl (wP rfl (wO rfl (wO rfl ?_)))))))))))))
            refine wP rfl (wP rfl (wl_nil ?_))
            have hE := (Option.some.inj hm).symm
            refine we_pick [] rfl (H' := []) rfl ?_
            refine we_join false hE [0] rfl (asK [] rfl) rfl
          ·
           replace hm := iteF hm hs98
           refine wO rfl (wO rfl (wP rfl (wP rfl (wO rfl (wO rfl (wP rfl (wP rfl (wO rfl (wO rfl (wP rfl (wP rfl (wO rfl (wO rfl ?_)))))))))))))
           refine wP rfl (wP rfl (wO rfl (wO rfl (wP rfl (wP rfl (wl_nil ?_))))))
           have hE := (Option.some.inj hm).symm
           refine we_pick [] rfl (H' := []) rfl ?_
           refine we_join false hE [0] rfl (asK [] rfl) rfl
         ·
          replace hm := iteF hm hs94
          refine wO rfl (wO rfl (wP rfl (wP rfl (wO rfl (wO rfl (wP rfl (wP rfl (wO rfl (wO rfl (wP rfl (wP rfl (wO rfl (wO rfl ?_)))))))))))))
          refine wP rfl (wP rfl (wO rfl (wO rfl (wP rfl (wP rfl (wO rfl (wO rfl (wP rfl (wP rfl (wl_nil ?_))))))))))
          have hE := (Option.some.inj hm).symm
          refine we_pick [] rfl (H' := []) rfl ?_
          refine we_join false hE [0] rfl (asK [] rfl) rfl
        ·
         replace hm := iteF hm hs90
         refine wO rfl (wO rfl (wP rfl (wP rfl (wO rfl (wO rfl (wP rfl (wP rfl (wO rfl (wO rfl (wP rfl (wP rfl (wO rfl (wO rfl ?_)))))))))))))
         refine wP rfl (wP rfl (wO rfl (wO rfl (wP rfl (wP rfl (wO rfl (wO rfl (wP rfl (wP rfl (wO rfl (wO rfl (wP rfl (wP rfl ?_)))))))))))))
         refine wl_nil ?_
         have hE := (Option.some.inj hm).symm
         refine we_pick [] rfl (H' := []) rfl ?_
         refine we_join false hE [0] rfl (asK [] rfl) rfl
       ·
        replace hm := iteF hm hs87
        refine wO rfl (wP rfl (wP rfl (wO rfl (wO rfl (wP rfl (wP rfl (wO rfl (wO rfl (wP rfl (wP rfl (wO rfl (wO rfl (wP rfl ?_)))))))))))))
        refine wP rfl (wO rfl (wO rfl (wP rfl (wP rfl (wO rfl (wO rfl (wP rfl (wP rfl (wO rfl (wO rfl (wP rfl (wP rfl (wO rfl ?_)))))))))))))
        refine wO rfl (wP rfl (wP rfl (wl_nil ?_)))
        have hE := (Option.some.inj hm).symm
        refine we_pick [] rfl (H' := []) rfl ?_
        refine we_join false hE [0] rfl (asK [] rfl) rfl
      ·
       replace hm := iteF hm hs82
       refine wO rfl (wO rfl (wO rfl (wP rfl (wP rfl (wO rfl (wP rfl (wP rfl (wO rfl (wO rfl (wP rfl (wP rfl (wO rfl (wO rfl ?_)))))))))))))
       refine wP rfl (wP rfl (wO rfl (wO rfl (wP rfl (wP rfl (wO rfl (wO rfl (wP rfl (wP rfl (wO rfl (wO rfl (wP rfl (wP rfl ?_)))))))))))))
       refine wO rfl (wO rfl (wP rfl (wP rfl (wO rfl (wO rfl (wP rfl (wP rfl (wl_nil ?_))))))))
       have hE := (Option.some.inj hm).symm
       refine we_pick [] rfl (H' := []) rfl ?_
       refine we_join false hE [0] rfl (asK [] rfl) rfl
     ·
      replace hm := iteF hm hs78
      refine wO rfl (wO rfl (wP rfl (wP rfl (wO rfl (wO rfl (wO rfl (wP rfl (wP rfl (wO rfl (wP rfl (wP rfl (wO rfl (wO rfl ?_)))))))))))))
      refine wP rfl (wP rfl (wO rfl (wO rfl (wP rfl (wP rfl (wO rfl (wO rfl (wP rfl (wP rfl (wO rfl (wO rfl (wP rfl (wP rfl ?_)))))))))))))
      refine wO rfl (wO rfl (wP rfl (wP rfl (wO rfl (wO rfl (wP rfl (wP rfl (wO rfl (wO rfl (wP rfl (wP rfl (wl_nil ?_))))))))))))
      have hE := (Option.some.inj hm).symm
      refine we_pick [] rfl (H' := []) rfl ?_
      refine we_join false hE [0] rfl (asK [] rfl) rfl
    ·
     replace hm := iteF hm hs74
     refine wO rfl (wO rfl (wP rfl (wP rfl (wO rfl (wO rfl (wP rfl (wP rfl (wO rfl (wO rfl (wO rfl (wP rfl (wP rfl (wO rfl ?_)))))))))))))
     refine wP rfl (wP rfl (wO rfl (wO rfl (wP rfl (wP rfl (wO rfl (wO rfl (wP rfl (wP rfl (wO rfl (wO rfl (wP rfl (wP rfl ?_)))))))))))))
     refine wO rfl (wO rfl (wP rfl (wP rfl (wO rfl (wO rfl (wP rfl (wP rfl (wO rfl (wO rfl (wP rfl (wP rfl (wO rfl (wO rfl ?_)))))))))))))
     refine wP rfl (wP rfl (wl_nil ?_))
     have hE := (Option.some.inj hm).symm
     refine we_pick [] rfl (H' := []) rfl ?_
     refine we_join false hE [0] rfl (asK [] rfl) rfl
   ·
    replace hm := iteF hm hs70
    refine wO rfl (wO rfl (wP rfl (wP rfl (wO rfl (wO rfl (wP rfl (wP rfl (wO rfl (wO rfl (wP rfl (wP rfl (wO rfl (wO rfl ?_)))))))))))))
    refine wO rfl (wP rfl (wP rfl (wO rfl (wP rfl (wP rfl (wO rfl (wO rfl (wP rfl (wP rfl (wO rfl (wO rfl (wP rfl (wP rfl ?_)))))))))))))
    refine wO rfl (wO rfl (wP rfl (wP rfl (wO rfl (wO rfl (wP rfl (wP rfl (wO rfl (wO rfl (wP rfl (wP rfl (wO rfl (wO rfl ?_)))))))))))))
    refine wP rfl (wP rfl (wO rfl (wO rfl (wP rfl (wP rfl (wl_nil ?_))))))
    have hE := (Option.some.inj hm).symm
    refine we_pick [] rfl (H' := []) rfl ?_
    refine we_join false hE [0] rfl (asK [] rfl) rfl
  ·
   replace hm := iteF hm hs66
   refine wO rfl (wO rfl (wP rfl (wP rfl (wO rfl (wO rfl (wP rfl (wP rfl (wO rfl (wO rfl (wP rfl (wP rfl (wO rfl (wO rfl ?_)))))))))))))
   refine wP rfl (wP rfl (wO rfl (wO rfl (wO rfl (wP rfl (wP rfl (wO rfl (wP rfl (wP rfl (wO rfl (wO rfl (wP rfl (wP rfl ?_)))))))))))))
   refine wO rfl (wO rfl (wP rfl (wP rfl (wO rfl (wO rfl (wP rfl (wP rfl (wO rfl (wO rfl (wP rfl (wP rfl (wO rfl (wO rfl ?_)))))))))))))
   refine wP rfl (wP rfl (wO rfl (wO rfl (wP rfl (wP rfl (wO rfl (wO rfl (wP rfl (wP rfl (wl_nil ?_))))))))))
   have hE := (Option.some.inj hm).symm
   refine we_pick [] rfl (H' := []) rfl ?_
   refine we_join false hE [0] rfl (asK [] rfl) rfl
 ·
  rintro j_1_0 hE
  try dsimp only
  have hm := hLj_1
  rw [hE] at hm
  refine wc_ret ?_
  have hE := (Option.some.inj hm).symm
  replace hE := hE.symm
  subst hE
  refine ret_one (Hr := []) [] Tryz.results6 (res_tmp rfl) ⟨rfl, rfl, rfl⟩ (asK [] rfl) rfl rfl (.inl rfl)
theorem w_ropewalkref27_New_s (N : Nat)   (hm : m_ropewalkref27_New N = some ()) : Spec Tryz.prog 8 [] [] [] (fun v Φr Hr => ∃ (o0 : Nat), v = .pointer (some ⟨o0,0, none⟩) ∧ Φr = [] ∧ Hr = [.blk o0 [.slice none 0 0, .int .i64 1] 67]) := by
 unfold m_ropewalkref27_New at hm
 refine spec_of Tryz.func8 rfl Tryz.ntmps8 rfl (S := []) rfl (fun C => (wc_seq (wc_region (wP rfl (wl_nil (we_then (wc_keep [] (S' := []) rfl (wc_seq (wc_region (wl_build rfl rfl rfl (freshS_eq rfl) rfl tZ_67 tP_67 rfl (out := [_,_]) rfl (wB rfl (fun g2 => (wP rfl (wl_nil (we_then ?_)))))))))))))))
 refine wc_keep [0] (S' := [_]) rfl (wc_ret ?_)
 have hE := (Option.some.inj hm).symm
 refine ret_one (Hr := [_]) [0] Tryz.results8 (res_tmp rfl) ⟨g2, rfl, rfl, rfl⟩ (asK [] rfl) rfl rfl (.inl rfl)
theorem w_ropewalkkit_mark_s (N : Nat) (a0 : Int) (a1 : Int)  (hm : m_ropewalkkit_mark N a0 a1 = some ()) : Spec Tryz.prog 48 [.int .i64 a0, .int .i64 a1] [] [] (fun v Φr Hr => v = .int .i64 (IntKind.wrap .i64 ((IntKind.wrap .i64 (1000003 * (IntKind.wrap .i64 (a0 + 7)))) + a1)) ∧ Φr = [] ∧ Hr = []) := by
 unfold m_ropewalkkit_mark at hm
 refine spec_of Tryz.func48 rfl Tryz.ntmps48 rfl (S := [_,_]) rfl (fun C => (wc_seq (wc_region (wP rfl (wl_nil (we_then (wc_keep [0,1] (S' := [_,_]) rfl (wc_seq (wc_region (wP rfl (wP rfl (wP rfl (wP rfl (wP rfl ?_))))))))))))))
 refine wP rfl (wl_nil (we_then (wc_keep [4] (S' := [_]) rfl (wc_ret ?_))))
 have hE := (Option.some.inj hm).symm
 refine ret_one (Hr := []) [] Tryz.results48 (res_tmp rfl) ⟨rfl, rfl, rfl⟩ (asK [] rfl) rfl rfl (.inl rfl)
theorem w_ropewalkkit_markValue_s (N : Nat) (a0 : Int) (a1 : Int)  (hm : m_ropewalkkit_markValue N a0 a1 = some ()) : Spec Tryz.prog 97 [.int .i64 a0, .int .i64 a1] [] [] (fun v Φr Hr => v = .agg #[.int .u8 0, .int .i64 (IntKind.wrap .i64 ((IntKind.wrap .i64 (1000003 * (IntKind.wrap .i64 (a0 + 7)))) + a1)), .string ((⟨#[]⟩ : ByteArray))] ∧ Φr = [] ∧ Hr = []) := by
 unfold m_ropewalkkit_markValue at hm
 refine spec_of Tryz.func97 rfl Tryz.ntmps97 rfl (S := [_,_]) rfl (fun C => (wc_seq (wc_region (wl_alloc rfl rfl rfl (freshS_eq rfl) rfl tZ_149 rfl (fun g4 => (wl_nil (we_then (wc_seq (wc_region (wP rfl (wP rfl ?_)))))))))))
 obtain ⟨_, hc7, hm⟩ := bindO_some hm
 try dsimp only at hm
 refine wC [] [0] rfl fn_48 rfl (w_ropewalkkit_mark_s N a0 a1 hc7) (asK [] rfl) rfl (H' := [_]) rfl ?_
 rintro _ _ _ ⟨rfl, rfl, rfl⟩
 refine wl_build rfl rfl rfl (freshS_eq rfl) rfl tZ_149 tP_149 rfl (out := [_,_,_]) rfl (wS 0 0 rfl tS_149 (all' := [_,_,_]) rfl (H' := [_]) rfl (wl_nil (we_then (wc_keep [4] (S' := [_]) rfl (wc_ret ?_)))))
 have hE := (Option.some.inj hm).symm
 refine ret_one (Hr := []) [] Tryz.results97 (res_cell 0 rfl rfl tS_149 tA_149 rfl rfl) ⟨rfl, rfl, rfl⟩ (asK [] rfl) rfl rfl (.inl rfl)
theorem w_ropewalkkit_LentValues_s (N : Nat) (qp0 : Option Addr) (qc1 : Nat) (l0 : List V) (o2 : List V) (hm : m_ropewalkkit_LentValues N l0 = some o2) : Spec Tryz.prog 53 [.slice qp0 l0.length qc1] [.sli 3 R_V qp0 qc1 l0] [] (fun v Φr Hr => ∃ (o0 : Option Addr) (o1 : Nat) (o3 : Nat), v = .slice o0 l0.length o1 ∧ Φr = [] ∧ Hr = [.own 149 3 R_V (.slice o0 o3 o1) o2]) := by
 unfold m_ropewalkkit_LentValues at hm
 refine spec_of Tryz.func53 rfl Tryz.ntmps53 rfl (S := [_]) rfl (fun C => (wc_seq (wc_region (wP rfl (wl_nil (we_then (wc_keep [0] (S' := [_]) rfl (wc_seq (wc_region (wP rfl (wN rfl tE_27 (wP rfl ?_))))))))))))
 obtain ⟨hg7, hm⟩ := gd_some hm
 refine wl_as (d := 7) (v' := .int .i64 ((l0.length + 12 : Nat) : Int)) (S' := [_,_,_]) rfl rfl (nat_add (a := l0.length) (b := 12) hg7) ?_
 obtain ⟨hg8, hm⟩ := gd_some hm
 refine wl_makeCap (m := l0.length + 12) R_V rfl rfl rfl (freshS_eq rfl) rfl rfl rfl rfl tE_27 tR_149 rfl rfl (Nat.le_trans (Nat.mul_le_mul_left _ hg8) (by decide)) (Nat.le_trans hg8 (by decide)) (fun g8 => (wP rfl (wl_nil (we_then (wc_keep [3,0] (S' := [_,_]) rfl (wc_seq (wc_region (wP rfl (wP rfl ?_)))))))))
 obtain ⟨hg11, hm⟩ := gd_some hm
 refine wl_append 0 0 rfl rfl rfl (freshS_eq rfl) rfl rfl rfl rfl rfl tE_27 tR_149 rfl rfl (Nat.le_trans hg11 (by decide)) (Nat.le_trans (Nat.mul_le_mul_right _ hg11) (by decide)) (H2 := fun p11 c11 => [.own 149 3 R_V (.slice p11 (l0).length c11) l0]) (fun _ _ => rfl) (fun p11 c11 => (wl_pure (S' := [_,_,_,_]) rfl rfl rfl rfl rfl (wl_nil (we_then (wc_keep [3,0] (S' := [_,_]) rfl (wc_seq ?_))))))
 obtain ⟨bj_1, hm, hLj_1⟩ := bindO_some hm
 refine wc_cut (σ := (List V) × (Option Addr) × Nat × Nat) (fun (j_1_3_l, j_1_3_p, j_1_3_c, j_1_3_n) => bj_1 = j_1_3_l) (fun (j_1_3_l, j_1_3_p, j_1_3_c, j_1_3_n) => [(3, .slice j_1_3_p j_1_3_n j_1_3_c), (0, .slice qp0 l0.length qc1)]) (fun (j_1_3_l, j_1_3_p, j_1_3_c, j_1_3_n) => [.sli 3 R_V qp0 qc1 l0]) (fun (j_1_3_l, j_1_3_p, j_1_3_c, j_1_3_n) => [.own 149 3 R_V (.slice j_1_3_p j_1_3_n j_1_3_c) j_1_3_l]) ?_ ?_
 ·
  refine wc_seq (wc_region (wP rfl (wl_nil (we_then (wc_block (wc_loop (σ := Nat × Nat × (List V) × (Option Addr) × Nat × Nat) (fun (nu1, u1_4, u1_3_l, u1_3_p, u1_3_c, u1_3_n) => iter (m_ropewalkkit_LentValues_L1 N) nu1 (u1_4, u1_3_l) = some bj_1) (fun (nu1, u1_4, u1_3_l, u1_3_p, u1_3_c, u1_3_n) => nu1) (fun (nu1, u1_4, u1_3_l, u1_3_p, u1_3_c, u1_3_n) => [(4, .int .i64 ((u1_4 : Nat) : Int)), (3, .slice u1_3_p u1_3_n u1_3_c), (0, .slice qp0 l0.length qc1)]) (fun (nu1, u1_4, u1_3_l, u1_3_p, u1_3_c, u1_3_n) => [.sli 3 R_V qp0 qc1 l0]) (fun (nu1, u1_4, u1_3_l, u1_3_p, u1_3_c, u1_3_n) => [.own 149 3 R_V (.slice u1_3_p u1_3_n u1_3_c) u1_3_l]) (N, 0, l0, p11, c11, (l0).length) hm [4,3,0] rfl (asK [0] rfl) rfl (fun s_ hm => ?_)))))))
  obtain ⟨nu1, u1_4, u1_3_l, u1_3_p, u1_3_c, u1_3_n⟩ := s_
  try dsimp only at hm ⊢
  obtain ⟨mu1, bu1, hnu1, hq, hLu1⟩ := iter_some hm
  clear hm
  subst hnu1
  replace hm := hq
  clear hq
  unfold m_ropewalkkit_LentValues_L1 at hm
  try dsimp only at hm
  refine wc_seq (wc_seq (wc_region (wP rfl (wP rfl (wl_as (d := 13) (v' := .bool (decide (u1_4 < 12))) (S' := [_,_,_,_]) rfl rfl (natlt (a := u1_4) (b := 12)) (wl_nil (we_then (wc_keep [13,4,3,0] (S' := [_,_,_,_]) rfl ?_))))))))
  refine wc_cond rfl (fun hb13 => ?_) (fun hb13 => ?_)
  ·
   replace hm := iteT hm hb13
   refine wc_keep [4,3,0] (S' := [_,_,_]) rfl (wc_skip (we_then (wc_seq (wc_block (wc_region (wP rfl (wP rfl ?_)))))))
   obtain ⟨_, hc18, hm⟩ := bindO_some hm
   try dsimp only at hm
   refine wC [] [0] rfl fn_97 rfl (w_ropewalkkit_markValue_s N 1 ((u1_4 : Nat) : Int) hc18) (asK [] rfl) rfl (H' := [_]) rfl ?_
   rintro _ _ _ ⟨rfl, rfl, rfl⟩
   refine wl_buildSlice rfl rfl rfl (freshS_eq rfl) rfl tE_27 tS_149 tZ_149 rfl (zs := [.int .u8 0, .int .i64 0, .string ((⟨#[]⟩ : ByteArray))]) (by kernel_rfl) rfl (out := [_,_,_]) rfl (fun g19 => ?_)
   obtain ⟨hg20, hm⟩ := gd_some hm
   refine wl_appendH ([(⟨0, (IntKind.wrap .i64 ((IntKind.wrap .i64 (1000003 * (IntKind.wrap .i64 (1 + 7)))) + ((u1_4 : Nat) : Int))), (⟨#[]⟩ : ByteArray)⟩ : V)]) 1 0 rfl rfl rfl (freshS_eq rfl) rfl rfl rfl rfl rfl (fun F w hφ => ⟨[.int .u8 0, .int .i64 (IntKind.wrap .i64 ((IntKind.wrap .i64 (1000003 * (IntKind.wrap .i64 (1 + 7)))) + ((u1_4 : Nat) : Int))), .string ((⟨#[]⟩ : ByteArray))],[], rfl, rfl, ⟨(), rfl, ask_nil⟩, rfl⟩) tE_27 tR_149 rfl rfl (Nat.le_trans hg20 (by decide)) (Nat.le_trans (Nat.mul_le_mul_right _ hg20) (by decide)) (H2 := fun p20 c20 => [_, .own 149 3 R_V (.slice p20 ((u1_3_l ++ ([(⟨0, (IntKind.wrap .i64 ((IntKind.wrap .i64 (1000003 * (IntKind.wrap .i64 (1 + 7)))) + ((u1_4 : Nat) : Int))), (⟨#[]⟩ : ByteArray)⟩ : V)])).length) c20) (u1_3_l ++ ([(⟨0, (IntKind.wrap .i64 ((IntKind.wrap .i64 (1000003 * (IntKind.wrap .i64 (1 + 7)))) + ((u1_4 : Nat) : Int))), (⟨#[]⟩ : ByteArray)⟩ : V)]))]) (fun _ _ => rfl) (fun p20 c20 => (wl_drop 0 rfl (H' := [_]) rfl (wl_pure (S' := [_,_,_,_,_,_,_]) rfl rfl rfl rfl rfl (wl_nil (we_block_normal (we_then (wc_keep [3,4,0] (S' := [_,_,_]) rfl (wc_region (wP rfl (wP rfl ?_))))))))))
   obtain ⟨hg15, hm⟩ := gd_some hm
   refine wl_as (d := 15) (v' := .int .i64 ((u1_4 + 1 : Nat) : Int)) (S' := [_,_,_,_]) rfl rfl (nat_add (a := u1_4) (b := 1) hg15) (wl_pure (S' := [_,_,_,_]) rfl rfl rfl rfl rfl (wl_nil ?_))
   have hE := (Option.some.inj hm).symm
   replace hE := link_inl hLu1 hE
   refine we_roundK (_, u1_4 + 1, (u1_3_l ++ ([(⟨0, (IntKind.wrap .i64 ((IntKind.wrap .i64 (1000003 * (IntKind.wrap .i64 (1 + 7)))) + ((u1_4 : Nat) : Int))), (⟨#[]⟩ : ByteArray)⟩ : V)])), p20, c20, ((u1_3_l ++ ([(⟨0, (IntKind.wrap .i64 ((IntKind.wrap .i64 (1000003 * (IntKind.wrap .i64 (1 + 7)))) + ((u1_4 : Nat) : Int))), (⟨#[]⟩ : ByteArray)⟩ : V)])).length)) (Nat.lt_succ_self _) hE [4,3,0] rfl (asK [0] rfl) rfl
  ·
   replace hm := iteF hm hb13
   refine wc_keep [3,0] (S' := [_,_]) rfl (wc_exit (we_then_exit (we_then_exit (we_block_hit ?_))))
   have hE := (Option.some.inj hm).symm
   replace hE := link_inr hLu1 hE
   refine we_join (u1_3_l, u1_3_p, u1_3_c, u1_3_n) hE [3,0] rfl (asK [0] rfl) rfl
 ·
  rintro ⟨j_1_3_l, j_1_3_p, j_1_3_c, j_1_3_n⟩ hE
  try dsimp only
  have hm := hLj_1
  rw [hE] at hm
  refine wc_seq (wc_region (wP rfl (wP rfl (wN rfl tE_27 ?_))))
  obtain ⟨hg24, hm⟩ := gd_some hm
  refine wl_ownSpot 0 rfl (fun hsp24 hcm24 => (wl_sliceTo rfl rfl rfl (freshS_eq rfl) rfl rfl rfl rfl tE_27 tS_149 (Nat.le_trans hg24 (by rw [← hcm24.2]; exact hcm24.1)) hsp24 (wP rfl (wl_nil (we_then (wc_keep [2] (S' := [_]) rfl (wc_ret ?_)))))))
  have hE := (Option.some.inj hm).symm
  replace hE := hE.symm
  subst hE
  refine ret_one (Hr := [_]) [0] Tryz.results53 (res_tmp rfl) ⟨j_1_3_p, j_1_3_c, j_1_3_n, rfl, rfl, rfl⟩ (asK [] rfl) rfl rfl (.inl rfl)
theorem w_ropewalkkit_LentFact_s (N : Nat) (a0 : Int) (a1 : Int) (qp0 : Option Addr) (qc1 : Nat) (l2 : List V) (o2 : List V) (hm : m_ropewalkkit_LentFact N a0 a1 l2 = some o2) : Spec Tryz.prog 95 [.agg #[.int .i64 a0, .int .i64 a1, .slice qp0 l2.length qc1]] [.sli 3 R_V qp0 qc1 l2] [] (fun v Φr Hr => ∃ (o0 : Option Addr) (o1 : Nat) (o3 : Nat), v = .agg #[.int .i64 a0, .int .i64 a1, .slice o0 l2.length o1] ∧ Φr = [] ∧ Hr = [.own 149 3 R_V (.slice o0 o3 o1) o2]) := by
 unfold m_ropewalkkit_LentFact at hm
 refine spec_of Tryz.func95 rfl Tryz.ntmps95 rfl (S := [_]) rfl (fun C => (wc_seq (wc_region (wB rfl (fun g1 => (wl_alloc rfl rfl rfl (freshS_eq rfl) rfl tZ_55 rfl (fun g2 => (wl_nil (we_then (wc_keep [2,1] (S' := [_,_]) rfl (wc_seq (wc_region (wF rfl tF_55_2 (wD 1 2 rfl tS_27 tA_27 rfl ?_))))))))))))))
 obtain ⟨v5, hc5, hm⟩ := bindO_some hm
 refine wC [] [0,1] rfl fn_53 rfl (w_ropewalkkit_LentValues_s N qp0 qc1 l2 _ hc5) (asK [0] rfl) rfl (H' := [_,_]) rfl ?_
 rintro _ _ _ ⟨p5_0, c5_1, c5_2, rfl, rfl, rfl⟩
 refine wF rfl tF_55_2 (wS 2 2 rfl tS_27 (all' := [_,_,_]) rfl (H' := [_,_,_]) rfl (wl_nil (we_then (wc_keep [2,1] (S' := [_,_]) rfl (wc_seq (wc_region (wl_loadH 2 0 rfl rfl rfl (freshS_eq rfl) rfl rfl rfl (cs := [_,_,_]) rfl tS_55 tA_55 rfl rfl (wS 1 0 rfl tS_55 (all' := [_,_,_]) rfl (H' := [_,_,_]) rfl (wl_nil (we_then (wc_keep [2] (S' := [_]) rfl (wc_ret ?_))))))))))))
 have hE := (Option.some.inj hm).symm
 replace hE := hE.symm
 subst hE
 refine ret_one (Hr := [_]) [0] Tryz.results95 (res_cell 1 rfl rfl tS_55 tA_55 rfl rfl) ⟨p5_0, c5_1, c5_2, rfl, rfl, rfl⟩ (asK [] rfl) rfl rfl (.inl rfl)
theorem w_ropewalkkit_markFact_s (N : Nat) (a0 : Int) (a1 : Int)  (hm : m_ropewalkkit_markFact N a0 a1 = some ()) : Spec Tryz.prog 96 [.int .i64 a0, .int .i64 a1] [] [] (fun v Φr Hr => v = .agg #[.int .i64 (IntKind.wrap .i64 ((IntKind.wrap .i64 (1000003 * (IntKind.wrap .i64 (a0 + 7)))) + a1)), .int .i64 0, .slice none 0 0] ∧ Φr = [] ∧ Hr = []) := by
 unfold m_ropewalkkit_markFact at hm
 refine spec_of Tryz.func96 rfl Tryz.ntmps96 rfl (S := [_,_]) rfl (fun C => (wc_seq (wc_region (wl_alloc rfl rfl rfl (freshS_eq rfl) rfl tZ_55 rfl (fun g4 => (wl_nil (we_then (wc_seq (wc_region (wP rfl (wP rfl ?_)))))))))))
 obtain ⟨_, hc7, hm⟩ := bindO_some hm
 try dsimp only at hm
 refine wC [] [0] rfl fn_48 rfl (w_ropewalkkit_mark_s N a0 a1 hc7) (asK [] rfl) rfl (H' := [_]) rfl ?_
 rintro _ _ _ ⟨rfl, rfl, rfl⟩
 refine wl_build rfl rfl rfl (freshS_eq rfl) rfl tZ_55 tP_55 rfl (out := [_,_,_]) rfl (wS 0 0 rfl tS_55 (all' := [_,_,_]) rfl (H' := [_]) rfl (wl_nil (we_then (wc_keep [4] (S' := [_]) rfl (wc_ret ?_)))))
 have hE := (Option.some.inj hm).symm
 refine ret_one (Hr := []) [] Tryz.results96 (res_cell 0 rfl rfl tS_55 tA_55 rfl rfl) ⟨rfl, rfl, rfl⟩ (asK [] rfl) rfl rfl (.inl rfl)
theorem w_ropewalkkit_LentFacts_s (N : Nat) (qp0 : Option Addr) (qc1 : Nat) (l0 : List FactD) (o2 : List FactDS) (hm : m_ropewalkkit_LentFacts N l0 = some o2) : Spec Tryz.prog 52 [.slice qp0 l0.length qc1] [.sli 3 R_FactD qp0 qc1 l0] [] (fun v Φr Hr => ∃ (o0 : Option Addr) (o1 : Nat) (o3 : Nat), v = .slice o0 l0.length o1 ∧ Φr = [] ∧ Hr = [treeF TS_FactD 55 3 (.slice o0 o3 o1) o2]) := by
 unfold m_ropewalkkit_LentFacts at hm
 refine spec_of Tryz.func52 rfl Tryz.ntmps52 rfl (S := [_]) rfl (fun C => (wc_seq (wc_region (wP rfl (wl_nil (we_then (wc_keep [0] (S' := [_]) rfl (wc_seq (wc_region (wP rfl (wN rfl tE_26 (wP rfl ?_))))))))))))
 obtain ⟨hg9, hm⟩ := gd_some hm
 refine wl_as (d := 9) (v' := .int .i64 ((l0.length + 12 : Nat) : Int)) (S' := [_,_,_]) rfl rfl (nat_add (a := l0.length) (b := 12) hg9) ?_
 obtain ⟨hg10, hm⟩ := gd_some hm
 refine wl_makeCap (m := l0.length + 12) T_FactD.pair rfl rfl rfl (freshS_eq rfl) rfl rfl rfl rfl tE_26 tR_55 rfl rfl (Nat.le_trans (Nat.mul_le_mul_left _ hg10) (by decide)) (Nat.le_trans hg10 (by decide)) (fun g10 => (wl_sh [bagF T_FactD [] none, _] (fun _ h => h.bagNil T_FactD) (wl_sh [treeF T_FactD 55 3 (.slice (some ⟨g10,0, none⟩) 0 (l0.length + 12)) []] (fun _ h => h.treeIn 1 0 rfl rfl rfl rfl) (wP rfl (wl_nil (we_then (wc_keep [3,0] (S' := [_,_]) rfl (wc_seq ?_))))))))
 obtain ⟨bj_1, hm, hLj_1⟩ := bindO_some hm
 refine wc_cut (σ := (List FactDS) × (Option Addr) × Nat × Nat) (fun (j_1_3_l, j_1_3_p, j_1_3_c, j_1_3_n) => bj_1 = j_1_3_l) (fun (j_1_3_l, j_1_3_p, j_1_3_c, j_1_3_n) => [(3, .slice j_1_3_p j_1_3_n j_1_3_c), (0, .slice qp0 l0.length qc1)]) (fun (j_1_3_l, j_1_3_p, j_1_3_c, j_1_3_n) => [.sli 3 R_FactD qp0 qc1 l0]) (fun (j_1_3_l, j_1_3_p, j_1_3_c, j_1_3_n) => [treeF TS_FactD 55 3 (.slice j_1_3_p j_1_3_n j_1_3_c) j_1_3_l]) ?_ ?_
 ·
  refine wc_seq (wc_region (wP rfl (wl_nil (we_then (wc_block (wc_sh [treeF TS_FactD 55 3 (.slice (some ⟨g10,0, none⟩) 0 (l0.length + 12)) []] (fun _ h => h.treeKind TS_FactD 0 rfl) (wc_loop (σ := Nat × Nat × (List FactDS) × (Option Addr) × Nat × Nat) (fun (nu1, u1_4, u1_3_l, u1_3_p, u1_3_c, u1_3_n) => iter (m_ropewalkkit_LentFacts_L1 N l0) nu1 (u1_4, u1_3_l) = some bj_1) (fun (nu1, u1_4, u1_3_l, u1_3_p, u1_3_c, u1_3_n) => nu1) (fun (nu1, u1_4, u1_3_l, u1_3_p, u1_3_c, u1_3_n) => [(4, .int .i64 ((u1_4 : Nat) : Int)), (3, .slice u1_3_p u1_3_n u1_3_c), (0, .slice qp0 l0.length qc1)]) (fun (nu1, u1_4, u1_3_l, u1_3_p, u1_3_c, u1_3_n) => [.sli 3 R_FactD qp0 qc1 l0]) (fun (nu1, u1_4, u1_3_l, u1_3_p, u1_3_c, u1_3_n) => [treeF TS_FactD 55 3 (.slice u1_3_p u1_3_n u1_3_c) u1_3_l]) (N, 0,[], some ⟨g10,0, none⟩, l0.length + 12,0) hm [4,3,0] rfl (asK [0] rfl) rfl (fun s_ hm => ?_))))))))
  obtain ⟨nu1, u1_4, u1_3_l, u1_3_p, u1_3_c, u1_3_n⟩ := s_
  try dsimp only at hm ⊢
  obtain ⟨mu1, bu1, hnu1, hq, hLu1⟩ := iter_some hm
  clear hm
  subst hnu1
  replace hm := hq
  clear hq
  unfold m_ropewalkkit_LentFacts_L1 at hm
  try dsimp only at hm
  refine wc_seq (wc_seq (wc_region (wP rfl (wP rfl (wN rfl tE_26 (wP rfl (wl_as (d := 14) (v' := .bool (decide (u1_4 < l0.length))) (S' := [_,_,_,_,_,_]) rfl rfl (natlt (a := u1_4) (b := l0.length)) (wl_nil (we_then (wc_keep [14,4,3,0] (S' := [_,_,_,_]) rfl ?_))))))))))
  refine wc_cond rfl (fun hb14 => ?_) (fun hb14 => ?_)
  ·
   replace hm := iteT hm hb14
   refine wc_keep [4,3,0] (S' := [_,_,_]) rfl (wc_skip (we_then (wc_seq (wc_block (wc_seq (wc_region (wP rfl (wP rfl ?_))))))))
   obtain ⟨x19, hx19, hm⟩ := bindO_some hm
   refine wl_indexA 0 u1_4 rfl rfl rfl (freshS_eq rfl) rfl rfl rfl rfl rfl hx19 tE_26 tS_55 (fun b19 q19 cs19 hlx19 => (wl_open R_FactD_opens 1 rfl (fun r19 er19 _ => ?_)))
   subst er19
   refine wl_load 1 0 rfl rfl rfl (freshS_eq rfl) rfl rfl rfl (cs := [_,_,_]) rfl tS_55 tA_55 rfl rfl ?_
   obtain ⟨v21, hc21, hm⟩ := bindO_some hm
   refine wC [] [0] rfl fn_95 rfl (w_ropewalkkit_LentFact_s N x19.id x19.ty r19.1 r19.2 x19.args _ hc21) (asK [0] rfl) rfl (H' := [_]) rfl ?_
   rintro _ _ _ ⟨p21_0, c21_1, c21_2, rfl, rfl, rfl⟩
   refine wl_alloc rfl rfl rfl (freshS_eq rfl) rfl tZ_55 rfl (fun g5 => (wS 0 0 rfl tS_55 (all' := [_,_,_]) rfl (H' := [_,_,_]) rfl (wl_nil (we_then (wc_keep [5,4,3,0] (S' := [_,_,_,_]) rfl (wc_region (wP rfl (wl_loadH 0 0 rfl rfl rfl (freshS_eq rfl) rfl rfl rfl (cs := [_,_,_]) rfl tS_55 tA_55 rfl rfl (wl_buildSlice rfl rfl rfl (freshS_eq rfl) rfl tE_26 tS_55 tZ_55 rfl (zs := [.int .i64 0, .int .i64 0, .slice none 0 0]) (by kernel_rfl) rfl (out := [_,_,_]) rfl (fun g24 => (wl_treeLen 3 rfl (fun hzt8 _ => ?_))))))))))))
   subst hzt8
   refine wl_ownLen 2 rfl (fun hzc21_2 _ => ?_)
   subst hzc21_2
   obtain ⟨hzk23, hm⟩ := gd_some hm
   refine wl_hAs 2 (φ' := .own 149 3 R_V (.slice p21_0 ((v21.take x19.args.length ++ v21.drop x19.args.length).length) c21_1) (v21.take x19.args.length ++ v21.drop x19.args.length)) rfl (by rw [List.take_append_drop]) (H' := [_,_,_,_]) rfl (wl_at 1 (v' := .agg #[.int .i64 (x19.id), .int .i64 (x19.ty), .slice p21_0 ((v21.take x19.args.length).length) c21_1]) rfl (by rw [take_len hzk23]) (wl_hAs 0 (φ' := .blk g24 [.int .i64 (x19.id), .int .i64 (x19.ty), .slice p21_0 ((v21.take x19.args.length).length) c21_1] 55) rfl (by rw [take_len hzk23]) (H' := [_,_,_,_]) rfl (wl_hAs 1 (φ' := .blk g5 [.int .i64 (x19.id), .int .i64 (x19.ty), .slice p21_0 ((v21.take x19.args.length).length) c21_1] 55) rfl (by rw [take_len hzk23]) (H' := [_,_,_,_]) rfl (wl_treeOut 3 rfl (fun zz25 hzz25 => ?_)))))
   obtain ⟨hg25, hm⟩ := gd_some hm
   have hzs24 : List.map (fun x : FactDS × (Option Addr × Nat) => x.1) (zz25 ++ [((⟨x19.id, x19.ty, v21.take x19.args.length, v21.drop x19.args.length⟩ : FactDS), (p21_0, c21_1))]) = u1_3_l ++ [(⟨x19.id, x19.ty, v21.take x19.args.length, v21.drop x19.args.length⟩ : FactDS)] := pair_app hzz25 (us := [(⟨x19.id, x19.ty, v21.take x19.args.length, v21.drop x19.args.length⟩ : FactDS)]) rfl
   have hgl25 : zz25.length + ([((⟨x19.id, x19.ty, v21.take x19.args.length, v21.drop x19.args.length⟩ : FactDS), (p21_0, c21_1))] : List (FactDS × (Option Addr × Nat))).length ≤ 3518437208883 := by rw [pair_len hzz25]; exact hg25
   refine wl_appendH (R := TS_FactD.pair) ([((⟨x19.id, x19.ty, v21.take x19.args.length, v21.drop x19.args.length⟩ : FactDS), (p21_0, c21_1))]) 4 1 rfl rfl rfl (freshS_eq rfl) rfl rfl rfl rfl rfl (fun F w hφ => ⟨[.int .i64 (x19.id), .int .i64 (x19.ty), .slice p21_0 ((v21.take x19.args.length).length) c21_1],[], rfl, rfl, rfl, rfl⟩) tE_26 tR_55 rfl rfl (Nat.le_trans hgl25 (by decide)) (Nat.le_trans (Nat.mul_le_mul_right _ hgl25) (by decide)) (H2 := fun p25 c25 => [_,_,_,_, .own 55 3 TS_FactD.pair (.slice p25 ((zz25 ++ [((⟨x19.id, x19.ty, v21.take x19.args.length, v21.drop x19.args.length⟩ : FactDS), (p21_0, c21_1))]).length) c25) (zz25 ++ [((⟨x19.id, x19.ty, v21.take x19.args.length, v21.drop x19.args.length⟩ : FactDS), (p21_0, c21_1))])]) (fun _ _ => rfl) (fun p25 c25 => (wl_drop 1 rfl (H' := [_,_,_,_]) rfl (wl_as (d := 25) (v' := .slice p25 ((u1_3_l ++ [(⟨x19.id, x19.ty, v21.take x19.args.length, v21.drop x19.args.length⟩ : FactDS)]).length) c25) (S' := [_,_,_,_,_,_,_]) rfl rfl (by rw [pair_len hzs24]) (wl_hAs 3 (φ' := .own 55 3 TS_FactD.pair (.slice p25 ((u1_3_l ++ [(⟨x19.id, x19.ty, v21.take x19.args.length, v21.drop x19.args.length⟩ : FactDS)]).length) c25) (zz25 ++ [((⟨x19.id, x19.ty, v21.take x19.args.length, v21.drop x19.args.length⟩ : FactDS), (p21_0, c21_1))])) rfl (by rw [pair_len hzs24]) (H' := [_,_,_,_]) rfl (wl_pick [2,0,1,3] rfl (H' := [_,_,_,_]) rfl (wl_sh [bagF TS_FactD (zz25 ++ [((⟨x19.id, x19.ty, v21.take x19.args.length, v21.drop x19.args.length⟩ : FactDS), (p21_0, c21_1))]) none, _,_] (fun _ h => Holds.bagPush (T := TS_FactD) (x := (⟨x19.id, x19.ty, v21.take x19.args.length, v21.drop x19.args.length⟩ : FactDS)) (r := (p21_0, c21_1)) (zs := zz25) (H := [_,_,_]) h 0 rfl) (wl_sh [_, treeF TS_FactD 55 3 (.slice p25 ((u1_3_l ++ [(⟨x19.id, x19.ty, v21.take x19.args.length, v21.drop x19.args.length⟩ : FactDS)]).length) c25) (u1_3_l ++ [(⟨x19.id, x19.ty, v21.take x19.args.length, v21.drop x19.args.length⟩ : FactDS)])] (fun _ h => h.treeIn 2 0 rfl rfl rfl hzs24) (wl_pure (S' := [_,_,_,_,_,_,_]) rfl rfl rfl rfl rfl (wl_nil (we_block_normal (we_then (wc_keep [3,4,0] (S' := [_,_,_]) rfl (wc_region (wP rfl ?_))))))))))))))
   refine wP rfl ?_
   obtain ⟨hg16, hm⟩ := gd_some hm
   refine wl_as (d := 16) (v' := .int .i64 ((u1_4 + 1 : Nat) : Int)) (S' := [_,_,_,_]) rfl rfl (nat_add (a := u1_4) (b := 1) hg16) (wl_pure (S' := [_,_,_,_]) rfl rfl rfl rfl rfl (wl_nil ?_))
   have hE := (Option.some.inj hm).symm
   replace hE := link_inl hLu1 hE
   refine we_pick [1] rfl (H' := [_]) rfl ?_
   refine we_roundK (_, u1_4 + 1, (u1_3_l ++ [(⟨x19.id, x19.ty, v21.take x19.args.length, v21.drop x19.args.length⟩ : FactDS)]), p25, c25, ((u1_3_l ++ [(⟨x19.id, x19.ty, v21.take x19.args.length, v21.drop x19.args.length⟩ : FactDS)]).length)) (Nat.lt_succ_self _) hE [4,3,0] rfl (asK [3] rfl) rfl
  ·
   replace hm := iteF hm hb14
   refine wc_keep [3,0] (S' := [_,_]) rfl (wc_exit (we_then_exit (we_then_exit (we_block_hit ?_))))
   have hE := (Option.some.inj hm).symm
   replace hE := link_inr hLu1 hE
   refine we_join (u1_3_l, u1_3_p, u1_3_c, u1_3_n) hE [3,0] rfl (asK [0] rfl) rfl
 ·
  rintro ⟨j_1_3_l, j_1_3_p, j_1_3_c, j_1_3_n⟩ hE
  try dsimp only
  have hm := hLj_1
  rw [hE] at hm
  refine wc_seq ?_
  obtain ⟨bj_2, hm, hLj_2⟩ := bindO_some hm
  refine wc_cut (σ := (List FactDS) × (Option Addr) × Nat × Nat) (fun (j_2_3_l, j_2_3_p, j_2_3_c, j_2_3_n) => bj_2 = j_2_3_l) (fun (j_2_3_l, j_2_3_p, j_2_3_c, j_2_3_n) => [(3, .slice j_2_3_p j_2_3_n j_2_3_c), (0, .slice qp0 l0.length qc1)]) (fun (j_2_3_l, j_2_3_p, j_2_3_c, j_2_3_n) => [.sli 3 R_FactD qp0 qc1 l0]) (fun (j_2_3_l, j_2_3_p, j_2_3_c, j_2_3_n) => [treeF TS_FactD 55 3 (.slice j_2_3_p j_2_3_n j_2_3_c) j_2_3_l]) ?_ ?_
  ·
   refine wc_seq (wc_region (wP rfl (wl_nil (we_then (wc_block (wc_loop (σ := Nat × Nat × (List FactDS) × (Option Addr) × Nat × Nat) (fun (nu2, u2_6, u2_3_l, u2_3_p, u2_3_c, u2_3_n) => iter (m_ropewalkkit_LentFacts_L2 N) nu2 (u2_6, u2_3_l) = some bj_2) (fun (nu2, u2_6, u2_3_l, u2_3_p, u2_3_c, u2_3_n) => nu2) (fun (nu2, u2_6, u2_3_l, u2_3_p, u2_3_c, u2_3_n) => [(6, .int .i64 ((u2_6 : Nat) : Int)), (3, .slice u2_3_p u2_3_n u2_3_c), (0, .slice qp0 l0.length qc1)]) (fun (nu2, u2_6, u2_3_l, u2_3_p, u2_3_c, u2_3_n) => [.sli 3 R_FactD qp0 qc1 l0]) (fun (nu2, u2_6, u2_3_l, u2_3_p, u2_3_c, u2_3_n) => [treeF TS_FactD 55 3 (.slice u2_3_p u2_3_n u2_3_c) u2_3_l]) (N, 0, j_1_3_l, j_1_3_p, j_1_3_c, j_1_3_n) hm [6,3,0] rfl (asK [0] rfl) rfl (fun s_ hm => ?_)))))))
   obtain ⟨nu2, u2_6, u2_3_l, u2_3_p, u2_3_c, u2_3_n⟩ := s_
   try dsimp only at hm ⊢
   obtain ⟨mu2, bu2, hnu2, hq, hLu2⟩ := iter_some hm
   clear hm
   subst hnu2
   replace hm := hq
   clear hq
   unfold m_ropewalkkit_LentFacts_L2 at hm
   try dsimp only at hm
   refine wc_seq (wc_seq (wc_region (wP rfl (wP rfl (wl_as (d := 27) (v' := .bool (decide (u2_6 < 12))) (S' := [_,_,_,_]) rfl rfl (natlt (a := u2_6) (b := 12)) (wl_nil (we_then (wc_keep [27,6,3,0] (S' := [_,_,_,_]) rfl ?_))))))))
   refine wc_cond rfl (fun hb27 => ?_) (fun hb27 => ?_)
   ·
    replace hm := iteT hm hb27
    refine wc_keep [6,3,0] (S' := [_,_,_]) rfl (wc_skip (we_then (wc_seq (wc_block (wc_region (wP rfl (wP rfl ?_)))))))
    obtain ⟨_, hc32, hm⟩ := bindO_some hm
    try dsimp only at hm
    refine wC [] [0] rfl fn_96 rfl (w_ropewalkkit_markFact_s N 1 ((u2_6 : Nat) : Int) hc32) (asK [] rfl) rfl (H' := [_]) rfl ?_
    rintro _ _ _ ⟨rfl, rfl, rfl⟩
    refine wl_buildSlice rfl rfl rfl (freshS_eq rfl) rfl tE_26 tS_55 tZ_55 rfl (zs := [.int .i64 0, .int .i64 0, .slice none 0 0]) (by kernel_rfl) rfl (out := [_,_,_]) rfl (fun g33 => (wl_treeLen 1 rfl (fun hzt20 _ => ?_)))
    subst hzt20
    refine wl_rowNil 149 3 R_V (wl_hAs 0 (φ' := .own 149 3 R_V (.slice none ((([] : List V) ++ []).length) 0) (([] : List V) ++ [])) rfl rfl (H' := [_,_,_]) rfl (wl_treeOut 2 rfl (fun zz34 hzz34 => ?_)))
    obtain ⟨hg34, hm⟩ := gd_some hm
    have hzs36 : List.map (fun x : FactDS × (Option Addr × Nat) => x.1) (zz34 ++ [((⟨(IntKind.wrap .i64 ((IntKind.wrap .i64 (1000003 * (IntKind.wrap .i64 (1 + 7)))) + ((u2_6 : Nat) : Int))), 0, ([] : List V), []⟩ : FactDS), (none, 0))]) = u2_3_l ++ [(⟨(IntKind.wrap .i64 ((IntKind.wrap .i64 (1000003 * (IntKind.wrap .i64 (1 + 7)))) + ((u2_6 : Nat) : Int))), 0, ([] : List V), []⟩ : FactDS)] := pair_app hzz34 (us := [(⟨(IntKind.wrap .i64 ((IntKind.wrap .i64 (1000003 * (IntKind.wrap .i64 (1 + 7)))) + ((u2_6 : Nat) : Int))), 0, ([] : List V), []⟩ : FactDS)]) rfl
    have hgl34 : zz34.length + ([((⟨(IntKind.wrap .i64 ((IntKind.wrap .i64 (1000003 * (IntKind.wrap .i64 (1 + 7)))) + ((u2_6 : Nat) : Int))), 0, ([] : List V), []⟩ : FactDS), (none, 0))] : List (FactDS × (Option Addr × Nat))).length ≤ 3518437208883 := by rw [pair_len hzz34]; exact hg34
    refine wl_appendH (R := TS_FactD.pair) ([((⟨(IntKind.wrap .i64 ((IntKind.wrap .i64 (1000003 * (IntKind.wrap .i64 (1 + 7)))) + ((u2_6 : Nat) : Int))), 0, ([] : List V), []⟩ : FactDS), (none, 0))]) 3 2 rfl rfl rfl (freshS_eq rfl) rfl rfl rfl rfl rfl (fun F w hφ => ⟨[.int .i64 (IntKind.wrap .i64 ((IntKind.wrap .i64 (1000003 * (IntKind.wrap .i64 (1 + 7)))) + ((u2_6 : Nat) : Int))), .int .i64 0, .slice none 0 0],[], rfl, rfl, rfl, rfl⟩) tE_26 tR_55 rfl rfl (Nat.le_trans hgl34 (by decide)) (Nat.le_trans (Nat.mul_le_mul_right _ hgl34) (by decide)) (H2 := fun p34 c34 => [_,_,_, .own 55 3 TS_FactD.pair (.slice p34 ((zz34 ++ [((⟨(IntKind.wrap .i64 ((IntKind.wrap .i64 (1000003 * (IntKind.wrap .i64 (1 + 7)))) + ((u2_6 : Nat) : Int))), 0, ([] : List V), []⟩ : FactDS), (none, 0))]).length) c34) (zz34 ++ [((⟨(IntKind.wrap .i64 ((IntKind.wrap .i64 (1000003 * (IntKind.wrap .i64 (1 + 7)))) + ((u2_6 : Nat) : Int))), 0, ([] : List V), []⟩ : FactDS), (none, 0))])]) (fun _ _ => rfl) (fun p34 c34 => (wl_drop 2 rfl (H' := [_,_,_]) rfl (wl_as (d := 34) (v' := .slice p34 ((u2_3_l ++ [(⟨(IntKind.wrap .i64 ((IntKind.wrap .i64 (1000003 * (IntKind.wrap .i64 (1 + 7)))) + ((u2_6 : Nat) : Int))), 0, ([] : List V), []⟩ : FactDS)]).length) c34) (S' := [_,_,_,_,_,_,_]) rfl rfl (by rw [pair_len hzs36]) (wl_hAs 2 (φ' := .own 55 3 TS_FactD.pair (.slice p34 ((u2_3_l ++ [(⟨(IntKind.wrap .i64 ((IntKind.wrap .i64 (1000003 * (IntKind.wrap .i64 (1 + 7)))) + ((u2_6 : Nat) : Int))), 0, ([] : List V), []⟩ : FactDS)]).length) c34) (zz34 ++ [((⟨(IntKind.wrap .i64 ((IntKind.wrap .i64 (1000003 * (IntKind.wrap .i64 (1 + 7)))) + ((u2_6 : Nat) : Int))), 0, ([] : List V), []⟩ : FactDS), (none, 0))])) rfl (by rw [pair_len hzs36]) (H' := [_,_,_]) rfl (wl_pick [1,0,2] rfl (H' := [_,_,_]) rfl (wl_sh [bagF TS_FactD (zz34 ++ [((⟨(IntKind.wrap .i64 ((IntKind.wrap .i64 (1000003 * (IntKind.wrap .i64 (1 + 7)))) + ((u2_6 : Nat) : Int))), 0, ([] : List V), []⟩ : FactDS), (none, 0))]) none, _] (fun _ h => Holds.bagPush (T := TS_FactD) (x := (⟨(IntKind.wrap .i64 ((IntKind.wrap .i64 (1000003 * (IntKind.wrap .i64 (1 + 7)))) + ((u2_6 : Nat) : Int))), 0, ([] : List V), []⟩ : FactDS)) (r := (none, 0)) (zs := zz34) (H := [_,_]) h 0 rfl) (wl_sh [treeF TS_FactD 55 3 (.slice p34 ((u2_3_l ++ [(⟨(IntKind.wrap .i64 ((IntKind.wrap .i64 (1000003 * (IntKind.wrap .i64 (1 + 7)))) + ((u2_6 : Nat) : Int))), 0, ([] : List V), []⟩ : FactDS)]).length) c34) (u2_3_l ++ [(⟨(IntKind.wrap .i64 ((IntKind.wrap .i64 (1000003 * (IntKind.wrap .i64 (1 + 7)))) + ((u2_6 : Nat) : Int))), 0, ([] : List V), []⟩ : FactDS)])] (fun _ h => h.treeIn 1 0 rfl rfl rfl hzs36) (wl_pure (S' := [_,_,_,_,_,_,_]) rfl rfl rfl rfl rfl (wl_nil (we_block_normal (we_then (wc_keep [3,6,0] (S' := [_,_,_]) rfl (wc_region (wP rfl ?_))))))))))))))
    refine wP rfl ?_
    obtain ⟨hg29, hm⟩ := gd_some hm
    refine wl_as (d := 29) (v' := .int .i64 ((u2_6 + 1 : Nat) : Int)) (S' := [_,_,_,_]) rfl rfl (nat_add (a := u2_6) (b := 1) hg29) (wl_pure (S' := [_,_,_,_]) rfl rfl rfl rfl rfl (wl_nil ?_))
    have hE := (Option.some.inj hm).symm
    replace hE := link_inl hLu2 hE
    refine we_roundK (_, u2_6 + 1, (u2_3_l ++ [(⟨(IntKind.wrap .i64 ((IntKind.wrap .i64 (1000003 * (IntKind.wrap .i64 (1 + 7)))) + ((u2_6 : Nat) : Int))), 0, ([] : List V), []⟩ : FactDS)]), p34, c34, ((u2_3_l ++ [(⟨(IntKind.wrap .i64 ((IntKind.wrap .i64 (1000003 * (IntKind.wrap .i64 (1 + 7)))) + ((u2_6 : Nat) : Int))), 0, ([] : List V), []⟩ : FactDS)]).length)) (Nat.lt_succ_self _) hE [6,3,0] rfl (asK [0] rfl) rfl
   ·
    replace hm := iteF hm hb27
    refine wc_keep [3,0] (S' := [_,_]) rfl (wc_exit (we_then_exit (we_then_exit (we_block_hit ?_))))
    have hE := (Option.some.inj hm).symm
    replace hE := link_inr hLu2 hE
    refine we_join (u2_3_l, u2_3_p, u2_3_c, u2_3_n) hE [3,0] rfl (asK [0] rfl) rfl
  ·
   rintro ⟨j_2_3_l, j_2_3_p, j_2_3_c, j_2_3_n⟩ hE
   try dsimp only
   have hm := hLj_2
   rw [hE] at hm
   refine wc_seq (wc_region (wP rfl (wP rfl (wN rfl tE_26 ?_))))
   obtain ⟨hg38, hm⟩ := gd_some hm
   refine wl_treeOut 0 rfl (fun zz38 hzz38 => ?_)
   have hgt38 : l0.length ≤ zz38.length := by rw [pair_len hzz38]; exact hg38
   refine wl_ownSpot 1 rfl (fun hsp38 hcm38 => (wl_sliceTo rfl rfl rfl (freshS_eq rfl) rfl rfl rfl rfl tE_26 tS_55 (Nat.le_trans hgt38 (by rw [← hcm38.2]; exact hcm38.1)) hsp38 (wP rfl (wl_nil (we_then (wc_keep [2] (S' := [_]) rfl (wc_ret ?_)))))))
   have hE := (Option.some.inj hm).symm
   replace hE := hE.symm
   subst hE
   refine we_sh [treeF TS_FactD 55 3 (.slice j_2_3_p j_2_3_n j_2_3_c) j_2_3_l] (fun _ h => h.treeIn 1 0 rfl rfl rfl hzz38) ?_
   refine ret_one (Hr := [_]) [0] Tryz.results52 (res_tmp rfl) ⟨j_2_3_p, j_2_3_c, j_2_3_n, rfl, rfl, rfl⟩ (asK [] rfl) rfl rfl (.inl rfl)
theorem w_ropewalkkit_LentReply_s (N : Nat) (a0 : Int) (a1 : Int) (qp0 : Option Addr) (qc1 : Nat) (l2 : List FactD) (qp2 : Option Addr) (qc3 : Nat) (l3 : List V) (o2 : List FactDS) (o6 : List V) (hm : m_ropewalkkit_LentReply N a0 a1 l2 l3 = some (o2, o6)) : Spec Tryz.prog 33 [.agg #[.int .i64 a0, .int .i64 a1, .slice qp0 l2.length qc1, .slice qp2 l3.length qc3]] [.sli 3 R_FactD qp0 qc1 l2, .sli 3 R_V qp2 qc3 l3] [] (fun v Φr Hr => ∃ (o0 : Option Addr) (o1 : Nat) (o3 : Nat) (o4 : Option Addr) (o5 : Nat) (o7 : Nat), v = .agg #[.int .i64 a0, .int .i64 a1, .slice o0 l2.length o1, .slice o4 l3.length o5] ∧ Φr = [] ∧ Hr = [treeF TS_FactD 55 3 (.slice o0 o3 o1) o2, .own 149 3 R_V (.slice o4 o7 o5) o6]) := by
 unfold m_ropewalkkit_LentReply at hm
 refine spec_of Tryz.func33 rfl Tryz.ntmps33 rfl (S := [_]) rfl (fun C => (wc_seq (wc_region (wB rfl (fun g1 => (wl_alloc rfl rfl rfl (freshS_eq rfl) rfl tZ_29 rfl (fun g2 => (wl_nil (we_then (wc_keep [2,1] (S' := [_,_]) rfl (wc_seq (wc_region (wF rfl tF_29_2 (wD 1 2 rfl tS_26 tA_26 rfl ?_))))))))))))))
 obtain ⟨v5, hc5, hm⟩ := bindO_some hm
 refine wC [] [0,1] rfl fn_52 rfl (w_ropewalkkit_LentFacts_s N qp0 qc1 l2 _ hc5) (asK [0] rfl) rfl (H' := [_,_]) rfl ?_
 rintro _ _ _ ⟨p5_0, c5_1, c5_2, rfl, rfl, rfl⟩
 refine wF rfl tF_29_2 (wS 2 2 rfl tS_26 (all' := [_,_,_,_]) rfl (H' := [_,_,_]) rfl (wl_nil (we_then (wc_keep [2,1] (S' := [_,_]) rfl (wc_seq (wc_region (wF rfl tF_29_3 (wD 2 3 rfl tS_27 tA_27 rfl ?_))))))))
 obtain ⟨v9, hc9, hm⟩ := bindO_some hm
 refine wC [] [0,1,2] rfl fn_53 rfl (w_ropewalkkit_LentValues_s N qp2 qc3 l3 _ hc9) (asK [1] rfl) rfl (H' := [_,_,_]) rfl ?_
 rintro _ _ _ ⟨p9_0, c9_1, c9_2, rfl, rfl, rfl⟩
 refine wF rfl tF_29_3 (wS 3 3 rfl tS_27 (all' := [_,_,_,_]) rfl (H' := [_,_,_,_]) rfl (wl_nil (we_then (wc_keep [2,1] (S' := [_,_]) rfl (wc_seq (wc_region (wl_loadH 3 0 rfl rfl rfl (freshS_eq rfl) rfl rfl rfl (cs := [_,_,_,_]) rfl tS_29 tA_29 rfl rfl (wS 2 0 rfl tS_29 (all' := [_,_,_,_]) rfl (H' := [_,_,_,_]) rfl (wl_nil (we_then (wc_keep [2] (S' := [_]) rfl (wc_ret ?_))))))))))))
 have hE := (Option.some.inj hm).symm
 obtain ⟨hE0, hE1⟩ := Prod.mk.inj hE
 clear hE
 replace hE0 := hE0.symm
 subst hE0
 replace hE1 := hE1.symm
 subst hE1
 refine ret_one (Hr := [_,_]) [1,0] Tryz.results33 (res_cell 2 rfl rfl tS_29 tA_29 rfl rfl) ⟨p5_0, c5_1, c5_2, p9_0, c9_1, c9_2, rfl, rfl, rfl⟩ (asK [] rfl) rfl rfl (.inl rfl)
theorem w_ropewalkkit_LentSession_s (N : Nat) (a0 : Int) (a1 : Int) (a2 : Int) (a3 : Int) (qp0 : Option Addr) (qc1 : Nat) (l4 : List FactD) (qp2 : Option Addr) (qc3 : Nat) (l5 : List V) (o2 : List FactDS) (o6 : List V) (hm : m_ropewalkkit_LentSession N a0 a1 a2 a3 l4 l5 = some (o2, o6)) : Spec Tryz.prog 23 [.agg #[.int .i64 a0, .int .i64 a1, .int .i64 a2, .int .i64 a3, .slice qp0 l4.length qc1, .slice qp2 l5.length qc3]] [.sli 3 R_FactD qp0 qc1 l4, .sli 3 R_V qp2 qc3 l5] [] (fun v Φr Hr => ∃ (o0 : Option Addr) (o1 : Nat) (o3 : Nat) (o4 : Option Addr) (o5 : Nat) (o7 : Nat), v = .agg #[.int .i64 a0, .int .i64 a1, .int .i64 a2, .int .i64 a3, .slice o0 l4.length o1, .slice o4 l5.length o5] ∧ Φr = [] ∧ Hr = [treeF TS_FactD 55 3 (.slice o0 o3 o1) o2, .own 149 3 R_V (.slice o4 o7 o5) o6]) := by
 unfold m_ropewalkkit_LentSession at hm
 refine spec_of Tryz.func23 rfl Tryz.ntmps23 rfl (S := [_]) rfl (fun C => (wc_seq (wc_region (wB rfl (fun g1 => (wl_alloc rfl rfl rfl (freshS_eq rfl) rfl tZ_31 rfl (fun g2 => (wl_nil (we_then (wc_keep [2,1] (S' := [_,_]) rfl (wc_seq (wc_region (wF rfl tF_31_2 (wl_loadH 1 2 rfl rfl rfl (freshS_eq rfl) rfl rfl rfl (cs := [_,_,_,_]) rfl tS_29 tA_29 rfl rfl ?_))))))))))))))
 obtain ⟨⟨v5_0, v5_1⟩, hc5, hm⟩ := bindO_some hm
 try dsimp only at hm
 refine wC [] [0,1] rfl fn_33 rfl (w_ropewalkkit_LentReply_s N a2 a3 qp0 qc1 l4 qp2 qc3 l5 _ _ hc5) (asK [0,1] rfl) rfl (H' := [_,_]) rfl ?_
 rintro _ _ _ ⟨p5_0, c5_1, c5_2, p5_3, c5_4, c5_5, rfl, rfl, rfl⟩
 refine wF rfl tF_31_2 (wS 3 2 rfl tS_29 (all' := [_,_,_,_,_,_]) rfl (H' := [_,_,_,_]) rfl (wl_nil (we_then (wc_keep [2,1] (S' := [_,_]) rfl (wc_seq (wc_region (wl_loadH 3 0 rfl rfl rfl (freshS_eq rfl) rfl rfl rfl (cs := [_,_,_,_,_,_]) rfl tS_31 tA_31 rfl rfl (wS 2 0 rfl tS_31 (all' := [_,_,_,_,_,_]) rfl (H' := [_,_,_,_]) rfl (wl_nil (we_then (wc_keep [2] (S' := [_]) rfl (wc_ret ?_))))))))))))
 have hE := (Option.some.inj hm).symm
 obtain ⟨hE0, hE1⟩ := Prod.mk.inj hE
 clear hE
 replace hE0 := hE0.symm
 subst hE0
 replace hE1 := hE1.symm
 subst hE1
 refine ret_one (Hr := [_,_]) [0,1] Tryz.results23 (res_cell 2 rfl rfl tS_31 tA_31 rfl rfl) ⟨p5_0, c5_1, c5_2, p5_3, c5_4, c5_5, rfl, rfl, rfl⟩ (asK [] rfl) rfl rfl (.inl rfl)
theorem w_ropewalkkit_markSession_s (N : Nat) (a0 : Int) (a1 : Int)  (hm : m_ropewalkkit_markSession N a0 a1 = some ()) : Spec Tryz.prog 24 [.int .i64 a0, .int .i64 a1] [] [] (fun v Φr Hr => v = .agg #[.int .i64 (IntKind.wrap .i64 ((IntKind.wrap .i64 (1000003 * (IntKind.wrap .i64 (a0 + 7)))) + a1)), .int .i64 0, .int .i64 0, .int .i64 0, .slice none 0 0, .slice none 0 0] ∧ Φr = [] ∧ Hr = []) := by
 unfold m_ropewalkkit_markSession at hm
 refine spec_of Tryz.func24 rfl Tryz.ntmps24 rfl (S := [_,_]) rfl (fun C => (wc_seq (wc_region (wl_alloc rfl rfl rfl (freshS_eq rfl) rfl tZ_31 rfl (fun g4 => (wl_nil (we_then (wc_seq (wc_region (wP rfl (wP rfl ?_)))))))))))
 obtain ⟨_, hc7, hm⟩ := bindO_some hm
 try dsimp only at hm
 refine wC [] [0] rfl fn_48 rfl (w_ropewalkkit_mark_s N a0 a1 hc7) (asK [] rfl) rfl (H' := [_]) rfl ?_
 rintro _ _ _ ⟨rfl, rfl, rfl⟩
 refine wl_build rfl rfl rfl (freshS_eq rfl) rfl tZ_31 tP_31 rfl (out := [_,_,_,_,_,_]) rfl (wS 0 0 rfl tS_31 (all' := [_,_,_,_,_,_]) rfl (H' := [_]) rfl (wl_nil (we_then (wc_keep [4] (S' := [_]) rfl (wc_ret ?_)))))
 have hE := (Option.some.inj hm).symm
 refine ret_one (Hr := []) [] Tryz.results24 (res_cell 0 rfl rfl tS_31 tA_31 rfl rfl) ⟨rfl, rfl, rfl⟩ (asK [] rfl) rfl rfl (.inl rfl)
theorem w_ropewalkkit_LentSessions_s (N : Nat) (qp0 : Option Addr) (qc1 : Nat) (l0 : List SessD) (o2 : List SessDS) (hm : m_ropewalkkit_LentSessions N l0 = some o2) : Spec Tryz.prog 9 [.slice qp0 l0.length qc1] [.sli 6 R_SessD qp0 qc1 l0] [] (fun v Φr Hr => ∃ (o0 : Option Addr) (o1 : Nat) (o3 : Nat), v = .slice o0 l0.length o1 ∧ Φr = [] ∧ Hr = [treeF TS_SessD 31 6 (.slice o0 o3 o1) o2]) := by
 unfold m_ropewalkkit_LentSessions at hm
 refine spec_of Tryz.func9 rfl Tryz.ntmps9 rfl (S := [_]) rfl (fun C => (wc_seq (wc_region (wP rfl (wl_nil (we_then (wc_keep [0] (S' := [_]) rfl (wc_seq (wc_region (wP rfl (wN rfl tE_22 (wP rfl ?_))))))))))))
 obtain ⟨hg9, hm⟩ := gd_some hm
 refine wl_as (d := 9) (v' := .int .i64 ((l0.length + 12 : Nat) : Int)) (S' := [_,_,_]) rfl rfl (nat_add (a := l0.length) (b := 12) hg9) ?_
 obtain ⟨hg10, hm⟩ := gd_some hm
 refine wl_makeCap (m := l0.length + 12) T_SessD.pair rfl rfl rfl (freshS_eq rfl) rfl rfl rfl rfl tE_22 tR_31 rfl rfl (Nat.le_trans (Nat.mul_le_mul_left _ hg10) (by decide)) (Nat.le_trans hg10 (by decide)) (fun g10 => (wl_sh [bagF T_SessD [] none, _] (fun _ h => h.bagNil T_SessD) (wl_sh [treeF T_SessD 31 6 (.slice (some ⟨g10,0, none⟩) 0 (l0.length + 12)) []] (fun _ h => h.treeIn 1 0 rfl rfl rfl rfl) (wP rfl (wl_nil (we_then (wc_keep [3,0] (S' := [_,_]) rfl (wc_seq ?_))))))))
 obtain ⟨bj_1, hm, hLj_1⟩ := bindO_some hm
 refine wc_cut (σ := (List SessDS) × (Option Addr) × Nat × Nat) (fun (j_1_3_l, j_1_3_p, j_1_3_c, j_1_3_n) => bj_1 = j_1_3_l) (fun (j_1_3_l, j_1_3_p, j_1_3_c, j_1_3_n) => [(3, .slice j_1_3_p j_1_3_n j_1_3_c), (0, .slice qp0 l0.length qc1)]) (fun (j_1_3_l, j_1_3_p, j_1_3_c, j_1_3_n) => [.sli 6 R_SessD qp0 qc1 l0]) (fun (j_1_3_l, j_1_3_p, j_1_3_c, j_1_3_n) => [treeF TS_SessD 31 6 (.slice j_1_3_p j_1_3_n j_1_3_c) j_1_3_l]) ?_ ?_
 ·
  refine wc_seq (wc_region (wP rfl (wl_nil (we_then (wc_block (wc_sh [treeF TS_SessD 31 6 (.slice (some ⟨g10,0, none⟩) 0 (l0.length + 12)) []] (fun _ h => h.treeKind TS_SessD 0 rfl) (wc_loop (σ := Nat × Nat × (List SessDS) × (Option Addr) × Nat × Nat) (fun (nu1, u1_4, u1_3_l, u1_3_p, u1_3_c, u1_3_n) => iter (m_ropewalkkit_LentSessions_L1 N l0) nu1 (u1_4, u1_3_l) = some bj_1) (fun (nu1, u1_4, u1_3_l, u1_3_p, u1_3_c, u1_3_n) => nu1) (fun (nu1, u1_4, u1_3_l, u1_3_p, u1_3_c, u1_3_n) => [(4, .int .i64 ((u1_4 : Nat) : Int)), (3, .slice u1_3_p u1_3_n u1_3_c), (0, .slice qp0 l0.length qc1)]) (fun (nu1, u1_4, u1_3_l, u1_3_p, u1_3_c, u1_3_n) => [.sli 6 R_SessD qp0 qc1 l0]) (fun (nu1, u1_4, u1_3_l, u1_3_p, u1_3_c, u1_3_n) => [treeF TS_SessD 31 6 (.slice u1_3_p u1_3_n u1_3_c) u1_3_l]) (N, 0,[], some ⟨g10,0, none⟩, l0.length + 12,0) hm [4,3,0] rfl (asK [0] rfl) rfl (fun s_ hm => ?_))))))))
  obtain ⟨nu1, u1_4, u1_3_l, u1_3_p, u1_3_c, u1_3_n⟩ := s_
  try dsimp only at hm ⊢
  obtain ⟨mu1, bu1, hnu1, hq, hLu1⟩ := iter_some hm
  clear hm
  subst hnu1
  replace hm := hq
  clear hq
  unfold m_ropewalkkit_LentSessions_L1 at hm
  try dsimp only at hm
  refine wc_seq (wc_seq (wc_region (wP rfl (wP rfl (wN rfl tE_22 (wP rfl (wl_as (d := 14) (v' := .bool (decide (u1_4 < l0.length))) (S' := [_,_,_,_,_,_]) rfl rfl (natlt (a := u1_4) (b := l0.length)) (wl_nil (we_then (wc_keep [14,4,3,0] (S' := [_,_,_,_]) rfl ?_))))))))))
  refine wc_cond rfl (fun hb14 => ?_) (fun hb14 => ?_)
  ·
   replace hm := iteT hm hb14
   refine wc_keep [4,3,0] (S' := [_,_,_]) rfl (wc_skip (we_then (wc_seq (wc_block (wc_seq (wc_region (wP rfl (wP rfl ?_))))))))
   obtain ⟨x19, hx19, hm⟩ := bindO_some hm
   refine wl_indexA 0 u1_4 rfl rfl rfl (freshS_eq rfl) rfl rfl rfl rfl rfl hx19 tE_22 tS_31 (fun b19 q19 cs19 hlx19 => (wl_open R_SessD_opens 1 rfl (fun r19 er19 _ => ?_)))
   subst er19
   refine wl_load 2 0 rfl rfl rfl (freshS_eq rfl) rfl rfl rfl (cs := [_,_,_,_,_,_]) rfl tS_31 tA_31 rfl rfl ?_
   obtain ⟨⟨v21_0, v21_1⟩, hc21, hm⟩ := bindO_some hm
   try dsimp only at hm
   refine wC [] [0] rfl fn_23 rfl (w_ropewalkkit_LentSession_s N x19.id x19.seq x19.r.err x19.r.num r19.1.1 r19.1.2 x19.r.facts r19.2.1 r19.2.2 x19.r.said _ _ hc21) (asK [0,1] rfl) rfl (H' := [_]) rfl ?_
   rintro _ _ _ ⟨p21_0, c21_1, c21_2, p21_3, c21_4, c21_5, rfl, rfl, rfl⟩
   refine wl_alloc rfl rfl rfl (freshS_eq rfl) rfl tZ_31 rfl (fun g5 => (wS 0 0 rfl tS_31 (all' := [_,_,_,_,_,_]) rfl (H' := [_,_,_,_]) rfl (wl_nil (we_then (wc_keep [5,4,3,0] (S' := [_,_,_,_]) rfl (wc_region (wP rfl (wl_loadH 0 0 rfl rfl rfl (freshS_eq rfl) rfl rfl rfl (cs := [_,_,_,_,_,_]) rfl tS_31 tA_31 rfl rfl (wl_buildSlice rfl rfl rfl (freshS_eq rfl) rfl tE_22 tS_31 tZ_31 rfl (zs := [.int .i64 0, .int .i64 0, .int .i64 0, .int .i64 0, .slice none 0 0, .slice none 0 0]) (by kernel_rfl) rfl (out := [_,_,_,_,_,_]) rfl (fun g24 => (wl_treeLen 4 rfl (fun hzt19 _ => ?_))))))))))))
   subst hzt19
   refine wl_treeLen 2 rfl (fun hzt20 _ => ?_)
   subst hzt20
   obtain ⟨hzk34, hm⟩ := gd_some hm
   refine wl_hAs 2 (φ' := treeF TS_FactD 55 3 (.slice p21_0 ((v21_0.take x19.r.facts.length ++ v21_0.drop x19.r.facts.length).length) c21_1) (v21_0.take x19.r.facts.length ++ v21_0.drop x19.r.facts.length)) rfl (by rw [List.take_append_drop]) (H' := [_,_,_,_,_]) rfl (wl_at 1 (v' := .agg #[.int .i64 (x19.id), .int .i64 (x19.seq), .int .i64 (x19.r.err), .int .i64 (x19.r.num), .slice p21_0 ((v21_0.take x19.r.facts.length).length) c21_1, .slice p21_3 x19.r.said.length c21_4]) rfl (by rw [take_len hzk34]) (wl_hAs 0 (φ' := .blk g24 [.int .i64 (x19.id), .int .i64 (x19.seq), .int .i64 (x19.r.err), .int .i64 (x19.r.num), .slice p21_0 ((v21_0.take x19.r.facts.length).length) c21_1, .slice p21_3 x19.r.said.length c21_4] 31) rfl (by rw [take_len hzk34]) (H' := [_,_,_,_,_]) rfl (wl_hAs 1 (φ' := .blk g5 [.int .i64 (x19.id), .int .i64 (x19.seq), .int .i64 (x19.r.err), .int .i64 (x19.r.num), .slice p21_0 ((v21_0.take x19.r.facts.length).length) c21_1, .slice p21_3 x19.r.said.length c21_4] 31) rfl (by rw [take_len hzk34]) (H' := [_,_,_,_,_]) rfl (wl_ownLen 3 rfl (fun hzc21_5 _ => ?_)))))
   subst hzc21_5
   obtain ⟨hzk35, hm⟩ := gd_some hm
   refine wl_hAs 3 (φ' := .own 149 3 R_V (.slice p21_3 ((v21_1.take x19.r.said.length ++ v21_1.drop x19.r.said.length).length) c21_4) (v21_1.take x19.r.said.length ++ v21_1.drop x19.r.said.length)) rfl (by rw [List.take_append_drop]) (H' := [_,_,_,_,_]) rfl (wl_at 1 (v' := .agg #[.int .i64 (x19.id), .int .i64 (x19.seq), .int .i64 (x19.r.err), .int .i64 (x19.r.num), .slice p21_0 ((v21_0.take x19.r.facts.length).length) c21_1, .slice p21_3 ((v21_1.take x19.r.said.length).length) c21_4]) rfl (by rw [take_len hzk35]) (wl_hAs 0 (φ' := .blk g24 [.int .i64 (x19.id), .int .i64 (x19.seq), .int .i64 (x19.r.err), .int .i64 (x19.r.num), .slice p21_0 ((v21_0.take x19.r.facts.length).length) c21_1, .slice p21_3 ((v21_1.take x19.r.said.length).length) c21_4] 31) rfl (by rw [take_len hzk35]) (H' := [_,_,_,_,_]) rfl (wl_hAs 1 (φ' := .blk g5 [.int .i64 (x19.id), .int .i64 (x19.seq), .int .i64 (x19.r.err), .int .i64 (x19.r.num), .slice p21_0 ((v21_0.take x19.r.facts.length).length) c21_1, .slice p21_3 ((v21_1.take x19.r.said.length).length) c21_4] 31) rfl (by rw [take_len hzk35]) (H' := [_,_,_,_,_]) rfl (wl_treeOut 4 rfl (fun zz25 hzz25 => ?_)))))
   obtain ⟨hg25, hm⟩ := gd_some hm
   have hzs36 : List.map (fun x : SessDS × ((Option Addr × Nat) × (Option Addr × Nat)) => x.1) (zz25 ++ [((⟨x19.id, x19.seq, (⟨x19.r.err, x19.r.num, v21_0.take x19.r.facts.length, v21_0.drop x19.r.facts.length, v21_1.take x19.r.said.length, v21_1.drop x19.r.said.length⟩ : ReplyDS)⟩ : SessDS), ((p21_0, c21_1), (p21_3, c21_4)))]) = u1_3_l ++ [(⟨x19.id, x19.seq, (⟨x19.r.err, x19.r.num, v21_0.take x19.r.facts.length, v21_0.drop x19.r.facts.length, v21_1.take x19.r.said.length, v21_1.drop x19.r.said.length⟩ : ReplyDS)⟩ : SessDS)] := pair_app hzz25 (us := [(⟨x19.id, x19.seq, (⟨x19.r.err, x19.r.num, v21_0.take x19.r.facts.length, v21_0.drop x19.r.facts.length, v21_1.take x19.r.said.length, v21_1.drop x19.r.said.length⟩ : ReplyDS)⟩ : SessDS)]) rfl
   have hgl25 : zz25.length + ([((⟨x19.id, x19.seq, (⟨x19.r.err, x19.r.num, v21_0.take x19.r.facts.length, v21_0.drop x19.r.facts.length, v21_1.take x19.r.said.length, v21_1.drop x19.r.said.length⟩ : ReplyDS)⟩ : SessDS), ((p21_0, c21_1), (p21_3, c21_4)))] : List (SessDS × ((Option Addr × Nat) × (Option Addr × Nat)))).length ≤ 1759218604441 := by rw [pair_len hzz25]; exact hg25
   refine wl_appendH (R := TS_SessD.pair) ([((⟨x19.id, x19.seq, (⟨x19.r.err, x19.r.num, v21_0.take x19.r.facts.length, v21_0.drop x19.r.facts.length, v21_1.take x19.r.said.length, v21_1.drop x19.r.said.length⟩ : ReplyDS)⟩ : SessDS), ((p21_0, c21_1), (p21_3, c21_4)))]) 5 1 rfl rfl rfl (freshS_eq rfl) rfl rfl rfl rfl rfl (fun F w hφ => ⟨[.int .i64 (x19.id), .int .i64 (x19.seq), .int .i64 (x19.r.err), .int .i64 (x19.r.num), .slice p21_0 ((v21_0.take x19.r.facts.length).length) c21_1, .slice p21_3 ((v21_1.take x19.r.said.length).length) c21_4],[], rfl, rfl, rfl, rfl⟩) tE_22 tR_31 rfl rfl (Nat.le_trans hgl25 (by decide)) (Nat.le_trans (Nat.mul_le_mul_right _ hgl25) (by decide)) (H2 := fun p25 c25 => [_,_,_,_,_, .own 31 6 TS_SessD.pair (.slice p25 ((zz25 ++ [((⟨x19.id, x19.seq, (⟨x19.r.err, x19.r.num, v21_0.take x19.r.facts.length, v21_0.drop x19.r.facts.length, v21_1.take x19.r.said.length, v21_1.drop x19.r.said.length⟩ : ReplyDS)⟩ : SessDS), ((p21_0, c21_1), (p21_3, c21_4)))]).length) c25) (zz25 ++ [((⟨x19.id, x19.seq, (⟨x19.r.err, x19.r.num, v21_0.take x19.r.facts.length, v21_0.drop x19.r.facts.length, v21_1.take x19.r.said.length, v21_1.drop x19.r.said.length⟩ : ReplyDS)⟩ : SessDS), ((p21_0, c21_1), (p21_3, c21_4)))])]) (fun _ _ => rfl) (fun p25 c25 => (wl_drop 1 rfl (H' := [_,_,_,_,_]) rfl (wl_as (d := 25) (v' := .slice p25 ((u1_3_l ++ [(⟨x19.id, x19.seq, (⟨x19.r.err, x19.r.num, v21_0.take x19.r.facts.length, v21_0.drop x19.r.facts.length, v21_1.take x19.r.said.length, v21_1.drop x19.r.said.length⟩ : ReplyDS)⟩ : SessDS)]).length) c25) (S' := [_,_,_,_,_,_,_]) rfl rfl (by rw [pair_len hzs36]) (wl_hAs 4 (φ' := .own 31 6 TS_SessD.pair (.slice p25 ((u1_3_l ++ [(⟨x19.id, x19.seq, (⟨x19.r.err, x19.r.num, v21_0.take x19.r.facts.length, v21_0.drop x19.r.facts.length, v21_1.take x19.r.said.length, v21_1.drop x19.r.said.length⟩ : ReplyDS)⟩ : SessDS)]).length) c25) (zz25 ++ [((⟨x19.id, x19.seq, (⟨x19.r.err, x19.r.num, v21_0.take x19.r.facts.length, v21_0.drop x19.r.facts.length, v21_1.take x19.r.said.length, v21_1.drop x19.r.said.length⟩ : ReplyDS)⟩ : SessDS), ((p21_0, c21_1), (p21_3, c21_4)))])) rfl (by rw [pair_len hzs36]) (H' := [_,_,_,_,_]) rfl (wl_pick [3,2,0,1,4] rfl (H' := [_,_,_,_,_]) rfl (wl_sh [bagF TS_SessD (zz25 ++ [((⟨x19.id, x19.seq, (⟨x19.r.err, x19.r.num, v21_0.take x19.r.facts.length, v21_0.drop x19.r.facts.length, v21_1.take x19.r.said.length, v21_1.drop x19.r.said.length⟩ : ReplyDS)⟩ : SessDS), ((p21_0, c21_1), (p21_3, c21_4)))]) none, _,_] (fun _ h => Holds.bagPush (T := TS_SessD) (x := (⟨x19.id, x19.seq, (⟨x19.r.err, x19.r.num, v21_0.take x19.r.facts.length, v21_0.drop x19.r.facts.length, v21_1.take x19.r.said.length, v21_1.drop x19.r.said.length⟩ : ReplyDS)⟩ : SessDS)) (r := ((p21_0, c21_1), (p21_3, c21_4))) (zs := zz25) (H := [_,_,_]) h 0 rfl) (wl_sh [_, treeF TS_SessD 31 6 (.slice p25 ((u1_3_l ++ [(⟨x19.id, x19.seq, (⟨x19.r.err, x19.r.num, v21_0.take x19.r.facts.length, v21_0.drop x19.r.facts.length, v21_1.take x19.r.said.length, v21_1.drop x19.r.said.length⟩ : ReplyDS)⟩ : SessDS)]).length) c25) (u1_3_l ++ [(⟨x19.id, x19.seq, (⟨x19.r.err, x19.r.num, v21_0.take x19.r.facts.length, v21_0.drop x19.r.facts.length, v21_1.take x19.r.said.length, v21_1.drop x19.r.said.length⟩ : ReplyDS)⟩ : SessDS)])] (fun _ h => h.treeIn 2 0 rfl rfl rfl hzs36) (wl_pure (S' := [_,_,_,_,_,_,_]) rfl rfl rfl rfl rfl (wl_nil (we_block_normal (we_then (wc_keep [3,4,0] (S' := [_,_,_]) rfl (wc_region (wP rfl ?_))))))))))))))
   refine wP rfl ?_
   obtain ⟨hg16, hm⟩ := gd_some hm
   refine wl_as (d := 16) (v' := .int .i64 ((u1_4 + 1 : Nat) : Int)) (S' := [_,_,_,_]) rfl rfl (nat_add (a := u1_4) (b := 1) hg16) (wl_pure (S' := [_,_,_,_]) rfl rfl rfl rfl rfl (wl_nil ?_))
   have hE := (Option.some.inj hm).symm
   replace hE := link_inl hLu1 hE
   refine we_pick [1] rfl (H' := [_]) rfl ?_
   refine we_roundK (_, u1_4 + 1, (u1_3_l ++ [(⟨x19.id, x19.seq, (⟨x19.r.err, x19.r.num, v21_0.take x19.r.facts.length, v21_0.drop x19.r.facts.length, v21_1.take x19.r.said.length, v21_1.drop x19.r.said.length⟩ : ReplyDS)⟩ : SessDS)]), p25, c25, ((u1_3_l ++ [(⟨x19.id, x19.seq, (⟨x19.r.err, x19.r.num, v21_0.take x19.r.facts.length, v21_0.drop x19.r.facts.length, v21_1.take x19.r.said.length, v21_1.drop x19.r.said.length⟩ : ReplyDS)⟩ : SessDS)]).length)) (Nat.lt_succ_self _) hE [4,3,0] rfl (asK [4] rfl) rfl
  ·
   replace hm := iteF hm hb14
   refine wc_keep [3,0] (S' := [_,_]) rfl (wc_exit (we_then_exit (we_then_exit (we_block_hit ?_))))
   have hE := (Option.some.inj hm).symm
   replace hE := link_inr hLu1 hE
   refine we_join (u1_3_l, u1_3_p, u1_3_c, u1_3_n) hE [3,0] rfl (asK [0] rfl) rfl
 ·
  rintro ⟨j_1_3_l, j_1_3_p, j_1_3_c, j_1_3_n⟩ hE
  try dsimp only
  have hm := hLj_1
  rw [hE] at hm
  refine wc_seq ?_
  obtain ⟨bj_2, hm, hLj_2⟩ := bindO_some hm
  refine wc_cut (σ := (List SessDS) × (Option Addr) × Nat × Nat) (fun (j_2_3_l, j_2_3_p, j_2_3_c, j_2_3_n) => bj_2 = j_2_3_l) (fun (j_2_3_l, j_2_3_p, j_2_3_c, j_2_3_n) => [(3, .slice j_2_3_p j_2_3_n j_2_3_c), (0, .slice qp0 l0.length qc1)]) (fun (j_2_3_l, j_2_3_p, j_2_3_c, j_2_3_n) => [.sli 6 R_SessD qp0 qc1 l0]) (fun (j_2_3_l, j_2_3_p, j_2_3_c, j_2_3_n) => [treeF TS_SessD 31 6 (.slice j_2_3_p j_2_3_n j_2_3_c) j_2_3_l]) ?_ ?_
  ·
   refine wc_seq (wc_region (wP rfl (wl_nil (we_then (wc_block (wc_loop (σ := Nat × Nat × (List SessDS) × (Option Addr) × Nat × Nat) (fun (nu2, u2_6, u2_3_l, u2_3_p, u2_3_c, u2_3_n) => iter (m_ropewalkkit_LentSessions_L2 N) nu2 (u2_6, u2_3_l) = some bj_2) (fun (nu2, u2_6, u2_3_l, u2_3_p, u2_3_c, u2_3_n) => nu2) (fun (nu2, u2_6, u2_3_l, u2_3_p, u2_3_c, u2_3_n) => [(6, .int .i64 ((u2_6 : Nat) : Int)), (3, .slice u2_3_p u2_3_n u2_3_c), (0, .slice qp0 l0.length qc1)]) (fun (nu2, u2_6, u2_3_l, u2_3_p, u2_3_c, u2_3_n) => [.sli 6 R_SessD qp0 qc1 l0]) (fun (nu2, u2_6, u2_3_l, u2_3_p, u2_3_c, u2_3_n) => [treeF TS_SessD 31 6 (.slice u2_3_p u2_3_n u2_3_c) u2_3_l]) (N, 0, j_1_3_l, j_1_3_p, j_1_3_c, j_1_3_n) hm [6,3,0] rfl (asK [0] rfl) rfl (fun s_ hm => ?_)))))))
   obtain ⟨nu2, u2_6, u2_3_l, u2_3_p, u2_3_c, u2_3_n⟩ := s_
   try dsimp only at hm ⊢
   obtain ⟨mu2, bu2, hnu2, hq, hLu2⟩ := iter_some hm
   clear hm
   subst hnu2
   replace hm := hq
   clear hq
   unfold m_ropewalkkit_LentSessions_L2 at hm
   try dsimp only at hm
   refine wc_seq (wc_seq (wc_region (wP rfl (wP rfl (wl_as (d := 27) (v' := .bool (decide (u2_6 < 12))) (S' := [_,_,_,_]) rfl rfl (natlt (a := u2_6) (b := 12)) (wl_nil (we_then (wc_keep [27,6,3,0] (S' := [_,_,_,_]) rfl ?_))))))))
   refine wc_cond rfl (fun hb27 => ?_) (fun hb27 => ?_)
   ·
    replace hm := iteT hm hb27
    refine wc_keep [6,3,0] (S' := [_,_,_]) rfl (wc_skip (we_then (wc_seq (wc_block (wc_region (wP rfl (wP rfl ?_)))))))
    obtain ⟨_, hc32, hm⟩ := bindO_some hm
    try dsimp only at hm
    refine wC [] [0] rfl fn_24 rfl (w_ropewalkkit_markSession_s N 1 ((u2_6 : Nat) : Int) hc32) (asK [] rfl) rfl (H' := [_]) rfl ?_
    rintro _ _ _ ⟨rfl, rfl, rfl⟩
    refine wl_buildSlice rfl rfl rfl (freshS_eq rfl) rfl tE_22 tS_31 tZ_31 rfl (zs := [.int .i64 0, .int .i64 0, .int .i64 0, .int .i64 0, .slice none 0 0, .slice none 0 0]) (by kernel_rfl) rfl (out := [_,_,_,_,_,_]) rfl (fun g33 => (wl_treeLen 1 rfl (fun hzt32 _ => ?_)))
    subst hzt32
    refine wl_sh [treeF TS_FactD 55 3 (.slice none 0 0) [],_,_] (fun _ h => h.treeNil TS_FactD 55 3) (wl_rowNil 149 3 R_V (wl_hAs 1 (φ' := treeF TS_FactD 55 3 (.slice none ((([] : List FactDS) ++ []).length) 0) (([] : List FactDS) ++ [])) rfl rfl (H' := [_,_,_,_]) rfl (wl_hAs 0 (φ' := .own 149 3 R_V (.slice none ((([] : List V) ++ []).length) 0) (([] : List V) ++ [])) rfl rfl (H' := [_,_,_,_]) rfl (wl_treeOut 3 rfl (fun zz34 hzz34 => ?_)))))
    obtain ⟨hg34, hm⟩ := gd_some hm
    have hzs48 : List.map (fun x : SessDS × ((Option Addr × Nat) × (Option Addr × Nat)) => x.1) (zz34 ++ [((⟨(IntKind.wrap .i64 ((IntKind.wrap .i64 (1000003 * (IntKind.wrap .i64 (1 + 7)))) + ((u2_6 : Nat) : Int))), 0, (⟨0,0, ([] : List FactDS), [], ([] : List V), []⟩ : ReplyDS)⟩ : SessDS), ((none, 0), (none, 0)))]) = u2_3_l ++ [(⟨(IntKind.wrap .i64 ((IntKind.wrap .i64 (1000003 * (IntKind.wrap .i64 (1 + 7)))) + ((u2_6 : Nat) : Int))), 0, (⟨0,0, ([] : List FactDS), [], ([] : List V), []⟩ : ReplyDS)⟩ : SessDS)] := pair_app hzz34 (us := [(⟨(IntKind.wrap .i64 ((IntKind.wrap .i64 (1000003 * (IntKind.wrap .i64 (1 + 7)))) + ((u2_6 : Nat) : Int))), 0, (⟨0,0, ([] : List FactDS), [], ([] : List V), []⟩ : ReplyDS)⟩ : SessDS)]) rfl
    have hgl34 : zz34.length + ([((⟨(IntKind.wrap .i64 ((IntKind.wrap .i64 (1000003 * (IntKind.wrap .i64 (1 + 7)))) + ((u2_6 : Nat) : Int))), 0, (⟨0,0, ([] : List FactDS), [], ([] : List V), []⟩ : ReplyDS)⟩ : SessDS), ((none, 0), (none, 0)))] : List (SessDS × ((Option Addr × Nat) × (Option Addr × Nat)))).length ≤ 1759218604441 := by rw [pair_len hzz34]; exact hg34
    refine wl_appendH (R := TS_SessD.pair) ([((⟨(IntKind.wrap .i64 ((IntKind.wrap .i64 (1000003 * (IntKind.wrap .i64 (1 + 7)))) + ((u2_6 : Nat) : Int))), 0, (⟨0,0, ([] : List FactDS), [], ([] : List V), []⟩ : ReplyDS)⟩ : SessDS), ((none, 0), (none, 0)))]) 4 3 rfl rfl rfl (freshS_eq rfl) rfl rfl rfl rfl rfl (fun F w hφ => ⟨[.int .i64 (IntKind.wrap .i64 ((IntKind.wrap .i64 (1000003 * (IntKind.wrap .i64 (1 + 7)))) + ((u2_6 : Nat) : Int))), .int .i64 0, .int .i64 0, .int .i64 0, .slice none 0 0, .slice none 0 0],[], rfl, rfl, rfl, rfl⟩) tE_22 tR_31 rfl rfl (Nat.le_trans hgl34 (by decide)) (Nat.le_trans (Nat.mul_le_mul_right _ hgl34) (by decide)) (H2 := fun p34 c34 => [_,_,_,_, .own 31 6 TS_SessD.pair (.slice p34 ((zz34 ++ [((⟨(IntKind.wrap .i64 ((IntKind.wrap .i64 (1000003 * (IntKind.wrap .i64 (1 + 7)))) + ((u2_6 : Nat) : Int))), 0, (⟨0,0, ([] : List FactDS), [], ([] : List V), []⟩ : ReplyDS)⟩ : SessDS), ((none, 0), (none, 0)))]).length) c34) (zz34 ++ [((⟨(IntKind.wrap .i64 ((IntKind.wrap .i64 (1000003 * (IntKind.wrap .i64 (1 + 7)))) + ((u2_6 : Nat) : Int))), 0, (⟨0,0, ([] : List FactDS), [], ([] : List V), []⟩ : ReplyDS)⟩ : SessDS), ((none, 0), (none, 0)))])]) (fun _ _ => rfl) (fun p34 c34 => (wl_drop 3 rfl (H' := [_,_,_,_]) rfl (wl_as (d := 34) (v' := .slice p34 ((u2_3_l ++ [(⟨(IntKind.wrap .i64 ((IntKind.wrap .i64 (1000003 * (IntKind.wrap .i64 (1 + 7)))) + ((u2_6 : Nat) : Int))), 0, (⟨0,0, ([] : List FactDS), [], ([] : List V), []⟩ : ReplyDS)⟩ : SessDS)]).length) c34) (S' := [_,_,_,_,_,_,_]) rfl rfl (by rw [pair_len hzs48]) (wl_hAs 3 (φ' := .own 31 6 TS_SessD.pair (.slice p34 ((u2_3_l ++ [(⟨(IntKind.wrap .i64 ((IntKind.wrap .i64 (1000003 * (IntKind.wrap .i64 (1 + 7)))) + ((u2_6 : Nat) : Int))), 0, (⟨0,0, ([] : List FactDS), [], ([] : List V), []⟩ : ReplyDS)⟩ : SessDS)]).length) c34) (zz34 ++ [((⟨(IntKind.wrap .i64 ((IntKind.wrap .i64 (1000003 * (IntKind.wrap .i64 (1 + 7)))) + ((u2_6 : Nat) : Int))), 0, (⟨0,0, ([] : List FactDS), [], ([] : List V), []⟩ : ReplyDS)⟩ : SessDS), ((none, 0), (none, 0)))])) rfl (by rw [pair_len hzs48]) (H' := [_,_,_,_]) rfl (wl_pick [1,2,0,3] rfl (H' := [_,_,_,_]) rfl (wl_sh [bagF TS_SessD (zz34 ++ [((⟨(IntKind.wrap .i64 ((IntKind.wrap .i64 (1000003 * (IntKind.wrap .i64 (1 + 7)))) + ((u2_6 : Nat) : Int))), 0, (⟨0,0, ([] : List FactDS), [], ([] : List V), []⟩ : ReplyDS)⟩ : SessDS), ((none, 0), (none, 0)))]) none, _] (fun _ h => Holds.bagPush (T := TS_SessD) (x := (⟨(IntKind.wrap .i64 ((IntKind.wrap .i64 (1000003 * (IntKind.wrap .i64 (1 + 7)))) + ((u2_6 : Nat) : Int))), 0, (⟨0,0, ([] : List FactDS), [], ([] : List V), []⟩ : ReplyDS)⟩ : SessDS)) (r := ((none, 0), (none, 0))) (zs := zz34) (H := [_,_]) h 0 rfl) (wl_sh [treeF TS_SessD 31 6 (.slice p34 ((u2_3_l ++ [(⟨(IntKind.wrap .i64 ((IntKind.wrap .i64 (1000003 * (IntKind.wrap .i64 (1 + 7)))) + ((u2_6 : Nat) : Int))), 0, (⟨0,0, ([] : List FactDS), [], ([] : List V), []⟩ : ReplyDS)⟩ : SessDS)]).length) c34) (u2_3_l ++ [(⟨(IntKind.wrap .i64 ((IntKind.wrap .i64 (1000003 * (IntKind.wrap .i64 (1 + 7)))) + ((u2_6 : Nat) : Int))), 0, (⟨0,0, ([] : List FactDS), [], ([] : List V), []⟩ : ReplyDS)⟩ : SessDS)])] (fun _ h => h.treeIn 1 0 rfl rfl rfl hzs48) (wl_pure (S' := [_,_,_,_,_,_,_]) rfl rfl rfl rfl rfl (wl_nil (we_block_normal (we_then (wc_keep [3,6,0] (S' := [_,_,_]) rfl (wc_region (wP rfl ?_))))))))))))))
    refine wP rfl ?_
    obtain ⟨hg29, hm⟩ := gd_some hm
    refine wl_as (d := 29) (v' := .int .i64 ((u2_6 + 1 : Nat) : Int)) (S' := [_,_,_,_]) rfl rfl (nat_add (a := u2_6) (b := 1) hg29) (wl_pure (S' := [_,_,_,_]) rfl rfl rfl rfl rfl (wl_nil ?_))
    have hE := (Option.some.inj hm).symm
    replace hE := link_inl hLu2 hE
    refine we_roundK (_, u2_6 + 1, (u2_3_l ++ [(⟨(IntKind.wrap .i64 ((IntKind.wrap .i64 (1000003 * (IntKind.wrap .i64 (1 + 7)))) + ((u2_6 : Nat) : Int))), 0, (⟨0,0, ([] : List FactDS), [], ([] : List V), []⟩ : ReplyDS)⟩ : SessDS)]), p34, c34, ((u2_3_l ++ [(⟨(IntKind.wrap .i64 ((IntKind.wrap .i64 (1000003 * (IntKind.wrap .i64 (1 + 7)))) + ((u2_6 : Nat) : Int))), 0, (⟨0,0, ([] : List FactDS), [], ([] : List V), []⟩ : ReplyDS)⟩ : SessDS)]).length)) (Nat.lt_succ_self _) hE [6,3,0] rfl (asK [0] rfl) rfl
   ·
    replace hm := iteF hm hb27
    refine wc_keep [3,0] (S' := [_,_]) rfl (wc_exit (we_then_exit (we_then_exit (we_block_hit ?_))))
    have hE := (Option.some.inj hm).symm
    replace hE := link_inr hLu2 hE
    refine we_join (u2_3_l, u2_3_p, u2_3_c, u2_3_n) hE [3,0] rfl (asK [0] rfl) rfl
  ·
   rintro ⟨j_2_3_l, j_2_3_p, j_2_3_c, j_2_3_n⟩ hE
   try dsimp only
   have hm := hLj_2
   rw [hE] at hm
   refine wc_seq (wc_region (wP rfl (wP rfl (wN rfl tE_22 ?_))))
   obtain ⟨hg38, hm⟩ := gd_some hm
   refine wl_treeOut 0 rfl (fun zz38 hzz38 => ?_)
   have hgt38 : l0.length ≤ zz38.length := by rw [pair_len hzz38]; exact hg38
   refine wl_ownSpot 1 rfl (fun hsp38 hcm38 => (wl_sliceTo rfl rfl rfl (freshS_eq rfl) rfl rfl rfl rfl tE_22 tS_31 (Nat.le_trans hgt38 (by rw [← hcm38.2]; exact hcm38.1)) hsp38 (wP rfl (wl_nil (we_then (wc_keep [2] (S' := [_]) rfl (wc_ret ?_)))))))
   have hE := (Option.some.inj hm).symm
   replace hE := hE.symm
   subst hE
   refine we_sh [treeF TS_SessD 31 6 (.slice j_2_3_p j_2_3_n j_2_3_c) j_2_3_l] (fun _ h => h.treeIn 1 0 rfl rfl rfl hzz38) ?_
   refine ret_one (Hr := [_]) [0] Tryz.results9 (res_tmp rfl) ⟨j_2_3_p, j_2_3_c, j_2_3_n, rfl, rfl, rfl⟩ (asK [] rfl) rfl rfl (.inl rfl)
theorem Clone49f_s (p : Option Addr) (c : Nat) (l : List SessD) (hb : l.length ≤ 1759218604441) : Spec Tryz.prog 49 [.slice p l.length c] [.sli 6 R_SessD p c l] [] (fun v Φr Hr => ∃ p' c', v = .slice p' l.length c' ∧ Φr = [] ∧ Hr = [.own 31 6 R_SessD v l]) := by
 refine spec_of Tryz.func49 rfl Tryz.ntmps49 rfl (S := [_]) rfl (fun C => (wc_know (fun F w h => sli_nil (h _ (mem_at (k := 0) rfl))) (fun isnil => (wc_seq (wc_region (wP rfl (wl_nil (we_then (wc_seq (wc_seq (wc_region (wP rfl (wl_eqlNil rfl rfl rfl (freshS_eq rfl) rfl rfl rfl tE_22 (wl_nil (we_then ?_)))))))))))))))
 refine wc_keep [4,2,0] (S' := [_,_,_]) rfl ?_
 refine wc_cond rfl (fun h4 => ?_) (fun h4 => ?_)
 ·
  replace h4 := isNone_true h4
  obtain rfl := isnil h4
  subst h4
  refine wc_rowNil 31 6 R_SessD (wc_seq (wc_region (wl_pure (S' := [_,_]) rfl rfl rfl rfl rfl (wl_nil (we_then (wc_ret (we_then_ret (ret_one (Hr := [.own 31 6 R_SessD (.slice none 0 0) []]) [0] Tryz.results49 (res_tmp rfl) ?_ (asK [] rfl) rfl rfl (.inl rfl)))))))))
  exact ⟨none, 0, rfl, rfl, rfl⟩
 ·
  replace h4 := isNone_false h4
  refine wc_skip (we_then (wc_seq (wc_region (wl_buildSlice rfl rfl rfl (freshS_eq rfl) rfl tE_22 tS_31 tZ_31 rfl (zs := []) (by kernel_rfl) rfl (out := []) rfl (fun g5 => (wP rfl (wl_row (sz := 6) (m := 0) R_SessD [] 0 rfl (fun F w hφ => rfl) rfl (by decide) (H' := [_]) rfl (wl_append 0 0 rfl rfl rfl (freshS_eq rfl) rfl rfl rfl rfl rfl tE_22 tR_31 rfl rfl (by simp; omega) (by simp; omega) (H2 := fun p7 c7 => [.own 31 6 R_SessD (.slice p7 (l).length c7) l]) (fun _ _ => rfl) (fun p7 c7 => (wl_pure (S' := [_,_,_,_,_]) rfl rfl rfl rfl rfl (wl_nil (we_then (wc_keep [2,4,0] (S' := [_,_,_]) rfl (wc_ret (ret_one (Hr := [.own 31 6 R_SessD (.slice p7 (l).length c7) l]) [0] Tryz.results49 (res_tmp rfl) ?_ (asK [] rfl) rfl rfl (.inl rfl))))))))))))))))
  exact ⟨_,_, rfl, rfl, rfl⟩
end Go.Proofs.YtighbinghbnjhaaGreat
