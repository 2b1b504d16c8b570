import Derived.Test.YtgangmegcejllaaDoorXW3
namespace Go.Proofs.YtgangmegcejllaaDoor
open Go.RowKit
set_option maxRecDepth 100000
set_option maxHeartbeats 4000000
theorem w_agenda_Agenda_Next_s (N : Nat) (qg0 : Nat) (qp1 : Addr) (qn2 : Nat) (qc3 : Nat) (l0 : List Int) (qp4 : Option Addr) (qn5 : Nat) (qc6 : Nat) (l1 : List Api_TokenD) (qp7 : Option Addr) (qn8 : Nat) (qc9 : Nat) (l2 : List Api_TokenD) (qb10 : Nat) (e3 : List (ByteArray × Bool)) (o0 : Int) (o3 : List Int) (o5 : Bool) (hm : m_agenda_Agenda_Next N l0 l1 l2 e3 = some (o0, o3, o5)) : Spec Tryd.prog 11 [.pointer (some ⟨qg0,0, none⟩)] [tabF Tryd.prog "internal/strconv.uint64pow10" .u64 Lib.pow10Tab 0 pow10_g] [.blk qg0 [.slice (some qp1) qn2 qc3, .slice qp4 qn5 qc6, .slice qp7 qn8 qc9, .map (some qb10)] 57, .own 3 1 R_i64 (.slice (some qp1) qn2 qc3) l0, .own 33 2 R_Api_TokenD (.slice qp4 qn5 qc6) l1, .own 33 2 R_Api_TokenD (.slice qp7 qn8 qc9) l2, mapP (keyStr (tStr_run tT_9)) false R_bool qb10 e3] (fun v Φr Hr => ∃ (o1 : Option Addr) (o2 : Nat) (o4 : Nat), v = .tuple #[.agg #[.int .i64 o0, .slice o1 o4 o2], .bool o5] ∧ Φr = [] ∧ Hr = [.own 3 1 R_i64 (.slice o1 o4 o2) o3, .blk qg0 [.slice (some qp1) qn2 qc3, .slice qp4 qn5 qc6, .slice qp7 qn8 qc9, .map (some qb10)] 57, .own 3 1 R_i64 (.slice (some qp1) qn2 qc3) l0, .own 33 2 R_Api_TokenD (.slice qp4 qn5 qc6) l1, .own 33 2 R_Api_TokenD (.slice qp7 qn8 qc9) l2, mapP (keyStr (tStr_run tT_9)) false R_bool qb10 e3]) := by
 unfold m_agenda_Agenda_Next at hm
 refine spec_of Tryd.func11 rfl Tryd.ntmps11 rfl (S := [_]) rfl (fun C => (wc_seq (wc_region (wl_alloc rfl rfl rfl (freshS_eq rfl) rfl tZ_33 rfl (fun g2 => (wP rfl (wl_nil (we_then (wc_keep [2,0] (S' := [_,_]) rfl (wc_seq (wc_seq (wc_region (wP rfl ?_)))))))))))))
 obtain ⟨_, hc5, hm⟩ := bindO_some hm
 try dsimp only at hm
 refine wC [1,2,3,4,5] [0] rfl fn_20 rfl (w_agenda_Agenda_known_v2_s N qg0 qp1 qn2 qc3 l0 qp4 qn5 qc6 l1 qp7 qn8 qc9 l2 qb10 e3 hc5) (asK [0] rfl) rfl (H' := [_]) rfl ?_
 rintro _ _ _ ⟨rfl, rfl, rfl⟩
 refine wP rfl (wP rfl (wP rfl (wP rfl (wF rfl tF_57_1 (wD 0 1 rfl tS_23 tA_23 rfl (wl_ownLen 2 rfl (fun hl12 _ => (wN rfl tE_23 (wl_as (d := 12) (v' := .int .i64 ((l1.length : Nat) : Int)) (S' := [_,_,_,_,_,_,_,_,_,_]) rfl rfl (len_is hl12) (wP rfl (wl_as (d := 13) (v' := .bool (l1.length == 0)) (S' := [_,_,_,_,_,_,_,_,_,_,_]) rfl rfl (nateq (a := l1.length) (b := 0)) (wP rfl (wl_nil (we_then ?_))))))))))))))
 refine wc_keep [14,2,0] (S' := [_,_,_]) rfl ?_
 refine wc_cond rfl (fun hb14 => ?_) (fun hb14 => ?_)
 ·
  replace hm := iteT hm hb14
  refine wc_keep [2] (S' := [_]) rfl (wc_seq (wc_region (wl_build rfl rfl rfl (freshS_eq rfl) rfl tZ_33 tP_33 rfl (out := [_,_]) rfl (wS 5 0 rfl tS_33 (all' := [_,_]) rfl (H' := [_,_,_,_,_,_]) rfl (wP rfl (wl_nil (we_then (wc_keep [3,2] (S' := [_,_]) rfl (wc_ret (we_then_ret ?_))))))))))
  have hE := (Option.some.inj hm).symm
  obtain ⟨hE0, hF1⟩ := Prod.mk.inj hE
  obtain ⟨hE1, hE2⟩ := Prod.mk.inj hF1
  clear hE hF1
  replace hE0 := hE0.symm
  subst hE0
  replace hE1 := hE1.symm
  subst hE1
  replace hE2 := hE2.symm
  subst hE2
  refine we_rowNil 3 1 R_i64 ?_
  refine ret_two (Hr := [_,_,_,_,_,_]) [0,1,2,3,4,5] Tryd.results11 (res_cell 6 rfl rfl tS_33 tA_33 rfl rfl) (res_tmp rfl) ⟨none, 0,0, rfl, rfl, rfl⟩ (asK [] rfl) rfl rfl (.inl rfl)
 ·
  replace hm := iteF hm hb14
  refine wc_keep [2,0] (S' := [_,_]) rfl (wc_skip (we_then (wc_seq (wc_region (wP rfl (wP rfl (wF rfl tF_57_1 (wD 0 1 rfl tS_23 tA_23 rfl ?_))))))))
  obtain ⟨x20, hx20, hm⟩ := bindO_some hm
  refine wl_indexH 2 0 rfl rfl rfl (freshS_eq rfl) rfl rfl rfl rfl rfl (get_lt hx20) tE_23 tS_33 (fun g20 eg20 => ?_)
  subst eg20
  refine wl_loadRow R_Api_TokenD_opens 2 0 0 rfl rfl rfl (freshS_eq rfl) rfl rfl rfl hx20 tS_33 tA_33 (v := fun r21 => .agg #[.int .i64 (x20.rule), .slice r21.1 x20.ids.length r21.2]) (fun _ => rfl) (fun _ => rfl) (fun r21 _ => ?_)
  obtain ⟨_, hc22, hm⟩ := bindO_some hm
  try dsimp only at hm
  refine wC [] [0,1,2,3,4,5] rfl fn_22 rfl (w_agenda_own_s N x20.rule r21.1 r21.2 x20.ids hc22) (asK [0,1] rfl) rfl (H' := [_,_,_,_,_,_]) rfl ?_
  rintro _ _ _ ⟨p22_0, c22_1, rfl, rfl, rfl⟩
  refine wS 6 0 rfl tS_33 (all' := [_,_]) rfl (H' := [_,_,_,_,_,_,_]) rfl (wP rfl (wl_nil (we_then (wc_keep [3,2] (S' := [_,_]) rfl (wc_ret ?_)))))
  have hE := (Option.some.inj hm).symm
  obtain ⟨hE0, hF1⟩ := Prod.mk.inj hE
  obtain ⟨hE1, hE2⟩ := Prod.mk.inj hF1
  clear hE hF1
  replace hE0 := hE0.symm
  subst hE0
  replace hE1 := hE1.symm
  subst hE1
  replace hE2 := hE2.symm
  subst hE2
  refine ret_two (Hr := [_,_,_,_,_,_]) [0,1,2,3,4,5] Tryd.results11 (res_cell 6 rfl rfl tS_33 tA_33 rfl rfl) (res_tmp rfl) ⟨p22_0, c22_1, x20.ids.length, rfl, rfl, rfl⟩ (asK [] rfl) rfl rfl (.inl rfl)
theorem Delete26_n (p : Option Addr) (c k : Nat) (L : List Api_TokenD) (hk : k < L.length) : Spec Tryd.prog 26 [.slice p L.length c, .int .i64 ((k : Nat) : Int), .int .i64 ((k + 1 : Nat) : Int)] [] [.own 33 2 R_Api_TokenD (.slice p L.length c) L] (fun v Φr Hr => ∃ p' c', v = .slice p' (L.take k ++ L.drop (k + 1)).length c' ∧ Φr = [] ∧ Hr = [.own 33 2 R_Api_TokenD v (L.take k ++ L.drop (k + 1))]) := by
 refine spec_of Tryd.func26 rfl Tryd.ntmps26 rfl (S := [_,_,_]) rfl (fun C => (wc_ownSome 0 rfl (by omega) (fun g0 e0 hc1 hc2 => ?_)))
 subst e0
 refine wc_seq (wc_region (wP rfl (wl_nil (we_then (wc_seq (wc_region (wP rfl (wP rfl (wP rfl (wP rfl (wN rfl tE_23 (wl_slice3 rfl rfl rfl (freshS_eq rfl) rfl rfl rfl rfl rfl rfl rfl rfl tE_23 tS_33 (by omega) (by omega) (by omega) (fun a13 => (wl_nil ?_))))))))))))))
 refine we_then (wc_keep [6,0,1,2] (S' := [_,_,_,_]) rfl (wc_seq (wc_seq (wc_region (wP rfl (wP rfl (wP rfl (wl_nil (we_then (wc_keep [16,6,0,1,2] (S' := [_,_,_,_,_]) rfl ?_))))))))))
 refine wc_cond rfl (fun h16 => ?_) (fun h16 => ?_)
 ·
  replace h16 := eq_of_beq h16
  exfalso
  omega
 ·
  replace h16 := ne_of_beq_false h16
  refine wc_skip (we_then (wc_seq (wc_region (wP rfl (wN rfl tE_23 (wP rfl (wl_nil (we_then (wc_keep [7,16,6,0,1,2] (S' := [_,_,_,_,_,_]) rfl (wc_seq ?_))))))))))
  refine wc_cut (σ := Addr) (fun a25 => k + 1 < c → a25 = ⟨g0, (k + 1) * 2, none⟩) (fun a25 => [(0, .slice (some ⟨g0,0, none⟩) ((L.take k ++ L.drop (k + 1)).length) c), (7, .int .i64 ((L.length : Nat) : Int)), (16, .bool (((k : Nat) : Int) == ((k + 1 : Nat) : Int))), (6, .slice none 0 0), (1, .int .i64 ((k : Nat) : Int)), (2, .int .i64 ((k + 1 : Nat) : Int))]) (fun a25 => []) (fun a25 => [.own 33 2 R_Api_TokenD (.slice (some ⟨g0,0, none⟩) ((L.take k ++ L.drop (k + 1)).length) c) (L.take k ++ L.drop (k + 1))]) ?_ ?_
  ·
   refine wc_draw [0,1,3,4] rfl rfl (fun hok => (xP hok 0 rfl (xP hok 1 rfl (xP hok 3 rfl (xP hok 4 rfl ?_)))))
   refine wx_step2 hok 2 5 rfl rfl rfl rfl rfl rfl ?_ ?_
   rotate_left
   focus
    refine wl_sliceFrom rfl rfl rfl (freshS_eq rfl) rfl rfl rfl rfl tE_23 tS_33 (by omega) (by omega) (fun a25 ha25 => (wl_nil (we_x [] [] rfl rfl (xS hok 2 rfl (wl_sliceTo rfl rfl rfl (freshS_eq rfl) rfl rfl rfl rfl tE_23 tS_33 (by omega) (fun _ h => by cases h; rfl) ?_)))))
   rotate_right
   focus
    refine wl_sliceTo rfl rfl rfl (freshS_eq rfl) rfl rfl rfl rfl tE_23 tS_33 (by omega) (fun _ h => by cases h; rfl) (wl_nil (we_x [] [] rfl rfl (xS hok 5 rfl (wl_sliceFrom rfl rfl rfl (freshS_eq rfl) rfl rfl rfl rfl tE_23 tS_33 (by omega) (by omega) (fun a25 ha25 => ?_)))))
   all_goals
    refine wl_nil (we_x [] [] rfl rfl (xS hok 6 rfl (wl_appendSelf 0 k (k + 1) rfl rfl rfl (freshS_eq rfl) rfl rfl rfl rfl (by omega) (by omega) (fun h => ha25 (by omega)) tE_23 tR_33 (H2 := [.own 33 2 R_Api_TokenD (.slice (some ⟨g0,0, none⟩) ((L.take k ++ L.drop (k + 1)).length) c) (L.take k ++ L.drop (k + 1))]) rfl (fun _ => (wl_nil (we_x [] [] rfl rfl (xS hok 7 rfl (wl_pure (S' := [_,_,_,_,_,_,_,_,_,_,_,_]) rfl rfl rfl rfl rfl (wl_nil (we_x [] [] rfl rfl (wx_done hok rfl ?_)))))))))))
    refine we_join (a25) ha25 [0,7,16,6,1,2] rfl (asK [] rfl) rfl
  ·
   rintro a25 ha25
   try dsimp only
   refine wc_seq (wc_region (wP rfl (wP rfl (wN rfl tE_23 (wP rfl (wl_sliceMid rfl rfl rfl (freshS_eq rfl) rfl rfl rfl rfl rfl rfl tE_23 tS_33 (by simp; omega) (by omega) (fun a31 ha31 => (wl_clearTail 0 rfl rfl rfl rfl rfl (fun h => ha31 (by simp at h ⊢; omega)) (by simp; omega) tE_23 tZ_33 rfl rfl rfl (wl_nil (we_then (wc_keep [0,7,16,6,1,2] (S' := [_,_,_,_,_,_]) rfl (wc_seq (wc_region (wP rfl ?_))))))))))))))
   refine wl_pure (S' := [_,_,_,_,_,_]) rfl rfl rfl rfl rfl (wl_nil (we_then (wc_keep [6,0,7,16,1,2] (S' := [_,_,_,_,_,_]) rfl (wc_ret (ret_one (Hr := [.own 33 2 R_Api_TokenD (.slice (some ⟨g0,0, none⟩) ((L.take k ++ L.drop (k + 1)).length) c) (L.take k ++ L.drop (k + 1))]) [0] Tryd.results26 (res_tmp rfl) ?_ (asK [] rfl) rfl rfl (.inl rfl))))))
   exact ⟨_,_, rfl, rfl, rfl⟩
theorem Delete26_s (p : Option Addr) (c : Nat) (i : Int) (L : List Api_TokenD) (h0 : 0 ≤ i) (hk : i.toNat < L.length) : Spec Tryd.prog 26 [.slice p L.length c, .int .i64 i, .int .i64 (i + 1)] [] [.own 33 2 R_Api_TokenD (.slice p L.length c) L] (fun v Φr Hr => ∃ p' c', v = .slice p' (L.take i.toNat ++ L.drop (i.toNat + 1)).length c' ∧ Φr = [] ∧ Hr = [.own 33 2 R_Api_TokenD v (L.take i.toNat ++ L.drop (i.toNat + 1))]) := by
  obtain ⟨k, rfl⟩ := Int.eq_ofNat_of_zero_le h0
  have e1 : ((k : Int) + 1) = ((k + 1 : Nat) : Int) := by omega
  rw [e1]
  exact Delete26_n p c k L hk
 
theorem w_agenda_Agenda_Fire_1_v4_s (N : Nat) (a0 : Int) (qp0 : Option Addr) (qc1 : Nat) (l1 : List Int) (qg2 : Nat) (qg3 : Nat) (qp4 : Addr) (qn5 : Nat) (qc6 : Nat) (l2 : List Int) (qp7 : Option Addr) (qn8 : Nat) (qc9 : Nat) (l3 : List Api_TokenD) (qp10 : Option Addr) (qn11 : Nat) (qc12 : Nat) (l4 : List Api_TokenD) (qb13 : Nat) (e5 : List (ByteArray × Bool)) (qg14 : Nat) (a6 : Int) (qp15 : Option Addr) (qn16 : Nat) (qc17 : Nat) (l7 : List Int) (o0 : Bool) (hm : m_agenda_Agenda_Fire_1 N a0 l1 l2 l3 l4 e5 a6 l7 = some o0) : Spec Tryd.prog 25 [.agg #[.int .i64 a0, .slice qp0 l1.length qc1], .pointer (some ⟨qg2,0, none⟩), .pointer (some ⟨qg14,0, none⟩)] [.sli 1 R_i64 qp0 qc1 l1, tabF Tryd.prog "internal/strconv.uint64pow10" .u64 Lib.pow10Tab 0 pow10_g] [.blk qg2 [.pointer (some ⟨qg3,0, none⟩)] 35, .blk qg3 [.slice (some qp4) qn5 qc6, .slice qp7 qn8 qc9, .slice qp10 qn11 qc12, .map (some qb13)] 57, .own 3 1 R_i64 (.slice (some qp4) qn5 qc6) l2, .own 33 2 R_Api_TokenD (.slice qp7 qn8 qc9) l3, .own 33 2 R_Api_TokenD (.slice qp10 qn11 qc12) l4, mapP (keyStr (tStr_run tT_9)) false R_bool qb13 e5, .blk qg14 [.int .i64 a6, .slice qp15 qn16 qc17] 33, .own 3 1 R_i64 (.slice qp15 qn16 qc17) l7] (fun v Φr Hr => v = .bool o0 ∧ Φr = [] ∧ Hr = [.blk qg2 [.pointer (some ⟨qg3,0, none⟩)] 35, .blk qg3 [.slice (some qp4) qn5 qc6, .slice qp7 qn8 qc9, .slice qp10 qn11 qc12, .map (some qb13)] 57, .own 3 1 R_i64 (.slice (some qp4) qn5 qc6) l2, .own 33 2 R_Api_TokenD (.slice qp7 qn8 qc9) l3, .own 33 2 R_Api_TokenD (.slice qp10 qn11 qc12) l4, mapP (keyStr (tStr_run tT_9)) false R_bool qb13 e5, .blk qg14 [.int .i64 a6, .slice qp15 qn16 qc17] 33, .own 3 1 R_i64 (.slice qp15 qn16 qc17) l7]) := by
 unfold m_agenda_Agenda_Fire_1 at hm
 refine spec_of Tryd.func25 rfl Tryd.ntmps25 rfl (S := [_,_,_]) rfl (fun C => (wc_seq (wc_region (wB rfl (fun g3 => (wP rfl (wl_nil (we_then (wc_keep [3,1,2] (S' := [_,_,_]) rfl (wc_seq ?_))))))))))
 obtain ⟨v11, hc11, hm⟩ := bindO_some hm
 refine wc_draw [0,1,2,3,4,5,7] rfl rfl (fun hok => (wx_loadH hok 0 1 0 rfl rfl rfl (freshS_eq rfl) rfl rfl rfl rfl (cs := [_]) rfl tS_35 tA_35 rfl rfl (xP hok 1 rfl (wx_fieldAddr hok 2 rfl rfl rfl (freshS_eq rfl) rfl rfl rfl tF_57_0 (wx_loadH hok 3 2 0 rfl rfl rfl (freshS_eq rfl) rfl rfl rfl rfl (cs := [_]) rfl tS_52 tA_52 rfl rfl (wx_loadH hok 4 7 0 rfl rfl rfl (freshS_eq rfl) rfl rfl rfl rfl (cs := [_,_]) rfl tS_33 tA_33 rfl rfl (wx_loadH hok 5 0 0 rfl rfl rfl (freshS_eq rfl) rfl rfl rfl rfl (cs := [_,_]) rfl tS_33 tA_33 rfl rfl (xS hok 6 rfl (wl_ownLen 3 rfl (fun hzqn5 _ => ?_))))))))))
 subst hzqn5
 refine wl_ownLen 8 rfl (fun hzqn16 _ => ?_)
 subst hzqn16
 refine wl_lend [] [0,1,2,3,4,5,6,7,8] [3,8] rfl rfl rfl (freshS_eq rfl) rfl rfl fn_19 rfl (w_agenda_order_compare_s N (some qp4) qc6 l2 a6 qp15 qc17 l7 a0 qp0 qc1 l1 _ hc11) (fun F w hφ hh => (ask_cons (own_sli (hh _ (mem_at (k := 0) rfl))) (ask_cons (own_sli (hh _ (mem_at (k := 1) rfl))) (ask_cons (hφ _ (mem_at (k := 0) rfl)) (ask_cons (hφ _ (mem_at (k := 1) rfl)) ask_nil))))) (fun _ _ _ hR => by obtain ⟨rfl, rfl, rfl⟩ := hR; exact ⟨rfl, (fun _ h => free_nil h)⟩) rfl rfl (H' := [_,_,_,_,_,_,_,_,_]) rfl ?_
 rintro _ _ _ ⟨rfl, rfl, rfl⟩
 refine wl_nil (we_x [0,1] [1] rfl rfl (xP hok 7 rfl (xS hok 8 rfl (wP rfl (wl_nil (we_x [0,1] [] rfl rfl (wx_done hok rfl (we_then (wc_keep [4] (S' := [_]) rfl (wc_ret ?_))))))))))
 have hE := (Option.some.inj hm).symm
 replace hE := hE.symm
 subst hE
 refine ret_one (Hr := [_,_,_,_,_,_,_,_]) [1,2,3,4,5,6,7,8] Tryd.results25 (res_tmp rfl) ⟨rfl, rfl, rfl⟩ (asK [] rfl) rfl rfl (.inl rfl)
theorem w_slices_IndexFunc_Token_v4_s (N : Nat) (qp0 : Option Addr) (qn1 : Nat) (qc2 : Nat) (l0 : List Api_TokenD) (qg3 : Nat) (qg4 : Nat) (qp5 : Addr) (qn6 : Nat) (qc7 : Nat) (l1 : List Int) (qp8 : Option Addr) (qn9 : Nat) (qc10 : Nat) (l2 : List Api_TokenD) (qb11 : Nat) (e3 : List (ByteArray × Bool)) (qg12 : Nat) (a4 : Int) (qp13 : Option Addr) (qn14 : Nat) (qc15 : Nat) (l5 : List Int) (o0 : Int) (hm : m_slices_IndexFunc_Token N l0 l1 l2 e3 a4 l5 = some o0) : Spec Tryd.prog 24 [.slice qp0 qn1 qc2, .func (.func 25) #[] #[.pointer (some ⟨qg3,0, none⟩), .pointer (some ⟨qg12,0, none⟩)]] [tabF Tryd.prog "internal/strconv.uint64pow10" .u64 Lib.pow10Tab 0 pow10_g] [.own 33 2 R_Api_TokenD (.slice qp0 qn1 qc2) l0, .blk qg3 [.pointer (some ⟨qg4,0, none⟩)] 35, .blk qg4 [.slice (some qp5) qn6 qc7, .slice qp0 qn1 qc2, .slice qp8 qn9 qc10, .map (some qb11)] 57, .own 3 1 R_i64 (.slice (some qp5) qn6 qc7) l1, .own 33 2 R_Api_TokenD (.slice qp8 qn9 qc10) l2, mapP (keyStr (tStr_run tT_9)) false R_bool qb11 e3, .blk qg12 [.int .i64 a4, .slice qp13 qn14 qc15] 33, .own 3 1 R_i64 (.slice qp13 qn14 qc15) l5] (fun v Φr Hr => v = .int .i64 o0 ∧ Φr = [] ∧ Hr = [.own 33 2 R_Api_TokenD (.slice qp0 qn1 qc2) l0, .blk qg3 [.pointer (some ⟨qg4,0, none⟩)] 35, .blk qg4 [.slice (some qp5) qn6 qc7, .slice qp0 qn1 qc2, .slice qp8 qn9 qc10, .map (some qb11)] 57, .own 3 1 R_i64 (.slice (some qp5) qn6 qc7) l1, .own 33 2 R_Api_TokenD (.slice qp8 qn9 qc10) l2, mapP (keyStr (tStr_run tT_9)) false R_bool qb11 e3, .blk qg12 [.int .i64 a4, .slice qp13 qn14 qc15] 33, .own 3 1 R_i64 (.slice qp13 qn14 qc15) l5]) := by
 unfold m_slices_IndexFunc_Token at hm
 refine spec_of Tryd.func24 rfl Tryd.ntmps24 rfl (S := [_,_]) rfl (fun C => (wc_seq (wc_region (wP rfl (wl_nil (we_then (wc_keep [0,1] (S' := [_,_]) rfl (wc_seq ?_))))))))
 obtain ⟨bj_1, hm, hLj_1⟩ := bindS_some hm
 refine wc_cut (σ := Unit) (fun _ => bj_1 = .inl ()) (fun _ => []) (fun _ => [tabF Tryd.prog "internal/strconv.uint64pow10" .u64 Lib.pow10Tab 0 pow10_g]) (fun _ => [.own 33 2 R_Api_TokenD (.slice qp0 qn1 qc2) l0, .blk qg3 [.pointer (some ⟨qg4,0, none⟩)] 35, .blk qg4 [.slice (some qp5) qn6 qc7, .slice qp0 qn1 qc2, .slice qp8 qn9 qc10, .map (some qb11)] 57, .own 3 1 R_i64 (.slice (some qp5) qn6 qc7) l1, .own 33 2 R_Api_TokenD (.slice qp8 qn9 qc10) l2, mapP (keyStr (tStr_run tT_9)) false R_bool qb11 e3, .blk qg12 [.int .i64 a4, .slice qp13 qn14 qc15] 33, .own 3 1 R_i64 (.slice qp13 qn14 qc15) l5]) ?_ ?_
 ·
  refine wc_seq (wc_region (wP rfl (wl_ownLen 0 rfl (fun hl7 _ => (wN rfl tE_23 (wl_as (d := 7) (v' := .int .i64 ((l0.length : Nat) : Int)) (S' := [_,_,_]) rfl rfl (len_is hl7) (wP rfl (wl_nil (we_then (wc_keep [8,7,0,1] (S' := [_,_,_,_]) rfl (wc_block (wc_loop (σ := Nat × Nat) (fun (nu1, u1_8) => iter (m_slices_IndexFunc_Token_L1 N l0 l1 l2 e3 a4 l5) nu1 u1_8 = some bj_1) (fun (nu1, u1_8) => nu1) (fun (nu1, u1_8) => [(8, .int .i64 ((u1_8 : Nat) : Int)), (7, .int .i64 ((l0.length : Nat) : Int)), (0, .slice qp0 qn1 qc2), (1, .func (.func 25) #[] #[.pointer (some ⟨qg3,0, none⟩), .pointer (some ⟨qg12,0, none⟩)])]) (fun (nu1, u1_8) => [tabF Tryd.prog "internal/strconv.uint64pow10" .u64 Lib.pow10Tab 0 pow10_g]) (fun (nu1, u1_8) => [.own 33 2 R_Api_TokenD (.slice qp0 qn1 qc2) l0, .blk qg3 [.pointer (some ⟨qg4,0, none⟩)] 35, .blk qg4 [.slice (some qp5) qn6 qc7, .slice qp0 qn1 qc2, .slice qp8 qn9 qc10, .map (some qb11)] 57, .own 3 1 R_i64 (.slice (some qp5) qn6 qc7) l1, .own 33 2 R_Api_TokenD (.slice qp8 qn9 qc10) l2, mapP (keyStr (tStr_run tT_9)) false R_bool qb11 e3, .blk qg12 [.int .i64 a4, .slice qp13 qn14 qc15] 33, .own 3 1 R_i64 (.slice qp13 qn14 qc15) l5]) (N, 0) hm [8,7,0,1] rfl (asK [0] rfl) rfl (fun s_ hm => ?_)))))))))))))
  obtain ⟨nu1, u1_8⟩ := s_
  try dsimp only at hm ⊢
  obtain ⟨mu1, bu1, hnu1, hq, hLu1⟩ := iter_some hm
  clear hm
  subst hnu1
  replace hm := hq
  clear hq
  unfold m_slices_IndexFunc_Token_L1 at hm
  try dsimp only at hm
  refine wc_seq (wc_region (wP rfl (wl_as (d := 9) (v' := .bool (decide (u1_8 < l0.length))) (S' := [_,_,_,_]) rfl rfl (natlt (a := u1_8) (b := l0.length)) (wl_nil (we_then (wc_seq ?_))))))
  refine wc_cond rfl (fun hb9 => ?_) (fun hb9 => ?_)
  ·
   replace hm := iteT hm hb9
   refine wc_keep [8,7,0,1] (S' := [_,_,_,_]) rfl (wc_skip (we_then (wc_seq (wc_block (wc_seq (wc_region (wP rfl (wP rfl (wl_nil (we_then (wc_keep [5,8,7,0,1] (S' := [_,_,_,_,_]) rfl (wc_seq (wc_region ?_)))))))))))))
   refine wP rfl (wP rfl (wP rfl ?_))
   obtain ⟨x14, hx14, hm⟩ := bindO_some hm
   refine wl_indexH 0 u1_8 rfl rfl rfl (freshS_eq rfl) rfl rfl rfl rfl rfl (get_lt hx14) tE_23 tS_33 (fun g14 eg14 => ?_)
   subst eg14
   refine wl_loadRow R_Api_TokenD_opens 0 u1_8 0 rfl rfl rfl (freshS_eq rfl) rfl rfl rfl hx14 tS_33 tA_33 (v := fun r15 => .agg #[.int .i64 (x14.rule), .slice r15.1 x14.ids.length r15.2]) (fun _ => rfl) (fun _ => rfl) (fun r15 _ => ?_)
   obtain ⟨v16, hc16, hm⟩ := bindO_some hm
   refine wl_callDyn [1,2,3,0,4,5,6,7] [] rfl rfl rfl (freshS_eq rfl) rfl rfl rfl fn_25 rfl rfl (w_agenda_Agenda_Fire_1_v4_s N x14.rule r15.1 r15.2 x14.ids qg3 qg4 qp5 qn6 qc7 l1 (some ⟨g14,0, none⟩) qn1 qc2 l0 qp8 qn9 qc10 l2 qb11 e3 qg12 a4 qp13 qn14 qc15 l5 _ hc16) (asK [0,1] rfl) rfl (H' := []) rfl ?_
   rintro _ _ _ ⟨rfl, rfl, rfl⟩
   refine wl_nil (we_then (wc_keep [16,5,8,7,0,1] (S' := [_,_,_,_,_,_]) rfl ?_))
   refine wc_cond rfl (fun hb16 => ?_) (fun hb16 => ?_)
   ·
    replace hm := iteT hm hb16
    refine wc_keep [5] (S' := [_]) rfl (wc_seq (wc_region (wP rfl (wP rfl (wl_nil (we_then (wc_keep [4] (S' := [_]) rfl (wc_ret (we_block_ret (we_then_ret (we_then_ret (we_block_ret (we_then_ret ?_)))))))))))))
    have hE := (Option.some.inj hm).symm
    replace hE := link_inr hLu1 hE
    replace hE := link_inr hLj_1 hE
    replace hE := hE.symm
    subst hE
    refine ret_one (Hr := [_,_,_,_,_,_,_,_]) [3,0,1,2,4,5,6,7] Tryd.results24 (res_tmp rfl) ⟨rfl, rfl, rfl⟩ (asK [] rfl) rfl rfl (.inl rfl)
   ·
    replace hm := iteF hm hb16
    refine wc_keep [8,7,0,1] (S' := [_,_,_,_]) rfl (wc_skip (we_block_normal (we_then (wc_region (wP rfl ?_)))))
    obtain ⟨hg18, hm⟩ := gd_some hm
    refine wl_as (d := 18) (v' := .int .i64 ((u1_8 + 1 : Nat) : Int)) (S' := [_,_,_,_]) rfl rfl (nat_add (a := u1_8) (b := 1) hg18) (wl_pure (S' := [_,_,_,_]) rfl rfl rfl rfl rfl (wl_nil ?_))
    have hE := (Option.some.inj hm).symm
    replace hE := link_inl hLu1 hE
    refine we_pick [3,0,1,2,4,5,6,7] rfl (H' := [_,_,_,_,_,_,_,_]) rfl ?_
    refine we_roundK (_, u1_8 + 1) (Nat.lt_succ_self _) hE [8,7,0,1] rfl (asK [1] rfl) rfl
  ·
   replace hm := iteF hm hb9
   refine wc_keep [] (S' := []) rfl (wc_exit (we_then_exit (we_then_exit (we_block_hit ?_))))
   have hE := (Option.some.inj hm).symm
   replace hE := link_inr hLu1 hE
   refine we_join () hE [] rfl (asK [0] rfl) rfl
 ·
  rintro _ hE
  try dsimp only
  have hm := link_inl hLj_1 hE
  try dsimp only at hm
  refine wc_seq (wc_region (wP rfl (wl_nil (we_then (wc_ret ?_)))))
  have hE := (Option.some.inj hm).symm
  replace hE := hE.symm
  subst hE
  refine ret_one (Hr := [_,_,_,_,_,_,_,_]) [0,1,2,3,4,5,6,7] Tryd.results24 (res_tmp rfl) ⟨rfl, rfl, rfl⟩ (asK [] rfl) rfl rfl (.inl rfl)
theorem w_agenda_Agenda_Fire_v2_s (N : Nat) (qg0 : Nat) (qp1 : Addr) (qn2 : Nat) (qc3 : Nat) (l0 : List Int) (qp4 : Option Addr) (qn5 : Nat) (qc6 : Nat) (l1 : List Api_TokenD) (qp7 : Option Addr) (qn8 : Nat) (qc9 : Nat) (l2 : List Api_TokenD) (qb10 : Nat) (e3 : List (ByteArray × Bool)) (a4 : Int) (qp11 : Option Addr) (qn12 : Nat) (qc13 : Nat) (l5 : List Int) (o0 : Nat) (o1 : List Int) (o4 : List Api_TokenD) (o8 : List Api_TokenD) (o10 : List (ByteArray × Bool)) (hm : m_agenda_Agenda_Fire N l0 l1 l2 e3 a4 l5 = some (o0, o1, o4, o8, o10)) : Spec Tryd.prog 12 [.pointer (some ⟨qg0,0, none⟩), .agg #[.int .i64 a4, .slice qp11 qn12 qc13]] [tabF Tryd.prog "internal/strconv.uint64pow10" .u64 Lib.pow10Tab 0 pow10_g] [.blk qg0 [.slice (some qp1) qn2 qc3, .slice qp4 qn5 qc6, .slice qp7 qn8 qc9, .map (some qb10)] 57, .own 3 1 R_i64 (.slice (some qp1) qn2 qc3) l0, .own 33 2 R_Api_TokenD (.slice qp4 qn5 qc6) l1, .own 33 2 R_Api_TokenD (.slice qp7 qn8 qc9) l2, mapP (keyStr (tStr_run tT_9)) false R_bool qb10 e3, .own 3 1 R_i64 (.slice qp11 qn12 qc13) l5] (fun v Φr Hr => ∃ (o2 : Option Addr) (o3 : Nat) (o5 : Nat) (o6 : Option Addr) (o7 : Nat) (o9 : Nat), v = .int .i64 ((o0 : Nat) : Int) ∧ Φr = [] ∧ Hr = [.blk qg0 [.slice (some qp1) qn2 qc3, .slice o2 o5 o3, .slice o6 o9 o7, .map (some qb10)] 57, .own 3 1 R_i64 (.slice (some qp1) qn2 qc3) o1, .own 33 2 R_Api_TokenD (.slice o2 o5 o3) o4, .own 33 2 R_Api_TokenD (.slice o6 o9 o7) o8, mapP (keyStr (tStr_run tT_9)) false R_bool qb10 o10, .own 3 1 R_i64 (.slice qp11 qn12 qc13) l5]) := by
 unfold m_agenda_Agenda_Fire at hm
 refine spec_of Tryd.func12 rfl Tryd.ntmps12 rfl (S := [_,_]) rfl (fun C => (wc_seq (wc_region (wB rfl (fun g2 => (wB rfl (fun g3 => (wP rfl (wl_nil (we_then (wc_keep [3,2] (S' := [_,_]) rfl (wc_seq (wc_seq (wc_region (wD 1 0 rfl tS_35 tA_35 rfl ?_)))))))))))))))
 obtain ⟨_, hc7, hm⟩ := bindO_some hm
 try dsimp only at hm
 refine wC [2,3,4,5,6] [0,1,7] rfl fn_20 rfl (w_agenda_Agenda_known_v2_s N qg0 qp1 qn2 qc3 l0 qp4 qn5 qc6 l1 qp7 qn8 qc9 l2 qb10 e3 hc7) (asK [0] rfl) rfl (H' := [_,_,_]) rfl ?_
 rintro _ _ _ ⟨rfl, rfl, rfl⟩
 refine wP rfl (wl_nil (we_then (wc_keep [8,3,2] (S' := [_,_,_]) rfl (wc_false rfl (wc_keep [3,2] (S' := [_,_]) rfl (wc_skip (we_then (wc_seq (wc_region (wD 6 0 rfl tS_35 tA_35 rfl (wP rfl (wF rfl tF_57_1 (wD 0 1 rfl tS_23 tA_23 rfl ?_)))))))))))))
 refine wl_makeFunc rfl rfl rfl (freshS_eq rfl) rfl rfl (wl_ownLen 2 rfl (fun hzqn5 _ => ?_))
 subst hzqn5
 obtain ⟨v14, hc14, hm⟩ := bindO_some hm
 refine wC [2,6,0,1,3,4,5,7] [] rfl fn_24 rfl (w_slices_IndexFunc_Token_v4_s N qp4 l1.length qc6 l1 g2 qg0 qp1 qn2 qc3 l0 qp7 qn8 qc9 l2 qb10 e3 g3 a4 qp11 qn12 qc13 l5 _ hc14) (asK [0] rfl) rfl (H' := []) rfl ?_
 rintro _ _ _ ⟨rfl, rfl, rfl⟩
 refine wP rfl (wl_nil (we_then (wc_keep [5,3,2] (S' := [_,_,_]) rfl (wc_seq (wc_seq (wc_region (wP rfl (wP rfl (wl_nil (we_then (wc_keep [16,5,3,2] (S' := [_,_,_,_]) rfl ?_)))))))))))
 refine wc_cond rfl (fun hb16 => ?_) (fun hb16 => ?_)
 ·
  replace hm := iteT hm hb16
  refine wc_keep [] (S' := []) rfl (wc_seq (wc_region (wP rfl (wl_nil (we_then (wc_ret (we_then_ret ?_)))))))
  have hE := (Option.some.inj hm).symm
  obtain ⟨hE0, hF1⟩ := Prod.mk.inj hE
  obtain ⟨hE1, hF2⟩ := Prod.mk.inj hF1
  obtain ⟨hE2, hF3⟩ := Prod.mk.inj hF2
  obtain ⟨hE3, hE4⟩ := Prod.mk.inj hF3
  clear hE hF1 hF2 hF3
  replace hE0 := hE0.symm
  subst hE0
  replace hE1 := hE1.symm
  subst hE1
  replace hE2 := hE2.symm
  subst hE2
  replace hE3 := hE3.symm
  subst hE3
  replace hE4 := hE4.symm
  subst hE4
  refine ret_one (Hr := [_,_,_,_,_,_]) [2,3,0,4,5,7] Tryd.results12 (res_tmp rfl) ⟨qp4, qc6, l1.length, qp7, qc9, qn8, rfl, rfl, rfl⟩ (asK [] rfl) rfl rfl (.inl rfl)
 ·
  replace hm := iteF hm hb16
  refine wc_keep [5,3,2] (S' := [_,_,_]) rfl (wc_skip (we_then (wc_seq ?_)))
  obtain ⟨hg24, hm⟩ := gd_some hm
  obtain ⟨hg25, hm⟩ := gd_some hm
  obtain ⟨hgk25, hm⟩ := gd_some hm
  refine wc_draw [0,1,2,3,4,5,6,7,9,10] rfl rfl (fun hok => (wx_loadH hok 0 1 0 rfl rfl rfl (freshS_eq rfl) rfl rfl rfl rfl (cs := [_]) rfl tS_35 tA_35 rfl rfl (wx_loadH hok 1 1 0 rfl rfl rfl (freshS_eq rfl) rfl rfl rfl rfl (cs := [_]) rfl tS_35 tA_35 rfl rfl (xP hok 2 rfl (wx_fieldAddr hok 3 rfl rfl rfl (freshS_eq rfl) rfl rfl rfl tF_57_1 (wx_loadH hok 4 2 1 rfl rfl rfl (freshS_eq rfl) rfl rfl rfl rfl (cs := [_]) rfl tS_23 tA_23 rfl rfl (xP hok 5 rfl (xP hok 6 rfl (xP hok 7 rfl (wx_as (d := 24) (v' := .int .i64 (v14 + 1)) (S' := [_,_,_,_,_,_,_,_,_,_]) rfl rfl (i64_in hg24) (xS hok 8 rfl (wC [0] [1,2,3,4,5,6,7] rfl fn_26 rfl (Delete26_s qp4 qc6 v14 l1 hg25 hgk25) (asK [] rfl) rfl (H' := [_,_,_,_,_,_,_]) rfl ?_))))))))))))
  rintro _ _ _ ⟨p25, c25, rfl, rfl, rfl⟩
  refine wl_nil (we_x [0] [1,1] rfl rfl (xP hok 9 rfl (wx_fieldAddr hok 10 rfl rfl rfl (freshS_eq rfl) rfl rfl rfl tF_57_1 (xS hok 11 rfl (wS 2 1 rfl tS_23 (all' := [_,_,_,_]) rfl (H' := [_,_,_,_,_,_,_,_]) rfl (wl_nil (we_x [0] [] rfl rfl (wx_done hok rfl (we_then (wc_keep [3,2] (S' := [_,_]) rfl (wc_seq ?_)))))))))))
  obtain ⟨v33, hc33, hm⟩ := bindO_some hm
  refine wc_draw [0,1,2,3,4] rfl rfl (fun hok => (wx_loadH hok 0 1 0 rfl rfl rfl (freshS_eq rfl) rfl rfl rfl rfl (cs := [_]) rfl tS_35 tA_35 rfl rfl (xP hok 1 rfl (wx_fieldAddr hok 2 rfl rfl rfl (freshS_eq rfl) rfl rfl rfl tF_57_3 (wx_loadH hok 3 2 3 rfl rfl rfl (freshS_eq rfl) rfl rfl rfl rfl (cs := [_]) rfl tS_55 tA_55 rfl rfl (wx_loadH hok 4 6 0 rfl rfl rfl (freshS_eq rfl) rfl rfl rfl rfl (cs := [_,_]) rfl tS_33 tA_33 rfl rfl (xS hok 5 rfl (wl_ownLen 7 rfl (fun hzqn12 _ => ?_)))))))))
  subst hzqn12
  refine wl_lend [] [0,1,2,3,4,5,6,7] [7] rfl rfl rfl (freshS_eq rfl) rfl rfl fn_21 rfl (w_agenda_name_s N a4 qp11 qc13 l5 _ hc33) (fun F w hφ hh => (ask_cons (own_sli (hh _ (mem_at (k := 0) rfl))) (ask_cons (hφ _ (mem_at (k := 0) rfl)) ask_nil))) (fun _ _ _ hR => by obtain ⟨rfl, rfl, rfl⟩ := hR; exact ⟨rfl, (fun _ h => free_nil h)⟩) rfl rfl (H' := [_,_,_,_,_,_,_,_]) rfl ?_
  rintro _ _ _ ⟨rfl, rfl, rfl⟩
  refine wl_nil (we_x [0] [2,1] rfl rfl (xS hok 6 rfl (wl_mapPutP (i := v33) (u := true) (cs := [.bool true]) ltB 5 rfl rfl (.inl rfl) rfl rfl rfl rfl tM_55 trivial rfl (fun F w hφ => ⟨(), rfl, ask_nil⟩) (H' := [.own 33 2 R_Api_TokenD (.slice p25 ((l1.take v14.toNat ++ l1.drop (v14.toNat + 1)).length) c25) (l1.take v14.toNat ++ l1.drop (v14.toNat + 1)), .blk g2 [.pointer (some ⟨qg0,0, none⟩)] 35, .blk qg0 [.slice (some qp1) qn2 qc3, .slice p25 ((l1.take v14.toNat ++ l1.drop (v14.toNat + 1)).length) c25, .slice qp7 qn8 qc9, .map (some qb10)] 57, .own 3 1 R_i64 (.slice (some qp1) qn2 qc3) l0, .own 33 2 R_Api_TokenD (.slice qp7 qn8 qc9) l2, mapP (keyStr (tStr_run tT_9)) false R_bool qb10 (mputP ltB v33 true e3), .blk g3 [.int .i64 a4, .slice qp11 l5.length qc13] 33, .own 3 1 R_i64 (.slice qp11 l5.length qc13) l5]) rfl (wl_nil (we_x [0] [] rfl rfl (wx_done hok rfl (we_then (wc_keep [3,2] (S' := [_,_]) rfl (wc_seq ?_)))))))))
  obtain ⟨_, hc40, hm⟩ := bindO_some hm
  try dsimp only at hm
  obtain ⟨hg42, hm⟩ := gd_some hm
  refine wc_draw [0,1,2,3,4,5,9,10] rfl rfl (fun hok => (wx_loadH hok 0 1 0 rfl rfl rfl (freshS_eq rfl) rfl rfl rfl rfl (cs := [_]) rfl tS_35 tA_35 rfl rfl (wx_loadH hok 1 1 0 rfl rfl rfl (freshS_eq rfl) rfl rfl rfl rfl (cs := [_]) rfl tS_35 tA_35 rfl rfl (xP hok 2 rfl (wx_fieldAddr hok 3 rfl rfl rfl (freshS_eq rfl) rfl rfl rfl tF_57_2 (wx_loadH hok 4 2 2 rfl rfl rfl (freshS_eq rfl) rfl rfl rfl rfl (cs := [_]) rfl tS_23 tA_23 rfl rfl (wx_loadH hok 5 6 0 rfl rfl rfl (freshS_eq rfl) rfl rfl rfl rfl (cs := [_,_]) rfl tS_33 tA_33 rfl rfl (xS hok 6 rfl (wl_lend [] [0,1,2,3,4,5,6,7] [7] rfl rfl rfl (freshS_eq rfl) rfl rfl fn_22 rfl (w_agenda_own_s N a4 qp11 qc13 l5 hc40) (fun F w hφ hh => (ask_cons (own_sli (hh _ (mem_at (k := 0) rfl))) (ask_cons (hφ _ (mem_at (k := 0) rfl)) ask_nil))) (fun _ _ _ hR => by obtain ⟨_,_, rfl, rfl, rfl⟩ := hR; exact ⟨rfl, (free_cons (own_free mkRep_free) (fun _ h => free_nil h))⟩) rfl rfl (H' := [_,_,_,_,_,_,_,_]) rfl ?_)))))))))
  rintro _ _ _ ⟨p40_0, c40_1, rfl, rfl, rfl⟩
  refine wl_nil (we_x [0] [3,2,2] rfl rfl (xS hok 7 rfl (wl_buildSlice rfl rfl rfl (freshS_eq rfl) rfl tE_23 tS_33 tZ_33 rfl (zs := [.int .i64 0, .slice none 0 0]) (by kernel_rfl) rfl (out := [_,_]) rfl (fun g41 => (wl_nil (we_x [0] [8,4,3,3] rfl rfl (xS hok 8 rfl (wl_freeze 1 rfl (H' := [_,_,_,_,_,_,_,_,_]) rfl (wl_fact (.sli 1 R_i64 p40_0 c40_1 l5) (fun F w hφ => own_sli (hφ _ (mem_at (k := 0) rfl))) (wl_appendH ([(⟨a4, l5⟩ : Api_TokenD)]) 5 0 rfl rfl rfl (freshS_eq rfl) rfl rfl rfl rfl rfl (fun F w hφ => ⟨[.int .i64 a4, .slice p40_0 l5.length c40_1],[], rfl, rfl, ⟨(p40_0, c40_1), rfl, (ask_cons (hφ _ (mem_at (k := 0) rfl)) ask_nil)⟩, rfl⟩) tE_23 tR_33 rfl rfl (Nat.le_trans hg42 (by decide)) (Nat.le_trans (Nat.mul_le_mul_right _ hg42) (by decide)) (H2 := fun p42 c42 => [_,_,_,_,_, .own 33 2 R_Api_TokenD (.slice p42 ((l2 ++ ([(⟨a4, l5⟩ : Api_TokenD)])).length) c42) (l2 ++ ([(⟨a4, l5⟩ : Api_TokenD)])), _,_,_]) (fun _ _ => rfl) (fun p42 c42 => (wl_drop 0 rfl (H' := [_,_,_,_,_,_,_,_]) rfl (wl_nil (we_x [2] [6,1,1] rfl rfl (xP hok 9 rfl ?_)))))))))))))))
  refine wx_fieldAddr hok 10 rfl rfl rfl (freshS_eq rfl) rfl rfl rfl tF_57_2 (xS hok 11 rfl (wS 2 2 rfl tS_23 (all' := [_,_,_,_]) rfl (H' := [_,_,_,_,_,_,_,_]) rfl (wl_nil (we_x [0,1,2] [] rfl rfl (wx_done hok rfl (we_then (wc_keep [2] (S' := [_]) rfl (wc_seq ?_))))))))
  obtain ⟨⟨v54_0, v54_1⟩, hc54, hm⟩ := bindO_some hm
  try dsimp only at hm
  obtain ⟨hrl54_0, hm⟩ := gd_some hm
  refine wc_draw [0,1,2,3,4,5,6,7] rfl rfl (fun hok => (wx_loadH hok 0 1 0 rfl rfl rfl (freshS_eq rfl) rfl rfl rfl rfl (cs := [_]) rfl tS_35 tA_35 rfl rfl (xP hok 1 rfl (wx_fieldAddr hok 2 rfl rfl rfl (freshS_eq rfl) rfl rfl rfl tF_57_2 (wx_loadH hok 3 2 2 rfl rfl rfl (freshS_eq rfl) rfl rfl rfl rfl (cs := [_]) rfl tS_23 tA_23 rfl rfl (wx_loadH hok 4 1 0 rfl rfl rfl (freshS_eq rfl) rfl rfl rfl rfl (cs := [_]) rfl tS_35 tA_35 rfl rfl (xP hok 5 rfl (wx_fieldAddr hok 6 rfl rfl rfl (freshS_eq rfl) rfl rfl rfl tF_57_0 (wx_loadH hok 7 2 0 rfl rfl rfl (freshS_eq rfl) rfl rfl rfl rfl (cs := [_]) rfl tS_52 tA_52 rfl rfl (xS hok 8 rfl (wl_makeFuncF rfl rfl rfl (freshS_eq rfl) rfl rfl rfl (wl_nil (we_x [0,1,2] [1,2,1] rfl rfl (xS hok 9 rfl ?_))))))))))))))
  refine wC [4,3] [0,1,2,5,6,7] rfl fn_23 rfl (w_slices_SortFunc_Token_v2_s N p42 ((l2 ++ ([(⟨a4, l5⟩ : Api_TokenD)])).length) c42 (l2 ++ ([(⟨a4, l5⟩ : Api_TokenD)])) qp1 qn2 qc3 l0 _ _ hc54) (asK [2] rfl) rfl (H' := [_,_,_,_,_,_]) rfl ?_
  rintro _ _ _ ⟨c54_0, rfl, rfl, rfl⟩
  refine wl_ownLen 0 rfl (fun hzc54_0 _ => ?_)
  subst hzc54_0
  refine wl_hAs 0 (φ' := .own 33 2 R_Api_TokenD (.slice p42 ((l2 ++ ([(⟨a4, l5⟩ : Api_TokenD)])).length) c42) v54_0) rfl (by rw [hrl54_0]) (H' := [_,_,_,_,_,_,_,_]) rfl (wl_nil (we_x [0,1,2] [4,3,3] rfl rfl (wx_done hok rfl (we_then (wc_keep [] (S' := []) rfl (wc_seq (wc_region (wP rfl (wl_nil (we_then (wc_ret ?_)))))))))))
  have hE := (Option.some.inj hm).symm
  obtain ⟨hE0, hF1⟩ := Prod.mk.inj hE
  obtain ⟨hE1, hF2⟩ := Prod.mk.inj hF1
  obtain ⟨hE2, hF3⟩ := Prod.mk.inj hF2
  obtain ⟨hE3, hE4⟩ := Prod.mk.inj hF3
  clear hE hF1 hF2 hF3
  replace hE0 := hE0.symm
  subst hE0
  replace hE1 := hE1.symm
  subst hE1
  replace hE2 := hE2.symm
  subst hE2
  replace hE3 := hE3.symm
  subst hE3
  replace hE4 := hE4.symm
  subst hE4
  refine ret_one (Hr := [_,_,_,_,_,_]) [4,1,2,0,5,7] Tryd.results12 (res_tmp rfl) ⟨p25, c25, (l1.take v14.toNat ++ l1.drop (v14.toNat + 1)).length, p42, c42, (l2 ++ ([(⟨a4, l5⟩ : Api_TokenD)])).length, rfl, rfl, rfl⟩ (asK [] rfl) rfl rfl (.inl rfl)
theorem w_agenda_Agenda_Fired_s (N : Nat) (qg0 : Nat) (qp1 : Addr) (qn2 : Nat) (qc3 : Nat) (l0 : List Int) (qp4 : Option Addr) (qn5 : Nat) (qc6 : Nat) (l1 : List Api_TokenD) (qp7 : Option Addr) (qn8 : Nat) (qc9 : Nat) (l2 : List Api_TokenD) (qb10 : Nat) (e3 : List (ByteArray × Bool)) (o2 : List Api_TokenD) (hm : m_agenda_Agenda_Fired N l0 l1 l2 e3 = some o2) : Spec Tryd.prog 14 [.pointer (some ⟨qg0,0, none⟩)] [tabF Tryd.prog "internal/strconv.uint64pow10" .u64 Lib.pow10Tab 0 pow10_g] [.blk qg0 [.slice (some qp1) qn2 qc3, .slice qp4 qn5 qc6, .slice qp7 qn8 qc9, .map (some qb10)] 57, .own 3 1 R_i64 (.slice (some qp1) qn2 qc3) l0, .own 33 2 R_Api_TokenD (.slice qp4 qn5 qc6) l1, .own 33 2 R_Api_TokenD (.slice qp7 qn8 qc9) l2, mapP (keyStr (tStr_run tT_9)) false R_bool qb10 e3] (fun v Φr Hr => ∃ (o0 : Option Addr) (o1 : Nat) (o3 : Nat), v = .slice o0 o3 o1 ∧ Φr = [] ∧ Hr = [treeF T_Api_TokenD 33 2 (.slice o0 o3 o1) o2, .blk qg0 [.slice (some qp1) qn2 qc3, .slice qp4 qn5 qc6, .slice qp7 qn8 qc9, .map (some qb10)] 57, .own 3 1 R_i64 (.slice (some qp1) qn2 qc3) l0, .own 33 2 R_Api_TokenD (.slice qp4 qn5 qc6) l1, .own 33 2 R_Api_TokenD (.slice qp7 qn8 qc9) l2, mapP (keyStr (tStr_run tT_9)) false R_bool qb10 e3]) := by
 unfold m_agenda_Agenda_Fired at hm
 refine spec_of Tryd.func14 rfl Tryd.ntmps14 rfl (S := [_]) rfl (fun C => (wc_seq (wc_region (wP rfl (wl_nil (we_then (wc_keep [0] (S' := [_]) rfl (wc_seq (wc_seq (wc_region (wP rfl ?_)))))))))))
 obtain ⟨_, hc7, hm⟩ := bindO_some hm
 try dsimp only at hm
 refine wC [0,1,2,3,4] [] rfl fn_20 rfl (w_agenda_Agenda_known_v2_s N qg0 qp1 qn2 qc3 l0 qp4 qn5 qc6 l1 qp7 qn8 qc9 l2 qb10 e3 hc7) (asK [0] rfl) rfl (H' := []) rfl ?_
 rintro _ _ _ ⟨rfl, rfl, rfl⟩
 refine wP rfl (wl_nil (we_then (wc_keep [8,0] (S' := [_,_]) rfl (wc_false rfl (wc_keep [0] (S' := [_]) rfl (wc_skip (we_then (wc_seq (wc_region (wP rfl (wl_nil (we_then (wc_seq ?_)))))))))))))
 obtain ⟨bj_1, hm, hLj_1⟩ := bindO_some hm
 refine wc_cut (σ := (List Api_TokenD) × (Option Addr) × Nat × Nat) (fun (j_1_3_l, j_1_3_p, j_1_3_c, j_1_3_n) => bj_1 = j_1_3_l) (fun (j_1_3_l, j_1_3_p, j_1_3_c, j_1_3_n) => [(3, .slice j_1_3_p j_1_3_n j_1_3_c)]) (fun (j_1_3_l, j_1_3_p, j_1_3_c, j_1_3_n) => [tabF Tryd.prog "internal/strconv.uint64pow10" .u64 Lib.pow10Tab 0 pow10_g]) (fun (j_1_3_l, j_1_3_p, j_1_3_c, j_1_3_n) => [treeF T_Api_TokenD 33 2 (.slice j_1_3_p j_1_3_n j_1_3_c) j_1_3_l, .blk qg0 [.slice (some qp1) qn2 qc3, .slice qp4 qn5 qc6, .slice qp7 qn8 qc9, .map (some qb10)] 57, .own 3 1 R_i64 (.slice (some qp1) qn2 qc3) l0, .own 33 2 R_Api_TokenD (.slice qp4 qn5 qc6) l1, .own 33 2 R_Api_TokenD (.slice qp7 qn8 qc9) l2, mapP (keyStr (tStr_run tT_9)) false R_bool qb10 e3]) ?_ ?_
 ·
  refine wc_seq (wc_region (wP rfl (wP rfl (wF rfl tF_57_2 (wD 0 2 rfl tS_23 tA_23 rfl (wl_ownLen 3 rfl (fun hl13 _ => (wN rfl tE_23 (wl_as (d := 13) (v' := .int .i64 ((l2.length : Nat) : Int)) (S' := [_,_,_,_,_,_]) rfl rfl (len_is hl13) (wP rfl (wl_nil (we_then (wc_keep [14,13,12,3] (S' := [_,_,_,_]) rfl (wc_block ?_))))))))))))))
  refine wc_sh [treeF T_Api_TokenD 33 2 (.slice none 0 0) [],_,_,_,_,_] (fun _ h => h.treeNil T_Api_TokenD 33 2) (wc_pick [4,0,1,2,3,5] rfl (H' := [_,_,_,_,_,_]) rfl (wc_loop (σ := Nat × Nat × (List Api_TokenD) × (Option Addr) × Nat × Nat) (fun (nu1, u1_14, u1_3_l, u1_3_p, u1_3_c, u1_3_n) => iter (m_agenda_Agenda_Fired_L1 N l2) nu1 (u1_14, u1_3_l) = some bj_1) (fun (nu1, u1_14, u1_3_l, u1_3_p, u1_3_c, u1_3_n) => nu1) (fun (nu1, u1_14, u1_3_l, u1_3_p, u1_3_c, u1_3_n) => [(14, .int .i64 ((u1_14 : Nat) : Int)), (13, .int .i64 ((l2.length : Nat) : Int)), (12, .slice qp7 qn8 qc9), (3, .slice u1_3_p u1_3_n u1_3_c)]) (fun (nu1, u1_14, u1_3_l, u1_3_p, u1_3_c, u1_3_n) => [tabF Tryd.prog "internal/strconv.uint64pow10" .u64 Lib.pow10Tab 0 pow10_g]) (fun (nu1, u1_14, u1_3_l, u1_3_p, u1_3_c, u1_3_n) => [.own 33 2 R_Api_TokenD (.slice qp7 qn8 qc9) l2, treeF T_Api_TokenD 33 2 (.slice u1_3_p u1_3_n u1_3_c) u1_3_l, .blk qg0 [.slice (some qp1) qn2 qc3, .slice qp4 qn5 qc6, .slice qp7 qn8 qc9, .map (some qb10)] 57, .own 3 1 R_i64 (.slice (some qp1) qn2 qc3) l0, .own 33 2 R_Api_TokenD (.slice qp4 qn5 qc6) l1, mapP (keyStr (tStr_run tT_9)) false R_bool qb10 e3]) (N, 0,[], none, 0,0) hm [14,13,12,3] rfl (asK [0] rfl) rfl (fun s_ hm => ?_)))
  obtain ⟨nu1, u1_14, u1_3_l, u1_3_p, u1_3_c, u1_3_n⟩ := s_
  try dsimp only at hm ⊢
  obtain ⟨mu1, bu1, hnu1, hq, hLu1⟩ := iter_some hm
  clear hm
  subst hnu1
  replace hm := hq
  clear hq
  unfold m_agenda_Agenda_Fired_L1 at hm
  try dsimp only at hm
  refine wc_seq (wc_region (wP rfl (wl_as (d := 15) (v' := .bool (decide (u1_14 < l2.length))) (S' := [_,_,_,_]) rfl rfl (natlt (a := u1_14) (b := l2.length)) (wl_nil (we_then (wc_seq ?_))))))
  refine wc_cond rfl (fun hb15 => ?_) (fun hb15 => ?_)
  ·
   replace hm := iteT hm hb15
   refine wc_keep [14,13,12,3] (S' := [_,_,_,_]) rfl (wc_skip (we_then (wc_seq (wc_block (wc_seq (wc_region ?_))))))
   obtain ⟨x16, hx16, hm⟩ := bindO_some hm
   refine wl_indexH 0 u1_14 rfl rfl rfl (freshS_eq rfl) rfl rfl rfl rfl rfl (get_lt hx16) tE_23 tS_33 (fun g16 eg16 => ?_)
   subst eg16
   refine wl_loadRow R_Api_TokenD_opens 0 u1_14 0 rfl rfl rfl (freshS_eq rfl) rfl rfl rfl hx16 tS_33 tA_33 (v := fun r17 => .agg #[.int .i64 (x16.rule), .slice r17.1 x16.ids.length r17.2]) (fun _ => rfl) (fun _ => rfl) (fun r17 _ => (wl_alloc rfl rfl rfl (freshS_eq rfl) rfl tZ_33 rfl (fun g5 => (wS 0 0 rfl tS_33 (all' := [_,_]) rfl (H' := [_,_,_,_,_,_,_]) rfl (wl_nil (we_then (wc_keep [5,14,13,12,3] (S' := [_,_,_,_,_]) rfl (wc_region (wP rfl (wl_loadH 0 0 rfl rfl rfl (freshS_eq rfl) rfl rfl rfl (cs := [_,_]) rfl tS_33 tA_33 rfl rfl ?_))))))))))
   obtain ⟨_, hc20, hm⟩ := bindO_some hm
   try dsimp only at hm
   refine wC [] [0,1,2,3,4,5,6] rfl fn_22 rfl (w_agenda_own_s N x16.rule r17.1 r17.2 x16.ids hc20) (asK [0,1] rfl) rfl (H' := [_,_,_,_,_,_,_]) rfl ?_
   rintro _ _ _ ⟨p20_0, c20_1, rfl, rfl, rfl⟩
   refine wl_buildSlice rfl rfl rfl (freshS_eq rfl) rfl tE_23 tS_33 tZ_33 rfl (zs := [.int .i64 0, .slice none 0 0]) (by kernel_rfl) rfl (out := [_,_]) rfl (fun g21 => (wl_treeLen 4 rfl (fun hzt8 _ => ?_)))
   subst hzt8
   refine wl_treeOut 4 rfl (fun zz22 hzz22 => ?_)
   obtain ⟨hg22, hm⟩ := gd_some hm
   have hzs12 : List.map (fun x : Api_TokenD × (Option Addr × Nat) => x.1) (zz22 ++ [(x16, (p20_0, c20_1))]) = u1_3_l ++ [x16] := pair_app hzz22 (us := [x16]) rfl
   have hgl22 : zz22.length + ([(x16, (p20_0, c20_1))] : List (Api_TokenD × (Option Addr × Nat))).length ≤ 4398046511104 := by rw [pair_len hzz22]; exact hg22
   refine wl_appendH (R := T_Api_TokenD.pair) ([(x16, (p20_0, c20_1))]) 5 1 rfl rfl rfl (freshS_eq rfl) rfl rfl rfl rfl rfl (fun F w hφ => ⟨[.int .i64 (x16.rule), .slice p20_0 x16.ids.length c20_1],[], rfl, rfl, rfl, rfl⟩) tE_23 tR_33 rfl rfl (Nat.le_trans hgl22 (by decide)) (Nat.le_trans (Nat.mul_le_mul_right _ hgl22) (by decide)) (H2 := fun p22 c22 => [_,_,_,_,_, .own 33 2 T_Api_TokenD.pair (.slice p22 ((zz22 ++ [(x16, (p20_0, c20_1))]).length) c22) (zz22 ++ [(x16, (p20_0, c20_1))]), _,_,_,_]) (fun _ _ => rfl) (fun p22 c22 => (wl_drop 1 rfl (H' := [_,_,_,_,_,_,_,_,_]) rfl (wl_as (d := 22) (v' := .slice p22 ((u1_3_l ++ [x16]).length) c22) (S' := [_,_,_,_,_,_,_,_,_]) rfl rfl (by rw [pair_len hzs12]) (wl_hAs 4 (φ' := .own 33 2 T_Api_TokenD.pair (.slice p22 ((u1_3_l ++ [x16]).length) c22) (zz22 ++ [(x16, (p20_0, c20_1))])) rfl (by rw [pair_len hzs12]) (H' := [_,_,_,_,_,_,_,_,_]) rfl (wl_pick [1,0,2,3,4,5,6,7,8] rfl (H' := [_,_,_,_,_,_,_,_,_]) rfl (wl_sh [bagF T_Api_TokenD (zz22 ++ [(x16, (p20_0, c20_1))]) none, _,_,_,_,_,_,_] (fun _ h => Holds.bagPush (T := T_Api_TokenD) (x := x16) (r := (p20_0, c20_1)) (zs := zz22) (H := [_,_,_,_,_,_,_,_]) h 0 rfl) (wl_sh [_,_, treeF T_Api_TokenD 33 2 (.slice p22 ((u1_3_l ++ [x16]).length) c22) (u1_3_l ++ [x16]), _,_,_,_] (fun _ h => h.treeIn 3 0 rfl rfl rfl hzs12) (wl_pure (S' := [_,_,_,_,_,_,_,_,_]) rfl rfl rfl rfl rfl (wl_nil (we_block_normal (we_then (wc_keep [3,14,13,12] (S' := [_,_,_,_]) rfl (wc_region (wP rfl ?_))))))))))))))
   obtain ⟨hg23, hm⟩ := gd_some hm
   refine wl_as (d := 23) (v' := .int .i64 ((u1_14 + 1 : Nat) : Int)) (S' := [_,_,_,_]) rfl rfl (nat_add (a := u1_14) (b := 1) hg23) (wl_pure (S' := [_,_,_,_]) rfl rfl rfl rfl rfl (wl_nil ?_))
   have hE := (Option.some.inj hm).symm
   replace hE := link_inl hLu1 hE
   refine we_pick [1,2,3,4,5,6] rfl (H' := [_,_,_,_,_,_]) rfl ?_
   refine we_roundK (_, u1_14 + 1, u1_3_l ++ [x16], p22, c22, (u1_3_l ++ [x16]).length) (Nat.lt_succ_self _) hE [14,13,12,3] rfl (asK [1] rfl) rfl
  ·
   replace hm := iteF hm hb15
   refine wc_keep [3] (S' := [_]) rfl (wc_exit (we_then_exit (we_then_exit (we_block_hit ?_))))
   have hE := (Option.some.inj hm).symm
   replace hE := link_inr hLu1 hE
   refine we_pick [1,2,3,4,0,5] rfl (H' := [_,_,_,_,_,_]) rfl ?_
   refine we_join (u1_3_l, u1_3_p, u1_3_c, u1_3_n) hE [3] rfl (asK [0] rfl) rfl
 ·
  rintro ⟨j_1_3_l, j_1_3_p, j_1_3_c, j_1_3_n⟩ hE
  try dsimp only
  have hm := hLj_1
  rw [hE] at hm
  refine wc_seq (wc_region (wP rfl (wP rfl (wl_nil (we_then (wc_keep [2] (S' := [_]) rfl (wc_ret ?_)))))))
  have hE := (Option.some.inj hm).symm
  replace hE := hE.symm
  subst hE
  refine ret_one (Hr := [_,_,_,_,_,_]) [0,1,2,3,4,5] Tryd.results14 (res_tmp rfl) ⟨j_1_3_p, j_1_3_c, j_1_3_n, rfl, rfl, rfl⟩ (asK [] rfl) rfl rfl (.inl rfl)
theorem w_ropewalkkit_SameTokens_s (N : Nat) (qp0 : Option Addr) (qc1 : Nat) (l0 : List Api_TokenD) (qp2 : Option Addr) (qc3 : Nat) (l1 : List Api_TokenD) (o0 : Bool) (hm : m_ropewalkkit_SameTokens N l0 l1 = some o0) : Spec Tryd.prog 13 [.slice qp0 l0.length qc1, .slice qp2 l1.length qc3] [.sli 2 R_Api_TokenD qp0 qc1 l0, .sli 2 R_Api_TokenD qp2 qc3 l1, tabF Tryd.prog "internal/strconv.uint64pow10" .u64 Lib.pow10Tab 0 pow10_g] [] (fun v Φr Hr => v = .bool o0 ∧ Φr = [] ∧ Hr = []) := by
 unfold m_ropewalkkit_SameTokens at hm
 refine spec_of Tryd.func13 rfl Tryd.ntmps13 rfl (S := [_,_]) rfl (fun C => (wc_seq (wc_region (wP rfl (wl_nil (we_then (wc_keep [0,1] (S' := [_,_]) rfl (wc_seq (wc_seq (wc_region (wP rfl (wN rfl tE_23 (wP rfl (wN rfl tE_23 ?_))))))))))))))
 refine wP rfl (wl_as (d := 10) (v' := .bool (l0.length != l1.length)) (S' := [_,_,_,_,_,_]) rfl rfl (natne (a := l0.length) (b := l1.length)) (wl_nil (we_then (wc_keep [10,0,1] (S' := [_,_,_]) rfl ?_))))
 refine wc_cond rfl (fun hb10 => ?_) (fun hb10 => ?_)
 ·
  replace hm := iteT hm hb10
  refine wc_keep [] (S' := []) rfl (wc_seq (wc_region (wP rfl (wl_nil (we_then (wc_ret (we_then_ret ?_)))))))
  have hE := (Option.some.inj hm).symm
  replace hE := hE.symm
  subst hE
  refine ret_one (Hr := []) [] Tryd.results13 (res_tmp rfl) ⟨rfl, rfl, rfl⟩ (asK [] rfl) rfl rfl (.inl rfl)
 ·
  replace hm := iteF hm hb10
  refine wc_keep [0,1] (S' := [_,_]) rfl (wc_skip (we_then (wc_seq ?_)))
  obtain ⟨bj_1, hm, hLj_1⟩ := bindS_some hm
  refine wc_cut (σ := Unit) (fun _ => bj_1 = .inl ()) (fun _ => []) (fun _ => [tabF Tryd.prog "internal/strconv.uint64pow10" .u64 Lib.pow10Tab 0 pow10_g]) (fun _ => []) ?_ ?_
  ·
   refine wc_seq (wc_region (wP rfl (wl_nil (we_then (wc_block (wc_loop (σ := Nat × Nat) (fun (nu1, u1_5) => iter (m_ropewalkkit_SameTokens_L1 N l0 l1) nu1 u1_5 = some bj_1) (fun (nu1, u1_5) => nu1) (fun (nu1, u1_5) => [(5, .int .i64 ((u1_5 : Nat) : Int)), (0, .slice qp0 l0.length qc1), (1, .slice qp2 l1.length qc3)]) (fun (nu1, u1_5) => [.sli 2 R_Api_TokenD qp0 qc1 l0, .sli 2 R_Api_TokenD qp2 qc3 l1, tabF Tryd.prog "internal/strconv.uint64pow10" .u64 Lib.pow10Tab 0 pow10_g]) (fun (nu1, u1_5) => []) (N, 0) hm [5,0,1] rfl (asK [0,1,2] rfl) rfl (fun s_ hm => ?_)))))))
   obtain ⟨nu1, u1_5⟩ := s_
   try dsimp only at hm ⊢
   obtain ⟨mu1, bu1, hnu1, hq, hLu1⟩ := iter_some hm
   clear hm
   subst hnu1
   replace hm := hq
   clear hq
   unfold m_ropewalkkit_SameTokens_L1 at hm
   try dsimp only at hm
   refine wc_seq (wc_seq (wc_region (wP rfl (wP rfl (wN rfl tE_23 (wP rfl (wl_as (d := 14) (v' := .bool (decide (u1_5 < l0.length))) (S' := [_,_,_,_,_,_]) rfl rfl (natlt (a := u1_5) (b := l0.length)) (wl_nil (we_then (wc_keep [14,5,0,1] (S' := [_,_,_,_]) rfl ?_))))))))))
   refine wc_cond rfl (fun hb14 => ?_) (fun hb14 => ?_)
   ·
    replace hm := iteT hm hb14
    refine wc_keep [5,0,1] (S' := [_,_,_]) rfl (wc_skip (we_then (wc_seq (wc_block (wc_seq ?_)))))
    obtain ⟨x19, hx19, hm⟩ := bindO_some hm
    obtain ⟨x23, hx23, hm⟩ := bindO_some hm
    obtain ⟨v25, hc25, hm⟩ := bindO_some hm
    refine wc_draw [0,1,2,3,4,5,6,7,9] rfl rfl (fun hok => (xP hok 0 rfl (xP hok 1 rfl (wx_indexA hok 2 0 u1_5 rfl rfl rfl (freshS_eq rfl) rfl rfl rfl rfl rfl rfl hx19 tE_23 tS_33 (fun b19 q19 cs19 hlx19 => (wx_openR R_Api_TokenD_opens 1 rfl (fun r19 er19 _ => ?_)))))))
    subst er19
    refine wx_load hok 3 1 0 rfl rfl rfl (freshS_eq rfl) rfl rfl rfl rfl (cs := [_,_]) rfl tS_33 tA_33 rfl rfl (xP hok 4 rfl (xP hok 5 rfl (wx_indexA hok 6 4 u1_5 rfl rfl rfl (freshS_eq rfl) rfl rfl rfl rfl rfl rfl hx23 tE_23 tS_33 (fun b23 q23 cs23 hlx23 => (wx_openR R_Api_TokenD_opens 1 rfl (fun r23 er23 _ => ?_))))))
    subst er23
    refine wx_load hok 7 1 0 rfl rfl rfl (freshS_eq rfl) rfl rfl rfl rfl (cs := [_,_]) rfl tS_33 tA_33 rfl rfl (xS hok 8 rfl (wC [] [] rfl fn_7 rfl (w_ropewalkkit_SameToken_s N x19.rule r19.1 r19.2 x19.ids x23.rule r23.1 r23.2 x23.ids _ hc25) (asK [3,0,8] rfl) rfl (H' := []) rfl ?_))
    rintro _ _ _ ⟨rfl, rfl, rfl⟩
    refine wl_nil (we_x [0,1,2,3,4,5,6,7,8] [] rfl rfl (xP hok 9 rfl (wx_done hok rfl (we_then (wc_keep [26,5,0,1] (S' := [_,_,_,_]) rfl ?_)))))
    refine wc_cond rfl (fun hb26 => ?_) (fun hb26 => ?_)
    ·
     replace hm := iteT hm hb26
     refine wc_keep [] (S' := []) rfl (wc_seq (wc_region (wP rfl (wl_nil (we_then (wc_ret (we_block_ret (we_then_ret (we_then_ret (we_block_ret (we_then_ret ?_)))))))))))
     have hE := (Option.some.inj hm).symm
     replace hE := link_inr hLu1 hE
     replace hE := link_inr hLj_1 hE
     replace hE := hE.symm
     subst hE
     refine ret_one (Hr := []) [] Tryd.results13 (res_tmp rfl) ⟨rfl, rfl, rfl⟩ (asK [] rfl) rfl rfl (.inl rfl)
    ·
     replace hm := iteF hm hb26
     refine wc_keep [5,0,1] (S' := [_,_,_]) rfl (wc_skip (we_block_normal (we_then (wc_region (wP rfl (wP rfl ?_))))))
     obtain ⟨hg16, hm⟩ := gd_some hm
     refine wl_as (d := 16) (v' := .int .i64 ((u1_5 + 1 : Nat) : Int)) (S' := [_,_,_,_]) rfl rfl (nat_add (a := u1_5) (b := 1) hg16) (wl_pure (S' := [_,_,_,_]) rfl rfl rfl rfl rfl (wl_nil ?_))
     have hE := (Option.some.inj hm).symm
     replace hE := link_inl hLu1 hE
     refine we_roundK (_, u1_5 + 1) (Nat.lt_succ_self _) hE [5,0,1] rfl (asK [6,7,8] rfl) rfl
   ·
    replace hm := iteF hm hb14
    refine wc_keep [] (S' := []) rfl (wc_exit (we_then_exit (we_then_exit (we_block_hit ?_))))
    have hE := (Option.some.inj hm).symm
    replace hE := link_inr hLu1 hE
    refine we_join () hE [] rfl (asK [2] rfl) rfl
  ·
   rintro _ hE
   try dsimp only
   have hm := link_inl hLj_1 hE
   try dsimp only at hm
   refine wc_seq (wc_region (wP rfl (wl_nil (we_then (wc_ret ?_)))))
   have hE := (Option.some.inj hm).symm
   replace hE := hE.symm
   subst hE
   refine ret_one (Hr := []) [] Tryd.results13 (res_tmp rfl) ⟨rfl, rfl, rfl⟩ (asK [] rfl) rfl rfl (.inl rfl)
theorem w_ropewalklaw14_AgendaOrder_s (N : Nat) (qp0 : Option Addr) (qc1 : Nat) (l0 : List Int) (qp2 : Option Addr) (qc3 : Nat) (l1 : List Api_TokenD) (o0 : Bool) (hm : m_ropewalklaw14_AgendaOrder N l0 l1 = some o0) : Spec Tryd.prog 3 [.slice qp0 l0.length qc1, .slice qp2 l1.length qc3] [.sli 1 R_i64 qp0 qc1 l0, .sli 2 R_Api_TokenD qp2 qc3 l1, tabF Tryd.prog "internal/strconv.uint64pow10" .u64 Lib.pow10Tab 0 pow10_g] [] (fun v Φr Hr => v = .bool o0 ∧ Φr = [] ∧ Hr = []) := by
 unfold m_ropewalklaw14_AgendaOrder at hm
 refine spec_of Tryd.func3 rfl Tryd.ntmps3 rfl (S := [_,_]) rfl (fun C => (wc_seq (wc_region (wP rfl (wl_nil (we_then (wc_keep [0,1] (S' := [_,_]) rfl (wc_seq (wc_seq (wc_region (wC [] [] rfl fn_4 rfl aw_4 (asK [] rfl) rfl (H' := []) rfl ?_)))))))))))
 rintro _ _ _ ⟨rfl, rfl, rfl⟩
 refine wP rfl (wl_nil (we_then (wc_keep [18,0,1] (S' := [_,_,_]) rfl (wc_false rfl (wc_keep [0,1] (S' := [_,_]) rfl (wc_skip (we_then (wc_seq (wc_seq ?_)))))))))
 obtain ⟨bj_1, hm, hLj_1⟩ := bindO_some hm
 unfold m_ropewalklaw14_AgendaOrder_C1 at hm
 refine wc_cut (σ := Bool) (fun j_1_30 => bj_1 = j_1_30) (fun j_1_30 => [(0, .slice qp0 l0.length qc1), (1, .slice qp2 l1.length qc3), (30, .bool j_1_30)]) (fun j_1_30 => [.sli 1 R_i64 qp0 qc1 l0, .sli 2 R_Api_TokenD qp2 qc3 l1, tabF Tryd.prog "internal/strconv.uint64pow10" .u64 Lib.pow10Tab 0 pow10_g]) (fun j_1_30 => []) ?_ ?_
 ·
  refine wc_region (wP rfl (wN rfl tE_22 (wP rfl (wl_as (d := 21) (v' := .bool (decide (64 < l0.length))) (S' := [_,_,_,_]) rfl rfl (natgt (a := l0.length) (b := 64)) (wP rfl ?_)))))
  refine wl_split (d := 22) (S' := [_,_,_,_,_]) rfl rfl (fun hs22 => ?_) (fun hs22 => ?_)
  ·
   replace hm := iteT hm hs22
   refine wO rfl (wO rfl (wP rfl (wP rfl (wO rfl (wO rfl (wO rfl (wP rfl (wl_nil ?_))))))))
   have hE := (Option.some.inj hm).symm
   refine we_join true hE [0,1,30] rfl (asK [0,1,2] rfl) rfl
  ·
   replace hm := iteF hm hs22
   refine wP rfl ?_
   obtain ⟨v24, hc24, hm⟩ := bindO_some hm
   refine wC [] [] rfl fn_5 rfl (w_ropewalklaw14_great_s N qp2 qc3 l1 _ hc24) (asK [1,2] rfl) rfl (H' := []) rfl ?_
   rintro _ _ _ ⟨rfl, rfl, rfl⟩
   refine wP rfl (wP rfl ?_)
   refine wl_split (d := 26) (S' := [_,_,_,_,_,_,_,_,_]) rfl rfl (fun hs26 => ?_) (fun hs26 => ?_)
   ·
    replace hm := iteT hm hs26
    refine wO rfl (wO rfl (wO rfl (wP rfl (wl_nil ?_))))
    have hE := (Option.some.inj hm).symm
    refine we_join true hE [0,1,30] rfl (asK [0,1,2] rfl) rfl
   ·
    replace hm := iteF hm hs26
    refine wP rfl (wN rfl tE_23 (wP rfl (wl_as (d := 29) (v' := .bool (decide (40 < l1.length))) (S' := [_,_,_,_,_,_,_,_,_,_,_,_]) rfl rfl (natgt (a := l1.length) (b := 40)) (wP rfl (wl_nil ?_)))))
    have hE := (Option.some.inj hm).symm
    refine we_join (decide (40 < l1.length)) hE [0,1,30] rfl (asK [0,1,2] rfl) rfl
 ·
  rintro j_1_30 hE
  try dsimp only
  have hm := hLj_1
  rw [hE] at hm
  refine wc_cond rfl (fun hb30 => ?_) (fun hb30 => ?_)
  ·
   replace hm := iteT hm hb30
   refine wc_keep [] (S' := []) rfl (wc_seq (wc_region (wP rfl (wl_nil (we_then (wc_ret (we_then_ret ?_)))))))
   have hE := (Option.some.inj hm).symm
   replace hE := hE.symm
   subst hE
   refine ret_one (Hr := []) [] Tryd.results3 (res_tmp rfl) ⟨rfl, rfl, rfl⟩ (asK [] rfl) rfl rfl (.inl rfl)
  ·
   replace hm := iteF hm hb30
   refine wc_keep [0,1] (S' := [_,_]) rfl (wc_skip (we_then (wc_seq (wc_region (wP rfl ?_)))))
   obtain ⟨v32, hc32, hm⟩ := bindO_some hm
   refine wC [] [] rfl fn_6 rfl (w_ropewalklaw14_of_s N qp0 qc1 l0 _ hc32) (asK [0,2] rfl) rfl (H' := []) rfl ?_
   rintro _ _ _ ⟨p32_0, c32_1, c32_2, rfl, rfl, rfl⟩
   refine wl_alloc rfl rfl rfl (freshS_eq rfl) rfl tZ_29 rfl (fun g5 => (wS 0 0 rfl tS_29 (all' := [_,_]) rfl (H' := [_,_]) rfl (wl_nil (we_then (wc_keep [5,1] (S' := [_,_]) rfl (wc_seq ?_))))))
   obtain ⟨bj_2, hm, hLj_2⟩ := bindS_some hm
   refine wc_cut (σ := Unit) (fun _ => bj_2 = .inl ()) (fun _ => [(5, .pointer (some ⟨g5,0, none⟩)), (1, .slice qp2 l1.length qc3)]) (fun _ => [.sli 2 R_Api_TokenD qp2 qc3 l1, tabF Tryd.prog "internal/strconv.uint64pow10" .u64 Lib.pow10Tab 0 pow10_g]) (fun _ => [.blk g5 [.slice none 0 0, .slice p32_0 c32_2 c32_1] 29, .own 50 5 R_Api_RuleD (.slice p32_0 c32_2 c32_1) v32]) ?_ ?_
   ·
    refine wc_seq (wc_region (wP rfl (wl_nil (we_then (wc_block (wc_loop (σ := Nat × Nat) (fun (nu1, u1_6) => iter (m_ropewalklaw14_AgendaOrder_L1 N l1 v32) nu1 u1_6 = some bj_2) (fun (nu1, u1_6) => nu1) (fun (nu1, u1_6) => [(6, .int .i64 ((u1_6 : Nat) : Int)), (5, .pointer (some ⟨g5,0, none⟩)), (1, .slice qp2 l1.length qc3)]) (fun (nu1, u1_6) => [.sli 2 R_Api_TokenD qp2 qc3 l1, tabF Tryd.prog "internal/strconv.uint64pow10" .u64 Lib.pow10Tab 0 pow10_g]) (fun (nu1, u1_6) => [.blk g5 [.slice none 0 0, .slice p32_0 c32_2 c32_1] 29, .own 50 5 R_Api_RuleD (.slice p32_0 c32_2 c32_1) v32]) (N, 0) hm [6,5,1] rfl (asK [1,2] rfl) rfl (fun s_ hm => ?_)))))))
    obtain ⟨nu1, u1_6⟩ := s_
    try dsimp only at hm ⊢
    obtain ⟨mu1, bu1, hnu1, hq, hLu1⟩ := iter_some hm
    clear hm
    subst hnu1
    replace hm := hq
    clear hq
    unfold m_ropewalklaw14_AgendaOrder_L1 at hm
    try dsimp only at hm
    refine wc_seq (wc_seq (wc_region (wP rfl (wP rfl (wN rfl tE_23 (wP rfl (wl_as (d := 36) (v' := .bool (decide (u1_6 < l1.length))) (S' := [_,_,_,_,_,_]) rfl rfl (natlt (a := u1_6) (b := l1.length)) (wl_nil (we_then (wc_keep [36,6,5,1] (S' := [_,_,_,_]) rfl ?_))))))))))
    refine wc_cond rfl (fun hb36 => ?_) (fun hb36 => ?_)
    ·
     replace hm := iteT hm hb36
     refine wc_keep [6,5,1] (S' := [_,_,_]) rfl (wc_skip (we_then (wc_seq ?_)))
     obtain ⟨bj_3, hm, hLj_3⟩ := bindS_some hm
     refine wc_cut (σ := Unit) (fun _ => bj_3 = .inl ()) (fun _ => [(6, .int .i64 ((u1_6 : Nat) : Int)), (5, .pointer (some ⟨g5,0, none⟩)), (1, .slice qp2 l1.length qc3)]) (fun _ => [.sli 2 R_Api_TokenD qp2 qc3 l1, tabF Tryd.prog "internal/strconv.uint64pow10" .u64 Lib.pow10Tab 0 pow10_g]) (fun _ => [.blk g5 [.slice none 0 0, .slice p32_0 c32_2 c32_1] 29, .own 50 5 R_Api_RuleD (.slice p32_0 c32_2 c32_1) v32]) ?_ ?_
     ·
      refine wc_block (wc_seq (wc_region (wP rfl (wl_nil (we_then (wc_block (wc_loop (σ := Nat × Nat) (fun (nu2, u2_7) => iter (m_ropewalklaw14_AgendaOrder_L2 N l1 u1_6 v32) nu2 u2_7 = some bj_3) (fun (nu2, u2_7) => nu2) (fun (nu2, u2_7) => [(7, .int .i64 ((u2_7 : Nat) : Int)), (6, .int .i64 ((u1_6 : Nat) : Int)), (5, .pointer (some ⟨g5,0, none⟩)), (1, .slice qp2 l1.length qc3)]) (fun (nu2, u2_7) => [.sli 2 R_Api_TokenD qp2 qc3 l1, tabF Tryd.prog "internal/strconv.uint64pow10" .u64 Lib.pow10Tab 0 pow10_g]) (fun (nu2, u2_7) => [.blk g5 [.slice none 0 0, .slice p32_0 c32_2 c32_1] 29, .own 50 5 R_Api_RuleD (.slice p32_0 c32_2 c32_1) v32]) (N, 0) hm [7,6,5,1] rfl (asK [0,1] rfl) rfl (fun s_ hm => ?_))))))))
      obtain ⟨nu2, u2_7⟩ := s_
      try dsimp only at hm ⊢
      obtain ⟨mu2, bu2, hnu2, hq, hLu2⟩ := iter_some hm
      clear hm
      subst hnu2
      replace hm := hq
      clear hq
      unfold m_ropewalklaw14_AgendaOrder_L2 at hm
      try dsimp only at hm
      refine wc_seq (wc_seq (wc_region (wP rfl (wP rfl (wN rfl tE_23 (wP rfl (wl_as (d := 42) (v' := .bool (decide (u2_7 < l1.length))) (S' := [_,_,_,_,_,_,_]) rfl rfl (natlt (a := u2_7) (b := l1.length)) (wl_nil (we_then (wc_keep [42,7,6,5,1] (S' := [_,_,_,_,_]) rfl ?_))))))))))
      refine wc_cond rfl (fun hb42 => ?_) (fun hb42 => ?_)
      ·
       replace hm := iteT hm hb42
       refine wc_keep [7,6,5,1] (S' := [_,_,_,_]) rfl (wc_skip (we_then (wc_seq ?_)))
       obtain ⟨bj_4, hm, hLj_4⟩ := bindS_some hm
       unfold m_ropewalklaw14_AgendaOrder_C4 at hm
       refine wc_cut (σ := Unit) (fun _ => bj_4 = .inl ()) (fun _ => [(7, .int .i64 ((u2_7 : Nat) : Int)), (6, .int .i64 ((u1_6 : Nat) : Int)), (5, .pointer (some ⟨g5,0, none⟩)), (1, .slice qp2 l1.length qc3)]) (fun _ => [.sli 2 R_Api_TokenD qp2 qc3 l1, tabF Tryd.prog "internal/strconv.uint64pow10" .u64 Lib.pow10Tab 0 pow10_g]) (fun _ => [.blk g5 [.slice none 0 0, .slice p32_0 c32_2 c32_1] 29, .own 50 5 R_Api_RuleD (.slice p32_0 c32_2 c32_1) v32]) ?_ ?_
       ·
        refine wc_block (wc_seq ?_)
        obtain ⟨x47, hx47, hm⟩ := bindO_some hm
        obtain ⟨x51, hx51, hm⟩ := bindO_some hm
        obtain ⟨v53, hc53, hm⟩ := bindO_some hm
        refine wc_draw [0,1,2,3,4,5,6,7] rfl rfl (fun hok => (xP hok 0 rfl (xP hok 1 rfl (wx_indexA hok 2 0 u1_6 rfl rfl rfl (freshS_eq rfl) rfl rfl rfl rfl rfl rfl hx47 tE_23 tS_33 (fun b47 q47 cs47 hlx47 => (wx_openR R_Api_TokenD_opens 1 rfl (fun r47 er47 _ => ?_)))))))
        subst er47
        refine wx_load hok 3 1 0 rfl rfl rfl (freshS_eq rfl) rfl rfl rfl rfl (cs := [_,_]) rfl tS_33 tA_33 rfl rfl (xP hok 4 rfl (xP hok 5 rfl (wx_indexA hok 6 3 u2_7 rfl rfl rfl (freshS_eq rfl) rfl rfl rfl rfl rfl rfl hx51 tE_23 tS_33 (fun b51 q51 cs51 hlx51 => (wx_openR R_Api_TokenD_opens 1 rfl (fun r51 er51 _ => ?_))))))
        subst er51
        refine wx_load hok 7 1 0 rfl rfl rfl (freshS_eq rfl) rfl rfl rfl rfl (cs := [_,_]) rfl tS_33 tA_33 rfl rfl (xS hok 8 rfl (wC [] [0,1] rfl fn_7 rfl (w_ropewalkkit_SameToken_s N x47.rule r47.1 r47.2 x47.ids x51.rule r51.1 r51.2 x51.ids _ hc53) (asK [3,0,7] rfl) rfl (H' := [_,_]) rfl ?_))
        rintro _ _ _ ⟨rfl, rfl, rfl⟩
        refine wl_nil (we_x [0,1,2,3,4,5,6,7] [] rfl rfl (xS hok 9 rfl (wP rfl (wl_nil (we_x [0,1,2,3,4,5,6,7] [] rfl rfl (wx_done hok rfl (we_then (wc_keep [8,7,6,5,1] (S' := [_,_,_,_,_]) rfl (wc_seq ?_)))))))))
        obtain ⟨x57, hx57, hm⟩ := bindO_some hm
        obtain ⟨x61, hx61, hm⟩ := bindO_some hm
        obtain ⟨v63, hc63, hm⟩ := bindO_some hm
        obtain ⟨x67, hx67, hm⟩ := bindO_some hm
        obtain ⟨x71, hx71, hm⟩ := bindO_some hm
        obtain ⟨v73, hc73, hm⟩ := bindO_some hm
        refine wc_draw [0,1,2,3,4,5,6,7,8,10,11,12,13,14,15,16,17,18] rfl rfl (fun hok => (wx_loadH hok 0 0 0 rfl rfl rfl (freshS_eq rfl) rfl rfl rfl rfl (cs := [_,_]) rfl tS_29 tA_29 rfl rfl (xP hok 1 rfl (xP hok 2 rfl (wx_indexA hok 3 6 u1_6 rfl rfl rfl (freshS_eq rfl) rfl rfl rfl rfl rfl rfl hx57 tE_23 tS_33 (fun b57 q57 cs57 hlx57 => (wx_openR R_Api_TokenD_opens 1 rfl (fun r57 er57 _ => ?_))))))))
        subst er57
        refine wx_load hok 4 1 0 rfl rfl rfl (freshS_eq rfl) rfl rfl rfl rfl (cs := [_,_]) rfl tS_33 tA_33 rfl rfl (xP hok 5 rfl (xP hok 6 rfl (wx_indexA hok 7 9 u2_7 rfl rfl rfl (freshS_eq rfl) rfl rfl rfl rfl rfl rfl hx61 tE_23 tS_33 (fun b61 q61 cs61 hlx61 => (wx_openR R_Api_TokenD_opens 1 rfl (fun r61 er61 _ => ?_))))))
        subst er61
        refine wx_load hok 8 1 0 rfl rfl rfl (freshS_eq rfl) rfl rfl rfl rfl (cs := [_,_]) rfl tS_33 tA_33 rfl rfl (wx_loadH hok 10 0 0 rfl rfl rfl (freshS_eq rfl) rfl rfl rfl rfl (cs := [_,_]) rfl tS_29 tA_29 rfl rfl (xP hok 11 rfl (xP hok 12 rfl (wx_indexA hok 13 12 u2_7 rfl rfl rfl (freshS_eq rfl) rfl rfl rfl rfl rfl rfl hx67 tE_23 tS_33 (fun b67 q67 cs67 hlx67 => (wx_openR R_Api_TokenD_opens 1 rfl (fun r67 er67 _ => ?_)))))))
        subst er67
        refine wx_load hok 14 1 0 rfl rfl rfl (freshS_eq rfl) rfl rfl rfl rfl (cs := [_,_]) rfl tS_33 tA_33 rfl rfl (xP hok 15 rfl (xP hok 16 rfl (wx_indexA hok 17 15 u1_6 rfl rfl rfl (freshS_eq rfl) rfl rfl rfl rfl rfl rfl hx71 tE_23 tS_33 (fun b71 q71 cs71 hlx71 => (wx_openR R_Api_TokenD_opens 1 rfl (fun r71 er71 _ => ?_))))))
        subst er71
        refine wx_load hok 18 1 0 rfl rfl rfl (freshS_eq rfl) rfl rfl rfl rfl (cs := [_,_]) rfl tS_33 tA_33 rfl rfl (xS hok 9 rfl (wl_fact (.sli 2 R_Api_TypeD none 0 ([] : List Api_TypeD)) (fun _ _ _ => sli_none) (wl_ownLen 1 rfl (fun hzc32_2 _ => ?_))))
        subst hzc32_2
        refine wl_lend [] [0,1] [1] rfl rfl rfl (freshS_eq rfl) rfl rfl fn_8 rfl (w_agenda_Better_s N none 0 ([] : List Api_TypeD) p32_0 c32_1 v32 x57.rule r57.1 r57.2 x57.ids x61.rule r61.1 r61.2 x61.ids _ hc63) (fun F w hφ hh => (ask_cons (hφ _ (mem_at (k := 0) rfl)) (ask_cons (own_sli (hh _ (mem_at (k := 0) rfl))) (ask_cons (hφ _ (mem_at (k := 10) rfl)) (ask_cons (hφ _ (mem_at (k := 7) rfl)) (ask_cons (hφ _ (mem_at (k := 20) rfl)) ask_nil)))))) (fun _ _ _ hR => by obtain ⟨rfl, rfl, rfl⟩ := hR; exact ⟨rfl, (fun _ h => free_nil h)⟩) rfl rfl (H' := [_,_]) rfl ?_
        rintro _ _ _ ⟨rfl, rfl, rfl⟩
        refine wl_nil (we_x [1,2,3,4,5,6,7,8,9,10,11,12,13,14,15,16,17,18,19,20] [0] rfl rfl (xS hok 19 rfl (wl_fact (.sli 2 R_Api_TypeD none 0 ([] : List Api_TypeD)) (fun _ _ _ => sli_none) (wl_lend [] [0,1] [1] rfl rfl rfl (freshS_eq rfl) rfl rfl fn_8 rfl (w_agenda_Better_s N none 0 ([] : List Api_TypeD) p32_0 c32_1 v32 x67.rule r67.1 r67.2 x67.ids x71.rule r71.1 r71.2 x71.ids _ hc73) (fun F w hφ hh => (ask_cons (hφ _ (mem_at (k := 0) rfl)) (ask_cons (own_sli (hh _ (mem_at (k := 0) rfl))) (ask_cons (hφ _ (mem_at (k := 5) rfl)) (ask_cons (hφ _ (mem_at (k := 2) rfl)) (ask_cons (hφ _ (mem_at (k := 21) rfl)) ask_nil)))))) (fun _ _ _ hR => by obtain ⟨rfl, rfl, rfl⟩ := hR; exact ⟨rfl, (fun _ h => free_nil h)⟩) rfl rfl (H' := [_,_]) rfl ?_))))
        rintro _ _ _ ⟨rfl, rfl, rfl⟩
        refine wl_nil (we_x [1,2,3,4,5,6,7,8,9,10,11,12,13,14,15,16,17,18,19,20,21] [0] rfl rfl (xS hok 20 rfl (wP rfl (wl_nil (we_x [0,1,2,3,4,5,6,7,8,9,10,11,12,13,14,15,16,17,18,19,20,21] [0] rfl rfl (xS hok 21 rfl (wP rfl (wl_nil (we_x [0,1,2,3,4,5,6,7,8,9,10,11,12,13,14,15,16,17,18,19,20,21] [] rfl rfl (wx_done hok rfl (we_then (wc_keep [10,9,8,7,6,5,1] (S' := [_,_,_,_,_,_,_]) rfl (wc_seq ?_)))))))))))))
        refine wc_seq ?_
        obtain ⟨bj_5, hm, hLj_5⟩ := bindO_some hm
        unfold m_ropewalklaw14_AgendaOrder_C5 at hm
        refine wc_cut (σ := Bool) (fun j_5_85 => bj_5 = j_5_85) (fun j_5_85 => [(9, .bool v63), (7, .int .i64 ((u2_7 : Nat) : Int)), (6, .int .i64 ((u1_6 : Nat) : Int)), (5, .pointer (some ⟨g5,0, none⟩)), (1, .slice qp2 l1.length qc3), (85, .bool j_5_85)]) (fun j_5_85 => [.sli 2 R_Api_TokenD qp2 qc3 l1, tabF Tryd.prog "internal/strconv.uint64pow10" .u64 Lib.pow10Tab 0 pow10_g]) (fun j_5_85 => [.blk g5 [.slice none 0 0, .slice p32_0 v32.length c32_1] 29, .own 50 5 R_Api_RuleD (.slice p32_0 v32.length c32_1) v32]) ?_ ?_
        ·
         refine wc_region (wP rfl (wP rfl ?_))
         refine wl_split (d := 75) (S' := [_,_,_,_,_,_,_,_]) rfl rfl (fun hs75 => ?_) (fun hs75 => ?_)
         ·
          replace hm := iteT hm hs75
          refine wP rfl (wP rfl (wP rfl ?_))
          refine wl_split (d := 78) (S' := [_,_,_,_,_,_,_,_,_,_,_]) rfl rfl (fun hs78 => ?_) (fun hs78 => ?_)
          ·
           replace hm := iteT hm hs78
           refine wO rfl (wO rfl (wO rfl (wO rfl (wO rfl (wO rfl (wP rfl (wl_nil ?_)))))))
           have hE := (Option.some.inj hm).symm
           refine we_join true hE [9,7,6,5,1,85] rfl (asK [20,21] rfl) rfl
          ·
           replace hm := iteF hm hs78
           refine wP rfl (wP rfl (wP rfl ?_))
           refine wl_split (d := 81) (S' := [_,_,_,_,_,_,_,_,_,_,_,_,_,_]) rfl rfl (fun hs81 => ?_) (fun hs81 => ?_)
           ·
            replace hm := iteT hm hs81
            refine wO rfl (wP rfl (wl_bin rfl rfl rfl (freshS_eq rfl) rfl rfl rfl (eqlB _ _ v53 true) (wP rfl (wl_nil ?_))))
            have hE := (Option.some.inj hm).symm
            refine we_join (v53 == true) hE [9,7,6,5,1,85] rfl (asK [20,21] rfl) rfl
           ·
            replace hm := iteF hm hs81
            refine wP rfl (wP rfl (wl_bin rfl rfl rfl (freshS_eq rfl) rfl rfl rfl (eqlB _ _ v53 v73) (wP rfl (wl_nil ?_))))
            have hE := (Option.some.inj hm).symm
            refine we_join (v53 == v73) hE [9,7,6,5,1,85] rfl (asK [20,21] rfl) rfl
         ·
          replace hm := iteF hm hs75
          refine wO rfl (wP rfl (wP rfl (wP rfl (wP rfl (wP rfl ?_)))))
          refine wl_split (d := 81) (S' := [_,_,_,_,_,_,_,_,_,_,_,_,_,_]) rfl rfl (fun hs81 => ?_) (fun hs81 => ?_)
          ·
           replace hm := iteT hm hs81
           refine wO rfl (wP rfl (wl_bin rfl rfl rfl (freshS_eq rfl) rfl rfl rfl (eqlB _ _ v53 true) (wP rfl (wl_nil ?_))))
           have hE := (Option.some.inj hm).symm
           refine we_join (v53 == true) hE [9,7,6,5,1,85] rfl (asK [20,21] rfl) rfl
          ·
           replace hm := iteF hm hs81
           refine wP rfl (wP rfl (wl_bin rfl rfl rfl (freshS_eq rfl) rfl rfl rfl (eqlB _ _ v53 v73) (wP rfl (wl_nil ?_))))
           have hE := (Option.some.inj hm).symm
           refine we_join (v53 == v73) hE [9,7,6,5,1,85] rfl (asK [20,21] rfl) rfl
        ·
         rintro j_5_85 hE
         try dsimp only
         have hm := hLj_5
         rw [hE] at hm
         refine wc_cond rfl (fun hb85 => ?_) (fun hb85 => ?_)
         ·
          replace hm := iteT hm hb85
          refine wc_keep [] (S' := []) rfl (wc_seq (wc_region (wP rfl (wl_nil (we_then (wc_ret (we_then_ret (we_block_ret (we_then_ret (we_then_ret (we_block_ret (we_block_ret (we_then_ret ?_)))))))))))))
          refine we_then_ret (we_block_ret (we_then_ret ?_))
          have hE := (Option.some.inj hm).symm
          replace hE := link_inr hLj_4 hE
          replace hE := link_inr hLu2 hE
          replace hE := link_inr hLj_3 hE
          replace hE := link_inr hLu1 hE
          replace hE := link_inr hLj_2 hE
          replace hE := hE.symm
          subst hE
          refine ret_one (Hr := []) [] Tryd.results3 (res_tmp rfl) ⟨rfl, rfl, rfl⟩ (asK [] rfl) rfl rfl (.inl rfl)
         ·
          replace hm := iteF hm hb85
          refine wc_keep [9,7,6,5,1] (S' := [_,_,_,_,_]) rfl (wc_skip (we_then (wc_seq (wc_region (wP rfl (wl_nil (we_then (wc_block (wc_loop (σ := Nat × Nat) (fun (nu3, u3_11) => iter (m_ropewalklaw14_AgendaOrder_L3 N l1 v63 u2_7 v32 u1_6) nu3 u3_11 = some bj_4) (fun (nu3, u3_11) => nu3) (fun (nu3, u3_11) => [(11, .int .i64 ((u3_11 : Nat) : Int)), (9, .bool v63), (7, .int .i64 ((u2_7 : Nat) : Int)), (6, .int .i64 ((u1_6 : Nat) : Int)), (5, .pointer (some ⟨g5,0, none⟩)), (1, .slice qp2 l1.length qc3)]) (fun (nu3, u3_11) => [.sli 2 R_Api_TokenD qp2 qc3 l1, tabF Tryd.prog "internal/strconv.uint64pow10" .u64 Lib.pow10Tab 0 pow10_g]) (fun (nu3, u3_11) => [.blk g5 [.slice none 0 0, .slice p32_0 v32.length c32_1] 29, .own 50 5 R_Api_RuleD (.slice p32_0 v32.length c32_1) v32]) (N, 0) hm [11,9,7,6,5,1] rfl (asK [0,1] rfl) rfl (fun s_ hm => ?_))))))))))
          obtain ⟨nu3, u3_11⟩ := s_
          try dsimp only at hm ⊢
          obtain ⟨mu3, bu3, hnu3, hq, hLu3⟩ := iter_some hm
          clear hm
          subst hnu3
          replace hm := hq
          clear hq
          unfold m_ropewalklaw14_AgendaOrder_L3 at hm
          try dsimp only at hm
          refine wc_seq (wc_seq ?_)
          obtain ⟨bj_6, hm, hLj_6⟩ := bindO_some hm
          refine wc_cut (σ := Bool) (fun j_6_92 => bj_6 = j_6_92) (fun j_6_92 => [(11, .int .i64 ((u3_11 : Nat) : Int)), (9, .bool v63), (7, .int .i64 ((u2_7 : Nat) : Int)), (6, .int .i64 ((u1_6 : Nat) : Int)), (5, .pointer (some ⟨g5,0, none⟩)), (1, .slice qp2 l1.length qc3), (92, .bool j_6_92)]) (fun j_6_92 => [.sli 2 R_Api_TokenD qp2 qc3 l1, tabF Tryd.prog "internal/strconv.uint64pow10" .u64 Lib.pow10Tab 0 pow10_g]) (fun j_6_92 => [.blk g5 [.slice none 0 0, .slice p32_0 v32.length c32_1] 29, .own 50 5 R_Api_RuleD (.slice p32_0 v32.length c32_1) v32]) ?_ ?_
          ·
           refine wc_region (wP rfl (wP rfl (wN rfl tE_23 (wP rfl (wl_as (d := 89) (v' := .bool (decide (u3_11 < l1.length))) (S' := [_,_,_,_,_,_,_,_,_]) rfl rfl (natlt (a := u3_11) (b := l1.length)) (wP rfl ?_))))))
           refine wl_split (d := 90) (S' := [_,_,_,_,_,_,_,_,_,_]) rfl rfl (fun hs90 => ?_) (fun hs90 => ?_)
           ·
            replace hm := iteT hm hs90
            refine wP rfl (wP rfl (wl_nil ?_))
            have hE := (Option.some.inj hm).symm
            refine we_join v63 hE [11,9,7,6,5,1,92] rfl (asK [0,1] rfl) rfl
           ·
            replace hm := iteF hm hs90
            refine wO rfl (wP rfl (wl_nil ?_))
            have hE := (Option.some.inj hm).symm
            refine we_join false hE [11,9,7,6,5,1,92] rfl (asK [0,1] rfl) rfl
          ·
           rintro j_6_92 hE
           try dsimp only
           have hm := hLj_6
           rw [hE] at hm
           refine wc_cond rfl (fun hb92 => ?_) (fun hb92 => ?_)
           ·
            replace hm := iteT hm hb92
            refine wc_keep [11,9,7,6,5,1] (S' := [_,_,_,_,_,_]) rfl (wc_skip (we_then (wc_seq (wc_block (wc_seq ?_)))))
            obtain ⟨bj_7, hm, hLj_7⟩ := bindO_some hm
            unfold m_ropewalklaw14_AgendaOrder_C7 at hm
            refine wc_cut (σ := Bool) (fun j_7_117 => bj_7 = j_7_117) (fun j_7_117 => [(11, .int .i64 ((u3_11 : Nat) : Int)), (9, .bool v63), (7, .int .i64 ((u2_7 : Nat) : Int)), (6, .int .i64 ((u1_6 : Nat) : Int)), (5, .pointer (some ⟨g5,0, none⟩)), (1, .slice qp2 l1.length qc3), (117, .bool j_7_117)]) (fun j_7_117 => [.sli 2 R_Api_TokenD qp2 qc3 l1, tabF Tryd.prog "internal/strconv.uint64pow10" .u64 Lib.pow10Tab 0 pow10_g]) (fun j_7_117 => [.blk g5 [.slice none 0 0, .slice p32_0 v32.length c32_1] 29, .own 50 5 R_Api_RuleD (.slice p32_0 v32.length c32_1) v32]) ?_ ?_
            ·
             obtain ⟨x98, hx98, hm⟩ := bindO_some hm
             obtain ⟨x102, hx102, hm⟩ := bindO_some hm
             obtain ⟨v104, hc104, hm⟩ := bindO_some hm
             rcases ite_some hm with ⟨hs105, hm⟩ | ⟨hs105, hm⟩
             ·
              obtain ⟨x109, hx109, hm⟩ := bindO_some hm
              obtain ⟨x113, hx113, hm⟩ := bindO_some hm
              obtain ⟨v115, hc115, hm⟩ := bindO_some hm
              refine wc_draw [0,1,2,3,4,5,6,7,8,10,11,12,13,14,15,16,17,18,19,21,22] rfl rfl (fun hok => (wx_loadH hok 0 0 0 rfl rfl rfl (freshS_eq rfl) rfl rfl rfl rfl (cs := [_,_]) rfl tS_29 tA_29 rfl rfl (xP hok 1 rfl (xP hok 2 rfl (wx_indexA hok 3 0 u2_7 rfl rfl rfl (freshS_eq rfl) rfl rfl rfl rfl rfl rfl hx98 tE_23 tS_33 (fun b98 q98 cs98 hlx98 => (wx_openR R_Api_TokenD_opens 1 rfl (fun r98 er98 _ => ?_))))))))
              subst er98
              refine wx_load hok 4 1 0 rfl rfl rfl (freshS_eq rfl) rfl rfl rfl rfl (cs := [_,_]) rfl tS_33 tA_33 rfl rfl (xP hok 5 rfl (xP hok 6 rfl (wx_indexA hok 7 3 u3_11 rfl rfl rfl (freshS_eq rfl) rfl rfl rfl rfl rfl rfl hx102 tE_23 tS_33 (fun b102 q102 cs102 hlx102 => (wx_openR R_Api_TokenD_opens 1 rfl (fun r102 er102 _ => ?_))))))
              subst er102
              refine wx_load hok 8 1 0 rfl rfl rfl (freshS_eq rfl) rfl rfl rfl rfl (cs := [_,_]) rfl tS_33 tA_33 rfl rfl (xS hok 9 rfl (wl_fact (.sli 2 R_Api_TypeD none 0 ([] : List Api_TypeD)) (fun _ _ _ => sli_none) (wl_lend [] [0,1] [1] rfl rfl rfl (freshS_eq rfl) rfl rfl fn_8 rfl (w_agenda_Better_s N none 0 ([] : List Api_TypeD) p32_0 c32_1 v32 x98.rule r98.1 r98.2 x98.ids x102.rule r102.1 r102.2 x102.ids _ hc104) (fun F w hφ hh => (ask_cons (hφ _ (mem_at (k := 0) rfl)) (ask_cons (own_sli (hh _ (mem_at (k := 0) rfl))) (ask_cons (hφ _ (mem_at (k := 4) rfl)) (ask_cons (hφ _ (mem_at (k := 1) rfl)) (ask_cons (hφ _ (mem_at (k := 8) rfl)) ask_nil)))))) (fun _ _ _ hR => by obtain ⟨rfl, rfl, rfl⟩ := hR; exact ⟨rfl, (fun _ h => free_nil h)⟩) rfl rfl (H' := [_,_]) rfl ?_)))
              rintro _ _ _ ⟨rfl, rfl, rfl⟩
              refine wl_nil (we_x [1,2,3,4,5,6,7,8] [] rfl rfl (xP hok 10 rfl (wx_as (d := 105) (v' := .bool true) (S' := [_,_,_,_,_,_,_,_,_,_,_,_,_,_,_,_]) rfl rfl (bool_is hs105) (wx_loadH hok 11 0 0 rfl rfl rfl (freshS_eq rfl) rfl rfl rfl rfl (cs := [_,_]) rfl tS_29 tA_29 rfl rfl (xP hok 12 rfl (xP hok 13 rfl (wx_indexA hok 14 7 u1_6 rfl rfl rfl (freshS_eq rfl) rfl rfl rfl rfl rfl rfl hx109 tE_23 tS_33 (fun b109 q109 cs109 hlx109 => (wx_openR R_Api_TokenD_opens 1 rfl (fun r109 er109 _ => ?_))))))))))
              subst er109
              refine wx_load hok 15 1 0 rfl rfl rfl (freshS_eq rfl) rfl rfl rfl rfl (cs := [_,_]) rfl tS_33 tA_33 rfl rfl (xP hok 16 rfl (xP hok 17 rfl (wx_indexA hok 18 10 u3_11 rfl rfl rfl (freshS_eq rfl) rfl rfl rfl rfl rfl rfl hx113 tE_23 tS_33 (fun b113 q113 cs113 hlx113 => (wx_openR R_Api_TokenD_opens 1 rfl (fun r113 er113 _ => ?_))))))
              subst er113
              refine wx_load hok 19 1 0 rfl rfl rfl (freshS_eq rfl) rfl rfl rfl rfl (cs := [_,_]) rfl tS_33 tA_33 rfl rfl (xS hok 20 rfl (wl_fact (.sli 2 R_Api_TypeD none 0 ([] : List Api_TypeD)) (fun _ _ _ => sli_none) (wl_lend [] [0,1] [1] rfl rfl rfl (freshS_eq rfl) rfl rfl fn_8 rfl (w_agenda_Better_s N none 0 ([] : List Api_TypeD) p32_0 c32_1 v32 x109.rule r109.1 r109.2 x109.ids x113.rule r113.1 r113.2 x113.ids _ hc115) (fun F w hφ hh => (ask_cons (hφ _ (mem_at (k := 0) rfl)) (ask_cons (own_sli (hh _ (mem_at (k := 0) rfl))) (ask_cons (hφ _ (mem_at (k := 4) rfl)) (ask_cons (hφ _ (mem_at (k := 1) rfl)) (ask_cons (hφ _ (mem_at (k := 15) rfl)) ask_nil)))))) (fun _ _ _ hR => by obtain ⟨rfl, rfl, rfl⟩ := hR; exact ⟨rfl, (fun _ h => free_nil h)⟩) rfl rfl (H' := [_,_]) rfl ?_)))
              rintro _ _ _ ⟨rfl, rfl, rfl⟩
              refine wl_nil (we_x [1,2,3,4,5,6,7,8,9,10,11,12,13,14,15] [0] rfl rfl (xP hok 21 rfl (xP hok 22 rfl (wx_done hok rfl ?_))))
              have hE := (Option.some.inj hm).symm
              refine we_join (!v115) hE [11,9,7,6,5,1,117] rfl (asK [14,15] rfl) rfl
             ·
              refine wc_draw [0,1,2,3,4,5,6,7,8,10,11,12,13,14,15,16,17,18,19,21,22] rfl rfl (fun hok => (wx_loadH hok 0 0 0 rfl rfl rfl (freshS_eq rfl) rfl rfl rfl rfl (cs := [_,_]) rfl tS_29 tA_29 rfl rfl (xP hok 1 rfl (xP hok 2 rfl (wx_indexA hok 3 0 u2_7 rfl rfl rfl (freshS_eq rfl) rfl rfl rfl rfl rfl rfl hx98 tE_23 tS_33 (fun b98 q98 cs98 hlx98 => (wx_openR R_Api_TokenD_opens 1 rfl (fun r98 er98 _ => ?_))))))))
              subst er98
              refine wx_load hok 4 1 0 rfl rfl rfl (freshS_eq rfl) rfl rfl rfl rfl (cs := [_,_]) rfl tS_33 tA_33 rfl rfl (xP hok 5 rfl (xP hok 6 rfl (wx_indexA hok 7 3 u3_11 rfl rfl rfl (freshS_eq rfl) rfl rfl rfl rfl rfl rfl hx102 tE_23 tS_33 (fun b102 q102 cs102 hlx102 => (wx_openR R_Api_TokenD_opens 1 rfl (fun r102 er102 _ => ?_))))))
              subst er102
              refine wx_load hok 8 1 0 rfl rfl rfl (freshS_eq rfl) rfl rfl rfl rfl (cs := [_,_]) rfl tS_33 tA_33 rfl rfl (xS hok 9 rfl (wl_fact (.sli 2 R_Api_TypeD none 0 ([] : List Api_TypeD)) (fun _ _ _ => sli_none) (wl_lend [] [0,1] [1] rfl rfl rfl (freshS_eq rfl) rfl rfl fn_8 rfl (w_agenda_Better_s N none 0 ([] : List Api_TypeD) p32_0 c32_1 v32 x98.rule r98.1 r98.2 x98.ids x102.rule r102.1 r102.2 x102.ids _ hc104) (fun F w hφ hh => (ask_cons (hφ _ (mem_at (k := 0) rfl)) (ask_cons (own_sli (hh _ (mem_at (k := 0) rfl))) (ask_cons (hφ _ (mem_at (k := 4) rfl)) (ask_cons (hφ _ (mem_at (k := 1) rfl)) (ask_cons (hφ _ (mem_at (k := 8) rfl)) ask_nil)))))) (fun _ _ _ hR => by obtain ⟨rfl, rfl, rfl⟩ := hR; exact ⟨rfl, (fun _ h => free_nil h)⟩) rfl rfl (H' := [_,_]) rfl ?_)))
              rintro _ _ _ ⟨rfl, rfl, rfl⟩
              refine wl_nil (we_x [1,2,3,4,5,6,7,8] [] rfl rfl (xP hok 10 rfl (wx_as (d := 105) (v' := .bool false) (S' := [_,_,_,_,_,_,_,_,_,_,_,_,_,_,_,_]) rfl rfl (bool_is hs105) (xO hok 11 rfl (xO hok 12 rfl (xO hok 13 rfl (xO hok 14 rfl (xO hok 15 rfl (xO hok 16 rfl (xO hok 17 rfl (xO hok 18 rfl (xO hok 19 rfl (xS hok 20 rfl ?_)))))))))))))
              refine wO rfl (wl_nil (we_x [0,1,2,3,4,5,6,7,8] [0] rfl rfl (xO hok 21 rfl (xP hok 22 rfl (wx_done hok rfl ?_)))))
              have hE := (Option.some.inj hm).symm
              refine we_join false hE [11,9,7,6,5,1,117] rfl (asK [7,8] rfl) rfl
            ·
             rintro j_7_117 hE
             try dsimp only
             have hm := hLj_7
             rw [hE] at hm
             refine wc_cond rfl (fun hb117 => ?_) (fun hb117 => ?_)
             ·
              replace hm := iteT hm hb117
              refine wc_keep [] (S' := []) rfl (wc_seq (wc_region (wP rfl (wl_nil (we_then (wc_ret (we_block_ret (we_then_ret (we_then_ret (we_block_ret (we_block_ret (we_then_ret (we_then_ret ?_)))))))))))))
              refine we_block_ret (we_block_ret (we_then_ret (we_then_ret (we_block_ret (we_then_ret ?_)))))
              have hE := (Option.some.inj hm).symm
              replace hE := link_inr hLu3 hE
              replace hE := link_inr hLj_4 hE
              replace hE := link_inr hLu2 hE
              replace hE := link_inr hLj_3 hE
              replace hE := link_inr hLu1 hE
              replace hE := link_inr hLj_2 hE
              replace hE := hE.symm
              subst hE
              refine ret_one (Hr := []) [] Tryd.results3 (res_tmp rfl) ⟨rfl, rfl, rfl⟩ (asK [] rfl) rfl rfl (.inl rfl)
             ·
              replace hm := iteF hm hb117
              refine wc_keep [11,9,7,6,5,1] (S' := [_,_,_,_,_,_]) rfl (wc_skip (we_block_normal (we_then (wc_region (wP rfl (wP rfl ?_))))))
              obtain ⟨hg94, hm⟩ := gd_some hm
              refine wl_as (d := 94) (v' := .int .i64 ((u3_11 + 1 : Nat) : Int)) (S' := [_,_,_,_,_,_,_]) rfl rfl (nat_add (a := u3_11) (b := 1) hg94) (wl_pure (S' := [_,_,_,_,_,_,_]) rfl rfl rfl rfl rfl (wl_nil ?_))
              have hE := (Option.some.inj hm).symm
              replace hE := link_inl hLu3 hE
              refine we_roundK (_, u3_11 + 1) (Nat.lt_succ_self _) hE [11,9,7,6,5,1] rfl (asK [0,1] rfl) rfl
           ·
            replace hm := iteF hm hb92
            refine wc_keep [7,6,5,1] (S' := [_,_,_,_]) rfl (wc_exit (we_then_exit (we_then_exit (we_block_hit (we_block_normal ?_)))))
            have hE := (Option.some.inj hm).symm
            replace hE := link_inr hLu3 hE
            refine we_join () hE [7,6,5,1] rfl (asK [0,1] rfl) rfl
       ·
        rintro _ hE
        try dsimp only
        have hm := link_inl hLj_4 hE
        try dsimp only at hm
        refine wc_region (wP rfl (wP rfl ?_))
        obtain ⟨hg44, hm⟩ := gd_some hm
        refine wl_as (d := 44) (v' := .int .i64 ((u2_7 + 1 : Nat) : Int)) (S' := [_,_,_,_,_]) rfl rfl (nat_add (a := u2_7) (b := 1) hg44) (wl_pure (S' := [_,_,_,_,_]) rfl rfl rfl rfl rfl (wl_nil ?_))
        have hE := (Option.some.inj hm).symm
        replace hE := link_inl hLu2 hE
        refine we_roundK (_, u2_7 + 1) (Nat.lt_succ_self _) hE [7,6,5,1] rfl (asK [0,1] rfl) rfl
      ·
       replace hm := iteF hm hb42
       refine wc_keep [6,5,1] (S' := [_,_,_]) rfl (wc_exit (we_then_exit (we_then_exit (we_block_hit (we_block_normal ?_)))))
       have hE := (Option.some.inj hm).symm
       replace hE := link_inr hLu2 hE
       refine we_join () hE [6,5,1] rfl (asK [0,1] rfl) rfl
     ·
      rintro _ hE
      try dsimp only
      have hm := link_inl hLj_3 hE
      try dsimp only at hm
      refine wc_region (wP rfl (wP rfl ?_))
      obtain ⟨hg38, hm⟩ := gd_some hm
      refine wl_as (d := 38) (v' := .int .i64 ((u1_6 + 1 : Nat) : Int)) (S' := [_,_,_,_]) rfl rfl (nat_add (a := u1_6) (b := 1) hg38) (wl_pure (S' := [_,_,_,_]) rfl rfl rfl rfl rfl (wl_nil ?_))
      have hE := (Option.some.inj hm).symm
      replace hE := link_inl hLu1 hE
      refine we_roundK (_, u1_6 + 1) (Nat.lt_succ_self _) hE [6,5,1] rfl (asK [0,1] rfl) rfl
    ·
     replace hm := iteF hm hb36
     refine wc_keep [5,1] (S' := [_,_]) rfl (wc_exit (we_then_exit (we_then_exit (we_block_hit ?_))))
     have hE := (Option.some.inj hm).symm
     replace hE := link_inr hLu1 hE
     refine we_join () hE [5,1] rfl (asK [0,1] rfl) rfl
   ·
    rintro _ hE
    try dsimp only
    have hm := link_inl hLj_2 hE
    try dsimp only at hm
    refine wc_seq (wc_region (wl_loadH 0 0 rfl rfl rfl (freshS_eq rfl) rfl rfl rfl (cs := [_,_]) rfl tS_29 tA_29 rfl rfl (wl_fact (.sli 2 R_Api_TypeD none 0 ([] : List Api_TypeD)) (fun _ _ _ => sli_none) (wl_ownLen 1 rfl (fun hzc32_2 _ => ?_)))))
    subst hzc32_2
    obtain ⟨_ | v119, hc119, hm⟩ := bindO_some hm
    ·
     try dsimp only at hm
     refine wC [1] [0] rfl fn_9 rfl (w_agenda_New_v2_s0 N none 0 ([] : List Api_TypeD) p32_0 v32.length c32_1 v32 hc119) (asK [0,2] rfl) rfl (H' := [_]) rfl ?_
     rintro _ _ _ ⟨rfl, rfl, rfl⟩
     refine wP rfl (wl_nil (we_then (wc_keep [12,5,1] (S' := [_,_,_]) rfl (wc_seq (wc_seq (wc_region (wP rfl (wP rfl ?_))))))))
     obtain ⟨_, hc122, hm⟩ := bindO_some hm
     try dsimp only at hm
     refine wC [] [0,1] rfl fn_10 rfl (w_agenda_Agenda_Set_s N qp2 qc3 l1 hc122) (asK [1,2] rfl) rfl (H' := [_,_]) rfl ?_
     rintro _ _ _ ⟨rfl, rfl, rfl⟩
     refine wP rfl (wl_as (d := 123) (v' := .bool true) (S' := [_,_,_,_,_,_]) rfl rfl rfl (wl_nil (we_then (wc_keep [123,12,5,1] (S' := [_,_,_,_]) rfl (wc_true rfl (wc_keep [] (S' := []) rfl (wc_seq (wc_region (wP rfl (wl_nil (we_then (wc_ret (we_then_ret ?_)))))))))))))
     have hE := (Option.some.inj hm).symm
     replace hE := hE.symm
     subst hE
     refine ret_one (Hr := []) [] Tryd.results3 (res_tmp rfl) ⟨rfl, rfl, rfl⟩ (asK [] rfl) rfl rfl (.inl rfl)
    ·
     try dsimp only at hm
     refine wC [1] [0] rfl fn_9 rfl (w_agenda_New_v2_s1 N none 0 ([] : List Api_TypeD) p32_0 v32.length c32_1 v32 _ hc119) (asK [0,2] rfl) rfl (H' := [_]) rfl ?_
     rintro _ _ _ ⟨c119_0, r119_1, c119_2, c119_3, c119_4, rfl, rfl, rfl⟩
     refine wP rfl (wl_nil (we_then (wc_keep [12,5,1] (S' := [_,_,_]) rfl (wc_seq (wc_seq (wc_region (wP rfl (wP rfl (wl_rowNil 33 2 R_Api_TokenD (wl_rowNil 33 2 R_Api_TokenD ?_))))))))))
     obtain ⟨⟨v122_0, v122_1, v122_2, v122_3, v122_4⟩, hc122, hm⟩ := bindO_some hm
     try dsimp only at hm
     refine wC [2,3,1,0,4] [5,6] rfl fn_10 rfl (w_agenda_Agenda_Set_v2_s N c119_0 r119_1 c119_3 c119_2 v119 none 0 0 [] none 0 0 [] c119_4 ([] : List (ByteArray × Bool)) qp2 qc3 l1 _ _ _ _ _ hc122) (asK [1,2] rfl) rfl (H' := [_,_]) rfl ?_
     rintro _ _ _ ⟨p122_0, c122_1, c122_2, p122_3, c122_4, c122_5, c122_6, rfl, rfl, rfl⟩
     refine wP rfl (wl_as (d := 123) (v' := .bool (v122_0 != 0)) (S' := [_,_,_,_,_,_]) rfl rfl (natne (a := v122_0) (b := 0)) (wl_nil (we_then (wc_keep [123,12,5,1] (S' := [_,_,_,_]) rfl ?_))))
     refine wc_cond rfl (fun hb123 => ?_) (fun hb123 => ?_)
     ·
      replace hm := iteT hm hb123
      refine wc_keep [] (S' := []) rfl (wc_seq (wc_region (wP rfl (wl_nil (we_then (wc_ret (we_then_ret ?_)))))))
      have hE := (Option.some.inj hm).symm
      replace hE := hE.symm
      subst hE
      refine ret_one (Hr := []) [] Tryd.results3 (res_tmp rfl) ⟨rfl, rfl, rfl⟩ (asK [] rfl) rfl rfl (.inl rfl)
     ·
      replace hm := iteF hm hb123
      refine wc_keep [12,5,1] (S' := [_,_,_]) rfl (wc_skip (we_then (wc_seq (wc_region (wP rfl (wl_nil (we_then (wc_seq ?_))))))))
      obtain ⟨bj_9, hm, hLj_9⟩ := bindS_some hm
      refine wc_cut (σ := (List Int) × (List Api_TokenD) × (List Api_TokenD) × (List (ByteArray × Bool)) × (List Api_TokenD) × (Option Addr) × Nat × Nat × (Option Addr) × Nat × Nat × (Option Addr) × Nat × Nat) (fun (j_9_12_f0_l, j_9_12_f1_l, j_9_12_f2_l, j_9_12_f3_m, j_9_13_l, j_9_12_f1_p, j_9_12_f1_c, j_9_12_f1_n, j_9_12_f2_p, j_9_12_f2_c, j_9_12_f2_n, j_9_13_p, j_9_13_c, j_9_13_n) => bj_9 = .inl (j_9_12_f0_l, j_9_12_f1_l, j_9_12_f2_l, j_9_12_f3_m, j_9_13_l)) (fun (j_9_12_f0_l, j_9_12_f1_l, j_9_12_f2_l, j_9_12_f3_m, j_9_13_l, j_9_12_f1_p, j_9_12_f1_c, j_9_12_f1_n, j_9_12_f2_p, j_9_12_f2_c, j_9_12_f2_n, j_9_13_p, j_9_13_c, j_9_13_n) => [(12, .pointer (some ⟨c119_0,0, none⟩)), (1, .slice qp2 l1.length qc3), (13, .slice j_9_13_p j_9_13_n j_9_13_c)]) (fun (j_9_12_f0_l, j_9_12_f1_l, j_9_12_f2_l, j_9_12_f3_m, j_9_13_l, j_9_12_f1_p, j_9_12_f1_c, j_9_12_f1_n, j_9_12_f2_p, j_9_12_f2_c, j_9_12_f2_n, j_9_13_p, j_9_13_c, j_9_13_n) => [.sli 2 R_Api_TokenD qp2 qc3 l1, tabF Tryd.prog "internal/strconv.uint64pow10" .u64 Lib.pow10Tab 0 pow10_g]) (fun (j_9_12_f0_l, j_9_12_f1_l, j_9_12_f2_l, j_9_12_f3_m, j_9_13_l, j_9_12_f1_p, j_9_12_f1_c, j_9_12_f1_n, j_9_12_f2_p, j_9_12_f2_c, j_9_12_f2_n, j_9_13_p, j_9_13_c, j_9_13_n) => [.blk c119_0 [.slice (some r119_1) c119_3 c119_2, .slice j_9_12_f1_p j_9_12_f1_n j_9_12_f1_c, .slice j_9_12_f2_p j_9_12_f2_n j_9_12_f2_c, .map (some c122_6)] 57, .own 3 1 R_i64 (.slice (some r119_1) c119_3 c119_2) j_9_12_f0_l, .own 33 2 R_Api_TokenD (.slice j_9_12_f1_p j_9_12_f1_n j_9_12_f1_c) j_9_12_f1_l, .own 33 2 R_Api_TokenD (.slice j_9_12_f2_p j_9_12_f2_n j_9_12_f2_c) j_9_12_f2_l, mapP (keyStr (tStr_run tT_9)) false R_bool c122_6 j_9_12_f3_m, treeF T_Api_TokenD 33 2 (.slice j_9_13_p j_9_13_n j_9_13_c) j_9_13_l]) ?_ ?_
      ·
       refine wc_seq (wc_region (wP rfl (wl_nil (we_then (wc_block (wc_sh [treeF T_Api_TokenD 33 2 (.slice none 0 0) [],_,_,_,_,_,_,_] (fun _ h => h.treeNil T_Api_TokenD 33 2) (wc_pick [0,1,2,3,4,5,7,6] rfl (H' := [_,_,_,_,_,_,_,_]) rfl (wc_loop (σ := Nat × Nat × (List Api_TokenD) × (List Int) × (List Api_TokenD) × (List Api_TokenD) × (List (ByteArray × Bool)) × (Option Addr) × Nat × Nat × (Option Addr) × Nat × Nat × (Option Addr) × Nat × Nat) (fun (nu4, u4_14, u4_13_l, u4_12_f0_l, u4_12_f1_l, u4_12_f2_l, u4_12_f3_m, u4_13_p, u4_13_c, u4_13_n, u4_12_f1_p, u4_12_f1_c, u4_12_f1_n, u4_12_f2_p, u4_12_f2_c, u4_12_f2_n) => iter (m_ropewalklaw14_AgendaOrder_L4 N l1 v32) nu4 (u4_14, u4_13_l, u4_12_f0_l, u4_12_f1_l, u4_12_f2_l, u4_12_f3_m) = some bj_9) (fun (nu4, u4_14, u4_13_l, u4_12_f0_l, u4_12_f1_l, u4_12_f2_l, u4_12_f3_m, u4_13_p, u4_13_c, u4_13_n, u4_12_f1_p, u4_12_f1_c, u4_12_f1_n, u4_12_f2_p, u4_12_f2_c, u4_12_f2_n) => nu4) (fun (nu4, u4_14, u4_13_l, u4_12_f0_l, u4_12_f1_l, u4_12_f2_l, u4_12_f3_m, u4_13_p, u4_13_c, u4_13_n, u4_12_f1_p, u4_12_f1_c, u4_12_f1_n, u4_12_f2_p, u4_12_f2_c, u4_12_f2_n) => [(14, .int .i64 ((u4_14 : Nat) : Int)), (13, .slice u4_13_p u4_13_n u4_13_c), (12, .pointer (some ⟨c119_0,0, none⟩)), (5, .pointer (some ⟨g5,0, none⟩)), (1, .slice qp2 l1.length qc3)]) (fun (nu4, u4_14, u4_13_l, u4_12_f0_l, u4_12_f1_l, u4_12_f2_l, u4_12_f3_m, u4_13_p, u4_13_c, u4_13_n, u4_12_f1_p, u4_12_f1_c, u4_12_f1_n, u4_12_f2_p, u4_12_f2_c, u4_12_f2_n) => [.sli 2 R_Api_TokenD qp2 qc3 l1, tabF Tryd.prog "internal/strconv.uint64pow10" .u64 Lib.pow10Tab 0 pow10_g]) (fun (nu4, u4_14, u4_13_l, u4_12_f0_l, u4_12_f1_l, u4_12_f2_l, u4_12_f3_m, u4_13_p, u4_13_c, u4_13_n, u4_12_f1_p, u4_12_f1_c, u4_12_f1_n, u4_12_f2_p, u4_12_f2_c, u4_12_f2_n) => [treeF T_Api_TokenD 33 2 (.slice u4_13_p u4_13_n u4_13_c) u4_13_l, .blk c119_0 [.slice (some r119_1) c119_3 c119_2, .slice u4_12_f1_p u4_12_f1_n u4_12_f1_c, .slice u4_12_f2_p u4_12_f2_n u4_12_f2_c, .map (some c122_6)] 57, .own 3 1 R_i64 (.slice (some r119_1) c119_3 c119_2) u4_12_f0_l, .own 33 2 R_Api_TokenD (.slice u4_12_f1_p u4_12_f1_n u4_12_f1_c) u4_12_f1_l, .own 33 2 R_Api_TokenD (.slice u4_12_f2_p u4_12_f2_n u4_12_f2_c) u4_12_f2_l, mapP (keyStr (tStr_run tT_9)) false R_bool c122_6 u4_12_f3_m, .blk g5 [.slice none 0 0, .slice p32_0 v32.length c32_1] 29, .own 50 5 R_Api_RuleD (.slice p32_0 v32.length c32_1) v32]) (N, 0,[], v122_1, v122_2, v122_3, v122_4, none, 0,0, p122_0, c122_1, c122_2, p122_3, c122_4, c122_5) hm [14,13,12,5,1] rfl (asK [1,2] rfl) rfl (fun s_ hm => ?_)))))))))
       obtain ⟨nu4, u4_14, u4_13_l, u4_12_f0_l, u4_12_f1_l, u4_12_f2_l, u4_12_f3_m, u4_13_p, u4_13_c, u4_13_n, u4_12_f1_p, u4_12_f1_c, u4_12_f1_n, u4_12_f2_p, u4_12_f2_c, u4_12_f2_n⟩ := s_
       try dsimp only at hm ⊢
       obtain ⟨mu4, bu4, hnu4, hq, hLu4⟩ := iter_some hm
       clear hm
       subst hnu4
       replace hm := hq
       clear hq
       unfold m_ropewalklaw14_AgendaOrder_L4 at hm
       try dsimp only at hm
       refine wc_seq (wc_seq (wc_region (wP rfl (wP rfl (wN rfl tE_23 (wP rfl (wl_as (d := 127) (v' := .bool (decide (u4_14 ≤ l1.length))) (S' := [_,_,_,_,_,_,_,_]) rfl rfl (natle (a := u4_14) (b := l1.length)) (wl_nil (we_then (wc_keep [127,14,13,12,5,1] (S' := [_,_,_,_,_,_]) rfl ?_))))))))))
       refine wc_cond rfl (fun hb127 => ?_) (fun hb127 => ?_)
       ·
        replace hm := iteT hm hb127
        refine wc_keep [14,13,12,5,1] (S' := [_,_,_,_,_]) rfl (wc_skip (we_then (wc_seq (wc_block (wc_seq (wc_region (wP rfl ?_)))))))
        obtain ⟨⟨v132_0, v132_1, v132_2⟩, hc132, hm⟩ := bindO_some hm
        try dsimp only at hm
        refine wC [1,2,3,4,5] [0,6,7] rfl fn_11 rfl (w_agenda_Agenda_Next_s N c119_0 r119_1 c119_3 c119_2 u4_12_f0_l u4_12_f1_p u4_12_f1_n u4_12_f1_c u4_12_f1_l u4_12_f2_p u4_12_f2_n u4_12_f2_c u4_12_f2_l c122_6 u4_12_f3_m _ _ _ hc132) (asK [1] rfl) rfl (H' := [_,_,_]) rfl ?_
        rintro _ _ _ ⟨p132_0, c132_1, c132_2, rfl, rfl, rfl⟩
        refine wP rfl (wP rfl (wP rfl (wl_alloc rfl rfl rfl (freshS_eq rfl) rfl tZ_33 rfl (fun g15 => (wS 0 0 rfl tS_33 (all' := [_,_]) rfl (H' := [_,_,_,_,_,_,_,_,_,_]) rfl (wP rfl (wl_nil (we_then (wc_keep [16,15,14,13,12,5,1] (S' := [_,_,_,_,_,_,_]) rfl (wc_seq (wc_seq (wc_region (wP rfl (wP rfl ?_))))))))))))))
        refine wl_nil (we_then (wc_keep [136,15,14,13,12,5,1] (S' := [_,_,_,_,_,_,_]) rfl ?_))
        refine wc_cond rfl (fun hb136 => ?_) (fun hb136 => ?_)
        ·
         replace hm := iteT hm hb136
         refine wc_keep [13,12,1] (S' := [_,_,_]) rfl (wc_exit (we_then_exit (we_block_miss (by decide) (we_then_exit (we_then_exit (we_block_hit ?_))))))
         have hE := (Option.some.inj hm).symm
         replace hE := link_inr hLu4 hE
         refine we_pick [2,3,4,5,6,7] rfl (H' := [_,_,_,_,_,_]) rfl ?_
         refine we_join (u4_12_f0_l, u4_12_f1_l, u4_12_f2_l, u4_12_f3_m, u4_13_l, u4_12_f1_p, u4_12_f1_c, u4_12_f1_n, u4_12_f2_p, u4_12_f2_c, u4_12_f2_n, u4_13_p, u4_13_c, u4_13_n) hE [12,1,13] rfl (asK [0,1] rfl) rfl
        ·
         replace hm := iteF hm hb136
         refine wc_keep [15,14,13,12,5,1] (S' := [_,_,_,_,_,_]) rfl (wc_skip (we_then (wc_seq (wc_seq ?_))))
         obtain ⟨bj_10, hm, hLj_10⟩ := bindO_some hm
         unfold m_ropewalklaw14_AgendaOrder_C10 at hm
         refine wc_cut (σ := (List Int) × (List Api_TokenD) × (List Api_TokenD) × (List (ByteArray × Bool)) × Bool × (Option Addr) × Nat × Nat × (Option Addr) × Nat × Nat) (fun (j_10_12_f0_l, j_10_12_f1_l, j_10_12_f2_l, j_10_12_f3_m, j_10_163, j_10_12_f1_p, j_10_12_f1_c, j_10_12_f1_n, j_10_12_f2_p, j_10_12_f2_c, j_10_12_f2_n) => bj_10 = (j_10_12_f0_l, j_10_12_f1_l, j_10_12_f2_l, j_10_12_f3_m, j_10_163)) (fun (j_10_12_f0_l, j_10_12_f1_l, j_10_12_f2_l, j_10_12_f3_m, j_10_163, j_10_12_f1_p, j_10_12_f1_c, j_10_12_f1_n, j_10_12_f2_p, j_10_12_f2_c, j_10_12_f2_n) => [(15, .pointer (some ⟨g15,0, none⟩)), (14, .int .i64 ((u4_14 : Nat) : Int)), (13, .slice u4_13_p u4_13_n u4_13_c), (12, .pointer (some ⟨c119_0,0, none⟩)), (5, .pointer (some ⟨g5,0, none⟩)), (1, .slice qp2 l1.length qc3), (163, .bool j_10_163)]) (fun (j_10_12_f0_l, j_10_12_f1_l, j_10_12_f2_l, j_10_12_f3_m, j_10_163, j_10_12_f1_p, j_10_12_f1_c, j_10_12_f1_n, j_10_12_f2_p, j_10_12_f2_c, j_10_12_f2_n) => [.sli 2 R_Api_TokenD qp2 qc3 l1, tabF Tryd.prog "internal/strconv.uint64pow10" .u64 Lib.pow10Tab 0 pow10_g]) (fun (j_10_12_f0_l, j_10_12_f1_l, j_10_12_f2_l, j_10_12_f3_m, j_10_163, j_10_12_f1_p, j_10_12_f1_c, j_10_12_f1_n, j_10_12_f2_p, j_10_12_f2_c, j_10_12_f2_n) => [.blk g15 [.int .i64 v132_0, .slice p132_0 c132_2 c132_1] 33, .own 3 1 R_i64 (.slice p132_0 c132_2 c132_1) v132_1, treeF T_Api_TokenD 33 2 (.slice u4_13_p u4_13_n u4_13_c) u4_13_l, .blk c119_0 [.slice (some r119_1) c119_3 c119_2, .slice j_10_12_f1_p j_10_12_f1_n j_10_12_f1_c, .slice j_10_12_f2_p j_10_12_f2_n j_10_12_f2_c, .map (some c122_6)] 57, .own 3 1 R_i64 (.slice (some r119_1) c119_3 c119_2) j_10_12_f0_l, .own 33 2 R_Api_TokenD (.slice j_10_12_f1_p j_10_12_f1_n j_10_12_f1_c) j_10_12_f1_l, .own 33 2 R_Api_TokenD (.slice j_10_12_f2_p j_10_12_f2_n j_10_12_f2_c) j_10_12_f2_l, mapP (keyStr (tStr_run tT_9)) false R_bool c122_6 j_10_12_f3_m, .blk g5 [.slice none 0 0, .slice p32_0 v32.length c32_1] 29, .own 50 5 R_Api_RuleD (.slice p32_0 v32.length c32_1) v32]) ?_ ?_
         ·
          obtain ⟨⟨v139_0, v139_1, v139_2, v139_3, v139_4⟩, hc139, hm⟩ := bindO_some hm
          try dsimp only at hm
          rcases ite_some hm with ⟨hs141, hm⟩ | ⟨hs141, hm⟩
          ·
           refine wc_draw [0,1,3,4,5,6,8,9,10,11,12,13,14,15,16,17,18,19,22,24,25,26] rfl rfl (fun hok => (xP hok 0 rfl (wx_loadH hok 1 0 0 rfl rfl rfl (freshS_eq rfl) rfl rfl rfl rfl (cs := [_,_]) rfl tS_33 tA_33 rfl rfl (xS hok 2 rfl (wl_ownLen 1 rfl (fun hzc132_2 _ => ?_))))))
           subst hzc132_2
           refine wC [2,3,4,5,6,1] [0,7,8,9] rfl fn_12 rfl (w_agenda_Agenda_Fire_v2_s N c119_0 r119_1 c119_3 c119_2 u4_12_f0_l u4_12_f1_p u4_12_f1_n u4_12_f1_c u4_12_f1_l u4_12_f2_p u4_12_f2_n u4_12_f2_c u4_12_f2_l c122_6 u4_12_f3_m v132_0 p132_0 v132_1.length c132_1 v132_1 _ _ _ _ _ hc139) (asK [1] rfl) rfl (H' := [_,_,_,_]) rfl ?_
           rintro _ _ _ ⟨p139_0, c139_1, c139_2, p139_3, c139_4, c139_5, rfl, rfl, rfl⟩
           refine wl_nil (we_x [0,1] [] rfl rfl (xP hok 3 rfl (wx_as (d := 140) (v' := .bool (v139_0 != 0)) (S' := [_,_,_,_,_,_,_,_,_]) rfl rfl (natne (a := v139_0) (b := 0)) (xP hok 4 rfl (wx_as (d := 141) (v' := .bool true) (S' := [_,_,_,_,_,_,_,_,_,_]) rfl rfl (bool_is hs141) (xO hok 5 rfl (xO hok 6 rfl (xS hok 7 rfl (wO rfl (wl_nil (we_x [0,1] [6] rfl rfl (xO hok 8 rfl (xP hok 9 rfl ?_)))))))))))))
           refine xP hok 10 rfl (xO hok 11 rfl (xO hok 12 rfl (xO hok 13 rfl (xO hok 14 rfl (xO hok 15 rfl (xO hok 16 rfl (xO hok 17 rfl (xO hok 18 rfl (xO hok 19 rfl (xO hok 22 rfl (xS hok 20 rfl (wO rfl (wl_nil ?_)))))))))))))
           refine we_x [0,1] [6] rfl rfl (xS hok 21 rfl (wO rfl (wl_nil (we_x [0,1] [6] rfl rfl (xS hok 23 rfl (wO rfl (wl_nil (we_x [0,1] [6] rfl rfl (xO hok 24 rfl (xO hok 25 rfl (xP hok 26 rfl (wx_done hok rfl ?_))))))))))))
           have hE := (Option.some.inj hm).symm
           refine we_pick [6,5,7,0,1,2,3,4,8,9] rfl (H' := [_,_,_,_,_,_,_,_,_,_]) rfl ?_
           refine we_join (v139_1, v139_2, v139_3, v139_4, true, p139_0, c139_1, c139_2, p139_3, c139_4, c139_5) hE [15,14,13,12,5,1,163] rfl (asK [0,1] rfl) rfl
          ·
           obtain ⟨⟨v144_0, v144_1, v144_2, v144_3, v144_4⟩, hc144, hm⟩ := bindO_some hm
           try dsimp only at hm
           rcases ite_some hm with ⟨hs147, hm⟩ | ⟨hs147, hm⟩
           ·
            refine wc_draw [0,1,3,4,5,6,8,9,10,11,12,13,14,15,16,17,18,19,22,24,25,26] rfl rfl (fun hok => (xP hok 0 rfl (wx_loadH hok 1 0 0 rfl rfl rfl (freshS_eq rfl) rfl rfl rfl rfl (cs := [_,_]) rfl tS_33 tA_33 rfl rfl (xS hok 2 rfl (wl_ownLen 1 rfl (fun hzc132_2 _ => ?_))))))
            subst hzc132_2
            refine wC [2,3,4,5,6,1] [0,7,8,9] rfl fn_12 rfl (w_agenda_Agenda_Fire_v2_s N c119_0 r119_1 c119_3 c119_2 u4_12_f0_l u4_12_f1_p u4_12_f1_n u4_12_f1_c u4_12_f1_l u4_12_f2_p u4_12_f2_n u4_12_f2_c u4_12_f2_l c122_6 u4_12_f3_m v132_0 p132_0 v132_1.length c132_1 v132_1 _ _ _ _ _ hc139) (asK [1] rfl) rfl (H' := [_,_,_,_]) rfl ?_
            rintro _ _ _ ⟨p139_0, c139_1, c139_2, p139_3, c139_4, c139_5, rfl, rfl, rfl⟩
            refine wl_nil (we_x [0,1] [] rfl rfl (xP hok 3 rfl (wx_as (d := 140) (v' := .bool (v139_0 != 0)) (S' := [_,_,_,_,_,_,_,_,_]) rfl rfl (natne (a := v139_0) (b := 0)) (xP hok 4 rfl (wx_as (d := 141) (v' := .bool false) (S' := [_,_,_,_,_,_,_,_,_,_]) rfl rfl (bool_is hs141) (xP hok 5 rfl (wx_loadH hok 6 6 0 rfl rfl rfl (freshS_eq rfl) rfl rfl rfl rfl (cs := [_,_]) rfl tS_33 tA_33 rfl rfl (xS hok 7 rfl (wC [0,1,2,3,4,5] [6,7,8,9] rfl fn_12 rfl (w_agenda_Agenda_Fire_v2_s N c119_0 r119_1 c119_3 c119_2 v139_1 p139_0 c139_2 c139_1 v139_2 p139_3 c139_5 c139_4 v139_3 c122_6 v139_4 v132_0 p132_0 v132_1.length c132_1 v132_1 _ _ _ _ _ hc144) (asK [1] rfl) rfl (H' := [_,_,_,_]) rfl ?_)))))))))
            rintro _ _ _ ⟨p144_0, c144_1, c144_2, p144_3, c144_4, c144_5, rfl, rfl, rfl⟩
            refine wl_nil (we_x [0,1] [6] rfl rfl (xP hok 8 rfl (wx_as (d := 145) (v' := .bool (v144_0 != 6)) (S' := [_,_,_,_,_,_,_,_,_,_,_,_,_,_]) rfl rfl (natne (a := v144_0) (b := 6)) (xP hok 9 rfl (xP hok 10 rfl (wx_as (d := 147) (v' := .bool true) (S' := [_,_,_,_,_,_,_,_,_,_,_,_,_,_,_,_]) rfl rfl (bool_is hs147) (xO hok 11 rfl (xO hok 12 rfl (xO hok 13 rfl (xO hok 14 rfl (xO hok 15 rfl (xO hok 16 rfl (xO hok 17 rfl ?_)))))))))))))
            refine xO hok 18 rfl (xO hok 19 rfl (xO hok 22 rfl (xS hok 20 rfl (wO rfl (wl_nil (we_x [0,1] [6,6] rfl rfl (xS hok 21 rfl (wO rfl (wl_nil (we_x [0,1] [6,6] rfl rfl (xS hok 23 rfl (wO rfl (wl_nil ?_)))))))))))))
            refine we_x [0,1] [6,6] rfl rfl (xO hok 24 rfl (xO hok 25 rfl (xP hok 26 rfl (wx_done hok rfl ?_))))
            have hE := (Option.some.inj hm).symm
            refine we_pick [6,5,7,0,1,2,3,4,8,9] rfl (H' := [_,_,_,_,_,_,_,_,_,_]) rfl ?_
            refine we_join (v144_1, v144_2, v144_3, v144_4, true, p144_0, c144_1, c144_2, p144_3, c144_4, c144_5) hE [15,14,13,12,5,1,163] rfl (asK [0,1] rfl) rfl
           ·
            rcases ite_some hm with ⟨hs151, hm⟩ | ⟨hs151, hm⟩
            ·
             obtain ⟨hg156, hm⟩ := gd_some hm
             obtain ⟨hn157, hm⟩ := gd_some hm
             obtain ⟨x157, hx157, hm⟩ := bindO_some hm
             obtain ⟨v160, hc160, hm⟩ := bindO_some hm
             refine wc_draw [0,1,3,4,5,6,8,9,10,11,12,13,14,15,16,17,18,19,22,24,25,26] rfl rfl (fun hok => (xP hok 0 rfl (wx_loadH hok 1 0 0 rfl rfl rfl (freshS_eq rfl) rfl rfl rfl rfl (cs := [_,_]) rfl tS_33 tA_33 rfl rfl (xS hok 2 rfl (wl_ownLen 1 rfl (fun hzc132_2 _ => ?_))))))
             subst hzc132_2
             refine wC [2,3,4,5,6,1] [0,7,8,9] rfl fn_12 rfl (w_agenda_Agenda_Fire_v2_s N c119_0 r119_1 c119_3 c119_2 u4_12_f0_l u4_12_f1_p u4_12_f1_n u4_12_f1_c u4_12_f1_l u4_12_f2_p u4_12_f2_n u4_12_f2_c u4_12_f2_l c122_6 u4_12_f3_m v132_0 p132_0 v132_1.length c132_1 v132_1 _ _ _ _ _ hc139) (asK [1] rfl) rfl (H' := [_,_,_,_]) rfl ?_
             rintro _ _ _ ⟨p139_0, c139_1, c139_2, p139_3, c139_4, c139_5, rfl, rfl, rfl⟩
             refine wl_nil (we_x [0,1] [] rfl rfl (xP hok 3 rfl (wx_as (d := 140) (v' := .bool (v139_0 != 0)) (S' := [_,_,_,_,_,_,_,_,_]) rfl rfl (natne (a := v139_0) (b := 0)) (xP hok 4 rfl (wx_as (d := 141) (v' := .bool false) (S' := [_,_,_,_,_,_,_,_,_,_]) rfl rfl (bool_is hs141) (xP hok 5 rfl (wx_loadH hok 6 6 0 rfl rfl rfl (freshS_eq rfl) rfl rfl rfl rfl (cs := [_,_]) rfl tS_33 tA_33 rfl rfl (xS hok 7 rfl (wC [0,1,2,3,4,5] [6,7,8,9] rfl fn_12 rfl (w_agenda_Agenda_Fire_v2_s N c119_0 r119_1 c119_3 c119_2 v139_1 p139_0 c139_2 c139_1 v139_2 p139_3 c139_5 c139_4 v139_3 c122_6 v139_4 v132_0 p132_0 v132_1.length c132_1 v132_1 _ _ _ _ _ hc144) (asK [1] rfl) rfl (H' := [_,_,_,_]) rfl ?_)))))))))
             rintro _ _ _ ⟨p144_0, c144_1, c144_2, p144_3, c144_4, c144_5, rfl, rfl, rfl⟩
             refine wl_nil (we_x [0,1] [6] rfl rfl (xP hok 8 rfl (wx_as (d := 145) (v' := .bool (v144_0 != 6)) (S' := [_,_,_,_,_,_,_,_,_,_,_,_,_,_]) rfl rfl (natne (a := v144_0) (b := 6)) (xP hok 9 rfl (xP hok 10 rfl (wx_as (d := 147) (v' := .bool false) (S' := [_,_,_,_,_,_,_,_,_,_,_,_,_,_,_,_]) rfl rfl (bool_is hs147) (xP hok 11 rfl (wx_treeLen 7 rfl (fun hzt57 _ => ?_)))))))))
             subst hzt57
             refine wx_len hok 12 rfl rfl rfl (freshS_eq rfl) rfl rfl rfl tE_23 (xP hok 13 rfl (wx_as (d := 150) (v' := .bool (decide (0 < u4_13_l.length))) (S' := [_,_,_,_,_,_,_,_,_,_,_,_,_,_,_,_,_,_,_]) rfl rfl (natgt (a := u4_13_l.length) (b := 0)) (xP hok 14 rfl (wx_as (d := 151) (v' := .bool true) (S' := [_,_,_,_,_,_,_,_,_,_,_,_,_,_,_,_,_,_,_,_]) rfl rfl (bool_is hs151) (wx_loadH hok 15 8 0 rfl rfl rfl (freshS_eq rfl) rfl rfl rfl rfl (cs := [_,_]) rfl tS_29 tA_29 rfl rfl (xP hok 16 rfl (xP hok 17 rfl (wx_len hok 18 rfl rfl rfl (freshS_eq rfl) rfl rfl rfl tE_23 (xP hok 19 rfl (wx_as (d := 156) (v' := .int .i64 (((u4_13_l.length : Nat) : Int) - 1)) (S' := [_,_,_,_,_,_,_,_,_,_,_,_,_,_,_,_,_,_,_,_,_,_,_,_,_]) rfl rfl (i64_in hg156) (wx_loadH hok 22 6 0 rfl rfl rfl (freshS_eq rfl) rfl rfl rfl rfl (cs := [_,_]) rfl tS_33 tA_33 rfl rfl (xS hok 20 rfl (wl_treeOut 7 rfl (fun zz157 hzz157 => ?_))))))))))))))
             obtain ⟨rr157, hrr157⟩ := zip_at hzz157 hx157
             refine wl_indexH 8 ((((u4_13_l.length : Nat) : Int) - 1).toNat) rfl rfl rfl (freshS_eq rfl) rfl rfl rfl rfl (toNat_eq hn157) (get_lt hrr157) tE_23 tS_33 (fun g157 eg157 => ?_)
             subst eg157
             refine wl_nil (we_x [0,1] [7,9,7,7] rfl rfl (xS hok 21 rfl (wl_sh [.own 3 1 R_i64 (.slice rr157.1 x157.ids.length rr157.2) x157.ids, bagF T_Api_TokenD zz157 (some ((((u4_13_l.length : Nat) : Int) - 1).toNat)), _,_,_,_,_,_,_,_,_,_] (fun _ h => h.bagOpen 0 ((((u4_13_l.length : Nat) : Int) - 1).toNat) rfl hrr157) (wl_loadRow pair_opens 9 ((((u4_13_l.length : Nat) : Int) - 1).toNat) 0 rfl rfl rfl (freshS_eq rfl) rfl rfl rfl hrr157 tS_33 tA_33 (v := fun _ => .agg #[.int .i64 (x157.rule), .slice rr157.1 x157.ids.length rr157.2]) (fun _ => rfl) (fun _ => rfl) (fun _ _ => (wl_nil (we_x [0,1] [8,10,8,8] rfl rfl (xS hok 23 rfl (wl_fact (.sli 2 R_Api_TypeD none 0 ([] : List Api_TypeD)) (fun _ _ _ => sli_none) (wl_lend [] [0,1,2,3,4,5,6,7,8,9,10,11] [11,0,7] rfl rfl rfl (freshS_eq rfl) rfl rfl fn_8 rfl (w_agenda_Better_s N none 0 ([] : List Api_TypeD) p32_0 c32_1 v32 x157.rule rr157.1 rr157.2 x157.ids v132_0 p132_0 c132_1 v132_1 _ hc160) (fun F w hφ hh => (ask_cons (hφ _ (mem_at (k := 0) rfl)) (ask_cons (own_sli (hh _ (mem_at (k := 0) rfl))) (ask_cons (own_sli (hh _ (mem_at (k := 1) rfl))) (ask_cons (own_sli (hh _ (mem_at (k := 2) rfl))) (ask_cons (hφ _ (mem_at (k := 2) rfl)) ask_nil)))))) (fun _ _ _ hR => by obtain ⟨rfl, rfl, rfl⟩ := hR; exact ⟨rfl, (fun _ h => free_nil h)⟩) rfl rfl (H' := [_,_,_,_,_,_,_,_,_,_,_,_]) rfl ?_))))))))))
             rintro _ _ _ ⟨rfl, rfl, rfl⟩
             refine wl_nil (we_x [1,2] [8,8] rfl rfl (xP hok 24 rfl (xP hok 25 rfl (xP hok 26 rfl (wx_done hok rfl ?_)))))
             have hE := (Option.some.inj hm).symm
             refine we_sh [bagF T_Api_TokenD (zz157.set ((((u4_13_l.length : Nat) : Int) - 1).toNat) (x157, rr157)) none, _,_,_,_,_,_,_,_,_,_] (fun _ h => Holds.bagClose (T := T_Api_TokenD) (x := x157) (r := rr157) (i := (((u4_13_l.length : Nat) : Int) - 1).toNat) (zs := zz157) (H := [_,_,_,_,_,_,_,_,_,_,_]) h 0 rfl) (we_hAs 0 (φ' := bagF T_Api_TokenD zz157 none) rfl (by rw [set_getZ hrr157]) (H' := [bagF T_Api_TokenD zz157 none, .blk c119_0 [.slice (some r119_1) c119_3 c119_2, .slice p144_0 c144_2 c144_1, .slice p144_3 c144_5 c144_4, .map (some c122_6)] 57, .own 3 1 R_i64 (.slice (some r119_1) c119_3 c119_2) v144_1, .own 33 2 R_Api_TokenD (.slice p144_0 c144_2 c144_1) v144_2, .own 33 2 R_Api_TokenD (.slice p144_3 c144_5 c144_4) v144_3, mapP (keyStr (tStr_run tT_9)) false R_bool c122_6 v144_4, .own 3 1 R_i64 (.slice p132_0 v132_1.length c132_1) v132_1, .blk g15 [.int .i64 v132_0, .slice p132_0 v132_1.length c132_1] 33, .own 33 2 T_Api_TokenD.pair (.slice (some ⟨g157,0, none⟩) u4_13_l.length u4_13_c) zz157, .blk g5 [.slice none 0 0, .slice p32_0 v32.length c32_1] 29, .own 50 5 R_Api_RuleD (.slice p32_0 v32.length c32_1) v32]) rfl (we_sh [_,_,_,_,_,_,_, treeF T_Api_TokenD 33 2 (.slice (some ⟨g157,0, none⟩) u4_13_l.length u4_13_c) u4_13_l, _,_] (fun _ h => h.treeIn 8 0 rfl rfl rfl hzz157) (we_pick [6,5,7,0,1,2,3,4,8,9] rfl (H' := [_,_,_,_,_,_,_,_,_,_]) rfl ?_)))
             refine we_join (v144_1, v144_2, v144_3, v144_4, !v160, p144_0, c144_1, c144_2, p144_3, c144_4, c144_5) hE [15,14,13,12,5,1,163] rfl (asK [1,2] rfl) rfl
            ·
             refine wc_draw [0,1,3,4,5,6,8,9,10,11,12,13,14,15,16,17,18,19,22,24,25,26] rfl rfl (fun hok => (xP hok 0 rfl (wx_loadH hok 1 0 0 rfl rfl rfl (freshS_eq rfl) rfl rfl rfl rfl (cs := [_,_]) rfl tS_33 tA_33 rfl rfl (xS hok 2 rfl (wl_ownLen 1 rfl (fun hzc132_2 _ => ?_))))))
             subst hzc132_2
             refine wC [2,3,4,5,6,1] [0,7,8,9] rfl fn_12 rfl (w_agenda_Agenda_Fire_v2_s N c119_0 r119_1 c119_3 c119_2 u4_12_f0_l u4_12_f1_p u4_12_f1_n u4_12_f1_c u4_12_f1_l u4_12_f2_p u4_12_f2_n u4_12_f2_c u4_12_f2_l c122_6 u4_12_f3_m v132_0 p132_0 v132_1.length c132_1 v132_1 _ _ _ _ _ hc139) (asK [1] rfl) rfl (H' := [_,_,_,_]) rfl ?_
             rintro _ _ _ ⟨p139_0, c139_1, c139_2, p139_3, c139_4, c139_5, rfl, rfl, rfl⟩
             refine wl_nil (we_x [0,1] [] rfl rfl (xP hok 3 rfl (wx_as (d := 140) (v' := .bool (v139_0 != 0)) (S' := [_,_,_,_,_,_,_,_,_]) rfl rfl (natne (a := v139_0) (b := 0)) (xP hok 4 rfl (wx_as (d := 141) (v' := .bool false) (S' := [_,_,_,_,_,_,_,_,_,_]) rfl rfl (bool_is hs141) (xP hok 5 rfl (wx_loadH hok 6 6 0 rfl rfl rfl (freshS_eq rfl) rfl rfl rfl rfl (cs := [_,_]) rfl tS_33 tA_33 rfl rfl (xS hok 7 rfl (wC [0,1,2,3,4,5] [6,7,8,9] rfl fn_12 rfl (w_agenda_Agenda_Fire_v2_s N c119_0 r119_1 c119_3 c119_2 v139_1 p139_0 c139_2 c139_1 v139_2 p139_3 c139_5 c139_4 v139_3 c122_6 v139_4 v132_0 p132_0 v132_1.length c132_1 v132_1 _ _ _ _ _ hc144) (asK [1] rfl) rfl (H' := [_,_,_,_]) rfl ?_)))))))))
             rintro _ _ _ ⟨p144_0, c144_1, c144_2, p144_3, c144_4, c144_5, rfl, rfl, rfl⟩
             refine wl_nil (we_x [0,1] [6] rfl rfl (xP hok 8 rfl (wx_as (d := 145) (v' := .bool (v144_0 != 6)) (S' := [_,_,_,_,_,_,_,_,_,_,_,_,_,_]) rfl rfl (natne (a := v144_0) (b := 6)) (xP hok 9 rfl (xP hok 10 rfl (wx_as (d := 147) (v' := .bool false) (S' := [_,_,_,_,_,_,_,_,_,_,_,_,_,_,_,_]) rfl rfl (bool_is hs147) (xP hok 11 rfl (wx_treeLen 7 rfl (fun hzt58 _ => ?_)))))))))
             subst hzt58
             refine wx_len hok 12 rfl rfl rfl (freshS_eq rfl) rfl rfl rfl tE_23 (xP hok 13 rfl (wx_as (d := 150) (v' := .bool (decide (0 < u4_13_l.length))) (S' := [_,_,_,_,_,_,_,_,_,_,_,_,_,_,_,_,_,_,_]) rfl rfl (natgt (a := u4_13_l.length) (b := 0)) (xP hok 14 rfl (wx_as (d := 151) (v' := .bool false) (S' := [_,_,_,_,_,_,_,_,_,_,_,_,_,_,_,_,_,_,_,_]) rfl rfl (bool_is hs151) (xO hok 15 rfl (xO hok 16 rfl (xO hok 17 rfl (xO hok 18 rfl (xO hok 19 rfl (xO hok 22 rfl (xS hok 20 rfl (wO rfl (wl_nil ?_)))))))))))))
             refine we_x [0,1] [6,6] rfl rfl (xS hok 21 rfl (wO rfl (wl_nil (we_x [0,1] [6,6] rfl rfl (xS hok 23 rfl (wO rfl (wl_nil (we_x [0,1] [6,6] rfl rfl (xO hok 24 rfl (xP hok 25 rfl (xP hok 26 rfl (wx_done hok rfl ?_))))))))))))
             have hE := (Option.some.inj hm).symm
             refine we_pick [6,5,7,0,1,2,3,4,8,9] rfl (H' := [_,_,_,_,_,_,_,_,_,_]) rfl ?_
             refine we_join (v144_1, v144_2, v144_3, v144_4, false, p144_0, c144_1, c144_2, p144_3, c144_4, c144_5) hE [15,14,13,12,5,1,163] rfl (asK [0,1] rfl) rfl
         ·
          rintro ⟨j_10_12_f0_l, j_10_12_f1_l, j_10_12_f2_l, j_10_12_f3_m, j_10_163, j_10_12_f1_p, j_10_12_f1_c, j_10_12_f1_n, j_10_12_f2_p, j_10_12_f2_c, j_10_12_f2_n⟩ hE
          try dsimp only
          have hm := hLj_10
          rw [hE] at hm
          try dsimp only at hm
          refine wc_cond rfl (fun hb163 => ?_) (fun hb163 => ?_)
          ·
           replace hm := iteT hm hb163
           refine wc_keep [] (S' := []) rfl (wc_seq (wc_region (wP rfl (wl_nil (we_then (wc_ret (we_then_ret (we_block_ret (we_then_ret (we_then_ret (we_block_ret (we_then_ret ?_))))))))))))
           have hE := (Option.some.inj hm).symm
           replace hE := link_inr hLu4 hE
           replace hE := link_inr hLj_9 hE
           replace hE := hE.symm
           subst hE
           refine ret_one (Hr := []) [] Tryd.results3 (res_tmp rfl) ⟨rfl, rfl, rfl⟩ (asK [] rfl) rfl rfl (.inl rfl)
          ·
           replace hm := iteF hm hb163
           refine wc_keep [15,14,13,12,5,1] (S' := [_,_,_,_,_,_]) rfl (wc_skip (we_then (wc_region (wP rfl (wl_loadH 0 0 rfl rfl rfl (freshS_eq rfl) rfl rfl rfl (cs := [_,_]) rfl tS_33 tA_33 rfl rfl (wl_buildSlice rfl rfl rfl (freshS_eq rfl) rfl tE_23 tS_33 tZ_33 rfl (zs := [.int .i64 0, .slice none 0 0]) (by kernel_rfl) rfl (out := [_,_]) rfl (fun g166 => (wl_treeLen 3 rfl (fun hzt56 _ => ?_)))))))))
           subst hzt56
           refine wl_ownLen 2 rfl (fun hzc132_2 _ => ?_)
           subst hzc132_2
           refine wl_treeOut 3 rfl (fun zz167 hzz167 => ?_)
           obtain ⟨hg167, hm⟩ := gd_some hm
           have hzs12 : List.map (fun x : Api_TokenD × (Option Addr × Nat) => x.1) (zz167 ++ [((⟨v132_0, v132_1⟩ : Api_TokenD), (p132_0, c132_1))]) = u4_13_l ++ [(⟨v132_0, v132_1⟩ : Api_TokenD)] := pair_app hzz167 (us := [(⟨v132_0, v132_1⟩ : Api_TokenD)]) rfl
           have hgl167 : zz167.length + ([((⟨v132_0, v132_1⟩ : Api_TokenD), (p132_0, c132_1))] : List (Api_TokenD × (Option Addr × Nat))).length ≤ 4398046511104 := by rw [pair_len hzz167]; exact hg167
           refine wl_appendH (R := T_Api_TokenD.pair) ([((⟨v132_0, v132_1⟩ : Api_TokenD), (p132_0, c132_1))]) 4 1 rfl rfl rfl (freshS_eq rfl) rfl rfl rfl rfl rfl (fun F w hφ => ⟨[.int .i64 v132_0, .slice p132_0 v132_1.length c132_1],[], rfl, rfl, rfl, rfl⟩) tE_23 tR_33 rfl rfl (Nat.le_trans hgl167 (by decide)) (Nat.le_trans (Nat.mul_le_mul_right _ hgl167) (by decide)) (H2 := fun p167 c167 => [_,_,_,_, .own 33 2 T_Api_TokenD.pair (.slice p167 ((zz167 ++ [((⟨v132_0, v132_1⟩ : Api_TokenD), (p132_0, c132_1))]).length) c167) (zz167 ++ [((⟨v132_0, v132_1⟩ : Api_TokenD), (p132_0, c132_1))]), _,_,_,_,_,_,_]) (fun _ _ => rfl) (fun p167 c167 => (wl_drop 1 rfl (H' := [_,_,_,_,_,_,_,_,_,_,_]) rfl (wl_as (d := 167) (v' := .slice p167 ((u4_13_l ++ [(⟨v132_0, v132_1⟩ : Api_TokenD)]).length) c167) (S' := [_,_,_,_,_,_,_,_,_]) rfl rfl (by rw [pair_len hzs12]) (wl_hAs 3 (φ' := .own 33 2 T_Api_TokenD.pair (.slice p167 ((u4_13_l ++ [(⟨v132_0, v132_1⟩ : Api_TokenD)]).length) c167) (zz167 ++ [((⟨v132_0, v132_1⟩ : Api_TokenD), (p132_0, c132_1))])) rfl (by rw [pair_len hzs12]) (H' := [_,_,_,_,_,_,_,_,_,_,_]) rfl (wl_pick [2,0,1,3,4,5,6,7,8,9,10] rfl (H' := [_,_,_,_,_,_,_,_,_,_,_]) rfl (wl_sh [bagF T_Api_TokenD (zz167 ++ [((⟨v132_0, v132_1⟩ : Api_TokenD), (p132_0, c132_1))]) none, _,_,_,_,_,_,_,_,_] (fun _ h => Holds.bagPush (T := T_Api_TokenD) (x := (⟨v132_0, v132_1⟩ : Api_TokenD)) (r := (p132_0, c132_1)) (zs := zz167) (H := [_,_,_,_,_,_,_,_,_,_]) h 0 rfl) (wl_sh [_, treeF T_Api_TokenD 33 2 (.slice p167 ((u4_13_l ++ [(⟨v132_0, v132_1⟩ : Api_TokenD)]).length) c167) (u4_13_l ++ [(⟨v132_0, v132_1⟩ : Api_TokenD)]), _,_,_,_,_,_,_] (fun _ h => h.treeIn 2 0 rfl rfl rfl hzs12) (wl_pure (S' := [_,_,_,_,_,_,_,_,_]) rfl rfl rfl rfl rfl (wl_nil (we_block_normal (we_then (wc_keep [13,14,12,5,1] (S' := [_,_,_,_,_]) rfl (wc_region (wP rfl ?_))))))))))))))
           refine wP rfl ?_
           obtain ⟨hg129, hm⟩ := gd_some hm
           refine wl_as (d := 129) (v' := .int .i64 ((u4_14 + 1 : Nat) : Int)) (S' := [_,_,_,_,_,_]) rfl rfl (nat_add (a := u4_14) (b := 1) hg129) (wl_pure (S' := [_,_,_,_,_,_]) rfl rfl rfl rfl rfl (wl_nil ?_))
           have hE := (Option.some.inj hm).symm
           replace hE := link_inl hLu4 hE
           refine we_pick [1,2,3,4,5,6,7,8] rfl (H' := [_,_,_,_,_,_,_,_]) rfl ?_
           refine we_roundK (_, u4_14 + 1, (u4_13_l ++ [(⟨v132_0, v132_1⟩ : Api_TokenD)]), j_10_12_f0_l, j_10_12_f1_l, j_10_12_f2_l, j_10_12_f3_m, p167, c167, ((u4_13_l ++ [(⟨v132_0, v132_1⟩ : Api_TokenD)]).length), j_10_12_f1_p, j_10_12_f1_c, j_10_12_f1_n, j_10_12_f2_p, j_10_12_f2_c, j_10_12_f2_n) (Nat.lt_succ_self _) hE [14,13,12,5,1] rfl (asK [0,1] rfl) rfl
       ·
        replace hm := iteF hm hb127
        refine wc_keep [13,12,1] (S' := [_,_,_]) rfl (wc_exit (we_then_exit (we_then_exit (we_block_hit ?_))))
        have hE := (Option.some.inj hm).symm
        replace hE := link_inr hLu4 hE
        refine we_pick [1,2,3,4,5,0] rfl (H' := [_,_,_,_,_,_]) rfl ?_
        refine we_join (u4_12_f0_l, u4_12_f1_l, u4_12_f2_l, u4_12_f3_m, u4_13_l, u4_12_f1_p, u4_12_f1_c, u4_12_f1_n, u4_12_f2_p, u4_12_f2_c, u4_12_f2_n, u4_13_p, u4_13_c, u4_13_n) hE [12,1,13] rfl (asK [0,1] rfl) rfl
      ·
       rintro ⟨j_9_12_f0_l, j_9_12_f1_l, j_9_12_f2_l, j_9_12_f3_m, j_9_13_l, j_9_12_f1_p, j_9_12_f1_c, j_9_12_f1_n, j_9_12_f2_p, j_9_12_f2_c, j_9_12_f2_n, j_9_13_p, j_9_13_c, j_9_13_n⟩ hE
       try dsimp only
       have hm := link_inl hLj_9 hE
       try dsimp only at hm
       refine wc_seq (wc_region (wP rfl (wl_treeLen 5 rfl (fun hzt31 _ => ?_))))
       subst hzt31
       refine wN rfl tE_23 (wP rfl (wN rfl tE_23 (wP rfl (wl_as (d := 172) (v' := .bool (j_9_13_l.length == l1.length)) (S' := [_,_,_,_,_,_,_]) rfl rfl (nateq (a := j_9_13_l.length) (b := l1.length)) (wP rfl ?_)))))
       refine wl_split (d := 173) (S' := [_,_,_,_,_,_,_,_]) rfl rfl (fun hs173 => ?_) (fun hs173 => ?_)
       ·
        replace hm := iteT hm hs173
        refine wP rfl ?_
        obtain ⟨v175, hc175, hm⟩ := bindO_some hm
        refine wC [0,1,2,3,4] [5] rfl fn_14 rfl (w_agenda_Agenda_Fired_s N c119_0 r119_1 c119_3 c119_2 j_9_12_f0_l j_9_12_f1_p j_9_12_f1_n j_9_12_f1_c j_9_12_f1_l j_9_12_f2_p j_9_12_f2_n j_9_12_f2_c j_9_12_f2_l c122_6 j_9_12_f3_m _ hc175) (asK [1] rfl) rfl (H' := [_]) rfl ?_
        rintro _ _ _ ⟨p175_0, c175_1, c175_2, rfl, rfl, rfl⟩
        refine wP rfl (wl_treeLen 0 rfl (fun hzt32 _ => ?_))
        subst hzt32
        obtain ⟨v177, hc177, hm⟩ := bindO_some hm
        refine wl_lend [] [0,1,2,3,4,5,6] [0,6] rfl rfl rfl (freshS_eq rfl) rfl rfl fn_13 rfl (w_ropewalkkit_SameTokens_s N p175_0 c175_1 v175 j_9_13_p j_9_13_c j_9_13_l _ hc177) (fun F w hφ hh => (ask_cons (tree_sli T_Api_TokenD_lend (hh _ (mem_at (k := 0) rfl)) (fun _ h => h) (fun _ h => h)) (ask_cons (tree_sli T_Api_TokenD_lend (hh _ (mem_at (k := 1) rfl)) (fun _ h => h) (fun _ h => h)) (ask_cons (hφ _ (mem_at (k := 1) rfl)) ask_nil)))) (fun _ _ _ hR => by obtain ⟨rfl, rfl, rfl⟩ := hR; exact ⟨rfl, (fun _ h => free_nil h)⟩) rfl rfl (H' := [_,_,_,_,_,_,_]) rfl ?_
        rintro _ _ _ ⟨rfl, rfl, rfl⟩
        refine wP rfl (wP rfl (wl_nil (we_then (wc_keep [4] (S' := [_]) rfl (wc_ret ?_)))))
        have hE := (Option.some.inj hm).symm
        replace hE := hE.symm
        subst hE
        refine ret_one (Hr := []) [] Tryd.results3 (res_tmp rfl) ⟨rfl, rfl, rfl⟩ (asK [] rfl) rfl rfl (.inl rfl)
       ·
        replace hm := iteF hm hs173
        refine wO rfl (wO rfl (wO rfl (wO rfl (wP rfl (wP rfl (wl_nil (we_then (wc_keep [4] (S' := [_]) rfl (wc_ret ?_)))))))))
        have hE := (Option.some.inj hm).symm
        replace hE := hE.symm
        subst hE
        refine ret_one (Hr := []) [] Tryd.results3 (res_tmp rfl) ⟨rfl, rfl, rfl⟩ (asK [] rfl) rfl rfl (.inl rfl)
end Go.Proofs.YtgangmegcejllaaDoor
