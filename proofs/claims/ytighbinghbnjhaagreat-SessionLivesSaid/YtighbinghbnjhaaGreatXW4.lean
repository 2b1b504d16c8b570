import Derived.Test.YtighbinghbnjhaaGreatXW3
namespace Go.Proofs.YtighbinghbnjhaaGreat
open Go.RowKit
set_option maxRecDepth 100000
set_option maxHeartbeats 4000000
theorem w_session_Table_Ask_v2_s (N : Nat) (qg0 : Nat) (qp1 : Option Addr) (qn2 : Nat) (qc3 : Nat) (l0 : List SessD) (a1 : Int) (a2 : Int) (a3 : Int) (o0 : Int) (o1 : Int) (o4 : List FactD) (o8 : List V) (o10 : Bool) (o11 : Nat) (hm : m_session_Table_Ask N l0 a1 a2 a3 = some (o0, o1, o4, o8, o10, o11)) : Spec Tryz.prog 20 [.pointer (some ⟨qg0,0, none⟩), .int .i64 a2, .int .i64 a3] [] [.blk qg0 [.slice qp1 qn2 qc3, .int .i64 a1] 65, treeF T_SessD 31 6 (.slice qp1 qn2 qc3) l0] (fun v Φr Hr => ∃ (o2 : Option Addr) (o3 : Nat) (o5 : Nat) (o6 : Option Addr) (o7 : Nat) (o9 : Nat), v = .tuple #[.agg #[.int .i64 o0, .int .i64 o1, .slice o2 o5 o3, .slice o6 o9 o7], .bool o10, .int .i64 ((o11 : Nat) : Int)] ∧ Φr = [] ∧ Hr = [treeF T_FactD 55 3 (.slice o2 o5 o3) o4, .own 149 3 R_V (.slice o6 o9 o7) o8, .blk qg0 [.slice qp1 qn2 qc3, .int .i64 a1] 65, treeF T_SessD 31 6 (.slice qp1 qn2 qc3) l0]) := by
 unfold m_session_Table_Ask at hm
 refine spec_of Tryz.func20 rfl Tryz.ntmps20 rfl (S := [_,_,_]) rfl (fun C => (wc_seq (wc_region (wl_alloc rfl rfl rfl (freshS_eq rfl) rfl tZ_29 rfl (fun g6 => (wP rfl (wP rfl (wl_nil (we_then (wc_keep [6,0,1,2] (S' := [_,_,_,_]) rfl (wc_seq (wc_region (wP rfl (wP rfl ?_))))))))))))))
 obtain ⟨⟨v14_0, v14_1⟩, hc14, hm⟩ := bindO_some hm
 try dsimp only at hm
 refine wC [1,2] [0] rfl fn_45 rfl (w_session_Table_at_v2_s N qg0 qp1 qn2 qc3 l0 a1 a2 _ _ hc14) (asK [] rfl) rfl (H' := [_]) rfl ?_
 rintro _ _ _ ⟨rfl, rfl, rfl⟩
 refine wP rfl (wP rfl (wP rfl (wP rfl (wP rfl (wl_nil (we_then (wc_keep [8,9,6,0,2] (S' := [_,_,_,_,_]) rfl (wc_seq (wc_seq (wc_region (wP rfl (wP rfl (wl_as (d := 18) (v' := .bool (v14_1 != 0)) (S' := [_,_,_,_,_,_]) rfl rfl (natne (a := v14_1) (b := 0)) ?_)))))))))))))
 refine wl_nil (we_then (wc_keep [18,8,9,6,0,2] (S' := [_,_,_,_,_,_]) rfl ?_))
 refine wc_cond rfl (fun hb18 => ?_) (fun hb18 => ?_)
 ·
  replace hm := iteT hm hb18
  refine wc_keep [8,6] (S' := [_,_]) rfl (wc_seq (wc_region (wl_loadH 2 0 rfl rfl rfl (freshS_eq rfl) rfl rfl rfl (cs := [_,_,_,_]) rfl tS_29 tA_29 rfl rfl (wP rfl (wS 2 0 rfl tS_29 (all' := [_,_,_,_]) rfl (H' := [_,_,_]) rfl (wP rfl (wl_pure (S' := [_,_,_,_]) rfl rfl rfl rfl rfl (wl_nil (we_then (wc_keep [8,7,6] (S' := [_,_,_]) rfl (wc_ret (we_then_ret ?_))))))))))))
  have hE := (Option.some.inj hm).symm
  obtain ⟨hE0, hF1⟩ := Prod.mk.inj hE
  obtain ⟨hE1, hF2⟩ := Prod.mk.inj hF1
  obtain ⟨hE2, hF3⟩ := Prod.mk.inj hF2
  obtain ⟨hE3, hF4⟩ := Prod.mk.inj hF3
  obtain ⟨hE4, hE5⟩ := Prod.mk.inj hF4
  clear hE hF1 hF2 hF3 hF4
  replace hE0 := hE0.symm
  subst hE0
  replace hE1 := hE1.symm
  subst hE1
  replace hE2 := hE2.symm
  subst hE2
  replace hE3 := hE3.symm
  subst hE3
  replace hE4 := hE4.symm
  subst hE4
  replace hE5 := hE5.symm
  subst hE5
  refine we_sh [treeF T_FactD 55 3 (.slice none 0 0) [], .blk qg0 [.slice qp1 qn2 qc3, .int .i64 a1] 65, treeF T_SessD 31 6 (.slice qp1 qn2 qc3) l0, .blk g6 [.int .i64 0, .int .i64 0, .slice none 0 0, .slice none 0 0] 29] (fun _ h => h.treeNil T_FactD 55 3) (we_rowNil 149 3 R_V ?_)
  refine ret_three (Hr := [_,_,_,_]) [1,0,2,3] Tryz.results20 (res_cell 4 rfl rfl tS_29 tA_29 rfl rfl) (res_tmp rfl) (res_tmp rfl) ⟨none, 0,0, none, 0,0, rfl, rfl, rfl⟩ (asK [] rfl) rfl rfl (.inl rfl)
 ·
  replace hm := iteF hm hb18
  refine wc_keep [9,6,0,2] (S' := [_,_,_,_]) rfl (wc_skip (we_then (wc_seq (wc_seq (wc_region (wP rfl (wP rfl (wF rfl tF_65_0 (wF rfl tF_63_0 (wD 0 0 rfl tS_22 tA_22 rfl (wP rfl ?_)))))))))))
  obtain ⟨hn27, hm⟩ := gd_some hm
  refine wl_treeOut 1 rfl (fun zz27 hzz27 => ?_)
  obtain ⟨x27, hx27, hm⟩ := bindO_some hm
  obtain ⟨rr27, hrr27⟩ := zip_at hzz27 hx27
  refine wl_indexH 2 v14_0.toNat rfl rfl rfl (freshS_eq rfl) rfl rfl rfl rfl (toNat_eq hn27) (get_lt hrr27) tE_22 tS_31 (fun g27 eg27 => ?_)
  subst eg27
  refine wl_sh [.own 149 3 R_V (.slice rr27.2.1 x27.r.said.length rr27.2.2) x27.r.said, treeF T_FactD 55 3 (.slice rr27.1.1 x27.r.facts.length rr27.1.2) x27.r.facts, bagF T_SessD zz27 (some v14_0.toNat), .blk qg0 [.slice (some ⟨g27,0, none⟩) qn2 qc3, .int .i64 a1] 65, .own 31 6 T_SessD.pair (.slice (some ⟨g27,0, none⟩) qn2 qc3) zz27, .blk g6 [.int .i64 0, .int .i64 0, .slice none 0 0, .slice none 0 0] 29] (fun _ h => h.bagOpen 0 v14_0.toNat rfl hrr27) (wl_loadRow pair_opens 4 v14_0.toNat 0 rfl rfl rfl (freshS_eq rfl) rfl rfl rfl hrr27 tS_31 tA_31 (v := fun _ => .agg #[.int .i64 (x27.id), .int .i64 (x27.seq), .int .i64 (x27.r.err), .int .i64 (x27.r.num), .slice rr27.1.1 x27.r.facts.length rr27.1.2, .slice rr27.2.1 x27.r.said.length rr27.2.2]) (fun _ => rfl) (fun _ => rfl) (fun _ _ => (wl_alloc rfl rfl rfl (freshS_eq rfl) rfl tZ_31 rfl (fun g10 => (wS 0 0 rfl tS_31 (all' := [_,_,_,_,_,_]) rfl (H' := [_,_,_,_,_,_,_]) rfl (wl_nil (we_then (wc_keep [10,6,2] (S' := [_,_,_]) rfl (wc_block (wc_seq ?_))))))))))
  obtain ⟨bj_1, hm, hLj_1⟩ := bindO_some hm
  refine wc_cut (σ := Bool) (fun j_1_29 => bj_1 = j_1_29) (fun j_1_29 => [(10, .pointer (some ⟨g10,0, none⟩)), (6, .pointer (some ⟨g6,0, none⟩)), (2, .int .i64 a3), (29, .bool j_1_29)]) (fun j_1_29 => []) (fun j_1_29 => [.blk g10 [.int .i64 (x27.id), .int .i64 (x27.seq), .int .i64 (x27.r.err), .int .i64 (x27.r.num), .slice rr27.1.1 x27.r.facts.length rr27.1.2, .slice rr27.2.1 x27.r.said.length rr27.2.2] 31, treeF T_FactD 55 3 (.slice rr27.1.1 x27.r.facts.length rr27.1.2) x27.r.facts, .own 149 3 R_V (.slice rr27.2.1 x27.r.said.length rr27.2.2) x27.r.said, .blk g6 [.int .i64 0, .int .i64 0, .slice none 0 0, .slice none 0 0] 29, .own 31 6 T_SessD.pair (.slice (some ⟨g27,0, none⟩) qn2 qc3) zz27, bagF T_SessD zz27 (some v14_0.toNat), .blk qg0 [.slice (some ⟨g27,0, none⟩) qn2 qc3, .int .i64 a1] 65]) ?_ ?_
  ·
   refine wc_region (wP rfl (wP rfl (wP rfl ?_)))
   refine wl_split (d := 32) (S' := [_,_,_,_,_]) rfl rfl (fun hs32 => ?_) (fun hs32 => ?_)
   ·
    replace hm := iteT hm hs32
    refine wO rfl (wO rfl (wO rfl (wO rfl (wP rfl (wP rfl (wl_nil ?_))))))
    have hE := (Option.some.inj hm).symm
    refine we_pick [0,2,1,6,5,3,4] rfl (H' := [_,_,_,_,_,_,_]) rfl ?_
    refine we_join true hE [10,6,2,29] rfl (asK [] rfl) rfl
   ·
    replace hm := iteF hm hs32
    refine wP rfl (wF rfl tF_31_1 (wD 0 1 rfl tS_3 tA_3 rfl (wP rfl (wP rfl (wP rfl (wl_nil ?_))))))
    have hE := (Option.some.inj hm).symm
    refine we_pick [0,2,1,6,5,3,4] rfl (H' := [_,_,_,_,_,_,_]) rfl ?_
    refine we_join (decide (a3 < x27.seq)) hE [10,6,2,29] rfl (asK [] rfl) rfl
  ·
   rintro j_1_29 hE
   try dsimp only
   have hm := hLj_1
   rw [hE] at hm
   refine wc_cond rfl (fun hb29 => ?_) (fun hb29 => ?_)
   ·
    replace hm := iteT hm hb29
    refine wc_keep [6] (S' := [_]) rfl (wc_seq (wc_region (wl_loadH 3 0 rfl rfl rfl (freshS_eq rfl) rfl rfl rfl (cs := [_,_,_,_]) rfl tS_29 tA_29 rfl rfl (wS 3 0 rfl tS_29 (all' := [_,_,_,_]) rfl (H' := [_,_,_,_,_,_,_]) rfl (wP rfl (wP rfl (wl_nil (we_then (wc_keep [8,7,6] (S' := [_,_,_]) rfl (wc_ret (we_block_ret (we_then_ret ?_))))))))))))
    have hE := (Option.some.inj hm).symm
    obtain ⟨hE0, hF1⟩ := Prod.mk.inj hE
    obtain ⟨hE1, hF2⟩ := Prod.mk.inj hF1
    obtain ⟨hE2, hF3⟩ := Prod.mk.inj hF2
    obtain ⟨hE3, hF4⟩ := Prod.mk.inj hF3
    obtain ⟨hE4, hE5⟩ := Prod.mk.inj hF4
    clear hE hF1 hF2 hF3 hF4
    replace hE0 := hE0.symm
    subst hE0
    replace hE1 := hE1.symm
    subst hE1
    replace hE2 := hE2.symm
    subst hE2
    replace hE3 := hE3.symm
    subst hE3
    replace hE4 := hE4.symm
    subst hE4
    replace hE5 := hE5.symm
    subst hE5
    refine we_sh [treeF T_FactD 55 3 (.slice none 0 0) [], .blk g10 [.int .i64 (x27.id), .int .i64 (x27.seq), .int .i64 (x27.r.err), .int .i64 (x27.r.num), .slice rr27.1.1 x27.r.facts.length rr27.1.2, .slice rr27.2.1 x27.r.said.length rr27.2.2] 31, treeF T_FactD 55 3 (.slice rr27.1.1 x27.r.facts.length rr27.1.2) x27.r.facts, .own 149 3 R_V (.slice rr27.2.1 x27.r.said.length rr27.2.2) x27.r.said, .blk g6 [.int .i64 0, .int .i64 0, .slice none 0 0, .slice none 0 0] 29, .own 31 6 T_SessD.pair (.slice (some ⟨g27,0, none⟩) qn2 qc3) zz27, bagF T_SessD zz27 (some v14_0.toNat), .blk qg0 [.slice (some ⟨g27,0, none⟩) qn2 qc3, .int .i64 a1] 65] (fun _ h => h.treeNil T_FactD 55 3) (we_rowNil 149 3 R_V (we_pick [4,3,0,1,2,5,6,7,8] rfl (H' := [_,_,_,_,_,_,_,_,_]) rfl (we_sh [.own 149 3 R_V (.slice none 0 0) [], treeF T_FactD 55 3 (.slice none 0 0) [], .blk g10 [.int .i64 (x27.id), .int .i64 (x27.seq), .int .i64 (x27.r.err), .int .i64 (x27.r.num), .slice rr27.1.1 x27.r.facts.length rr27.1.2, .slice rr27.2.1 x27.r.said.length rr27.2.2] 31, .blk g6 [.int .i64 0, .int .i64 0, .slice none 0 0, .slice none 0 0] 29, .own 31 6 T_SessD.pair (.slice (some ⟨g27,0, none⟩) qn2 qc3) zz27, bagF T_SessD (zz27.set v14_0.toNat (x27, rr27)) none, .blk qg0 [.slice (some ⟨g27,0, none⟩) qn2 qc3, .int .i64 a1] 65] (fun _ h => Holds.bagClose (T := T_SessD) (x := x27) (r := rr27) (i := v14_0.toNat) (zs := zz27) (H := [.own 149 3 R_V (.slice none 0 0) [], treeF T_FactD 55 3 (.slice none 0 0) [], .blk g10 [.int .i64 (x27.id), .int .i64 (x27.seq), .int .i64 (x27.r.err), .int .i64 (x27.r.num), .slice rr27.1.1 x27.r.facts.length rr27.1.2, .slice rr27.2.1 x27.r.said.length rr27.2.2] 31, .blk g6 [.int .i64 0, .int .i64 0, .slice none 0 0, .slice none 0 0] 29, .own 31 6 T_SessD.pair (.slice (some ⟨g27,0, none⟩) qn2 qc3) zz27, bagF T_SessD zz27 (some v14_0.toNat), .blk qg0 [.slice (some ⟨g27,0, none⟩) qn2 qc3, .int .i64 a1] 65]) h 5 rfl) (we_hAs 5 (φ' := bagF T_SessD zz27 none) rfl (by rw [set_getZ hrr27]) (H' := [.own 149 3 R_V (.slice none 0 0) [], treeF T_FactD 55 3 (.slice none 0 0) [], .blk g10 [.int .i64 (x27.id), .int .i64 (x27.seq), .int .i64 (x27.r.err), .int .i64 (x27.r.num), .slice rr27.1.1 x27.r.facts.length rr27.1.2, .slice rr27.2.1 x27.r.said.length rr27.2.2] 31, .blk g6 [.int .i64 0, .int .i64 0, .slice none 0 0, .slice none 0 0] 29, .own 31 6 T_SessD.pair (.slice (some ⟨g27,0, none⟩) qn2 qc3) zz27, bagF T_SessD zz27 none, .blk qg0 [.slice (some ⟨g27,0, none⟩) qn2 qc3, .int .i64 a1] 65]) rfl (we_sh [.own 149 3 R_V (.slice none 0 0) [], treeF T_FactD 55 3 (.slice none 0 0) [], .blk g10 [.int .i64 (x27.id), .int .i64 (x27.seq), .int .i64 (x27.r.err), .int .i64 (x27.r.num), .slice rr27.1.1 x27.r.facts.length rr27.1.2, .slice rr27.2.1 x27.r.said.length rr27.2.2] 31, .blk g6 [.int .i64 0, .int .i64 0, .slice none 0 0, .slice none 0 0] 29, treeF T_SessD 31 6 (.slice (some ⟨g27,0, none⟩) qn2 qc3) l0, .blk qg0 [.slice (some ⟨g27,0, none⟩) qn2 qc3, .int .i64 a1] 65] (fun _ h => h.treeIn 4 5 rfl rfl rfl hzz27) ?_)))))
    refine ret_three (Hr := [_,_,_,_]) [1,0,5,4] Tryz.results20 (res_cell 3 rfl rfl tS_29 tA_29 rfl rfl) (res_tmp rfl) (res_tmp rfl) ⟨none, 0,0, none, 0,0, rfl, rfl, rfl⟩ (asK [] rfl) rfl rfl (.inl rfl)
   ·
    replace hm := iteF hm hb29
    refine wc_keep [10,6,2] (S' := [_,_,_]) rfl (wc_seq (wc_region (wP rfl (wF rfl tF_31_1 (wD 0 1 rfl tS_3 tA_3 rfl (wP rfl (wP rfl (wl_nil (we_then (wc_keep [39,10,6] (S' := [_,_,_]) rfl ?_))))))))))
    refine wc_cond rfl (fun hb39 => ?_) (fun hb39 => ?_)
    ·
     replace hm := iteT hm hb39
     refine wc_keep [10,6] (S' := [_,_]) rfl (wc_seq (wc_region (wF rfl tF_31_2 (wl_loadH 0 2 rfl rfl rfl (freshS_eq rfl) rfl rfl rfl (cs := [_,_,_,_]) rfl tS_29 tA_29 rfl rfl ?_))))
     obtain ⟨v46, hc46, hm⟩ := bindO_some hm
     refine wl_lend [] [0,1,2,3,4,5,6] [1,2] rfl rfl rfl (freshS_eq rfl) rfl rfl fn_46 rfl (w_session_own_s N x27.r.err x27.r.num rr27.1.1 rr27.1.2 x27.r.facts rr27.2.1 rr27.2.2 x27.r.said _ hc46) (fun F w hφ hh => (ask_cons (tree_sli T_FactD_lend (hh _ (mem_at (k := 0) rfl)) (fun _ h => h) (fun _ h => h)) (ask_cons (own_sli (hh _ (mem_at (k := 1) rfl))) ask_nil))) (fun _ _ _ hR => by obtain ⟨_,_,_,_, rfl, rfl, rfl⟩ := hR; exact ⟨rfl, (free_cons (tree_free T_FactD_free) (free_cons (own_free mkRep_free) (fun _ h => free_nil h)))⟩) rfl rfl (H' := [_,_,_,_,_,_,_]) rfl ?_
     rintro _ _ _ ⟨p46_0, c46_1, p46_2, c46_3, rfl, rfl, rfl⟩
     refine wS 5 0 rfl tS_29 (all' := [_,_,_,_]) rfl (H' := [_,_,_,_,_,_,_,_,_]) rfl (wP rfl (wP rfl (wl_nil (we_then (wc_keep [8,7,6] (S' := [_,_,_]) rfl (wc_ret (we_block_ret (we_then_ret ?_))))))))
     have hE := (Option.some.inj hm).symm
     obtain ⟨hE0, hF1⟩ := Prod.mk.inj hE
     obtain ⟨hE1, hF2⟩ := Prod.mk.inj hF1
     obtain ⟨hE2, hF3⟩ := Prod.mk.inj hF2
     obtain ⟨hE3, hF4⟩ := Prod.mk.inj hF3
     obtain ⟨hE4, hE5⟩ := Prod.mk.inj hF4
     clear hE hF1 hF2 hF3 hF4
     replace hE0 := hE0.symm
     subst hE0
     replace hE1 := hE1.symm
     subst hE1
     replace hE2 := hE2.symm
     subst hE2
     replace hE3 := hE3.symm
     subst hE3
     replace hE4 := hE4.symm
     subst hE4
     replace hE5 := hE5.symm
     subst hE5
     refine we_pick [4,3,0,1,2,5,6,7,8] rfl (H' := [_,_,_,_,_,_,_,_,_]) rfl (we_sh [treeF T_FactD 55 3 (.slice p46_0 x27.r.facts.length c46_1) v46, .own 149 3 R_V (.slice p46_2 x27.r.said.length c46_3) x27.r.said, .blk g10 [.int .i64 (x27.id), .int .i64 (x27.seq), .int .i64 (x27.r.err), .int .i64 (x27.r.num), .slice rr27.1.1 x27.r.facts.length rr27.1.2, .slice rr27.2.1 x27.r.said.length rr27.2.2] 31, .blk g6 [.int .i64 (x27.r.err), .int .i64 (x27.r.num), .slice p46_0 x27.r.facts.length c46_1, .slice p46_2 x27.r.said.length c46_3] 29, .own 31 6 T_SessD.pair (.slice (some ⟨g27,0, none⟩) qn2 qc3) zz27, bagF T_SessD (zz27.set v14_0.toNat (x27, rr27)) none, .blk qg0 [.slice (some ⟨g27,0, none⟩) qn2 qc3, .int .i64 a1] 65] (fun _ h => Holds.bagClose (T := T_SessD) (x := x27) (r := rr27) (i := v14_0.toNat) (zs := zz27) (H := [treeF T_FactD 55 3 (.slice p46_0 x27.r.facts.length c46_1) v46, .own 149 3 R_V (.slice p46_2 x27.r.said.length c46_3) x27.r.said, .blk g10 [.int .i64 (x27.id), .int .i64 (x27.seq), .int .i64 (x27.r.err), .int .i64 (x27.r.num), .slice rr27.1.1 x27.r.facts.length rr27.1.2, .slice rr27.2.1 x27.r.said.length rr27.2.2] 31, .blk g6 [.int .i64 (x27.r.err), .int .i64 (x27.r.num), .slice p46_0 x27.r.facts.length c46_1, .slice p46_2 x27.r.said.length c46_3] 29, .own 31 6 T_SessD.pair (.slice (some ⟨g27,0, none⟩) qn2 qc3) zz27, bagF T_SessD zz27 (some v14_0.toNat), .blk qg0 [.slice (some ⟨g27,0, none⟩) qn2 qc3, .int .i64 a1] 65]) h 5 rfl) (we_hAs 5 (φ' := bagF T_SessD zz27 none) rfl (by rw [set_getZ hrr27]) (H' := [treeF T_FactD 55 3 (.slice p46_0 x27.r.facts.length c46_1) v46, .own 149 3 R_V (.slice p46_2 x27.r.said.length c46_3) x27.r.said, .blk g10 [.int .i64 (x27.id), .int .i64 (x27.seq), .int .i64 (x27.r.err), .int .i64 (x27.r.num), .slice rr27.1.1 x27.r.facts.length rr27.1.2, .slice rr27.2.1 x27.r.said.length rr27.2.2] 31, .blk g6 [.int .i64 (x27.r.err), .int .i64 (x27.r.num), .slice p46_0 x27.r.facts.length c46_1, .slice p46_2 x27.r.said.length c46_3] 29, .own 31 6 T_SessD.pair (.slice (some ⟨g27,0, none⟩) qn2 qc3) zz27, bagF T_SessD zz27 none, .blk qg0 [.slice (some ⟨g27,0, none⟩) qn2 qc3, .int .i64 a1] 65]) rfl (we_sh [treeF T_FactD 55 3 (.slice p46_0 x27.r.facts.length c46_1) v46, .own 149 3 R_V (.slice p46_2 x27.r.said.length c46_3) x27.r.said, .blk g10 [.int .i64 (x27.id), .int .i64 (x27.seq), .int .i64 (x27.r.err), .int .i64 (x27.r.num), .slice rr27.1.1 x27.r.facts.length rr27.1.2, .slice rr27.2.1 x27.r.said.length rr27.2.2] 31, .blk g6 [.int .i64 (x27.r.err), .int .i64 (x27.r.num), .slice p46_0 x27.r.facts.length c46_1, .slice p46_2 x27.r.said.length c46_3] 29, treeF T_SessD 31 6 (.slice (some ⟨g27,0, none⟩) qn2 qc3) l0, .blk qg0 [.slice (some ⟨g27,0, none⟩) qn2 qc3, .int .i64 a1] 65] (fun _ h => h.treeIn 4 5 rfl rfl rfl hzz27) ?_)))
     refine ret_three (Hr := [_,_,_,_]) [0,1,5,4] Tryz.results20 (res_cell 3 rfl rfl tS_29 tA_29 rfl rfl) (res_tmp rfl) (res_tmp rfl) ⟨p46_0, c46_1, x27.r.facts.length, p46_2, c46_3, x27.r.said.length, rfl, rfl, rfl⟩ (asK [] rfl) rfl rfl (.inl rfl)
    ·
     replace hm := iteF hm hb39
     refine wc_keep [6] (S' := [_]) rfl (wc_skip (we_block_normal (we_then (wc_seq (wc_region (wl_loadH 3 0 rfl rfl rfl (freshS_eq rfl) rfl rfl rfl (cs := [_,_,_,_]) rfl tS_29 tA_29 rfl rfl (wS 3 0 rfl tS_29 (all' := [_,_,_,_]) rfl (H' := [_,_,_,_,_,_,_]) rfl (wP rfl (wP rfl (wl_nil (we_then (wc_keep [8,7,6] (S' := [_,_,_]) rfl (wc_ret ?_)))))))))))))
     have hE := (Option.some.inj hm).symm
     obtain ⟨hE0, hF1⟩ := Prod.mk.inj hE
     obtain ⟨hE1, hF2⟩ := Prod.mk.inj hF1
     obtain ⟨hE2, hF3⟩ := Prod.mk.inj hF2
     obtain ⟨hE3, hF4⟩ := Prod.mk.inj hF3
     obtain ⟨hE4, hE5⟩ := Prod.mk.inj hF4
     clear hE hF1 hF2 hF3 hF4
     replace hE0 := hE0.symm
     subst hE0
     replace hE1 := hE1.symm
     subst hE1
     replace hE2 := hE2.symm
     subst hE2
     replace hE3 := hE3.symm
     subst hE3
     replace hE4 := hE4.symm
     subst hE4
     replace hE5 := hE5.symm
     subst hE5
     refine we_sh [treeF T_FactD 55 3 (.slice none 0 0) [], .blk g10 [.int .i64 (x27.id), .int .i64 (x27.seq), .int .i64 (x27.r.err), .int .i64 (x27.r.num), .slice rr27.1.1 x27.r.facts.length rr27.1.2, .slice rr27.2.1 x27.r.said.length rr27.2.2] 31, treeF T_FactD 55 3 (.slice rr27.1.1 x27.r.facts.length rr27.1.2) x27.r.facts, .own 149 3 R_V (.slice rr27.2.1 x27.r.said.length rr27.2.2) x27.r.said, .blk g6 [.int .i64 0, .int .i64 0, .slice none 0 0, .slice none 0 0] 29, .own 31 6 T_SessD.pair (.slice (some ⟨g27,0, none⟩) qn2 qc3) zz27, bagF T_SessD zz27 (some v14_0.toNat), .blk qg0 [.slice (some ⟨g27,0, none⟩) qn2 qc3, .int .i64 a1] 65] (fun _ h => h.treeNil T_FactD 55 3) (we_rowNil 149 3 R_V (we_pick [4,3,0,1,2,5,6,7,8] rfl (H' := [_,_,_,_,_,_,_,_,_]) rfl (we_sh [.own 149 3 R_V (.slice none 0 0) [], treeF T_FactD 55 3 (.slice none 0 0) [], .blk g10 [.int .i64 (x27.id), .int .i64 (x27.seq), .int .i64 (x27.r.err), .int .i64 (x27.r.num), .slice rr27.1.1 x27.r.facts.length rr27.1.2, .slice rr27.2.1 x27.r.said.length rr27.2.2] 31, .blk g6 [.int .i64 0, .int .i64 0, .slice none 0 0, .slice none 0 0] 29, .own 31 6 T_SessD.pair (.slice (some ⟨g27,0, none⟩) qn2 qc3) zz27, bagF T_SessD (zz27.set v14_0.toNat (x27, rr27)) none, .blk qg0 [.slice (some ⟨g27,0, none⟩) qn2 qc3, .int .i64 a1] 65] (fun _ h => Holds.bagClose (T := T_SessD) (x := x27) (r := rr27) (i := v14_0.toNat) (zs := zz27) (H := [.own 149 3 R_V (.slice none 0 0) [], treeF T_FactD 55 3 (.slice none 0 0) [], .blk g10 [.int .i64 (x27.id), .int .i64 (x27.seq), .int .i64 (x27.r.err), .int .i64 (x27.r.num), .slice rr27.1.1 x27.r.facts.length rr27.1.2, .slice rr27.2.1 x27.r.said.length rr27.2.2] 31, .blk g6 [.int .i64 0, .int .i64 0, .slice none 0 0, .slice none 0 0] 29, .own 31 6 T_SessD.pair (.slice (some ⟨g27,0, none⟩) qn2 qc3) zz27, bagF T_SessD zz27 (some v14_0.toNat), .blk qg0 [.slice (some ⟨g27,0, none⟩) qn2 qc3, .int .i64 a1] 65]) h 5 rfl) (we_hAs 5 (φ' := bagF T_SessD zz27 none) rfl (by rw [set_getZ hrr27]) (H' := [.own 149 3 R_V (.slice none 0 0) [], treeF T_FactD 55 3 (.slice none 0 0) [], .blk g10 [.int .i64 (x27.id), .int .i64 (x27.seq), .int .i64 (x27.r.err), .int .i64 (x27.r.num), .slice rr27.1.1 x27.r.facts.length rr27.1.2, .slice rr27.2.1 x27.r.said.length rr27.2.2] 31, .blk g6 [.int .i64 0, .int .i64 0, .slice none 0 0, .slice none 0 0] 29, .own 31 6 T_SessD.pair (.slice (some ⟨g27,0, none⟩) qn2 qc3) zz27, bagF T_SessD zz27 none, .blk qg0 [.slice (some ⟨g27,0, none⟩) qn2 qc3, .int .i64 a1] 65]) rfl (we_sh [.own 149 3 R_V (.slice none 0 0) [], treeF T_FactD 55 3 (.slice none 0 0) [], .blk g10 [.int .i64 (x27.id), .int .i64 (x27.seq), .int .i64 (x27.r.err), .int .i64 (x27.r.num), .slice rr27.1.1 x27.r.facts.length rr27.1.2, .slice rr27.2.1 x27.r.said.length rr27.2.2] 31, .blk g6 [.int .i64 0, .int .i64 0, .slice none 0 0, .slice none 0 0] 29, treeF T_SessD 31 6 (.slice (some ⟨g27,0, none⟩) qn2 qc3) l0, .blk qg0 [.slice (some ⟨g27,0, none⟩) qn2 qc3, .int .i64 a1] 65] (fun _ h => h.treeIn 4 5 rfl rfl rfl hzz27) ?_)))))
     refine ret_three (Hr := [_,_,_,_]) [1,0,5,4] Tryz.results20 (res_cell 3 rfl rfl tS_29 tA_29 rfl rfl) (res_tmp rfl) (res_tmp rfl) ⟨none, 0,0, none, 0,0, rfl, rfl, rfl⟩ (asK [] rfl) rfl rfl (.inl rfl)
theorem w_ropewalkkit_SameValues_s (N : Nat) (qp0 : Option Addr) (qc1 : Nat) (l0 : List V) (qp2 : Option Addr) (qc3 : Nat) (l1 : List V) (o0 : Bool) (hm : m_ropewalkkit_SameValues N l0 l1 = some o0) : Spec Tryz.prog 60 [.slice qp0 l0.length qc1, .slice qp2 l1.length qc3] [.sli 3 R_V qp0 qc1 l0, .sli 3 R_V qp2 qc3 l1] [] (fun v Φr Hr => v = .bool o0 ∧ Φr = [] ∧ Hr = []) := by
 unfold m_ropewalkkit_SameValues at hm
 refine spec_of Tryz.func60 rfl Tryz.ntmps60 rfl (S := [_,_]) rfl (fun C => (wc_seq (wc_region (wP rfl (wl_nil (we_then (wc_keep [0,1] (S' := [_,_]) rfl (wc_seq (wc_seq (wc_region (wP rfl (wN rfl tE_27 (wP rfl (wN rfl tE_27 ?_))))))))))))))
 refine wP rfl (wl_as (d := 10) (v' := .bool (l0.length != l1.length)) (S' := [_,_,_,_,_,_]) rfl rfl (natne (a := l0.length) (b := l1.length)) (wl_nil (we_then (wc_keep [10,0,1] (S' := [_,_,_]) rfl ?_))))
 refine wc_cond rfl (fun hb10 => ?_) (fun hb10 => ?_)
 ·
  replace hm := iteT hm hb10
  refine wc_keep [] (S' := []) rfl (wc_seq (wc_region (wP rfl (wl_nil (we_then (wc_ret (we_then_ret ?_)))))))
  have hE := (Option.some.inj hm).symm
  replace hE := hE.symm
  subst hE
  refine ret_one (Hr := []) [] Tryz.results60 (res_tmp rfl) ⟨rfl, rfl, rfl⟩ (asK [] rfl) rfl rfl (.inl rfl)
 ·
  replace hm := iteF hm hb10
  refine wc_keep [0,1] (S' := [_,_]) rfl (wc_skip (we_then (wc_seq ?_)))
  obtain ⟨bj_1, hm, hLj_1⟩ := bindS_some hm
  refine wc_cut (σ := Unit) (fun _ => bj_1 = .inl ()) (fun _ => []) (fun _ => []) (fun _ => []) ?_ ?_
  ·
   refine wc_seq (wc_region (wP rfl (wl_nil (we_then (wc_block (wc_loop (σ := Nat × Nat) (fun (nu1, u1_5) => iter (m_ropewalkkit_SameValues_L1 N l0 l1) nu1 u1_5 = some bj_1) (fun (nu1, u1_5) => nu1) (fun (nu1, u1_5) => [(5, .int .i64 ((u1_5 : Nat) : Int)), (0, .slice qp0 l0.length qc1), (1, .slice qp2 l1.length qc3)]) (fun (nu1, u1_5) => [.sli 3 R_V qp0 qc1 l0, .sli 3 R_V qp2 qc3 l1]) (fun (nu1, u1_5) => []) (N, 0) hm [5,0,1] rfl (asK [0,1] rfl) rfl (fun s_ hm => ?_)))))))
   obtain ⟨nu1, u1_5⟩ := s_
   try dsimp only at hm ⊢
   obtain ⟨mu1, bu1, hnu1, hq, hLu1⟩ := iter_some hm
   clear hm
   subst hnu1
   replace hm := hq
   clear hq
   unfold m_ropewalkkit_SameValues_L1 at hm
   try dsimp only at hm
   refine wc_seq (wc_seq (wc_region (wP rfl (wP rfl (wN rfl tE_27 (wP rfl (wl_as (d := 14) (v' := .bool (decide (u1_5 < l0.length))) (S' := [_,_,_,_,_,_]) rfl rfl (natlt (a := u1_5) (b := l0.length)) (wl_nil (we_then (wc_keep [14,5,0,1] (S' := [_,_,_,_]) rfl ?_))))))))))
   refine wc_cond rfl (fun hb14 => ?_) (fun hb14 => ?_)
   ·
    replace hm := iteT hm hb14
    refine wc_keep [5,0,1] (S' := [_,_,_]) rfl (wc_skip (we_then (wc_seq (wc_block (wc_seq ?_)))))
    obtain ⟨x19, hx19, hm⟩ := bindO_some hm
    obtain ⟨x23, hx23, hm⟩ := bindO_some hm
    refine wc_draw [0,1,2,3,4,5,6,7,8] rfl rfl (fun hok => (xP hok 0 rfl (xP hok 1 rfl (wx_indexA hok 2 0 u1_5 rfl rfl rfl (freshS_eq rfl) rfl rfl rfl rfl rfl rfl hx19 tE_27 tS_149 (fun b19 q19 cs19 hlx19 => (wx_openR R_V_opens 1 rfl (fun r19 er19 _ => ?_)))))))
    subst er19
    refine wx_load hok 3 0 0 rfl rfl rfl (freshS_eq rfl) rfl rfl rfl rfl (cs := [_,_,_]) rfl tS_149 tA_149 rfl rfl (xP hok 4 rfl (xP hok 5 rfl (wx_indexA hok 6 3 u1_5 rfl rfl rfl (freshS_eq rfl) rfl rfl rfl rfl rfl rfl hx23 tE_27 tS_149 (fun b23 q23 cs23 hlx23 => (wx_openR R_V_opens 1 rfl (fun r23 er23 _ => ?_))))))
    subst er23
    refine wx_load hok 7 0 0 rfl rfl rfl (freshS_eq rfl) rfl rfl rfl rfl (cs := [_,_,_]) rfl tS_149 tA_149 rfl rfl (wx_bin hok 8 rfl rfl rfl (freshS_eq rfl) rfl rfl rfl rfl (neqV _ _ x19 x23) (wx_done hok rfl (we_then (wc_keep [25,5,0,1] (S' := [_,_,_,_]) rfl ?_))))
    refine wc_cond rfl (fun hb25 => ?_) (fun hb25 => ?_)
    ·
     replace hm := iteT hm hb25
     refine wc_keep [] (S' := []) rfl (wc_seq (wc_region (wP rfl (wl_nil (we_then (wc_ret (we_block_ret (we_then_ret (we_then_ret (we_block_ret (we_then_ret ?_)))))))))))
     have hE := (Option.some.inj hm).symm
     replace hE := link_inr hLu1 hE
     replace hE := link_inr hLj_1 hE
     replace hE := hE.symm
     subst hE
     refine ret_one (Hr := []) [] Tryz.results60 (res_tmp rfl) ⟨rfl, rfl, rfl⟩ (asK [] rfl) rfl rfl (.inl rfl)
    ·
     replace hm := iteF hm hb25
     refine wc_keep [5,0,1] (S' := [_,_,_]) rfl (wc_skip (we_block_normal (we_then (wc_region (wP rfl (wP rfl ?_))))))
     obtain ⟨hg16, hm⟩ := gd_some hm
     refine wl_as (d := 16) (v' := .int .i64 ((u1_5 + 1 : Nat) : Int)) (S' := [_,_,_,_]) rfl rfl (nat_add (a := u1_5) (b := 1) hg16) (wl_pure (S' := [_,_,_,_]) rfl rfl rfl rfl rfl (wl_nil ?_))
     have hE := (Option.some.inj hm).symm
     replace hE := link_inl hLu1 hE
     refine we_roundK (_, u1_5 + 1) (Nat.lt_succ_self _) hE [5,0,1] rfl (asK [4,5] rfl) rfl
   ·
    replace hm := iteF hm hb14
    refine wc_keep [] (S' := []) rfl (wc_exit (we_then_exit (we_then_exit (we_block_hit ?_))))
    have hE := (Option.some.inj hm).symm
    replace hE := link_inr hLu1 hE
    refine we_join () hE [] rfl (asK [] rfl) rfl
  ·
   rintro _ hE
   try dsimp only
   have hm := link_inl hLj_1 hE
   try dsimp only at hm
   refine wc_seq (wc_region (wP rfl (wl_nil (we_then (wc_ret ?_)))))
   have hE := (Option.some.inj hm).symm
   replace hE := hE.symm
   subst hE
   refine ret_one (Hr := []) [] Tryz.results60 (res_tmp rfl) ⟨rfl, rfl, rfl⟩ (asK [] rfl) rfl rfl (.inl rfl)
theorem w_ropewalkkit_SameFact_s (N : Nat) (a0 : Int) (a1 : Int) (qp0 : Option Addr) (qc1 : Nat) (l2 : List V) (a3 : Int) (a4 : Int) (qp2 : Option Addr) (qc3 : Nat) (l5 : List V) (o0 : Bool) (hm : m_ropewalkkit_SameFact N a0 a1 l2 a3 a4 l5 = some o0) : Spec Tryz.prog 101 [.agg #[.int .i64 a0, .int .i64 a1, .slice qp0 l2.length qc1], .agg #[.int .i64 a3, .int .i64 a4, .slice qp2 l5.length qc3]] [.sli 3 R_V qp0 qc1 l2, .sli 3 R_V qp2 qc3 l5] [] (fun v Φr Hr => v = .bool o0 ∧ Φr = [] ∧ Hr = []) := by
 unfold m_ropewalkkit_SameFact at hm
 refine spec_of Tryz.func101 rfl Tryz.ntmps101 rfl (S := [_,_]) rfl (fun C => (wc_seq (wc_region (wB rfl (fun g2 => (wB rfl (fun g3 => (wP rfl (wl_nil (we_then (wc_keep [3,2] (S' := [_,_]) rfl (wc_seq (wc_region (wF rfl tF_55_0 (wD 1 0 rfl tS_3 tA_3 rfl (wF rfl tF_55_0 ?_))))))))))))))))
 refine wD 0 0 rfl tS_3 tA_3 rfl (wP rfl (wP rfl ?_))
 refine wl_split (d := 10) (S' := [_,_,_,_,_,_,_]) rfl rfl (fun hs10 => ?_) (fun hs10 => ?_)
 ·
  replace hm := iteT hm hs10
  refine wF rfl tF_55_1 (wD 1 1 rfl tS_3 tA_3 rfl (wF rfl tF_55_1 (wD 0 1 rfl tS_3 tA_3 rfl (wP rfl (wP rfl (wP rfl ?_))))))
  refine wl_split (d := 17) (S' := [_,_,_,_,_,_,_,_,_,_,_,_,_,_]) rfl rfl (fun hs17 => ?_) (fun hs17 => ?_)
  ·
   replace hm := iteT hm hs17
   refine wF rfl tF_55_2 (wD 1 2 rfl tS_27 tA_27 rfl (wF rfl tF_55_2 (wD 0 2 rfl tS_27 tA_27 rfl ?_)))
   obtain ⟨v22, hc22, hm⟩ := bindO_some hm
   refine wC [] [0,1] rfl fn_60 rfl (w_ropewalkkit_SameValues_s N qp0 qc1 l2 qp2 qc3 l5 _ hc22) (asK [0,1] rfl) rfl (H' := [_,_]) rfl ?_
   rintro _ _ _ ⟨rfl, rfl, rfl⟩
   refine wP rfl (wP rfl (wl_nil (we_then (wc_keep [4] (S' := [_]) rfl (wc_ret ?_)))))
   have hE := (Option.some.inj hm).symm
   replace hE := hE.symm
   subst hE
   refine ret_one (Hr := []) [] Tryz.results101 (res_tmp rfl) ⟨rfl, rfl, rfl⟩ (asK [] rfl) rfl rfl (.inl rfl)
  ·
   replace hm := iteF hm hs17
   refine wO rfl (wO rfl (wO rfl (wO rfl (wO rfl (wP rfl (wP rfl (wl_nil (we_then (wc_keep [4] (S' := [_]) rfl (wc_ret ?_))))))))))
   have hE := (Option.some.inj hm).symm
   replace hE := hE.symm
   subst hE
   refine ret_one (Hr := []) [] Tryz.results101 (res_tmp rfl) ⟨rfl, rfl, rfl⟩ (asK [] rfl) rfl rfl (.inl rfl)
 ·
  replace hm := iteF hm hs10
  refine wO rfl (wO rfl (wO rfl (wO rfl (wO rfl (wP rfl (wP rfl (wO rfl (wO rfl (wO rfl (wO rfl (wO rfl (wP rfl (wP rfl ?_)))))))))))))
  refine wl_nil (we_then (wc_keep [4] (S' := [_]) rfl (wc_ret ?_)))
  have hE := (Option.some.inj hm).symm
  replace hE := hE.symm
  subst hE
  refine ret_one (Hr := []) [] Tryz.results101 (res_tmp rfl) ⟨rfl, rfl, rfl⟩ (asK [] rfl) rfl rfl (.inl rfl)
theorem w_ropewalkkit_SameFacts_s (N : Nat) (qp0 : Option Addr) (qc1 : Nat) (l0 : List FactD) (qp2 : Option Addr) (qc3 : Nat) (l1 : List FactD) (o0 : Bool) (hm : m_ropewalkkit_SameFacts N l0 l1 = some o0) : Spec Tryz.prog 59 [.slice qp0 l0.length qc1, .slice qp2 l1.length qc3] [.sli 3 R_FactD qp0 qc1 l0, .sli 3 R_FactD qp2 qc3 l1] [] (fun v Φr Hr => v = .bool o0 ∧ Φr = [] ∧ Hr = []) := by
 unfold m_ropewalkkit_SameFacts at hm
 refine spec_of Tryz.func59 rfl Tryz.ntmps59 rfl (S := [_,_]) rfl (fun C => (wc_seq (wc_region (wP rfl (wl_nil (we_then (wc_keep [0,1] (S' := [_,_]) rfl (wc_seq (wc_seq (wc_region (wP rfl (wN rfl tE_26 (wP rfl (wN rfl tE_26 ?_))))))))))))))
 refine wP rfl (wl_as (d := 10) (v' := .bool (l0.length != l1.length)) (S' := [_,_,_,_,_,_]) rfl rfl (natne (a := l0.length) (b := l1.length)) (wl_nil (we_then (wc_keep [10,0,1] (S' := [_,_,_]) rfl ?_))))
 refine wc_cond rfl (fun hb10 => ?_) (fun hb10 => ?_)
 ·
  replace hm := iteT hm hb10
  refine wc_keep [] (S' := []) rfl (wc_seq (wc_region (wP rfl (wl_nil (we_then (wc_ret (we_then_ret ?_)))))))
  have hE := (Option.some.inj hm).symm
  replace hE := hE.symm
  subst hE
  refine ret_one (Hr := []) [] Tryz.results59 (res_tmp rfl) ⟨rfl, rfl, rfl⟩ (asK [] rfl) rfl rfl (.inl rfl)
 ·
  replace hm := iteF hm hb10
  refine wc_keep [0,1] (S' := [_,_]) rfl (wc_skip (we_then (wc_seq ?_)))
  obtain ⟨bj_1, hm, hLj_1⟩ := bindS_some hm
  refine wc_cut (σ := Unit) (fun _ => bj_1 = .inl ()) (fun _ => []) (fun _ => []) (fun _ => []) ?_ ?_
  ·
   refine wc_seq (wc_region (wP rfl (wl_nil (we_then (wc_block (wc_loop (σ := Nat × Nat) (fun (nu1, u1_5) => iter (m_ropewalkkit_SameFacts_L1 N l0 l1) nu1 u1_5 = some bj_1) (fun (nu1, u1_5) => nu1) (fun (nu1, u1_5) => [(5, .int .i64 ((u1_5 : Nat) : Int)), (0, .slice qp0 l0.length qc1), (1, .slice qp2 l1.length qc3)]) (fun (nu1, u1_5) => [.sli 3 R_FactD qp0 qc1 l0, .sli 3 R_FactD qp2 qc3 l1]) (fun (nu1, u1_5) => []) (N, 0) hm [5,0,1] rfl (asK [0,1] rfl) rfl (fun s_ hm => ?_)))))))
   obtain ⟨nu1, u1_5⟩ := s_
   try dsimp only at hm ⊢
   obtain ⟨mu1, bu1, hnu1, hq, hLu1⟩ := iter_some hm
   clear hm
   subst hnu1
   replace hm := hq
   clear hq
   unfold m_ropewalkkit_SameFacts_L1 at hm
   try dsimp only at hm
   refine wc_seq (wc_seq (wc_region (wP rfl (wP rfl (wN rfl tE_26 (wP rfl (wl_as (d := 14) (v' := .bool (decide (u1_5 < l0.length))) (S' := [_,_,_,_,_,_]) rfl rfl (natlt (a := u1_5) (b := l0.length)) (wl_nil (we_then (wc_keep [14,5,0,1] (S' := [_,_,_,_]) rfl ?_))))))))))
   refine wc_cond rfl (fun hb14 => ?_) (fun hb14 => ?_)
   ·
    replace hm := iteT hm hb14
    refine wc_keep [5,0,1] (S' := [_,_,_]) rfl (wc_skip (we_then (wc_seq (wc_block (wc_seq ?_)))))
    obtain ⟨x19, hx19, hm⟩ := bindO_some hm
    obtain ⟨x23, hx23, hm⟩ := bindO_some hm
    obtain ⟨v25, hc25, hm⟩ := bindO_some hm
    refine wc_draw [0,1,2,3,4,5,6,7,9] rfl rfl (fun hok => (xP hok 0 rfl (xP hok 1 rfl (wx_indexA hok 2 0 u1_5 rfl rfl rfl (freshS_eq rfl) rfl rfl rfl rfl rfl rfl hx19 tE_26 tS_55 (fun b19 q19 cs19 hlx19 => (wx_openR R_FactD_opens 1 rfl (fun r19 er19 _ => ?_)))))))
    subst er19
    refine wx_load hok 3 1 0 rfl rfl rfl (freshS_eq rfl) rfl rfl rfl rfl (cs := [_,_,_]) rfl tS_55 tA_55 rfl rfl (xP hok 4 rfl (xP hok 5 rfl (wx_indexA hok 6 4 u1_5 rfl rfl rfl (freshS_eq rfl) rfl rfl rfl rfl rfl rfl hx23 tE_26 tS_55 (fun b23 q23 cs23 hlx23 => (wx_openR R_FactD_opens 1 rfl (fun r23 er23 _ => ?_))))))
    subst er23
    refine wx_load hok 7 1 0 rfl rfl rfl (freshS_eq rfl) rfl rfl rfl rfl (cs := [_,_,_]) rfl tS_55 tA_55 rfl rfl (xS hok 8 rfl (wC [] [] rfl fn_101 rfl (w_ropewalkkit_SameFact_s N x19.id x19.ty r19.1 r19.2 x19.args x23.id x23.ty r23.1 r23.2 x23.args _ hc25) (asK [3,0] rfl) rfl (H' := []) rfl ?_))
    rintro _ _ _ ⟨rfl, rfl, rfl⟩
    refine wl_nil (we_x [0,1,2,3,4,5,6,7] [] rfl rfl (xP hok 9 rfl (wx_done hok rfl (we_then (wc_keep [26,5,0,1] (S' := [_,_,_,_]) rfl ?_)))))
    refine wc_cond rfl (fun hb26 => ?_) (fun hb26 => ?_)
    ·
     replace hm := iteT hm hb26
     refine wc_keep [] (S' := []) rfl (wc_seq (wc_region (wP rfl (wl_nil (we_then (wc_ret (we_block_ret (we_then_ret (we_then_ret (we_block_ret (we_then_ret ?_)))))))))))
     have hE := (Option.some.inj hm).symm
     replace hE := link_inr hLu1 hE
     replace hE := link_inr hLj_1 hE
     replace hE := hE.symm
     subst hE
     refine ret_one (Hr := []) [] Tryz.results59 (res_tmp rfl) ⟨rfl, rfl, rfl⟩ (asK [] rfl) rfl rfl (.inl rfl)
    ·
     replace hm := iteF hm hb26
     refine wc_keep [5,0,1] (S' := [_,_,_]) rfl (wc_skip (we_block_normal (we_then (wc_region (wP rfl (wP rfl ?_))))))
     obtain ⟨hg16, hm⟩ := gd_some hm
     refine wl_as (d := 16) (v' := .int .i64 ((u1_5 + 1 : Nat) : Int)) (S' := [_,_,_,_]) rfl rfl (nat_add (a := u1_5) (b := 1) hg16) (wl_pure (S' := [_,_,_,_]) rfl rfl rfl rfl rfl (wl_nil ?_))
     have hE := (Option.some.inj hm).symm
     replace hE := link_inl hLu1 hE
     refine we_roundK (_, u1_5 + 1) (Nat.lt_succ_self _) hE [5,0,1] rfl (asK [6,7] rfl) rfl
   ·
    replace hm := iteF hm hb14
    refine wc_keep [] (S' := []) rfl (wc_exit (we_then_exit (we_then_exit (we_block_hit ?_))))
    have hE := (Option.some.inj hm).symm
    replace hE := link_inr hLu1 hE
    refine we_join () hE [] rfl (asK [] rfl) rfl
  ·
   rintro _ hE
   try dsimp only
   have hm := link_inl hLj_1 hE
   try dsimp only at hm
   refine wc_seq (wc_region (wP rfl (wl_nil (we_then (wc_ret ?_)))))
   have hE := (Option.some.inj hm).symm
   replace hE := hE.symm
   subst hE
   refine ret_one (Hr := []) [] Tryz.results59 (res_tmp rfl) ⟨rfl, rfl, rfl⟩ (asK [] rfl) rfl rfl (.inl rfl)
theorem w_ropewalkkit_SameReply_s (N : Nat) (a0 : Int) (a1 : Int) (qp0 : Option Addr) (qc1 : Nat) (l2 : List FactD) (qp2 : Option Addr) (qc3 : Nat) (l3 : List V) (a4 : Int) (a5 : Int) (qp4 : Option Addr) (qc5 : Nat) (l6 : List FactD) (qp6 : Option Addr) (qc7 : Nat) (l7 : List V) (o0 : Bool) (hm : m_ropewalkkit_SameReply N a0 a1 l2 l3 a4 a5 l6 l7 = some o0) : Spec Tryz.prog 38 [.agg #[.int .i64 a0, .int .i64 a1, .slice qp0 l2.length qc1, .slice qp2 l3.length qc3], .agg #[.int .i64 a4, .int .i64 a5, .slice qp4 l6.length qc5, .slice qp6 l7.length qc7]] [.sli 3 R_FactD qp0 qc1 l2, .sli 3 R_V qp2 qc3 l3, .sli 3 R_FactD qp4 qc5 l6, .sli 3 R_V qp6 qc7 l7] [] (fun v Φr Hr => v = .bool o0 ∧ Φr = [] ∧ Hr = []) := by
 unfold m_ropewalkkit_SameReply at hm
 refine spec_of Tryz.func38 rfl Tryz.ntmps38 rfl (S := [_,_]) rfl (fun C => (wc_seq (wc_region (wB rfl (fun g2 => (wB rfl (fun g3 => (wP rfl (wl_nil (we_then (wc_keep [3,2] (S' := [_,_]) rfl (wc_seq ?_))))))))))))
 obtain ⟨bj_1, hm, hLj_1⟩ := bindO_some hm
 unfold m_ropewalkkit_SameReply_C1 at hm
 refine wc_cut (σ := Bool) (fun j_1_4 => bj_1 = j_1_4) (fun j_1_4 => [(4, .bool j_1_4)]) (fun j_1_4 => []) (fun j_1_4 => []) ?_ ?_
 ·
  refine wc_region (wF rfl tF_29_0 (wD 1 0 rfl tS_25 tA_25 rfl (wF rfl tF_29_0 (wD 0 0 rfl tS_25 tA_25 rfl (wP rfl (wP rfl ?_))))))
  refine wl_split (d := 10) (S' := [_,_,_,_,_,_,_]) rfl rfl (fun hs10 => ?_) (fun hs10 => ?_)
  ·
   replace hm := iteT hm hs10
   refine wF rfl tF_29_1 (wD 1 1 rfl tS_3 tA_3 rfl (wF rfl tF_29_1 (wD 0 1 rfl tS_3 tA_3 rfl (wP rfl (wP rfl (wP rfl ?_))))))
   refine wl_split (d := 17) (S' := [_,_,_,_,_,_,_,_,_,_,_,_,_,_]) rfl rfl (fun hs17 => ?_) (fun hs17 => ?_)
   ·
    replace hm := iteT hm hs17
    refine wF rfl tF_29_2 (wD 1 2 rfl tS_26 tA_26 rfl (wF rfl tF_29_2 (wD 0 2 rfl tS_26 tA_26 rfl ?_)))
    obtain ⟨v22, hc22, hm⟩ := bindO_some hm
    refine wC [] [0,1] rfl fn_59 rfl (w_ropewalkkit_SameFacts_s N qp0 qc1 l2 qp4 qc5 l6 _ hc22) (asK [0,2] rfl) rfl (H' := [_,_]) rfl ?_
    rintro _ _ _ ⟨rfl, rfl, rfl⟩
    refine wP rfl (wP rfl ?_)
    refine wl_split (d := 24) (S' := [_,_,_,_,_,_,_,_,_,_,_,_,_,_,_,_,_,_,_,_,_]) rfl rfl (fun hs24 => ?_) (fun hs24 => ?_)
    ·
     replace hm := iteT hm hs24
     refine wF rfl tF_29_3 (wD 1 3 rfl tS_27 tA_27 rfl (wF rfl tF_29_3 (wD 0 3 rfl tS_27 tA_27 rfl ?_)))
     obtain ⟨v29, hc29, hm⟩ := bindO_some hm
     refine wC [] [0,1] rfl fn_60 rfl (w_ropewalkkit_SameValues_s N qp2 qc3 l3 qp6 qc7 l7 _ hc29) (asK [1,3] rfl) rfl (H' := [_,_]) rfl ?_
     rintro _ _ _ ⟨rfl, rfl, rfl⟩
     refine wP rfl (wP rfl (wl_nil ?_))
     have hE := (Option.some.inj hm).symm
     refine we_pick [] rfl (H' := []) rfl ?_
     refine we_join v29 hE [4] rfl (asK [] rfl) rfl
    ·
     replace hm := iteF hm hs24
     refine wO rfl (wO rfl (wO rfl (wO rfl (wO rfl (wP rfl (wP rfl (wl_nil ?_)))))))
     have hE := (Option.some.inj hm).symm
     refine we_pick [] rfl (H' := []) rfl ?_
     refine we_join false hE [4] rfl (asK [] rfl) rfl
   ·
    replace hm := iteF hm hs17
    refine wO rfl (wO rfl (wO rfl (wO rfl (wO rfl (wP rfl (wP rfl (wO rfl (wO rfl (wO rfl (wO rfl (wO rfl (wP rfl (wP rfl ?_)))))))))))))
    refine wl_nil ?_
    have hE := (Option.some.inj hm).symm
    refine we_pick [] rfl (H' := []) rfl ?_
    refine we_join false hE [4] rfl (asK [] rfl) rfl
  ·
   replace hm := iteF hm hs10
   refine wO rfl (wO rfl (wO rfl (wO rfl (wO rfl (wP rfl (wP rfl (wO rfl (wO rfl (wO rfl (wO rfl (wO rfl (wP rfl (wP rfl ?_)))))))))))))
   refine wO rfl (wO rfl (wO rfl (wO rfl (wO rfl (wP rfl (wP rfl (wl_nil ?_)))))))
   have hE := (Option.some.inj hm).symm
   refine we_pick [] rfl (H' := []) rfl ?_
   refine we_join false hE [4] rfl (asK [] rfl) rfl
 ·
  rintro j_1_4 hE
  try dsimp only
  have hm := hLj_1
  rw [hE] at hm
  refine wc_ret ?_
  have hE := (Option.some.inj hm).symm
  replace hE := hE.symm
  subst hE
  refine ret_one (Hr := []) [] Tryz.results38 (res_tmp rfl) ⟨rfl, rfl, rfl⟩ (asK [] rfl) rfl rfl (.inl rfl)
theorem ap_putValues (g : Nat) (p6 : Option Addr) (c6 : Nat) (h6 : List Hdr) (p7 : Option Addr) (c7 : Nat) (h7 : List Hdr) (p19 : Option Addr) (c19 : Nat) (h19 : List Hdr) (p26 : Option Addr) (c26 : Nat) (h26 : List Hdr) (p : Option Addr) (n c : Nat) (hL6 : h6.length + 1 ≤ 1073741824) (hB6 : Bd h6) (hn : n ≤ 10000) : Spec Tryz.prog 146 [.pointer (some ⟨g, 0, none⟩), .slice p n c] [] [.blk g [.slice none 0 0, .slice none 0 0, .slice none 0 0, .slice none 0 0, .slice none 0 0, .slice none 0 0, .slice p6 h6.length c6, .slice p7 h7.length c7, .slice none 0 0, .slice none 0 0, .slice none 0 0, .slice none 0 0, .slice none 0 0, .slice none 0 0, .slice none 0 0, .slice none 0 0, .slice none 0 0, .slice none 0 0, .slice none 0 0, .slice p19 h19.length c19, .slice none 0 0, .slice none 0 0, .slice none 0 0, .slice none 0 0, .slice none 0 0, .slice none 0 0, .slice p26 h26.length c26, .slice none 0 0, .slice none 0 0] 109, .own 27 1 hdrR (.slice p6 h6.length c6) h6, flatF 149 3 (h6.map row0), flatF 149 3 ([row0 (p, n, c)])] (fun v Φr Hr => ∃ (q6 : Option Addr) (d6 : Nat) (k6 : List Hdr), k6.length ≤ h6.length + 1 ∧ Bd k6 ∧ k6 = h6 ++ ([(p, n, c)] : List Hdr) ∧ v = .tuple #[] ∧ Φr = [] ∧ Hr = [.blk g [.slice none 0 0, .slice none 0 0, .slice none 0 0, .slice none 0 0, .slice none 0 0, .slice none 0 0, .slice q6 k6.length d6, .slice p7 h7.length c7, .slice none 0 0, .slice none 0 0, .slice none 0 0, .slice none 0 0, .slice none 0 0, .slice none 0 0, .slice none 0 0, .slice none 0 0, .slice none 0 0, .slice none 0 0, .slice none 0 0, .slice p19 h19.length c19, .slice none 0 0, .slice none 0 0, .slice none 0 0, .slice none 0 0, .slice none 0 0, .slice none 0 0, .slice p26 h26.length c26, .slice none 0 0, .slice none 0 0] 109, .own 27 1 hdrR (.slice q6 k6.length d6) k6, flatF 149 3 (k6.map row0)]) := by
 refine spec_of Tryz.func146 rfl Tryz.ntmps146 rfl (S := [_,_]) rfl (fun C => (wc_region (wP rfl (wP rfl (wP rfl (wF rfl tF_109_6 (wD 0 6 rfl tS_87 tA_87 rfl (wP rfl (wl_buildSlice rfl rfl rfl (freshS_eq rfl) rfl tE_87 tS_27 tZ_27 rfl (zs := [.slice none 0 0]) (by kernel_rfl) rfl (out := [_]) rfl (fun g10 => (wl_appendH ([(p, n, c)] : List Hdr) 2 0 rfl rfl rfl (freshS_eq rfl) rfl rfl rfl rfl rfl (fun F w hφ => ⟨[_],[], rfl, rfl, rfl, rfl⟩) tE_87 tR_27 rfl rfl (by simp; omega) (by simp; omega) (H2 := fun p11 c11 => [.blk g10 [.slice p n c] 27, .blk g [.slice none 0 0, .slice none 0 0, .slice none 0 0, .slice none 0 0, .slice none 0 0, .slice none 0 0, .slice p6 h6.length c6, .slice p7 h7.length c7, .slice none 0 0, .slice none 0 0, .slice none 0 0, .slice none 0 0, .slice none 0 0, .slice none 0 0, .slice none 0 0, .slice none 0 0, .slice none 0 0, .slice none 0 0, .slice none 0 0, .slice p19 h19.length c19, .slice none 0 0, .slice none 0 0, .slice none 0 0, .slice none 0 0, .slice none 0 0, .slice none 0 0, .slice p26 h26.length c26, .slice none 0 0, .slice none 0 0] 109, .own 27 1 hdrR (.slice p11 ((h6 ++ ([(p, n, c)] : List Hdr)).length) c11) (h6 ++ ([(p, n, c)] : List Hdr)), flatF 149 3 (h6.map row0), flatF 149 3 ([row0 (p, n, c)])]) (fun _ _ => rfl) (fun p11 c11 => (wl_drop 0 rfl (H' := [_,_,_,_]) rfl (wP rfl (wF rfl tF_109_6 (wS 0 6 rfl tS_87 (all' := [_,_,_,_,_,_,_,_,_,_,_,_,_,_,_,_,_,_,_,_,_,_,_,_,_,_,_,_,_]) rfl (H' := [_,_,_,_]) rfl ?_))))))))))))))))
 refine wl_nil (we_sh [.blk g [.slice none 0 0, .slice none 0 0, .slice none 0 0, .slice none 0 0, .slice none 0 0, .slice none 0 0, .slice p11 ((h6 ++ ([(p, n, c)] : List Hdr)).length) c11, .slice p7 h7.length c7, .slice none 0 0, .slice none 0 0, .slice none 0 0, .slice none 0 0, .slice none 0 0, .slice none 0 0, .slice none 0 0, .slice none 0 0, .slice none 0 0, .slice none 0 0, .slice none 0 0, .slice p19 h19.length c19, .slice none 0 0, .slice none 0 0, .slice none 0 0, .slice none 0 0, .slice none 0 0, .slice none 0 0, .slice p26 h26.length c26, .slice none 0 0, .slice none 0 0] 109, .own 27 1 hdrR (.slice p11 ((h6 ++ ([(p, n, c)] : List Hdr)).length) c11) (h6 ++ ([(p, n, c)] : List Hdr)), flatF 149 3 ((h6 ++ [(p, n, c)]).map row0)] (fun _ h => h.flPush 2 3 rfl rfl rfl) (ret_none (Hr := [.blk g [.slice none 0 0, .slice none 0 0, .slice none 0 0, .slice none 0 0, .slice none 0 0, .slice none 0 0, .slice p11 ((h6 ++ ([(p, n, c)] : List Hdr)).length) c11, .slice p7 h7.length c7, .slice none 0 0, .slice none 0 0, .slice none 0 0, .slice none 0 0, .slice none 0 0, .slice none 0 0, .slice none 0 0, .slice none 0 0, .slice none 0 0, .slice none 0 0, .slice none 0 0, .slice p19 h19.length c19, .slice none 0 0, .slice none 0 0, .slice none 0 0, .slice none 0 0, .slice none 0 0, .slice none 0 0, .slice p26 h26.length c26, .slice none 0 0, .slice none 0 0] 109, .own 27 1 hdrR (.slice p11 ((h6 ++ ([(p, n, c)] : List Hdr)).length) c11) (h6 ++ ([(p, n, c)] : List Hdr)), flatF 149 3 ((h6 ++ [(p, n, c)]).map row0)]) [0,1,2] Tryz.results146 ?_ (asK [] rfl) rfl rfl (.inr rfl)))
 exact ⟨_,_,_, by simp, hB6.push hn, rfl, rfl, rfl, rfl⟩
theorem ap_oneFact (g : Nat) (p6 : Option Addr) (c6 : Nat) (h6 : List Hdr) (p7 : Option Addr) (c7 : Nat) (h7 : List Hdr) (p19 : Option Addr) (c19 : Nat) (h19 : List Hdr) (p26 : Option Addr) (c26 : Nat) (h26 : List Hdr) (a0 : Int) (a1 : Int) (p_2 : Option Addr) (n_2 c_2 : Nat) (hL6 : h6.length + 1 ≤ 1073741824) (hB6 : Bd h6) (b_2 : n_2 ≤ 10000) : Spec Tryz.prog 158 [.pointer (some ⟨g, 0, none⟩), .agg #[.int .i64 a0, .int .i64 a1, .slice p_2 n_2 c_2]] [] [.blk g [.slice none 0 0, .slice none 0 0, .slice none 0 0, .slice none 0 0, .slice none 0 0, .slice none 0 0, .slice p6 h6.length c6, .slice p7 h7.length c7, .slice none 0 0, .slice none 0 0, .slice none 0 0, .slice none 0 0, .slice none 0 0, .slice none 0 0, .slice none 0 0, .slice none 0 0, .slice none 0 0, .slice none 0 0, .slice none 0 0, .slice p19 h19.length c19, .slice none 0 0, .slice none 0 0, .slice none 0 0, .slice none 0 0, .slice none 0 0, .slice none 0 0, .slice p26 h26.length c26, .slice none 0 0, .slice none 0 0] 109, .own 27 1 hdrR (.slice p6 h6.length c6) h6, flatF 149 3 (h6.map row0), flatF 149 3 ([row0 (p_2, n_2, c_2)])] (fun v Φr Hr => ∃ (q6 : Option Addr) (d6 : Nat) (k6 : List Hdr), k6.length ≤ h6.length + 1 ∧ Bd k6 ∧ v = .tuple #[] ∧ Φr = [] ∧ Hr = [.blk g [.slice none 0 0, .slice none 0 0, .slice none 0 0, .slice none 0 0, .slice none 0 0, .slice none 0 0, .slice q6 k6.length d6, .slice p7 h7.length c7, .slice none 0 0, .slice none 0 0, .slice none 0 0, .slice none 0 0, .slice none 0 0, .slice none 0 0, .slice none 0 0, .slice none 0 0, .slice none 0 0, .slice none 0 0, .slice none 0 0, .slice p19 h19.length c19, .slice none 0 0, .slice none 0 0, .slice none 0 0, .slice none 0 0, .slice none 0 0, .slice none 0 0, .slice p26 h26.length c26, .slice none 0 0, .slice none 0 0] 109, .own 27 1 hdrR (.slice q6 k6.length d6) k6, flatF 149 3 (k6.map row0)]) := by
 refine spec_of Tryz.func158 rfl Tryz.ntmps158 rfl (S := [_,_]) rfl (fun C => (wc_seq (wc_region (wB rfl (fun g3 => (wl_nil (we_then (wc_region (wP rfl (wF rfl tF_55_2 (wD 0 2 rfl tS_27 tA_27 rfl (wC [1,2,3,4] [0] rfl fn_146 rfl (ap_putValues _ p6 c6 h6 p7 c7 h7 p19 c19 h19 p26 c26 h26 p_2 n_2 c_2 (by omega) hB6 b_2) (asK [] rfl) rfl (H' := [_]) rfl ?_))))))))))))
 rintro _ _ _ ⟨q6_1, d6_1, k6_1, hl6_1, hb6_1, hx_1, rfl, rfl, rfl⟩
 refine wl_nil (ret_none (Hr := [.blk g [.slice none 0 0, .slice none 0 0, .slice none 0 0, .slice none 0 0, .slice none 0 0, .slice none 0 0, .slice q6_1 k6_1.length d6_1, .slice p7 h7.length c7, .slice none 0 0, .slice none 0 0, .slice none 0 0, .slice none 0 0, .slice none 0 0, .slice none 0 0, .slice none 0 0, .slice none 0 0, .slice none 0 0, .slice none 0 0, .slice none 0 0, .slice p19 h19.length c19, .slice none 0 0, .slice none 0 0, .slice none 0 0, .slice none 0 0, .slice none 0 0, .slice none 0 0, .slice p26 h26.length c26, .slice none 0 0, .slice none 0 0] 109, .own 27 1 hdrR (.slice q6_1 k6_1.length d6_1) k6_1, flatF 149 3 (k6_1.map row0)]) [0,1,2] Tryz.results158 ?_ (asK [] rfl) rfl rfl (.inr rfl))
 exact ⟨_,_,_, by have := hl6_1; omega, hb6_1, rfl, rfl, rfl⟩
theorem ap_putFacts (g : Nat) (p6 : Option Addr) (c6 : Nat) (h6 : List Hdr) (p7 : Option Addr) (c7 : Nat) (h7 : List Hdr) (p19 : Option Addr) (c19 : Nat) (h19 : List Hdr) (p26 : Option Addr) (c26 : Nat) (h26 : List Hdr) (p : Option Addr) (c : Nat) (xs : List FactD) (hL6 : h6.length + 10000 ≤ 1073741824) (hB6 : Bd h6) (hL7 : h7.length + 1 ≤ 1073741824) (hB7 : Bd h7) (hn : xs.length ≤ 10000) (hx : ∀ y ∈ xs, sz_FactD y) : Spec Tryz.prog 145 [.pointer (some ⟨g, 0, none⟩), .slice p xs.length c] [] [.blk g [.slice none 0 0, .slice none 0 0, .slice none 0 0, .slice none 0 0, .slice none 0 0, .slice none 0 0, .slice p6 h6.length c6, .slice p7 h7.length c7, .slice none 0 0, .slice none 0 0, .slice none 0 0, .slice none 0 0, .slice none 0 0, .slice none 0 0, .slice none 0 0, .slice none 0 0, .slice none 0 0, .slice none 0 0, .slice none 0 0, .slice p19 h19.length c19, .slice none 0 0, .slice none 0 0, .slice none 0 0, .slice none 0 0, .slice none 0 0, .slice none 0 0, .slice p26 h26.length c26, .slice none 0 0, .slice none 0 0] 109, .own 27 1 hdrR (.slice p6 h6.length c6) h6, flatF 149 3 (h6.map row0), .own 26 1 hdrR (.slice p7 h7.length c7) h7, flatF 55 3 (h7.map row0), treeF T_FactD 55 3 (.slice p xs.length c) xs] (fun v Φr Hr => ∃ (q6 : Option Addr) (d6 : Nat) (k6 : List Hdr) (q7 : Option Addr) (d7 : Nat) (k7 : List Hdr), k6.length ≤ h6.length + 10000 ∧ Bd k6 ∧ k7.length ≤ h7.length + 1 ∧ Bd k7 ∧ v = .tuple #[] ∧ Φr = [] ∧ Hr = [.blk g [.slice none 0 0, .slice none 0 0, .slice none 0 0, .slice none 0 0, .slice none 0 0, .slice none 0 0, .slice q6 k6.length d6, .slice q7 k7.length d7, .slice none 0 0, .slice none 0 0, .slice none 0 0, .slice none 0 0, .slice none 0 0, .slice none 0 0, .slice none 0 0, .slice none 0 0, .slice none 0 0, .slice none 0 0, .slice none 0 0, .slice p19 h19.length c19, .slice none 0 0, .slice none 0 0, .slice none 0 0, .slice none 0 0, .slice none 0 0, .slice none 0 0, .slice p26 h26.length c26, .slice none 0 0, .slice none 0 0] 109, .own 27 1 hdrR (.slice q6 k6.length d6) k6, flatF 149 3 (k6.map row0), .own 26 1 hdrR (.slice q7 k7.length d7) k7, flatF 55 3 (k7.map row0)]) := by
 refine spec_of Tryz.func145 rfl Tryz.ntmps145 rfl (S := [_,_]) rfl (fun C => (wc_seq (wc_region (wl_treeOut 5 rfl (fun zz hz0 => ?_)))))
 have hzl : zz.length = xs.length := pair_len hz0
 refine wP rfl (wP rfl (wP rfl (wF rfl tF_109_7 (wD 1 7 rfl tS_88 tA_88 rfl (wP rfl (wl_buildSlice rfl rfl rfl (freshS_eq rfl) rfl tE_88 tS_26 tZ_26 rfl (zs := [.slice none 0 0]) (by kernel_rfl) rfl (out := [_]) rfl (fun g11 => (wl_appendH ([(p, xs.length, c)] : List Hdr) 5 0 rfl rfl rfl (freshS_eq rfl) rfl rfl rfl rfl rfl (fun F w hφ => ⟨[_],[], rfl, rfl, rfl, rfl⟩) tE_88 tR_26 rfl rfl (by simp; omega) (by simp; omega) (H2 := fun p12 c12 => [.blk g11 [.slice p xs.length c] 26, bagF T_FactD (zz.drop 0) none, .blk g [.slice none 0 0, .slice none 0 0, .slice none 0 0, .slice none 0 0, .slice none 0 0, .slice none 0 0, .slice p6 h6.length c6, .slice p7 h7.length c7, .slice none 0 0, .slice none 0 0, .slice none 0 0, .slice none 0 0, .slice none 0 0, .slice none 0 0, .slice none 0 0, .slice none 0 0, .slice none 0 0, .slice none 0 0, .slice none 0 0, .slice p19 h19.length c19, .slice none 0 0, .slice none 0 0, .slice none 0 0, .slice none 0 0, .slice none 0 0, .slice none 0 0, .slice p26 h26.length c26, .slice none 0 0, .slice none 0 0] 109, .own 27 1 hdrR (.slice p6 h6.length c6) h6, flatF 149 3 (h6.map row0), .own 26 1 hdrR (.slice p12 ((h7 ++ ([(p, xs.length, c)] : List Hdr)).length) c12) (h7 ++ ([(p, xs.length, c)] : List Hdr)), flatF 55 3 (h7.map row0), .own 55 3 T_FactD.pair (.slice p xs.length c) zz]) (fun _ _ => rfl) (fun p12 c12 => (wl_drop 0 rfl (H' := [_,_,_,_,_,_,_]) rfl (wP rfl (wF rfl tF_109_7 (wS 1 7 rfl tS_88 (all' := [_,_,_,_,_,_,_,_,_,_,_,_,_,_,_,_,_,_,_,_,_,_,_,_,_,_,_,_,_]) rfl (H' := [_,_,_,_,_,_,_]) rfl (wl_nil (we_then ?_)))))))))))))))
 refine wc_keep [0,1] (S' := [_,_]) rfl (wc_seq (wc_region (wP rfl (wl_nil (we_then (wc_block (wc_loop (σ := Option Addr × Nat × List Hdr × Nat) (fun s => s.2.2.2 ≤ xs.length ∧ s.2.2.1.length ≤ h6.length + s.2.2.2 * 1 ∧ Bd s.2.2.1) (fun s => xs.length - s.2.2.2) (fun s => [(4, .int .i64 ((s.2.2.2 : Nat) : Int)), (0, .pointer (some ⟨g, 0, none⟩)), (1, .slice p xs.length c)]) (fun s => []) (fun s => [bagF T_FactD (zz.drop s.2.2.2) none, .blk g [.slice none 0 0, .slice none 0 0, .slice none 0 0, .slice none 0 0, .slice none 0 0, .slice none 0 0, .slice s.1 s.2.2.1.length s.2.1, .slice p12 ((h7 ++ ([(p, xs.length, c)] : List Hdr)).length) c12, .slice none 0 0, .slice none 0 0, .slice none 0 0, .slice none 0 0, .slice none 0 0, .slice none 0 0, .slice none 0 0, .slice none 0 0, .slice none 0 0, .slice none 0 0, .slice none 0 0, .slice p19 h19.length c19, .slice none 0 0, .slice none 0 0, .slice none 0 0, .slice none 0 0, .slice none 0 0, .slice none 0 0, .slice p26 h26.length c26, .slice none 0 0, .slice none 0 0] 109, .own 27 1 hdrR (.slice s.1 s.2.2.1.length s.2.1) s.2.2.1, flatF 149 3 (s.2.2.1.map row0), .own 26 1 hdrR (.slice p12 ((h7 ++ ([(p, xs.length, c)] : List Hdr)).length) c12) (h7 ++ ([(p, xs.length, c)] : List Hdr)), flatF 55 3 (h7.map row0), .own 55 3 T_FactD.pair (.slice p xs.length c) zz]) (p6, c6, h6,0) ⟨Nat.zero_le _, Nat.le_add_right _ _, hB6⟩ [4,0,1] rfl (asK [] rfl) rfl (fun s1 oks1 => (wc_seq (wc_seq (wc_region (wP rfl (wP rfl (wN rfl tE_26 ?_))))))))))))))
 refine wP rfl (wl_nil (we_then (wc_keep [18,4,0,1] (S' := [_,_,_,_]) rfl ?_)))
 refine wc_cond rfl (fun h18 => ?_) (fun h18 => ?_)
 ·
  replace h18 := of_decide_eq_true h18
  have hi1 : s1.2.2.2 < zz.length := by omega
  obtain ⟨z1, hz1⟩ : ∃ z, zz[s1.2.2.2]? = some z := ⟨_, List.getElem?_eq_getElem hi1⟩
  have hxs := hx z1.1 (by rw [← hz0]; exact List.mem_map_of_mem (List.mem_of_getElem? hz1))
  unfold sz_FactD at hxs
  obtain ⟨hi2, hl6, hb6⟩ := oks1
  refine wc_skip (we_then (wc_seq (wc_block (wc_region (wP rfl (wP rfl (wP rfl (wl_indexH 6 s1.2.2.2 rfl rfl rfl (freshS_eq rfl) rfl rfl rfl rfl rfl hi1 tE_26 tS_55 (fun g24 eg24 => ?_)))))))))
  subst eg24
  refine wl_loadRow pair_opens 6 s1.2.2.2 0 rfl rfl rfl (freshS_eq rfl) rfl rfl rfl hz1 tS_55 tA_55 (v := fun _ => .agg #[.int .i64 (z1.1.id), .int .i64 (z1.1.ty), .slice z1.2.1 z1.1.args.length z1.2.2]) (fun _ => rfl) (fun _ => rfl) (fun _ _ => (wl_sh [.own 149 3 R_V (.slice z1.2.1 z1.1.args.length z1.2.2) z1.1.args, bagF T_FactD (zz.drop (s1.2.2.2 + 1)) none, .blk g [.slice none 0 0, .slice none 0 0, .slice none 0 0, .slice none 0 0, .slice none 0 0, .slice none 0 0, .slice s1.1 s1.2.2.1.length s1.2.1, .slice p12 ((h7 ++ ([((some ⟨g24,0, none⟩), xs.length, c)] : List Hdr)).length) c12, .slice none 0 0, .slice none 0 0, .slice none 0 0, .slice none 0 0, .slice none 0 0, .slice none 0 0, .slice none 0 0, .slice none 0 0, .slice none 0 0, .slice none 0 0, .slice none 0 0, .slice p19 h19.length c19, .slice none 0 0, .slice none 0 0, .slice none 0 0, .slice none 0 0, .slice none 0 0, .slice none 0 0, .slice p26 h26.length c26, .slice none 0 0, .slice none 0 0] 109, .own 27 1 hdrR (.slice s1.1 s1.2.2.1.length s1.2.1) s1.2.2.1, flatF 149 3 (s1.2.2.1.map row0), .own 26 1 hdrR (.slice p12 ((h7 ++ ([((some ⟨g24,0, none⟩), xs.length, c)] : List Hdr)).length) c12) (h7 ++ ([((some ⟨g24,0, none⟩), xs.length, c)] : List Hdr)), flatF 55 3 (h7.map row0), .own 55 3 T_FactD.pair (.slice (some ⟨g24,0, none⟩) xs.length c) zz] (fun _ h => h.bagUncons 0 rfl hz1) (wl_sh [flatF 149 3 ([row0 (z1.2.1, z1.1.args.length, z1.2.2)]), bagF T_FactD (zz.drop (s1.2.2.2 + 1)) none, .blk g [.slice none 0 0, .slice none 0 0, .slice none 0 0, .slice none 0 0, .slice none 0 0, .slice none 0 0, .slice s1.1 s1.2.2.1.length s1.2.1, .slice p12 ((h7 ++ ([((some ⟨g24,0, none⟩), xs.length, c)] : List Hdr)).length) c12, .slice none 0 0, .slice none 0 0, .slice none 0 0, .slice none 0 0, .slice none 0 0, .slice none 0 0, .slice none 0 0, .slice none 0 0, .slice none 0 0, .slice none 0 0, .slice none 0 0, .slice p19 h19.length c19, .slice none 0 0, .slice none 0 0, .slice none 0 0, .slice none 0 0, .slice none 0 0, .slice none 0 0, .slice p26 h26.length c26, .slice none 0 0, .slice none 0 0] 109, .own 27 1 hdrR (.slice s1.1 s1.2.2.1.length s1.2.1) s1.2.2.1, flatF 149 3 (s1.2.2.1.map row0), .own 26 1 hdrR (.slice p12 ((h7 ++ ([((some ⟨g24,0, none⟩), xs.length, c)] : List Hdr)).length) c12) (h7 ++ ([((some ⟨g24,0, none⟩), xs.length, c)] : List Hdr)), flatF 55 3 (h7.map row0), .own 55 3 T_FactD.pair (.slice (some ⟨g24,0, none⟩) xs.length c) zz] (fun _ h => h.flOne 0 rfl) (wC [2,3,4,0] [1,5,6,7] rfl fn_158 rfl (ap_oneFact _ s1.1 s1.2.1 s1.2.2.1 p12 c12 (h7 ++ ([((some ⟨g24,0, none⟩), xs.length, c)] : List Hdr)) p19 c19 h19 p26 c26 h26 z1.1.id z1.1.ty z1.2.1 z1.1.args.length z1.2.2 (by omega) hb6 hxs) (asK [] rfl) rfl (H' := [_,_,_,_]) rfl ?_))))
  rintro _ _ _ ⟨q6_1, d6_1, k6_1, hl6_1, hb6_1, rfl, rfl, rfl⟩
  refine wl_nil (we_block_normal (we_then (wc_region (wP rfl (wP rfl (wl_as (d := 20) (v' := .int .i64 ((s1.2.2.2 + 1 : Nat) : Int)) (S' := [_,_,_,_,_,_,_,_,_,_,_]) rfl rfl (nat_add (a := s1.2.2.2) (b := 1) (by omega)) (wl_pure (S' := [_,_,_,_,_,_,_,_,_,_,_]) rfl rfl rfl rfl rfl (wl_nil (we_pick [3,0,1,2,4,5,6] rfl (H' := [_,_,_,_,_,_,_]) rfl ?_)))))))))
  refine we_round (q6_1, d6_1, k6_1, s1.2.2.2 + 1) (by show xs.length - (s1.2.2.2 + 1) < xs.length - s1.2.2.2; omega) ⟨by show s1.2.2.2 + 1 ≤ _; omega, by have := hl6_1; show List.length (k6_1) ≤ _ + (s1.2.2.2 + 1) * _; omega, hb6_1⟩ [4,0,1] rfl (asK [] rfl) rfl
 ·
  replace h18 := of_decide_eq_false h18
  obtain ⟨hi2, hl6, hb6⟩ := oks1
  refine wc_exit (we_then_exit (we_then_exit (we_block_hit (we_sh [bagF T_FactD (zz.drop s1.2.2.2) none, .blk g [.slice none 0 0, .slice none 0 0, .slice none 0 0, .slice none 0 0, .slice none 0 0, .slice none 0 0, .slice s1.1 s1.2.2.1.length s1.2.1, .slice p12 ((h7 ++ ([(p, xs.length, c)] : List Hdr)).length) c12, .slice none 0 0, .slice none 0 0, .slice none 0 0, .slice none 0 0, .slice none 0 0, .slice none 0 0, .slice none 0 0, .slice none 0 0, .slice none 0 0, .slice none 0 0, .slice none 0 0, .slice p19 h19.length c19, .slice none 0 0, .slice none 0 0, .slice none 0 0, .slice none 0 0, .slice none 0 0, .slice none 0 0, .slice p26 h26.length c26, .slice none 0 0, .slice none 0 0] 109, .own 27 1 hdrR (.slice s1.1 s1.2.2.1.length s1.2.1) s1.2.2.1, flatF 149 3 (s1.2.2.1.map row0), .own 26 1 hdrR (.slice p12 ((h7 ++ ([(p, xs.length, c)] : List Hdr)).length) c12) (h7 ++ ([(p, xs.length, c)] : List Hdr)), flatF 55 3 (h7.map row0), flatF 55 3 [row0 (p, xs.length, c)]] (fun _ h => by have h2 := h.flOne 6 rfl; exact h2) (we_sh [bagF T_FactD (zz.drop s1.2.2.2) none, .blk g [.slice none 0 0, .slice none 0 0, .slice none 0 0, .slice none 0 0, .slice none 0 0, .slice none 0 0, .slice s1.1 s1.2.2.1.length s1.2.1, .slice p12 ((h7 ++ ([(p, xs.length, c)] : List Hdr)).length) c12, .slice none 0 0, .slice none 0 0, .slice none 0 0, .slice none 0 0, .slice none 0 0, .slice none 0 0, .slice none 0 0, .slice none 0 0, .slice none 0 0, .slice none 0 0, .slice none 0 0, .slice p19 h19.length c19, .slice none 0 0, .slice none 0 0, .slice none 0 0, .slice none 0 0, .slice none 0 0, .slice none 0 0, .slice p26 h26.length c26, .slice none 0 0, .slice none 0 0] 109, .own 27 1 hdrR (.slice s1.1 s1.2.2.1.length s1.2.1) s1.2.2.1, flatF 149 3 (s1.2.2.1.map row0), .own 26 1 hdrR (.slice p12 ((h7 ++ ([(p, xs.length, c)] : List Hdr)).length) c12) (h7 ++ ([(p, xs.length, c)] : List Hdr)), flatF 55 3 ((h7 ++ [(p, xs.length, c)]).map row0)] (fun _ h => h.flPush 5 6 rfl rfl rfl) (ret_none (Hr := [.blk g [.slice none 0 0, .slice none 0 0, .slice none 0 0, .slice none 0 0, .slice none 0 0, .slice none 0 0, .slice s1.1 s1.2.2.1.length s1.2.1, .slice p12 ((h7 ++ ([(p, xs.length, c)] : List Hdr)).length) c12, .slice none 0 0, .slice none 0 0, .slice none 0 0, .slice none 0 0, .slice none 0 0, .slice none 0 0, .slice none 0 0, .slice none 0 0, .slice none 0 0, .slice none 0 0, .slice none 0 0, .slice p19 h19.length c19, .slice none 0 0, .slice none 0 0, .slice none 0 0, .slice none 0 0, .slice none 0 0, .slice none 0 0, .slice p26 h26.length c26, .slice none 0 0, .slice none 0 0] 109, .own 27 1 hdrR (.slice s1.1 s1.2.2.1.length s1.2.1) s1.2.2.1, flatF 149 3 (s1.2.2.1.map row0), .own 26 1 hdrR (.slice p12 ((h7 ++ ([(p, xs.length, c)] : List Hdr)).length) c12) (h7 ++ ([(p, xs.length, c)] : List Hdr)), flatF 55 3 ((h7 ++ [(p, xs.length, c)]).map row0)]) [1,2,3,4,5] Tryz.results145 ?_ (asK [] rfl) rfl rfl (.inr rfl)))))))
  exact ⟨_,_,_,_,_,_, by have h9 := hl6; have h8 : s1.2.2.2 * 1 ≤ 10000 * 1 := Nat.mul_le_mul_right _ (Nat.le_trans hi2 hn); omega, hb6, by simp, hB7.push hn, rfl, rfl, rfl⟩
theorem ap_oneReply (g : Nat) (p6 : Option Addr) (c6 : Nat) (h6 : List Hdr) (p7 : Option Addr) (c7 : Nat) (h7 : List Hdr) (p19 : Option Addr) (c19 : Nat) (h19 : List Hdr) (p26 : Option Addr) (c26 : Nat) (h26 : List Hdr) (a0 : Int) (a1 : Int) (p_2 : Option Addr) (c_2 : Nat) (l_2 : List FactD) (p_3 : Option Addr) (n_3 c_3 : Nat) (hL6 : h6.length + 10001 ≤ 1073741824) (hB6 : Bd h6) (hL7 : h7.length + 1 ≤ 1073741824) (hB7 : Bd h7) (b_2 : l_2.length ≤ 10000) (x_2 : ∀ y ∈ l_2, sz_FactD y) (b_3 : n_3 ≤ 10000) : Spec Tryz.prog 103 [.pointer (some ⟨g, 0, none⟩), .agg #[.int .i64 a0, .int .i64 a1, .slice p_2 l_2.length c_2, .slice p_3 n_3 c_3]] [] [.blk g [.slice none 0 0, .slice none 0 0, .slice none 0 0, .slice none 0 0, .slice none 0 0, .slice none 0 0, .slice p6 h6.length c6, .slice p7 h7.length c7, .slice none 0 0, .slice none 0 0, .slice none 0 0, .slice none 0 0, .slice none 0 0, .slice none 0 0, .slice none 0 0, .slice none 0 0, .slice none 0 0, .slice none 0 0, .slice none 0 0, .slice p19 h19.length c19, .slice none 0 0, .slice none 0 0, .slice none 0 0, .slice none 0 0, .slice none 0 0, .slice none 0 0, .slice p26 h26.length c26, .slice none 0 0, .slice none 0 0] 109, .own 27 1 hdrR (.slice p6 h6.length c6) h6, flatF 149 3 (h6.map row0), .own 26 1 hdrR (.slice p7 h7.length c7) h7, flatF 55 3 (h7.map row0), treeF T_FactD 55 3 (.slice p_2 l_2.length c_2) l_2, flatF 149 3 ([row0 (p_3, n_3, c_3)])] (fun v Φr Hr => ∃ (q6 : Option Addr) (d6 : Nat) (k6 : List Hdr) (q7 : Option Addr) (d7 : Nat) (k7 : List Hdr), k6.length ≤ h6.length + 10001 ∧ Bd k6 ∧ k7.length ≤ h7.length + 1 ∧ Bd k7 ∧ v = .tuple #[] ∧ Φr = [] ∧ Hr = [.blk g [.slice none 0 0, .slice none 0 0, .slice none 0 0, .slice none 0 0, .slice none 0 0, .slice none 0 0, .slice q6 k6.length d6, .slice q7 k7.length d7, .slice none 0 0, .slice none 0 0, .slice none 0 0, .slice none 0 0, .slice none 0 0, .slice none 0 0, .slice none 0 0, .slice none 0 0, .slice none 0 0, .slice none 0 0, .slice none 0 0, .slice p19 h19.length c19, .slice none 0 0, .slice none 0 0, .slice none 0 0, .slice none 0 0, .slice none 0 0, .slice none 0 0, .slice p26 h26.length c26, .slice none 0 0, .slice none 0 0] 109, .own 27 1 hdrR (.slice q6 k6.length d6) k6, flatF 149 3 (k6.map row0), .own 26 1 hdrR (.slice q7 k7.length d7) k7, flatF 55 3 (k7.map row0)]) := by
 refine spec_of Tryz.func103 rfl Tryz.ntmps103 rfl (S := [_,_]) rfl (fun C => (wc_seq (wc_region (wB rfl (fun g3 => (wl_nil (we_then (wc_seq (wc_region (wP rfl (wF rfl tF_29_2 (wD 0 2 rfl tS_26 tA_26 rfl (wC [1,2,3,4,5,6] [0,7] rfl fn_145 rfl (ap_putFacts _ p6 c6 h6 p7 c7 h7 p19 c19 h19 p26 c26 h26 p_2 c_2 l_2 (by omega) hB6 (by omega) hB7 b_2 x_2) (asK [] rfl) rfl (H' := [_,_]) rfl ?_)))))))))))))
 rintro _ _ _ ⟨q6_1, d6_1, k6_1, q7_1, d7_1, k7_1, hl6_1, hb6_1, hl7_1, hb7_1, rfl, rfl, rfl⟩
 refine wl_nil (we_then (wc_keep [3,0,1] (S' := [_,_,_]) rfl (wc_region (wP rfl (wF rfl tF_29_3 (wD 5 3 rfl tS_27 tA_27 rfl (wC [0,1,2,6] [3,4,5] rfl fn_146 rfl (ap_putValues _ q6_1 d6_1 k6_1 q7_1 d7_1 k7_1 p19 c19 h19 p26 c26 h26 p_3 n_3 c_3 (by omega) hb6_1 b_3) (asK [] rfl) rfl (H' := [_,_,_]) rfl ?_)))))))
 rintro _ _ _ ⟨q6_2, d6_2, k6_2, hl6_2, hb6_2, hx_2, rfl, rfl, rfl⟩
 refine wl_nil (ret_none (Hr := [.blk g [.slice none 0 0, .slice none 0 0, .slice none 0 0, .slice none 0 0, .slice none 0 0, .slice none 0 0, .slice q6_2 k6_2.length d6_2, .slice q7_1 k7_1.length d7_1, .slice none 0 0, .slice none 0 0, .slice none 0 0, .slice none 0 0, .slice none 0 0, .slice none 0 0, .slice none 0 0, .slice none 0 0, .slice none 0 0, .slice none 0 0, .slice none 0 0, .slice p19 h19.length c19, .slice none 0 0, .slice none 0 0, .slice none 0 0, .slice none 0 0, .slice none 0 0, .slice none 0 0, .slice p26 h26.length c26, .slice none 0 0, .slice none 0 0] 109, .own 27 1 hdrR (.slice q6_2 k6_2.length d6_2) k6_2, flatF 149 3 (k6_2.map row0), .own 26 1 hdrR (.slice q7_1 k7_1.length d7_1) k7_1, flatF 55 3 (k7_1.map row0)]) [0,1,2,3,4] Tryz.results103 ?_ (asK [] rfl) rfl rfl (.inr rfl))
 exact ⟨_,_,_,_,_,_, by have := hl6_1; have := hl6_2; omega, hb6_2, by have := hl7_1; omega, hb7_1, rfl, rfl, rfl⟩
theorem ap_putReplies (g : Nat) (p6 : Option Addr) (c6 : Nat) (h6 : List Hdr) (p7 : Option Addr) (c7 : Nat) (h7 : List Hdr) (p19 : Option Addr) (c19 : Nat) (h19 : List Hdr) (p26 : Option Addr) (c26 : Nat) (h26 : List Hdr) (p : Option Addr) (c : Nat) (xs : List ReplyD) (hL6 : h6.length + 100010000 ≤ 1073741824) (hB6 : Bd h6) (hL7 : h7.length + 10000 ≤ 1073741824) (hB7 : Bd h7) (hL19 : h19.length + 1 ≤ 1073741824) (hB19 : Bd h19) (hn : xs.length ≤ 10000) (hx : ∀ y ∈ xs, sz_ReplyD y) : Spec Tryz.prog 61 [.pointer (some ⟨g, 0, none⟩), .slice p xs.length c] [] [.blk g [.slice none 0 0, .slice none 0 0, .slice none 0 0, .slice none 0 0, .slice none 0 0, .slice none 0 0, .slice p6 h6.length c6, .slice p7 h7.length c7, .slice none 0 0, .slice none 0 0, .slice none 0 0, .slice none 0 0, .slice none 0 0, .slice none 0 0, .slice none 0 0, .slice none 0 0, .slice none 0 0, .slice none 0 0, .slice none 0 0, .slice p19 h19.length c19, .slice none 0 0, .slice none 0 0, .slice none 0 0, .slice none 0 0, .slice none 0 0, .slice none 0 0, .slice p26 h26.length c26, .slice none 0 0, .slice none 0 0] 109, .own 27 1 hdrR (.slice p6 h6.length c6) h6, flatF 149 3 (h6.map row0), .own 26 1 hdrR (.slice p7 h7.length c7) h7, flatF 55 3 (h7.map row0), .own 77 1 hdrR (.slice p19 h19.length c19) h19, flatF 29 4 (h19.map row0), treeF T_ReplyD 29 4 (.slice p xs.length c) xs] (fun v Φr Hr => ∃ (q6 : Option Addr) (d6 : Nat) (k6 : List Hdr) (q7 : Option Addr) (d7 : Nat) (k7 : List Hdr) (q19 : Option Addr) (d19 : Nat) (k19 : List Hdr), k6.length ≤ h6.length + 100010000 ∧ Bd k6 ∧ k7.length ≤ h7.length + 10000 ∧ Bd k7 ∧ k19.length ≤ h19.length + 1 ∧ Bd k19 ∧ v = .tuple #[] ∧ Φr = [] ∧ Hr = [.blk g [.slice none 0 0, .slice none 0 0, .slice none 0 0, .slice none 0 0, .slice none 0 0, .slice none 0 0, .slice q6 k6.length d6, .slice q7 k7.length d7, .slice none 0 0, .slice none 0 0, .slice none 0 0, .slice none 0 0, .slice none 0 0, .slice none 0 0, .slice none 0 0, .slice none 0 0, .slice none 0 0, .slice none 0 0, .slice none 0 0, .slice q19 k19.length d19, .slice none 0 0, .slice none 0 0, .slice none 0 0, .slice none 0 0, .slice none 0 0, .slice none 0 0, .slice p26 h26.length c26, .slice none 0 0, .slice none 0 0] 109, .own 27 1 hdrR (.slice q6 k6.length d6) k6, flatF 149 3 (k6.map row0), .own 26 1 hdrR (.slice q7 k7.length d7) k7, flatF 55 3 (k7.map row0), .own 77 1 hdrR (.slice q19 k19.length d19) k19, flatF 29 4 (k19.map row0)]) := by
 refine spec_of Tryz.func61 rfl Tryz.ntmps61 rfl (S := [_,_]) rfl (fun C => (wc_seq (wc_region (wl_treeOut 7 rfl (fun zz hz0 => ?_)))))
 have hzl : zz.length = xs.length := pair_len hz0
 refine wP rfl (wP rfl (wP rfl (wF rfl tF_109_19 (wD 1 19 rfl tS_78 tA_78 rfl (wP rfl (wl_buildSlice rfl rfl rfl (freshS_eq rfl) rfl tE_78 tS_77 tZ_77 rfl (zs := [.slice none 0 0]) (by kernel_rfl) rfl (out := [_]) rfl (fun g11 => (wl_appendH ([(p, xs.length, c)] : List Hdr) 7 0 rfl rfl rfl (freshS_eq rfl) rfl rfl rfl rfl rfl (fun F w hφ => ⟨[_],[], rfl, rfl, rfl, rfl⟩) tE_78 tR_77 rfl rfl (by simp; omega) (by simp; omega) (H2 := fun p12 c12 => [.blk g11 [.slice p xs.length c] 77, bagF T_ReplyD (zz.drop 0) none, .blk g [.slice none 0 0, .slice none 0 0, .slice none 0 0, .slice none 0 0, .slice none 0 0, .slice none 0 0, .slice p6 h6.length c6, .slice p7 h7.length c7, .slice none 0 0, .slice none 0 0, .slice none 0 0, .slice none 0 0, .slice none 0 0, .slice none 0 0, .slice none 0 0, .slice none 0 0, .slice none 0 0, .slice none 0 0, .slice none 0 0, .slice p19 h19.length c19, .slice none 0 0, .slice none 0 0, .slice none 0 0, .slice none 0 0, .slice none 0 0, .slice none 0 0, .slice p26 h26.length c26, .slice none 0 0, .slice none 0 0] 109, .own 27 1 hdrR (.slice p6 h6.length c6) h6, flatF 149 3 (h6.map row0), .own 26 1 hdrR (.slice p7 h7.length c7) h7, flatF 55 3 (h7.map row0), .own 77 1 hdrR (.slice p12 ((h19 ++ ([(p, xs.length, c)] : List Hdr)).length) c12) (h19 ++ ([(p, xs.length, c)] : List Hdr)), flatF 29 4 (h19.map row0), .own 29 4 T_ReplyD.pair (.slice p xs.length c) zz]) (fun _ _ => rfl) (fun p12 c12 => (wl_drop 0 rfl (H' := [_,_,_,_,_,_,_,_,_]) rfl (wP rfl (wF rfl tF_109_19 (wS 1 19 rfl tS_78 (all' := [_,_,_,_,_,_,_,_,_,_,_,_,_,_,_,_,_,_,_,_,_,_,_,_,_,_,_,_,_]) rfl (H' := [_,_,_,_,_,_,_,_,_]) rfl (wl_nil (we_then ?_)))))))))))))))
 refine wc_keep [0,1] (S' := [_,_]) rfl (wc_seq (wc_region (wP rfl (wl_nil (we_then (wc_block (wc_loop (σ := Option Addr × Nat × List Hdr × Option Addr × Nat × List Hdr × Nat) (fun s => s.2.2.2.2.2.2 ≤ xs.length ∧ s.2.2.1.length ≤ h6.length + s.2.2.2.2.2.2 * 10001 ∧ Bd s.2.2.1 ∧ s.2.2.2.2.2.1.length ≤ h7.length + s.2.2.2.2.2.2 * 1 ∧ Bd s.2.2.2.2.2.1) (fun s => xs.length - s.2.2.2.2.2.2) (fun s => [(4, .int .i64 ((s.2.2.2.2.2.2 : Nat) : Int)), (0, .pointer (some ⟨g, 0, none⟩)), (1, .slice p xs.length c)]) (fun s => []) (fun s => [bagF T_ReplyD (zz.drop s.2.2.2.2.2.2) none, .blk g [.slice none 0 0, .slice none 0 0, .slice none 0 0, .slice none 0 0, .slice none 0 0, .slice none 0 0, .slice s.1 s.2.2.1.length s.2.1, .slice s.2.2.2.1 s.2.2.2.2.2.1.length s.2.2.2.2.1, .slice none 0 0, .slice none 0 0, .slice none 0 0, .slice none 0 0, .slice none 0 0, .slice none 0 0, .slice none 0 0, .slice none 0 0, .slice none 0 0, .slice none 0 0, .slice none 0 0, .slice p12 ((h19 ++ ([(p, xs.length, c)] : List Hdr)).length) c12, .slice none 0 0, .slice none 0 0, .slice none 0 0, .slice none 0 0, .slice none 0 0, .slice none 0 0, .slice p26 h26.length c26, .slice none 0 0, .slice none 0 0] 109, .own 27 1 hdrR (.slice s.1 s.2.2.1.length s.2.1) s.2.2.1, flatF 149 3 (s.2.2.1.map row0), .own 26 1 hdrR (.slice s.2.2.2.1 s.2.2.2.2.2.1.length s.2.2.2.2.1) s.2.2.2.2.2.1, flatF 55 3 (s.2.2.2.2.2.1.map row0), .own 77 1 hdrR (.slice p12 ((h19 ++ ([(p, xs.length, c)] : List Hdr)).length) c12) (h19 ++ ([(p, xs.length, c)] : List Hdr)), flatF 29 4 (h19.map row0), .own 29 4 T_ReplyD.pair (.slice p xs.length c) zz]) (p6, c6, h6, p7, c7, h7,0) ⟨Nat.zero_le _, Nat.le_add_right _ _, hB6, Nat.le_add_right _ _, hB7⟩ [4,0,1] rfl (asK [] rfl) rfl (fun s1 oks1 => (wc_seq (wc_seq (wc_region (wP rfl (wP rfl (wN rfl tE_77 ?_))))))))))))))
 refine wP rfl (wl_nil (we_then (wc_keep [18,4,0,1] (S' := [_,_,_,_]) rfl ?_)))
 refine wc_cond rfl (fun h18 => ?_) (fun h18 => ?_)
 ·
  replace h18 := of_decide_eq_true h18
  have hi1 : s1.2.2.2.2.2.2 < zz.length := by omega
  obtain ⟨z1, hz1⟩ : ∃ z, zz[s1.2.2.2.2.2.2]? = some z := ⟨_, List.getElem?_eq_getElem hi1⟩
  have hxs := hx z1.1 (by rw [← hz0]; exact List.mem_map_of_mem (List.mem_of_getElem? hz1))
  unfold sz_ReplyD at hxs
  obtain ⟨hi2, hl6, hb6, hl7, hb7⟩ := oks1
  refine wc_skip (we_then (wc_seq (wc_block (wc_region (wP rfl (wP rfl (wP rfl (wl_indexH 8 s1.2.2.2.2.2.2 rfl rfl rfl (freshS_eq rfl) rfl rfl rfl rfl rfl hi1 tE_77 tS_29 (fun g24 eg24 => ?_)))))))))
  subst eg24
  refine wl_loadRow pair_opens 8 s1.2.2.2.2.2.2 0 rfl rfl rfl (freshS_eq rfl) rfl rfl rfl hz1 tS_29 tA_29 (v := fun _ => .agg #[.int .i64 (z1.1.err), .int .i64 (z1.1.num), .slice z1.2.1.1 z1.1.facts.length z1.2.1.2, .slice z1.2.2.1 z1.1.said.length z1.2.2.2]) (fun _ => rfl) (fun _ => rfl) (fun _ _ => (wl_sh [.own 149 3 R_V (.slice z1.2.2.1 z1.1.said.length z1.2.2.2) z1.1.said, treeF T_FactD 55 3 (.slice z1.2.1.1 z1.1.facts.length z1.2.1.2) z1.1.facts, bagF T_ReplyD (zz.drop (s1.2.2.2.2.2.2 + 1)) none, .blk g [.slice none 0 0, .slice none 0 0, .slice none 0 0, .slice none 0 0, .slice none 0 0, .slice none 0 0, .slice s1.1 s1.2.2.1.length s1.2.1, .slice s1.2.2.2.1 s1.2.2.2.2.2.1.length s1.2.2.2.2.1, .slice none 0 0, .slice none 0 0, .slice none 0 0, .slice none 0 0, .slice none 0 0, .slice none 0 0, .slice none 0 0, .slice none 0 0, .slice none 0 0, .slice none 0 0, .slice none 0 0, .slice p12 ((h19 ++ ([((some ⟨g24,0, none⟩), xs.length, c)] : List Hdr)).length) c12, .slice none 0 0, .slice none 0 0, .slice none 0 0, .slice none 0 0, .slice none 0 0, .slice none 0 0, .slice p26 h26.length c26, .slice none 0 0, .slice none 0 0] 109, .own 27 1 hdrR (.slice s1.1 s1.2.2.1.length s1.2.1) s1.2.2.1, flatF 149 3 (s1.2.2.1.map row0), .own 26 1 hdrR (.slice s1.2.2.2.1 s1.2.2.2.2.2.1.length s1.2.2.2.2.1) s1.2.2.2.2.2.1, flatF 55 3 (s1.2.2.2.2.2.1.map row0), .own 77 1 hdrR (.slice p12 ((h19 ++ ([((some ⟨g24,0, none⟩), xs.length, c)] : List Hdr)).length) c12) (h19 ++ ([((some ⟨g24,0, none⟩), xs.length, c)] : List Hdr)), flatF 29 4 (h19.map row0), .own 29 4 T_ReplyD.pair (.slice (some ⟨g24,0, none⟩) xs.length c) zz] (fun _ h => h.bagUncons 0 rfl hz1) (wl_sh [flatF 149 3 ([row0 (z1.2.2.1, z1.1.said.length, z1.2.2.2)]), treeF T_FactD 55 3 (.slice z1.2.1.1 z1.1.facts.length z1.2.1.2) z1.1.facts, bagF T_ReplyD (zz.drop (s1.2.2.2.2.2.2 + 1)) none, .blk g [.slice none 0 0, .slice none 0 0, .slice none 0 0, .slice none 0 0, .slice none 0 0, .slice none 0 0, .slice s1.1 s1.2.2.1.length s1.2.1, .slice s1.2.2.2.1 s1.2.2.2.2.2.1.length s1.2.2.2.2.1, .slice none 0 0, .slice none 0 0, .slice none 0 0, .slice none 0 0, .slice none 0 0, .slice none 0 0, .slice none 0 0, .slice none 0 0, .slice none 0 0, .slice none 0 0, .slice none 0 0, .slice p12 ((h19 ++ ([((some ⟨g24,0, none⟩), xs.length, c)] : List Hdr)).length) c12, .slice none 0 0, .slice none 0 0, .slice none 0 0, .slice none 0 0, .slice none 0 0, .slice none 0 0, .slice p26 h26.length c26, .slice none 0 0, .slice none 0 0] 109, .own 27 1 hdrR (.slice s1.1 s1.2.2.1.length s1.2.1) s1.2.2.1, flatF 149 3 (s1.2.2.1.map row0), .own 26 1 hdrR (.slice s1.2.2.2.1 s1.2.2.2.2.2.1.length s1.2.2.2.2.1) s1.2.2.2.2.2.1, flatF 55 3 (s1.2.2.2.2.2.1.map row0), .own 77 1 hdrR (.slice p12 ((h19 ++ ([((some ⟨g24,0, none⟩), xs.length, c)] : List Hdr)).length) c12) (h19 ++ ([((some ⟨g24,0, none⟩), xs.length, c)] : List Hdr)), flatF 29 4 (h19.map row0), .own 29 4 T_ReplyD.pair (.slice (some ⟨g24,0, none⟩) xs.length c) zz] (fun _ h => h.flOne 0 rfl) (wC [3,4,5,6,7,1,0] [2,8,9,10] rfl fn_103 rfl (ap_oneReply _ s1.1 s1.2.1 s1.2.2.1 s1.2.2.2.1 s1.2.2.2.2.1 s1.2.2.2.2.2.1 p12 c12 (h19 ++ ([((some ⟨g24,0, none⟩), xs.length, c)] : List Hdr)) p26 c26 h26 z1.1.err z1.1.num z1.2.1.1 z1.2.1.2 z1.1.facts z1.2.2.1 z1.1.said.length z1.2.2.2 (by omega) hb6 (by omega) hb7 hxs.1 hxs.2.1 hxs.2.2) (asK [] rfl) rfl (H' := [_,_,_,_]) rfl ?_))))
  rintro _ _ _ ⟨q6_1, d6_1, k6_1, q7_1, d7_1, k7_1, hl6_1, hb6_1, hl7_1, hb7_1, rfl, rfl, rfl⟩
  refine wl_nil (we_block_normal (we_then (wc_region (wP rfl (wP rfl (wl_as (d := 20) (v' := .int .i64 ((s1.2.2.2.2.2.2 + 1 : Nat) : Int)) (S' := [_,_,_,_,_,_,_,_,_,_,_]) rfl rfl (nat_add (a := s1.2.2.2.2.2.2) (b := 1) (by omega)) (wl_pure (S' := [_,_,_,_,_,_,_,_,_,_,_]) rfl rfl rfl rfl rfl (wl_nil (we_pick [5,0,1,2,3,4,6,7,8] rfl (H' := [_,_,_,_,_,_,_,_,_]) rfl ?_)))))))))
  refine we_round (q6_1, d6_1, k6_1, q7_1, d7_1, k7_1, s1.2.2.2.2.2.2 + 1) (by show xs.length - (s1.2.2.2.2.2.2 + 1) < xs.length - s1.2.2.2.2.2.2; omega) ⟨by show s1.2.2.2.2.2.2 + 1 ≤ _; omega, by have := hl6_1; show List.length (k6_1) ≤ _ + (s1.2.2.2.2.2.2 + 1) * _; omega, hb6_1, by have := hl7_1; show List.length (k7_1) ≤ _ + (s1.2.2.2.2.2.2 + 1) * _; omega, hb7_1⟩ [4,0,1] rfl (asK [] rfl) rfl
 ·
  replace h18 := of_decide_eq_false h18
  obtain ⟨hi2, hl6, hb6, hl7, hb7⟩ := oks1
  refine wc_exit (we_then_exit (we_then_exit (we_block_hit (we_sh [bagF T_ReplyD (zz.drop s1.2.2.2.2.2.2) none, .blk g [.slice none 0 0, .slice none 0 0, .slice none 0 0, .slice none 0 0, .slice none 0 0, .slice none 0 0, .slice s1.1 s1.2.2.1.length s1.2.1, .slice s1.2.2.2.1 s1.2.2.2.2.2.1.length s1.2.2.2.2.1, .slice none 0 0, .slice none 0 0, .slice none 0 0, .slice none 0 0, .slice none 0 0, .slice none 0 0, .slice none 0 0, .slice none 0 0, .slice none 0 0, .slice none 0 0, .slice none 0 0, .slice p12 ((h19 ++ ([(p, xs.length, c)] : List Hdr)).length) c12, .slice none 0 0, .slice none 0 0, .slice none 0 0, .slice none 0 0, .slice none 0 0, .slice none 0 0, .slice p26 h26.length c26, .slice none 0 0, .slice none 0 0] 109, .own 27 1 hdrR (.slice s1.1 s1.2.2.1.length s1.2.1) s1.2.2.1, flatF 149 3 (s1.2.2.1.map row0), .own 26 1 hdrR (.slice s1.2.2.2.1 s1.2.2.2.2.2.1.length s1.2.2.2.2.1) s1.2.2.2.2.2.1, flatF 55 3 (s1.2.2.2.2.2.1.map row0), .own 77 1 hdrR (.slice p12 ((h19 ++ ([(p, xs.length, c)] : List Hdr)).length) c12) (h19 ++ ([(p, xs.length, c)] : List Hdr)), flatF 29 4 (h19.map row0), flatF 29 4 [row0 (p, xs.length, c)]] (fun _ h => by have h2 := h.flOne 8 rfl; exact h2) (we_sh [bagF T_ReplyD (zz.drop s1.2.2.2.2.2.2) none, .blk g [.slice none 0 0, .slice none 0 0, .slice none 0 0, .slice none 0 0, .slice none 0 0, .slice none 0 0, .slice s1.1 s1.2.2.1.length s1.2.1, .slice s1.2.2.2.1 s1.2.2.2.2.2.1.length s1.2.2.2.2.1, .slice none 0 0, .slice none 0 0, .slice none 0 0, .slice none 0 0, .slice none 0 0, .slice none 0 0, .slice none 0 0, .slice none 0 0, .slice none 0 0, .slice none 0 0, .slice none 0 0, .slice p12 ((h19 ++ ([(p, xs.length, c)] : List Hdr)).length) c12, .slice none 0 0, .slice none 0 0, .slice none 0 0, .slice none 0 0, .slice none 0 0, .slice none 0 0, .slice p26 h26.length c26, .slice none 0 0, .slice none 0 0] 109, .own 27 1 hdrR (.slice s1.1 s1.2.2.1.length s1.2.1) s1.2.2.1, flatF 149 3 (s1.2.2.1.map row0), .own 26 1 hdrR (.slice s1.2.2.2.1 s1.2.2.2.2.2.1.length s1.2.2.2.2.1) s1.2.2.2.2.2.1, flatF 55 3 (s1.2.2.2.2.2.1.map row0), .own 77 1 hdrR (.slice p12 ((h19 ++ ([(p, xs.length, c)] : List Hdr)).length) c12) (h19 ++ ([(p, xs.length, c)] : List Hdr)), flatF 29 4 ((h19 ++ [(p, xs.length, c)]).map row0)] (fun _ h => h.flPush 7 8 rfl rfl rfl) (ret_none (Hr := [.blk g [.slice none 0 0, .slice none 0 0, .slice none 0 0, .slice none 0 0, .slice none 0 0, .slice none 0 0, .slice s1.1 s1.2.2.1.length s1.2.1, .slice s1.2.2.2.1 s1.2.2.2.2.2.1.length s1.2.2.2.2.1, .slice none 0 0, .slice none 0 0, .slice none 0 0, .slice none 0 0, .slice none 0 0, .slice none 0 0, .slice none 0 0, .slice none 0 0, .slice none 0 0, .slice none 0 0, .slice none 0 0, .slice p12 ((h19 ++ ([(p, xs.length, c)] : List Hdr)).length) c12, .slice none 0 0, .slice none 0 0, .slice none 0 0, .slice none 0 0, .slice none 0 0, .slice none 0 0, .slice p26 h26.length c26, .slice none 0 0, .slice none 0 0] 109, .own 27 1 hdrR (.slice s1.1 s1.2.2.1.length s1.2.1) s1.2.2.1, flatF 149 3 (s1.2.2.1.map row0), .own 26 1 hdrR (.slice s1.2.2.2.1 s1.2.2.2.2.2.1.length s1.2.2.2.2.1) s1.2.2.2.2.2.1, flatF 55 3 (s1.2.2.2.2.2.1.map row0), .own 77 1 hdrR (.slice p12 ((h19 ++ ([(p, xs.length, c)] : List Hdr)).length) c12) (h19 ++ ([(p, xs.length, c)] : List Hdr)), flatF 29 4 ((h19 ++ [(p, xs.length, c)]).map row0)]) [1,2,3,4,5,6,7] Tryz.results61 ?_ (asK [] rfl) rfl rfl (.inr rfl)))))))
  exact ⟨_,_,_,_,_,_,_,_,_, by have h9 := hl6; have h8 : s1.2.2.2.2.2.2 * 10001 ≤ 10000 * 10001 := Nat.mul_le_mul_right _ (Nat.le_trans hi2 hn); omega, hb6, by have h9 := hl7; have h8 : s1.2.2.2.2.2.2 * 1 ≤ 10000 * 1 := Nat.mul_le_mul_right _ (Nat.le_trans hi2 hn); omega, hb7, by simp, hB19.push hn, rfl, rfl, rfl⟩
def z_markValue (k i : Int) : Int := IntKind.wrap .i64 ((IntKind.wrap .i64 (1000003 * (IntKind.wrap .i64 (k + 7)))) + i)
theorem z_markValue_s (k i : Int) : Spec Tryz.prog 97 [.int .i64 k, .int .i64 i] [] [] (fun v Φr Hr => v = .agg #[.int .u8 0, .int .i64 (z_markValue k i), .string ((⟨#[]⟩ : ByteArray))] ∧ Φr = [] ∧ Hr = []) := w_ropewalkkit_markValue_s 0 k i rfl
def mc_markValue (k i : Nat) : List Value := [.int .u8 0, .int .i64 (z_markValue ((k : Nat) : Int) ((i : Nat) : Int)), .string ((⟨#[]⟩ : ByteArray))]
theorem fl_flatValues (p : Option Addr) (c : Nat) (hs : List Hdr) (hL : hs.length ≤ 1073741824) (hb : ∀ h ∈ hs, h.2.1 ≤ 1073741824) : Spec Tryz.prog 69 [.slice p hs.length c] [] [.own 27 1 hdrR (.slice p hs.length c) hs, flatF 149 3 (hs.map row0)] (fun v Φr Hr => ∃ rows, FlE hs mc_markValue rows ∧ v = .bool true ∧ Φr = [] ∧ Hr = [flatF 149 3 rows]) := by
 refine spec_of Tryz.func69 rfl Tryz.ntmps69 rfl (S := [_]) rfl (fun C => (wc_seq (wc_region (wP rfl (wl_nil (we_then (wc_seq (wc_seq (wc_region (wP rfl (wl_nil (we_then (wc_block (wc_loop (σ := List Twin × Nat) (fun s => s.2 ≤ hs.length ∧ FlA hs mc_markValue s.2 0 s.1) (fun s => hs.length - s.2) (fun s => [(3, .int .i64 ((s.2 : Nat) : Int)), (2, .bool false), (0, .slice p hs.length c)]) (fun s => []) (fun s => [.own 27 1 hdrR (.slice p hs.length c) hs, flatF 149 3 s.1]) (hs.map row0,0) ⟨Nat.zero_le _, FlA.start⟩ [3,2,0] rfl (asK [] rfl) rfl (fun s1 oks1 => ?_)))))))))))))))
 refine wc_seq (wc_seq (wc_region (wP rfl (wP rfl (wN rfl tE_87 (wP rfl (wl_nil (we_then (wc_keep [19,3,2,0] (S' := [_,_,_,_]) rfl ?_)))))))))
 refine wc_cond rfl (fun h19 => ?_) (fun h19 => ?_)
 ·
  replace h19 := of_decide_eq_true h19
  have hk1 : s1.2 < hs.length := by omega
  obtain ⟨y1, hy1⟩ : ∃ y, hs[s1.2]? = some y := ⟨_, List.getElem?_eq_getElem hk1⟩
  have hB1 : y1.2.1 ≤ 1073741824 := hb _ (List.mem_of_getElem? hy1)
  refine wc_skip (we_then (wc_seq (wc_block (wc_seq (wc_region (wP rfl (wl_nil (we_then (wc_block (wc_loop (σ := List Twin × Nat) (fun s => s.2 ≤ y1.2.1 ∧ FlA hs mc_markValue s1.2 s.2 s.1) (fun s => y1.2.1 - s.2) (fun s => [(4, .int .i64 ((s.2 : Nat) : Int)), (19, .bool (decide (((s1.2 : Nat) : Int) < ((hs.length : Nat) : Int)))), (3, .int .i64 ((s1.2 : Nat) : Int)), (2, .bool false), (0, .slice p hs.length c)]) (fun s => []) (fun s => [.own 27 1 hdrR (.slice p hs.length c) hs, flatF 149 3 s.1]) (s1.1,0) ⟨Nat.zero_le _, oks1.2⟩ [4,19,3,2,0] rfl (asK [] rfl) rfl (fun s2 oks2 => (wc_seq (wc_seq (wc_region ?_))))))))))))))
  refine wP rfl (wP rfl (wP rfl (wl_indexH 0 s1.2 rfl rfl rfl (freshS_eq rfl) rfl rfl rfl rfl rfl hk1 tE_87 tS_27 (fun g25 eg25 => ?_))))
  subst eg25
  refine wl_loadRow hdr_opens 0 s1.2 0 rfl rfl rfl (freshS_eq rfl) rfl rfl rfl hy1 tS_27 tA_27 (v := fun _ => .slice y1.1 y1.2.1 y1.2.2) (fun _ => rfl) (fun _ => rfl) (fun _ _ => (wN rfl tE_27 (wP rfl (wl_nil (we_then (wc_keep [28,4,19,3,2,0] (S' := [_,_,_,_,_,_]) rfl ?_))))))
  refine wc_cond rfl (fun h28 => ?_) (fun h28 => ?_)
  ·
   replace h28 := of_decide_eq_true h28
   obtain ⟨r2, hr2, hh2, hsm2, hl2⟩ := oks2.2.at_ hy1
   refine wc_skip (we_then (wc_seq (wc_block (wc_draw [0,1,2,3,4,5,6,8] rfl rfl (fun hok => (xP hok 0 rfl (xP hok 1 rfl (wx_indexK hok 2 0 s1.2 rfl rfl rfl (freshS_eq rfl) rfl rfl rfl rfl rfl rfl hk1 tE_87 tS_27 (wx_loadRow hok 3 hdr_opens 0 s1.2 0 rfl rfl rfl (freshS_eq rfl) rfl rfl rfl rfl hy1 tS_27 tA_27 (v := .slice y1.1 y1.2.1 y1.2.2) rfl rfl (fun _ => (xP hok 4 rfl (xP hok 5 rfl (xP hok 6 rfl (xS hok 7 rfl (wC [] [0,1] rfl fn_97 rfl (z_markValue_s ((s1.2 : Nat) : Int) ((s2.2 : Nat) : Int)) (asK [] rfl) rfl (H' := [_,_]) rfl ?_)))))))))))))))
   rintro _ _ _ ⟨rfl, rfl, rfl⟩
   refine wl_nil (we_x [] [0] rfl rfl (wx_flIdxH hok 8 (p := y1.1) (m := y1.2.1) (cp := y1.2.2) 1 s1.2 s2.2 rfl rfl rfl (freshS_eq rfl) rfl rfl rfl hr2 hh2 rfl rfl rfl (by omega) hl2 tE_27 tS_149 (fun g39 eg39 => (xS hok 9 rfl (wl_flStore (cs := mc_markValue s1.2 s2.2) 1 s1.2 s2.2 rfl rfl rfl rfl hr2 hsm2 (hdr_eq hh2 eg39) rfl (by omega) rfl rfl tS_149 rfl (one_of rfl) (H' := [.own 27 1 hdrR (.slice (some ⟨g25,0, none⟩) hs.length c) hs, flatF 149 3 (s2.1.set s1.2 ⟨r2.h, (r2.l.set s2.2 (some (mc_markValue s1.2 s2.2))), r2.h, (r2.l.set s2.2 (some (mc_markValue s1.2 s2.2)))⟩)]) rfl (wl_nil (we_x [] [] rfl rfl (wx_done hok rfl (we_block_normal (we_then (wc_region (wP rfl (wP rfl (wl_as (d := 30) (v' := .int .i64 ((s2.2 + 1 : Nat) : Int)) (S' := [_,_,_,_,_,_,_,_,_,_,_,_,_,_,_,_]) rfl rfl (nat_add (a := s2.2) (b := 1) (by omega)) ?_))))))))))))))
   refine wl_pure (S' := [_,_,_,_,_,_,_,_,_,_,_,_,_,_,_,_]) rfl rfl rfl rfl rfl (wl_nil ?_)
   refine we_round (s2.1.set s1.2 ⟨r2.h, (r2.l.set s2.2 (some (mc_markValue s1.2 s2.2))), r2.h, (r2.l.set s2.2 (some (mc_markValue s1.2 s2.2)))⟩, s2.2 + 1) (by show y1.2.1 - (s2.2 + 1) < _; omega) ⟨by show s2.2 + 1 ≤ _; omega, oks2.2.store hy1 hr2 (by omega)⟩ [4,19,3,2,0] rfl (asK [] rfl) rfl
  ·
   replace h28 := of_decide_eq_false h28
   refine wc_exit (we_then_exit (we_then_exit (we_block_hit (we_block_normal (we_then (wc_region (wP rfl (wP rfl (wl_as (d := 21) (v' := .int .i64 ((s1.2 + 1 : Nat) : Int)) (S' := [_,_,_,_,_,_,_]) rfl rfl (nat_add (a := s1.2) (b := 1) (by omega)) (wl_pure (S' := [_,_,_,_,_,_,_]) rfl rfl rfl rfl rfl (wl_nil ?_)))))))))))
   refine we_round (s2.1, s1.2 + 1) (by show hs.length - (s1.2 + 1) < _; omega) ⟨by show s1.2 + 1 ≤ _; omega, oks2.2.next hy1 (by omega)⟩ [3,2,0] rfl (asK [] rfl) rfl
 ·
  replace h19 := of_decide_eq_false h19
  refine wc_exit (we_then_exit (we_then_exit (we_block_hit (we_then (wc_seq (wc_region (wP rfl (wN rfl tE_87 (wl_makeSlice (m := hs.length) hdrR (none, 0,0) rfl rfl rfl (freshS_eq rfl) rfl rfl rfl rfl rfl tE_87 tR_27 rfl rfl (fun _ _ => rfl) (by omega) (by omega) (fun g42 => (wP rfl (wl_nil (we_then (wc_keep [5,19,3,2,0] (S' := [_,_,_,_,_]) rfl ?_))))))))))))))
  refine wc_seq (wc_seq (wc_region (wP rfl (wl_nil (we_then (wc_block (wc_loop (σ := List Hdr × List Twin × Nat) (fun s => s.2.2 ≤ hs.length ∧ FlB hs mc_markValue s.1 s.2.2 s.2.1) (fun s => hs.length - s.2.2) (fun s => [(6, .int .i64 ((s.2.2 : Nat) : Int)), (5, .slice (some ⟨g42,0, none⟩) hs.length hs.length), (19, .bool (decide (((s1.2 : Nat) : Int) < ((hs.length : Nat) : Int)))), (3, .int .i64 ((s1.2 : Nat) : Int)), (2, .bool false), (0, .slice p hs.length c)]) (fun s => []) (fun s => [.own 27 1 hdrR (.slice (some ⟨g42,0, none⟩) hs.length hs.length) s.1, .own 27 1 hdrR (.slice p hs.length c) hs, flatF 149 3 s.2.1]) (List.replicate hs.length (none, 0,0), s1.1,0) ⟨Nat.zero_le _, oks1.2.grow (by omega) (by simp)⟩ [6,5,19,3,2,0] rfl (asK [] rfl) rfl (fun s3 oks3 => (wc_seq (wc_seq (wc_region (wP rfl (wP rfl (wN rfl tE_87 ?_))))))))))))))
  refine wP rfl (wl_nil (we_then (wc_keep [46,6,5,19,3,2,0] (S' := [_,_,_,_,_,_,_]) rfl ?_)))
  refine wc_cond rfl (fun h46 => ?_) (fun h46 => ?_)
  ·
   replace h46 := of_decide_eq_true h46
   have hk3 : s3.2.2 < hs.length := by omega
   obtain ⟨y3, hy3⟩ : ∃ y, hs[s3.2.2]? = some y := ⟨_, List.getElem?_eq_getElem hk3⟩
   have hB3 : y3.2.1 ≤ 1073741824 := hb _ (List.mem_of_getElem? hy3)
   refine wc_skip (we_then (wc_seq (wc_block (wc_seq (wc_region (wP rfl (wP rfl (wl_indexH 1 s3.2.2 rfl rfl rfl (freshS_eq rfl) rfl rfl rfl rfl rfl hk3 tE_87 tS_27 (fun g51 eg51 => ?_)))))))))
   subst eg51
   refine wl_loadRow hdr_opens 1 s3.2.2 0 rfl rfl rfl (freshS_eq rfl) rfl rfl rfl hy3 tS_27 tA_27 (v := fun _ => .slice y3.1 y3.2.1 y3.2.2) (fun _ => rfl) (fun _ => rfl) (fun _ _ => (wP rfl (wl_nil (we_then (wc_keep [7,46,6,5,19,3,2,0] (S' := [_,_,_,_,_,_,_,_]) rfl (wc_seq (wc_seq (wc_region (wP rfl (wl_nil (we_then (wc_block (wc_loop (σ := List Twin × Hdr × Nat) (fun s => s.2.2 ≤ 64 ∧ FlC hs mc_markValue s3.1 s3.2.2 s.2.2 s.2.1 s.1) (fun s => 64 - s.2.2) (fun s => [(8, .int .i64 ((s.2.2 : Nat) : Int)), (7, .slice s.2.1.1 s.2.1.2.1 s.2.1.2.2), (46, .bool (decide (((s3.2.2 : Nat) : Int) < ((hs.length : Nat) : Int)))), (6, .int .i64 ((s3.2.2 : Nat) : Int)), (5, .slice (some ⟨g42,0, none⟩) hs.length hs.length), (19, .bool (decide (((s1.2 : Nat) : Int) < ((hs.length : Nat) : Int)))), (3, .int .i64 ((s1.2 : Nat) : Int)), (2, .bool false), (0, .slice (some ⟨g51,0, none⟩) hs.length c)]) (fun s => []) (fun s => [.own 27 1 hdrR (.slice (some ⟨g42,0, none⟩) hs.length hs.length) s3.1, .own 27 1 hdrR (.slice (some ⟨g51,0, none⟩) hs.length c) hs, flatF 149 3 s.1]) (s3.2.1, y3,0) ⟨Nat.zero_le _, oks3.2.begin hy3⟩ [8,7,46,6,5,19,3,2,0] rfl (asK [] rfl) rfl (fun s4 oks4 => (wc_seq ?_)))))))))))))))
   refine wc_seq (wc_region (wP rfl (wP rfl (wl_nil (we_then (wc_keep [54,8,7,46,6,5,19,3,2,0] (S' := [_,_,_,_,_,_,_,_,_,_]) rfl ?_))))))
   refine wc_cond rfl (fun h54 => ?_) (fun h54 => ?_)
   ·
    replace h54 := of_decide_eq_true h54
    obtain ⟨r4, hr4, hh4, hl4, hg4, hm4⟩ := oks4.2.at_ hy3
    refine wc_skip (we_then (wc_seq (wc_block (wc_region (wP rfl (wP rfl (wP rfl (wP rfl (wl_indexK 1 s3.2.2 rfl rfl rfl (freshS_eq rfl) rfl rfl rfl rfl rfl hk3 tE_87 tS_27 (wl_loadRow hdr_opens 1 s3.2.2 0 rfl rfl rfl (freshS_eq rfl) rfl rfl rfl hy3 tS_27 tA_27 (v := fun _ => .slice y3.1 y3.2.1 y3.2.2) (fun _ => rfl) (fun _ => rfl) (fun _ _ => (wN rfl tE_27 (wP rfl (wP rfl ?_))))))))))))))
    refine wl_as (d := 65) (v' := .int .i64 ((y3.2.1 + s4.2.2 : Nat) : Int)) (S' := [_,_,_,_,_,_,_,_,_,_,_,_,_,_,_,_,_,_]) rfl rfl (nat_add (a := y3.2.1) (b := s4.2.2) (by omega)) (wC [] [0,1,2] rfl fn_97 rfl (z_markValue_s ((s3.2.2 : Nat) : Int) ((y3.2.1 + s4.2.2 : Nat) : Int)) (asK [] rfl) rfl (H' := [_,_,_]) rfl ?_)
    rintro _ _ _ ⟨rfl, rfl, rfl⟩
    refine wl_buildSlice rfl rfl rfl (freshS_eq rfl) rfl tE_27 tS_149 tZ_149 rfl (zs := [.int .u8 0, .int .i64 0, .string ⟨#[]⟩]) (by kernel_rfl) rfl (out := [_,_,_]) rfl (fun g67 => (wl_flAppB (cs := mc_markValue s3.2.2 (y3.2.1 + s4.2.2)) 3 s3.2.2 0 rfl rfl rfl (freshS_eq rfl) rfl rfl hr4 (by rw [hg4]; rfl) rfl rfl rfl (one_of rfl) tE_27 tR_149 rfl rfl (by rw [hm4]; simp only [marks_len, List.length_append, List.length_cons, List.length_nil]; omega) (by rw [hm4]; simp only [marks_len, List.length_append, List.length_cons, List.length_nil]; omega) (H2 := fun gh68 => [.blk g67 [.int .u8 0, .int .i64 (z_markValue ((s3.2.2 : Nat) : Int) ((y3.2.1 + s4.2.2 : Nat) : Int)), .string ((⟨#[]⟩ : ByteArray))] 149, .own 27 1 hdrR (.slice (some ⟨g42,0, none⟩) hs.length hs.length) s3.1, .own 27 1 hdrR (.slice (some ⟨g51,0, none⟩) hs.length c) hs, flatF 149 3 (s4.1.set s3.2.2 ⟨r4.h, r4.l, gh68, r4.m ++ [some (mc_markValue s3.2.2 (y3.2.1 + s4.2.2))]⟩)]) (fun _ => rfl) (fun gh68 => (wl_drop 0 rfl (H' := [_,_,_]) rfl (wl_pure (S' := [_,_,_,_,_,_,_,_,_,_,_,_,_,_,_,_,_,_,_,_,_]) rfl rfl rfl rfl rfl (wl_nil (we_block_normal (we_then (wc_region (wP rfl (wP rfl (wl_as (d := 56) (v' := .int .i64 ((s4.2.2 + 1 : Nat) : Int)) (S' := [_,_,_,_,_,_,_,_,_,_,_,_,_,_,_,_,_,_,_,_,_,_,_]) rfl rfl (nat_add (a := s4.2.2) (b := 1) (by omega)) (wl_pure (S' := [_,_,_,_,_,_,_,_,_,_,_,_,_,_,_,_,_,_,_,_,_,_,_]) rfl rfl rfl rfl rfl (wl_nil ?_))))))))))))))
    refine we_round (s4.1.set s3.2.2 ⟨r4.h, r4.l, gh68, r4.m ++ [some (mc_markValue s3.2.2 (y3.2.1 + s4.2.2))]⟩, gh68, s4.2.2 + 1) (by show 64 - (s4.2.2 + 1) < _; omega) ⟨by show s4.2.2 + 1 ≤ 64; omega, oks4.2.app hy3 hr4 _⟩ [8,7,46,6,5,19,3,2,0] rfl (asK [] rfl) rfl
   ·
    replace h54 := of_decide_eq_false h54
    refine wc_exit (we_then_exit (we_then_exit (we_block_hit (we_then (wc_region (wP rfl (wP rfl (wP rfl (wl_indexK 0 s3.2.2 rfl rfl rfl (freshS_eq rfl) rfl rfl rfl rfl rfl (by rw [oks3.2.2.1]; exact hk3) tE_87 tS_27 (wl_storeRow (u := s4.2.1) 0 s3.2.2 rfl rfl rfl rfl rfl (by rw [oks3.2.2.1]; exact hk3) rfl rfl tS_27 rfl (fun _ _ _ => rfl) (H' := [_,_,_]) rfl (wl_nil (we_block_normal (we_then ?_)))))))))))))
    refine wc_region (wP rfl (wP rfl (wl_as (d := 48) (v' := .int .i64 ((s3.2.2 + 1 : Nat) : Int)) (S' := [_,_,_,_,_,_,_,_,_,_,_,_,_,_,_]) rfl rfl (nat_add (a := s3.2.2) (b := 1) (by omega)) (wl_pure (S' := [_,_,_,_,_,_,_,_,_,_,_,_,_,_,_]) rfl rfl rfl rfl rfl (wl_nil ?_)))))
    have hc3 := oks4.2
    rw [show s4.2.2 = 64 from by omega] at hc3
    refine we_round (s3.1.set s3.2.2 s4.2.1, s4.1, s3.2.2 + 1) (by show hs.length - (s3.2.2 + 1) < _; omega) ⟨by show s3.2.2 + 1 ≤ _; omega, hc3.done hk3⟩ [6,5,19,3,2,0] rfl (asK [] rfl) rfl
  ·
   replace h46 := of_decide_eq_false h46
   refine wc_exit (we_then_exit (we_then_exit (we_block_hit (we_then (wc_seq (wc_seq (wc_region (wP rfl (wl_nil (we_then (wc_block (wc_loop (σ := Nat) (fun s => s ≤ hs.length) (fun s => hs.length - s) (fun s => [(9, .int .i64 ((s : Nat) : Int)), (46, .bool (decide (((s3.2.2 : Nat) : Int) < ((hs.length : Nat) : Int)))), (6, .int .i64 ((s3.2.2 : Nat) : Int)), (5, .slice (some ⟨g42,0, none⟩) hs.length hs.length), (19, .bool (decide (((s1.2 : Nat) : Int) < ((hs.length : Nat) : Int)))), (3, .int .i64 ((s1.2 : Nat) : Int)), (2, .bool false), (0, .slice p hs.length c)]) (fun s => []) (fun s => [.own 27 1 hdrR (.slice (some ⟨g42,0, none⟩) hs.length hs.length) s3.1, .own 27 1 hdrR (.slice p hs.length c) hs, flatF 149 3 s3.2.1]) 0 (Nat.zero_le _) [9,46,6,5,19,3,2,0] rfl (asK [] rfl) rfl (fun s5 oks5 => (wc_seq ?_))))))))))))))
   refine wc_seq (wc_region (wP rfl (wP rfl (wN rfl tE_87 (wP rfl (wl_nil (we_then (wc_keep [76,9,46,6,5,19,3,2,0] (S' := [_,_,_,_,_,_,_,_,_]) rfl ?_))))))))
   refine wc_cond rfl (fun h76 => ?_) (fun h76 => ?_)
   ·
    replace h76 := of_decide_eq_true h76
    have hk5 : s5 < hs.length := by omega
    obtain ⟨y5, hy5⟩ : ∃ y, hs[s5]? = some y := ⟨_, List.getElem?_eq_getElem hk5⟩
    have hB5 : y5.2.1 ≤ 1073741824 := hb _ (List.mem_of_getElem? hy5)
    obtain ⟨r5, hr5, hh5, hl5, hg5, hm5⟩ := oks3.2.look (by omega) hy5
    refine wc_flLen 2 rfl hr5 (fun hA5 hC5 => ?_)
    rw [hl5, marks_len] at hA5
    rw [hm5, marks_len] at hC5
    refine wc_skip (we_then (wc_seq (wc_block (wc_seq (wc_region (wP rfl (wl_nil (we_then (wc_block (wc_loop (σ := Nat) (fun s => s ≤ y5.2.1 + 64) (fun s => y5.2.1 + 64 - s) (fun s => [(10, .int .i64 ((s : Nat) : Int)), (76, .bool (decide (((s5 : Nat) : Int) < ((hs.length : Nat) : Int)))), (9, .int .i64 ((s5 : Nat) : Int)), (46, .bool (decide (((s3.2.2 : Nat) : Int) < ((hs.length : Nat) : Int)))), (6, .int .i64 ((s3.2.2 : Nat) : Int)), (5, .slice (some ⟨g42,0, none⟩) hs.length hs.length), (19, .bool (decide (((s1.2 : Nat) : Int) < ((hs.length : Nat) : Int)))), (3, .int .i64 ((s1.2 : Nat) : Int)), (2, .bool false), (0, .slice p hs.length c)]) (fun s => []) (fun s => [.own 27 1 hdrR (.slice (some ⟨g42,0, none⟩) hs.length hs.length) s3.1, .own 27 1 hdrR (.slice p hs.length c) hs, flatF 149 3 s3.2.1]) 0 (Nat.zero_le _) [10,76,9,46,6,5,19,3,2,0] rfl (asK [] rfl) rfl (fun s6 oks6 => (wc_seq (wc_seq (wc_region ?_))))))))))))))
    refine wP rfl (wP rfl (wP rfl (wl_indexK 0 s5 rfl rfl rfl (freshS_eq rfl) rfl rfl rfl rfl rfl (by rw [oks3.2.2.1]; exact hk5) tE_87 tS_27 (wl_loadRow hdr_opens 0 s5 0 rfl rfl rfl (freshS_eq rfl) rfl rfl rfl hg5 tS_27 tA_27 (v := fun _ => .slice r5.g.1 r5.g.2.1 r5.g.2.2) (fun _ => rfl) (fun _ => rfl) (fun _ _ => (wN rfl tE_27 (wP rfl (wl_nil (we_then (wc_keep [85,10,76,9,46,6,5,19,3,2,0] (S' := [_,_,_,_,_,_,_,_,_,_,_]) rfl ?_))))))))))
    refine wc_cond rfl (fun h85 => ?_) (fun h85 => ?_)
    ·
     replace h85 := of_decide_eq_true h85
     refine wc_skip (we_then (wc_seq (wc_block (wc_seq (wc_draw [0,1,2,3,4,5,6,7,8,10,11,12,13,14,15,16,17,18,19,20,21,22,23,24,25,26,27,28,29,31,32,33,34] rfl rfl (fun hok => (xP hok 0 rfl (xP hok 1 rfl (wx_indexK hok 2 0 s5 rfl rfl rfl (freshS_eq rfl) rfl rfl rfl rfl rfl rfl (by rw [oks3.2.2.1]; exact hk5) tE_87 tS_27 (wx_loadRow hok 3 hdr_opens 0 s5 0 rfl rfl rfl (freshS_eq rfl) rfl rfl rfl rfl hg5 tS_27 tA_27 (v := .slice r5.g.1 r5.g.2.1 r5.g.2.2) rfl rfl (fun _ => (xP hok 4 rfl (wx_flIdxG hok 5 (p := r5.g.1) (m := r5.g.2.1) (cp := r5.g.2.2) 2 s5 s6 rfl rfl rfl (freshS_eq rfl) rfl rfl rfl hr5 rfl rfl rfl rfl (by omega) (by rw [hm5, marks_len]; omega) tE_27 tS_149 (fun g93 eg93 => (wx_flLoadG hok 6 2 s5 s6 rfl rfl rfl (freshS_eq rfl) rfl rfl rfl hr5 (hdr_eqG eg93) rfl (cs := mc_markValue s5 s6) (by rw [hm5]; exact marks_at (by omega)) tS_149 tA_149 rfl (v := .agg #[.int .u8 0, .int .i64 (z_markValue ((s5 : Nat) : Int) ((s6 : Nat) : Int)), .string ((⟨#[]⟩ : ByteArray))]) rfl (xP hok 7 rfl ?_))))))))))))))))
     refine xP hok 8 rfl (xS hok 9 rfl (wC [] [0,1,2] rfl fn_97 rfl (z_markValue_s ((s5 : Nat) : Int) ((s6 : Nat) : Int)) (asK [] rfl) rfl (H' := [_,_,_]) rfl ?_))
     rintro _ _ _ ⟨rfl, rfl, rfl⟩
     refine wl_nil (we_x [] [2,0] rfl rfl (wx_bin hok 10 rfl rfl rfl (freshS_eq rfl) rfl rfl rfl rfl (eqlV _ _ (⟨0, z_markValue ((s5 : Nat) : Int) ((s6 : Nat) : Int), (⟨#[]⟩ : ByteArray)⟩ : V) (⟨0, z_markValue ((s5 : Nat) : Int) ((s6 : Nat) : Int), (⟨#[]⟩ : ByteArray)⟩ : V)) (wx_as (d := 98) (v' := .bool true) (S' := [_,_,_,_,_,_,_,_,_,_,_,_,_,_,_,_,_,_,_,_,_]) rfl rfl (congrArg Value.bool (by simp)) (xP hok 11 rfl (xP hok 12 rfl (xP hok 13 rfl (xP hok 14 rfl (xP hok 15 rfl (wx_indexH hok 16 1 s5 rfl rfl rfl (freshS_eq rfl) rfl rfl rfl rfl rfl rfl hk5 tE_87 tS_27 (fun g104 eg104 => ?_))))))))))
     subst eg104
     refine wx_loadRow hok 17 hdr_opens 1 s5 0 rfl rfl rfl (freshS_eq rfl) rfl rfl rfl rfl hy5 tS_27 tA_27 (v := .slice y5.1 y5.2.1 y5.2.2) rfl rfl (fun _ => (wx_len hok 18 rfl rfl rfl (freshS_eq rfl) rfl rfl rfl tE_27 (xP hok 19 rfl (xP hok 20 rfl ?_))))
     refine wx_split (d := 108) (S' := [_,_,_,_,_,_,_,_,_,_,_,_,_,_,_,_,_,_,_,_,_,_,_,_,_,_,_,_,_,_,_]) rfl rfl (fun h108 => ?_) (fun h108 => ?_)
     ·
      replace h108 := of_decide_eq_true h108
      refine xP hok 21 rfl (xP hok 22 rfl (wx_indexK hok 23 1 s5 rfl rfl rfl (freshS_eq rfl) rfl rfl rfl rfl rfl rfl hk5 tE_87 tS_27 (wx_loadRow hok 24 hdr_opens 1 s5 0 rfl rfl rfl (freshS_eq rfl) rfl rfl rfl rfl hy5 tS_27 tA_27 (v := .slice y5.1 y5.2.1 y5.2.2) rfl rfl (fun _ => (xP hok 25 rfl (wx_flIdxH hok 26 (p := y5.1) (m := y5.2.1) (cp := y5.2.2) 2 s5 s6 rfl rfl rfl (freshS_eq rfl) rfl rfl rfl hr5 hh5 rfl rfl rfl (by omega) (by rw [hl5, marks_len]) tE_27 tS_149 (fun g114 eg114 => (wx_flLoadH hok 27 2 s5 s6 rfl rfl rfl (freshS_eq rfl) rfl rfl rfl hr5 (hdr_eq hh5 eg114) rfl (cs := mc_markValue s5 s6) (by rw [hl5]; exact marks_at (by omega)) tS_149 tA_149 rfl (v := .agg #[.int .u8 0, .int .i64 (z_markValue ((s5 : Nat) : Int) ((s6 : Nat) : Int)), .string ((⟨#[]⟩ : ByteArray))]) rfl (xP hok 28 rfl (xP hok 29 rfl (xS hok 30 rfl (wC [] [0,1,2] rfl fn_97 rfl (z_markValue_s ((s5 : Nat) : Int) ((s6 : Nat) : Int)) (asK [] rfl) rfl (H' := [_,_,_]) rfl ?_))))))))))))
      rintro _ _ _ ⟨rfl, rfl, rfl⟩
      refine wl_nil (we_x [] [2,1,1,2,0] rfl rfl (wx_bin hok 31 rfl rfl rfl (freshS_eq rfl) rfl rfl rfl rfl (eqlV _ _ (⟨0, z_markValue ((s5 : Nat) : Int) ((s6 : Nat) : Int), (⟨#[]⟩ : ByteArray)⟩ : V) (⟨0, z_markValue ((s5 : Nat) : Int) ((s6 : Nat) : Int), (⟨#[]⟩ : ByteArray)⟩ : V)) (wx_as (d := 119) (v' := .bool true) (S' := [_,_,_,_,_,_,_,_,_,_,_,_,_,_,_,_,_,_,_,_,_,_,_,_,_,_,_,_,_,_,_,_,_,_,_,_,_,_,_,_,_,_]) rfl rfl (congrArg Value.bool (by simp)) (xP hok 32 rfl (xP hok 33 rfl (xP hok 34 rfl (wx_done hok rfl (we_then (wc_keep [122,85,10,76,9,46,6,5,19,3,2,0] (S' := [_,_,_,_,_,_,_,_,_,_,_,_]) rfl (wc_false rfl (wc_skip (we_block_normal (we_then ?_)))))))))))))
      refine wc_region (wP rfl (wP rfl (wl_as (d := 87) (v' := .int .i64 ((s6 + 1 : Nat) : Int)) (S' := [_,_,_,_,_,_,_,_,_,_,_,_,_]) rfl rfl (nat_add (a := s6) (b := 1) (by omega)) (wl_pure (S' := [_,_,_,_,_,_,_,_,_,_,_,_,_]) rfl rfl rfl rfl rfl (wl_nil ?_)))))
      refine we_round (s6 + 1) (by omega) (by omega) [10,76,9,46,6,5,19,3,2,0] rfl (asK [] rfl) rfl
     ·
      replace h108 := of_decide_eq_false h108
      refine xO hok 21 rfl (xO hok 22 rfl (xO hok 23 rfl (xO hok 24 rfl (xO hok 25 rfl (xO hok 26 rfl (xO hok 27 rfl (xO hok 28 rfl (xO hok 29 rfl (xS hok 30 rfl (wO rfl (wl_nil (we_x [] [1,2,0] rfl rfl (xO hok 31 rfl ?_)))))))))))))
      refine xO hok 32 rfl (xP hok 33 rfl (xP hok 34 rfl (wx_done hok rfl (we_then (wc_keep [122,85,10,76,9,46,6,5,19,3,2,0] (S' := [_,_,_,_,_,_,_,_,_,_,_,_]) rfl (wc_false rfl (wc_skip (we_block_normal (we_then (wc_region (wP rfl (wP rfl (wl_as (d := 87) (v' := .int .i64 ((s6 + 1 : Nat) : Int)) (S' := [_,_,_,_,_,_,_,_,_,_,_,_,_]) rfl rfl (nat_add (a := s6) (b := 1) (by omega)) ?_)))))))))))))
      refine wl_pure (S' := [_,_,_,_,_,_,_,_,_,_,_,_,_]) rfl rfl rfl rfl rfl (wl_nil ?_)
      refine we_round (s6 + 1) (by omega) (by omega) [10,76,9,46,6,5,19,3,2,0] rfl (asK [] rfl) rfl
    ·
     replace h85 := of_decide_eq_false h85
     refine wc_exit (we_then_exit (we_then_exit (we_block_hit (we_block_normal (we_then (wc_region (wP rfl (wP rfl (wl_as (d := 78) (v' := .int .i64 ((s5 + 1 : Nat) : Int)) (S' := [_,_,_,_,_,_,_,_,_,_,_,_]) rfl rfl (nat_add (a := s5) (b := 1) (by omega)) (wl_pure (S' := [_,_,_,_,_,_,_,_,_,_,_,_]) rfl rfl rfl rfl rfl (wl_nil ?_)))))))))))
     refine we_round (s5 + 1) (by omega) (by omega) [9,46,6,5,19,3,2,0] rfl (asK [] rfl) rfl
   ·
    replace h76 := of_decide_eq_false h76
    refine wc_exit (we_then_exit (we_then_exit (we_block_hit (we_then (wc_seq (wc_seq (wc_region (wP rfl (wl_nil (we_then (wc_block (wc_loop (σ := List Hdr × List Twin × Nat) (fun s => s.2.2 ≤ hs.length ∧ FlD hs mc_markValue s.1 s.2.2 s.2.1) (fun s => hs.length - s.2.2) (fun s => [(11, .int .i64 ((s.2.2 : Nat) : Int)), (76, .bool (decide (((s5 : Nat) : Int) < ((hs.length : Nat) : Int)))), (9, .int .i64 ((s5 : Nat) : Int)), (46, .bool (decide (((s3.2.2 : Nat) : Int) < ((hs.length : Nat) : Int)))), (6, .int .i64 ((s3.2.2 : Nat) : Int)), (5, .slice (some ⟨g42,0, none⟩) hs.length hs.length), (19, .bool (decide (((s1.2 : Nat) : Int) < ((hs.length : Nat) : Int)))), (3, .int .i64 ((s1.2 : Nat) : Int)), (2, .bool false), (0, .slice p hs.length c)]) (fun s => []) (fun s => [.own 27 1 hdrR (.slice (some ⟨g42,0, none⟩) hs.length hs.length) s.1, .own 27 1 hdrR (.slice p hs.length c) hs, flatF 149 3 s.2.1]) (s3.1, s3.2.1,0) ⟨Nat.zero_le _, oks3.2.again⟩ [11,76,9,46,6,5,19,3,2,0] rfl (asK [] rfl) rfl (fun s7 oks7 => (wc_seq ?_))))))))))))))
    refine wc_seq (wc_region (wP rfl (wP rfl (wN rfl tE_87 (wP rfl (wl_nil (we_then (wc_keep [126,11,76,9,46,6,5,19,3,2,0] (S' := [_,_,_,_,_,_,_,_,_,_,_]) rfl ?_))))))))
    refine wc_cond rfl (fun h126 => ?_) (fun h126 => ?_)
    ·
     replace h126 := of_decide_eq_true h126
     have hk7 : s7.2.2 < hs.length := by omega
     obtain ⟨y7, hy7⟩ : ∃ y, hs[s7.2.2]? = some y := ⟨_, List.getElem?_eq_getElem hk7⟩
     have hB7 : y7.2.1 ≤ 1073741824 := hb _ (List.mem_of_getElem? hy7)
     obtain ⟨r7, hr7, hh7, hl7⟩ := oks7.2.at_ hy7
     refine wc_skip (we_then (wc_seq (wc_block (wc_seq (wc_region (wl_makeSlice (m := 64) celR (none : Cel) rfl rfl rfl (freshS_eq rfl) rfl rfl rfl rfl rfl tE_27 tR_149 rfl rfl (fun _ _ => cel_any rfl) (by omega) (by omega) (fun g129 => (wP rfl (wl_nil (we_then (wc_keep [12,126,11,76,9,46,6,5,19,3,2,0] (S' := [_,_,_,_,_,_,_,_,_,_,_,_]) rfl (wc_seq (wc_seq (wc_region ?_))))))))))))))
     refine wP rfl (wl_nil (we_then (wc_block (wc_loop (σ := List Cel × Nat) (fun s => s.2 ≤ 64 ∧ s.1.length = 64) (fun s => 64 - s.2) (fun s => [(13, .int .i64 ((s.2 : Nat) : Int)), (12, .slice (some ⟨g129,0, none⟩) 64 64), (126, .bool (decide (((s7.2.2 : Nat) : Int) < ((hs.length : Nat) : Int)))), (11, .int .i64 ((s7.2.2 : Nat) : Int)), (76, .bool (decide (((s5 : Nat) : Int) < ((hs.length : Nat) : Int)))), (9, .int .i64 ((s5 : Nat) : Int)), (46, .bool (decide (((s3.2.2 : Nat) : Int) < ((hs.length : Nat) : Int)))), (6, .int .i64 ((s3.2.2 : Nat) : Int)), (5, .slice (some ⟨g42,0, none⟩) hs.length hs.length), (19, .bool (decide (((s1.2 : Nat) : Int) < ((hs.length : Nat) : Int)))), (3, .int .i64 ((s1.2 : Nat) : Int)), (2, .bool false), (0, .slice p hs.length c)]) (fun s => []) (fun s => [.own 149 3 celR (.slice (some ⟨g129,0, none⟩) 64 64) s.1, .own 27 1 hdrR (.slice (some ⟨g42,0, none⟩) hs.length hs.length) s7.1, .own 27 1 hdrR (.slice p hs.length c) hs, flatF 149 3 s7.2.1]) (List.replicate 64 (none : Cel), 0) ⟨Nat.zero_le _, by simp⟩ [13,12,126,11,76,9,46,6,5,19,3,2,0] rfl (asK [] rfl) rfl (fun s8 oks8 => (wc_seq (wc_seq (wc_region (wP rfl (wP rfl (wl_nil (we_then (wc_keep [131,13,12,126,11,76,9,46,6,5,19,3,2,0] (S' := [_,_,_,_,_,_,_,_,_,_,_,_,_,_]) rfl ?_)))))))))))))
     refine wc_cond rfl (fun h131 => ?_) (fun h131 => ?_)
     ·
      replace h131 := of_decide_eq_true h131
      refine wc_skip (we_then (wc_seq (wc_block (wc_region (wP rfl (wP rfl (wP rfl (wP rfl (wN rfl tE_87 (wP rfl (wl_as (d := 139) (v' := .int .i64 ((s7.2.2 + hs.length : Nat) : Int)) (S' := [_,_,_,_,_,_,_,_,_,_,_,_,_,_,_,_,_,_,_]) rfl rfl (nat_add (a := s7.2.2) (b := hs.length) (by omega)) (wP rfl (wC [] [0,1,2,3] rfl fn_97 rfl (z_markValue_s ((s7.2.2 + hs.length : Nat) : Int) ((s8.2 : Nat) : Int)) (asK [] rfl) rfl (H' := [_,_,_,_]) rfl ?_)))))))))))))
      rintro _ _ _ ⟨rfl, rfl, rfl⟩
      refine wl_indexK 0 s8.2 rfl rfl rfl (freshS_eq rfl) rfl rfl rfl rfl rfl (by rw [oks8.2]; omega) tE_27 tS_149 (wl_storeRow (u := some ([.int .u8 0, .int .i64 (z_markValue ((s7.2.2 + hs.length : Nat) : Int) ((s8.2 : Nat) : Int)), .string ((⟨#[]⟩ : ByteArray))] : List Value)) 0 s8.2 rfl rfl rfl rfl rfl (by rw [oks8.2]; omega) rfl rfl tS_149 rfl (fun _ _ _ => cel_some rfl) (H' := [_,_,_,_]) rfl (wl_nil (we_block_normal (we_then (wc_region (wP rfl (wP rfl (wl_as (d := 133) (v' := .int .i64 ((s8.2 + 1 : Nat) : Int)) (S' := [_,_,_,_,_,_,_,_,_,_,_,_,_,_,_,_,_,_,_,_,_,_,_,_]) rfl rfl (nat_add (a := s8.2) (b := 1) (by omega)) (wl_pure (S' := [_,_,_,_,_,_,_,_,_,_,_,_,_,_,_,_,_,_,_,_,_,_,_,_]) rfl rfl rfl rfl rfl (wl_nil ?_))))))))))
      refine we_round (s8.1.set s8.2 (some ([.int .u8 0, .int .i64 (z_markValue ((s7.2.2 + hs.length : Nat) : Int) ((s8.2 : Nat) : Int)), .string ((⟨#[]⟩ : ByteArray))] : List Value)), s8.2 + 1) (by show 64 - (s8.2 + 1) < _; omega) ⟨by show s8.2 + 1 ≤ 64; omega, by show (List.set _ _ _).length = 64; rw [List.length_set]; exact oks8.2⟩ [13,12,126,11,76,9,46,6,5,19,3,2,0] rfl (asK [] rfl) rfl
     ·
      replace h131 := of_decide_eq_false h131
      refine wc_exit (we_then_exit (we_then_exit (we_block_hit (we_then (wc_region (wP rfl (wP rfl (wP rfl (wP rfl (wl_indexH 2 s7.2.2 rfl rfl rfl (freshS_eq rfl) rfl rfl rfl rfl rfl hk7 tE_87 tS_27 (fun g147 eg147 => ?_)))))))))))
      subst eg147
      refine wl_loadRow hdr_opens 2 s7.2.2 0 rfl rfl rfl (freshS_eq rfl) rfl rfl rfl hy7 tS_27 tA_27 (v := fun _ => .slice y7.1 y7.2.1 y7.2.2) (fun _ => rfl) (fun _ => rfl) (fun _ _ => (wP rfl (wl_sh [.own 149 3 celR (.slice (some ⟨g129,0, none⟩) 64 64) s8.1, .own 27 1 hdrR (.slice (some ⟨g42,0, none⟩) hs.length hs.length) s7.1, .own 27 1 hdrR (.slice (some ⟨g147,0, none⟩) hs.length c) hs, flatF 149 3 (s7.2.1.set s7.2.2 ⟨r7.h, r7.l, r7.h, r7.l⟩)] (fun _ h => h.flReset 3 s7.2.2 rfl hr7) (wl_flAppO 3 s7.2.2 0 rfl rfl rfl (freshS_eq rfl) rfl rfl (set_eqT _ hr7) (by show _ = some (hdv r7.h); rw [hh7]; rfl) rfl rfl oks8.2 (by decide) tE_27 tR_149 rfl rfl (by show r7.l.length + _ ≤ _; rw [hl7, marks_len]; omega) (by show (r7.l.length + _) * _ ≤ _; rw [hl7, marks_len]; omega) (H2 := fun gh150 => [.own 149 3 celR (.slice (some ⟨g129,0, none⟩) 64 64) s8.1, .own 27 1 hdrR (.slice (some ⟨g42,0, none⟩) hs.length hs.length) s7.1, .own 27 1 hdrR (.slice (some ⟨g147,0, none⟩) hs.length c) hs, flatF 149 3 ((s7.2.1.set s7.2.2 ⟨r7.h, r7.l, r7.h, r7.l⟩).set s7.2.2 ⟨r7.h, r7.l, gh150, r7.l ++ s8.1⟩)]) (fun _ => rfl) (fun gh150 => (wl_drop 0 rfl (H' := [_,_,_]) rfl (wl_indexK 0 s7.2.2 rfl rfl rfl (freshS_eq rfl) rfl rfl rfl rfl rfl (by rw [oks7.2.2.1]; exact hk7) tE_87 tS_27 (wl_storeRow (u := gh150) 0 s7.2.2 rfl rfl rfl rfl rfl (by rw [oks7.2.2.1]; exact hk7) rfl rfl tS_27 rfl (fun _ _ _ => rfl) (H' := [_,_,_]) rfl (wl_nil (we_block_normal (we_then (wc_region (wP rfl (wP rfl (wl_as (d := 128) (v' := .int .i64 ((s7.2.2 + 1 : Nat) : Int)) (S' := [_,_,_,_,_,_,_,_,_,_,_,_,_,_,_,_,_,_,_,_,_,_,_,_]) rfl rfl (nat_add (a := s7.2.2) (b := 1) (by omega)) ?_)))))))))))))))
      refine wl_pure (S' := [_,_,_,_,_,_,_,_,_,_,_,_,_,_,_,_,_,_,_,_,_,_,_,_]) rfl rfl rfl rfl rfl (wl_nil ?_)
      refine we_round (s7.1.set s7.2.2 gh150, (s7.2.1.set s7.2.2 ⟨r7.h, r7.l, r7.h, r7.l⟩).set s7.2.2 ⟨r7.h, r7.l, gh150, r7.l ++ s8.1⟩, s7.2.2 + 1) (by show hs.length - (s7.2.2 + 1) < _; omega) ⟨by show s7.2.2 + 1 ≤ _; omega, oks7.2.app hy7 hr7 _ _⟩ [11,76,9,46,6,5,19,3,2,0] rfl (asK [] rfl) rfl
    ·
     replace h126 := of_decide_eq_false h126
     refine wc_exit (we_then_exit (we_then_exit (we_block_hit (we_then (wc_seq (wc_seq (wc_region (wP rfl (wl_nil (we_then (wc_block (wc_loop (σ := Nat) (fun s => s ≤ hs.length) (fun s => hs.length - s) (fun s => [(14, .int .i64 ((s : Nat) : Int)), (126, .bool (decide (((s7.2.2 : Nat) : Int) < ((hs.length : Nat) : Int)))), (11, .int .i64 ((s7.2.2 : Nat) : Int)), (76, .bool (decide (((s5 : Nat) : Int) < ((hs.length : Nat) : Int)))), (9, .int .i64 ((s5 : Nat) : Int)), (46, .bool (decide (((s3.2.2 : Nat) : Int) < ((hs.length : Nat) : Int)))), (6, .int .i64 ((s3.2.2 : Nat) : Int)), (5, .slice (some ⟨g42,0, none⟩) hs.length hs.length), (19, .bool (decide (((s1.2 : Nat) : Int) < ((hs.length : Nat) : Int)))), (3, .int .i64 ((s1.2 : Nat) : Int)), (2, .bool false), (0, .slice p hs.length c)]) (fun s => []) (fun s => [.own 27 1 hdrR (.slice (some ⟨g42,0, none⟩) hs.length hs.length) s7.1, .own 27 1 hdrR (.slice p hs.length c) hs, flatF 149 3 s7.2.1]) 0 (Nat.zero_le _) [14,126,11,76,9,46,6,5,19,3,2,0] rfl (asK [] rfl) rfl (fun s9 oks9 => (wc_seq ?_))))))))))))))
     refine wc_seq (wc_region (wP rfl (wP rfl (wN rfl tE_87 (wP rfl (wl_nil (we_then (wc_keep [155,14,126,11,76,9,46,6,5,19,3,2,0] (S' := [_,_,_,_,_,_,_,_,_,_,_,_,_]) rfl ?_))))))))
     refine wc_cond rfl (fun h155 => ?_) (fun h155 => ?_)
     ·
      replace h155 := of_decide_eq_true h155
      have hk9 : s9 < hs.length := by omega
      obtain ⟨y9, hy9⟩ : ∃ y, hs[s9]? = some y := ⟨_, List.getElem?_eq_getElem hk9⟩
      have hB9 : y9.2.1 ≤ 1073741824 := hb _ (List.mem_of_getElem? hy9)
      obtain ⟨r9, hr9, hh9, hl9, hg9, t9, hm9⟩ := oks7.2.look (by omega) hy9
      refine wc_flLen 2 rfl hr9 (fun hA9 hC9 => ?_)
      rw [hl9, marks_len] at hA9
      have hE9 := hC9
      rw [hm9, List.length_append, marks_len] at hE9
      refine wc_skip (we_then (wc_seq (wc_block (wc_seq (wc_region (wP rfl (wl_nil (we_then (wc_block (wc_loop (σ := Nat) (fun s => s ≤ y9.2.1) (fun s => y9.2.1 - s) (fun s => [(15, .int .i64 ((s : Nat) : Int)), (155, .bool (decide (((s9 : Nat) : Int) < ((hs.length : Nat) : Int)))), (14, .int .i64 ((s9 : Nat) : Int)), (126, .bool (decide (((s7.2.2 : Nat) : Int) < ((hs.length : Nat) : Int)))), (11, .int .i64 ((s7.2.2 : Nat) : Int)), (76, .bool (decide (((s5 : Nat) : Int) < ((hs.length : Nat) : Int)))), (9, .int .i64 ((s5 : Nat) : Int)), (46, .bool (decide (((s3.2.2 : Nat) : Int) < ((hs.length : Nat) : Int)))), (6, .int .i64 ((s3.2.2 : Nat) : Int)), (5, .slice (some ⟨g42,0, none⟩) hs.length hs.length), (19, .bool (decide (((s1.2 : Nat) : Int) < ((hs.length : Nat) : Int)))), (3, .int .i64 ((s1.2 : Nat) : Int)), (2, .bool false), (0, .slice p hs.length c)]) (fun s => []) (fun s => [.own 27 1 hdrR (.slice (some ⟨g42,0, none⟩) hs.length hs.length) s7.1, .own 27 1 hdrR (.slice p hs.length c) hs, flatF 149 3 s7.2.1]) 0 (Nat.zero_le _) [15,155,14,126,11,76,9,46,6,5,19,3,2,0] rfl (asK [] rfl) rfl (fun s10 oks10 => (wc_seq (wc_seq (wc_region ?_))))))))))))))
      refine wP rfl (wP rfl (wP rfl (wl_indexH 1 s9 rfl rfl rfl (freshS_eq rfl) rfl rfl rfl rfl rfl hk9 tE_87 tS_27 (fun g161 eg161 => ?_))))
      subst eg161
      refine wl_loadRow hdr_opens 1 s9 0 rfl rfl rfl (freshS_eq rfl) rfl rfl rfl hy9 tS_27 tA_27 (v := fun _ => .slice y9.1 y9.2.1 y9.2.2) (fun _ => rfl) (fun _ => rfl) (fun _ _ => (wN rfl tE_27 (wP rfl (wl_nil (we_then (wc_keep [164,15,155,14,126,11,76,9,46,6,5,19,3,2,0] (S' := [_,_,_,_,_,_,_,_,_,_,_,_,_,_,_]) rfl ?_))))))
      refine wc_cond rfl (fun h164 => ?_) (fun h164 => ?_)
      ·
       replace h164 := of_decide_eq_true h164
       refine wc_skip (we_then (wc_seq (wc_block (wc_seq (wc_draw [0,1,2,3,4,5,6,7,8,10,11,12,13,14,15,16,17,18,19,20,21,23,24,25] rfl rfl (fun hok => (xP hok 0 rfl (xP hok 1 rfl (wx_indexK hok 2 1 s9 rfl rfl rfl (freshS_eq rfl) rfl rfl rfl rfl rfl rfl hk9 tE_87 tS_27 (wx_loadRow hok 3 hdr_opens 1 s9 0 rfl rfl rfl (freshS_eq rfl) rfl rfl rfl rfl hy9 tS_27 tA_27 (v := .slice y9.1 y9.2.1 y9.2.2) rfl rfl (fun _ => (xP hok 4 rfl (wx_flIdxH hok 5 (p := y9.1) (m := y9.2.1) (cp := y9.2.2) 2 s9 s10 rfl rfl rfl (freshS_eq rfl) rfl rfl rfl hr9 hh9 rfl rfl rfl (by omega) (by rw [hl9, marks_len]) tE_27 tS_149 (fun g172 eg172 => (wx_flLoadH hok 6 2 s9 s10 rfl rfl rfl (freshS_eq rfl) rfl rfl rfl hr9 (hdr_eq hh9 eg172) rfl (cs := mc_markValue s9 s10) (by rw [hl9]; exact marks_at (by omega)) tS_149 tA_149 rfl (v := .agg #[.int .u8 0, .int .i64 (z_markValue ((s9 : Nat) : Int) ((s10 : Nat) : Int)), .string ((⟨#[]⟩ : ByteArray))]) rfl (xP hok 7 rfl ?_))))))))))))))))
       refine xP hok 8 rfl (xS hok 9 rfl (wC [] [0,1,2] rfl fn_97 rfl (z_markValue_s ((s9 : Nat) : Int) ((s10 : Nat) : Int)) (asK [] rfl) rfl (H' := [_,_,_]) rfl ?_))
       rintro _ _ _ ⟨rfl, rfl, rfl⟩
       refine wl_nil (we_x [] [2,1] rfl rfl (wx_bin hok 10 rfl rfl rfl (freshS_eq rfl) rfl rfl rfl rfl (eqlV _ _ (⟨0, z_markValue ((s9 : Nat) : Int) ((s10 : Nat) : Int), (⟨#[]⟩ : ByteArray)⟩ : V) (⟨0, z_markValue ((s9 : Nat) : Int) ((s10 : Nat) : Int), (⟨#[]⟩ : ByteArray)⟩ : V)) (wx_as (d := 177) (v' := .bool true) (S' := [_,_,_,_,_,_,_,_,_,_,_,_,_,_,_,_,_,_,_,_,_,_,_,_,_]) rfl rfl (congrArg Value.bool (by simp)) (xP hok 11 rfl (xP hok 12 rfl (xP hok 13 rfl (xP hok 14 rfl (wx_indexK hok 15 0 s9 rfl rfl rfl (freshS_eq rfl) rfl rfl rfl rfl rfl rfl (by rw [oks7.2.2.1]; exact hk9) tE_87 tS_27 (wx_loadRow hok 16 hdr_opens 0 s9 0 rfl rfl rfl (freshS_eq rfl) rfl rfl rfl rfl hg9 tS_27 tA_27 (v := .slice r9.g.1 r9.g.2.1 r9.g.2.2) rfl rfl (fun _ => (xP hok 17 rfl (wx_flIdxG hok 18 (p := r9.g.1) (m := r9.g.2.1) (cp := r9.g.2.2) 2 s9 s10 rfl rfl rfl (freshS_eq rfl) rfl rfl rfl hr9 rfl rfl rfl rfl (by omega) hC9.symm tE_27 tS_149 (fun g185 eg185 => (wx_flLoadG hok 19 2 s9 s10 rfl rfl rfl (freshS_eq rfl) rfl rfl rfl hr9 (hdr_eqG eg185) rfl (cs := mc_markValue s9 s10) (by rw [hm9]; exact app_at (by omega)) tS_149 tA_149 rfl (v := .agg #[.int .u8 0, .int .i64 (z_markValue ((s9 : Nat) : Int) ((s10 : Nat) : Int)), .string ((⟨#[]⟩ : ByteArray))]) rfl (xP hok 20 rfl ?_)))))))))))))))
       refine xP hok 21 rfl (xS hok 22 rfl (wC [] [0,1,2] rfl fn_97 rfl (z_markValue_s ((s9 : Nat) : Int) ((s10 : Nat) : Int)) (asK [] rfl) rfl (H' := [_,_,_]) rfl ?_))
       rintro _ _ _ ⟨rfl, rfl, rfl⟩
       refine wl_nil (we_x [] [2,0,2,1] rfl rfl (wx_bin hok 23 rfl rfl rfl (freshS_eq rfl) rfl rfl rfl rfl (eqlV _ _ (⟨0, z_markValue ((s9 : Nat) : Int) ((s10 : Nat) : Int), (⟨#[]⟩ : ByteArray)⟩ : V) (⟨0, z_markValue ((s9 : Nat) : Int) ((s10 : Nat) : Int), (⟨#[]⟩ : ByteArray)⟩ : V)) (wx_as (d := 190) (v' := .bool true) (S' := [_,_,_,_,_,_,_,_,_,_,_,_,_,_,_,_,_,_,_,_,_,_,_,_,_,_,_,_,_,_,_,_,_,_,_,_,_,_]) rfl rfl (congrArg Value.bool (by simp)) (xP hok 24 rfl (xP hok 25 rfl (wx_done hok rfl (we_then (wc_keep [192,164,15,155,14,126,11,76,9,46,6,5,19,3,2,0] (S' := [_,_,_,_,_,_,_,_,_,_,_,_,_,_,_,_]) rfl (wc_false rfl (wc_skip (we_block_normal (we_then (wc_region ?_)))))))))))))
       refine wP rfl (wP rfl (wl_as (d := 166) (v' := .int .i64 ((s10 + 1 : Nat) : Int)) (S' := [_,_,_,_,_,_,_,_,_,_,_,_,_,_,_,_,_]) rfl rfl (nat_add (a := s10) (b := 1) (by omega)) (wl_pure (S' := [_,_,_,_,_,_,_,_,_,_,_,_,_,_,_,_,_]) rfl rfl rfl rfl rfl (wl_nil ?_))))
       refine we_round (s10 + 1) (by omega) (by omega) [15,155,14,126,11,76,9,46,6,5,19,3,2,0] rfl (asK [] rfl) rfl
      ·
       replace h164 := of_decide_eq_false h164
       refine wc_exit (we_then_exit (we_then_exit (we_block_hit (we_block_normal (we_then (wc_region (wP rfl (wP rfl (wl_as (d := 157) (v' := .int .i64 ((s9 + 1 : Nat) : Int)) (S' := [_,_,_,_,_,_,_,_,_,_,_,_,_,_,_,_]) rfl rfl (nat_add (a := s9) (b := 1) (by omega)) (wl_pure (S' := [_,_,_,_,_,_,_,_,_,_,_,_,_,_,_,_]) rfl rfl rfl rfl rfl (wl_nil ?_)))))))))))
       refine we_round (s9 + 1) (by omega) (by omega) [14,126,11,76,9,46,6,5,19,3,2,0] rfl (asK [] rfl) rfl
     ·
      replace h155 := of_decide_eq_false h155
      refine wc_exit (we_then_exit (we_then_exit (we_block_hit (we_then (wc_seq (wc_region (wl_pure (S' := [_,_,_,_,_,_,_,_,_,_,_,_]) rfl rfl rfl rfl rfl (wl_nil (we_then (wc_ret (ret_one (Hr := [flatF 149 3 s7.2.1]) [2] Tryz.results69 (res_tmp rfl) ?_ (asK [] rfl) rfl rfl (.inl rfl))))))))))))
      exact ⟨_, oks7.2.left, rfl, rfl, rfl⟩
theorem w_ropewalkkit_SameFact_n_s (N : Nat) (a0 : Int) (a1 : Int) (a2 : Int) (a3 : Int) (o0 : Bool) (hm : m_ropewalkkit_SameFact_n N a0 a1 a2 a3 = some o0) : Spec Tryz.prog 101 [.agg #[.int .i64 a0, .int .i64 a1, .slice none 0 0], .agg #[.int .i64 a2, .int .i64 a3, .slice none 0 0]] [] [] (fun v Φr Hr => v = .bool o0 ∧ Φr = [] ∧ Hr = []) := by
 unfold m_ropewalkkit_SameFact_n at hm
 refine spec_of Tryz.func101 rfl Tryz.ntmps101 rfl (S := [_,_]) rfl (fun C => (wc_seq (wc_region (wB rfl (fun g2 => (wB rfl (fun g3 => (wP rfl (wl_nil (we_then (wc_keep [3,2] (S' := [_,_]) rfl (wc_seq (wc_region (wF rfl tF_55_0 (wD 1 0 rfl tS_3 tA_3 rfl (wF rfl tF_55_0 ?_))))))))))))))))
 refine wD 0 0 rfl tS_3 tA_3 rfl (wP rfl (wP rfl ?_))
 refine wl_split (d := 10) (S' := [_,_,_,_,_,_,_]) rfl rfl (fun hs10 => ?_) (fun hs10 => ?_)
 ·
  replace hm := iteT hm hs10
  refine wF rfl tF_55_1 (wD 1 1 rfl tS_3 tA_3 rfl (wF rfl tF_55_1 (wD 0 1 rfl tS_3 tA_3 rfl (wP rfl (wP rfl (wP rfl ?_))))))
  refine wl_split (d := 17) (S' := [_,_,_,_,_,_,_,_,_,_,_,_,_,_]) rfl rfl (fun hs17 => ?_) (fun hs17 => ?_)
  ·
   replace hm := iteT hm hs17
   refine wF rfl tF_55_2 (wD 1 2 rfl tS_27 tA_27 rfl (wF rfl tF_55_2 (wD 0 2 rfl tS_27 tA_27 rfl (wl_fact (.sli 3 R_V none 0 ([] : List V)) (fun _ _ _ => sli_none) (wl_fact (.sli 3 R_V none 0 ([] : List V)) (fun _ _ _ => sli_none) ?_)))))
   obtain ⟨v22, hc22, hm⟩ := bindO_some hm
   refine wC [] [0,1] rfl fn_60 rfl (w_ropewalkkit_SameValues_s N none 0 ([] : List V) none 0 ([] : List V) _ hc22) (asK [1,0] rfl) rfl (H' := [_,_]) rfl ?_
   rintro _ _ _ ⟨rfl, rfl, rfl⟩
   refine wP rfl (wP rfl (wl_nil (we_then (wc_keep [4] (S' := [_]) rfl (wc_ret ?_)))))
   have hE := (Option.some.inj hm).symm
   replace hE := hE.symm
   subst hE
   refine ret_one (Hr := []) [] Tryz.results101 (res_tmp rfl) ⟨rfl, rfl, rfl⟩ (asK [] rfl) rfl rfl (.inl rfl)
  ·
   replace hm := iteF hm hs17
   refine wO rfl (wO rfl (wO rfl (wO rfl (wO rfl (wP rfl (wP rfl (wl_nil (we_then (wc_keep [4] (S' := [_]) rfl (wc_ret ?_))))))))))
   have hE := (Option.some.inj hm).symm
   replace hE := hE.symm
   subst hE
   refine ret_one (Hr := []) [] Tryz.results101 (res_tmp rfl) ⟨rfl, rfl, rfl⟩ (asK [] rfl) rfl rfl (.inl rfl)
 ·
  replace hm := iteF hm hs10
  refine wO rfl (wO rfl (wO rfl (wO rfl (wO rfl (wP rfl (wP rfl (wO rfl (wO rfl (wO rfl (wO rfl (wO rfl (wP rfl (wP rfl ?_)))))))))))))
  refine wl_nil (we_then (wc_keep [4] (S' := [_]) rfl (wc_ret ?_)))
  have hE := (Option.some.inj hm).symm
  replace hE := hE.symm
  subst hE
  refine ret_one (Hr := []) [] Tryz.results101 (res_tmp rfl) ⟨rfl, rfl, rfl⟩ (asK [] rfl) rfl rfl (.inl rfl)
end Go.Proofs.YtighbinghbnjhaaGreat
