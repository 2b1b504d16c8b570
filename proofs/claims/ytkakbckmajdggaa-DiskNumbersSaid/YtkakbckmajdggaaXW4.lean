import Derived.Test.YtkakbckmajdggaaXW3
namespace Go.Proofs.Ytkakbckmajdggaa
open Go.RowKit
set_option maxRecDepth 100000
set_option maxHeartbeats 4000000
theorem w_ropewalkref17_Disk_Read_s (N : Nat) (qg0 : Nat) (a0 : Int) (qp1 : Option Addr) (qn2 : Nat) (qc3 : Nat) (l1 : List Ropewalkref17_entryD) (a2 : ByteArray) (o2 : List Int) (o3 : Nat) (hm : m_ropewalkref17_Disk_Read N a0 l1 a2 = some (o2, o3)) : Spec Try.prog 73 [.pointer (some ⟨qg0,0, none⟩), .string a2] [] [.blk qg0 [.int .i64 a0, .slice qp1 qn2 qc3] 85, .own 87 3 R_Ropewalkref17_entryD (.slice qp1 qn2 qc3) l1] (fun v Φr Hr => ∃ (o0 : Option Addr) (o1 : Nat), v = .tuple #[.slice o0 o2.length o1, .int .i64 ((o3 : Nat) : Int)] ∧ Φr = [.sli 1 R_u8 o0 o1 o2] ∧ Hr = [.blk qg0 [.int .i64 a0, .slice qp1 qn2 qc3] 85, .own 87 3 R_Ropewalkref17_entryD (.slice qp1 qn2 qc3) l1]) := by
 unfold m_ropewalkref17_Disk_Read at hm
 refine spec_of Try.func73 rfl Try.ntmps73 rfl (S := [_,_]) rfl (fun C => (wc_seq (wc_region (wP rfl (wP rfl (wl_nil (we_then (wc_keep [0,1] (S' := [_,_]) rfl (wc_seq (wc_region (wP rfl (wP rfl ?_))))))))))))
 obtain ⟨⟨v12_0, v12_1, v12_2, v12_3, v12_4⟩, hc12, hm⟩ := bindO_some hm
 try dsimp only at hm
 refine wC [0,1] [] rfl fn_75 rfl (w_ropewalkref17_Disk_split_s N qg0 a0 qp1 qn2 qc3 l1 a2 _ _ _ _ _ hc12) (asK [] rfl) rfl (H' := []) rfl ?_
 rintro _ _ _ ⟨p12_0, c12_1, c12_2, rfl, rfl, rfl⟩
 refine wP rfl (wP rfl (wP rfl (wP rfl (wl_alloc rfl rfl rfl (freshS_eq rfl) rfl tZ_87 rfl (fun g6 => (wS 0 0 rfl tS_87 (all' := [_,_,_]) rfl (H' := [_,_,_,_]) rfl (wP rfl (wP rfl (wl_nil (we_then (wc_keep [8,6] (S' := [_,_]) rfl (wc_seq (wc_seq (wc_region ?_))))))))))))))
 refine wP rfl (wl_nil (we_then (wc_keep [16,6] (S' := [_,_]) rfl ?_)))
 refine wc_cond rfl (fun hb16 => ?_) (fun hb16 => ?_)
 ·
  replace hm := iteT hm hb16
  refine wc_keep [6] (S' := [_]) rfl (wc_seq (wc_region (wl_loadH 0 0 rfl rfl rfl (freshS_eq rfl) rfl rfl rfl (cs := [_,_,_]) rfl tS_87 tA_87 rfl rfl ?_)))
  obtain ⟨_, hc18, hm⟩ := bindO_some hm
  try dsimp only at hm
  refine wC [] [0,1,2,3] rfl fn_74 rfl (w_ropewalkref17_entry_whole_s N v12_0 v12_1 v12_2 hc18) (asK [] rfl) rfl (H' := [_,_,_,_]) rfl ?_
  rintro _ _ _ ⟨rfl, rfl, rfl⟩
  obtain ⟨hb19, hm⟩ := gd_some hm
  refine wl_strBytes (R := R_u8) rfl rfl rfl (freshS_eq rfl) rfl rfl tD_9 tD_27 tD_5 hb19 (fun _ _ _ => ⟨(), rfl, fun _ h => by cases h⟩) (fun g19 c19 => (wP rfl (wP rfl (wl_nil (we_then (wc_keep [5,4] (S' := [_,_]) rfl (wc_ret (we_then_ret ?_))))))))
  have hE := (Option.some.inj hm).symm
  obtain ⟨hE0, hE1⟩ := Prod.mk.inj hE
  clear hE
  replace hE0 := hE0.symm
  subst hE0
  replace hE1 := hE1.symm
  subst hE1
  refine ret_two (Hr := [_,_]) [2,3] Try.results73 (res_tmp rfl) (res_tmp rfl) ⟨some ⟨g19,0, none⟩, c19, rfl, rfl, rfl⟩ (asK [0] rfl) rfl rfl (.inl rfl)
 ·
  replace hm := iteF hm hb16
  refine wc_keep [] (S' := []) rfl (wc_skip (we_then (wc_seq (wc_region (wP rfl (wP rfl (wl_nil (we_then (wc_ret ?_)))))))))
  have hE := (Option.some.inj hm).symm
  obtain ⟨hE0, hE1⟩ := Prod.mk.inj hE
  clear hE
  replace hE0 := hE0.symm
  subst hE0
  replace hE1 := hE1.symm
  subst hE1
  refine we_fact (.sli 1 R_u8 none 0 ([] : List Int)) (fun _ _ _ => sli_none) ?_
  refine ret_two (Hr := [_,_]) [2,3] Try.results73 (res_tmp rfl) (res_tmp rfl) ⟨none, 0, rfl, rfl, rfl⟩ (asK [0] rfl) rfl rfl (.inl rfl)
theorem w_ropewalklaw17_both_file_s (N : Nat) (qg0 : Nat) (a0 : Int) (qb1 : Nat) (e1 : List (ByteArray × Disk_rowsD)) (qg2 : Nat) (a2 : Int) (qp3 : Option Addr) (qn4 : Nat) (qc5 : Nat) (l3 : List Ropewalkref17_entryD) (a4 : ByteArray) (o0 : Bool) (o1 : List (ByteArray × Disk_rowsD)) (hm : m_ropewalklaw17_both_file N a0 e1 a2 l3 a4 = some (o0, o1)) : Spec Try.prog 48 [.agg #[.pointer (some ⟨qg0,0, none⟩), .pointer (some ⟨qg2,0, none⟩)], .string a4] [] [.blk qg0 [.int .i64 a0, .map (some qb1)] 59, mapP (keyStr (tStr_run tT_9)) true R_Disk_rowsD qb1 e1, .blk qg2 [.int .i64 a2, .slice qp3 qn4 qc5] 85, .own 87 3 R_Ropewalkref17_entryD (.slice qp3 qn4 qc5) l3] (fun v Φr Hr => v = .bool o0 ∧ Φr = [] ∧ Hr = [.blk qg0 [.int .i64 a0, .map (some qb1)] 59, mapP (keyStr (tStr_run tT_9)) true R_Disk_rowsD qb1 o1, .blk qg2 [.int .i64 a2, .slice qp3 qn4 qc5] 85, .own 87 3 R_Ropewalkref17_entryD (.slice qp3 qn4 qc5) l3]) := by
 unfold m_ropewalklaw17_both_file at hm
 refine spec_of Try.func48 rfl Try.ntmps48 rfl (S := [_,_]) rfl (fun C => (wc_seq (wc_region (wB rfl (fun g2 => (wP rfl (wl_nil (we_then (wc_keep [2,1] (S' := [_,_]) rfl (wc_seq (wc_region (wF rfl tF_44_0 (wD 0 0 rfl tS_24 tA_24 rfl (wP rfl ?_))))))))))))))
 obtain ⟨⟨v13_0, v13_1, v13_2⟩, hc13, hm⟩ := bindO_some hm
 try dsimp only at hm
 refine wC [1,2] [0,3,4] rfl fn_17 rfl (w_disk_Disk_Read_s N qg0 a0 qb1 e1 a4 _ _ _ hc13) (asK [] rfl) rfl (H' := [_,_,_]) rfl ?_
 rintro _ _ _ ⟨p13_0, c13_1, c13_2, rfl, rfl, rfl⟩
 refine wP rfl (wP rfl (wP rfl (wP rfl (wP rfl (wl_nil (we_then (wc_keep [6,5,2,1] (S' := [_,_,_,_]) rfl (wc_seq (wc_region (wF rfl tF_44_1 (wD 3 1 rfl tS_42 tA_42 rfl (wP rfl ?_))))))))))))
 obtain ⟨⟨v20_0, v20_1⟩, hc20, hm⟩ := bindO_some hm
 try dsimp only at hm
 refine wC [4,5] [0,1,2,3] rfl fn_73 rfl (w_ropewalkref17_Disk_Read_s N qg2 a2 qp3 qn4 qc5 l3 a4 _ _ hc20) (asK [] rfl) rfl (H' := [_,_,_,_]) rfl ?_
 rintro _ _ _ ⟨p20_0, c20_1, rfl, rfl, rfl⟩
 refine wP rfl (wP rfl (wP rfl (wP rfl (wP rfl (wl_nil (we_then (wc_keep [8,7,6,5] (S' := [_,_,_,_]) rfl (wc_seq (wc_region (wP rfl (wP rfl (wP rfl (wl_as (d := 25) (v' := .bool (v13_1 == v20_1)) (S' := [_,_,_,_,_,_]) rfl rfl (nateq (a := v13_1) (b := v20_1)) ?_)))))))))))))
 refine wP rfl ?_
 refine wl_split (d := 26) (S' := [_,_,_,_,_,_,_]) rfl rfl (fun hs26 => ?_) (fun hs26 => ?_)
 ·
  replace hm := iteT hm hs26
  refine wP rfl (wP rfl (wl_ownLen 2 rfl (fun hzc13_2 _ => ?_)))
  subst hzc13_2
  obtain ⟨v29, hc29, hm⟩ := bindO_some hm
  refine wl_lend [] [0,1,2,3,4,5] [2] rfl rfl rfl (freshS_eq rfl) rfl rfl fn_18 rfl (w_ropewalkkit_SameBytes_s N p13_0 c13_1 v13_0 p20_0 c20_1 v20_0 _ hc29) (fun F w hφ hh => (ask_cons (own_sli (hh _ (mem_at (k := 0) rfl))) (ask_cons (hφ _ (mem_at (k := 0) rfl)) ask_nil))) (fun _ _ _ hR => by obtain ⟨rfl, rfl, rfl⟩ := hR; exact ⟨rfl, (fun _ h => free_nil h)⟩) rfl rfl (H' := [_,_,_,_,_,_]) rfl ?_
  rintro _ _ _ ⟨rfl, rfl, rfl⟩
  refine wP rfl (wP rfl (wl_nil (we_then (wc_keep [4] (S' := [_]) rfl (wc_ret ?_)))))
  have hE := (Option.some.inj hm).symm
  obtain ⟨hE0, hE1⟩ := Prod.mk.inj hE
  clear hE
  replace hE0 := hE0.symm
  subst hE0
  replace hE1 := hE1.symm
  subst hE1
  refine ret_one (Hr := [_,_,_,_]) [3,4,0,1] Try.results48 (res_tmp rfl) ⟨rfl, rfl, rfl⟩ (asK [] rfl) rfl rfl (.inl rfl)
 ·
  replace hm := iteF hm hs26
  refine wO rfl (wO rfl (wO rfl (wP rfl (wP rfl (wl_nil (we_then (wc_keep [4] (S' := [_]) rfl (wc_ret ?_))))))))
  have hE := (Option.some.inj hm).symm
  obtain ⟨hE0, hE1⟩ := Prod.mk.inj hE
  clear hE
  replace hE0 := hE0.symm
  subst hE0
  replace hE1 := hE1.symm
  subst hE1
  refine ret_one (Hr := [_,_,_,_]) [3,4,0,1] Try.results48 (res_tmp rfl) ⟨rfl, rfl, rfl⟩ (asK [] rfl) rfl rfl (.inl rfl)
theorem w_ropewalklaw17_both_agree_s (N : Nat) (qg0 : Nat) (a0 : Int) (qb1 : Nat) (e1 : List (ByteArray × Disk_rowsD)) (qg2 : Nat) (a2 : Int) (qp3 : Option Addr) (qn4 : Nat) (qc5 : Nat) (l3 : List Ropewalkref17_entryD) (o0 : Bool) (o1 : List (ByteArray × Disk_rowsD)) (hm : m_ropewalklaw17_both_agree N a0 e1 a2 l3 = some (o0, o1)) : Spec Try.prog 26 [.agg #[.pointer (some ⟨qg0,0, none⟩), .pointer (some ⟨qg2,0, none⟩)]] [] [.blk qg0 [.int .i64 a0, .map (some qb1)] 59, mapP (keyStr (tStr_run tT_9)) true R_Disk_rowsD qb1 e1, .blk qg2 [.int .i64 a2, .slice qp3 qn4 qc5] 85, .own 87 3 R_Ropewalkref17_entryD (.slice qp3 qn4 qc5) l3] (fun v Φr Hr => v = .bool o0 ∧ Φr = [] ∧ Hr = [.blk qg0 [.int .i64 a0, .map (some qb1)] 59, mapP (keyStr (tStr_run tT_9)) true R_Disk_rowsD qb1 o1, .blk qg2 [.int .i64 a2, .slice qp3 qn4 qc5] 85, .own 87 3 R_Ropewalkref17_entryD (.slice qp3 qn4 qc5) l3]) := by
 unfold m_ropewalklaw17_both_agree at hm
 refine spec_of Try.func26 rfl Try.ntmps26 rfl (S := [_]) rfl (fun C => (wc_seq (wc_region (wB rfl (fun g1 => (wP rfl (wl_nil (we_then (wc_keep [1] (S' := [_]) rfl (wc_seq (wc_region (wF rfl tF_44_1 (wD 0 1 rfl tS_42 tA_42 rfl ?_)))))))))))))
 obtain ⟨v8, hc8, hm⟩ := bindO_some hm
 refine wC [3,4] [0,1,2] rfl fn_50 rfl (w_ropewalkref17_Disk_List_s N qg2 a2 qp3 qn4 qc5 l3 _ hc8) (asK [] rfl) rfl (H' := [_,_,_]) rfl ?_
 rintro _ _ _ ⟨p8_0, c8_1, c8_2, rfl, rfl, rfl⟩
 refine wP rfl (wl_nil (we_then (wc_keep [3,1] (S' := [_,_]) rfl (wc_seq ?_))))
 obtain ⟨bj_1, hm, hLj_1⟩ := bindO_some hm
 unfold m_ropewalklaw17_both_agree_C1 at hm
 refine wc_cut (σ := Bool) (fun j_1_4 => bj_1 = j_1_4) (fun j_1_4 => [(3, .slice p8_0 c8_2 c8_1), (1, .pointer (some ⟨g1,0, none⟩)), (4, .bool j_1_4)]) (fun j_1_4 => []) (fun j_1_4 => [.own 9 1 R_str (.slice p8_0 c8_2 c8_1) v8, .blk g1 [.pointer (some ⟨qg0,0, none⟩), .pointer (some ⟨qg2,0, none⟩)] 44, .blk qg0 [.int .i64 a0, .map (some qb1)] 59, mapP (keyStr (tStr_run tT_9)) true R_Disk_rowsD qb1 e1, .blk qg2 [.int .i64 a2, .slice qp3 qn4 qc5] 85, .own 87 3 R_Ropewalkref17_entryD (.slice qp3 qn4 qc5) l3]) ?_ ?_
 ·
  obtain ⟨v11, hc11, hm⟩ := bindO_some hm
  obtain ⟨v13, hc13, hm⟩ := bindO_some hm
  rcases ite_some hm with ⟨hs14, hm⟩ | ⟨hs14, hm⟩
  ·
   obtain ⟨v17, hc17, hm⟩ := bindO_some hm
   obtain ⟨v20, hc20, hm⟩ := bindO_some hm
   refine wc_draw [0,1,3,5,6,7,9,10,12,13] rfl rfl (fun hok => (wx_fieldAddr hok 0 rfl rfl rfl (freshS_eq rfl) rfl rfl rfl tF_44_0 (wx_loadH hok 1 3 0 rfl rfl rfl (freshS_eq rfl) rfl rfl rfl rfl (cs := [_]) rfl tS_24 tA_24 rfl rfl (xP hok 3 rfl (xS hok 2 rfl (wC [4,5] [0,1,2,3] rfl fn_15 rfl (w_disk_Disk_List_s N qg0 a0 qb1 e1 _ hc11) (asK [] rfl) rfl (H' := [_,_,_,_]) rfl ?_))))))
   rintro _ _ _ ⟨p11_0, c11_1, c11_2, rfl, rfl, rfl⟩
   refine wl_nil (we_x [] [] rfl rfl (xS hok 4 rfl (wl_ownLen 0 rfl (fun hzc11_2 _ => ?_))))
   subst hzc11_2
   refine wl_ownLen 3 rfl (fun hzc8_2 _ => ?_)
   subst hzc8_2
   refine wl_lend [] [0,1,2,3,4,5,6] [0,3] rfl rfl rfl (freshS_eq rfl) rfl rfl fn_14 rfl (w_ropewalkkit_SameTexts_s N p11_0 c11_1 v11 p8_0 c8_1 v8 _ hc13) (fun F w hφ hh => (ask_cons (own_sli (hh _ (mem_at (k := 0) rfl))) (ask_cons (own_sli (hh _ (mem_at (k := 1) rfl))) ask_nil))) (fun _ _ _ hR => by obtain ⟨rfl, rfl, rfl⟩ := hR; exact ⟨rfl, (fun _ h => free_nil h)⟩) rfl rfl (H' := [_,_,_,_,_,_,_]) rfl ?_
   rintro _ _ _ ⟨rfl, rfl, rfl⟩
   refine wl_nil (we_x [] [6] rfl rfl (xP hok 5 rfl (wx_as (d := 14) (v' := .bool true) (S' := [_,_,_,_,_,_,_]) rfl rfl (bool_is hs14) (wx_fieldAddr hok 6 rfl rfl rfl (freshS_eq rfl) rfl rfl rfl tF_44_0 (wx_loadH hok 7 6 0 rfl rfl rfl (freshS_eq rfl) rfl rfl rfl rfl (cs := [_]) rfl tS_24 tA_24 rfl rfl (wx_fieldAddr hok 9 rfl rfl rfl (freshS_eq rfl) rfl rfl rfl tF_44_1 (wx_loadH hok 10 6 1 rfl rfl rfl (freshS_eq rfl) rfl rfl rfl rfl (cs := [_]) rfl tS_42 tA_42 rfl rfl (xS hok 8 rfl (wC [1,2] [0,3,4,5,6] rfl fn_19 rfl (w_disk_Disk_Used_s N qg0 a0 qb1 e1 _ hc17) (asK [] rfl) rfl (H' := [_,_,_,_,_]) rfl ?_)))))))))
   rintro _ _ _ ⟨rfl, rfl, rfl⟩
   refine wl_nil (we_x [] [6,6] rfl rfl (xS hok 11 rfl (wC [4,5] [0,1,2,3,6] rfl fn_51 rfl (w_ropewalkref17_Disk_Used_s N qg2 a2 qp3 qn4 qc5 l3 _ hc20) (asK [] rfl) rfl (H' := [_,_,_,_,_]) rfl ?_)))
   rintro _ _ _ ⟨rfl, rfl, rfl⟩
   refine wl_nil (we_x [] [6,6] rfl rfl (xP hok 12 rfl (wx_as (d := 21) (v' := .bool (v17 == v20)) (S' := [_,_,_,_,_,_,_,_,_,_,_,_,_,_]) rfl rfl (nateq (a := v17) (b := v20)) (xP hok 13 rfl (xS hok 14 rfl (wP rfl (wl_nil (we_x [] [] rfl rfl (wx_done hok rfl ?_)))))))))
   have hE := (Option.some.inj hm).symm
   refine we_pick [5,6,2,3,0,1] rfl (H' := [_,_,_,_,_,_]) rfl ?_
   refine we_join (v17 == v20) hE [3,1,4] rfl (asK [] rfl) rfl
  ·
   refine wc_draw [0,1,3,5,6,7,9,10,12,13] rfl rfl (fun hok => (wx_fieldAddr hok 0 rfl rfl rfl (freshS_eq rfl) rfl rfl rfl tF_44_0 (wx_loadH hok 1 3 0 rfl rfl rfl (freshS_eq rfl) rfl rfl rfl rfl (cs := [_]) rfl tS_24 tA_24 rfl rfl (xP hok 3 rfl (xS hok 2 rfl (wC [4,5] [0,1,2,3] rfl fn_15 rfl (w_disk_Disk_List_s N qg0 a0 qb1 e1 _ hc11) (asK [] rfl) rfl (H' := [_,_,_,_]) rfl ?_))))))
   rintro _ _ _ ⟨p11_0, c11_1, c11_2, rfl, rfl, rfl⟩
   refine wl_nil (we_x [] [] rfl rfl (xS hok 4 rfl (wl_ownLen 0 rfl (fun hzc11_2 _ => ?_))))
   subst hzc11_2
   refine wl_ownLen 3 rfl (fun hzc8_2 _ => ?_)
   subst hzc8_2
   refine wl_lend [] [0,1,2,3,4,5,6] [0,3] rfl rfl rfl (freshS_eq rfl) rfl rfl fn_14 rfl (w_ropewalkkit_SameTexts_s N p11_0 c11_1 v11 p8_0 c8_1 v8 _ hc13) (fun F w hφ hh => (ask_cons (own_sli (hh _ (mem_at (k := 0) rfl))) (ask_cons (own_sli (hh _ (mem_at (k := 1) rfl))) ask_nil))) (fun _ _ _ hR => by obtain ⟨rfl, rfl, rfl⟩ := hR; exact ⟨rfl, (fun _ h => free_nil h)⟩) rfl rfl (H' := [_,_,_,_,_,_,_]) rfl ?_
   rintro _ _ _ ⟨rfl, rfl, rfl⟩
   refine wl_nil (we_x [] [6] rfl rfl (xP hok 5 rfl (wx_as (d := 14) (v' := .bool false) (S' := [_,_,_,_,_,_,_]) rfl rfl (bool_is hs14) (xO hok 6 rfl (xO hok 7 rfl (xO hok 9 rfl (xO hok 10 rfl (xS hok 8 rfl (wO rfl (wl_nil (we_x [] [6] rfl rfl (xS hok 11 rfl (wO rfl ?_)))))))))))))
   refine wl_nil (we_x [] [6] rfl rfl (xO hok 12 rfl (xP hok 13 rfl (xS hok 14 rfl (wP rfl (wl_nil (we_x [] [] rfl rfl (wx_done hok rfl ?_))))))))
   have hE := (Option.some.inj hm).symm
   refine we_pick [3,6,1,2,4,5] rfl (H' := [_,_,_,_,_,_]) rfl ?_
   refine we_join false hE [3,1,4] rfl (asK [] rfl) rfl
 ·
  rintro j_1_4 hE
  try dsimp only
  have hm := hLj_1
  rw [hE] at hm
  refine wc_seq ?_
  obtain ⟨bj_2, hm, hLj_2⟩ := bindO_some hm
  refine wc_cut (σ := Bool × (List (ByteArray × Disk_rowsD))) (fun (j_2_4, j_2_r0_f1_m) => bj_2 = (j_2_4, j_2_r0_f1_m)) (fun (j_2_4, j_2_r0_f1_m) => [(4, .bool j_2_4)]) (fun (j_2_4, j_2_r0_f1_m) => []) (fun (j_2_4, j_2_r0_f1_m) => [.blk qg0 [.int .i64 a0, .map (some qb1)] 59, mapP (keyStr (tStr_run tT_9)) true R_Disk_rowsD qb1 j_2_r0_f1_m, .blk qg2 [.int .i64 a2, .slice qp3 qn4 qc5] 85, .own 87 3 R_Ropewalkref17_entryD (.slice qp3 qn4 qc5) l3]) ?_ ?_
  ·
   refine wc_seq (wc_region (wP rfl (wl_nil (we_then (wc_block (wc_loop (σ := Nat × Nat × (List (ByteArray × Disk_rowsD)) × Bool) (fun (nu1, u1_5, u1_1_f0_f1_m, u1_4) => iter (m_ropewalklaw17_both_agree_L1 N v8 a0 a2 l3) nu1 (u1_5, u1_1_f0_f1_m, u1_4) = some bj_2) (fun (nu1, u1_5, u1_1_f0_f1_m, u1_4) => nu1) (fun (nu1, u1_5, u1_1_f0_f1_m, u1_4) => [(5, .int .i64 ((u1_5 : Nat) : Int)), (3, .slice p8_0 c8_2 c8_1), (1, .pointer (some ⟨g1,0, none⟩)), (4, .bool u1_4)]) (fun (nu1, u1_5, u1_1_f0_f1_m, u1_4) => []) (fun (nu1, u1_5, u1_1_f0_f1_m, u1_4) => [.own 9 1 R_str (.slice p8_0 c8_2 c8_1) v8, .blk g1 [.pointer (some ⟨qg0,0, none⟩), .pointer (some ⟨qg2,0, none⟩)] 44, .blk qg0 [.int .i64 a0, .map (some qb1)] 59, mapP (keyStr (tStr_run tT_9)) true R_Disk_rowsD qb1 u1_1_f0_f1_m, .blk qg2 [.int .i64 a2, .slice qp3 qn4 qc5] 85, .own 87 3 R_Ropewalkref17_entryD (.slice qp3 qn4 qc5) l3]) (N, 0, e1, j_1_4) hm [5,3,1,4] rfl (asK [] rfl) rfl (fun s_ hm => ?_)))))))
   obtain ⟨nu1, u1_5, u1_1_f0_f1_m, u1_4⟩ := s_
   try dsimp only at hm ⊢
   obtain ⟨mu1, bu1, hnu1, hq, hLu1⟩ := iter_some hm
   clear hm
   subst hnu1
   replace hm := hq
   clear hq
   unfold m_ropewalklaw17_both_agree_L1 at hm
   try dsimp only at hm
   refine wc_seq (wc_seq ?_)
   obtain ⟨bj_3, hm, hLj_3⟩ := bindO_some hm
   refine wc_cut (σ := Bool) (fun j_3_29 => bj_3 = j_3_29) (fun j_3_29 => [(5, .int .i64 ((u1_5 : Nat) : Int)), (3, .slice p8_0 c8_2 c8_1), (1, .pointer (some ⟨g1,0, none⟩)), (4, .bool u1_4), (29, .bool j_3_29)]) (fun j_3_29 => []) (fun j_3_29 => [.own 9 1 R_str (.slice p8_0 c8_2 c8_1) v8, .blk g1 [.pointer (some ⟨qg0,0, none⟩), .pointer (some ⟨qg2,0, none⟩)] 44, .blk qg0 [.int .i64 a0, .map (some qb1)] 59, mapP (keyStr (tStr_run tT_9)) true R_Disk_rowsD qb1 u1_1_f0_f1_m, .blk qg2 [.int .i64 a2, .slice qp3 qn4 qc5] 85, .own 87 3 R_Ropewalkref17_entryD (.slice qp3 qn4 qc5) l3]) ?_ ?_
   ·
    refine wc_region (wP rfl (wP rfl (wl_ownLen 0 rfl (fun hl25 _ => (wN rfl tE_26 (wl_as (d := 25) (v' := .int .i64 ((v8.length : Nat) : Int)) (S' := [_,_,_,_,_,_]) rfl rfl (len_is hl25) (wP rfl (wl_as (d := 26) (v' := .bool (decide (u1_5 < v8.length))) (S' := [_,_,_,_,_,_,_]) rfl rfl (natlt (a := u1_5) (b := v8.length)) (wP rfl ?_)))))))))
    refine wl_split (d := 27) (S' := [_,_,_,_,_,_,_,_]) rfl rfl (fun hs27 => ?_) (fun hs27 => ?_)
    ·
     replace hm := iteT hm hs27
     refine wP rfl (wP rfl (wl_nil ?_))
     have hE := (Option.some.inj hm).symm
     refine we_join u1_4 hE [5,3,1,4,29] rfl (asK [] rfl) rfl
    ·
     replace hm := iteF hm hs27
     refine wO rfl (wP rfl (wl_nil ?_))
     have hE := (Option.some.inj hm).symm
     refine we_join false hE [5,3,1,4,29] rfl (asK [] rfl) rfl
   ·
    rintro j_3_29 hE
    try dsimp only
    have hm := hLj_3
    rw [hE] at hm
    refine wc_cond rfl (fun hb29 => ?_) (fun hb29 => ?_)
    ·
     replace hm := iteT hm hb29
     refine wc_keep [5,3,1] (S' := [_,_,_]) rfl (wc_skip (we_then (wc_seq (wc_block ?_))))
     obtain ⟨x35, hx35, hm⟩ := bindO_some hm
     obtain ⟨⟨v37_0, v37_1⟩, hc37, hm⟩ := bindO_some hm
     try dsimp only at hm
     refine wc_draw [0,1,2,3,4] rfl rfl (fun hok => (wx_loadH hok 0 1 0 rfl rfl rfl (freshS_eq rfl) rfl rfl rfl rfl (cs := [_,_]) rfl tS_44 tA_44 rfl rfl (xP hok 1 rfl (xP hok 2 rfl (wx_indexH hok 3 0 u1_5 rfl rfl rfl (freshS_eq rfl) rfl rfl rfl rfl rfl rfl (get_lt hx35) tE_26 tS_9 (fun g35 eg35 => ?_))))))
     subst eg35
     refine wx_loadRow hok 4 R_str_opens 0 u1_5 0 rfl rfl rfl (freshS_eq rfl) rfl rfl rfl rfl hx35 tS_9 tA_9 (v := .string x35) rfl rfl (fun _ => (xS hok 5 rfl (wC [2,3,4,5] [0,1] rfl fn_48 rfl (w_ropewalklaw17_both_file_s N qg0 a0 qb1 u1_1_f0_f1_m qg2 a2 qp3 qn4 qc5 l3 x35 _ _ hc37) (asK [] rfl) rfl (H' := [_,_]) rfl ?_)))
     rintro _ _ _ ⟨rfl, rfl, rfl⟩
     refine wl_nil (we_x [] [] rfl rfl (xS hok 6 rfl (wP rfl (wl_nil (we_x [] [] rfl rfl (wx_done hok rfl (we_block_normal (we_then (wc_keep [4,5,3,1] (S' := [_,_,_,_]) rfl (wc_region (wP rfl (wP rfl ?_))))))))))))
     obtain ⟨hg31, hm⟩ := gd_some hm
     refine wl_as (d := 31) (v' := .int .i64 ((u1_5 + 1 : Nat) : Int)) (S' := [_,_,_,_,_]) rfl rfl (nat_add (a := u1_5) (b := 1) hg31) (wl_pure (S' := [_,_,_,_,_]) rfl rfl rfl rfl rfl (wl_nil ?_))
     have hE := (Option.some.inj hm).symm
     replace hE := link_inl hLu1 hE
     refine we_pick [4,5,0,1,2,3] rfl (H' := [_,_,_,_,_,_]) rfl ?_
     refine we_roundK (_, u1_5 + 1, v37_1, v37_0) (Nat.lt_succ_self _) hE [5,3,1,4] rfl (asK [] rfl) rfl
    ·
     replace hm := iteF hm hb29
     refine wc_keep [4] (S' := [_]) rfl (wc_exit (we_then_exit (we_then_exit (we_block_hit ?_))))
     have hE := (Option.some.inj hm).symm
     replace hE := link_inr hLu1 hE
     refine we_pick [2,3,4,5] rfl (H' := [_,_,_,_]) rfl ?_
     refine we_join (u1_4, u1_1_f0_f1_m) hE [4] rfl (asK [] rfl) rfl
  ·
   rintro ⟨j_2_4, j_2_r0_f1_m⟩ hE
   try dsimp only
   have hm := hLj_2
   rw [hE] at hm
   try dsimp only at hm
   refine wc_seq (wc_region (wP rfl (wP rfl (wl_nil (we_then (wc_keep [2] (S' := [_]) rfl (wc_ret ?_)))))))
   have hE := (Option.some.inj hm).symm
   obtain ⟨hE0, hE1⟩ := Prod.mk.inj hE
   clear hE
   replace hE0 := hE0.symm
   subst hE0
   replace hE1 := hE1.symm
   subst hE1
   refine ret_one (Hr := [_,_,_,_]) [0,1,2,3] Try.results26 (res_tmp rfl) ⟨rfl, rfl, rfl⟩ (asK [] rfl) rfl rfl (.inl rfl)
theorem w_ropewalklaw17_both_goes_s (N : Nat) (qg0 : Nat) (a0 : Int) (qb1 : Nat) (e1 : List (ByteArray × Disk_rowsD)) (qg2 : Nat) (a2 : Int) (qp3 : Option Addr) (qn4 : Nat) (qc5 : Nat) (l3 : List Ropewalkref17_entryD) (qp6 : Option Addr) (qc7 : Nat) (l4 : List Ropewalklaw17_DoD) (a5 : Int) (a6 : Int) (o0 : Bool) (o1 : List (ByteArray × Disk_rowsD)) (o4 : List Ropewalkref17_entryD) (hm : m_ropewalklaw17_both_goes N a0 e1 a2 l3 l4 a5 a6 = some (o0, o1, o4)) : Spec Try.prog 22 [.agg #[.pointer (some ⟨qg0,0, none⟩), .pointer (some ⟨qg2,0, none⟩)], .slice qp6 l4.length qc7, .int .i64 a5, .int .i64 a6] [.sli 5 R_Ropewalklaw17_DoD qp6 qc7 l4] [.blk qg0 [.int .i64 a0, .map (some qb1)] 59, mapP (keyStr (tStr_run tT_9)) true R_Disk_rowsD qb1 e1, .blk qg2 [.int .i64 a2, .slice qp3 qn4 qc5] 85, .own 87 3 R_Ropewalkref17_entryD (.slice qp3 qn4 qc5) l3] (fun v Φr Hr => ∃ (o2 : Option Addr) (o3 : Nat) (o5 : Nat), v = .bool o0 ∧ Φr = [] ∧ Hr = [.blk qg0 [.int .i64 a0, .map (some qb1)] 59, mapP (keyStr (tStr_run tT_9)) true R_Disk_rowsD qb1 o1, .blk qg2 [.int .i64 a2, .slice o2 o5 o3] 85, .own 87 3 R_Ropewalkref17_entryD (.slice o2 o5 o3) o4]) := by
 unfold m_ropewalklaw17_both_goes at hm
 refine spec_of Try.func22 rfl Try.ntmps22 rfl (S := [_,_,_,_]) rfl (fun C => (wc_seq (wc_region (wB rfl (fun g4 => (wP rfl (wl_nil (we_then (wc_keep [4,1,2,3] (S' := [_,_,_,_]) rfl (wc_seq ?_))))))))))
 obtain ⟨bj_1, hm, hLj_1⟩ := bindS_some hm
 refine wc_cut (σ := (List (ByteArray × Disk_rowsD)) × (List Ropewalkref17_entryD) × (Option Addr) × Nat × Nat) (fun (j_1_r0_f1_m, j_1_r2_f1_l, j_1_r2_f1_p, j_1_r2_f1_c, j_1_r2_f1_n) => bj_1 = .inl (j_1_r0_f1_m, j_1_r2_f1_l)) (fun (j_1_r0_f1_m, j_1_r2_f1_l, j_1_r2_f1_p, j_1_r2_f1_c, j_1_r2_f1_n) => []) (fun (j_1_r0_f1_m, j_1_r2_f1_l, j_1_r2_f1_p, j_1_r2_f1_c, j_1_r2_f1_n) => []) (fun (j_1_r0_f1_m, j_1_r2_f1_l, j_1_r2_f1_p, j_1_r2_f1_c, j_1_r2_f1_n) => [.blk qg0 [.int .i64 a0, .map (some qb1)] 59, mapP (keyStr (tStr_run tT_9)) true R_Disk_rowsD qb1 j_1_r0_f1_m, .blk qg2 [.int .i64 a2, .slice j_1_r2_f1_p j_1_r2_f1_n j_1_r2_f1_c] 85, .own 87 3 R_Ropewalkref17_entryD (.slice j_1_r2_f1_p j_1_r2_f1_n j_1_r2_f1_c) j_1_r2_f1_l]) ?_ ?_
 ·
  refine wc_seq (wc_region (wP rfl (wP rfl (wl_nil (we_then (wc_keep [9,4,1,3] (S' := [_,_,_,_]) rfl (wc_block (wc_loop (σ := Nat × Int × (List (ByteArray × Disk_rowsD)) × (List Ropewalkref17_entryD) × (Option Addr) × Nat × Nat) (fun (nu1, u1_9, u1_4_f0_f1_m, u1_4_f1_f1_l, u1_4_f1_f1_p, u1_4_f1_f1_c, u1_4_f1_f1_n) => iter (m_ropewalklaw17_both_goes_L1 N a6 l4 a0 a2) nu1 (u1_9, u1_4_f0_f1_m, u1_4_f1_f1_l) = some bj_1) (fun (nu1, u1_9, u1_4_f0_f1_m, u1_4_f1_f1_l, u1_4_f1_f1_p, u1_4_f1_f1_c, u1_4_f1_f1_n) => nu1) (fun (nu1, u1_9, u1_4_f0_f1_m, u1_4_f1_f1_l, u1_4_f1_f1_p, u1_4_f1_f1_c, u1_4_f1_f1_n) => [(9, .int .i64 u1_9), (4, .pointer (some ⟨g4,0, none⟩)), (1, .slice qp6 l4.length qc7), (3, .int .i64 a6)]) (fun (nu1, u1_9, u1_4_f0_f1_m, u1_4_f1_f1_l, u1_4_f1_f1_p, u1_4_f1_f1_c, u1_4_f1_f1_n) => [.sli 5 R_Ropewalklaw17_DoD qp6 qc7 l4]) (fun (nu1, u1_9, u1_4_f0_f1_m, u1_4_f1_f1_l, u1_4_f1_f1_p, u1_4_f1_f1_c, u1_4_f1_f1_n) => [.blk g4 [.pointer (some ⟨qg0,0, none⟩), .pointer (some ⟨qg2,0, none⟩)] 44, .blk qg0 [.int .i64 a0, .map (some qb1)] 59, mapP (keyStr (tStr_run tT_9)) true R_Disk_rowsD qb1 u1_4_f0_f1_m, .blk qg2 [.int .i64 a2, .slice u1_4_f1_f1_p u1_4_f1_f1_n u1_4_f1_f1_c] 85, .own 87 3 R_Ropewalkref17_entryD (.slice u1_4_f1_f1_p u1_4_f1_f1_n u1_4_f1_f1_c) u1_4_f1_f1_l]) (N, a5, e1, l3, qp3, qc5, qn4) hm [9,4,1,3] rfl (asK [0] rfl) rfl (fun s_ hm => ?_)))))))))
  obtain ⟨nu1, u1_9, u1_4_f0_f1_m, u1_4_f1_f1_l, u1_4_f1_f1_p, u1_4_f1_f1_c, u1_4_f1_f1_n⟩ := s_
  try dsimp only at hm ⊢
  obtain ⟨mu1, bu1, hnu1, hq, hLu1⟩ := iter_some hm
  clear hm
  subst hnu1
  replace hm := hq
  clear hq
  unfold m_ropewalklaw17_both_goes_L1 at hm
  try dsimp only at hm
  refine wc_seq (wc_seq (wc_region (wP rfl (wP rfl (wP rfl (wl_nil (we_then (wc_keep [15,9,4,1,3] (S' := [_,_,_,_,_]) rfl ?_))))))))
  refine wc_cond rfl (fun hb15 => ?_) (fun hb15 => ?_)
  ·
   replace hm := iteT hm hb15
   refine wc_keep [9,4,1,3] (S' := [_,_,_,_]) rfl (wc_skip (we_then (wc_seq (wc_block (wc_seq ?_)))))
   obtain ⟨hn22, hm⟩ := gd_some hm
   obtain ⟨x22, hx22, hm⟩ := bindO_some hm
   obtain ⟨⟨v24_0, v24_1, v24_2, v24_3⟩, hc24, hm⟩ := bindO_some hm
   try dsimp only at hm
   refine wc_draw [0,1,2,3,4,6,7,8] rfl rfl (fun hok => (wx_loadH hok 0 0 0 rfl rfl rfl (freshS_eq rfl) rfl rfl rfl rfl (cs := [_,_]) rfl tS_44 tA_44 rfl rfl (xP hok 1 rfl (xP hok 2 rfl (wx_indexA hok 3 0 u1_9.toNat rfl rfl rfl (freshS_eq rfl) rfl rfl rfl rfl rfl (toNat_eq hn22) hx22 tE_40 tS_54 (fun b22 q22 cs22 hlx22 => (wx_openR R_Ropewalklaw17_DoD_opens 1 rfl (fun r22 er22 _ => ?_))))))))
   subst er22
   refine wx_load hok 4 1 0 rfl rfl rfl (freshS_eq rfl) rfl rfl rfl rfl (cs := [_,_,_,_,_]) rfl tS_54 tA_54 rfl rfl (xS hok 5 rfl (wC [1,2,3,4] [0] rfl fn_27 rfl (w_ropewalklaw17_both_errors_s N qg0 a0 qb1 u1_4_f0_f1_m qg2 a2 u1_4_f1_f1_p u1_4_f1_f1_n u1_4_f1_f1_c u1_4_f1_f1_l x22.op x22.name x22.to_ r22.1 r22.2 x22.b x22.n _ _ _ _ hc24) (asK [0] rfl) rfl (H' := [_]) rfl ?_))
   rintro _ _ _ ⟨p24_0, c24_1, c24_2, rfl, rfl, rfl⟩
   refine wl_nil (we_x [0,1,2,3] [] rfl rfl (xP hok 6 rfl (xP hok 7 rfl (xP hok 8 rfl (xS hok 9 rfl (wP rfl (wl_nil (we_x [0,1,2,3] [] rfl rfl (xS hok 10 rfl (wP rfl (wl_nil (we_x [0,1,2,3] [] rfl rfl (wx_done hok rfl ?_)))))))))))))
   refine we_then (wc_keep [11,10,9,4,1,3] (S' := [_,_,_,_,_,_]) rfl (wc_seq ?_))
   obtain ⟨bj_2, hm, hLj_2⟩ := bindO_some hm
   unfold m_ropewalklaw17_both_goes_C2 at hm
   refine wc_cut (σ := (List (ByteArray × Disk_rowsD)) × Bool) (fun (j_2_4_f0_f1_m, j_2_44) => bj_2 = (j_2_4_f0_f1_m, j_2_44)) (fun (j_2_4_f0_f1_m, j_2_44) => [(9, .int .i64 u1_9), (4, .pointer (some ⟨g4,0, none⟩)), (1, .slice qp6 l4.length qc7), (3, .int .i64 a6), (44, .bool j_2_44)]) (fun (j_2_4_f0_f1_m, j_2_44) => [.sli 5 R_Ropewalklaw17_DoD qp6 qc7 l4]) (fun (j_2_4_f0_f1_m, j_2_44) => [.blk g4 [.pointer (some ⟨qg0,0, none⟩), .pointer (some ⟨qg2,0, none⟩)] 44, .blk qg0 [.int .i64 a0, .map (some qb1)] 59, mapP (keyStr (tStr_run tT_9)) true R_Disk_rowsD qb1 j_2_4_f0_f1_m, .blk qg2 [.int .i64 a2, .slice p24_0 c24_2 c24_1] 85, .own 87 3 R_Ropewalkref17_entryD (.slice p24_0 c24_2 c24_1) v24_3]) ?_ ?_
   ·
    rcases ite_some hm with ⟨hs30, hm⟩ | ⟨hs30, hm⟩
    ·
     refine wc_draw [0,1,2,3,4,6,7,8,9,10,11,12,13,14,16,17] rfl rfl (fun hok => (xP hok 0 rfl (xP hok 1 rfl (xP hok 2 rfl (xP hok 3 rfl (wx_as (d := 30) (v' := .bool true) (S' := [_,_,_,_,_,_,_,_,_]) rfl rfl (bool_is hs30) (xO hok 4 rfl (xS hok 5 rfl (wO rfl (wl_nil (we_x [0,1,2,3] [] rfl rfl (xO hok 6 rfl (xP hok 7 rfl (xP hok 8 rfl ?_))))))))))))))
     refine xO hok 9 rfl (xO hok 10 rfl (xO hok 11 rfl (xO hok 12 rfl (xO hok 13 rfl (xO hok 14 rfl (xS hok 15 rfl (wO rfl (wl_nil (we_x [0,1,2,3] [] rfl rfl (xO hok 16 rfl (xP hok 17 rfl (wx_done hok rfl ?_))))))))))))
     have hE := (Option.some.inj hm).symm
     refine we_pick [4,0,1,2,3] rfl (H' := [_,_,_,_,_]) rfl ?_
     refine we_join (v24_2, true) hE [9,4,1,3,44] rfl (asK [3] rfl) rfl
    ·
     obtain ⟨⟨v32_0, v32_1⟩, hc32, hm⟩ := bindO_some hm
     try dsimp only at hm
     rcases ite_some hm with ⟨hs35, hm⟩ | ⟨hs35, hm⟩
     ·
      refine wc_draw [0,1,2,3,4,6,7,8,9,10,11,12,13,14,16,17] rfl rfl (fun hok => (xP hok 0 rfl (xP hok 1 rfl (xP hok 2 rfl (xP hok 3 rfl (wx_as (d := 30) (v' := .bool false) (S' := [_,_,_,_,_,_,_,_,_]) rfl rfl (bool_is hs30) (wx_loadH hok 4 4 0 rfl rfl rfl (freshS_eq rfl) rfl rfl rfl rfl (cs := [_,_]) rfl tS_44 tA_44 rfl rfl (xS hok 5 rfl (wC [0,1,2,3] [4] rfl fn_26 rfl (w_ropewalklaw17_both_agree_s N qg0 a0 qb1 v24_2 qg2 a2 p24_0 c24_2 c24_1 v24_3 _ _ hc32) (asK [] rfl) rfl (H' := [_]) rfl ?_)))))))))
      rintro _ _ _ ⟨rfl, rfl, rfl⟩
      refine wl_nil (we_x [0,1,2,3] [] rfl rfl (xP hok 6 rfl (xP hok 7 rfl (xP hok 8 rfl (wx_as (d := 35) (v' := .bool true) (S' := [_,_,_,_,_,_,_,_,_,_,_,_,_,_]) rfl rfl (bool_is hs35) (xO hok 9 rfl (xO hok 10 rfl (xO hok 11 rfl (xO hok 12 rfl (xO hok 13 rfl (xO hok 14 rfl (xS hok 15 rfl (wO rfl ?_)))))))))))))
      refine wl_nil (we_x [0,1,2,3] [4] rfl rfl (xO hok 16 rfl (xP hok 17 rfl (wx_done hok rfl ?_))))
      have hE := (Option.some.inj hm).symm
      refine we_pick [4,0,1,2,3] rfl (H' := [_,_,_,_,_]) rfl ?_
      refine we_join (v32_1, true) hE [9,4,1,3,44] rfl (asK [3] rfl) rfl
     ·
      obtain ⟨hn39, hm⟩ := gd_some hm
      obtain ⟨x39, hx39, hm⟩ := bindO_some hm
      obtain ⟨⟨v42_0, v42_1⟩, hc42, hm⟩ := bindO_some hm
      try dsimp only at hm
      refine wc_draw [0,1,2,3,4,6,7,8,9,10,11,12,13,14,16,17] rfl rfl (fun hok => (xP hok 0 rfl (xP hok 1 rfl (xP hok 2 rfl (xP hok 3 rfl (wx_as (d := 30) (v' := .bool false) (S' := [_,_,_,_,_,_,_,_,_]) rfl rfl (bool_is hs30) (wx_loadH hok 4 4 0 rfl rfl rfl (freshS_eq rfl) rfl rfl rfl rfl (cs := [_,_]) rfl tS_44 tA_44 rfl rfl (xS hok 5 rfl (wC [0,1,2,3] [4] rfl fn_26 rfl (w_ropewalklaw17_both_agree_s N qg0 a0 qb1 v24_2 qg2 a2 p24_0 c24_2 c24_1 v24_3 _ _ hc32) (asK [] rfl) rfl (H' := [_]) rfl ?_)))))))))
      rintro _ _ _ ⟨rfl, rfl, rfl⟩
      refine wl_nil (we_x [0,1,2,3] [] rfl rfl (xP hok 6 rfl (xP hok 7 rfl (xP hok 8 rfl (wx_as (d := 35) (v' := .bool false) (S' := [_,_,_,_,_,_,_,_,_,_,_,_,_,_]) rfl rfl (bool_is hs35) (wx_loadH hok 9 4 0 rfl rfl rfl (freshS_eq rfl) rfl rfl rfl rfl (cs := [_,_]) rfl tS_44 tA_44 rfl rfl (xP hok 10 rfl (xP hok 11 rfl (wx_indexA hok 12 3 u1_9.toNat rfl rfl rfl (freshS_eq rfl) rfl rfl rfl rfl rfl (toNat_eq hn39) hx39 tE_40 tS_54 (fun b39 q39 cs39 hlx39 => (wx_openR R_Ropewalklaw17_DoD_opens 1 rfl (fun r39 er39 _ => ?_))))))))))))
      subst er39
      refine wx_fieldAddr hok 13 rfl rfl rfl (freshS_eq rfl) rfl rfl rfl tF_54_2 (wx_load hok 14 1 2 rfl rfl rfl (freshS_eq rfl) rfl rfl rfl rfl (cs := [_]) rfl tS_9 tA_9 rfl rfl (xS hok 15 rfl (wC [0,1,2,3] [4] rfl fn_48 rfl (w_ropewalklaw17_both_file_s N qg0 a0 qb1 v32_1 qg2 a2 p24_0 c24_2 c24_1 v24_3 x39.to_ _ _ hc42) (asK [] rfl) rfl (H' := [_]) rfl ?_)))
      rintro _ _ _ ⟨rfl, rfl, rfl⟩
      refine wl_nil (we_x [0,1,2,3,4,5,6] [4] rfl rfl (xP hok 16 rfl (xP hok 17 rfl (wx_done hok rfl ?_))))
      have hE := (Option.some.inj hm).symm
      refine we_pick [4,0,1,2,3] rfl (H' := [_,_,_,_,_]) rfl ?_
      refine we_join (v42_1, !v42_0) hE [9,4,1,3,44] rfl (asK [6] rfl) rfl
   ·
    rintro ⟨j_2_4_f0_f1_m, j_2_44⟩ hE
    try dsimp only
    have hm := hLj_2
    rw [hE] at hm
    try dsimp only at hm
    refine wc_cond rfl (fun hb44 => ?_) (fun hb44 => ?_)
    ·
     replace hm := iteT hm hb44
     refine wc_keep [] (S' := []) rfl (wc_seq (wc_region (wP rfl (wl_nil (we_then (wc_ret (we_block_ret (we_then_ret (we_then_ret (we_block_ret (we_then_ret ?_)))))))))))
     have hE := (Option.some.inj hm).symm
     replace hE := link_inr hLu1 hE
     replace hE := link_inr hLj_1 hE
     obtain ⟨hE0, hF1⟩ := Prod.mk.inj hE
     obtain ⟨hE1, hE2⟩ := Prod.mk.inj hF1
     clear hE hF1
     replace hE0 := hE0.symm
     subst hE0
     replace hE1 := hE1.symm
     subst hE1
     replace hE2 := hE2.symm
     subst hE2
     refine ret_one (Hr := [_,_,_,_]) [1,2,3,4] Try.results22 (res_tmp rfl) ⟨p24_0, c24_1, c24_2, rfl, rfl, rfl⟩ (asK [] rfl) rfl rfl (.inl rfl)
    ·
     replace hm := iteF hm hb44
     refine wc_keep [9,4,1,3] (S' := [_,_,_,_]) rfl (wc_skip (we_block_normal (we_then (wc_region (wP rfl (wP rfl ?_))))))
     obtain ⟨hg17, hm⟩ := gd_some hm
     refine wl_as (d := 17) (v' := .int .i64 (u1_9 + 1)) (S' := [_,_,_,_,_]) rfl rfl (i64_in hg17) (wl_pure (S' := [_,_,_,_,_]) rfl rfl rfl rfl rfl (wl_nil ?_))
     have hE := (Option.some.inj hm).symm
     replace hE := link_inl hLu1 hE
     refine we_roundK (_, u1_9 + 1, j_2_4_f0_f1_m, v24_3, p24_0, c24_1, c24_2) (Nat.lt_succ_self _) hE [9,4,1,3] rfl (asK [0] rfl) rfl
  ·
   replace hm := iteF hm hb15
   refine wc_keep [] (S' := []) rfl (wc_exit (we_then_exit (we_then_exit (we_block_hit ?_))))
   have hE := (Option.some.inj hm).symm
   replace hE := link_inr hLu1 hE
   refine we_pick [1,2,3,4] rfl (H' := [_,_,_,_]) rfl ?_
   refine we_join (u1_4_f0_f1_m, u1_4_f1_f1_l, u1_4_f1_f1_p, u1_4_f1_f1_c, u1_4_f1_f1_n) hE [] rfl (asK [] rfl) rfl
 ·
  rintro ⟨j_1_r0_f1_m, j_1_r2_f1_l, j_1_r2_f1_p, j_1_r2_f1_c, j_1_r2_f1_n⟩ hE
  try dsimp only
  have hm := link_inl hLj_1 hE
  try dsimp only at hm
  refine wc_seq (wc_region (wP rfl (wl_nil (we_then (wc_ret ?_)))))
  have hE := (Option.some.inj hm).symm
  obtain ⟨hE0, hF1⟩ := Prod.mk.inj hE
  obtain ⟨hE1, hE2⟩ := Prod.mk.inj hF1
  clear hE hF1
  replace hE0 := hE0.symm
  subst hE0
  replace hE1 := hE1.symm
  subst hE1
  replace hE2 := hE2.symm
  subst hE2
  refine ret_one (Hr := [_,_,_,_]) [0,1,2,3] Try.results22 (res_tmp rfl) ⟨j_1_r2_f1_p, j_1_r2_f1_c, j_1_r2_f1_n, rfl, rfl, rfl⟩ (asK [] rfl) rfl rfl (.inl rfl)
theorem w_ropewalklaw17_lives_s (N : Nat) (a0 : Int) (qp0 : Option Addr) (qc1 : Nat) (l1 : List Ropewalklaw17_DoD) (o0 : Bool) (hm : m_ropewalklaw17_lives N a0 l1 = some o0) : Spec Try.prog 33 [.int .i64 a0, .slice qp0 l1.length qc1] [.sli 5 R_Ropewalklaw17_DoD qp0 qc1 l1] [] (fun v Φr Hr => v = .bool o0 ∧ Φr = [] ∧ Hr = []) := by
 unfold m_ropewalklaw17_lives at hm
 refine spec_of Try.func33 rfl Try.ntmps33 rfl (S := [_,_]) rfl (fun C => (wc_seq (wc_region (wP rfl (wl_nil (we_then (wc_keep [0,1] (S' := [_,_]) rfl (wc_seq (wc_region (wP rfl ?_))))))))))
 obtain ⟨v6, hc6, hm⟩ := bindO_some hm
 refine wC [] [] rfl fn_21 rfl (w_ropewalklaw17_begin_s N a0 _ hc6) (asK [] rfl) rfl (H' := []) rfl ?_
 rintro _ _ _ ⟨c6_0, c6_1, c6_2, rfl, rfl, rfl⟩
 refine wP rfl (wP rfl (wN rfl tE_40 (wl_rowNil 87 3 R_Ropewalkref17_entryD ?_)))
 obtain ⟨⟨v10_0, v10_1, v10_2⟩, hc10, hm⟩ := bindO_some hm
 try dsimp only at hm
 refine wC [1,2,3,0] [] rfl fn_22 rfl (w_ropewalklaw17_both_goes_s N c6_0 (maxI a0 0) c6_1 ([] : List (ByteArray × Disk_rowsD)) c6_2 v6 none 0 0 [] qp0 qc1 l1 0 ((l1.length : Nat) : Int) _ _ _ hc10) (asK [0] rfl) rfl (H' := []) rfl ?_
 rintro _ _ _ ⟨p10_0, c10_1, c10_2, rfl, rfl, rfl⟩
 refine wP rfl (wl_nil (we_then (wc_keep [4] (S' := [_]) rfl (wc_ret ?_))))
 have hE := (Option.some.inj hm).symm
 replace hE := hE.symm
 subst hE
 refine ret_one (Hr := []) [] Try.results33 (res_tmp rfl) ⟨rfl, rfl, rfl⟩ (asK [] rfl) rfl rfl (.inl rfl)
end Go.Proofs.Ytkakbckmajdggaa
