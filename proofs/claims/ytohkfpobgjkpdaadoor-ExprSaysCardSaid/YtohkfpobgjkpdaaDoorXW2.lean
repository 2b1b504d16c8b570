import Derived.Test.YtohkfpobgjkpdaaDoorXW1
namespace Go.Proofs.YtohkfpobgjkpdaaDoor
open Go.RowKit
set_option maxRecDepth 100000
set_option maxHeartbeats 4000000
theorem w_value_does_5_s (N : Nat) (a0 : Int) (a1 : Int) (qg0 : Nat) (o0 : Int) (hm : m_value_does_5 N a0 a1 = some o0) : Spec Tryd.prog 44 [.int .i64 a0, .int .i64 a1, .pointer (some ⟨qg0,0, none⟩)] [] [.blk qg0 [.func (.func 39) #[] #[]] 65] (fun v Φr Hr => v = .tuple #[.int .i64 o0, .bool true] ∧ Φr = [] ∧ Hr = [.blk qg0 [.func (.func 39) #[] #[]] 65]) := by
 unfold m_value_does_5 at hm
 refine spec_of Tryd.func44 rfl Tryd.ntmps44 rfl (S := [_,_,_]) rfl (fun C => (wc_seq (wc_region (wP rfl (wP rfl (wl_nil (we_then (wc_keep [0,1,2] (S' := [_,_,_]) rfl (wc_seq (wc_region (wD 0 0 rfl tS_65 tA_65 rfl (wP rfl (wP rfl (wP rfl ?_))))))))))))))
 obtain ⟨v11, hc11, hm⟩ := bindO_some hm
 refine wl_callDyn [] [0] rfl rfl rfl (freshS_eq rfl) rfl rfl rfl fn_39 rfl rfl (w_value_does_1_s N (decide (a0 < a1)) _ hc11) (asK [] rfl) rfl (H' := [_]) rfl ?_
 rintro _ _ _ ⟨rfl, rfl, rfl⟩
 refine wP rfl (wP rfl (wP rfl (wP rfl (wl_nil (we_then (wc_keep [6,5] (S' := [_,_]) rfl (wc_ret ?_)))))))
 have hE := (Option.some.inj hm).symm
 replace hE := hE.symm
 subst hE
 refine ret_two (Hr := [_]) [0] Tryd.results44 (res_tmp rfl) (res_tmp rfl) ⟨rfl, rfl, rfl⟩ (asK [] rfl) rfl rfl (.inl rfl)
theorem w_value_does_6_s (N : Nat) (a0 : Int) (a1 : Int) (qg0 : Nat) (o0 : Int) (hm : m_value_does_6 N a0 a1 = some o0) : Spec Tryd.prog 45 [.int .i64 a0, .int .i64 a1, .pointer (some ⟨qg0,0, none⟩)] [] [.blk qg0 [.func (.func 39) #[] #[]] 65] (fun v Φr Hr => v = .tuple #[.int .i64 o0, .bool true] ∧ Φr = [] ∧ Hr = [.blk qg0 [.func (.func 39) #[] #[]] 65]) := by
 unfold m_value_does_6 at hm
 refine spec_of Tryd.func45 rfl Tryd.ntmps45 rfl (S := [_,_,_]) rfl (fun C => (wc_seq (wc_region (wP rfl (wP rfl (wl_nil (we_then (wc_keep [0,1,2] (S' := [_,_,_]) rfl (wc_seq (wc_region (wD 0 0 rfl tS_65 tA_65 rfl (wP rfl (wP rfl (wP rfl ?_))))))))))))))
 obtain ⟨v11, hc11, hm⟩ := bindO_some hm
 refine wl_callDyn [] [0] rfl rfl rfl (freshS_eq rfl) rfl rfl rfl fn_39 rfl rfl (w_value_does_1_s N (decide (a0 ≤ a1)) _ hc11) (asK [] rfl) rfl (H' := [_]) rfl ?_
 rintro _ _ _ ⟨rfl, rfl, rfl⟩
 refine wP rfl (wP rfl (wP rfl (wP rfl (wl_nil (we_then (wc_keep [6,5] (S' := [_,_]) rfl (wc_ret ?_)))))))
 have hE := (Option.some.inj hm).symm
 replace hE := hE.symm
 subst hE
 refine ret_two (Hr := [_]) [0] Tryd.results45 (res_tmp rfl) (res_tmp rfl) ⟨rfl, rfl, rfl⟩ (asK [] rfl) rfl rfl (.inl rfl)
theorem w_value_does_7_s (N : Nat) (a0 : Int) (a1 : Int) (qg0 : Nat) (o0 : Int) (hm : m_value_does_7 N a0 a1 = some o0) : Spec Tryd.prog 46 [.int .i64 a0, .int .i64 a1, .pointer (some ⟨qg0,0, none⟩)] [] [.blk qg0 [.func (.func 39) #[] #[]] 65] (fun v Φr Hr => v = .tuple #[.int .i64 o0, .bool true] ∧ Φr = [] ∧ Hr = [.blk qg0 [.func (.func 39) #[] #[]] 65]) := by
 unfold m_value_does_7 at hm
 refine spec_of Tryd.func46 rfl Tryd.ntmps46 rfl (S := [_,_,_]) rfl (fun C => (wc_seq (wc_region (wP rfl (wP rfl (wl_nil (we_then (wc_keep [0,1,2] (S' := [_,_,_]) rfl (wc_seq (wc_region (wD 0 0 rfl tS_65 tA_65 rfl (wP rfl (wP rfl (wP rfl ?_))))))))))))))
 refine wl_split (d := 10) (S' := [_,_,_,_,_,_]) rfl rfl (fun hs10 => ?_) (fun hs10 => ?_)
 ·
  replace hm := iteT hm hs10
  refine wP rfl (wP rfl (wP rfl ?_))
  obtain ⟨v14, hc14, hm⟩ := bindO_some hm
  refine wl_callDyn [] [0] rfl rfl rfl (freshS_eq rfl) rfl rfl rfl fn_39 rfl rfl (w_value_does_1_s N (a1 != 0) _ hc14) (asK [] rfl) rfl (H' := [_]) rfl ?_
  rintro _ _ _ ⟨rfl, rfl, rfl⟩
  refine wP rfl (wP rfl (wP rfl (wP rfl (wl_nil (we_then (wc_keep [6,5] (S' := [_,_]) rfl (wc_ret ?_)))))))
  have hE := (Option.some.inj hm).symm
  replace hE := hE.symm
  subst hE
  refine ret_two (Hr := [_]) [0] Tryd.results46 (res_tmp rfl) (res_tmp rfl) ⟨rfl, rfl, rfl⟩ (asK [] rfl) rfl rfl (.inl rfl)
 ·
  replace hm := iteF hm hs10
  refine wO rfl (wO rfl (wP rfl ?_))
  obtain ⟨v14, hc14, hm⟩ := bindO_some hm
  refine wl_callDyn [] [0] rfl rfl rfl (freshS_eq rfl) rfl rfl rfl fn_39 rfl rfl (w_value_does_1_s N false _ hc14) (asK [] rfl) rfl (H' := [_]) rfl ?_
  rintro _ _ _ ⟨rfl, rfl, rfl⟩
  refine wP rfl (wP rfl (wP rfl (wP rfl (wl_nil (we_then (wc_keep [6,5] (S' := [_,_]) rfl (wc_ret ?_)))))))
  have hE := (Option.some.inj hm).symm
  replace hE := hE.symm
  subst hE
  refine ret_two (Hr := [_]) [0] Tryd.results46 (res_tmp rfl) (res_tmp rfl) ⟨rfl, rfl, rfl⟩ (asK [] rfl) rfl rfl (.inl rfl)
theorem w_value_does_8_s (N : Nat) (a0 : Int) (a1 : Int) (qg0 : Nat) (o0 : Int) (hm : m_value_does_8 N a0 a1 = some o0) : Spec Tryd.prog 47 [.int .i64 a0, .int .i64 a1, .pointer (some ⟨qg0,0, none⟩)] [] [.blk qg0 [.func (.func 39) #[] #[]] 65] (fun v Φr Hr => v = .tuple #[.int .i64 o0, .bool true] ∧ Φr = [] ∧ Hr = [.blk qg0 [.func (.func 39) #[] #[]] 65]) := by
 unfold m_value_does_8 at hm
 refine spec_of Tryd.func47 rfl Tryd.ntmps47 rfl (S := [_,_,_]) rfl (fun C => (wc_seq (wc_region (wP rfl (wP rfl (wl_nil (we_then (wc_keep [0,1,2] (S' := [_,_,_]) rfl (wc_seq (wc_region (wD 0 0 rfl tS_65 tA_65 rfl (wP rfl (wP rfl (wP rfl ?_))))))))))))))
 refine wl_split (d := 10) (S' := [_,_,_,_,_,_]) rfl rfl (fun hs10 => ?_) (fun hs10 => ?_)
 ·
  replace hm := iteT hm hs10
  refine wO rfl (wO rfl (wP rfl ?_))
  obtain ⟨v14, hc14, hm⟩ := bindO_some hm
  refine wl_callDyn [] [0] rfl rfl rfl (freshS_eq rfl) rfl rfl rfl fn_39 rfl rfl (w_value_does_1_s N true _ hc14) (asK [] rfl) rfl (H' := [_]) rfl ?_
  rintro _ _ _ ⟨rfl, rfl, rfl⟩
  refine wP rfl (wP rfl (wP rfl (wP rfl (wl_nil (we_then (wc_keep [6,5] (S' := [_,_]) rfl (wc_ret ?_)))))))
  have hE := (Option.some.inj hm).symm
  replace hE := hE.symm
  subst hE
  refine ret_two (Hr := [_]) [0] Tryd.results47 (res_tmp rfl) (res_tmp rfl) ⟨rfl, rfl, rfl⟩ (asK [] rfl) rfl rfl (.inl rfl)
 ·
  replace hm := iteF hm hs10
  refine wP rfl (wP rfl (wP rfl ?_))
  obtain ⟨v14, hc14, hm⟩ := bindO_some hm
  refine wl_callDyn [] [0] rfl rfl rfl (freshS_eq rfl) rfl rfl rfl fn_39 rfl rfl (w_value_does_1_s N (a1 != 0) _ hc14) (asK [] rfl) rfl (H' := [_]) rfl ?_
  rintro _ _ _ ⟨rfl, rfl, rfl⟩
  refine wP rfl (wP rfl (wP rfl (wP rfl (wl_nil (we_then (wc_keep [6,5] (S' := [_,_]) rfl (wc_ret ?_)))))))
  have hE := (Option.some.inj hm).symm
  replace hE := hE.symm
  subst hE
  refine ret_two (Hr := [_]) [0] Tryd.results47 (res_tmp rfl) (res_tmp rfl) ⟨rfl, rfl, rfl⟩ (asK [] rfl) rfl rfl (.inl rfl)
theorem w_value_does_9_s (N : Nat) (a0 : Int) (a1 : Int) (qg0 : Nat) (o0 : Int) (hm : m_value_does_9 N a0 a1 = some o0) : Spec Tryd.prog 48 [.int .i64 a0, .int .i64 a1, .pointer (some ⟨qg0,0, none⟩)] [] [.blk qg0 [.func (.func 39) #[] #[]] 65] (fun v Φr Hr => v = .tuple #[.int .i64 o0, .bool true] ∧ Φr = [] ∧ Hr = [.blk qg0 [.func (.func 39) #[] #[]] 65]) := by
 unfold m_value_does_9 at hm
 refine spec_of Tryd.func48 rfl Tryd.ntmps48 rfl (S := [_,_,_]) rfl (fun C => (wc_seq (wc_region (wP rfl (wP rfl (wl_nil (we_then (wc_keep [0,2] (S' := [_,_]) rfl (wc_seq (wc_region (wD 0 0 rfl tS_65 tA_65 rfl (wP rfl (wP rfl ?_)))))))))))))
 obtain ⟨v10, hc10, hm⟩ := bindO_some hm
 refine wl_callDyn [] [0] rfl rfl rfl (freshS_eq rfl) rfl rfl rfl fn_39 rfl rfl (w_value_does_1_s N (a0 == 0) _ hc10) (asK [] rfl) rfl (H' := [_]) rfl ?_
 rintro _ _ _ ⟨rfl, rfl, rfl⟩
 refine wP rfl (wP rfl (wP rfl (wP rfl (wl_nil (we_then (wc_keep [6,5] (S' := [_,_]) rfl (wc_ret ?_)))))))
 have hE := (Option.some.inj hm).symm
 replace hE := hE.symm
 subst hE
 refine ret_two (Hr := [_]) [0] Tryd.results48 (res_tmp rfl) (res_tmp rfl) ⟨rfl, rfl, rfl⟩ (asK [] rfl) rfl rfl (.inl rfl)
theorem w_value_Do_s (N : Nat) (a0 : Int) (qp0 : Option Addr) (qc1 : Nat) (l1 : List V) (o0 : Nat) (o1 : Int) (o2 : Nat) (hm : m_value_Do N a0 l1 = some (o0, o1, o2)) : Spec Tryd.prog 22 [.int .u8 a0, .slice qp0 l1.length qc1] [.sli 3 R_V qp0 qc1 l1] [] (fun v Φr Hr => v = .tuple #[.agg #[.int .u8 ((o0 : Nat) : Int), .int .i64 o1, .string ((⟨#[]⟩ : ByteArray))], .int .i64 ((o2 : Nat) : Int)] ∧ Φr = [] ∧ Hr = []) := by
 unfold m_value_Do at hm
 refine spec_of Tryd.func22 rfl Tryd.ntmps22 rfl (S := [_,_]) rfl (fun C => (wc_seq (wc_region (wl_alloc rfl rfl rfl (freshS_eq rfl) rfl tZ_25 rfl (fun g4 => (wP rfl (wl_nil (we_then (wc_keep [4,0,1] (S' := [_,_,_]) rfl (wc_seq (wc_region (wP rfl (wl_nil (we_then (wc_seq ?_)))))))))))))))
 obtain ⟨bj_1, hm, hLj_1⟩ := bindO_some hm
 unfold m_value_Do_C1 at hm
 refine wc_cut (σ := Nat) (fun j_1_6 => bj_1 = j_1_6) (fun j_1_6 => [(4, .pointer (some ⟨g4,0, none⟩)), (0, .int .u8 a0), (1, .slice qp0 l1.length qc1), (6, .int .i64 ((j_1_6 : Nat) : Int))]) (fun j_1_6 => [.sli 3 R_V qp0 qc1 l1]) (fun j_1_6 => [.blk g4 [.int .u8 0, .int .i64 0, .string ((⟨#[]⟩ : ByteArray))] 25]) ?_ ?_
 ·
  refine wc_seq ?_
  obtain ⟨bj_2, hm, hLj_2⟩ := bindO_some hm
  refine wc_cut (σ := Bool) (fun j_2_19 => bj_2 = j_2_19) (fun j_2_19 => [(4, .pointer (some ⟨g4,0, none⟩)), (0, .int .u8 a0), (1, .slice qp0 l1.length qc1), (6, .int .i64 2), (19, .bool j_2_19)]) (fun j_2_19 => [.sli 3 R_V qp0 qc1 l1]) (fun j_2_19 => [.blk g4 [.int .u8 0, .int .i64 0, .string ((⟨#[]⟩ : ByteArray))] 25]) ?_ ?_
  ·
   refine wc_region (wP rfl (wP rfl (wP rfl ?_)))
   refine wl_split (d := 16) (S' := [_,_,_,_,_,_]) rfl rfl (fun hs16 => ?_) (fun hs16 => ?_)
   ·
    replace hm := iteT hm hs16
    refine wO rfl (wO rfl (wP rfl (wl_nil ?_)))
    have hE := (Option.some.inj hm).symm
    refine we_join true hE [4,0,1,6,19] rfl (asK [0] rfl) rfl
   ·
    replace hm := iteF hm hs16
    refine wP rfl (wP rfl (wP rfl (wl_nil ?_)))
    have hE := (Option.some.inj hm).symm
    refine we_join (a0 == 11) hE [4,0,1,6,19] rfl (asK [0] rfl) rfl
  ·
   rintro j_2_19 hE
   try dsimp only
   have hm := hLj_2
   rw [hE] at hm
   refine wc_cond rfl (fun hb19 => ?_) (fun hb19 => ?_)
   ·
    replace hm := iteT hm hb19
    refine wc_keep [4,0,1] (S' := [_,_,_]) rfl (wc_region (wP rfl (wl_nil ?_)))
    have hE := (Option.some.inj hm).symm
    refine we_join 1 hE [4,0,1,6] rfl (asK [0] rfl) rfl
   ·
    replace hm := iteF hm hb19
    refine wc_keep [4,0,1,6] (S' := [_,_,_,_]) rfl (wc_skip ?_)
    have hE := (Option.some.inj hm).symm
    refine we_join 2 hE [4,0,1,6] rfl (asK [0] rfl) rfl
 ·
  rintro j_1_6 hE
  try dsimp only
  have hm := hLj_1
  rw [hE] at hm
  refine wc_seq (wc_seq ?_)
  obtain ⟨bj_3, hm, hLj_3⟩ := bindO_some hm
  refine wc_cut (σ := Bool) (fun j_3_31 => bj_3 = j_3_31) (fun j_3_31 => [(4, .pointer (some ⟨g4,0, none⟩)), (0, .int .u8 a0), (1, .slice qp0 l1.length qc1), (6, .int .i64 ((j_1_6 : Nat) : Int)), (31, .bool j_3_31)]) (fun j_3_31 => [.sli 3 R_V qp0 qc1 l1]) (fun j_3_31 => [.blk g4 [.int .u8 0, .int .i64 0, .string ((⟨#[]⟩ : ByteArray))] 25]) ?_ ?_
  ·
   refine wc_region (wP rfl (wP rfl (wP rfl ?_)))
   refine wl_split (d := 22) (S' := [_,_,_,_,_,_]) rfl rfl (fun hs22 => ?_) (fun hs22 => ?_)
   ·
    replace hm := iteT hm hs22
    refine wO rfl (wO rfl (wP rfl (wP rfl (wO rfl (wO rfl (wO rfl (wO rfl (wP rfl (wl_nil ?_)))))))))
    have hE := (Option.some.inj hm).symm
    refine we_join true hE [4,0,1,6,31] rfl (asK [0] rfl) rfl
   ·
    replace hm := iteF hm hs22
    refine wP rfl (wP rfl (wP rfl (wP rfl ?_)))
    refine wl_split (d := 26) (S' := [_,_,_,_,_,_,_,_,_,_]) rfl rfl (fun hs26 => ?_) (fun hs26 => ?_)
    ·
     replace hm := iteT hm hs26
     refine wO rfl (wO rfl (wO rfl (wO rfl (wP rfl (wl_nil ?_)))))
     have hE := (Option.some.inj hm).symm
     refine we_join true hE [4,0,1,6,31] rfl (asK [0] rfl) rfl
    ·
     replace hm := iteF hm hs26
     refine wP rfl (wN rfl tE_30 (wP rfl (wP rfl (wl_as (d := 30) (v' := .bool (l1.length != j_1_6)) (S' := [_,_,_,_,_,_,_,_,_,_,_,_,_,_]) rfl rfl (natne (a := l1.length) (b := j_1_6)) (wP rfl (wl_nil ?_))))))
     have hE := (Option.some.inj hm).symm
     refine we_join (l1.length != j_1_6) hE [4,0,1,6,31] rfl (asK [0] rfl) rfl
  ·
   rintro j_3_31 hE
   try dsimp only
   have hm := hLj_3
   rw [hE] at hm
   refine wc_cond rfl (fun hb31 => ?_) (fun hb31 => ?_)
   ·
    replace hm := iteT hm hb31
    refine wc_keep [4] (S' := [_]) rfl (wc_seq (wc_region (wl_build rfl rfl rfl (freshS_eq rfl) rfl tZ_25 tP_25 rfl (out := [_,_,_]) rfl (wS 0 0 rfl tS_25 (all' := [_,_,_]) rfl (H' := [_]) rfl (wP rfl (wl_nil (we_then (wc_keep [5,4] (S' := [_,_]) rfl (wc_ret (we_then_ret ?_))))))))))
    have hE := (Option.some.inj hm).symm
    obtain ⟨hE0, hF1⟩ := Prod.mk.inj hE
    obtain ⟨hE1, hE2⟩ := Prod.mk.inj hF1
    clear hE hF1
    replace hE0 := hE0.symm
    subst hE0
    replace hE1 := hE1.symm
    subst hE1
    replace hE2 := hE2.symm
    subst hE2
    refine ret_two (Hr := []) [] Tryd.results22 (res_cell 0 rfl rfl tS_25 tA_25 rfl rfl) (res_tmp rfl) ⟨rfl, rfl, rfl⟩ (asK [] rfl) rfl rfl (.inl rfl)
   ·
    replace hm := iteF hm hb31
    refine wc_keep [4,0,1,6] (S' := [_,_,_,_]) rfl (wc_skip (we_then (wc_seq (wc_region (wP rfl (wl_nil (we_then (wc_seq ?_))))))))
    obtain ⟨bj_4, hm, hLj_4⟩ := bindS_some hm
    refine wc_cut (σ := Bool) (fun j_4_7 => bj_4 = .inl j_4_7) (fun j_4_7 => [(4, .pointer (some ⟨g4,0, none⟩)), (0, .int .u8 a0), (1, .slice qp0 l1.length qc1), (6, .int .i64 ((j_1_6 : Nat) : Int)), (7, .bool j_4_7)]) (fun j_4_7 => [.sli 3 R_V qp0 qc1 l1]) (fun j_4_7 => [.blk g4 [.int .u8 0, .int .i64 0, .string ((⟨#[]⟩ : ByteArray))] 25]) ?_ ?_
    ·
     refine wc_seq (wc_region (wP rfl (wN rfl tE_30 (wP rfl (wl_nil (we_then (wc_block (wc_loop (σ := Nat × Nat × Bool) (fun (nu1, u1_35, u1_7) => iter (m_value_Do_L1 N l1) nu1 (u1_35, u1_7) = some bj_4) (fun (nu1, u1_35, u1_7) => nu1) (fun (nu1, u1_35, u1_7) => [(35, .int .i64 ((u1_35 : Nat) : Int)), (34, .int .i64 ((l1.length : Nat) : Int)), (33, .slice qp0 l1.length qc1), (7, .bool u1_7), (4, .pointer (some ⟨g4,0, none⟩)), (0, .int .u8 a0), (1, .slice qp0 l1.length qc1), (6, .int .i64 ((j_1_6 : Nat) : Int))]) (fun (nu1, u1_35, u1_7) => [.sli 3 R_V qp0 qc1 l1]) (fun (nu1, u1_35, u1_7) => [.blk g4 [.int .u8 0, .int .i64 0, .string ((⟨#[]⟩ : ByteArray))] 25]) (N, 0, false) hm [35,34,33,7,4,0,1,6] rfl (asK [0] rfl) rfl (fun s_ hm => ?_)))))))))
     obtain ⟨nu1, u1_35, u1_7⟩ := s_
     try dsimp only at hm ⊢
     obtain ⟨mu1, bu1, hnu1, hq, hLu1⟩ := iter_some hm
     clear hm
     subst hnu1
     replace hm := hq
     clear hq
     unfold m_value_Do_L1 at hm
     try dsimp only at hm
     refine wc_seq (wc_region (wP rfl (wl_as (d := 36) (v' := .bool (decide (u1_35 < l1.length))) (S' := [_,_,_,_,_,_,_,_]) rfl rfl (natlt (a := u1_35) (b := l1.length)) (wl_nil (we_then (wc_seq ?_))))))
     refine wc_cond rfl (fun hb36 => ?_) (fun hb36 => ?_)
     ·
      replace hm := iteT hm hb36
      refine wc_keep [35,34,33,7,4,0,1,6] (S' := [_,_,_,_,_,_,_,_]) rfl (wc_skip (we_then (wc_seq ?_)))
      obtain ⟨bj_5, hm, hLj_5⟩ := bindS_some hm
      unfold m_value_Do_C5 at hm
      refine wc_cut (σ := Bool) (fun j_5_7 => bj_5 = .inl j_5_7) (fun j_5_7 => [(35, .int .i64 ((u1_35 : Nat) : Int)), (34, .int .i64 ((l1.length : Nat) : Int)), (33, .slice qp0 l1.length qc1), (7, .bool j_5_7), (4, .pointer (some ⟨g4,0, none⟩)), (0, .int .u8 a0), (1, .slice qp0 l1.length qc1), (6, .int .i64 ((j_1_6 : Nat) : Int))]) (fun j_5_7 => [.sli 3 R_V qp0 qc1 l1]) (fun j_5_7 => [.blk g4 [.int .u8 0, .int .i64 0, .string ((⟨#[]⟩ : ByteArray))] 25]) ?_ ?_
      ·
       refine wc_block (wc_seq (wc_region ?_))
       obtain ⟨x37, hx37, hm⟩ := bindO_some hm
       refine wl_indexA 0 u1_35 rfl rfl rfl (freshS_eq rfl) rfl rfl rfl rfl rfl hx37 tE_30 tS_25 (fun b37 q37 cs37 hlx37 => (wl_open R_V_opens 1 rfl (fun r37 er37 _ => ?_)))
       subst er37
       refine wl_load 0 0 rfl rfl rfl (freshS_eq rfl) rfl rfl rfl (cs := [_,_,_]) rfl tS_25 tA_25 rfl rfl (wl_alloc rfl rfl rfl (freshS_eq rfl) rfl tZ_25 rfl (fun g9 => (wS 0 0 rfl tS_25 (all' := [_,_,_]) rfl (H' := [_,_]) rfl (wl_nil (we_then (wc_keep [9,35,34,33,7,4,0,1,6] (S' := [_,_,_,_,_,_,_,_,_]) rfl (wc_seq (wc_seq (wc_region (wl_loadH 0 0 rfl rfl rfl (freshS_eq rfl) rfl rfl rfl (cs := [_,_,_]) rfl tS_25 tA_25 rfl rfl ?_))))))))))
       obtain ⟨v40, hc40, hm⟩ := bindO_some hm
       refine wC [] [0,1] rfl fn_29 rfl (w_value_Right_s N x37.k x37.n x37.s _ hc40) (asK [] rfl) rfl (H' := [_,_]) rfl ?_
       rintro _ _ _ ⟨rfl, rfl, rfl⟩
       refine wP rfl (wl_nil (we_then (wc_keep [41,9,35,34,33,7,4,0,1,6] (S' := [_,_,_,_,_,_,_,_,_,_]) rfl ?_)))
       refine wc_cond rfl (fun hb41 => ?_) (fun hb41 => ?_)
       ·
        replace hm := iteT hm hb41
        refine wc_keep [4] (S' := [_]) rfl (wc_seq (wc_region (wl_build rfl rfl rfl (freshS_eq rfl) rfl tZ_25 tP_25 rfl (out := [_,_,_]) rfl (wS 1 0 rfl tS_25 (all' := [_,_,_]) rfl (H' := [_,_]) rfl (wP rfl (wl_nil (we_then (wc_keep [5,4] (S' := [_,_]) rfl (wc_ret (we_then_ret (we_block_ret (we_then_ret (we_then_ret ?_)))))))))))))
        refine we_block_ret (we_then_ret ?_)
        have hE := (Option.some.inj hm).symm
        replace hE := link_inr hLj_5 hE
        replace hE := link_inr hLu1 hE
        replace hE := link_inr hLj_4 hE
        obtain ⟨hE0, hF1⟩ := Prod.mk.inj hE
        obtain ⟨hE1, hE2⟩ := Prod.mk.inj hF1
        clear hE hF1
        replace hE0 := hE0.symm
        subst hE0
        replace hE1 := hE1.symm
        subst hE1
        replace hE2 := hE2.symm
        subst hE2
        refine ret_two (Hr := []) [] Tryd.results22 (res_cell 1 rfl rfl tS_25 tA_25 rfl rfl) (res_tmp rfl) ⟨rfl, rfl, rfl⟩ (asK [] rfl) rfl rfl (.inl rfl)
       ·
        replace hm := iteF hm hb41
        refine wc_keep [9,35,34,33,7,4,0,1,6] (S' := [_,_,_,_,_,_,_,_,_]) rfl (wc_skip (we_then (wc_region (wP rfl (wP rfl ?_)))))
        refine wl_split (d := 44) (S' := [_,_,_,_,_,_,_,_,_,_]) rfl rfl (fun hs44 => ?_) (fun hs44 => ?_)
        ·
         replace hm := iteT hm hs44
         refine wO rfl (wO rfl (wO rfl (wP rfl (wl_pure (S' := [_,_,_,_,_,_,_,_,_,_,_,_,_,_]) rfl rfl rfl rfl rfl (wl_nil (we_block_normal ?_))))))
         have hE := (Option.some.inj hm).symm
         refine we_pick [1] rfl (H' := [_]) rfl ?_
         refine we_join true hE [35,34,33,7,4,0,1,6] rfl (asK [2] rfl) rfl
        ·
         replace hm := iteF hm hs44
         refine wF rfl tF_25_0 (wD 0 0 rfl tS_23 tA_23 rfl (wP rfl (wP rfl (wl_pure (S' := [_,_,_,_,_,_,_,_,_,_,_,_,_,_]) rfl rfl rfl rfl rfl (wl_nil (we_block_normal ?_))))))
         have hE := (Option.some.inj hm).symm
         refine we_pick [1] rfl (H' := [_]) rfl ?_
         refine we_join (x37.k == 2) hE [35,34,33,7,4,0,1,6] rfl (asK [2] rfl) rfl
      ·
       rintro j_5_7 hE
       try dsimp only
       have hm := link_inl hLj_5 hE
       refine wc_region (wP rfl ?_)
       obtain ⟨hg49, hm⟩ := gd_some hm
       refine wl_as (d := 49) (v' := .int .i64 ((u1_35 + 1 : Nat) : Int)) (S' := [_,_,_,_,_,_,_,_]) rfl rfl (nat_add (a := u1_35) (b := 1) hg49) (wl_pure (S' := [_,_,_,_,_,_,_,_]) rfl rfl rfl rfl rfl (wl_nil ?_))
       have hE := (Option.some.inj hm).symm
       replace hE := link_inl hLu1 hE
       refine we_roundK (_, u1_35 + 1, j_5_7) (Nat.lt_succ_self _) hE [35,34,33,7,4,0,1,6] rfl (asK [0] rfl) rfl
     ·
      replace hm := iteF hm hb36
      refine wc_keep [7,4,0,1,6] (S' := [_,_,_,_,_]) rfl (wc_exit (we_then_exit (we_then_exit (we_block_hit ?_))))
      have hE := (Option.some.inj hm).symm
      replace hE := link_inr hLu1 hE
      refine we_join u1_7 hE [4,0,1,6,7] rfl (asK [0] rfl) rfl
    ·
     rintro j_4_7 hE
     try dsimp only
     have hm := link_inl hLj_4 hE
     refine wc_seq ?_
     obtain ⟨x51, hx51, hm⟩ := bindO_some hm
     obtain ⟨hg55, hm⟩ := gd_some hm
     obtain ⟨hn56, hm⟩ := gd_some hm
     obtain ⟨x56, hx56, hm⟩ := bindO_some hm
     refine wc_cut (σ := Nat × Nat) (fun _ => True) (fun (w_6_11_g, w_6_10_g) => [(11, .pointer (some ⟨w_6_11_g, 0, none⟩)), (10, .pointer (some ⟨w_6_10_g, 0, none⟩)), (4, .pointer (some ⟨g4,0, none⟩)), (0, .int .u8 a0), (7, .bool j_4_7)]) (fun (w_6_11_g, w_6_10_g) => []) (fun (w_6_11_g, w_6_10_g) => [.blk w_6_11_g [.int .u8 (x56.k), .int .i64 (x56.n), .string x56.s] 25, .blk w_6_10_g [.int .u8 (x51.k), .int .i64 (x51.n), .string x51.s] 25, .blk g4 [.int .u8 0, .int .i64 0, .string ((⟨#[]⟩ : ByteArray))] 25]) ?_ ?_
     ·
      refine wc_draw [0,1,2,3,4,5,6,7] rfl rfl (fun hok => (xP hok 0 rfl (wx_indexA hok 1 0 0 rfl rfl rfl (freshS_eq rfl) rfl rfl rfl rfl rfl rfl hx51 tE_30 tS_25 (fun b51 q51 cs51 hlx51 => (wx_openR R_V_opens 1 rfl (fun r51 er51 _ => ?_))))))
      subst er51
      refine wx_load hok 2 0 0 rfl rfl rfl (freshS_eq rfl) rfl rfl rfl rfl (cs := [_,_,_]) rfl tS_25 tA_25 rfl rfl (xP hok 3 rfl (xP hok 4 rfl (xP hok 5 rfl (wx_as (d := 55) (v' := .int .i64 (((j_1_6 : Nat) : Int) - 1)) (S' := [_,_,_,_,_,_,_,_,_,_]) rfl rfl (i64_in hg55) (wx_indexA hok 6 2 ((((j_1_6 : Nat) : Int) - 1).toNat) rfl rfl rfl (freshS_eq rfl) rfl rfl rfl rfl rfl (toNat_eq hn56) hx56 tE_30 tS_25 (fun b56 q56 cs56 hlx56 => (wx_openR R_V_opens 1 rfl (fun r56 er56 _ => ?_))))))))
      subst er56
      refine wx_load hok 7 0 0 rfl rfl rfl (freshS_eq rfl) rfl rfl rfl rfl (cs := [_,_,_]) rfl tS_25 tA_25 rfl rfl ?_
      refine wx_step2 hok 8 9 rfl rfl rfl rfl rfl rfl ?_ ?_
      ·
       refine wl_alloc rfl rfl rfl (freshS_eq rfl) rfl tZ_25 rfl (fun g10 => (wl_nil (we_x [0,1,2,3,4] [] rfl rfl (xS hok 9 rfl (wl_alloc rfl rfl rfl (freshS_eq rfl) rfl tZ_25 rfl (fun g11 => (wl_nil (we_x [0,1,2,3,4] [] rfl rfl (xS hok 10 rfl (wS 1 0 rfl tS_25 (all' := [_,_,_]) rfl (H' := [_,_,_]) rfl (wl_nil (we_x [0,1,2,3,4] [] rfl rfl (xS hok 11 rfl (wS 0 0 rfl tS_25 (all' := [_,_,_]) rfl (H' := [_,_,_]) rfl (wl_nil ?_)))))))))))))))
       refine we_x [0,1,2,3,4] [] rfl rfl (wx_done hok rfl ?_)
       refine we_join (g11, g10) trivial [11,10,4,0,7] rfl (asK [] rfl) rfl
      ·
       refine wl_alloc rfl rfl rfl (freshS_eq rfl) rfl tZ_25 rfl (fun g11 => (wl_nil (we_x [0,1,2,3,4] [] rfl rfl (xS hok 8 rfl (wl_alloc rfl rfl rfl (freshS_eq rfl) rfl tZ_25 rfl (fun g10 => (wl_nil (we_x [0,1,2,3,4] [] rfl rfl (xS hok 10 rfl (wS 0 0 rfl tS_25 (all' := [_,_,_]) rfl (H' := [_,_,_]) rfl (wl_nil (we_x [0,1,2,3,4] [] rfl rfl (xS hok 11 rfl (wS 1 0 rfl tS_25 (all' := [_,_,_]) rfl (H' := [_,_,_]) rfl (wl_nil ?_)))))))))))))))
       refine we_x [0,1,2,3,4] [] rfl rfl (wx_done hok rfl (we_pick [1,0,2] rfl (H' := [_,_,_]) rfl ?_))
       refine we_join (g11, g10) trivial [11,10,4,0,7] rfl (asK [] rfl) rfl
     ·
      rintro ⟨w_6_11_g, w_6_10_g⟩ _
      try dsimp only
      refine wc_seq (wc_block (wc_seq (wc_region (wP rfl (wP rfl (wP rfl (wl_nil (we_then (wc_keep [58,11,10,4,0,7] (S' := [_,_,_,_,_,_]) rfl ?_)))))))))
      refine wc_cond rfl (fun hb58 => ?_) (fun hb58 => ?_)
      ·
       replace hm := iteT hm hb58
       refine wc_keep [11,10,4] (S' := [_,_,_]) rfl (wc_seq (wc_region (wl_loadH 1 0 rfl rfl rfl (freshS_eq rfl) rfl rfl rfl (cs := [_,_,_]) rfl tS_25 tA_25 rfl rfl (wl_loadH 0 0 rfl rfl rfl (freshS_eq rfl) rfl rfl rfl (cs := [_,_,_]) rfl tS_25 tA_25 rfl rfl (wl_bin rfl rfl rfl (freshS_eq rfl) rfl rfl rfl (eqlV _ _ x51 x56) ?_)))))
       obtain ⟨v64, hc64, hm⟩ := bindO_some hm
       refine wC [] [0,1,2] rfl fn_30 rfl (w_value_Truth_s N (decide (x51 = x56)) _ hc64) (asK [] rfl) rfl (H' := [_,_,_]) rfl ?_
       rintro _ _ _ ⟨rfl, rfl, rfl⟩
       refine wS 2 0 rfl tS_25 (all' := [_,_,_]) rfl (H' := [_,_,_]) rfl (wP rfl (wl_nil (we_then (wc_keep [5,4] (S' := [_,_]) rfl (wc_ret (we_block_ret (we_then_ret ?_)))))))
       have hE := (Option.some.inj hm).symm
       obtain ⟨hE0, hF1⟩ := Prod.mk.inj hE
       obtain ⟨hE1, hE2⟩ := Prod.mk.inj hF1
       clear hE hF1
       replace hE0 := hE0.symm
       subst hE0
       replace hE1 := hE1.symm
       subst hE1
       replace hE2 := hE2.symm
       subst hE2
       refine ret_two (Hr := []) [] Tryd.results22 (res_cell 2 rfl rfl tS_25 tA_25 rfl rfl) (res_tmp rfl) ⟨rfl, rfl, rfl⟩ (asK [] rfl) rfl rfl (.inl rfl)
      ·
       replace hm := iteF hm hb58
       refine wc_keep [11,10,4,0,7] (S' := [_,_,_,_,_]) rfl (wc_seq (wc_region (wP rfl (wP rfl (wP rfl (wl_nil (we_then (wc_keep [65,11,10,4,0,7] (S' := [_,_,_,_,_,_]) rfl ?_))))))))
       refine wc_cond rfl (fun hb65 => ?_) (fun hb65 => ?_)
       ·
        replace hm := iteT hm hb65
        refine wc_keep [11,10,4] (S' := [_,_,_]) rfl (wc_seq (wc_region (wl_loadH 1 0 rfl rfl rfl (freshS_eq rfl) rfl rfl rfl (cs := [_,_,_]) rfl tS_25 tA_25 rfl rfl (wl_loadH 0 0 rfl rfl rfl (freshS_eq rfl) rfl rfl rfl (cs := [_,_,_]) rfl tS_25 tA_25 rfl rfl (wl_bin rfl rfl rfl (freshS_eq rfl) rfl rfl rfl (neqV _ _ x51 x56) ?_)))))
        obtain ⟨v71, hc71, hm⟩ := bindO_some hm
        refine wC [] [0,1,2] rfl fn_30 rfl (w_value_Truth_s N (!decide (x51 = x56)) _ hc71) (asK [] rfl) rfl (H' := [_,_,_]) rfl ?_
        rintro _ _ _ ⟨rfl, rfl, rfl⟩
        refine wS 2 0 rfl tS_25 (all' := [_,_,_]) rfl (H' := [_,_,_]) rfl (wP rfl (wl_nil (we_then (wc_keep [5,4] (S' := [_,_]) rfl (wc_ret (we_block_ret (we_then_ret ?_)))))))
        have hE := (Option.some.inj hm).symm
        obtain ⟨hE0, hF1⟩ := Prod.mk.inj hE
        obtain ⟨hE1, hE2⟩ := Prod.mk.inj hF1
        clear hE hF1
        replace hE0 := hE0.symm
        subst hE0
        replace hE1 := hE1.symm
        subst hE1
        replace hE2 := hE2.symm
        subst hE2
        refine ret_two (Hr := []) [] Tryd.results22 (res_cell 2 rfl rfl tS_25 tA_25 rfl rfl) (res_tmp rfl) ⟨rfl, rfl, rfl⟩ (asK [] rfl) rfl rfl (.inl rfl)
       ·
        replace hm := iteF hm hb65
        refine wc_keep [11,10,4,0,7] (S' := [_,_,_,_,_]) rfl (wc_seq (wc_region (wP rfl (wP rfl (wl_nil (we_then (wc_keep [72,11,10,4,0] (S' := [_,_,_,_,_]) rfl ?_)))))))
        refine wc_cond rfl (fun hb72 => ?_) (fun hb72 => ?_)
        ·
         replace hm := iteT hm hb72
         refine wc_keep [4] (S' := [_]) rfl (wc_seq (wc_region (wl_build rfl rfl rfl (freshS_eq rfl) rfl tZ_25 tP_25 rfl (out := [_,_,_]) rfl (wS 2 0 rfl tS_25 (all' := [_,_,_]) rfl (H' := [_,_,_]) rfl (wP rfl (wl_nil (we_then (wc_keep [5,4] (S' := [_,_]) rfl (wc_ret (we_block_ret (we_then_ret ?_)))))))))))
         have hE := (Option.some.inj hm).symm
         obtain ⟨hE0, hF1⟩ := Prod.mk.inj hE
         obtain ⟨hE1, hE2⟩ := Prod.mk.inj hF1
         clear hE hF1
         replace hE0 := hE0.symm
         subst hE0
         replace hE1 := hE1.symm
         subst hE1
         replace hE2 := hE2.symm
         subst hE2
         refine ret_two (Hr := []) [] Tryd.results22 (res_cell 2 rfl rfl tS_25 tA_25 rfl rfl) (res_tmp rfl) ⟨rfl, rfl, rfl⟩ (asK [] rfl) rfl rfl (.inl rfl)
        ·
         replace hm := iteF hm hb72
         refine wc_keep [11,10,4,0] (S' := [_,_,_,_]) rfl (wc_skip (we_block_normal (we_then (wc_seq ?_))))
         obtain ⟨bj_7, hm, hLj_7⟩ := bindO_some hm
         unfold m_value_Do_C7 at hm
         refine wc_cut (σ := Int × Bool) (fun (j_7_12, j_7_13) => bj_7 = (j_7_12, j_7_13)) (fun (j_7_12, j_7_13) => [(4, .pointer (some ⟨g4,0, none⟩)), (12, .int .i64 j_7_12), (13, .bool j_7_13)]) (fun (j_7_12, j_7_13) => []) (fun (j_7_12, j_7_13) => [.blk g4 [.int .u8 0, .int .i64 0, .string ((⟨#[]⟩ : ByteArray))] 25]) ?_ ?_
         ·
          obtain ⟨_ | _ | _ | _ | _ | _ | _ | _ | _ | _, hc77, hm⟩ := bindO_some hm
          ·
           try dsimp only at hm
           obtain ⟨_, hc82, hm⟩ := bindO_some hm
           try dsimp only at hm
           refine wc_draw [0,2,3,4,5,7,8,9] rfl rfl (fun hok => (xP hok 0 rfl (wx_fieldAddr hok 2 rfl rfl rfl (freshS_eq rfl) rfl rfl rfl tF_25_1 (wx_loadH hok 3 1 1 rfl rfl rfl (freshS_eq rfl) rfl rfl rfl rfl (cs := [_]) rfl tS_2 tA_2 rfl rfl (wx_fieldAddr hok 4 rfl rfl rfl (freshS_eq rfl) rfl rfl rfl tF_25_1 (wx_loadH hok 5 0 1 rfl rfl rfl (freshS_eq rfl) rfl rfl rfl rfl (cs := [_]) rfl tS_2 tA_2 rfl rfl (xS hok 1 rfl (wC [] [0,1,2] rfl fn_31 rfl (w_value_does_s0 N a0 hc77) (asK [] rfl) rfl (H' := [_,_,_]) rfl ?_))))))))
           rintro _ _ _ ⟨rfl, rfl, rfl⟩
           refine wl_nil (we_x [] [0,1] rfl rfl (xS hok 6 rfl (wl_callDyn [] [0,1,2] rfl rfl rfl (freshS_eq rfl) rfl rfl rfl fn_40 rfl rfl (w_value_does_2_s N x51.n x56.n hc82) (asK [] rfl) rfl (H' := [_,_,_]) rfl ?_)))
           rintro _ _ _ ⟨rfl, rfl, rfl⟩
           refine wl_nil (we_x [] [] rfl rfl (xP hok 7 rfl (xP hok 8 rfl (xP hok 9 rfl (xS hok 10 rfl (wP rfl (wl_nil (we_x [] [] rfl rfl (xS hok 11 rfl (wP rfl (wl_nil (we_x [] [] rfl rfl (wx_done hok rfl ?_)))))))))))))
           have hE := (Option.some.inj hm).symm
           refine we_pick [2] rfl (H' := [_]) rfl ?_
           refine we_join (IntKind.wrap .i64 (x51.n + x56.n), (decide ((IntKind.wrap .i64 (x51.n + x56.n)) < x51.n)) == (decide (x56.n < 0))) hE [4,12,13] rfl (asK [] rfl) rfl
          ·
           try dsimp only at hm
           obtain ⟨_, hc82, hm⟩ := bindO_some hm
           try dsimp only at hm
           refine wc_draw [0,2,3,4,5,7,8,9] rfl rfl (fun hok => (xP hok 0 rfl (wx_fieldAddr hok 2 rfl rfl rfl (freshS_eq rfl) rfl rfl rfl tF_25_1 (wx_loadH hok 3 1 1 rfl rfl rfl (freshS_eq rfl) rfl rfl rfl rfl (cs := [_]) rfl tS_2 tA_2 rfl rfl (wx_fieldAddr hok 4 rfl rfl rfl (freshS_eq rfl) rfl rfl rfl tF_25_1 (wx_loadH hok 5 0 1 rfl rfl rfl (freshS_eq rfl) rfl rfl rfl rfl (cs := [_]) rfl tS_2 tA_2 rfl rfl (xS hok 1 rfl (wC [] [0,1,2] rfl fn_31 rfl (w_value_does_s1 N a0 hc77) (asK [] rfl) rfl (H' := [_,_,_]) rfl ?_))))))))
           rintro _ _ _ ⟨rfl, rfl, rfl⟩
           refine wl_nil (we_x [] [0,1] rfl rfl (xS hok 6 rfl (wl_callDyn [] [0,1,2] rfl rfl rfl (freshS_eq rfl) rfl rfl rfl fn_41 rfl rfl (w_value_does_3_s N x51.n x56.n hc82) (asK [] rfl) rfl (H' := [_,_,_]) rfl ?_)))
           rintro _ _ _ ⟨rfl, rfl, rfl⟩
           refine wl_nil (we_x [] [] rfl rfl (xP hok 7 rfl (xP hok 8 rfl (xP hok 9 rfl (xS hok 10 rfl (wP rfl (wl_nil (we_x [] [] rfl rfl (xS hok 11 rfl (wP rfl (wl_nil (we_x [] [] rfl rfl (wx_done hok rfl ?_)))))))))))))
           have hE := (Option.some.inj hm).symm
           refine we_pick [2] rfl (H' := [_]) rfl ?_
           refine we_join (IntKind.wrap .i64 (x51.n - x56.n), (decide ((IntKind.wrap .i64 (x51.n - x56.n)) > x51.n)) == (decide (x56.n < 0))) hE [4,12,13] rfl (asK [] rfl) rfl
          ·
           try dsimp only at hm
           obtain ⟨⟨v82_0, v82_1⟩, hc82, hm⟩ := bindO_some hm
           try dsimp only at hm
           refine wc_draw [0,2,3,4,5,7,8,9] rfl rfl (fun hok => (xP hok 0 rfl (wx_fieldAddr hok 2 rfl rfl rfl (freshS_eq rfl) rfl rfl rfl tF_25_1 (wx_loadH hok 3 1 1 rfl rfl rfl (freshS_eq rfl) rfl rfl rfl rfl (cs := [_]) rfl tS_2 tA_2 rfl rfl (wx_fieldAddr hok 4 rfl rfl rfl (freshS_eq rfl) rfl rfl rfl tF_25_1 (wx_loadH hok 5 0 1 rfl rfl rfl (freshS_eq rfl) rfl rfl rfl rfl (cs := [_]) rfl tS_2 tA_2 rfl rfl (xS hok 1 rfl (wC [] [0,1,2] rfl fn_31 rfl (w_value_does_s2 N a0 hc77) (asK [] rfl) rfl (H' := [_,_,_]) rfl ?_))))))))
           rintro _ _ _ ⟨rfl, rfl, rfl⟩
           refine wl_nil (we_x [] [0,1] rfl rfl (xS hok 6 rfl (wl_callDyn [] [0,1,2] rfl rfl rfl (freshS_eq rfl) rfl rfl rfl fn_42 rfl rfl (w_value_product_s N x51.n x56.n _ _ hc82) (asK [] rfl) rfl (H' := [_,_,_]) rfl ?_)))
           rintro _ _ _ ⟨rfl, rfl, rfl⟩
           refine wl_nil (we_x [] [] rfl rfl (xP hok 7 rfl (xP hok 8 rfl (xP hok 9 rfl (xS hok 10 rfl (wP rfl (wl_nil (we_x [] [] rfl rfl (xS hok 11 rfl (wP rfl (wl_nil (we_x [] [] rfl rfl (wx_done hok rfl ?_)))))))))))))
           have hE := (Option.some.inj hm).symm
           refine we_pick [2] rfl (H' := [_]) rfl ?_
           refine we_join (v82_0, v82_1) hE [4,12,13] rfl (asK [] rfl) rfl
          ·
           try dsimp only at hm
           obtain ⟨_, hc82, hm⟩ := bindO_some hm
           try dsimp only at hm
           refine wc_draw [0,2,3,4,5,7,8,9] rfl rfl (fun hok => (xP hok 0 rfl (wx_fieldAddr hok 2 rfl rfl rfl (freshS_eq rfl) rfl rfl rfl tF_25_1 (wx_loadH hok 3 1 1 rfl rfl rfl (freshS_eq rfl) rfl rfl rfl rfl (cs := [_]) rfl tS_2 tA_2 rfl rfl (wx_fieldAddr hok 4 rfl rfl rfl (freshS_eq rfl) rfl rfl rfl tF_25_1 (wx_loadH hok 5 0 1 rfl rfl rfl (freshS_eq rfl) rfl rfl rfl rfl (cs := [_]) rfl tS_2 tA_2 rfl rfl (xS hok 1 rfl (wC [] [0,1,2] rfl fn_31 rfl (w_value_does_s3 N a0 hc77) (asK [] rfl) rfl (H' := [_,_,_]) rfl ?_))))))))
           rintro _ _ _ ⟨rfl, rfl, rfl⟩
           refine wl_nil (we_x [] [0,1] rfl rfl (xS hok 6 rfl (wl_callDyn [] [0,1,2] rfl rfl rfl (freshS_eq rfl) rfl rfl rfl fn_43 rfl rfl (w_value_does_4_s N x51.n x56.n hc82) (asK [] rfl) rfl (H' := [_,_,_]) rfl ?_)))
           rintro _ _ _ ⟨rfl, rfl, rfl⟩
           refine wl_nil (we_x [] [] rfl rfl (xP hok 7 rfl (xP hok 8 rfl (xP hok 9 rfl (xS hok 10 rfl (wP rfl (wl_nil (we_x [] [] rfl rfl (xS hok 11 rfl (wP rfl (wl_nil (we_x [] [] rfl rfl (wx_done hok rfl ?_)))))))))))))
           have hE := (Option.some.inj hm).symm
           refine we_pick [2] rfl (H' := [_]) rfl ?_
           refine we_join (IntKind.wrap .i64 (0 - x51.n), x51.n != -9223372036854775808) hE [4,12,13] rfl (asK [] rfl) rfl
          ·
           try dsimp only at hm
           obtain ⟨v82, hc82, hm⟩ := bindO_some hm
           refine wc_draw [0,2,3,4,5,7,8,9] rfl rfl (fun hok => (xP hok 0 rfl (wx_fieldAddr hok 2 rfl rfl rfl (freshS_eq rfl) rfl rfl rfl tF_25_1 (wx_loadH hok 3 1 1 rfl rfl rfl (freshS_eq rfl) rfl rfl rfl rfl (cs := [_]) rfl tS_2 tA_2 rfl rfl (wx_fieldAddr hok 4 rfl rfl rfl (freshS_eq rfl) rfl rfl rfl tF_25_1 (wx_loadH hok 5 0 1 rfl rfl rfl (freshS_eq rfl) rfl rfl rfl rfl (cs := [_]) rfl tS_2 tA_2 rfl rfl (xS hok 1 rfl (wC [] [0,1,2] rfl fn_31 rfl (w_value_does_s4 N a0 hc77) (asK [] rfl) rfl (H' := [_,_,_]) rfl ?_))))))))
           rintro _ _ _ ⟨c77_0, rfl, rfl, rfl⟩
           refine wl_nil (we_x [] [1,2] rfl rfl (xS hok 6 rfl (wl_callDyn [0] [1,2,3] rfl rfl rfl (freshS_eq rfl) rfl rfl rfl fn_44 rfl rfl (w_value_does_5_s N x51.n x56.n c77_0 _ hc82) (asK [] rfl) rfl (H' := [_,_,_]) rfl ?_)))
           rintro _ _ _ ⟨rfl, rfl, rfl⟩
           refine wl_nil (we_x [] [] rfl rfl (xP hok 7 rfl (xP hok 8 rfl (xP hok 9 rfl (xS hok 10 rfl (wP rfl (wl_nil (we_x [] [] rfl rfl (xS hok 11 rfl (wP rfl (wl_nil (we_x [] [] rfl rfl (wx_done hok rfl ?_)))))))))))))
           have hE := (Option.some.inj hm).symm
           refine we_pick [3] rfl (H' := [_]) rfl ?_
           refine we_join (v82, true) hE [4,12,13] rfl (asK [] rfl) rfl
          ·
           try dsimp only at hm
           obtain ⟨v82, hc82, hm⟩ := bindO_some hm
           refine wc_draw [0,2,3,4,5,7,8,9] rfl rfl (fun hok => (xP hok 0 rfl (wx_fieldAddr hok 2 rfl rfl rfl (freshS_eq rfl) rfl rfl rfl tF_25_1 (wx_loadH hok 3 1 1 rfl rfl rfl (freshS_eq rfl) rfl rfl rfl rfl (cs := [_]) rfl tS_2 tA_2 rfl rfl (wx_fieldAddr hok 4 rfl rfl rfl (freshS_eq rfl) rfl rfl rfl tF_25_1 (wx_loadH hok 5 0 1 rfl rfl rfl (freshS_eq rfl) rfl rfl rfl rfl (cs := [_]) rfl tS_2 tA_2 rfl rfl (xS hok 1 rfl (wC [] [0,1,2] rfl fn_31 rfl (w_value_does_s5 N a0 hc77) (asK [] rfl) rfl (H' := [_,_,_]) rfl ?_))))))))
           rintro _ _ _ ⟨c77_0, rfl, rfl, rfl⟩
           refine wl_nil (we_x [] [1,2] rfl rfl (xS hok 6 rfl (wl_callDyn [0] [1,2,3] rfl rfl rfl (freshS_eq rfl) rfl rfl rfl fn_45 rfl rfl (w_value_does_6_s N x51.n x56.n c77_0 _ hc82) (asK [] rfl) rfl (H' := [_,_,_]) rfl ?_)))
           rintro _ _ _ ⟨rfl, rfl, rfl⟩
           refine wl_nil (we_x [] [] rfl rfl (xP hok 7 rfl (xP hok 8 rfl (xP hok 9 rfl (xS hok 10 rfl (wP rfl (wl_nil (we_x [] [] rfl rfl (xS hok 11 rfl (wP rfl (wl_nil (we_x [] [] rfl rfl (wx_done hok rfl ?_)))))))))))))
           have hE := (Option.some.inj hm).symm
           refine we_pick [3] rfl (H' := [_]) rfl ?_
           refine we_join (v82, true) hE [4,12,13] rfl (asK [] rfl) rfl
          ·
           try dsimp only at hm
           obtain ⟨v82, hc82, hm⟩ := bindO_some hm
           refine wc_draw [0,2,3,4,5,7,8,9] rfl rfl (fun hok => (xP hok 0 rfl (wx_fieldAddr hok 2 rfl rfl rfl (freshS_eq rfl) rfl rfl rfl tF_25_1 (wx_loadH hok 3 1 1 rfl rfl rfl (freshS_eq rfl) rfl rfl rfl rfl (cs := [_]) rfl tS_2 tA_2 rfl rfl (wx_fieldAddr hok 4 rfl rfl rfl (freshS_eq rfl) rfl rfl rfl tF_25_1 (wx_loadH hok 5 0 1 rfl rfl rfl (freshS_eq rfl) rfl rfl rfl rfl (cs := [_]) rfl tS_2 tA_2 rfl rfl (xS hok 1 rfl (wC [] [0,1,2] rfl fn_31 rfl (w_value_does_s6 N a0 hc77) (asK [] rfl) rfl (H' := [_,_,_]) rfl ?_))))))))
           rintro _ _ _ ⟨c77_0, rfl, rfl, rfl⟩
           refine wl_nil (we_x [] [1,2] rfl rfl (xS hok 6 rfl (wl_callDyn [0] [1,2,3] rfl rfl rfl (freshS_eq rfl) rfl rfl rfl fn_46 rfl rfl (w_value_does_7_s N x51.n x56.n c77_0 _ hc82) (asK [] rfl) rfl (H' := [_,_,_]) rfl ?_)))
           rintro _ _ _ ⟨rfl, rfl, rfl⟩
           refine wl_nil (we_x [] [] rfl rfl (xP hok 7 rfl (xP hok 8 rfl (xP hok 9 rfl (xS hok 10 rfl (wP rfl (wl_nil (we_x [] [] rfl rfl (xS hok 11 rfl (wP rfl (wl_nil (we_x [] [] rfl rfl (wx_done hok rfl ?_)))))))))))))
           have hE := (Option.some.inj hm).symm
           refine we_pick [3] rfl (H' := [_]) rfl ?_
           refine we_join (v82, true) hE [4,12,13] rfl (asK [] rfl) rfl
          ·
           try dsimp only at hm
           obtain ⟨v82, hc82, hm⟩ := bindO_some hm
           refine wc_draw [0,2,3,4,5,7,8,9] rfl rfl (fun hok => (xP hok 0 rfl (wx_fieldAddr hok 2 rfl rfl rfl (freshS_eq rfl) rfl rfl rfl tF_25_1 (wx_loadH hok 3 1 1 rfl rfl rfl (freshS_eq rfl) rfl rfl rfl rfl (cs := [_]) rfl tS_2 tA_2 rfl rfl (wx_fieldAddr hok 4 rfl rfl rfl (freshS_eq rfl) rfl rfl rfl tF_25_1 (wx_loadH hok 5 0 1 rfl rfl rfl (freshS_eq rfl) rfl rfl rfl rfl (cs := [_]) rfl tS_2 tA_2 rfl rfl (xS hok 1 rfl (wC [] [0,1,2] rfl fn_31 rfl (w_value_does_s7 N a0 hc77) (asK [] rfl) rfl (H' := [_,_,_]) rfl ?_))))))))
           rintro _ _ _ ⟨c77_0, rfl, rfl, rfl⟩
           refine wl_nil (we_x [] [1,2] rfl rfl (xS hok 6 rfl (wl_callDyn [0] [1,2,3] rfl rfl rfl (freshS_eq rfl) rfl rfl rfl fn_47 rfl rfl (w_value_does_8_s N x51.n x56.n c77_0 _ hc82) (asK [] rfl) rfl (H' := [_,_,_]) rfl ?_)))
           rintro _ _ _ ⟨rfl, rfl, rfl⟩
           refine wl_nil (we_x [] [] rfl rfl (xP hok 7 rfl (xP hok 8 rfl (xP hok 9 rfl (xS hok 10 rfl (wP rfl (wl_nil (we_x [] [] rfl rfl (xS hok 11 rfl (wP rfl (wl_nil (we_x [] [] rfl rfl (wx_done hok rfl ?_)))))))))))))
           have hE := (Option.some.inj hm).symm
           refine we_pick [3] rfl (H' := [_]) rfl ?_
           refine we_join (v82, true) hE [4,12,13] rfl (asK [] rfl) rfl
          ·
           try dsimp only at hm
           obtain ⟨v82, hc82, hm⟩ := bindO_some hm
           refine wc_draw [0,2,3,4,5,7,8,9] rfl rfl (fun hok => (xP hok 0 rfl (wx_fieldAddr hok 2 rfl rfl rfl (freshS_eq rfl) rfl rfl rfl tF_25_1 (wx_loadH hok 3 1 1 rfl rfl rfl (freshS_eq rfl) rfl rfl rfl rfl (cs := [_]) rfl tS_2 tA_2 rfl rfl (wx_fieldAddr hok 4 rfl rfl rfl (freshS_eq rfl) rfl rfl rfl tF_25_1 (wx_loadH hok 5 0 1 rfl rfl rfl (freshS_eq rfl) rfl rfl rfl rfl (cs := [_]) rfl tS_2 tA_2 rfl rfl (xS hok 1 rfl (wC [] [0,1,2] rfl fn_31 rfl (w_value_does_s8 N a0 hc77) (asK [] rfl) rfl (H' := [_,_,_]) rfl ?_))))))))
           rintro _ _ _ ⟨c77_0, rfl, rfl, rfl⟩
           refine wl_nil (we_x [] [1,2] rfl rfl (xS hok 6 rfl (wl_callDyn [0] [1,2,3] rfl rfl rfl (freshS_eq rfl) rfl rfl rfl fn_48 rfl rfl (w_value_does_9_s N x51.n x56.n c77_0 _ hc82) (asK [] rfl) rfl (H' := [_,_,_]) rfl ?_)))
           rintro _ _ _ ⟨rfl, rfl, rfl⟩
           refine wl_nil (we_x [] [] rfl rfl (xP hok 7 rfl (xP hok 8 rfl (xP hok 9 rfl (xS hok 10 rfl (wP rfl (wl_nil (we_x [] [] rfl rfl (xS hok 11 rfl (wP rfl (wl_nil (we_x [] [] rfl rfl (wx_done hok rfl ?_)))))))))))))
           have hE := (Option.some.inj hm).symm
           refine we_pick [3] rfl (H' := [_]) rfl ?_
           refine we_join (v82, true) hE [4,12,13] rfl (asK [] rfl) rfl
          ·
           try dsimp only at hm
           cases hm
         ·
          rintro ⟨j_7_12, j_7_13⟩ hE
          try dsimp only
          have hm := hLj_7
          rw [hE] at hm
          try dsimp only at hm
          refine wc_seq (wc_seq (wc_region (wP rfl (wP rfl (wl_nil (we_then (wc_keep [86,4,12] (S' := [_,_,_]) rfl ?_)))))))
          refine wc_cond rfl (fun hb86 => ?_) (fun hb86 => ?_)
          ·
           replace hm := iteT hm hb86
           refine wc_keep [4] (S' := [_]) rfl (wc_seq (wc_region (wl_build rfl rfl rfl (freshS_eq rfl) rfl tZ_25 tP_25 rfl (out := [_,_,_]) rfl (wS 0 0 rfl tS_25 (all' := [_,_,_]) rfl (H' := [_]) rfl (wP rfl (wl_nil (we_then (wc_keep [5,4] (S' := [_,_]) rfl (wc_ret (we_then_ret ?_))))))))))
           have hE := (Option.some.inj hm).symm
           obtain ⟨hE0, hF1⟩ := Prod.mk.inj hE
           obtain ⟨hE1, hE2⟩ := Prod.mk.inj hF1
           clear hE hF1
           replace hE0 := hE0.symm
           subst hE0
           replace hE1 := hE1.symm
           subst hE1
           replace hE2 := hE2.symm
           subst hE2
           refine ret_two (Hr := []) [] Tryd.results22 (res_cell 0 rfl rfl tS_25 tA_25 rfl rfl) (res_tmp rfl) ⟨rfl, rfl, rfl⟩ (asK [] rfl) rfl rfl (.inl rfl)
          ·
           replace hm := iteF hm hb86
           refine wc_keep [4,12] (S' := [_,_]) rfl (wc_skip (we_then (wc_seq (wc_region (wP rfl ?_)))))
           obtain ⟨_, hc89, hm⟩ := bindO_some hm
           try dsimp only at hm
           refine wC [] [0] rfl fn_32 rfl (w_value_number_s N j_7_12 hc89) (asK [] rfl) rfl (H' := [_]) rfl ?_
           rintro _ _ _ ⟨rfl, rfl, rfl⟩
           refine wS 0 0 rfl tS_25 (all' := [_,_,_]) rfl (H' := [_]) rfl (wP rfl (wl_nil (we_then (wc_keep [5,4] (S' := [_,_]) rfl (wc_ret ?_)))))
           have hE := (Option.some.inj hm).symm
           obtain ⟨hE0, hF1⟩ := Prod.mk.inj hE
           obtain ⟨hE1, hE2⟩ := Prod.mk.inj hF1
           clear hE hF1
           replace hE0 := hE0.symm
           subst hE0
           replace hE1 := hE1.symm
           subst hE1
           replace hE2 := hE2.symm
           subst hE2
           refine ret_two (Hr := []) [] Tryd.results22 (res_cell 0 rfl rfl tS_25 tA_25 rfl rfl) (res_tmp rfl) ⟨rfl, rfl, rfl⟩ (asK [] rfl) rfl rfl (.inl rfl)
theorem w_expr_All_v2_s (N : Nat) (rc : Int → Int → Int → ByteArray → Int → Int → (List Api_ExprD) → (List V) → Option (Int × Int × ByteArray × Nat)) (ih : ∀ (a0 : Int) (a1 : Int) (a2 : Int) (a3 : ByteArray) (a4 : Int) (a5 : Int) (qp0 : Option Addr) (qc1 : Nat) (l6 : List Api_ExprD) (qp2 : Option Addr) (qc3 : Nat) (l7 : List V) (o0 : Int) (o1 : Int) (o2 : ByteArray) (o3 : Nat), rc a0 a1 a2 a3 a4 a5 l6 l7 = some (o0, o1, o2, o3) → Spec Tryd.prog 8 [.agg #[.int .u8 a0, .int .u8 a1, .int .i64 a2, .string a3, .int .i64 a4, .int .u8 a5, .slice qp0 l6.length qc1], .slice qp2 l7.length qc3] [.sli 7 R_Api_ExprD qp0 qc1 l6, .sli 3 R_V qp2 qc3 l7] [] (fun v Φr Hr => v = .tuple #[.agg #[.int .u8 o0, .int .i64 o1, .string o2], .int .i64 ((o3 : Nat) : Int)] ∧ Φr = [] ∧ Hr = [])) (qp0 : Option Addr) (qc1 : Nat) (l0 : List V) (qp2 : Option Addr) (qc3 : Nat) (l1 : List Api_ExprD) (o2 : List V) (o4 : Nat) (hm : m_expr_All_v2 N rc l0 l1 = some (o2, o4)) : Spec Tryd.prog 21 [.slice qp0 l0.length qc1, .slice qp2 l1.length qc3] [.sli 3 R_V qp0 qc1 l0, .sli 7 R_Api_ExprD qp2 qc3 l1] [] (fun v Φr Hr => ∃ (o0 : Option Addr) (o1 : Nat) (o3 : Nat), v = .tuple #[.slice o0 o3 o1, .int .i64 ((o4 : Nat) : Int)] ∧ Φr = [] ∧ Hr = [.own 25 3 R_V (.slice o0 o3 o1) o2]) := by
 unfold m_expr_All_v2 at hm
 refine spec_of Tryd.func21 rfl Tryd.ntmps21 rfl (S := [_,_]) rfl (fun C => (wc_seq (wc_region (wP rfl (wP rfl (wl_nil (we_then (wc_keep [0,1] (S' := [_,_]) rfl (wc_seq (wc_region (wP rfl (wl_nil (we_then (wc_seq ?_))))))))))))))
 obtain ⟨bj_1, hm, hLj_1⟩ := bindS_some hm
 refine wc_cut (σ := (List V) × (Option Addr) × Nat × Nat) (fun (j_1_6_l, j_1_6_p, j_1_6_c, j_1_6_n) => bj_1 = .inl j_1_6_l) (fun (j_1_6_l, j_1_6_p, j_1_6_c, j_1_6_n) => [(6, .slice j_1_6_p j_1_6_n j_1_6_c)]) (fun (j_1_6_l, j_1_6_p, j_1_6_c, j_1_6_n) => []) (fun (j_1_6_l, j_1_6_p, j_1_6_c, j_1_6_n) => [.own 25 3 R_V (.slice j_1_6_p j_1_6_n j_1_6_c) j_1_6_l]) ?_ ?_
 ·
  refine wc_seq (wc_region (wP rfl (wN rfl tE_27 (wP rfl (wl_nil (we_then (wc_keep [13,12,11,6,0] (S' := [_,_,_,_,_]) rfl (wc_block (wc_rowNil 25 3 R_V (wc_loop (σ := Nat × Nat × (List V) × (Option Addr) × Nat × Nat) (fun (nu1, u1_13, u1_6_l, u1_6_p, u1_6_c, u1_6_n) => iter (m_expr_All_v2_L1 N l1 rc l0) nu1 (u1_13, u1_6_l) = some bj_1) (fun (nu1, u1_13, u1_6_l, u1_6_p, u1_6_c, u1_6_n) => nu1) (fun (nu1, u1_13, u1_6_l, u1_6_p, u1_6_c, u1_6_n) => [(13, .int .i64 ((u1_13 : Nat) : Int)), (12, .int .i64 ((l1.length : Nat) : Int)), (11, .slice qp2 l1.length qc3), (6, .slice u1_6_p u1_6_n u1_6_c), (0, .slice qp0 l0.length qc1)]) (fun (nu1, u1_13, u1_6_l, u1_6_p, u1_6_c, u1_6_n) => [.sli 7 R_Api_ExprD qp2 qc3 l1, .sli 3 R_V qp0 qc1 l0]) (fun (nu1, u1_13, u1_6_l, u1_6_p, u1_6_c, u1_6_n) => [.own 25 3 R_V (.slice u1_6_p u1_6_n u1_6_c) u1_6_l]) (N, 0,[], none, 0,0) hm [13,12,11,6,0] rfl (asK [1,0] rfl) rfl (fun s_ hm => ?_)))))))))))
  obtain ⟨nu1, u1_13, u1_6_l, u1_6_p, u1_6_c, u1_6_n⟩ := s_
  try dsimp only at hm ⊢
  obtain ⟨mu1, bu1, hnu1, hq, hLu1⟩ := iter_some hm
  clear hm
  subst hnu1
  replace hm := hq
  clear hq
  unfold m_expr_All_v2_L1 at hm
  try dsimp only at hm
  refine wc_seq (wc_region (wP rfl (wl_as (d := 14) (v' := .bool (decide (u1_13 < l1.length))) (S' := [_,_,_,_,_]) rfl rfl (natlt (a := u1_13) (b := l1.length)) (wl_nil (we_then (wc_seq ?_))))))
  refine wc_cond rfl (fun hb14 => ?_) (fun hb14 => ?_)
  ·
   replace hm := iteT hm hb14
   refine wc_keep [13,12,11,6,0] (S' := [_,_,_,_,_]) rfl (wc_skip (we_then (wc_seq (wc_block (wc_seq (wc_region ?_))))))
   obtain ⟨x15, hx15, hm⟩ := bindO_some hm
   refine wl_indexA 0 u1_13 rfl rfl rfl (freshS_eq rfl) rfl rfl rfl rfl rfl hx15 tE_27 tS_29 (fun b15 q15 cs15 hlx15 => (wl_open R_Api_ExprD_opens 1 rfl (fun r15 er15 _ => ?_)))
   subst er15
   refine wl_load 1 0 rfl rfl rfl (freshS_eq rfl) rfl rfl rfl (cs := [_,_,_,_,_,_,_]) rfl tS_29 tA_29 rfl rfl (wl_alloc rfl rfl rfl (freshS_eq rfl) rfl tZ_29 rfl (fun g8 => (wS 0 0 rfl tS_29 (all' := [_,_,_,_,_,_,_]) rfl (H' := [_,_]) rfl (wl_nil (we_then (wc_keep [8,13,12,11,6,0] (S' := [_,_,_,_,_,_]) rfl (wc_seq (wc_region (wl_loadH 0 0 rfl rfl rfl (freshS_eq rfl) rfl rfl rfl (cs := [_,_,_,_,_,_,_]) rfl tS_29 tA_29 rfl rfl (wP rfl ?_))))))))))
   obtain ⟨⟨v20_0, v20_1, v20_2, v20_3⟩, hc20, hm⟩ := bindO_some hm
   try dsimp only at hm
   refine wC [] [0,1] rfl fn_8 rfl (ih x15.kind x15.value.k x15.value.n x15.value.s x15.var x15.op r15.1 r15.2 x15.kids qp0 qc1 l0 _ _ _ _ hc20) (asK [0,4] rfl) rfl (H' := [_,_]) rfl ?_
   rintro _ _ _ ⟨rfl, rfl, rfl⟩
   refine wP rfl (wP rfl (wP rfl (wl_alloc rfl rfl rfl (freshS_eq rfl) rfl tZ_25 rfl (fun g9 => (wS 0 0 rfl tS_25 (all' := [_,_,_]) rfl (H' := [_,_,_]) rfl (wP rfl (wl_nil (we_then (wc_keep [10,9,13,12,11,6,0] (S' := [_,_,_,_,_,_,_]) rfl (wc_seq (wc_seq (wc_region (wP rfl (wP rfl ?_))))))))))))))
   refine wl_as (d := 24) (v' := .bool (v20_3 != 0)) (S' := [_,_,_,_,_,_,_,_]) rfl rfl (natne (a := v20_3) (b := 0)) (wl_nil (we_then (wc_keep [24,10,9,13,12,11,6,0] (S' := [_,_,_,_,_,_,_,_]) rfl ?_)))
   refine wc_cond rfl (fun hb24 => ?_) (fun hb24 => ?_)
   ·
    replace hm := iteT hm hb24
    refine wc_keep [10] (S' := [_]) rfl (wc_seq (wc_region (wP rfl (wP rfl (wP rfl (wl_nil (we_then (wc_keep [5,4] (S' := [_,_]) rfl (wc_ret (we_then_ret (we_block_ret (we_then_ret (we_then_ret ?_)))))))))))))
    refine we_block_ret (we_then_ret ?_)
    have hE := (Option.some.inj hm).symm
    replace hE := link_inr hLu1 hE
    replace hE := link_inr hLj_1 hE
    obtain ⟨hE0, hE1⟩ := Prod.mk.inj hE
    clear hE
    replace hE0 := hE0.symm
    subst hE0
    replace hE1 := hE1.symm
    subst hE1
    refine we_rowNil 25 3 R_V ?_
    refine ret_two (Hr := [_]) [0] Tryd.results21 (res_tmp rfl) (res_tmp rfl) ⟨none, 0,0, rfl, rfl, rfl⟩ (asK [] rfl) rfl rfl (.inl rfl)
   ·
    replace hm := iteF hm hb24
    refine wc_keep [9,13,12,11,6,0] (S' := [_,_,_,_,_,_]) rfl (wc_skip (we_then (wc_region (wP rfl (wl_loadH 0 0 rfl rfl rfl (freshS_eq rfl) rfl rfl rfl (cs := [_,_,_]) rfl tS_25 tA_25 rfl rfl (wl_buildSlice rfl rfl rfl (freshS_eq rfl) rfl tE_30 tS_25 tZ_25 rfl (zs := [.int .u8 0, .int .i64 0, .string ((⟨#[]⟩ : ByteArray))]) (by kernel_rfl) rfl (out := [_,_,_]) rfl (fun g28 => ?_)))))))
    obtain ⟨hg29, hm⟩ := gd_some hm
    refine wl_appendH ([(⟨v20_0, v20_1, v20_2⟩ : V)]) 3 0 rfl rfl rfl (freshS_eq rfl) rfl rfl rfl rfl rfl (fun F w hφ => ⟨[.int .u8 v20_0, .int .i64 v20_1, .string v20_2],[], rfl, rfl, ⟨(), rfl, ask_nil⟩, rfl⟩) tE_30 tR_25 rfl rfl (Nat.le_trans hg29 (by decide)) (Nat.le_trans (Nat.mul_le_mul_right _ hg29) (by decide)) (H2 := fun p29 c29 => [_,_,_, .own 25 3 R_V (.slice p29 ((u1_6_l ++ ([(⟨v20_0, v20_1, v20_2⟩ : V)])).length) c29) (u1_6_l ++ ([(⟨v20_0, v20_1, v20_2⟩ : V)]))]) (fun _ _ => rfl) (fun p29 c29 => (wl_drop 0 rfl (H' := [_,_,_]) rfl (wl_pure (S' := [_,_,_,_,_,_,_,_,_]) rfl rfl rfl rfl rfl (wl_nil (we_block_normal (we_then (wc_keep [6,13,12,11,0] (S' := [_,_,_,_,_]) rfl (wc_region (wP rfl ?_)))))))))
    obtain ⟨hg30, hm⟩ := gd_some hm
    refine wl_as (d := 30) (v' := .int .i64 ((u1_13 + 1 : Nat) : Int)) (S' := [_,_,_,_,_]) rfl rfl (nat_add (a := u1_13) (b := 1) hg30) (wl_pure (S' := [_,_,_,_,_]) rfl rfl rfl rfl rfl (wl_nil ?_))
    have hE := (Option.some.inj hm).symm
    replace hE := link_inl hLu1 hE
    refine we_pick [2] rfl (H' := [_]) rfl ?_
    refine we_roundK (_, u1_13 + 1, (u1_6_l ++ ([(⟨v20_0, v20_1, v20_2⟩ : V)])), p29, c29, ((u1_6_l ++ ([(⟨v20_0, v20_1, v20_2⟩ : V)])).length)) (Nat.lt_succ_self _) hE [13,12,11,6,0] rfl (asK [3,4] rfl) rfl
  ·
   replace hm := iteF hm hb14
   refine wc_keep [6] (S' := [_]) rfl (wc_exit (we_then_exit (we_then_exit (we_block_hit ?_))))
   have hE := (Option.some.inj hm).symm
   replace hE := link_inr hLu1 hE
   refine we_join (u1_6_l, u1_6_p, u1_6_c, u1_6_n) hE [6] rfl (asK [] rfl) rfl
 ·
  rintro ⟨j_1_6_l, j_1_6_p, j_1_6_c, j_1_6_n⟩ hE
  try dsimp only
  have hm := link_inl hLj_1 hE
  refine wc_seq (wc_region (wP rfl (wP rfl (wP rfl (wl_nil (we_then (wc_keep [5,4] (S' := [_,_]) rfl (wc_ret ?_))))))))
  have hE := (Option.some.inj hm).symm
  obtain ⟨hE0, hE1⟩ := Prod.mk.inj hE
  clear hE
  replace hE0 := hE0.symm
  subst hE0
  replace hE1 := hE1.symm
  subst hE1
  refine ret_two (Hr := [_]) [0] Tryd.results21 (res_tmp rfl) (res_tmp rfl) ⟨j_1_6_p, j_1_6_c, j_1_6_n, rfl, rfl, rfl⟩ (asK [] rfl) rfl rfl (.inl rfl)
theorem w_expr_Eval_3_v2_s (N : Nat) (rc : Int → Int → Int → ByteArray → Int → Int → (List Api_ExprD) → (List V) → Option (Int × Int × ByteArray × Nat)) (ih : ∀ (a0 : Int) (a1 : Int) (a2 : Int) (a3 : ByteArray) (a4 : Int) (a5 : Int) (qp0 : Option Addr) (qc1 : Nat) (l6 : List Api_ExprD) (qp2 : Option Addr) (qc3 : Nat) (l7 : List V) (o0 : Int) (o1 : Int) (o2 : ByteArray) (o3 : Nat), rc a0 a1 a2 a3 a4 a5 l6 l7 = some (o0, o1, o2, o3) → Spec Tryd.prog 8 [.agg #[.int .u8 a0, .int .u8 a1, .int .i64 a2, .string a3, .int .i64 a4, .int .u8 a5, .slice qp0 l6.length qc1], .slice qp2 l7.length qc3] [.sli 7 R_Api_ExprD qp0 qc1 l6, .sli 3 R_V qp2 qc3 l7] [] (fun v Φr Hr => v = .tuple #[.agg #[.int .u8 o0, .int .i64 o1, .string o2], .int .i64 ((o3 : Nat) : Int)] ∧ Φr = [] ∧ Hr = [])) (qg0 : Nat) (qp1 : Option Addr) (qc2 : Nat) (l0 : List V) (qg3 : Nat) (a1 : Int) (a2 : Int) (a3 : Int) (a4 : ByteArray) (a5 : Int) (a6 : Int) (qp4 : Option Addr) (qc5 : Nat) (l7 : List Api_ExprD) (o0 : Nat) (o1 : Int) (o2 : Nat) (hm : m_expr_Eval_3_v2 N rc l0 a1 a2 a3 a4 a5 a6 l7 = some (o0, o1, o2)) : Spec Tryd.prog 20 [.pointer (some ⟨qg0,0, none⟩), .pointer (some ⟨qg3,0, none⟩)] [.sli 3 R_V qp1 qc2 l0, .sli 7 R_Api_ExprD qp4 qc5 l7] [.blk qg0 [.slice qp1 l0.length qc2] 30, .blk qg3 [.int .u8 a1, .int .u8 a2, .int .i64 a3, .string a4, .int .i64 a5, .int .u8 a6, .slice qp4 l7.length qc5] 29] (fun v Φr Hr => v = .tuple #[.agg #[.int .u8 ((o0 : Nat) : Int), .int .i64 o1, .string ((⟨#[]⟩ : ByteArray))], .int .i64 ((o2 : Nat) : Int)] ∧ Φr = [.sli 3 R_V qp1 qc2 l0, .sli 7 R_Api_ExprD qp4 qc5 l7] ∧ Hr = [.blk qg0 [.slice qp1 l0.length qc2] 30, .blk qg3 [.int .u8 a1, .int .u8 a2, .int .i64 a3, .string a4, .int .i64 a5, .int .u8 a6, .slice qp4 l7.length qc5] 29]) := by
 unfold m_expr_Eval_3_v2 at hm
 refine spec_of Tryd.func20 rfl Tryd.ntmps20 rfl (S := [_,_]) rfl (fun C => (wc_seq (wc_region (wl_alloc rfl rfl rfl (freshS_eq rfl) rfl tZ_25 rfl (fun g2 => (wP rfl (wl_nil (we_then (wc_keep [2,0,1] (S' := [_,_,_]) rfl (wc_seq (wc_region (wD 1 0 rfl tS_30 tA_30 rfl (wF rfl tF_29_4 (wD 2 6 rfl tS_27 tA_27 rfl ?_))))))))))))))
 obtain ⟨⟨v10_0, v10_1⟩, hc10, hm⟩ := bindO_some hm
 try dsimp only at hm
 refine wC [] [0,1,2] rfl fn_21 rfl (w_expr_All_v2_s N rc ih qp1 qc2 l0 qp4 qc5 l7 _ _ hc10) (asK [0,1] rfl) rfl (H' := [_,_,_]) rfl ?_
 rintro _ _ _ ⟨p10_0, c10_1, c10_2, rfl, rfl, rfl⟩
 refine wP rfl (wP rfl (wP rfl (wP rfl (wP rfl (wl_nil (we_then (wc_keep [5,4,2,1] (S' := [_,_,_,_]) rfl (wc_seq (wc_seq (wc_region (wP rfl (wP rfl (wl_as (d := 14) (v' := .bool (v10_1 != 0)) (S' := [_,_,_,_,_]) rfl rfl (natne (a := v10_1) (b := 0)) ?_)))))))))))))
 refine wl_nil (we_then (wc_keep [14,5,4,2,1] (S' := [_,_,_,_,_]) rfl ?_))
 refine wc_cond rfl (fun hb14 => ?_) (fun hb14 => ?_)
 ·
  replace hm := iteT hm hb14
  refine wc_keep [5,2] (S' := [_,_]) rfl (wc_seq (wc_region (wl_build rfl rfl rfl (freshS_eq rfl) rfl tZ_25 tP_25 rfl (out := [_,_,_]) rfl (wP rfl (wS 1 0 rfl tS_25 (all' := [_,_,_]) rfl (H' := [_,_,_,_]) rfl (wP rfl (wl_nil (we_then (wc_keep [3,2] (S' := [_,_]) rfl (wc_ret (we_then_ret ?_)))))))))))
  have hE := (Option.some.inj hm).symm
  obtain ⟨hE0, hF1⟩ := Prod.mk.inj hE
  obtain ⟨hE1, hE2⟩ := Prod.mk.inj hF1
  clear hE hF1
  replace hE0 := hE0.symm
  subst hE0
  replace hE1 := hE1.symm
  subst hE1
  replace hE2 := hE2.symm
  subst hE2
  refine ret_two (Hr := [_,_]) [2,3] Tryd.results20 (res_cell 1 rfl rfl tS_25 tA_25 rfl rfl) (res_tmp rfl) ⟨rfl, rfl, rfl⟩ (asK [0,1] rfl) rfl rfl (.inl rfl)
 ·
  replace hm := iteF hm hb14
  refine wc_keep [4,2,1] (S' := [_,_,_]) rfl (wc_skip (we_then (wc_seq (wc_region (wF rfl tF_29_3 (wD 3 5 rfl tS_26 tA_26 rfl (wP rfl (wl_ownLen 0 rfl (fun hzc10_2 _ => ?_)))))))))
  subst hzc10_2
  obtain ⟨⟨v20_0, v20_1, v20_2⟩, hc20, hm⟩ := bindO_some hm
  try dsimp only at hm
  refine wl_lend [] [0,1,2,3] [0] rfl rfl rfl (freshS_eq rfl) rfl rfl fn_22 rfl (w_value_Do_s N a6 p10_0 c10_1 v10_0 _ _ _ hc20) (fun F w hφ hh => (ask_cons (own_sli (hh _ (mem_at (k := 0) rfl))) ask_nil)) (fun _ _ _ hR => by obtain ⟨rfl, rfl, rfl⟩ := hR; exact ⟨rfl, (fun _ h => free_nil h)⟩) rfl rfl (H' := [_,_,_,_]) rfl ?_
  rintro _ _ _ ⟨rfl, rfl, rfl⟩
  refine wP rfl (wP rfl (wS 1 0 rfl tS_25 (all' := [_,_,_]) rfl (H' := [_,_,_,_]) rfl (wP rfl (wl_nil (we_then (wc_keep [3,2] (S' := [_,_]) rfl (wc_ret ?_)))))))
  have hE := (Option.some.inj hm).symm
  obtain ⟨hE0, hF1⟩ := Prod.mk.inj hE
  obtain ⟨hE1, hE2⟩ := Prod.mk.inj hF1
  clear hE hF1
  replace hE0 := hE0.symm
  subst hE0
  replace hE1 := hE1.symm
  subst hE1
  replace hE2 := hE2.symm
  subst hE2
  refine ret_two (Hr := [_,_]) [2,3] Tryd.results20 (res_cell 1 rfl rfl tS_25 tA_25 rfl rfl) (res_tmp rfl) ⟨rfl, rfl, rfl⟩ (asK [0,1] rfl) rfl rfl (.inl rfl)
theorem w_expr_Eval_s_b (N : Nat) (rc : Int → Int → Int → ByteArray → Int → Int → (List Api_ExprD) → (List V) → Option (Int × Int × ByteArray × Nat)) (ih : ∀ (a0 : Int) (a1 : Int) (a2 : Int) (a3 : ByteArray) (a4 : Int) (a5 : Int) (qp0 : Option Addr) (qc1 : Nat) (l6 : List Api_ExprD) (qp2 : Option Addr) (qc3 : Nat) (l7 : List V) (o0 : Int) (o1 : Int) (o2 : ByteArray) (o3 : Nat), rc a0 a1 a2 a3 a4 a5 l6 l7 = some (o0, o1, o2, o3) → Spec Tryd.prog 8 [.agg #[.int .u8 a0, .int .u8 a1, .int .i64 a2, .string a3, .int .i64 a4, .int .u8 a5, .slice qp0 l6.length qc1], .slice qp2 l7.length qc3] [.sli 7 R_Api_ExprD qp0 qc1 l6, .sli 3 R_V qp2 qc3 l7] [] (fun v Φr Hr => v = .tuple #[.agg #[.int .u8 o0, .int .i64 o1, .string o2], .int .i64 ((o3 : Nat) : Int)] ∧ Φr = [] ∧ Hr = [])) (a0 : Int) (a1 : Int) (a2 : Int) (a3 : ByteArray) (a4 : Int) (a5 : Int) (qp0 : Option Addr) (qc1 : Nat) (l6 : List Api_ExprD) (qp2 : Option Addr) (qc3 : Nat) (l7 : List V) (o0 : Int) (o1 : Int) (o2 : ByteArray) (o3 : Nat) (hm : m_expr_Eval_b N rc a0 a1 a2 a3 a4 a5 l6 l7 = some (o0, o1, o2, o3)) : Spec Tryd.prog 8 [.agg #[.int .u8 a0, .int .u8 a1, .int .i64 a2, .string a3, .int .i64 a4, .int .u8 a5, .slice qp0 l6.length qc1], .slice qp2 l7.length qc3] [.sli 7 R_Api_ExprD qp0 qc1 l6, .sli 3 R_V qp2 qc3 l7] [] (fun v Φr Hr => v = .tuple #[.agg #[.int .u8 o0, .int .i64 o1, .string o2], .int .i64 ((o3 : Nat) : Int)] ∧ Φr = [] ∧ Hr = []) := by
 unfold m_expr_Eval_b at hm
 refine spec_of Tryd.func8 rfl Tryd.ntmps8 rfl (S := [_,_]) rfl (fun C => (wc_seq (wc_region (wB rfl (fun g2 => (wB rfl (fun g3 => (wl_alloc rfl rfl rfl (freshS_eq rfl) rfl tZ_25 rfl (fun g4 => (wP rfl (wl_nil (we_then (wc_keep [4,3,2] (S' := [_,_,_]) rfl (wc_seq (wc_region (wl_makeMapE (keyInt (tInt_run tI_22)) false valRep rfl rfl rfl (freshS_eq rfl) rfl (fun g9 => (wl_makeFunc rfl rfl rfl (freshS_eq rfl) rfl rfl ?_))))))))))))))))))
 refine wl_mapPutE (i := 1) (u := .func (.func 17) #[] #[.pointer (some ⟨g2,0, none⟩)]) (cs := [.func (.func 17) #[] #[.pointer (some ⟨g2,0, none⟩)]]) 0 rfl rfl (.inr rfl) rfl rfl rfl rfl tM_52 trivial rfl (fun F w hφ => ⟨rfl, rfl⟩) (H' := [mapE (keyInt (tInt_run tI_22)) false valRep g9 ([(1, .func (.func 17) #[] #[.pointer (some ⟨g2,0, none⟩)])]), .blk g4 [.int .u8 0, .int .i64 0, .string ((⟨#[]⟩ : ByteArray))] 25, .blk g3 [.slice qp2 l7.length qc3] 30, .blk g2 [.int .u8 a0, .int .u8 a1, .int .i64 a2, .string a3, .int .i64 a4, .int .u8 a5, .slice qp0 l6.length qc1] 29]) rfl (wl_makeFunc rfl rfl rfl (freshS_eq rfl) rfl rfl (wl_mapPutE (i := 2) (u := .func (.func 19) #[] #[.pointer (some ⟨g2,0, none⟩), .pointer (some ⟨g3,0, none⟩)]) (cs := [.func (.func 19) #[] #[.pointer (some ⟨g2,0, none⟩), .pointer (some ⟨g3,0, none⟩)]]) 0 rfl rfl (.inr rfl) rfl rfl rfl rfl tM_52 trivial rfl (fun F w hφ => ⟨rfl, rfl⟩) (H' := [mapE (keyInt (tInt_run tI_22)) false valRep g9 ([(1, .func (.func 17) #[] #[.pointer (some ⟨g2,0, none⟩)]), (2, .func (.func 19) #[] #[.pointer (some ⟨g2,0, none⟩), .pointer (some ⟨g3,0, none⟩)])]), .blk g4 [.int .u8 0, .int .i64 0, .string ((⟨#[]⟩ : ByteArray))] 25, .blk g3 [.slice qp2 l7.length qc3] 30, .blk g2 [.int .u8 a0, .int .u8 a1, .int .i64 a2, .string a3, .int .i64 a4, .int .u8 a5, .slice qp0 l6.length qc1] 29]) rfl (wl_makeFunc rfl rfl rfl (freshS_eq rfl) rfl rfl (wl_mapPutE (i := 3) (u := .func (.func 20) #[] #[.pointer (some ⟨g3,0, none⟩), .pointer (some ⟨g2,0, none⟩)]) (cs := [.func (.func 20) #[] #[.pointer (some ⟨g3,0, none⟩), .pointer (some ⟨g2,0, none⟩)]]) 0 rfl rfl (.inr rfl) rfl rfl rfl rfl tM_52 trivial rfl (fun F w hφ => ⟨rfl, rfl⟩) (H' := [mapE (keyInt (tInt_run tI_22)) false valRep g9 ([(1, .func (.func 17) #[] #[.pointer (some ⟨g2,0, none⟩)]), (2, .func (.func 19) #[] #[.pointer (some ⟨g2,0, none⟩), .pointer (some ⟨g3,0, none⟩)]), (3, .func (.func 20) #[] #[.pointer (some ⟨g3,0, none⟩), .pointer (some ⟨g2,0, none⟩)])]), .blk g4 [.int .u8 0, .int .i64 0, .string ((⟨#[]⟩ : ByteArray))] 25, .blk g3 [.slice qp2 l7.length qc3] 30, .blk g2 [.int .u8 a0, .int .u8 a1, .int .i64 a2, .string a3, .int .i64 a4, .int .u8 a5, .slice qp0 l6.length qc1] 29]) rfl (wP rfl (wF rfl tF_29_0 (wD 3 0 rfl tS_22 tA_22 rfl ?_)))))))
 rcases ite_some hm with ⟨hq16_0, hm⟩ | ⟨hq16_0, hm⟩
 ·
  refine wl_lookYesE (i := a0) (a := (.func (.func 17) #[] #[.pointer (some ⟨g2,0, none⟩)])) valRep_opens 0 rfl rfl rfl (freshS_eq rfl) rfl rfl rfl rfl tM_52 trivial (by rw [eq_of_beq hq16_0]; rfl) (u := fun _ => .func (.func 17) #[] #[.pointer (some ⟨g2,0, none⟩)]) (fun _ => rfl) (v := fun _ => .tuple #[.func (.func 17) #[] #[.pointer (some ⟨g2,0, none⟩)], .bool true]) (fun _ => rfl) (fun _ _ => (wP rfl (wP rfl (wP rfl (wP rfl (wP rfl (wl_nil (we_then (wc_keep [7,6,4] (S' := [_,_,_]) rfl (wc_seq (wc_seq (wc_region (wP rfl (wP rfl ?_))))))))))))))
  refine wl_nil (we_then (wc_keep [20,6,4] (S' := [_,_,_]) rfl (wc_false rfl (wc_keep [6,4] (S' := [_,_]) rfl (wc_skip (we_then (wc_seq (wc_region (wP rfl ?_)))))))))
  obtain ⟨⟨v23_0, v23_1, v23_2, v23_3⟩, hc23, hm⟩ := bindO_some hm
  try dsimp only at hm
  refine wl_callDyn [3] [0,1,2] rfl rfl rfl (freshS_eq rfl) rfl rfl rfl fn_17 rfl rfl (w_expr_Eval_1_s N g2 a0 a1 a2 a3 a4 a5 qp0 qc1 l6 _ _ _ _ hc23) (asK [0] rfl) rfl (H' := [_,_,_]) rfl ?_
  rintro _ _ _ ⟨rfl, rfl, rfl⟩
  refine wP rfl (wP rfl (wS 2 0 rfl tS_25 (all' := [_,_,_]) rfl (H' := [_,_,_,_]) rfl (wP rfl (wl_nil (we_then (wc_keep [5,4] (S' := [_,_]) rfl (wc_ret ?_)))))))
  have hE := (Option.some.inj hm).symm
  obtain ⟨hE0, hF1⟩ := Prod.mk.inj hE
  obtain ⟨hE1, hF2⟩ := Prod.mk.inj hF1
  obtain ⟨hE2, hE3⟩ := Prod.mk.inj hF2
  clear hE hF1 hF2
  replace hE0 := hE0.symm
  subst hE0
  replace hE1 := hE1.symm
  subst hE1
  replace hE2 := hE2.symm
  subst hE2
  replace hE3 := hE3.symm
  subst hE3
  refine ret_two (Hr := []) [] Tryd.results8 (res_cell 2 rfl rfl tS_25 tA_25 rfl rfl) (res_tmp rfl) ⟨rfl, rfl, rfl⟩ (asK [] rfl) rfl rfl (.inl rfl)
 rcases ite_some hm with ⟨hq16_1, hm⟩ | ⟨hq16_1, hm⟩
 ·
  refine wl_lookYesE (i := a0) (a := (.func (.func 19) #[] #[.pointer (some ⟨g2,0, none⟩), .pointer (some ⟨g3,0, none⟩)])) valRep_opens 0 rfl rfl rfl (freshS_eq rfl) rfl rfl rfl rfl tM_52 trivial (by rw [eq_of_beq hq16_1]; rfl) (u := fun _ => .func (.func 19) #[] #[.pointer (some ⟨g2,0, none⟩), .pointer (some ⟨g3,0, none⟩)]) (fun _ => rfl) (v := fun _ => .tuple #[.func (.func 19) #[] #[.pointer (some ⟨g2,0, none⟩), .pointer (some ⟨g3,0, none⟩)], .bool true]) (fun _ => rfl) (fun _ _ => (wP rfl (wP rfl (wP rfl (wP rfl (wP rfl (wl_nil (we_then (wc_keep [7,6,4] (S' := [_,_,_]) rfl (wc_seq (wc_seq (wc_region (wP rfl (wP rfl ?_))))))))))))))
  refine wl_nil (we_then (wc_keep [20,6,4] (S' := [_,_,_]) rfl (wc_false rfl (wc_keep [6,4] (S' := [_,_]) rfl (wc_skip (we_then (wc_seq (wc_region (wP rfl ?_)))))))))
  obtain ⟨⟨v23_0, v23_1, v23_2, v23_3⟩, hc23, hm⟩ := bindO_some hm
  try dsimp only at hm
  refine wl_callDyn [3,2] [0,1] rfl rfl rfl (freshS_eq rfl) rfl rfl rfl fn_19 rfl rfl (w_expr_Eval_2_s N g2 a0 a1 a2 a3 a4 a5 qp0 qc1 l6 g3 qp2 qc3 l7 _ _ _ _ hc23) (asK [0,1] rfl) rfl (H' := [_,_]) rfl ?_
  rintro _ _ _ ⟨rfl, rfl, rfl⟩
  refine wP rfl (wP rfl (wS 3 0 rfl tS_25 (all' := [_,_,_]) rfl (H' := [_,_,_,_]) rfl (wP rfl (wl_nil (we_then (wc_keep [5,4] (S' := [_,_]) rfl (wc_ret ?_)))))))
  have hE := (Option.some.inj hm).symm
  obtain ⟨hE0, hF1⟩ := Prod.mk.inj hE
  obtain ⟨hE1, hF2⟩ := Prod.mk.inj hF1
  obtain ⟨hE2, hE3⟩ := Prod.mk.inj hF2
  clear hE hF1 hF2
  replace hE0 := hE0.symm
  subst hE0
  replace hE1 := hE1.symm
  subst hE1
  replace hE2 := hE2.symm
  subst hE2
  replace hE3 := hE3.symm
  subst hE3
  refine ret_two (Hr := []) [] Tryd.results8 (res_cell 3 rfl rfl tS_25 tA_25 rfl rfl) (res_tmp rfl) ⟨rfl, rfl, rfl⟩ (asK [] rfl) rfl rfl (.inl rfl)
 rcases ite_some hm with ⟨hq16_2, hm⟩ | ⟨hq16_2, hm⟩
 ·
  refine wl_lookYesE (i := a0) (a := (.func (.func 20) #[] #[.pointer (some ⟨g3,0, none⟩), .pointer (some ⟨g2,0, none⟩)])) valRep_opens 0 rfl rfl rfl (freshS_eq rfl) rfl rfl rfl rfl tM_52 trivial (by rw [eq_of_beq hq16_2]; rfl) (u := fun _ => .func (.func 20) #[] #[.pointer (some ⟨g3,0, none⟩), .pointer (some ⟨g2,0, none⟩)]) (fun _ => rfl) (v := fun _ => .tuple #[.func (.func 20) #[] #[.pointer (some ⟨g3,0, none⟩), .pointer (some ⟨g2,0, none⟩)], .bool true]) (fun _ => rfl) (fun _ _ => (wP rfl (wP rfl (wP rfl (wP rfl (wP rfl (wl_nil (we_then (wc_keep [7,6,4] (S' := [_,_,_]) rfl (wc_seq (wc_seq (wc_region (wP rfl (wP rfl ?_))))))))))))))
  refine wl_nil (we_then (wc_keep [20,6,4] (S' := [_,_,_]) rfl (wc_false rfl (wc_keep [6,4] (S' := [_,_]) rfl (wc_skip (we_then (wc_seq (wc_region (wP rfl ?_)))))))))
  obtain ⟨⟨v23_0, v23_1, v23_2⟩, hc23, hm⟩ := bindO_some hm
  try dsimp only at hm
  refine wl_callDyn [2,3] [0,1] rfl rfl rfl (freshS_eq rfl) rfl rfl rfl fn_20 rfl rfl (w_expr_Eval_3_v2_s N rc ih g3 qp2 qc3 l7 g2 a0 a1 a2 a3 a4 a5 qp0 qc1 l6 _ _ _ hc23) (asK [1,0] rfl) rfl (H' := [_,_]) rfl ?_
  rintro _ _ _ ⟨rfl, rfl, rfl⟩
  refine wP rfl (wP rfl (wS 3 0 rfl tS_25 (all' := [_,_,_]) rfl (H' := [_,_,_,_]) rfl (wP rfl (wl_nil (we_then (wc_keep [5,4] (S' := [_,_]) rfl (wc_ret ?_)))))))
  have hE := (Option.some.inj hm).symm
  obtain ⟨hE0, hF1⟩ := Prod.mk.inj hE
  obtain ⟨hE1, hF2⟩ := Prod.mk.inj hF1
  obtain ⟨hE2, hE3⟩ := Prod.mk.inj hF2
  clear hE hF1 hF2
  replace hE0 := hE0.symm
  subst hE0
  replace hE1 := hE1.symm
  subst hE1
  replace hE2 := hE2.symm
  subst hE2
  replace hE3 := hE3.symm
  subst hE3
  refine ret_two (Hr := []) [] Tryd.results8 (res_cell 3 rfl rfl tS_25 tA_25 rfl rfl) (res_tmp rfl) ⟨rfl, rfl, rfl⟩ (asK [] rfl) rfl rfl (.inl rfl)
 ·
  refine wl_lookNoE (i := a0) 0 rfl rfl rfl (freshS_eq rfl) rfl rfl rfl rfl tZ_46 tM_52 trivial (by simp [mlook, (ne_of_beq_false hq16_0).symm, (ne_of_beq_false hq16_1).symm, (ne_of_beq_false hq16_2).symm]) (v := .tuple #[.nilFunc, .bool false]) rfl (wP rfl (wP rfl (wP rfl (wP rfl (wP rfl (wl_nil (we_then (wc_keep [7,6,4] (S' := [_,_,_]) rfl (wc_seq (wc_seq (wc_region (wP rfl (wP rfl ?_)))))))))))))
  refine wl_nil (we_then (wc_keep [20,6,4] (S' := [_,_,_]) rfl ?_))
  refine wc_cond rfl (fun hb20 => ?_) (fun hb20 => ?_)
  ·
   replace hm := iteT hm hb20
   refine wc_keep [4] (S' := [_]) rfl (wc_seq (wc_region (wl_build rfl rfl rfl (freshS_eq rfl) rfl tZ_25 tP_25 rfl (out := [_,_,_]) rfl (wS 1 0 rfl tS_25 (all' := [_,_,_]) rfl (H' := [_,_,_,_]) rfl (wP rfl (wl_nil (we_then (wc_keep [5,4] (S' := [_,_]) rfl (wc_ret (we_then_ret ?_))))))))))
   have hE := (Option.some.inj hm).symm
   obtain ⟨hE0, hF1⟩ := Prod.mk.inj hE
   obtain ⟨hE1, hF2⟩ := Prod.mk.inj hF1
   obtain ⟨hE2, hE3⟩ := Prod.mk.inj hF2
   clear hE hF1 hF2
   replace hE0 := hE0.symm
   subst hE0
   replace hE1 := hE1.symm
   subst hE1
   replace hE2 := hE2.symm
   subst hE2
   replace hE3 := hE3.symm
   subst hE3
   refine ret_two (Hr := []) [] Tryd.results8 (res_cell 1 rfl rfl tS_25 tA_25 rfl rfl) (res_tmp rfl) ⟨rfl, rfl, rfl⟩ (asK [] rfl) rfl rfl (.inl rfl)
  ·
   replace hm := iteF hm hb20
   refine wc_keep [6,4] (S' := [_,_]) rfl (wc_skip (we_then (wc_seq (wc_region (wP rfl ?_)))))
   cases hm
theorem w_expr_Eval_s : ∀ (N : Nat), ∀ (a0 : Int) (a1 : Int) (a2 : Int) (a3 : ByteArray) (a4 : Int) (a5 : Int) (qp0 : Option Addr) (qc1 : Nat) (l6 : List Api_ExprD) (qp2 : Option Addr) (qc3 : Nat) (l7 : List V) (o0 : Int) (o1 : Int) (o2 : ByteArray) (o3 : Nat), m_expr_Eval N a0 a1 a2 a3 a4 a5 l6 l7 = some (o0, o1, o2, o3) → Spec Tryd.prog 8 [.agg #[.int .u8 a0, .int .u8 a1, .int .i64 a2, .string a3, .int .i64 a4, .int .u8 a5, .slice qp0 l6.length qc1], .slice qp2 l7.length qc3] [.sli 7 R_Api_ExprD qp0 qc1 l6, .sli 3 R_V qp2 qc3 l7] [] (fun v Φr Hr => v = .tuple #[.agg #[.int .u8 o0, .int .i64 o1, .string o2], .int .i64 ((o3 : Nat) : Int)] ∧ Φr = [] ∧ Hr = []) := by
  intro N
  induction N with
  | zero => intro a0 a1 a2 a3 a4 a5 qp0 qc1 l6 qp2 qc3 l7 o0 o1 o2 o3 hm; cases hm
  | succ N ih => intro a0 a1 a2 a3 a4 a5 qp0 qc1 l6 qp2 qc3 l7 o0 o1 o2 o3 hm; exact w_expr_Eval_s_b N (m_expr_Eval N) ih a0 a1 a2 a3 a4 a5 qp0 qc1 l6 qp2 qc3 l7 o0 o1 o2 o3 hm
theorem w_ropewalklaw09_op_v3_s (N : Nat) (a0 : Int) (a1 : Int) (a2 : Int) (a3 : Int) (a4 : ByteArray) (a5 : Int) (a6 : Int) (qp0 : Option Addr) (qc1 : Nat) (l7 : List Api_ExprD) (a8 : Int) (a9 : Int) (a10 : Int) (a11 : ByteArray) (a12 : Int) (a13 : Int) (qp2 : Option Addr) (qn3 : Nat) (qc4 : Nat) (l14 : List Api_ExprD)  (hm : m_ropewalklaw09_op N a0 a1 a2 a3 a4 a5 a6 l7 a8 a9 a10 a11 a12 a13 l14 = some ()) : Spec Tryd.prog 12 [.int .u8 a0, .agg #[.int .u8 a1, .int .u8 a2, .int .i64 a3, .string a4, .int .i64 a5, .int .u8 a6, .slice qp0 l7.length qc1], .agg #[.int .u8 a8, .int .u8 a9, .int .i64 a10, .string a11, .int .i64 a12, .int .u8 a13, .slice qp2 qn3 qc4]] [.sli 7 R_Api_ExprD qp0 qc1 l7] [.own 29 7 R_Api_ExprD (.slice qp2 qn3 qc4) l14] (fun v Φr Hr => ∃ (o0 : Nat), v = .agg #[.int .u8 3, .int .u8 0, .int .i64 0, .string ((⟨#[]⟩ : ByteArray)), .int .i64 0, .int .u8 a0, .slice (some ⟨o0,0, none⟩) 2 2] ∧ Φr = [.sli 7 R_Api_ExprD qp0 qc1 l7] ∧ Hr = [.blk o0 [.int .u8 a1, .int .u8 a2, .int .i64 a3, .string a4, .int .i64 a5, .int .u8 a6, .slice qp0 l7.length qc1, .int .u8 a8, .int .u8 a9, .int .i64 a10, .string a11, .int .i64 a12, .int .u8 a13, .slice qp2 qn3 qc4] 29, .own 29 7 R_Api_ExprD (.slice qp2 qn3 qc4) l14]) := by
 unfold m_ropewalklaw09_op at hm
 refine spec_of Tryd.func12 rfl Tryd.ntmps12 rfl (S := [_,_,_]) rfl (fun C => (wc_seq (wc_region (wB rfl (fun g4 => (wB rfl (fun g5 => (wl_alloc rfl rfl rfl (freshS_eq rfl) rfl tZ_29 rfl (fun g6 => (wl_nil (we_then (wc_keep [6,5,4,0] (S' := [_,_,_,_]) rfl (wc_seq (wc_region (wP rfl (wl_loadH 2 0 rfl rfl rfl (freshS_eq rfl) rfl rfl rfl (cs := [_,_,_,_,_,_,_]) rfl tS_29 tA_29 rfl rfl (wl_loadH 1 0 rfl rfl rfl (freshS_eq rfl) rfl rfl rfl (cs := [_,_,_,_,_,_,_]) rfl tS_29 tA_29 rfl rfl ?_)))))))))))))))))
 refine wl_buildSlice rfl rfl rfl (freshS_eq rfl) rfl tE_27 tS_29 tZ_29 rfl (zs := [.int .u8 0, .int .u8 0, .int .i64 0, .string ((⟨#[]⟩ : ByteArray)), .int .i64 0, .int .u8 0, .slice none 0 0, .int .u8 0, .int .u8 0, .int .i64 0, .string ((⟨#[]⟩ : ByteArray)), .int .i64 0, .int .u8 0, .slice none 0 0]) (by kernel_rfl) rfl (out := [_,_,_,_,_,_,_,_,_,_,_,_,_,_]) rfl (fun g10 => (wl_build rfl rfl rfl (freshS_eq rfl) rfl tZ_29 tP_29 rfl (out := [_,_,_,_,_,_,_]) rfl (wS 1 0 rfl tS_29 (all' := [_,_,_,_,_,_,_]) rfl (H' := [_,_,_,_,_]) rfl (wl_nil (we_then (wc_keep [6] (S' := [_]) rfl (wc_ret ?_)))))))
 have hE := (Option.some.inj hm).symm
 refine ret_one (Hr := [_,_]) [0,4] Tryd.results12 (res_cell 1 rfl rfl tS_29 tA_29 rfl rfl) ⟨g10, rfl, rfl, rfl⟩ (asK [0] rfl) rfl rfl (.inl rfl)
theorem w_ropewalklaw09_awake_s (N : Nat)  (o0 : Bool) (hm : m_ropewalklaw09_awake N = some o0) : Spec Tryd.prog 4 [] [] [] (fun v Φr Hr => v = .bool o0 ∧ Φr = [] ∧ Hr = []) := by
 unfold m_ropewalklaw09_awake at hm
 refine spec_of Tryd.func4 rfl Tryd.ntmps4 rfl (S := []) rfl (fun C => (wc_seq (wc_region (wP rfl (wl_nil (we_then (wc_keep [] (S' := []) rfl (wc_seq (wc_region (wl_build rfl rfl rfl (freshS_eq rfl) rfl tZ_25 tP_25 rfl (out := [_,_,_]) rfl (wl_buildSlice rfl rfl rfl (freshS_eq rfl) rfl tE_30 tS_25 tZ_25 rfl (zs := [.int .u8 0, .int .i64 0, .string ((⟨#[]⟩ : ByteArray))]) (by kernel_rfl) rfl (out := [_,_,_]) rfl (fun g10 => (wP rfl (wl_nil (we_then ?_)))))))))))))))
 refine wc_keep [1] (S' := [_]) rfl (wc_seq (wc_region (wl_build rfl rfl rfl (freshS_eq rfl) rfl tZ_29 tP_29 rfl (out := [_,_,_,_,_,_,_]) rfl (wl_alloc rfl rfl rfl (freshS_eq rfl) rfl tZ_29 rfl (fun g2 => (wS 0 0 rfl tS_29 (all' := [_,_,_,_,_,_,_]) rfl (H' := [_,_]) rfl (wl_nil (we_then (wc_keep [2,1] (S' := [_,_]) rfl (wc_seq ?_))))))))))
 obtain ⟨_, hc13, hm⟩ := bindO_some hm
 try dsimp only at hm
 obtain ⟨_, hc15, hm⟩ := bindO_some hm
 try dsimp only at hm
 obtain ⟨_, hc16, hm⟩ := bindO_some hm
 try dsimp only at hm
 obtain ⟨_, hc17, hm⟩ := bindO_some hm
 try dsimp only at hm
 obtain ⟨⟨v19_0, v19_1, v19_2, v19_3⟩, hc19, hm⟩ := bindO_some hm
 try dsimp only at hm
 refine wc_cut (σ := Nat) (fun _ => True) (fun w_1_3_g => [(4, .int .i64 ((v19_3 : Nat) : Int)), (3, .pointer (some ⟨w_1_3_g, 0, none⟩)), (1, .slice (some ⟨g10,0, none⟩) ([(⟨1,20, (⟨#[]⟩ : ByteArray)⟩ : V)].length) 1)]) (fun w_1_3_g => []) (fun w_1_3_g => [.blk w_1_3_g [.int .u8 v19_0, .int .i64 v19_1, .string v19_2] 25, .own 25 3 R_V (.slice (some ⟨g10,0, none⟩) ([(⟨1,20, (⟨#[]⟩ : ByteArray)⟩ : V)].length) 1) ([(⟨1,20, (⟨#[]⟩ : ByteArray)⟩ : V)])]) ?_ ?_
 ·
  refine wc_draw [1,5,7,8,9] rfl rfl (fun hok => (wx_loadH hok 1 0 0 rfl rfl rfl (freshS_eq rfl) rfl rfl rfl rfl (cs := [_,_,_,_,_,_,_]) rfl tS_29 tA_29 rfl rfl (xP hok 5 rfl ?_)))
  refine wx_step2 hok 0 10 rfl rfl rfl rfl rfl rfl ?_ ?_
  ·
   refine wC [] [0,1] rfl fn_13 rfl (w_ropewalklaw09_number_s N 2 hc13) (asK [] rfl) rfl (H' := [_,_]) rfl ?_
   rintro _ _ _ ⟨rfl, rfl, rfl⟩
   refine wl_nil (we_x [] [0] rfl rfl ?_)
   refine wx_step2 hok 2 10 rfl rfl rfl rfl rfl rfl ?_ ?_
   ·
    refine wl_fact (.sli 7 R_Api_ExprD none 0 ([] : List Api_ExprD)) (fun _ _ _ => sli_none) (wl_fact (.sli 7 R_Api_ExprD none 0 ([] : List Api_ExprD)) (fun _ _ _ => sli_none) (wC [] [0,1] rfl fn_12 rfl (w_ropewalklaw09_op_s N 3 1 1 2 (⟨#[]⟩ : ByteArray) 0 0 none 0 ([] : List Api_ExprD) 2 0 0 (⟨#[]⟩ : ByteArray) 0 0 none 0 ([] : List Api_ExprD) hc15) (asK [1,0] rfl) rfl (H' := [_,_]) rfl ?_))
    rintro _ _ _ ⟨c15_0, rfl, rfl, rfl⟩
    refine wl_nil (we_x [] [] rfl rfl ?_)
    refine wx_step2 hok 3 10 rfl rfl rfl rfl rfl rfl ?_ ?_
    ·
     refine wC [] [0,1,2] rfl fn_13 rfl (w_ropewalklaw09_number_s N 1 hc16) (asK [] rfl) rfl (H' := [_,_,_]) rfl ?_
     rintro _ _ _ ⟨rfl, rfl, rfl⟩
     refine wl_nil (we_x [0,1,1,0] [1] rfl rfl ?_)
     refine wx_step2 hok 4 10 rfl rfl rfl rfl rfl rfl ?_ ?_
     ·
      refine wl_row (sz := 7) (m := 2) R_Api_ExprD ([(⟨1, (⟨1,2, (⟨#[]⟩ : ByteArray)⟩ : V), 0,0, ([] : List Api_ExprD)⟩ : Api_ExprD), (⟨2, (⟨0,0, (⟨#[]⟩ : ByteArray)⟩ : V), 0,0, ([] : List Api_ExprD)⟩ : Api_ExprD)]) 0 rfl (fun F w hφ => ⟨[.int .u8 1, .int .u8 1, .int .i64 2, .string ((⟨#[]⟩ : ByteArray)), .int .i64 0, .int .u8 0, .slice none (([] : List Api_ExprD).length) 0],[.int .u8 2, .int .u8 0, .int .i64 0, .string ((⟨#[]⟩ : ByteArray)), .int .i64 0, .int .u8 0, .slice none (([] : List Api_ExprD).length) 0], rfl, rfl, (rec_shut (none, 0) rfl (ask_cons (hφ _ (mem_at (k := 0) rfl)) ask_nil)), ⟨[.int .u8 2, .int .u8 0, .int .i64 0, .string ((⟨#[]⟩ : ByteArray)), .int .i64 0, .int .u8 0, .slice none (([] : List Api_ExprD).length) 0],[], rfl, rfl, (rec_shut (none, 0) rfl (ask_cons (hφ _ (mem_at (k := 1) rfl)) ask_nil)), rfl⟩⟩) rfl (by decide) (H' := [_,_,_]) rfl (wl_fact (.sli 7 R_Api_ExprD none 0 ([] : List Api_ExprD)) (fun _ _ _ => sli_none) (wC [0] [1,2] rfl fn_12 rfl (w_ropewalklaw09_op_v2_s N 1 3 0 0 (⟨#[]⟩ : ByteArray) 0 3 (some ⟨c15_0,0, none⟩) ([(⟨1, (⟨1,2, (⟨#[]⟩ : ByteArray)⟩ : V), 0,0, ([] : List Api_ExprD)⟩ : Api_ExprD), (⟨2, (⟨0,0, (⟨#[]⟩ : ByteArray)⟩ : V), 0,0, ([] : List Api_ExprD)⟩ : Api_ExprD)].length) 2 [(⟨1, (⟨1,2, (⟨#[]⟩ : ByteArray)⟩ : V), 0,0, ([] : List Api_ExprD)⟩ : Api_ExprD), (⟨2, (⟨0,0, (⟨#[]⟩ : ByteArray)⟩ : V), 0,0, ([] : List Api_ExprD)⟩ : Api_ExprD)] 1 1 1 (⟨#[]⟩ : ByteArray) 0 0 none 0 ([] : List Api_ExprD) hc17) (asK [0] rfl) rfl (H' := [_,_]) rfl ?_))
      rintro _ _ _ ⟨c17_0, rfl, rfl, rfl⟩
      refine wl_nil (we_x [2,3,3,2] [2] rfl rfl ?_)
      refine wx_step2 hok 6 10 rfl rfl rfl rfl rfl rfl ?_ ?_
      ·
       refine wl_freeze 1 rfl (H' := [_,_,_]) rfl (wl_fact (.sli 7 R_Api_ExprD (some ⟨c15_0,0, none⟩) 2 ([(⟨1, (⟨1,2, (⟨#[]⟩ : ByteArray)⟩ : V), 0,0, ([] : List Api_ExprD)⟩ : Api_ExprD), (⟨2, (⟨0,0, (⟨#[]⟩ : ByteArray)⟩ : V), 0,0, ([] : List Api_ExprD)⟩ : Api_ExprD)])) (fun F w hφ => own_sli (hφ _ (mem_at (k := 0) rfl))) (wl_row (sz := 7) (m := 2) R_Api_ExprD ([(⟨3, (⟨0,0, (⟨#[]⟩ : ByteArray)⟩ : V), 0,3,[(⟨1, (⟨1,2, (⟨#[]⟩ : ByteArray)⟩ : V), 0,0, ([] : List Api_ExprD)⟩ : Api_ExprD), (⟨2, (⟨0,0, (⟨#[]⟩ : ByteArray)⟩ : V), 0,0, ([] : List Api_ExprD)⟩ : Api_ExprD)]⟩ : Api_ExprD), (⟨1, (⟨1,1, (⟨#[]⟩ : ByteArray)⟩ : V), 0,0, ([] : List Api_ExprD)⟩ : Api_ExprD)]) 0 rfl (fun F w hφ => ⟨[.int .u8 3, .int .u8 0, .int .i64 0, .string ((⟨#[]⟩ : ByteArray)), .int .i64 0, .int .u8 3, .slice (some ⟨c15_0,0, none⟩) ([(⟨1, (⟨1,2, (⟨#[]⟩ : ByteArray)⟩ : V), 0,0, ([] : List Api_ExprD)⟩ : Api_ExprD), (⟨2, (⟨0,0, (⟨#[]⟩ : ByteArray)⟩ : V), 0,0, ([] : List Api_ExprD)⟩ : Api_ExprD)].length) 2],[.int .u8 1, .int .u8 1, .int .i64 1, .string ((⟨#[]⟩ : ByteArray)), .int .i64 0, .int .u8 0, .slice none (([] : List Api_ExprD).length) 0], rfl, rfl, (rec_shut (some ⟨c15_0,0, none⟩, 2) rfl (ask_cons (hφ _ (mem_at (k := 0) rfl)) ask_nil)), ⟨[.int .u8 1, .int .u8 1, .int .i64 1, .string ((⟨#[]⟩ : ByteArray)), .int .i64 0, .int .u8 0, .slice none (([] : List Api_ExprD).length) 0],[], rfl, rfl, (rec_shut (none, 0) rfl (ask_cons (hφ _ (mem_at (k := 2) rfl)) ask_nil)), rfl⟩⟩) rfl (by decide) (H' := [_,_,_]) rfl (wl_row (sz := 3) (m := 1) R_V ([(⟨1,20, (⟨#[]⟩ : ByteArray)⟩ : V)]) 2 rfl (fun F w hφ => ⟨[.int .u8 1, .int .i64 20, .string ((⟨#[]⟩ : ByteArray))],[], rfl, rfl, ⟨(), rfl, ask_nil⟩, rfl⟩) rfl (by decide) (H' := [_,_,_]) rfl (wl_lend [] [0,1,2] [0,2] rfl rfl rfl (freshS_eq rfl) rfl rfl fn_8 rfl (w_expr_Eval_s N 3 0 0 (⟨#[]⟩ : ByteArray) 0 1 (some ⟨c17_0,0, none⟩) 2 [(⟨3, (⟨0,0, (⟨#[]⟩ : ByteArray)⟩ : V), 0,3,[(⟨1, (⟨1,2, (⟨#[]⟩ : ByteArray)⟩ : V), 0,0, ([] : List Api_ExprD)⟩ : Api_ExprD), (⟨2, (⟨0,0, (⟨#[]⟩ : ByteArray)⟩ : V), 0,0, ([] : List Api_ExprD)⟩ : Api_ExprD)]⟩ : Api_ExprD), (⟨1, (⟨1,1, (⟨#[]⟩ : ByteArray)⟩ : V), 0,0, ([] : List Api_ExprD)⟩ : Api_ExprD)] (some ⟨g10,0, none⟩) 1 [(⟨1,20, (⟨#[]⟩ : ByteArray)⟩ : V)] _ _ _ _ hc19) (fun F w hφ hh => (ask_cons (own_sli (hh _ (mem_at (k := 0) rfl))) (ask_cons (own_sli (hh _ (mem_at (k := 1) rfl))) ask_nil))) (fun _ _ _ hR => by obtain ⟨rfl, rfl, rfl⟩ := hR; exact ⟨rfl, (fun _ h => free_nil h)⟩) rfl rfl (H' := [_,_,_]) rfl ?_))))
       rintro _ _ _ ⟨rfl, rfl, rfl⟩
       refine wl_nil (we_x [2,2,4,5,5,4] [1] rfl rfl (xP hok 7 rfl (xP hok 8 rfl (xP hok 9 rfl (xS hok 10 rfl (wl_alloc rfl rfl rfl (freshS_eq rfl) rfl tZ_25 rfl (fun g3 => (wl_nil (we_x [0,1,2,2,4,5,5,4] [2] rfl rfl (xS hok 11 rfl (wS 0 0 rfl tS_25 (all' := [_,_,_]) rfl (H' := [_,_,_,_]) rfl (wl_nil (we_x [0,1,2,2,4,5,5,4] [] rfl rfl (xS hok 12 rfl ?_))))))))))))))
       refine wP rfl (wl_nil (we_x [0,1,2,2,4,5,5,4] [] rfl rfl (wx_done hok rfl (we_pick [0,3] rfl (H' := [_,_]) rfl ?_))))
       refine we_join g3 trivial [4,3,1] rfl (asK [] rfl) rfl
      ·
       refine wl_alloc rfl rfl rfl (freshS_eq rfl) rfl tZ_25 rfl (fun g3 => (wl_nil (we_x [0,0,2,3,3,2] [3] rfl rfl (xS hok 6 rfl (wl_freeze 2 rfl (H' := [_,_,_,_]) rfl (wl_fact (.sli 7 R_Api_ExprD (some ⟨c15_0,0, none⟩) 2 ([(⟨1, (⟨1,2, (⟨#[]⟩ : ByteArray)⟩ : V), 0,0, ([] : List Api_ExprD)⟩ : Api_ExprD), (⟨2, (⟨0,0, (⟨#[]⟩ : ByteArray)⟩ : V), 0,0, ([] : List Api_ExprD)⟩ : Api_ExprD)])) (fun F w hφ => own_sli (hφ _ (mem_at (k := 0) rfl))) (wl_row (sz := 7) (m := 2) R_Api_ExprD ([(⟨3, (⟨0,0, (⟨#[]⟩ : ByteArray)⟩ : V), 0,3,[(⟨1, (⟨1,2, (⟨#[]⟩ : ByteArray)⟩ : V), 0,0, ([] : List Api_ExprD)⟩ : Api_ExprD), (⟨2, (⟨0,0, (⟨#[]⟩ : ByteArray)⟩ : V), 0,0, ([] : List Api_ExprD)⟩ : Api_ExprD)]⟩ : Api_ExprD), (⟨1, (⟨1,1, (⟨#[]⟩ : ByteArray)⟩ : V), 0,0, ([] : List Api_ExprD)⟩ : Api_ExprD)]) 1 rfl (fun F w hφ => ⟨[.int .u8 3, .int .u8 0, .int .i64 0, .string ((⟨#[]⟩ : ByteArray)), .int .i64 0, .int .u8 3, .slice (some ⟨c15_0,0, none⟩) ([(⟨1, (⟨1,2, (⟨#[]⟩ : ByteArray)⟩ : V), 0,0, ([] : List Api_ExprD)⟩ : Api_ExprD), (⟨2, (⟨0,0, (⟨#[]⟩ : ByteArray)⟩ : V), 0,0, ([] : List Api_ExprD)⟩ : Api_ExprD)].length) 2],[.int .u8 1, .int .u8 1, .int .i64 1, .string ((⟨#[]⟩ : ByteArray)), .int .i64 0, .int .u8 0, .slice none (([] : List Api_ExprD).length) 0], rfl, rfl, (rec_shut (some ⟨c15_0,0, none⟩, 2) rfl (ask_cons (hφ _ (mem_at (k := 0) rfl)) ask_nil)), ⟨[.int .u8 1, .int .u8 1, .int .i64 1, .string ((⟨#[]⟩ : ByteArray)), .int .i64 0, .int .u8 0, .slice none (([] : List Api_ExprD).length) 0],[], rfl, rfl, (rec_shut (none, 0) rfl (ask_cons (hφ _ (mem_at (k := 2) rfl)) ask_nil)), rfl⟩⟩) rfl (by decide) (H' := [_,_,_,_]) rfl (wl_row (sz := 3) (m := 1) R_V ([(⟨1,20, (⟨#[]⟩ : ByteArray)⟩ : V)]) 3 rfl (fun F w hφ => ⟨[.int .u8 1, .int .i64 20, .string ((⟨#[]⟩ : ByteArray))],[], rfl, rfl, ⟨(), rfl, ask_nil⟩, rfl⟩) rfl (by decide) (H' := [_,_,_,_]) rfl (wl_lend [] [0,1,2,3] [1,3] rfl rfl rfl (freshS_eq rfl) rfl rfl fn_8 rfl (w_expr_Eval_s N 3 0 0 (⟨#[]⟩ : ByteArray) 0 1 (some ⟨c17_0,0, none⟩) 2 [(⟨3, (⟨0,0, (⟨#[]⟩ : ByteArray)⟩ : V), 0,3,[(⟨1, (⟨1,2, (⟨#[]⟩ : ByteArray)⟩ : V), 0,0, ([] : List Api_ExprD)⟩ : Api_ExprD), (⟨2, (⟨0,0, (⟨#[]⟩ : ByteArray)⟩ : V), 0,0, ([] : List Api_ExprD)⟩ : Api_ExprD)]⟩ : Api_ExprD), (⟨1, (⟨1,1, (⟨#[]⟩ : ByteArray)⟩ : V), 0,0, ([] : List Api_ExprD)⟩ : Api_ExprD)] (some ⟨g10,0, none⟩) 1 [(⟨1,20, (⟨#[]⟩ : ByteArray)⟩ : V)] _ _ _ _ hc19) (fun F w hφ hh => (ask_cons (own_sli (hh _ (mem_at (k := 0) rfl))) (ask_cons (own_sli (hh _ (mem_at (k := 1) rfl))) ask_nil))) (fun _ _ _ hR => by obtain ⟨rfl, rfl, rfl⟩ := hR; exact ⟨rfl, (fun _ h => free_nil h)⟩) rfl rfl (H' := [_,_,_,_]) rfl ?_)))))))))
       rintro _ _ _ ⟨rfl, rfl, rfl⟩
       refine wl_nil (we_x [2,2,4,5,5,4] [2] rfl rfl (xP hok 7 rfl (xP hok 8 rfl (xP hok 9 rfl (xS hok 11 rfl (wS 0 0 rfl tS_25 (all' := [_,_,_]) rfl (H' := [_,_,_,_]) rfl (wl_nil (we_x [0,1,2,2,4,5,5,4] [] rfl rfl (xS hok 12 rfl (wP rfl (wl_nil (we_x [0,1,2,2,4,5,5,4] [] rfl rfl (wx_done hok rfl ?_)))))))))))))
       refine we_pick [0,3] rfl (H' := [_,_]) rfl ?_
       refine we_join g3 trivial [4,3,1] rfl (asK [] rfl) rfl
     ·
      refine wl_alloc rfl rfl rfl (freshS_eq rfl) rfl tZ_25 rfl (fun g3 => (wl_nil (we_x [0,1,1,0] [2] rfl rfl (xS hok 4 rfl (wl_row (sz := 7) (m := 2) R_Api_ExprD ([(⟨1, (⟨1,2, (⟨#[]⟩ : ByteArray)⟩ : V), 0,0, ([] : List Api_ExprD)⟩ : Api_ExprD), (⟨2, (⟨0,0, (⟨#[]⟩ : ByteArray)⟩ : V), 0,0, ([] : List Api_ExprD)⟩ : Api_ExprD)]) 1 rfl (fun F w hφ => ⟨[.int .u8 1, .int .u8 1, .int .i64 2, .string ((⟨#[]⟩ : ByteArray)), .int .i64 0, .int .u8 0, .slice none (([] : List Api_ExprD).length) 0],[.int .u8 2, .int .u8 0, .int .i64 0, .string ((⟨#[]⟩ : ByteArray)), .int .i64 0, .int .u8 0, .slice none (([] : List Api_ExprD).length) 0], rfl, rfl, (rec_shut (none, 0) rfl (ask_cons (hφ _ (mem_at (k := 0) rfl)) ask_nil)), ⟨[.int .u8 2, .int .u8 0, .int .i64 0, .string ((⟨#[]⟩ : ByteArray)), .int .i64 0, .int .u8 0, .slice none (([] : List Api_ExprD).length) 0],[], rfl, rfl, (rec_shut (none, 0) rfl (ask_cons (hφ _ (mem_at (k := 1) rfl)) ask_nil)), rfl⟩⟩) rfl (by decide) (H' := [_,_,_,_]) rfl (wl_fact (.sli 7 R_Api_ExprD none 0 ([] : List Api_ExprD)) (fun _ _ _ => sli_none) (wC [1] [0,2,3] rfl fn_12 rfl (w_ropewalklaw09_op_v2_s N 1 3 0 0 (⟨#[]⟩ : ByteArray) 0 3 (some ⟨c15_0,0, none⟩) ([(⟨1, (⟨1,2, (⟨#[]⟩ : ByteArray)⟩ : V), 0,0, ([] : List Api_ExprD)⟩ : Api_ExprD), (⟨2, (⟨0,0, (⟨#[]⟩ : ByteArray)⟩ : V), 0,0, ([] : List Api_ExprD)⟩ : Api_ExprD)].length) 2 [(⟨1, (⟨1,2, (⟨#[]⟩ : ByteArray)⟩ : V), 0,0, ([] : List Api_ExprD)⟩ : Api_ExprD), (⟨2, (⟨0,0, (⟨#[]⟩ : ByteArray)⟩ : V), 0,0, ([] : List Api_ExprD)⟩ : Api_ExprD)] 1 1 1 (⟨#[]⟩ : ByteArray) 0 0 none 0 ([] : List Api_ExprD) hc17) (asK [0] rfl) rfl (H' := [_,_,_]) rfl ?_)))))))
      rintro _ _ _ ⟨c17_0, rfl, rfl, rfl⟩
      refine wl_nil (we_x [2,3,3,2] [3] rfl rfl (xS hok 6 rfl (wl_freeze 1 rfl (H' := [_,_,_,_]) rfl (wl_fact (.sli 7 R_Api_ExprD (some ⟨c15_0,0, none⟩) 2 ([(⟨1, (⟨1,2, (⟨#[]⟩ : ByteArray)⟩ : V), 0,0, ([] : List Api_ExprD)⟩ : Api_ExprD), (⟨2, (⟨0,0, (⟨#[]⟩ : ByteArray)⟩ : V), 0,0, ([] : List Api_ExprD)⟩ : Api_ExprD)])) (fun F w hφ => own_sli (hφ _ (mem_at (k := 0) rfl))) (wl_row (sz := 7) (m := 2) R_Api_ExprD ([(⟨3, (⟨0,0, (⟨#[]⟩ : ByteArray)⟩ : V), 0,3,[(⟨1, (⟨1,2, (⟨#[]⟩ : ByteArray)⟩ : V), 0,0, ([] : List Api_ExprD)⟩ : Api_ExprD), (⟨2, (⟨0,0, (⟨#[]⟩ : ByteArray)⟩ : V), 0,0, ([] : List Api_ExprD)⟩ : Api_ExprD)]⟩ : Api_ExprD), (⟨1, (⟨1,1, (⟨#[]⟩ : ByteArray)⟩ : V), 0,0, ([] : List Api_ExprD)⟩ : Api_ExprD)]) 0 rfl (fun F w hφ => ⟨[.int .u8 3, .int .u8 0, .int .i64 0, .string ((⟨#[]⟩ : ByteArray)), .int .i64 0, .int .u8 3, .slice (some ⟨c15_0,0, none⟩) ([(⟨1, (⟨1,2, (⟨#[]⟩ : ByteArray)⟩ : V), 0,0, ([] : List Api_ExprD)⟩ : Api_ExprD), (⟨2, (⟨0,0, (⟨#[]⟩ : ByteArray)⟩ : V), 0,0, ([] : List Api_ExprD)⟩ : Api_ExprD)].length) 2],[.int .u8 1, .int .u8 1, .int .i64 1, .string ((⟨#[]⟩ : ByteArray)), .int .i64 0, .int .u8 0, .slice none (([] : List Api_ExprD).length) 0], rfl, rfl, (rec_shut (some ⟨c15_0,0, none⟩, 2) rfl (ask_cons (hφ _ (mem_at (k := 0) rfl)) ask_nil)), ⟨[.int .u8 1, .int .u8 1, .int .i64 1, .string ((⟨#[]⟩ : ByteArray)), .int .i64 0, .int .u8 0, .slice none (([] : List Api_ExprD).length) 0],[], rfl, rfl, (rec_shut (none, 0) rfl (ask_cons (hφ _ (mem_at (k := 2) rfl)) ask_nil)), rfl⟩⟩) rfl (by decide) (H' := [_,_,_,_]) rfl (wl_row (sz := 3) (m := 1) R_V ([(⟨1,20, (⟨#[]⟩ : ByteArray)⟩ : V)]) 3 rfl (fun F w hφ => ⟨[.int .u8 1, .int .i64 20, .string ((⟨#[]⟩ : ByteArray))],[], rfl, rfl, ⟨(), rfl, ask_nil⟩, rfl⟩) rfl (by decide) (H' := [_,_,_,_]) rfl (wl_lend [] [0,1,2,3] [0,3] rfl rfl rfl (freshS_eq rfl) rfl rfl fn_8 rfl (w_expr_Eval_s N 3 0 0 (⟨#[]⟩ : ByteArray) 0 1 (some ⟨c17_0,0, none⟩) 2 [(⟨3, (⟨0,0, (⟨#[]⟩ : ByteArray)⟩ : V), 0,3,[(⟨1, (⟨1,2, (⟨#[]⟩ : ByteArray)⟩ : V), 0,0, ([] : List Api_ExprD)⟩ : Api_ExprD), (⟨2, (⟨0,0, (⟨#[]⟩ : ByteArray)⟩ : V), 0,0, ([] : List Api_ExprD)⟩ : Api_ExprD)]⟩ : Api_ExprD), (⟨1, (⟨1,1, (⟨#[]⟩ : ByteArray)⟩ : V), 0,0, ([] : List Api_ExprD)⟩ : Api_ExprD)] (some ⟨g10,0, none⟩) 1 [(⟨1,20, (⟨#[]⟩ : ByteArray)⟩ : V)] _ _ _ _ hc19) (fun F w hφ hh => (ask_cons (own_sli (hh _ (mem_at (k := 0) rfl))) (ask_cons (own_sli (hh _ (mem_at (k := 1) rfl))) ask_nil))) (fun _ _ _ hR => by obtain ⟨rfl, rfl, rfl⟩ := hR; exact ⟨rfl, (fun _ h => free_nil h)⟩) rfl rfl (H' := [_,_,_,_]) rfl ?_)))))))
      rintro _ _ _ ⟨rfl, rfl, rfl⟩
      refine wl_nil (we_x [2,2,4,5,5,4] [2] rfl rfl (xP hok 7 rfl (xP hok 8 rfl (xP hok 9 rfl (xS hok 11 rfl (wS 1 0 rfl tS_25 (all' := [_,_,_]) rfl (H' := [_,_,_,_]) rfl (wl_nil (we_x [0,1,2,2,4,5,5,4] [] rfl rfl (xS hok 12 rfl (wP rfl (wl_nil (we_x [0,1,2,2,4,5,5,4] [] rfl rfl (wx_done hok rfl ?_)))))))))))))
      refine we_pick [1,3] rfl (H' := [_,_]) rfl ?_
      refine we_join g3 trivial [4,3,1] rfl (asK [] rfl) rfl
    ·
     refine wl_alloc rfl rfl rfl (freshS_eq rfl) rfl tZ_25 rfl (fun g3 => (wl_nil (we_x [0,1,1,0] [2] rfl rfl (xS hok 3 rfl (wC [] [0,1,2,3] rfl fn_13 rfl (w_ropewalklaw09_number_s N 1 hc16) (asK [] rfl) rfl (H' := [_,_,_,_]) rfl ?_)))))
     rintro _ _ _ ⟨rfl, rfl, rfl⟩
     refine wl_nil (we_x [0,1,1,0] [2] rfl rfl (xS hok 4 rfl (wl_row (sz := 7) (m := 2) R_Api_ExprD ([(⟨1, (⟨1,2, (⟨#[]⟩ : ByteArray)⟩ : V), 0,0, ([] : List Api_ExprD)⟩ : Api_ExprD), (⟨2, (⟨0,0, (⟨#[]⟩ : ByteArray)⟩ : V), 0,0, ([] : List Api_ExprD)⟩ : Api_ExprD)]) 1 rfl (fun F w hφ => ⟨[.int .u8 1, .int .u8 1, .int .i64 2, .string ((⟨#[]⟩ : ByteArray)), .int .i64 0, .int .u8 0, .slice none (([] : List Api_ExprD).length) 0],[.int .u8 2, .int .u8 0, .int .i64 0, .string ((⟨#[]⟩ : ByteArray)), .int .i64 0, .int .u8 0, .slice none (([] : List Api_ExprD).length) 0], rfl, rfl, (rec_shut (none, 0) rfl (ask_cons (hφ _ (mem_at (k := 0) rfl)) ask_nil)), ⟨[.int .u8 2, .int .u8 0, .int .i64 0, .string ((⟨#[]⟩ : ByteArray)), .int .i64 0, .int .u8 0, .slice none (([] : List Api_ExprD).length) 0],[], rfl, rfl, (rec_shut (none, 0) rfl (ask_cons (hφ _ (mem_at (k := 1) rfl)) ask_nil)), rfl⟩⟩) rfl (by decide) (H' := [_,_,_,_]) rfl (wl_fact (.sli 7 R_Api_ExprD none 0 ([] : List Api_ExprD)) (fun _ _ _ => sli_none) (wC [1] [0,2,3] rfl fn_12 rfl (w_ropewalklaw09_op_v2_s N 1 3 0 0 (⟨#[]⟩ : ByteArray) 0 3 (some ⟨c15_0,0, none⟩) ([(⟨1, (⟨1,2, (⟨#[]⟩ : ByteArray)⟩ : V), 0,0, ([] : List Api_ExprD)⟩ : Api_ExprD), (⟨2, (⟨0,0, (⟨#[]⟩ : ByteArray)⟩ : V), 0,0, ([] : List Api_ExprD)⟩ : Api_ExprD)].length) 2 [(⟨1, (⟨1,2, (⟨#[]⟩ : ByteArray)⟩ : V), 0,0, ([] : List Api_ExprD)⟩ : Api_ExprD), (⟨2, (⟨0,0, (⟨#[]⟩ : ByteArray)⟩ : V), 0,0, ([] : List Api_ExprD)⟩ : Api_ExprD)] 1 1 1 (⟨#[]⟩ : ByteArray) 0 0 none 0 ([] : List Api_ExprD) hc17) (asK [0] rfl) rfl (H' := [_,_,_]) rfl ?_)))))
     rintro _ _ _ ⟨c17_0, rfl, rfl, rfl⟩
     refine wl_nil (we_x [2,3,3,2] [3] rfl rfl (xS hok 6 rfl (wl_freeze 1 rfl (H' := [_,_,_,_]) rfl (wl_fact (.sli 7 R_Api_ExprD (some ⟨c15_0,0, none⟩) 2 ([(⟨1, (⟨1,2, (⟨#[]⟩ : ByteArray)⟩ : V), 0,0, ([] : List Api_ExprD)⟩ : Api_ExprD), (⟨2, (⟨0,0, (⟨#[]⟩ : ByteArray)⟩ : V), 0,0, ([] : List Api_ExprD)⟩ : Api_ExprD)])) (fun F w hφ => own_sli (hφ _ (mem_at (k := 0) rfl))) (wl_row (sz := 7) (m := 2) R_Api_ExprD ([(⟨3, (⟨0,0, (⟨#[]⟩ : ByteArray)⟩ : V), 0,3,[(⟨1, (⟨1,2, (⟨#[]⟩ : ByteArray)⟩ : V), 0,0, ([] : List Api_ExprD)⟩ : Api_ExprD), (⟨2, (⟨0,0, (⟨#[]⟩ : ByteArray)⟩ : V), 0,0, ([] : List Api_ExprD)⟩ : Api_ExprD)]⟩ : Api_ExprD), (⟨1, (⟨1,1, (⟨#[]⟩ : ByteArray)⟩ : V), 0,0, ([] : List Api_ExprD)⟩ : Api_ExprD)]) 0 rfl (fun F w hφ => ⟨[.int .u8 3, .int .u8 0, .int .i64 0, .string ((⟨#[]⟩ : ByteArray)), .int .i64 0, .int .u8 3, .slice (some ⟨c15_0,0, none⟩) ([(⟨1, (⟨1,2, (⟨#[]⟩ : ByteArray)⟩ : V), 0,0, ([] : List Api_ExprD)⟩ : Api_ExprD), (⟨2, (⟨0,0, (⟨#[]⟩ : ByteArray)⟩ : V), 0,0, ([] : List Api_ExprD)⟩ : Api_ExprD)].length) 2],[.int .u8 1, .int .u8 1, .int .i64 1, .string ((⟨#[]⟩ : ByteArray)), .int .i64 0, .int .u8 0, .slice none (([] : List Api_ExprD).length) 0], rfl, rfl, (rec_shut (some ⟨c15_0,0, none⟩, 2) rfl (ask_cons (hφ _ (mem_at (k := 0) rfl)) ask_nil)), ⟨[.int .u8 1, .int .u8 1, .int .i64 1, .string ((⟨#[]⟩ : ByteArray)), .int .i64 0, .int .u8 0, .slice none (([] : List Api_ExprD).length) 0],[], rfl, rfl, (rec_shut (none, 0) rfl (ask_cons (hφ _ (mem_at (k := 2) rfl)) ask_nil)), rfl⟩⟩) rfl (by decide) (H' := [_,_,_,_]) rfl (wl_row (sz := 3) (m := 1) R_V ([(⟨1,20, (⟨#[]⟩ : ByteArray)⟩ : V)]) 3 rfl (fun F w hφ => ⟨[.int .u8 1, .int .i64 20, .string ((⟨#[]⟩ : ByteArray))],[], rfl, rfl, ⟨(), rfl, ask_nil⟩, rfl⟩) rfl (by decide) (H' := [_,_,_,_]) rfl (wl_lend [] [0,1,2,3] [0,3] rfl rfl rfl (freshS_eq rfl) rfl rfl fn_8 rfl (w_expr_Eval_s N 3 0 0 (⟨#[]⟩ : ByteArray) 0 1 (some ⟨c17_0,0, none⟩) 2 [(⟨3, (⟨0,0, (⟨#[]⟩ : ByteArray)⟩ : V), 0,3,[(⟨1, (⟨1,2, (⟨#[]⟩ : ByteArray)⟩ : V), 0,0, ([] : List Api_ExprD)⟩ : Api_ExprD), (⟨2, (⟨0,0, (⟨#[]⟩ : ByteArray)⟩ : V), 0,0, ([] : List Api_ExprD)⟩ : Api_ExprD)]⟩ : Api_ExprD), (⟨1, (⟨1,1, (⟨#[]⟩ : ByteArray)⟩ : V), 0,0, ([] : List Api_ExprD)⟩ : Api_ExprD)] (some ⟨g10,0, none⟩) 1 [(⟨1,20, (⟨#[]⟩ : ByteArray)⟩ : V)] _ _ _ _ hc19) (fun F w hφ hh => (ask_cons (own_sli (hh _ (mem_at (k := 0) rfl))) (ask_cons (own_sli (hh _ (mem_at (k := 1) rfl))) ask_nil))) (fun _ _ _ hR => by obtain ⟨rfl, rfl, rfl⟩ := hR; exact ⟨rfl, (fun _ h => free_nil h)⟩) rfl rfl (H' := [_,_,_,_]) rfl ?_)))))))
     rintro _ _ _ ⟨rfl, rfl, rfl⟩
     refine wl_nil (we_x [2,2,4,5,5,4] [2] rfl rfl (xP hok 7 rfl (xP hok 8 rfl (xP hok 9 rfl (xS hok 11 rfl (wS 1 0 rfl tS_25 (all' := [_,_,_]) rfl (H' := [_,_,_,_]) rfl (wl_nil (we_x [0,1,2,2,4,5,5,4] [] rfl rfl (xS hok 12 rfl (wP rfl (wl_nil (we_x [0,1,2,2,4,5,5,4] [] rfl rfl (wx_done hok rfl ?_)))))))))))))
     refine we_pick [1,3] rfl (H' := [_,_]) rfl ?_
     refine we_join g3 trivial [4,3,1] rfl (asK [] rfl) rfl
   ·
    refine wl_alloc rfl rfl rfl (freshS_eq rfl) rfl tZ_25 rfl (fun g3 => (wl_nil (we_x [] [1] rfl rfl (xS hok 2 rfl (wl_fact (.sli 7 R_Api_ExprD none 0 ([] : List Api_ExprD)) (fun _ _ _ => sli_none) (wl_fact (.sli 7 R_Api_ExprD none 0 ([] : List Api_ExprD)) (fun _ _ _ => sli_none) (wC [] [0,1,2] rfl fn_12 rfl (w_ropewalklaw09_op_s N 3 1 1 2 (⟨#[]⟩ : ByteArray) 0 0 none 0 ([] : List Api_ExprD) 2 0 0 (⟨#[]⟩ : ByteArray) 0 0 none 0 ([] : List Api_ExprD) hc15) (asK [1,0] rfl) rfl (H' := [_,_,_]) rfl ?_)))))))
    rintro _ _ _ ⟨c15_0, rfl, rfl, rfl⟩
    refine wl_nil (we_x [] [] rfl rfl (xS hok 3 rfl (wC [] [0,1,2,3] rfl fn_13 rfl (w_ropewalklaw09_number_s N 1 hc16) (asK [] rfl) rfl (H' := [_,_,_,_]) rfl ?_)))
    rintro _ _ _ ⟨rfl, rfl, rfl⟩
    refine wl_nil (we_x [0,1,1,0] [2] rfl rfl (xS hok 4 rfl (wl_row (sz := 7) (m := 2) R_Api_ExprD ([(⟨1, (⟨1,2, (⟨#[]⟩ : ByteArray)⟩ : V), 0,0, ([] : List Api_ExprD)⟩ : Api_ExprD), (⟨2, (⟨0,0, (⟨#[]⟩ : ByteArray)⟩ : V), 0,0, ([] : List Api_ExprD)⟩ : Api_ExprD)]) 0 rfl (fun F w hφ => ⟨[.int .u8 1, .int .u8 1, .int .i64 2, .string ((⟨#[]⟩ : ByteArray)), .int .i64 0, .int .u8 0, .slice none (([] : List Api_ExprD).length) 0],[.int .u8 2, .int .u8 0, .int .i64 0, .string ((⟨#[]⟩ : ByteArray)), .int .i64 0, .int .u8 0, .slice none (([] : List Api_ExprD).length) 0], rfl, rfl, (rec_shut (none, 0) rfl (ask_cons (hφ _ (mem_at (k := 0) rfl)) ask_nil)), ⟨[.int .u8 2, .int .u8 0, .int .i64 0, .string ((⟨#[]⟩ : ByteArray)), .int .i64 0, .int .u8 0, .slice none (([] : List Api_ExprD).length) 0],[], rfl, rfl, (rec_shut (none, 0) rfl (ask_cons (hφ _ (mem_at (k := 1) rfl)) ask_nil)), rfl⟩⟩) rfl (by decide) (H' := [_,_,_,_]) rfl (wl_fact (.sli 7 R_Api_ExprD none 0 ([] : List Api_ExprD)) (fun _ _ _ => sli_none) (wC [0] [1,2,3] rfl fn_12 rfl (w_ropewalklaw09_op_v2_s N 1 3 0 0 (⟨#[]⟩ : ByteArray) 0 3 (some ⟨c15_0,0, none⟩) ([(⟨1, (⟨1,2, (⟨#[]⟩ : ByteArray)⟩ : V), 0,0, ([] : List Api_ExprD)⟩ : Api_ExprD), (⟨2, (⟨0,0, (⟨#[]⟩ : ByteArray)⟩ : V), 0,0, ([] : List Api_ExprD)⟩ : Api_ExprD)].length) 2 [(⟨1, (⟨1,2, (⟨#[]⟩ : ByteArray)⟩ : V), 0,0, ([] : List Api_ExprD)⟩ : Api_ExprD), (⟨2, (⟨0,0, (⟨#[]⟩ : ByteArray)⟩ : V), 0,0, ([] : List Api_ExprD)⟩ : Api_ExprD)] 1 1 1 (⟨#[]⟩ : ByteArray) 0 0 none 0 ([] : List Api_ExprD) hc17) (asK [0] rfl) rfl (H' := [_,_,_]) rfl ?_)))))
    rintro _ _ _ ⟨c17_0, rfl, rfl, rfl⟩
    refine wl_nil (we_x [2,3,3,2] [3] rfl rfl (xS hok 6 rfl (wl_freeze 1 rfl (H' := [_,_,_,_]) rfl (wl_fact (.sli 7 R_Api_ExprD (some ⟨c15_0,0, none⟩) 2 ([(⟨1, (⟨1,2, (⟨#[]⟩ : ByteArray)⟩ : V), 0,0, ([] : List Api_ExprD)⟩ : Api_ExprD), (⟨2, (⟨0,0, (⟨#[]⟩ : ByteArray)⟩ : V), 0,0, ([] : List Api_ExprD)⟩ : Api_ExprD)])) (fun F w hφ => own_sli (hφ _ (mem_at (k := 0) rfl))) (wl_row (sz := 7) (m := 2) R_Api_ExprD ([(⟨3, (⟨0,0, (⟨#[]⟩ : ByteArray)⟩ : V), 0,3,[(⟨1, (⟨1,2, (⟨#[]⟩ : ByteArray)⟩ : V), 0,0, ([] : List Api_ExprD)⟩ : Api_ExprD), (⟨2, (⟨0,0, (⟨#[]⟩ : ByteArray)⟩ : V), 0,0, ([] : List Api_ExprD)⟩ : Api_ExprD)]⟩ : Api_ExprD), (⟨1, (⟨1,1, (⟨#[]⟩ : ByteArray)⟩ : V), 0,0, ([] : List Api_ExprD)⟩ : Api_ExprD)]) 0 rfl (fun F w hφ => ⟨[.int .u8 3, .int .u8 0, .int .i64 0, .string ((⟨#[]⟩ : ByteArray)), .int .i64 0, .int .u8 3, .slice (some ⟨c15_0,0, none⟩) ([(⟨1, (⟨1,2, (⟨#[]⟩ : ByteArray)⟩ : V), 0,0, ([] : List Api_ExprD)⟩ : Api_ExprD), (⟨2, (⟨0,0, (⟨#[]⟩ : ByteArray)⟩ : V), 0,0, ([] : List Api_ExprD)⟩ : Api_ExprD)].length) 2],[.int .u8 1, .int .u8 1, .int .i64 1, .string ((⟨#[]⟩ : ByteArray)), .int .i64 0, .int .u8 0, .slice none (([] : List Api_ExprD).length) 0], rfl, rfl, (rec_shut (some ⟨c15_0,0, none⟩, 2) rfl (ask_cons (hφ _ (mem_at (k := 0) rfl)) ask_nil)), ⟨[.int .u8 1, .int .u8 1, .int .i64 1, .string ((⟨#[]⟩ : ByteArray)), .int .i64 0, .int .u8 0, .slice none (([] : List Api_ExprD).length) 0],[], rfl, rfl, (rec_shut (none, 0) rfl (ask_cons (hφ _ (mem_at (k := 2) rfl)) ask_nil)), rfl⟩⟩) rfl (by decide) (H' := [_,_,_,_]) rfl (wl_row (sz := 3) (m := 1) R_V ([(⟨1,20, (⟨#[]⟩ : ByteArray)⟩ : V)]) 3 rfl (fun F w hφ => ⟨[.int .u8 1, .int .i64 20, .string ((⟨#[]⟩ : ByteArray))],[], rfl, rfl, ⟨(), rfl, ask_nil⟩, rfl⟩) rfl (by decide) (H' := [_,_,_,_]) rfl (wl_lend [] [0,1,2,3] [0,3] rfl rfl rfl (freshS_eq rfl) rfl rfl fn_8 rfl (w_expr_Eval_s N 3 0 0 (⟨#[]⟩ : ByteArray) 0 1 (some ⟨c17_0,0, none⟩) 2 [(⟨3, (⟨0,0, (⟨#[]⟩ : ByteArray)⟩ : V), 0,3,[(⟨1, (⟨1,2, (⟨#[]⟩ : ByteArray)⟩ : V), 0,0, ([] : List Api_ExprD)⟩ : Api_ExprD), (⟨2, (⟨0,0, (⟨#[]⟩ : ByteArray)⟩ : V), 0,0, ([] : List Api_ExprD)⟩ : Api_ExprD)]⟩ : Api_ExprD), (⟨1, (⟨1,1, (⟨#[]⟩ : ByteArray)⟩ : V), 0,0, ([] : List Api_ExprD)⟩ : Api_ExprD)] (some ⟨g10,0, none⟩) 1 [(⟨1,20, (⟨#[]⟩ : ByteArray)⟩ : V)] _ _ _ _ hc19) (fun F w hφ hh => (ask_cons (own_sli (hh _ (mem_at (k := 0) rfl))) (ask_cons (own_sli (hh _ (mem_at (k := 1) rfl))) ask_nil))) (fun _ _ _ hR => by obtain ⟨rfl, rfl, rfl⟩ := hR; exact ⟨rfl, (fun _ h => free_nil h)⟩) rfl rfl (H' := [_,_,_,_]) rfl ?_)))))))
    rintro _ _ _ ⟨rfl, rfl, rfl⟩
    refine wl_nil (we_x [2,2,4,5,5,4] [2] rfl rfl (xP hok 7 rfl (xP hok 8 rfl (xP hok 9 rfl (xS hok 11 rfl (wS 1 0 rfl tS_25 (all' := [_,_,_]) rfl (H' := [_,_,_,_]) rfl (wl_nil (we_x [0,1,2,2,4,5,5,4] [] rfl rfl (xS hok 12 rfl (wP rfl (wl_nil (we_x [0,1,2,2,4,5,5,4] [] rfl rfl (wx_done hok rfl ?_)))))))))))))
    refine we_pick [1,3] rfl (H' := [_,_]) rfl ?_
    refine we_join g3 trivial [4,3,1] rfl (asK [] rfl) rfl
  ·
   refine wl_alloc rfl rfl rfl (freshS_eq rfl) rfl tZ_25 rfl (fun g3 => (wl_nil (we_x [] [1] rfl rfl (xS hok 0 rfl (wC [] [0,1,2] rfl fn_13 rfl (w_ropewalklaw09_number_s N 2 hc13) (asK [] rfl) rfl (H' := [_,_,_]) rfl ?_)))))
   rintro _ _ _ ⟨rfl, rfl, rfl⟩
   refine wl_nil (we_x [] [1] rfl rfl (xS hok 2 rfl (wl_fact (.sli 7 R_Api_ExprD none 0 ([] : List Api_ExprD)) (fun _ _ _ => sli_none) (wl_fact (.sli 7 R_Api_ExprD none 0 ([] : List Api_ExprD)) (fun _ _ _ => sli_none) (wC [] [0,1,2] rfl fn_12 rfl (w_ropewalklaw09_op_s N 3 1 1 2 (⟨#[]⟩ : ByteArray) 0 0 none 0 ([] : List Api_ExprD) 2 0 0 (⟨#[]⟩ : ByteArray) 0 0 none 0 ([] : List Api_ExprD) hc15) (asK [1,0] rfl) rfl (H' := [_,_,_]) rfl ?_)))))
   rintro _ _ _ ⟨c15_0, rfl, rfl, rfl⟩
   refine wl_nil (we_x [] [] rfl rfl (xS hok 3 rfl (wC [] [0,1,2,3] rfl fn_13 rfl (w_ropewalklaw09_number_s N 1 hc16) (asK [] rfl) rfl (H' := [_,_,_,_]) rfl ?_)))
   rintro _ _ _ ⟨rfl, rfl, rfl⟩
   refine wl_nil (we_x [0,1,1,0] [2] rfl rfl (xS hok 4 rfl (wl_row (sz := 7) (m := 2) R_Api_ExprD ([(⟨1, (⟨1,2, (⟨#[]⟩ : ByteArray)⟩ : V), 0,0, ([] : List Api_ExprD)⟩ : Api_ExprD), (⟨2, (⟨0,0, (⟨#[]⟩ : ByteArray)⟩ : V), 0,0, ([] : List Api_ExprD)⟩ : Api_ExprD)]) 0 rfl (fun F w hφ => ⟨[.int .u8 1, .int .u8 1, .int .i64 2, .string ((⟨#[]⟩ : ByteArray)), .int .i64 0, .int .u8 0, .slice none (([] : List Api_ExprD).length) 0],[.int .u8 2, .int .u8 0, .int .i64 0, .string ((⟨#[]⟩ : ByteArray)), .int .i64 0, .int .u8 0, .slice none (([] : List Api_ExprD).length) 0], rfl, rfl, (rec_shut (none, 0) rfl (ask_cons (hφ _ (mem_at (k := 0) rfl)) ask_nil)), ⟨[.int .u8 2, .int .u8 0, .int .i64 0, .string ((⟨#[]⟩ : ByteArray)), .int .i64 0, .int .u8 0, .slice none (([] : List Api_ExprD).length) 0],[], rfl, rfl, (rec_shut (none, 0) rfl (ask_cons (hφ _ (mem_at (k := 1) rfl)) ask_nil)), rfl⟩⟩) rfl (by decide) (H' := [_,_,_,_]) rfl (wl_fact (.sli 7 R_Api_ExprD none 0 ([] : List Api_ExprD)) (fun _ _ _ => sli_none) (wC [0] [1,2,3] rfl fn_12 rfl (w_ropewalklaw09_op_v2_s N 1 3 0 0 (⟨#[]⟩ : ByteArray) 0 3 (some ⟨c15_0,0, none⟩) ([(⟨1, (⟨1,2, (⟨#[]⟩ : ByteArray)⟩ : V), 0,0, ([] : List Api_ExprD)⟩ : Api_ExprD), (⟨2, (⟨0,0, (⟨#[]⟩ : ByteArray)⟩ : V), 0,0, ([] : List Api_ExprD)⟩ : Api_ExprD)].length) 2 [(⟨1, (⟨1,2, (⟨#[]⟩ : ByteArray)⟩ : V), 0,0, ([] : List Api_ExprD)⟩ : Api_ExprD), (⟨2, (⟨0,0, (⟨#[]⟩ : ByteArray)⟩ : V), 0,0, ([] : List Api_ExprD)⟩ : Api_ExprD)] 1 1 1 (⟨#[]⟩ : ByteArray) 0 0 none 0 ([] : List Api_ExprD) hc17) (asK [0] rfl) rfl (H' := [_,_,_]) rfl ?_)))))
   rintro _ _ _ ⟨c17_0, rfl, rfl, rfl⟩
   refine wl_nil (we_x [2,3,3,2] [3] rfl rfl (xS hok 6 rfl (wl_freeze 1 rfl (H' := [_,_,_,_]) rfl (wl_fact (.sli 7 R_Api_ExprD (some ⟨c15_0,0, none⟩) 2 ([(⟨1, (⟨1,2, (⟨#[]⟩ : ByteArray)⟩ : V), 0,0, ([] : List Api_ExprD)⟩ : Api_ExprD), (⟨2, (⟨0,0, (⟨#[]⟩ : ByteArray)⟩ : V), 0,0, ([] : List Api_ExprD)⟩ : Api_ExprD)])) (fun F w hφ => own_sli (hφ _ (mem_at (k := 0) rfl))) (wl_row (sz := 7) (m := 2) R_Api_ExprD ([(⟨3, (⟨0,0, (⟨#[]⟩ : ByteArray)⟩ : V), 0,3,[(⟨1, (⟨1,2, (⟨#[]⟩ : ByteArray)⟩ : V), 0,0, ([] : List Api_ExprD)⟩ : Api_ExprD), (⟨2, (⟨0,0, (⟨#[]⟩ : ByteArray)⟩ : V), 0,0, ([] : List Api_ExprD)⟩ : Api_ExprD)]⟩ : Api_ExprD), (⟨1, (⟨1,1, (⟨#[]⟩ : ByteArray)⟩ : V), 0,0, ([] : List Api_ExprD)⟩ : Api_ExprD)]) 0 rfl (fun F w hφ => ⟨[.int .u8 3, .int .u8 0, .int .i64 0, .string ((⟨#[]⟩ : ByteArray)), .int .i64 0, .int .u8 3, .slice (some ⟨c15_0,0, none⟩) ([(⟨1, (⟨1,2, (⟨#[]⟩ : ByteArray)⟩ : V), 0,0, ([] : List Api_ExprD)⟩ : Api_ExprD), (⟨2, (⟨0,0, (⟨#[]⟩ : ByteArray)⟩ : V), 0,0, ([] : List Api_ExprD)⟩ : Api_ExprD)].length) 2],[.int .u8 1, .int .u8 1, .int .i64 1, .string ((⟨#[]⟩ : ByteArray)), .int .i64 0, .int .u8 0, .slice none (([] : List Api_ExprD).length) 0], rfl, rfl, (rec_shut (some ⟨c15_0,0, none⟩, 2) rfl (ask_cons (hφ _ (mem_at (k := 0) rfl)) ask_nil)), ⟨[.int .u8 1, .int .u8 1, .int .i64 1, .string ((⟨#[]⟩ : ByteArray)), .int .i64 0, .int .u8 0, .slice none (([] : List Api_ExprD).length) 0],[], rfl, rfl, (rec_shut (none, 0) rfl (ask_cons (hφ _ (mem_at (k := 2) rfl)) ask_nil)), rfl⟩⟩) rfl (by decide) (H' := [_,_,_,_]) rfl (wl_row (sz := 3) (m := 1) R_V ([(⟨1,20, (⟨#[]⟩ : ByteArray)⟩ : V)]) 3 rfl (fun F w hφ => ⟨[.int .u8 1, .int .i64 20, .string ((⟨#[]⟩ : ByteArray))],[], rfl, rfl, ⟨(), rfl, ask_nil⟩, rfl⟩) rfl (by decide) (H' := [_,_,_,_]) rfl (wl_lend [] [0,1,2,3] [0,3] rfl rfl rfl (freshS_eq rfl) rfl rfl fn_8 rfl (w_expr_Eval_s N 3 0 0 (⟨#[]⟩ : ByteArray) 0 1 (some ⟨c17_0,0, none⟩) 2 [(⟨3, (⟨0,0, (⟨#[]⟩ : ByteArray)⟩ : V), 0,3,[(⟨1, (⟨1,2, (⟨#[]⟩ : ByteArray)⟩ : V), 0,0, ([] : List Api_ExprD)⟩ : Api_ExprD), (⟨2, (⟨0,0, (⟨#[]⟩ : ByteArray)⟩ : V), 0,0, ([] : List Api_ExprD)⟩ : Api_ExprD)]⟩ : Api_ExprD), (⟨1, (⟨1,1, (⟨#[]⟩ : ByteArray)⟩ : V), 0,0, ([] : List Api_ExprD)⟩ : Api_ExprD)] (some ⟨g10,0, none⟩) 1 [(⟨1,20, (⟨#[]⟩ : ByteArray)⟩ : V)] _ _ _ _ hc19) (fun F w hφ hh => (ask_cons (own_sli (hh _ (mem_at (k := 0) rfl))) (ask_cons (own_sli (hh _ (mem_at (k := 1) rfl))) ask_nil))) (fun _ _ _ hR => by obtain ⟨rfl, rfl, rfl⟩ := hR; exact ⟨rfl, (fun _ h => free_nil h)⟩) rfl rfl (H' := [_,_,_,_]) rfl ?_)))))))
   rintro _ _ _ ⟨rfl, rfl, rfl⟩
   refine wl_nil (we_x [2,2,4,5,5,4] [2] rfl rfl (xP hok 7 rfl (xP hok 8 rfl (xP hok 9 rfl (xS hok 11 rfl (wS 1 0 rfl tS_25 (all' := [_,_,_]) rfl (H' := [_,_,_,_]) rfl (wl_nil (we_x [0,1,2,2,4,5,5,4] [] rfl rfl (xS hok 12 rfl (wP rfl (wl_nil (we_x [0,1,2,2,4,5,5,4] [] rfl rfl (wx_done hok rfl ?_)))))))))))))
   refine we_pick [1,3] rfl (H' := [_,_]) rfl ?_
   refine we_join g3 trivial [4,3,1] rfl (asK [] rfl) rfl
 ·
  rintro w_1_3_g _
  try dsimp only
  refine wc_seq (wc_region (wl_build rfl rfl rfl (freshS_eq rfl) rfl tZ_29 tP_29 rfl (out := [_,_,_,_,_,_,_]) rfl (wP rfl (wl_fact (.sli 7 R_Api_ExprD none 0 ([] : List Api_ExprD)) (fun _ _ _ => sli_none) ?_))))
  obtain ⟨⟨v25_0, v25_1, v25_2, v25_3⟩, hc25, hm⟩ := bindO_some hm
  try dsimp only at hm
  refine wl_lend [] [0,1] [1] rfl rfl rfl (freshS_eq rfl) rfl rfl fn_8 rfl (w_expr_Eval_s N 2 0 0 (⟨#[]⟩ : ByteArray) 1 0 none 0 ([] : List Api_ExprD) (some ⟨g10,0, none⟩) 1 [(⟨1,20, (⟨#[]⟩ : ByteArray)⟩ : V)] _ _ _ _ hc25) (fun F w hφ hh => (ask_cons (hφ _ (mem_at (k := 0) rfl)) (ask_cons (own_sli (hh _ (mem_at (k := 0) rfl))) ask_nil))) (fun _ _ _ hR => by obtain ⟨rfl, rfl, rfl⟩ := hR; exact ⟨rfl, (fun _ h => free_nil h)⟩) rfl rfl (H' := [_,_]) rfl ?_
  rintro _ _ _ ⟨rfl, rfl, rfl⟩
  refine wP rfl (wP rfl (wP rfl (wl_alloc rfl rfl rfl (freshS_eq rfl) rfl tZ_25 rfl (fun g5 => (wS 0 0 rfl tS_25 (all' := [_,_,_]) rfl (H' := [_,_,_]) rfl (wP rfl (wl_nil (we_then (wc_keep [6,4,3,1] (S' := [_,_,_,_]) rfl (wc_seq (wc_region ?_)))))))))))
  obtain ⟨_, hc29, hm⟩ := bindO_some hm
  try dsimp only at hm
  refine wC [] [0,1,2] rfl fn_13 rfl (w_ropewalklaw09_number_s N 9223372036854775807 hc29) (asK [] rfl) rfl (H' := [_,_,_]) rfl ?_
  rintro _ _ _ ⟨rfl, rfl, rfl⟩
  obtain ⟨_, hc30, hm⟩ := bindO_some hm
  try dsimp only at hm
  refine wC [] [0,1,2] rfl fn_13 rfl (w_ropewalklaw09_number_s N 9223372036854775807 hc30) (asK [] rfl) rfl (H' := [_,_,_]) rfl ?_
  rintro _ _ _ ⟨rfl, rfl, rfl⟩
  obtain ⟨_, hc31, hm⟩ := bindO_some hm
  try dsimp only at hm
  refine wC [] [0,1,2] rfl fn_13 rfl (w_ropewalklaw09_number_s N 1 hc31) (asK [] rfl) rfl (H' := [_,_,_]) rfl ?_
  rintro _ _ _ ⟨rfl, rfl, rfl⟩
  refine wl_fact (.sli 7 R_Api_ExprD none 0 ([] : List Api_ExprD)) (fun _ _ _ => sli_none) (wl_fact (.sli 7 R_Api_ExprD none 0 ([] : List Api_ExprD)) (fun _ _ _ => sli_none) ?_)
  obtain ⟨_, hc32, hm⟩ := bindO_some hm
  try dsimp only at hm
  refine wC [] [0,1,2] rfl fn_12 rfl (w_ropewalklaw09_op_s N 1 1 1 9223372036854775807 (⟨#[]⟩ : ByteArray) 0 0 none 0 ([] : List Api_ExprD) 1 1 1 (⟨#[]⟩ : ByteArray) 0 0 none 0 ([] : List Api_ExprD) hc32) (asK [1,0] rfl) rfl (H' := [_,_,_]) rfl ?_
  rintro _ _ _ ⟨c32_0, rfl, rfl, rfl⟩
  refine wl_fact (.sli 7 R_Api_ExprD none 0 ([] : List Api_ExprD)) (fun _ _ _ => sli_none) (wl_row (sz := 7) (m := 2) R_Api_ExprD ([(⟨1, (⟨1,9223372036854775807, (⟨#[]⟩ : ByteArray)⟩ : V), 0,0, ([] : List Api_ExprD)⟩ : Api_ExprD), (⟨1, (⟨1,1, (⟨#[]⟩ : ByteArray)⟩ : V), 0,0, ([] : List Api_ExprD)⟩ : Api_ExprD)]) 0 rfl (fun F w hφ => ⟨[.int .u8 1, .int .u8 1, .int .i64 9223372036854775807, .string ((⟨#[]⟩ : ByteArray)), .int .i64 0, .int .u8 0, .slice none (([] : List Api_ExprD).length) 0],[.int .u8 1, .int .u8 1, .int .i64 1, .string ((⟨#[]⟩ : ByteArray)), .int .i64 0, .int .u8 0, .slice none (([] : List Api_ExprD).length) 0], rfl, rfl, (rec_shut (none, 0) rfl (ask_cons (hφ _ (mem_at (k := 1) rfl)) ask_nil)), ⟨[.int .u8 1, .int .u8 1, .int .i64 1, .string ((⟨#[]⟩ : ByteArray)), .int .i64 0, .int .u8 0, .slice none (([] : List Api_ExprD).length) 0],[], rfl, rfl, (rec_shut (none, 0) rfl (ask_cons (hφ _ (mem_at (k := 2) rfl)) ask_nil)), rfl⟩⟩) rfl (by decide) (H' := [_,_,_,_]) rfl ?_)
  obtain ⟨_, hc33, hm⟩ := bindO_some hm
  try dsimp only at hm
  refine wC [0] [1,2,3] rfl fn_12 rfl (w_ropewalklaw09_op_v3_s N 7 1 1 9223372036854775807 (⟨#[]⟩ : ByteArray) 0 0 none 0 ([] : List Api_ExprD) 3 0 0 (⟨#[]⟩ : ByteArray) 0 1 (some ⟨c32_0,0, none⟩) ([(⟨1, (⟨1,9223372036854775807, (⟨#[]⟩ : ByteArray)⟩ : V), 0,0, ([] : List Api_ExprD)⟩ : Api_ExprD), (⟨1, (⟨1,1, (⟨#[]⟩ : ByteArray)⟩ : V), 0,0, ([] : List Api_ExprD)⟩ : Api_ExprD)].length) 2 [(⟨1, (⟨1,9223372036854775807, (⟨#[]⟩ : ByteArray)⟩ : V), 0,0, ([] : List Api_ExprD)⟩ : Api_ExprD), (⟨1, (⟨1,1, (⟨#[]⟩ : ByteArray)⟩ : V), 0,0, ([] : List Api_ExprD)⟩ : Api_ExprD)] hc33) (asK [0] rfl) rfl (H' := [_,_,_]) rfl ?_
  rintro _ _ _ ⟨c33_0, rfl, rfl, rfl⟩
  refine wP rfl (wl_freeze 1 rfl (H' := [_,_,_,_]) rfl (wl_fact (.sli 7 R_Api_ExprD (some ⟨c32_0,0, none⟩) 2 ([(⟨1, (⟨1,9223372036854775807, (⟨#[]⟩ : ByteArray)⟩ : V), 0,0, ([] : List Api_ExprD)⟩ : Api_ExprD), (⟨1, (⟨1,1, (⟨#[]⟩ : ByteArray)⟩ : V), 0,0, ([] : List Api_ExprD)⟩ : Api_ExprD)])) (fun F w hφ => own_sli (hφ _ (mem_at (k := 0) rfl))) (wl_row (sz := 7) (m := 2) R_Api_ExprD ([(⟨1, (⟨1,9223372036854775807, (⟨#[]⟩ : ByteArray)⟩ : V), 0,0, ([] : List Api_ExprD)⟩ : Api_ExprD), (⟨3, (⟨0,0, (⟨#[]⟩ : ByteArray)⟩ : V), 0,1,[(⟨1, (⟨1,9223372036854775807, (⟨#[]⟩ : ByteArray)⟩ : V), 0,0, ([] : List Api_ExprD)⟩ : Api_ExprD), (⟨1, (⟨1,1, (⟨#[]⟩ : ByteArray)⟩ : V), 0,0, ([] : List Api_ExprD)⟩ : Api_ExprD)]⟩ : Api_ExprD)]) 0 rfl (fun F w hφ => ⟨[.int .u8 1, .int .u8 1, .int .i64 9223372036854775807, .string ((⟨#[]⟩ : ByteArray)), .int .i64 0, .int .u8 0, .slice none (([] : List Api_ExprD).length) 0],[.int .u8 3, .int .u8 0, .int .i64 0, .string ((⟨#[]⟩ : ByteArray)), .int .i64 0, .int .u8 1, .slice (some ⟨c32_0,0, none⟩) ([(⟨1, (⟨1,9223372036854775807, (⟨#[]⟩ : ByteArray)⟩ : V), 0,0, ([] : List Api_ExprD)⟩ : Api_ExprD), (⟨1, (⟨1,1, (⟨#[]⟩ : ByteArray)⟩ : V), 0,0, ([] : List Api_ExprD)⟩ : Api_ExprD)].length) 2], rfl, rfl, (rec_shut (none, 0) rfl (ask_cons (hφ _ (mem_at (k := 2) rfl)) ask_nil)), ⟨[.int .u8 3, .int .u8 0, .int .i64 0, .string ((⟨#[]⟩ : ByteArray)), .int .i64 0, .int .u8 1, .slice (some ⟨c32_0,0, none⟩) ([(⟨1, (⟨1,9223372036854775807, (⟨#[]⟩ : ByteArray)⟩ : V), 0,0, ([] : List Api_ExprD)⟩ : Api_ExprD), (⟨1, (⟨1,1, (⟨#[]⟩ : ByteArray)⟩ : V), 0,0, ([] : List Api_ExprD)⟩ : Api_ExprD)].length) 2],[], rfl, rfl, (rec_shut (some ⟨c32_0,0, none⟩, 2) rfl (ask_cons (hφ _ (mem_at (k := 0) rfl)) ask_nil)), rfl⟩⟩) rfl (by decide) (H' := [_,_,_,_]) rfl ?_)))
  obtain ⟨⟨v35_0, v35_1, v35_2, v35_3⟩, hc35, hm⟩ := bindO_some hm
  try dsimp only at hm
  refine wl_lend [] [0,1,2,3] [0,3] rfl rfl rfl (freshS_eq rfl) rfl rfl fn_8 rfl (w_expr_Eval_s N 3 0 0 (⟨#[]⟩ : ByteArray) 0 7 (some ⟨c33_0,0, none⟩) 2 [(⟨1, (⟨1,9223372036854775807, (⟨#[]⟩ : ByteArray)⟩ : V), 0,0, ([] : List Api_ExprD)⟩ : Api_ExprD), (⟨3, (⟨0,0, (⟨#[]⟩ : ByteArray)⟩ : V), 0,1,[(⟨1, (⟨1,9223372036854775807, (⟨#[]⟩ : ByteArray)⟩ : V), 0,0, ([] : List Api_ExprD)⟩ : Api_ExprD), (⟨1, (⟨1,1, (⟨#[]⟩ : ByteArray)⟩ : V), 0,0, ([] : List Api_ExprD)⟩ : Api_ExprD)]⟩ : Api_ExprD)] (some ⟨g10,0, none⟩) 1 [(⟨1,20, (⟨#[]⟩ : ByteArray)⟩ : V)] _ _ _ _ hc35) (fun F w hφ hh => (ask_cons (own_sli (hh _ (mem_at (k := 0) rfl))) (ask_cons (own_sli (hh _ (mem_at (k := 1) rfl))) ask_nil))) (fun _ _ _ hR => by obtain ⟨rfl, rfl, rfl⟩ := hR; exact ⟨rfl, (fun _ h => free_nil h)⟩) rfl rfl (H' := [_,_,_,_]) rfl ?_
  rintro _ _ _ ⟨rfl, rfl, rfl⟩
  refine wP rfl (wP rfl (wP rfl (wl_alloc rfl rfl rfl (freshS_eq rfl) rfl tZ_25 rfl (fun g7 => (wS 0 0 rfl tS_25 (all' := [_,_,_]) rfl (H' := [_,_,_,_,_]) rfl (wP rfl (wl_nil (we_then (wc_keep [8,6,4,3] (S' := [_,_,_,_]) rfl (wc_seq ?_))))))))))
  obtain ⟨bj_2, hm, hLj_2⟩ := bindO_some hm
  unfold m_ropewalklaw09_awake_C2 at hm
  refine wc_cut (σ := Bool) (fun j_2_0 => bj_2 = j_2_0) (fun j_2_0 => [(0, .bool j_2_0)]) (fun j_2_0 => []) (fun j_2_0 => []) ?_ ?_
  ·
   refine wc_region (wP rfl (wP rfl (wl_as (d := 39) (v' := .bool (v19_3 == 0)) (S' := [_,_,_,_,_]) rfl rfl (nateq (a := v19_3) (b := 0)) (wP rfl ?_))))
   refine wl_split (d := 40) (S' := [_,_,_,_,_,_]) rfl rfl (fun hs40 => ?_) (fun hs40 => ?_)
   ·
    replace hm := iteT hm hs40
    refine wF rfl tF_25_1 (wD 3 1 rfl tS_2 tA_2 rfl (wP rfl (wP rfl (wP rfl ?_))))
    refine wl_split (d := 45) (S' := [_,_,_,_,_,_,_,_,_,_,_]) rfl rfl (fun hs45 => ?_) (fun hs45 => ?_)
    ·
     replace hm := iteT hm hs45
     refine wF rfl tF_25_0 (wD 3 0 rfl tS_23 tA_23 rfl (wP rfl (wP rfl (wP rfl ?_))))
     refine wl_split (d := 50) (S' := [_,_,_,_,_,_,_,_,_,_,_,_,_,_,_,_]) rfl rfl (fun hs50 => ?_) (fun hs50 => ?_)
     ·
      replace hm := iteT hm hs50
      refine wP rfl (wP rfl (wl_as (d := 52) (v' := .bool (v25_3 == 2)) (S' := [_,_,_,_,_,_,_,_,_,_,_,_,_,_,_,_,_,_]) rfl rfl (nateq (a := v25_3) (b := 2)) (wP rfl (wP rfl ?_))))
      refine wl_split (d := 54) (S' := [_,_,_,_,_,_,_,_,_,_,_,_,_,_,_,_,_,_,_,_]) rfl rfl (fun hs54 => ?_) (fun hs54 => ?_)
      ·
       replace hm := iteT hm hs54
       refine wP rfl (wP rfl (wl_as (d := 56) (v' := .bool (v35_3 == 300)) (S' := [_,_,_,_,_,_,_,_,_,_,_,_,_,_,_,_,_,_,_,_,_,_]) rfl rfl (nateq (a := v35_3) (b := 300)) (wP rfl (wP rfl (wl_nil ?_)))))
       have hE := (Option.some.inj hm).symm
       refine we_pick [] rfl (H' := []) rfl ?_
       refine we_join (v35_3 == 300) hE [0] rfl (asK [] rfl) rfl
      ·
       replace hm := iteF hm hs54
       refine wO rfl (wO rfl (wP rfl (wP rfl (wl_nil ?_))))
       have hE := (Option.some.inj hm).symm
       refine we_pick [] rfl (H' := []) rfl ?_
       refine we_join false hE [0] rfl (asK [] rfl) rfl
     ·
      replace hm := iteF hm hs50
      refine wO rfl (wO rfl (wP rfl (wP rfl (wO rfl (wO rfl (wP rfl (wP rfl (wl_nil ?_))))))))
      have hE := (Option.some.inj hm).symm
      refine we_pick [] rfl (H' := []) rfl ?_
      refine we_join false hE [0] rfl (asK [] rfl) rfl
    ·
     replace hm := iteF hm hs45
     refine wO rfl (wO rfl (wO rfl (wP rfl (wP rfl (wO rfl (wO rfl (wP rfl (wP rfl (wO rfl (wO rfl (wP rfl (wP rfl (wl_nil ?_)))))))))))))
     have hE := (Option.some.inj hm).symm
     refine we_pick [] rfl (H' := []) rfl ?_
     refine we_join false hE [0] rfl (asK [] rfl) rfl
   ·
    replace hm := iteF hm hs40
    refine wO rfl (wO rfl (wO rfl (wP rfl (wP rfl (wO rfl (wO rfl (wO rfl (wP rfl (wP rfl (wO rfl (wO rfl (wP rfl (wP rfl ?_)))))))))))))
    refine wO rfl (wO rfl (wP rfl (wP rfl (wl_nil ?_))))
    have hE := (Option.some.inj hm).symm
    refine we_pick [] rfl (H' := []) rfl ?_
    refine we_join false hE [0] rfl (asK [] rfl) rfl
  ·
   rintro j_2_0 hE
   try dsimp only
   have hm := hLj_2
   rw [hE] at hm
   refine wc_ret ?_
   have hE := (Option.some.inj hm).symm
   replace hE := hE.symm
   subst hE
   refine ret_one (Hr := []) [] Tryd.results4 (res_tmp rfl) ⟨rfl, rfl, rfl⟩ (asK [] rfl) rfl rfl (.inl rfl)
theorem w_ropewalkkit_ExprsOf_s_b (N : Nat) (rc : (List Api_ExprD) → Int → Option (Int)) (ih : ∀ (qp0 : Option Addr) (qc1 : Nat) (l0 : List Api_ExprD) (a1 : Int) (o0 : Int), rc l0 a1 = some o0 → Spec Tryd.prog 14 [.slice qp0 l0.length qc1, .int .i64 a1] [.sli 7 R_Api_ExprD qp0 qc1 l0] [] (fun v Φr Hr => v = .int .i64 o0 ∧ Φr = [] ∧ Hr = [])) (qp0 : Option Addr) (qc1 : Nat) (l0 : List Api_ExprD) (a1 : Int) (o0 : Int) (hm : m_ropewalkkit_ExprsOf_b N rc l0 a1 = some o0) : Spec Tryd.prog 14 [.slice qp0 l0.length qc1, .int .i64 a1] [.sli 7 R_Api_ExprD qp0 qc1 l0] [] (fun v Φr Hr => v = .int .i64 o0 ∧ Φr = [] ∧ Hr = []) := by
 unfold m_ropewalkkit_ExprsOf_b at hm
 refine spec_of Tryd.func14 rfl Tryd.ntmps14 rfl (S := [_,_]) rfl (fun C => (wc_seq (wc_region (wP rfl (wl_nil (we_then (wc_keep [0,1] (S' := [_,_]) rfl (wc_seq (wc_region (wP rfl (wl_nil (we_then (wc_seq ?_)))))))))))))
 obtain ⟨bj_1, hm, hLj_1⟩ := bindO_some hm
 refine wc_cut (σ := Int) (fun j_1_5 => bj_1 = j_1_5) (fun j_1_5 => [(1, .int .i64 a1), (5, .int .i64 j_1_5)]) (fun j_1_5 => []) (fun j_1_5 => []) ?_ ?_
 ·
  refine wc_seq (wc_region (wP rfl (wl_nil (we_then (wc_block (wc_loop (σ := Nat × Nat × Int) (fun (nu1, u1_6, u1_5) => iter (m_ropewalkkit_ExprsOf_L1 N l0 a1 rc) nu1 (u1_6, u1_5) = some bj_1) (fun (nu1, u1_6, u1_5) => nu1) (fun (nu1, u1_6, u1_5) => [(6, .int .i64 ((u1_6 : Nat) : Int)), (5, .int .i64 u1_5), (0, .slice qp0 l0.length qc1), (1, .int .i64 a1)]) (fun (nu1, u1_6, u1_5) => [.sli 7 R_Api_ExprD qp0 qc1 l0]) (fun (nu1, u1_6, u1_5) => []) (N, 0,0) hm [6,5,0,1] rfl (asK [0] rfl) rfl (fun s_ hm => ?_)))))))
  obtain ⟨nu1, u1_6, u1_5⟩ := s_
  try dsimp only at hm ⊢
  obtain ⟨mu1, bu1, hnu1, hq, hLu1⟩ := iter_some hm
  clear hm
  subst hnu1
  replace hm := hq
  clear hq
  unfold m_ropewalkkit_ExprsOf_L1 at hm
  try dsimp only at hm
  refine wc_seq (wc_seq ?_)
  obtain ⟨bj_2, hm, hLj_2⟩ := bindO_some hm
  refine wc_cut (σ := Bool) (fun j_2_15 => bj_2 = j_2_15) (fun j_2_15 => [(6, .int .i64 ((u1_6 : Nat) : Int)), (5, .int .i64 u1_5), (0, .slice qp0 l0.length qc1), (1, .int .i64 a1), (15, .bool j_2_15)]) (fun j_2_15 => [.sli 7 R_Api_ExprD qp0 qc1 l0]) (fun j_2_15 => []) ?_ ?_
  ·
   refine wc_region (wP rfl (wP rfl (wN rfl tE_27 (wP rfl (wl_as (d := 10) (v' := .bool (decide (u1_6 < l0.length))) (S' := [_,_,_,_,_,_,_]) rfl rfl (natlt (a := u1_6) (b := l0.length)) (wP rfl ?_))))))
   refine wl_split (d := 11) (S' := [_,_,_,_,_,_,_,_]) rfl rfl (fun hs11 => ?_) (fun hs11 => ?_)
   ·
    replace hm := iteT hm hs11
    refine wP rfl (wP rfl (wP rfl (wP rfl (wl_nil ?_))))
    have hE := (Option.some.inj hm).symm
    refine we_join (decide (u1_5 ≤ a1)) hE [6,5,0,1,15] rfl (asK [0] rfl) rfl
   ·
    replace hm := iteF hm hs11
    refine wO rfl (wO rfl (wO rfl (wP rfl (wl_nil ?_))))
    have hE := (Option.some.inj hm).symm
    refine we_join false hE [6,5,0,1,15] rfl (asK [0] rfl) rfl
  ·
   rintro j_2_15 hE
   try dsimp only
   have hm := hLj_2
   rw [hE] at hm
   refine wc_cond rfl (fun hb15 => ?_) (fun hb15 => ?_)
   ·
    replace hm := iteT hm hb15
    refine wc_keep [6,5,0,1] (S' := [_,_,_,_]) rfl (wc_skip (we_then (wc_seq (wc_block (wc_region (wP rfl (wP rfl ?_)))))))
    obtain ⟨hg19, hm⟩ := gd_some hm
    refine wl_as (d := 19) (v' := .int .i64 (u1_5 + 1)) (S' := [_,_,_,_,_]) rfl rfl (i64_in hg19) (wP rfl (wP rfl ?_))
    obtain ⟨x22, hx22, hm⟩ := bindO_some hm
    refine wl_indexA 0 u1_6 rfl rfl rfl (freshS_eq rfl) rfl rfl rfl rfl rfl hx22 tE_27 tS_29 (fun b22 q22 cs22 hlx22 => (wl_open R_Api_ExprD_opens 1 rfl (fun r22 er22 _ => ?_)))
    subst er22
    refine wF rfl tF_29_4 (wl_load 1 6 rfl rfl rfl (freshS_eq rfl) rfl rfl rfl (cs := [_]) rfl tS_27 tA_27 rfl rfl (wP rfl (wP rfl (wP rfl ?_))))
    obtain ⟨hg27, hm⟩ := gd_some hm
    refine wl_as (d := 27) (v' := .int .i64 (a1 - u1_5)) (S' := [_,_,_,_,_,_,_,_,_,_,_,_,_]) rfl rfl (i64_in hg27) (wP rfl ?_)
    obtain ⟨hg28, hm⟩ := gd_some hm
    refine wl_as (d := 28) (v' := .int .i64 ((a1 - u1_5) - 1)) (S' := [_,_,_,_,_,_,_,_,_,_,_,_,_,_]) rfl rfl (i64_in hg28) ?_
    obtain ⟨v29, hc29, hm⟩ := bindO_some hm
    refine wC [] [] rfl fn_14 rfl (ih r22.1 r22.2 x22.kids ((a1 - u1_5) - 1) _ hc29) (asK [0] rfl) rfl (H' := []) rfl ?_
    rintro _ _ _ ⟨rfl, rfl, rfl⟩
    refine wP rfl ?_
    obtain ⟨hg30, hm⟩ := gd_some hm
    refine wl_as (d := 30) (v' := .int .i64 ((u1_5 + 1) + v29)) (S' := [_,_,_,_,_,_,_,_,_,_,_,_,_,_,_,_]) rfl rfl (i64_in hg30) (wl_pure (S' := [_,_,_,_,_,_,_,_,_,_,_,_,_,_,_,_]) rfl rfl rfl rfl rfl (wl_nil (we_block_normal (we_then (wc_keep [5,6,0,1] (S' := [_,_,_,_]) rfl (wc_region (wP rfl (wP rfl ?_))))))))
    obtain ⟨hg17, hm⟩ := gd_some hm
    refine wl_as (d := 17) (v' := .int .i64 ((u1_6 + 1 : Nat) : Int)) (S' := [_,_,_,_,_]) rfl rfl (nat_add (a := u1_6) (b := 1) hg17) (wl_pure (S' := [_,_,_,_,_]) rfl rfl rfl rfl rfl (wl_nil ?_))
    have hE := (Option.some.inj hm).symm
    replace hE := link_inl hLu1 hE
    refine we_roundK (_, u1_6 + 1, (u1_5 + 1) + v29) (Nat.lt_succ_self _) hE [6,5,0,1] rfl (asK [3] rfl) rfl
   ·
    replace hm := iteF hm hb15
    refine wc_keep [5,1] (S' := [_,_]) rfl (wc_exit (we_then_exit (we_then_exit (we_block_hit ?_))))
    have hE := (Option.some.inj hm).symm
    replace hE := link_inr hLu1 hE
    refine we_join u1_5 hE [1,5] rfl (asK [] rfl) rfl
 ·
  rintro j_1_5 hE
  try dsimp only
  have hm := hLj_1
  rw [hE] at hm
  refine wc_seq (wc_region (wP rfl (wP rfl (wP rfl ?_))))
  obtain ⟨hg33, hm⟩ := gd_some hm
  refine wl_as (d := 33) (v' := .int .i64 (a1 + 1)) (S' := [_,_,_,_]) rfl rfl (i64_in hg33) (wl_reck rfl rfl rfl (freshS_eq rfl) (rk_min rfl rfl rfl) (wP rfl (wl_nil (we_then (wc_keep [4] (S' := [_]) rfl (wc_ret ?_))))))
  have hE := (Option.some.inj hm).symm
  replace hE := hE.symm
  subst hE
  refine ret_one (Hr := []) [] Tryd.results14 (res_tmp rfl) ⟨rfl, rfl, rfl⟩ (asK [] rfl) rfl rfl (.inl rfl)
theorem w_ropewalkkit_ExprsOf_s : ∀ (N : Nat), ∀ (qp0 : Option Addr) (qc1 : Nat) (l0 : List Api_ExprD) (a1 : Int) (o0 : Int), m_ropewalkkit_ExprsOf N l0 a1 = some o0 → Spec Tryd.prog 14 [.slice qp0 l0.length qc1, .int .i64 a1] [.sli 7 R_Api_ExprD qp0 qc1 l0] [] (fun v Φr Hr => v = .int .i64 o0 ∧ Φr = [] ∧ Hr = []) := by
  intro N
  induction N with
  | zero => intro qp0 qc1 l0 a1 o0 hm; cases hm
  | succ N ih => intro qp0 qc1 l0 a1 o0 hm; exact w_ropewalkkit_ExprsOf_s_b N (m_ropewalkkit_ExprsOf N) ih qp0 qc1 l0 a1 o0 hm
theorem w_ropewalklaw09_light_s (N : Nat) (qp0 : Option Addr) (qc1 : Nat) (l0 : List V) (qp2 : Option Addr) (qc3 : Nat) (l1 : List Api_ExprD) (o0 : Bool) (hm : m_ropewalklaw09_light N l0 l1 = some o0) : Spec Tryd.prog 5 [.slice qp0 l0.length qc1, .slice qp2 l1.length qc3] [.sli 3 R_V qp0 qc1 l0, .sli 7 R_Api_ExprD qp2 qc3 l1] [] (fun v Φr Hr => v = .bool o0 ∧ Φr = [] ∧ Hr = []) := by
 unfold m_ropewalklaw09_light at hm
 refine spec_of Tryd.func5 rfl Tryd.ntmps5 rfl (S := [_,_]) rfl (fun C => (wc_seq (wc_region (wP rfl (wl_nil (we_then (wc_keep [0,1] (S' := [_,_]) rfl (wc_seq ?_))))))))
 obtain ⟨bj_1, hm, hLj_1⟩ := bindS_some hm
 refine wc_cut (σ := Unit) (fun _ => bj_1 = .inl ()) (fun _ => [(0, .slice qp0 l0.length qc1), (1, .slice qp2 l1.length qc3)]) (fun _ => [.sli 3 R_V qp0 qc1 l0, .sli 7 R_Api_ExprD qp2 qc3 l1]) (fun _ => []) ?_ ?_
 ·
  refine wc_seq (wc_region (wP rfl (wl_nil (we_then (wc_block (wc_loop (σ := Nat × Nat) (fun (nu1, u1_5) => iter (m_ropewalklaw09_light_L1 N l0) nu1 u1_5 = some bj_1) (fun (nu1, u1_5) => nu1) (fun (nu1, u1_5) => [(5, .int .i64 ((u1_5 : Nat) : Int)), (0, .slice qp0 l0.length qc1), (1, .slice qp2 l1.length qc3)]) (fun (nu1, u1_5) => [.sli 3 R_V qp0 qc1 l0, .sli 7 R_Api_ExprD qp2 qc3 l1]) (fun (nu1, u1_5) => []) (N, 0) hm [5,0,1] rfl (asK [0,1] rfl) rfl (fun s_ hm => ?_)))))))
  obtain ⟨nu1, u1_5⟩ := s_
  try dsimp only at hm ⊢
  obtain ⟨mu1, bu1, hnu1, hq, hLu1⟩ := iter_some hm
  clear hm
  subst hnu1
  replace hm := hq
  clear hq
  unfold m_ropewalklaw09_light_L1 at hm
  try dsimp only at hm
  refine wc_seq (wc_seq (wc_region (wP rfl (wP rfl (wN rfl tE_30 (wP rfl (wl_as (d := 9) (v' := .bool (decide (u1_5 < l0.length))) (S' := [_,_,_,_,_,_]) rfl rfl (natlt (a := u1_5) (b := l0.length)) (wl_nil (we_then (wc_keep [9,5,0,1] (S' := [_,_,_,_]) rfl ?_))))))))))
  refine wc_cond rfl (fun hb9 => ?_) (fun hb9 => ?_)
  ·
   replace hm := iteT hm hb9
   refine wc_keep [5,0,1] (S' := [_,_,_]) rfl (wc_skip (we_then (wc_seq (wc_block (wc_seq (wc_region (wP rfl (wP rfl ?_))))))))
   obtain ⟨x14, hx14, hm⟩ := bindO_some hm
   refine wl_indexA 0 u1_5 rfl rfl rfl (freshS_eq rfl) rfl rfl rfl rfl rfl hx14 tE_30 tS_25 (fun b14 q14 cs14 hlx14 => (wl_open R_V_opens 1 rfl (fun r14 er14 _ => ?_)))
   subst er14
   refine wF rfl tF_25_2 (wl_load 0 2 rfl rfl rfl (freshS_eq rfl) rfl rfl rfl (cs := [_]) rfl tS_9 tA_9 rfl rfl (wl_reck rfl rfl rfl (freshS_eq rfl) (rk_strLen rfl rfl tT_9) (wP rfl (wl_as (d := 18) (v' := .bool (decide (300 < x14.s.size))) (S' := [_,_,_,_,_,_,_,_,_]) rfl rfl (natgt (a := x14.s.size) (b := 300)) (wl_nil (we_then (wc_keep [18,5,0,1] (S' := [_,_,_,_]) rfl ?_)))))))
   refine wc_cond rfl (fun hb18 => ?_) (fun hb18 => ?_)
   ·
    replace hm := iteT hm hb18
    refine wc_keep [] (S' := []) rfl (wc_seq (wc_region (wP rfl (wl_nil (we_then (wc_ret (we_block_ret (we_then_ret (we_then_ret (we_block_ret (we_then_ret ?_)))))))))))
    have hE := (Option.some.inj hm).symm
    replace hE := link_inr hLu1 hE
    replace hE := link_inr hLj_1 hE
    replace hE := hE.symm
    subst hE
    refine ret_one (Hr := []) [] Tryd.results5 (res_tmp rfl) ⟨rfl, rfl, rfl⟩ (asK [] rfl) rfl rfl (.inl rfl)
   ·
    replace hm := iteF hm hb18
    refine wc_keep [5,0,1] (S' := [_,_,_]) rfl (wc_skip (we_block_normal (we_then (wc_region (wP rfl (wP rfl ?_))))))
    obtain ⟨hg11, hm⟩ := gd_some hm
    refine wl_as (d := 11) (v' := .int .i64 ((u1_5 + 1 : Nat) : Int)) (S' := [_,_,_,_]) rfl rfl (nat_add (a := u1_5) (b := 1) hg11) (wl_pure (S' := [_,_,_,_]) rfl rfl rfl rfl rfl (wl_nil ?_))
    have hE := (Option.some.inj hm).symm
    replace hE := link_inl hLu1 hE
    refine we_roundK (_, u1_5 + 1) (Nat.lt_succ_self _) hE [5,0,1] rfl (asK [2,3] rfl) rfl
  ·
   replace hm := iteF hm hb9
   refine wc_keep [0,1] (S' := [_,_]) rfl (wc_exit (we_then_exit (we_then_exit (we_block_hit ?_))))
   have hE := (Option.some.inj hm).symm
   replace hE := link_inr hLu1 hE
   refine we_join () hE [0,1] rfl (asK [0,1] rfl) rfl
 ·
  rintro _ hE
  try dsimp only
  have hm := link_inl hLj_1 hE
  try dsimp only at hm
  refine wc_seq (wc_region (wP rfl (wN rfl tE_30 (wP rfl (wl_as (d := 21) (v' := .bool (decide (l0.length ≤ 30))) (S' := [_,_,_,_]) rfl rfl (natle (a := l0.length) (b := 30)) (wP rfl ?_))))))
  refine wl_split (d := 22) (S' := [_,_,_,_,_]) rfl rfl (fun hs22 => ?_) (fun hs22 => ?_)
  ·
   replace hm := iteT hm hs22
   refine wP rfl (wN rfl tE_27 (wP rfl (wl_as (d := 25) (v' := .bool (decide (l1.length ≤ 30))) (S' := [_,_,_,_,_,_,_,_]) rfl rfl (natle (a := l1.length) (b := 30)) (wP rfl (wP rfl ?_)))))
   refine wl_split (d := 27) (S' := [_,_,_,_,_,_,_,_,_,_]) rfl rfl (fun hs27 => ?_) (fun hs27 => ?_)
   ·
    replace hm := iteT hm hs27
    refine wP rfl ?_
    obtain ⟨v29, hc29, hm⟩ := bindO_some hm
    refine wC [] [] rfl fn_14 rfl (w_ropewalkkit_ExprsOf_s N qp2 qc3 l1 300 _ hc29) (asK [1] rfl) rfl (H' := []) rfl ?_
    rintro _ _ _ ⟨rfl, rfl, rfl⟩
    refine wP rfl (wP rfl (wP rfl (wl_nil (we_then (wc_keep [4] (S' := [_]) rfl (wc_ret ?_))))))
    have hE := (Option.some.inj hm).symm
    replace hE := hE.symm
    subst hE
    refine ret_one (Hr := []) [] Tryd.results5 (res_tmp rfl) ⟨rfl, rfl, rfl⟩ (asK [] rfl) rfl rfl (.inl rfl)
   ·
    replace hm := iteF hm hs27
    refine wO rfl (wO rfl (wO rfl (wP rfl (wP rfl (wl_nil (we_then (wc_keep [4] (S' := [_]) rfl (wc_ret ?_))))))))
    have hE := (Option.some.inj hm).symm
    replace hE := hE.symm
    subst hE
    refine ret_one (Hr := []) [] Tryd.results5 (res_tmp rfl) ⟨rfl, rfl, rfl⟩ (asK [] rfl) rfl rfl (.inl rfl)
  ·
   replace hm := iteF hm hs22
   refine wO rfl (wO rfl (wO rfl (wP rfl (wP rfl (wO rfl (wO rfl (wO rfl (wP rfl (wP rfl (wl_nil (we_then (wc_keep [4] (S' := [_]) rfl (wc_ret ?_)))))))))))))
   have hE := (Option.some.inj hm).symm
   replace hE := hE.symm
   subst hE
   refine ret_one (Hr := []) [] Tryd.results5 (res_tmp rfl) ⟨rfl, rfl, rfl⟩ (asK [] rfl) rfl rfl (.inl rfl)
theorem w_ropewalkkit_mark_s (N : Nat) (a0 : Int) (a1 : Int)  (hm : m_ropewalkkit_mark N a0 a1 = some ()) : Spec Tryd.prog 28 [.int .i64 a0, .int .i64 a1] [] [] (fun v Φr Hr => v = .int .i64 (IntKind.wrap .i64 ((IntKind.wrap .i64 (1000003 * (IntKind.wrap .i64 (a0 + 7)))) + a1)) ∧ Φr = [] ∧ Hr = []) := by
 unfold m_ropewalkkit_mark at hm
 refine spec_of Tryd.func28 rfl Tryd.ntmps28 rfl (S := [_,_]) rfl (fun C => (wc_seq (wc_region (wP rfl (wl_nil (we_then (wc_keep [0,1] (S' := [_,_]) rfl (wc_seq (wc_region (wP rfl (wP rfl (wP rfl (wP rfl (wP rfl ?_))))))))))))))
 refine wP rfl (wl_nil (we_then (wc_keep [4] (S' := [_]) rfl (wc_ret ?_))))
 have hE := (Option.some.inj hm).symm
 refine ret_one (Hr := []) [] Tryd.results28 (res_tmp rfl) ⟨rfl, rfl, rfl⟩ (asK [] rfl) rfl rfl (.inl rfl)
theorem w_ropewalkkit_markExpr_s (N : Nat) (a0 : Int) (a1 : Int)  (hm : m_ropewalkkit_markExpr N a0 a1 = some ()) : Spec Tryd.prog 27 [.int .i64 a0, .int .i64 a1] [] [] (fun v Φr Hr => v = .agg #[.int .u8 0, .int .u8 0, .int .i64 0, .string ((⟨#[]⟩ : ByteArray)), .int .i64 (IntKind.wrap .i64 ((IntKind.wrap .i64 (1000003 * (IntKind.wrap .i64 (a0 + 7)))) + a1)), .int .u8 0, .slice none 0 0] ∧ Φr = [] ∧ Hr = []) := by
 unfold m_ropewalkkit_markExpr at hm
 refine spec_of Tryd.func27 rfl Tryd.ntmps27 rfl (S := [_,_]) rfl (fun C => (wc_seq (wc_region (wl_alloc rfl rfl rfl (freshS_eq rfl) rfl tZ_29 rfl (fun g4 => (wl_nil (we_then (wc_seq (wc_region (wP rfl (wP rfl ?_)))))))))))
 obtain ⟨_, hc7, hm⟩ := bindO_some hm
 try dsimp only at hm
 refine wC [] [0] rfl fn_28 rfl (w_ropewalkkit_mark_s N a0 a1 hc7) (asK [] rfl) rfl (H' := [_]) rfl ?_
 rintro _ _ _ ⟨rfl, rfl, rfl⟩
 refine wl_build rfl rfl rfl (freshS_eq rfl) rfl tZ_29 tP_29 rfl (out := [_,_,_,_,_,_,_]) rfl (wS 0 0 rfl tS_29 (all' := [_,_,_,_,_,_,_]) rfl (H' := [_]) rfl (wl_nil (we_then (wc_keep [4] (S' := [_]) rfl (wc_ret ?_)))))
 have hE := (Option.some.inj hm).symm
 refine ret_one (Hr := []) [] Tryd.results27 (res_cell 0 rfl rfl tS_29 tA_29 rfl rfl) ⟨rfl, rfl, rfl⟩ (asK [] rfl) rfl rfl (.inl rfl)
theorem w_ropewalkkit_LentExprs_v2_s (N : Nat) (rc : Int → Int → Int → ByteArray → Int → Int → (List Api_ExprD) → Option (Int × Int × Int × ByteArray × Int × Int × (List Api_ExprDS) × Nat)) (ih : ∀ (a0 : Int) (a1 : Int) (a2 : Int) (a3 : ByteArray) (a4 : Int) (a5 : Int) (qp0 : Option Addr) (qc1 : Nat) (l6 : List Api_ExprD) (o0 : Int) (o1 : Int) (o2 : Int) (o3 : ByteArray) (o4 : Int) (o5 : Int) (o8 : List Api_ExprDS) (o10 : Nat), rc a0 a1 a2 a3 a4 a5 l6 = some (o0, o1, o2, o3, o4, o5, o8, o10) → Spec Tryd.prog 6 [.agg #[.int .u8 a0, .int .u8 a1, .int .i64 a2, .string a3, .int .i64 a4, .int .u8 a5, .slice qp0 l6.length qc1]] [.sli 7 R_Api_ExprD qp0 qc1 l6] [] (fun v Φr Hr => ∃ (o6 : Option Addr) (o7 : Nat) (o9 : Nat), v = .agg #[.int .u8 o0, .int .u8 o1, .int .i64 o2, .string o3, .int .i64 o4, .int .u8 o5, .slice o6 o10 o7] ∧ Φr = [] ∧ Hr = [.own 29 7 RS_Api_ExprD (.slice o6 o9 o7) o8])) (qp0 : Option Addr) (qc1 : Nat) (l0 : List Api_ExprD) (o2 : List Api_ExprDS) (hm : m_ropewalkkit_LentExprs_v2 N rc l0 = some o2) : Spec Tryd.prog 15 [.slice qp0 l0.length qc1] [.sli 7 R_Api_ExprD qp0 qc1 l0] [] (fun v Φr Hr => ∃ (o0 : Option Addr) (o1 : Nat) (o3 : Nat), v = .slice o0 l0.length o1 ∧ Φr = [] ∧ Hr = [.own 29 7 RS_Api_ExprD (.slice o0 o3 o1) o2]) := by
 unfold m_ropewalkkit_LentExprs_v2 at hm
 refine spec_of Tryd.func15 rfl Tryd.ntmps15 rfl (S := [_]) rfl (fun C => (wc_seq (wc_region (wP rfl (wl_nil (we_then (wc_keep [0] (S' := [_]) rfl (wc_seq (wc_region (wP rfl (wN rfl tE_27 (wP rfl ?_))))))))))))
 obtain ⟨hg9, hm⟩ := gd_some hm
 refine wl_as (d := 9) (v' := .int .i64 ((l0.length + 12 : Nat) : Int)) (S' := [_,_,_]) rfl rfl (nat_add (a := l0.length) (b := 12) hg9) ?_
 obtain ⟨hg10, hm⟩ := gd_some hm
 refine wl_makeCap (m := l0.length + 12) R_Api_ExprD rfl rfl rfl (freshS_eq rfl) rfl rfl rfl rfl tE_27 tR_29 rfl rfl (Nat.le_trans (Nat.mul_le_mul_left _ hg10) (by decide)) (Nat.le_trans hg10 (by decide)) (fun g10 => (wP rfl (wl_nil (we_then (wc_keep [3,0] (S' := [_,_]) rfl (wc_seq ?_))))))
 obtain ⟨bj_1, hm, hLj_1⟩ := bindO_some hm
 refine wc_cut (σ := (List Api_ExprDS) × (Option Addr) × Nat × Nat) (fun (j_1_3_l, j_1_3_p, j_1_3_c, j_1_3_n) => bj_1 = j_1_3_l) (fun (j_1_3_l, j_1_3_p, j_1_3_c, j_1_3_n) => [(3, .slice j_1_3_p j_1_3_n j_1_3_c), (0, .slice qp0 l0.length qc1)]) (fun (j_1_3_l, j_1_3_p, j_1_3_c, j_1_3_n) => [.sli 7 R_Api_ExprD qp0 qc1 l0]) (fun (j_1_3_l, j_1_3_p, j_1_3_c, j_1_3_n) => [.own 29 7 RS_Api_ExprD (.slice j_1_3_p j_1_3_n j_1_3_c) j_1_3_l]) ?_ ?_
 ·
  refine wc_seq (wc_region (wP rfl (wl_nil (we_then (wc_block (wc_sh [.own 29 7 RS_Api_ExprD (.slice (some ⟨g10,0, none⟩) 0 (l0.length + 12)) []] (fun _ h => h.rowKind RS_Api_ExprD 0 rfl) (wc_loop (σ := Nat × Nat × (List Api_ExprDS) × (Option Addr) × Nat × Nat) (fun (nu1, u1_4, u1_3_l, u1_3_p, u1_3_c, u1_3_n) => iter (m_ropewalkkit_LentExprs_v2_L1 N l0 rc) nu1 (u1_4, u1_3_l) = some bj_1) (fun (nu1, u1_4, u1_3_l, u1_3_p, u1_3_c, u1_3_n) => nu1) (fun (nu1, u1_4, u1_3_l, u1_3_p, u1_3_c, u1_3_n) => [(4, .int .i64 ((u1_4 : Nat) : Int)), (3, .slice u1_3_p u1_3_n u1_3_c), (0, .slice qp0 l0.length qc1)]) (fun (nu1, u1_4, u1_3_l, u1_3_p, u1_3_c, u1_3_n) => [.sli 7 R_Api_ExprD qp0 qc1 l0]) (fun (nu1, u1_4, u1_3_l, u1_3_p, u1_3_c, u1_3_n) => [.own 29 7 RS_Api_ExprD (.slice u1_3_p u1_3_n u1_3_c) u1_3_l]) (N, 0,[], some ⟨g10,0, none⟩, l0.length + 12,0) hm [4,3,0] rfl (asK [0] rfl) rfl (fun s_ hm => ?_))))))))
  obtain ⟨nu1, u1_4, u1_3_l, u1_3_p, u1_3_c, u1_3_n⟩ := s_
  try dsimp only at hm ⊢
  obtain ⟨mu1, bu1, hnu1, hq, hLu1⟩ := iter_some hm
  clear hm
  subst hnu1
  replace hm := hq
  clear hq
  unfold m_ropewalkkit_LentExprs_v2_L1 at hm
  try dsimp only at hm
  refine wc_seq (wc_seq (wc_region (wP rfl (wP rfl (wN rfl tE_27 (wP rfl (wl_as (d := 14) (v' := .bool (decide (u1_4 < l0.length))) (S' := [_,_,_,_,_,_]) rfl rfl (natlt (a := u1_4) (b := l0.length)) (wl_nil (we_then (wc_keep [14,4,3,0] (S' := [_,_,_,_]) rfl ?_))))))))))
  refine wc_cond rfl (fun hb14 => ?_) (fun hb14 => ?_)
  ·
   replace hm := iteT hm hb14
   refine wc_keep [4,3,0] (S' := [_,_,_]) rfl (wc_skip (we_then (wc_seq (wc_block (wc_seq (wc_region (wP rfl (wP rfl ?_))))))))
   obtain ⟨x19, hx19, hm⟩ := bindO_some hm
   refine wl_indexA 0 u1_4 rfl rfl rfl (freshS_eq rfl) rfl rfl rfl rfl rfl hx19 tE_27 tS_29 (fun b19 q19 cs19 hlx19 => (wl_open R_Api_ExprD_opens 1 rfl (fun r19 er19 _ => ?_)))
   subst er19
   refine wl_load 1 0 rfl rfl rfl (freshS_eq rfl) rfl rfl rfl (cs := [_,_,_,_,_,_,_]) rfl tS_29 tA_29 rfl rfl ?_
   obtain ⟨⟨v21_0, v21_1, v21_2, v21_3, v21_4, v21_5, v21_6, v21_7⟩, hc21, hm⟩ := bindO_some hm
   try dsimp only at hm
   refine wC [] [0] rfl fn_6 rfl (ih x19.kind x19.value.k x19.value.n x19.value.s x19.var x19.op r19.1 r19.2 x19.kids _ _ _ _ _ _ _ _ hc21) (asK [0] rfl) rfl (H' := [_]) rfl ?_
   rintro _ _ _ ⟨p21_0, c21_1, c21_2, rfl, rfl, rfl⟩
   refine wl_alloc rfl rfl rfl (freshS_eq rfl) rfl tZ_29 rfl (fun g5 => (wS 0 0 rfl tS_29 (all' := [_,_,_,_,_,_,_]) rfl (H' := [_,_,_]) rfl (wl_nil (we_then (wc_keep [5,4,3,0] (S' := [_,_,_,_]) rfl (wc_region (wP rfl (wl_loadH 0 0 rfl rfl rfl (freshS_eq rfl) rfl rfl rfl (cs := [_,_,_,_,_,_,_]) rfl tS_29 tA_29 rfl rfl (wl_buildSlice rfl rfl rfl (freshS_eq rfl) rfl tE_27 tS_29 tZ_29 rfl (zs := [.int .u8 0, .int .u8 0, .int .i64 0, .string ((⟨#[]⟩ : ByteArray)), .int .i64 0, .int .u8 0, .slice none 0 0]) (by kernel_rfl) rfl (out := [_,_,_,_,_,_,_]) rfl (fun g24 => ?_))))))))))
   obtain ⟨hzk12, hm⟩ := gd_some hm
   refine wl_ownLen 2 rfl (fun hzc21_2 _ => ?_)
   subst hzc21_2
   refine wl_hAs 2 (φ' := .own 29 7 RS_Api_ExprD (.slice p21_0 (((v21_6.take v21_7) ++ (v21_6.drop v21_7)).length) c21_1) ((v21_6.take v21_7) ++ (v21_6.drop v21_7))) rfl (by rw [List.take_append_drop]) (H' := [_,_,_,_]) rfl (wl_at 1 (v' := .agg #[.int .u8 v21_0, .int .u8 v21_1, .int .i64 v21_2, .string v21_3, .int .i64 v21_4, .int .u8 v21_5, .slice p21_0 ((v21_6.take v21_7).length) c21_1]) rfl (by rw [take_len hzk12]) (wl_hAs 0 (φ' := .blk g24 [.int .u8 v21_0, .int .u8 v21_1, .int .i64 v21_2, .string v21_3, .int .i64 v21_4, .int .u8 v21_5, .slice p21_0 ((v21_6.take v21_7).length) c21_1] 29) rfl (by rw [take_len hzk12]) (H' := [_,_,_,_]) rfl (wl_hAs 1 (φ' := .blk g5 [.int .u8 v21_0, .int .u8 v21_1, .int .i64 v21_2, .string v21_3, .int .i64 v21_4, .int .u8 v21_5, .slice p21_0 ((v21_6.take v21_7).length) c21_1] 29) rfl (by rw [take_len hzk12]) (H' := [_,_,_,_]) rfl (wl_freeze 2 rfl (H' := [_,_,_]) rfl (wl_fact (.sli 7 RS_Api_ExprD p21_0 c21_1 ((v21_6.take v21_7) ++ (v21_6.drop v21_7))) (fun F w hφ => own_sli (hφ _ (mem_at (k := 0) rfl))) ?_)))))
   obtain ⟨hg25, hm⟩ := gd_some hm
   refine wl_appendH ([(⟨v21_0, (⟨v21_1, v21_2, v21_3⟩ : V), v21_4, v21_5, (v21_6.take v21_7), (v21_6.drop v21_7)⟩ : Api_ExprDS)]) 2 0 rfl rfl rfl (freshS_eq rfl) rfl rfl rfl rfl rfl (fun F w hφ => ⟨[.int .u8 v21_0, .int .u8 v21_1, .int .i64 v21_2, .string v21_3, .int .i64 v21_4, .int .u8 v21_5, .slice p21_0 ((v21_6.take v21_7).length) c21_1],[], rfl, rfl, (rec_shut (p21_0, c21_1) rfl (ask_cons (hφ _ (mem_at (k := 0) rfl)) ask_nil)), rfl⟩) tE_27 tR_29 rfl rfl (Nat.le_trans hg25 (by decide)) (Nat.le_trans (Nat.mul_le_mul_right _ hg25) (by decide)) (H2 := fun p25 c25 => [_,_, .own 29 7 RS_Api_ExprD (.slice p25 ((u1_3_l ++ ([(⟨v21_0, (⟨v21_1, v21_2, v21_3⟩ : V), v21_4, v21_5, (v21_6.take v21_7), (v21_6.drop v21_7)⟩ : Api_ExprDS)])).length) c25) (u1_3_l ++ ([(⟨v21_0, (⟨v21_1, v21_2, v21_3⟩ : V), v21_4, v21_5, (v21_6.take v21_7), (v21_6.drop v21_7)⟩ : Api_ExprDS)]))]) (fun _ _ => rfl) (fun p25 c25 => (wl_drop 0 rfl (H' := [_,_]) rfl (wl_pure (S' := [_,_,_,_,_,_,_]) rfl rfl rfl rfl rfl (wl_nil (we_block_normal (we_then (wc_keep [3,4,0] (S' := [_,_,_]) rfl (wc_region (wP rfl (wP rfl ?_))))))))))
   obtain ⟨hg16, hm⟩ := gd_some hm
   refine wl_as (d := 16) (v' := .int .i64 ((u1_4 + 1 : Nat) : Int)) (S' := [_,_,_,_]) rfl rfl (nat_add (a := u1_4) (b := 1) hg16) (wl_pure (S' := [_,_,_,_]) rfl rfl rfl rfl rfl (wl_nil ?_))
   have hE := (Option.some.inj hm).symm
   replace hE := link_inl hLu1 hE
   refine we_pick [1] rfl (H' := [_]) rfl ?_
   refine we_roundK (_, u1_4 + 1, (u1_3_l ++ ([(⟨v21_0, (⟨v21_1, v21_2, v21_3⟩ : V), v21_4, v21_5, (v21_6.take v21_7), (v21_6.drop v21_7)⟩ : Api_ExprDS)])), p25, c25, ((u1_3_l ++ ([(⟨v21_0, (⟨v21_1, v21_2, v21_3⟩ : V), v21_4, v21_5, (v21_6.take v21_7), (v21_6.drop v21_7)⟩ : Api_ExprDS)])).length)) (Nat.lt_succ_self _) hE [4,3,0] rfl (asK [5] rfl) rfl
  ·
   replace hm := iteF hm hb14
   refine wc_keep [3,0] (S' := [_,_]) rfl (wc_exit (we_then_exit (we_then_exit (we_block_hit ?_))))
   have hE := (Option.some.inj hm).symm
   replace hE := link_inr hLu1 hE
   refine we_join (u1_3_l, u1_3_p, u1_3_c, u1_3_n) hE [3,0] rfl (asK [0] rfl) rfl
 ·
  rintro ⟨j_1_3_l, j_1_3_p, j_1_3_c, j_1_3_n⟩ hE
  try dsimp only
  have hm := hLj_1
  rw [hE] at hm
  refine wc_seq ?_
  obtain ⟨bj_2, hm, hLj_2⟩ := bindO_some hm
  refine wc_cut (σ := (List Api_ExprDS) × (Option Addr) × Nat × Nat) (fun (j_2_3_l, j_2_3_p, j_2_3_c, j_2_3_n) => bj_2 = j_2_3_l) (fun (j_2_3_l, j_2_3_p, j_2_3_c, j_2_3_n) => [(3, .slice j_2_3_p j_2_3_n j_2_3_c), (0, .slice qp0 l0.length qc1)]) (fun (j_2_3_l, j_2_3_p, j_2_3_c, j_2_3_n) => [.sli 7 R_Api_ExprD qp0 qc1 l0]) (fun (j_2_3_l, j_2_3_p, j_2_3_c, j_2_3_n) => [.own 29 7 RS_Api_ExprD (.slice j_2_3_p j_2_3_n j_2_3_c) j_2_3_l]) ?_ ?_
  ·
   refine wc_seq (wc_region (wP rfl (wl_nil (we_then (wc_block (wc_loop (σ := Nat × Nat × (List Api_ExprDS) × (Option Addr) × Nat × Nat) (fun (nu2, u2_6, u2_3_l, u2_3_p, u2_3_c, u2_3_n) => iter (m_ropewalkkit_LentExprs_v2_L2 N) nu2 (u2_6, u2_3_l) = some bj_2) (fun (nu2, u2_6, u2_3_l, u2_3_p, u2_3_c, u2_3_n) => nu2) (fun (nu2, u2_6, u2_3_l, u2_3_p, u2_3_c, u2_3_n) => [(6, .int .i64 ((u2_6 : Nat) : Int)), (3, .slice u2_3_p u2_3_n u2_3_c), (0, .slice qp0 l0.length qc1)]) (fun (nu2, u2_6, u2_3_l, u2_3_p, u2_3_c, u2_3_n) => [.sli 7 R_Api_ExprD qp0 qc1 l0]) (fun (nu2, u2_6, u2_3_l, u2_3_p, u2_3_c, u2_3_n) => [.own 29 7 RS_Api_ExprD (.slice u2_3_p u2_3_n u2_3_c) u2_3_l]) (N, 0, j_1_3_l, j_1_3_p, j_1_3_c, j_1_3_n) hm [6,3,0] rfl (asK [0] rfl) rfl (fun s_ hm => ?_)))))))
   obtain ⟨nu2, u2_6, u2_3_l, u2_3_p, u2_3_c, u2_3_n⟩ := s_
   try dsimp only at hm ⊢
   obtain ⟨mu2, bu2, hnu2, hq, hLu2⟩ := iter_some hm
   clear hm
   subst hnu2
   replace hm := hq
   clear hq
   unfold m_ropewalkkit_LentExprs_v2_L2 at hm
   try dsimp only at hm
   refine wc_seq (wc_seq (wc_region (wP rfl (wP rfl (wl_as (d := 27) (v' := .bool (decide (u2_6 < 12))) (S' := [_,_,_,_]) rfl rfl (natlt (a := u2_6) (b := 12)) (wl_nil (we_then (wc_keep [27,6,3,0] (S' := [_,_,_,_]) rfl ?_))))))))
   refine wc_cond rfl (fun hb27 => ?_) (fun hb27 => ?_)
   ·
    replace hm := iteT hm hb27
    refine wc_keep [6,3,0] (S' := [_,_,_]) rfl (wc_skip (we_then (wc_seq (wc_block (wc_region (wP rfl (wP rfl ?_)))))))
    obtain ⟨_, hc32, hm⟩ := bindO_some hm
    try dsimp only at hm
    refine wC [] [0] rfl fn_27 rfl (w_ropewalkkit_markExpr_s N 1 ((u2_6 : Nat) : Int) hc32) (asK [] rfl) rfl (H' := [_]) rfl ?_
    rintro _ _ _ ⟨rfl, rfl, rfl⟩
    refine wl_buildSlice rfl rfl rfl (freshS_eq rfl) rfl tE_27 tS_29 tZ_29 rfl (zs := [.int .u8 0, .int .u8 0, .int .i64 0, .string ((⟨#[]⟩ : ByteArray)), .int .i64 0, .int .u8 0, .slice none 0 0]) (by kernel_rfl) rfl (out := [_,_,_,_,_,_,_]) rfl (fun g33 => ?_)
    obtain ⟨hg34, hm⟩ := gd_some hm
    refine wl_appendH ([(⟨0, (⟨0,0, (⟨#[]⟩ : ByteArray)⟩ : V), (IntKind.wrap .i64 ((IntKind.wrap .i64 (1000003 * (IntKind.wrap .i64 (1 + 7)))) + ((u2_6 : Nat) : Int))), 0, ([] : List Api_ExprDS), ([] : List Api_ExprDS)⟩ : Api_ExprDS)]) 1 0 rfl rfl rfl (freshS_eq rfl) rfl rfl rfl rfl rfl (fun F w hφ => ⟨[.int .u8 0, .int .u8 0, .int .i64 0, .string ((⟨#[]⟩ : ByteArray)), .int .i64 (IntKind.wrap .i64 ((IntKind.wrap .i64 (1000003 * (IntKind.wrap .i64 (1 + 7)))) + ((u2_6 : Nat) : Int))), .int .u8 0, .slice none 0 0],[], rfl, rfl, (rec_shut (none, 0) rfl (ask_cons sli_none ask_nil)), rfl⟩) tE_27 tR_29 rfl rfl (Nat.le_trans hg34 (by decide)) (Nat.le_trans (Nat.mul_le_mul_right _ hg34) (by decide)) (H2 := fun p34 c34 => [_, .own 29 7 RS_Api_ExprD (.slice p34 ((u2_3_l ++ ([(⟨0, (⟨0,0, (⟨#[]⟩ : ByteArray)⟩ : V), (IntKind.wrap .i64 ((IntKind.wrap .i64 (1000003 * (IntKind.wrap .i64 (1 + 7)))) + ((u2_6 : Nat) : Int))), 0, ([] : List Api_ExprDS), ([] : List Api_ExprDS)⟩ : Api_ExprDS)])).length) c34) (u2_3_l ++ ([(⟨0, (⟨0,0, (⟨#[]⟩ : ByteArray)⟩ : V), (IntKind.wrap .i64 ((IntKind.wrap .i64 (1000003 * (IntKind.wrap .i64 (1 + 7)))) + ((u2_6 : Nat) : Int))), 0, ([] : List Api_ExprDS), ([] : List Api_ExprDS)⟩ : Api_ExprDS)]))]) (fun _ _ => rfl) (fun p34 c34 => (wl_drop 0 rfl (H' := [_]) rfl (wl_pure (S' := [_,_,_,_,_,_,_]) rfl rfl rfl rfl rfl (wl_nil (we_block_normal (we_then (wc_keep [3,6,0] (S' := [_,_,_]) rfl (wc_region (wP rfl (wP rfl ?_))))))))))
    obtain ⟨hg29, hm⟩ := gd_some hm
    refine wl_as (d := 29) (v' := .int .i64 ((u2_6 + 1 : Nat) : Int)) (S' := [_,_,_,_]) rfl rfl (nat_add (a := u2_6) (b := 1) hg29) (wl_pure (S' := [_,_,_,_]) rfl rfl rfl rfl rfl (wl_nil ?_))
    have hE := (Option.some.inj hm).symm
    replace hE := link_inl hLu2 hE
    refine we_roundK (_, u2_6 + 1, (u2_3_l ++ ([(⟨0, (⟨0,0, (⟨#[]⟩ : ByteArray)⟩ : V), (IntKind.wrap .i64 ((IntKind.wrap .i64 (1000003 * (IntKind.wrap .i64 (1 + 7)))) + ((u2_6 : Nat) : Int))), 0, ([] : List Api_ExprDS), ([] : List Api_ExprDS)⟩ : Api_ExprDS)])), p34, c34, ((u2_3_l ++ ([(⟨0, (⟨0,0, (⟨#[]⟩ : ByteArray)⟩ : V), (IntKind.wrap .i64 ((IntKind.wrap .i64 (1000003 * (IntKind.wrap .i64 (1 + 7)))) + ((u2_6 : Nat) : Int))), 0, ([] : List Api_ExprDS), ([] : List Api_ExprDS)⟩ : Api_ExprDS)])).length)) (Nat.lt_succ_self _) hE [6,3,0] rfl (asK [0] rfl) rfl
   ·
    replace hm := iteF hm hb27
    refine wc_keep [3,0] (S' := [_,_]) rfl (wc_exit (we_then_exit (we_then_exit (we_block_hit ?_))))
    have hE := (Option.some.inj hm).symm
    replace hE := link_inr hLu2 hE
    refine we_join (u2_3_l, u2_3_p, u2_3_c, u2_3_n) hE [3,0] rfl (asK [0] rfl) rfl
  ·
   rintro ⟨j_2_3_l, j_2_3_p, j_2_3_c, j_2_3_n⟩ hE
   try dsimp only
   have hm := hLj_2
   rw [hE] at hm
   refine wc_seq (wc_region (wP rfl (wP rfl (wN rfl tE_27 ?_))))
   obtain ⟨hg38, hm⟩ := gd_some hm
   refine wl_ownSpot 0 rfl (fun hsp38 hcm38 => (wl_sliceTo rfl rfl rfl (freshS_eq rfl) rfl rfl rfl rfl tE_27 tS_29 (Nat.le_trans hg38 (by rw [← hcm38.2]; exact hcm38.1)) hsp38 (wP rfl (wl_nil (we_then (wc_keep [2] (S' := [_]) rfl (wc_ret ?_)))))))
   have hE := (Option.some.inj hm).symm
   replace hE := hE.symm
   subst hE
   refine ret_one (Hr := [_]) [0] Tryd.results15 (res_tmp rfl) ⟨j_2_3_p, j_2_3_c, j_2_3_n, rfl, rfl, rfl⟩ (asK [] rfl) rfl rfl (.inl rfl)
theorem w_ropewalkkit_LentExpr_s_b (N : Nat) (rc : Int → Int → Int → ByteArray → Int → Int → (List Api_ExprD) → Option (Int × Int × Int × ByteArray × Int × Int × (List Api_ExprDS) × Nat)) (ih : ∀ (a0 : Int) (a1 : Int) (a2 : Int) (a3 : ByteArray) (a4 : Int) (a5 : Int) (qp0 : Option Addr) (qc1 : Nat) (l6 : List Api_ExprD) (o0 : Int) (o1 : Int) (o2 : Int) (o3 : ByteArray) (o4 : Int) (o5 : Int) (o8 : List Api_ExprDS) (o10 : Nat), rc a0 a1 a2 a3 a4 a5 l6 = some (o0, o1, o2, o3, o4, o5, o8, o10) → Spec Tryd.prog 6 [.agg #[.int .u8 a0, .int .u8 a1, .int .i64 a2, .string a3, .int .i64 a4, .int .u8 a5, .slice qp0 l6.length qc1]] [.sli 7 R_Api_ExprD qp0 qc1 l6] [] (fun v Φr Hr => ∃ (o6 : Option Addr) (o7 : Nat) (o9 : Nat), v = .agg #[.int .u8 o0, .int .u8 o1, .int .i64 o2, .string o3, .int .i64 o4, .int .u8 o5, .slice o6 o10 o7] ∧ Φr = [] ∧ Hr = [.own 29 7 RS_Api_ExprD (.slice o6 o9 o7) o8])) (a0 : Int) (a1 : Int) (a2 : Int) (a3 : ByteArray) (a4 : Int) (a5 : Int) (qp0 : Option Addr) (qc1 : Nat) (l6 : List Api_ExprD) (o0 : Int) (o1 : Int) (o2 : Int) (o3 : ByteArray) (o4 : Int) (o5 : Int) (o8 : List Api_ExprDS) (o10 : Nat) (hm : m_ropewalkkit_LentExpr_b N rc a0 a1 a2 a3 a4 a5 l6 = some (o0, o1, o2, o3, o4, o5, o8, o10)) : Spec Tryd.prog 6 [.agg #[.int .u8 a0, .int .u8 a1, .int .i64 a2, .string a3, .int .i64 a4, .int .u8 a5, .slice qp0 l6.length qc1]] [.sli 7 R_Api_ExprD qp0 qc1 l6] [] (fun v Φr Hr => ∃ (o6 : Option Addr) (o7 : Nat) (o9 : Nat), v = .agg #[.int .u8 o0, .int .u8 o1, .int .i64 o2, .string o3, .int .i64 o4, .int .u8 o5, .slice o6 o10 o7] ∧ Φr = [] ∧ Hr = [.own 29 7 RS_Api_ExprD (.slice o6 o9 o7) o8]) := by
 unfold m_ropewalkkit_LentExpr_b at hm
 refine spec_of Tryd.func6 rfl Tryd.ntmps6 rfl (S := [_]) rfl (fun C => (wc_seq (wc_region (wB rfl (fun g1 => (wl_alloc rfl rfl rfl (freshS_eq rfl) rfl tZ_29 rfl (fun g2 => (wl_nil (we_then (wc_keep [2,1] (S' := [_,_]) rfl (wc_seq (wc_region (wF rfl tF_29_4 (wD 1 6 rfl tS_27 tA_27 rfl ?_))))))))))))))
 obtain ⟨v5, hc5, hm⟩ := bindO_some hm
 refine wC [] [0,1] rfl fn_15 rfl (w_ropewalkkit_LentExprs_v2_s N rc ih qp0 qc1 l6 _ hc5) (asK [0] rfl) rfl (H' := [_,_]) rfl ?_
 rintro _ _ _ ⟨p5_0, c5_1, c5_2, rfl, rfl, rfl⟩
 refine wF rfl tF_29_4 (wS 2 6 rfl tS_27 (all' := [_,_,_,_,_,_,_]) rfl (H' := [_,_,_]) rfl (wl_nil (we_then (wc_keep [2,1] (S' := [_,_]) rfl (wc_seq (wc_region (wl_loadH 2 0 rfl rfl rfl (freshS_eq rfl) rfl rfl rfl (cs := [_,_,_,_,_,_,_]) rfl tS_29 tA_29 rfl rfl (wS 1 0 rfl tS_29 (all' := [_,_,_,_,_,_,_]) rfl (H' := [_,_,_]) rfl (wl_nil (we_then (wc_keep [2] (S' := [_]) rfl (wc_ret ?_))))))))))))
 have hE := (Option.some.inj hm).symm
 obtain ⟨hE0, hF1⟩ := Prod.mk.inj hE
 obtain ⟨hE1, hF2⟩ := Prod.mk.inj hF1
 obtain ⟨hE2, hF3⟩ := Prod.mk.inj hF2
 obtain ⟨hE3, hF4⟩ := Prod.mk.inj hF3
 obtain ⟨hE4, hF5⟩ := Prod.mk.inj hF4
 obtain ⟨hE5, hF6⟩ := Prod.mk.inj hF5
 obtain ⟨hE6, hE7⟩ := Prod.mk.inj hF6
 clear hE hF1 hF2 hF3 hF4 hF5 hF6
 replace hE0 := hE0.symm
 subst hE0
 replace hE1 := hE1.symm
 subst hE1
 replace hE2 := hE2.symm
 subst hE2
 replace hE3 := hE3.symm
 subst hE3
 replace hE4 := hE4.symm
 subst hE4
 replace hE5 := hE5.symm
 subst hE5
 replace hE6 := hE6.symm
 subst hE6
 replace hE7 := hE7.symm
 subst hE7
 refine ret_one (Hr := [_]) [0] Tryd.results6 (res_cell 1 rfl rfl tS_29 tA_29 rfl rfl) ⟨p5_0, c5_1, c5_2, rfl, rfl, rfl⟩ (asK [] rfl) rfl rfl (.inl rfl)
theorem w_ropewalkkit_LentExpr_s : ∀ (N : Nat), ∀ (a0 : Int) (a1 : Int) (a2 : Int) (a3 : ByteArray) (a4 : Int) (a5 : Int) (qp0 : Option Addr) (qc1 : Nat) (l6 : List Api_ExprD) (o0 : Int) (o1 : Int) (o2 : Int) (o3 : ByteArray) (o4 : Int) (o5 : Int) (o8 : List Api_ExprDS) (o10 : Nat), m_ropewalkkit_LentExpr N a0 a1 a2 a3 a4 a5 l6 = some (o0, o1, o2, o3, o4, o5, o8, o10) → Spec Tryd.prog 6 [.agg #[.int .u8 a0, .int .u8 a1, .int .i64 a2, .string a3, .int .i64 a4, .int .u8 a5, .slice qp0 l6.length qc1]] [.sli 7 R_Api_ExprD qp0 qc1 l6] [] (fun v Φr Hr => ∃ (o6 : Option Addr) (o7 : Nat) (o9 : Nat), v = .agg #[.int .u8 o0, .int .u8 o1, .int .i64 o2, .string o3, .int .i64 o4, .int .u8 o5, .slice o6 o10 o7] ∧ Φr = [] ∧ Hr = [.own 29 7 RS_Api_ExprD (.slice o6 o9 o7) o8]) := by
  intro N
  induction N with
  | zero => intro a0 a1 a2 a3 a4 a5 qp0 qc1 l6 o0 o1 o2 o3 o4 o5 o8 o10 hm; cases hm
  | succ N ih => intro a0 a1 a2 a3 a4 a5 qp0 qc1 l6 o0 o1 o2 o3 o4 o5 o8 o10 hm; exact w_ropewalkkit_LentExpr_s_b N (m_ropewalkkit_LentExpr N) ih a0 a1 a2 a3 a4 a5 qp0 qc1 l6 o0 o1 o2 o3 o4 o5 o8 o10 hm
theorem w_ropewalkkit_markValue_s (N : Nat) (a0 : Int) (a1 : Int)  (hm : m_ropewalkkit_markValue N a0 a1 = some ()) : Spec Tryd.prog 16 [.int .i64 a0, .int .i64 a1] [] [] (fun v Φr Hr => v = .agg #[.int .u8 0, .int .i64 (IntKind.wrap .i64 ((IntKind.wrap .i64 (1000003 * (IntKind.wrap .i64 (a0 + 7)))) + a1)), .string ((⟨#[]⟩ : ByteArray))] ∧ Φr = [] ∧ Hr = []) := by
 unfold m_ropewalkkit_markValue at hm
 refine spec_of Tryd.func16 rfl Tryd.ntmps16 rfl (S := [_,_]) rfl (fun C => (wc_seq (wc_region (wl_alloc rfl rfl rfl (freshS_eq rfl) rfl tZ_25 rfl (fun g4 => (wl_nil (we_then (wc_seq (wc_region (wP rfl (wP rfl ?_)))))))))))
 obtain ⟨_, hc7, hm⟩ := bindO_some hm
 try dsimp only at hm
 refine wC [] [0] rfl fn_28 rfl (w_ropewalkkit_mark_s N a0 a1 hc7) (asK [] rfl) rfl (H' := [_]) rfl ?_
 rintro _ _ _ ⟨rfl, rfl, rfl⟩
 refine wl_build rfl rfl rfl (freshS_eq rfl) rfl tZ_25 tP_25 rfl (out := [_,_,_]) rfl (wS 0 0 rfl tS_25 (all' := [_,_,_]) rfl (H' := [_]) rfl (wl_nil (we_then (wc_keep [4] (S' := [_]) rfl (wc_ret ?_)))))
 have hE := (Option.some.inj hm).symm
 refine ret_one (Hr := []) [] Tryd.results16 (res_cell 0 rfl rfl tS_25 tA_25 rfl rfl) ⟨rfl, rfl, rfl⟩ (asK [] rfl) rfl rfl (.inl rfl)
end Go.Proofs.YtohkfpobgjkpdaaDoor
