/- Walks, printed by a program out of the loaded code. -/
import Derived.Test.YtkddfgjefdlaeaaDoorXW3
namespace Go.Proofs.YtkddfgjefdlaeaaDoor
open Go.RowKit
set_option maxRecDepth 100000 in
set_option maxHeartbeats 4000000 in
theorem w_ropewalkref01_reckoned_s (N : Nat) (a0 : Int) (a1 : Int) (a2 : Int) (o0 : Int) (o1 : Bool) (hm : m_ropewalkref01_reckoned N a0 a1 a2 = some (o0, o1)) : Spec Tryd.prog 26 [.int .u8 a0, .int .i64 a1, .int .i64 a2] [tabF Tryd.prog "internal/strconv.uint64pow10" .u64 Lib.pow10Tab 1 pow10_g] [] (fun v Φr Hr => v = .tuple #[.int .i64 o0, .bool o1] ∧ Φr = [] ∧ Hr = []) := by
 unfold m_ropewalkref01_reckoned at hm
 refine spec_of Tryd.func26 rfl Tryd.ntmps26 rfl (S := [_,_,_]) rfl (fun C => ?_)
 refine wc_seq ?_
 refine wc_region ?_
 refine wl_pure rfl rfl rfl (freshS_eq rfl) rfl ?_
 refine wl_pure rfl rfl rfl (freshS_eq rfl) rfl ?_
 refine wl_nil ?_
 refine we_then ?_
 refine wc_keep [0, 1, 2] (S' := [_,_,_]) rfl ?_
 refine wc_seq ?_
 refine wc_seq ?_
 refine wc_region ?_
 refine wl_pure rfl rfl rfl (freshS_eq rfl) rfl ?_
 refine wl_nil ?_
 refine we_then ?_
 refine wc_keep [8, 1, 2] (S' := [_,_,_]) rfl ?_
 refine wc_block ?_
 refine wc_seq ?_
 refine wc_region ?_
 refine wl_pure rfl rfl rfl (freshS_eq rfl) rfl ?_
 refine wl_pure rfl rfl rfl (freshS_eq rfl) rfl ?_
 refine wl_nil ?_
 refine we_then ?_
 refine wc_keep [9, 8, 1, 2] (S' := [_,_,_,_]) rfl ?_
 refine wc_cond rfl (fun hb9 => ?_) (fun hb9 => ?_)
 ·
  replace hm := iteT hm hb9
  refine wc_keep [1, 2] (S' := [_,_]) rfl ?_
  refine wc_seq ?_
  refine wc_region ?_
  refine wl_pure rfl rfl rfl (freshS_eq rfl) rfl ?_
  refine wl_pure rfl rfl rfl (freshS_eq rfl) rfl ?_
  obtain ⟨⟨v13_0, v13_1⟩, hc13, hm⟩ := bindO_some hm
  try dsimp only at hm
  refine wl_call [] [] rfl rfl rfl (freshS_eq rfl) rfl rfl fn_46 rfl (w_ropewalkref01_sum_s N a1 a2 _ _ hc13) (fun _ _ hφ => ask [0] rfl hφ) rfl (H' := []) rfl ?_
  rintro _ _ _ ⟨rfl, rfl, rfl⟩
  refine wl_pure rfl rfl rfl (freshS_eq rfl) rfl ?_
  refine wl_pure rfl rfl rfl (freshS_eq rfl) rfl ?_
  refine wl_pure rfl rfl rfl (freshS_eq rfl) rfl ?_
  refine wl_pure rfl rfl rfl (freshS_eq rfl) rfl ?_
  refine wl_nil ?_
  refine we_then ?_
  refine wc_keep [7, 6] (S' := [_,_]) rfl ?_
  refine wc_ret ?_
  refine we_block_ret ?_
  refine we_then_ret ?_
  have hE := (Option.some.inj hm).symm
  obtain ⟨hE0, hE1⟩ := Prod.mk.inj hE
  clear hE
  replace hE0 := hE0.symm
  subst hE0
  replace hE1 := hE1.symm
  subst hE1
  refine ret_two (Hr := []) [] Tryd.results26 (res_tmp rfl) (res_tmp rfl) ⟨rfl, rfl, rfl⟩ (fun _ _ hφ => ask [] rfl hφ) rfl rfl (.inl rfl)
 ·
  replace hm := iteF hm hb9
  refine wc_keep [8, 1, 2] (S' := [_,_,_]) rfl ?_
  refine wc_seq ?_
  refine wc_region ?_
  refine wl_pure rfl rfl rfl (freshS_eq rfl) rfl ?_
  refine wl_pure rfl rfl rfl (freshS_eq rfl) rfl ?_
  refine wl_nil ?_
  refine we_then ?_
  refine wc_keep [16, 8, 1, 2] (S' := [_,_,_,_]) rfl ?_
  refine wc_cond rfl (fun hb16 => ?_) (fun hb16 => ?_)
  ·
   replace hm := iteT hm hb16
   refine wc_keep [1, 2] (S' := [_,_]) rfl ?_
   refine wc_seq ?_
   refine wc_seq ?_
   refine wc_region ?_
   refine wl_pure rfl rfl rfl (freshS_eq rfl) rfl ?_
   refine wl_pure rfl rfl rfl (freshS_eq rfl) rfl ?_
   refine wl_nil ?_
   refine we_then ?_
   refine wc_keep [19, 1, 2] (S' := [_,_,_]) rfl ?_
   refine wc_cond rfl (fun hb19 => ?_) (fun hb19 => ?_)
   ·
    replace hm := iteT hm hb19
    refine wc_keep [1, 2] (S' := [_,_]) rfl ?_
    refine wc_seq ?_
    refine wc_region ?_
    refine wl_pure rfl rfl rfl (freshS_eq rfl) rfl ?_
    refine wl_pure rfl rfl rfl (freshS_eq rfl) rfl ?_
    refine wl_pure rfl rfl rfl (freshS_eq rfl) rfl ?_
    refine wl_pure rfl rfl rfl (freshS_eq rfl) rfl ?_
    refine wl_pure rfl rfl rfl (freshS_eq rfl) rfl ?_
    refine wl_pure rfl rfl rfl (freshS_eq rfl) rfl ?_
    refine wl_pure rfl rfl rfl (freshS_eq rfl) rfl ?_
    refine wl_nil ?_
    refine we_then ?_
    refine wc_keep [7, 6] (S' := [_,_]) rfl ?_
    refine wc_ret ?_
    refine we_then_ret ?_
    refine we_block_ret ?_
    refine we_then_ret ?_
    have hE := (Option.some.inj hm).symm
    obtain ⟨hE0, hE1⟩ := Prod.mk.inj hE
    clear hE
    replace hE0 := hE0.symm
    subst hE0
    replace hE1 := hE1.symm
    subst hE1
    refine ret_two (Hr := []) [] Tryd.results26 (res_tmp rfl) (res_tmp rfl) ⟨rfl, rfl, rfl⟩ (fun _ _ hφ => ask [] rfl hφ) rfl rfl (.inl rfl)
   ·
    replace hm := iteF hm hb19
    refine wc_keep [1, 2] (S' := [_,_]) rfl ?_
    refine wc_skip ?_
    refine we_then ?_
    refine wc_seq ?_
    refine wc_region ?_
    refine wl_pure rfl rfl rfl (freshS_eq rfl) rfl ?_
    refine wl_pure rfl rfl rfl (freshS_eq rfl) rfl ?_
    refine wl_reck rfl rfl rfl (freshS_eq rfl) (rk_neg rfl rfl) ?_
    obtain ⟨⟨v28_0, v28_1⟩, hc28, hm⟩ := bindO_some hm
    try dsimp only at hm
    refine wl_call [] [] rfl rfl rfl (freshS_eq rfl) rfl rfl fn_46 rfl (w_ropewalkref01_sum_s N a1 (IntKind.wrap .i64 (0 - a2)) _ _ hc28) (fun _ _ hφ => ask [0] rfl hφ) rfl (H' := []) rfl ?_
    rintro _ _ _ ⟨rfl, rfl, rfl⟩
    refine wl_pure rfl rfl rfl (freshS_eq rfl) rfl ?_
    refine wl_pure rfl rfl rfl (freshS_eq rfl) rfl ?_
    refine wl_pure rfl rfl rfl (freshS_eq rfl) rfl ?_
    refine wl_pure rfl rfl rfl (freshS_eq rfl) rfl ?_
    refine wl_nil ?_
    refine we_then ?_
    refine wc_keep [7, 6] (S' := [_,_]) rfl ?_
    refine wc_ret ?_
    refine we_block_ret ?_
    refine we_then_ret ?_
    have hE := (Option.some.inj hm).symm
    obtain ⟨hE0, hE1⟩ := Prod.mk.inj hE
    clear hE
    replace hE0 := hE0.symm
    subst hE0
    replace hE1 := hE1.symm
    subst hE1
    refine ret_two (Hr := []) [] Tryd.results26 (res_tmp rfl) (res_tmp rfl) ⟨rfl, rfl, rfl⟩ (fun _ _ hφ => ask [] rfl hφ) rfl rfl (.inl rfl)
  ·
   replace hm := iteF hm hb16
   refine wc_keep [8, 1, 2] (S' := [_,_,_]) rfl ?_
   refine wc_seq ?_
   refine wc_region ?_
   refine wl_pure rfl rfl rfl (freshS_eq rfl) rfl ?_
   refine wl_pure rfl rfl rfl (freshS_eq rfl) rfl ?_
   refine wl_nil ?_
   refine we_then ?_
   refine wc_keep [31, 1, 2] (S' := [_,_,_]) rfl ?_
   refine wc_cond rfl (fun hb31 => ?_) (fun hb31 => ?_)
   ·
    replace hm := iteT hm hb31
    refine wc_keep [1, 2] (S' := [_,_]) rfl ?_
    refine wc_seq ?_
    refine wc_region ?_
    refine wl_pure rfl rfl rfl (freshS_eq rfl) rfl ?_
    refine wl_pure rfl rfl rfl (freshS_eq rfl) rfl ?_
    obtain ⟨⟨v35_0, v35_1⟩, hc35, hm⟩ := bindO_some hm
    try dsimp only at hm
    refine wl_call [] [] rfl rfl rfl (freshS_eq rfl) rfl rfl fn_47 rfl (w_ropewalkref01_product_s N a1 a2 _ _ hc35) (fun _ _ hφ => ask [0] rfl hφ) rfl (H' := []) rfl ?_
    rintro _ _ _ ⟨rfl, rfl, rfl⟩
    refine wl_pure rfl rfl rfl (freshS_eq rfl) rfl ?_
    refine wl_pure rfl rfl rfl (freshS_eq rfl) rfl ?_
    refine wl_pure rfl rfl rfl (freshS_eq rfl) rfl ?_
    refine wl_pure rfl rfl rfl (freshS_eq rfl) rfl ?_
    refine wl_nil ?_
    refine we_then ?_
    refine wc_keep [7, 6] (S' := [_,_]) rfl ?_
    refine wc_ret ?_
    refine we_block_ret ?_
    refine we_then_ret ?_
    have hE := (Option.some.inj hm).symm
    obtain ⟨hE0, hE1⟩ := Prod.mk.inj hE
    clear hE
    replace hE0 := hE0.symm
    subst hE0
    replace hE1 := hE1.symm
    subst hE1
    refine ret_two (Hr := []) [] Tryd.results26 (res_tmp rfl) (res_tmp rfl) ⟨rfl, rfl, rfl⟩ (fun _ _ hφ => ask [] rfl hφ) rfl rfl (.inl rfl)
   ·
    replace hm := iteF hm hb31
    refine wc_keep [1] (S' := [_]) rfl ?_
    refine wc_skip ?_
    refine we_block_normal ?_
    refine we_then ?_
    refine wc_seq ?_
    refine wc_region ?_
    refine wl_pure rfl rfl rfl (freshS_eq rfl) rfl ?_
    refine wl_reck rfl rfl rfl (freshS_eq rfl) (rk_neg rfl rfl) ?_
    refine wl_pure rfl rfl rfl (freshS_eq rfl) rfl ?_
    refine wl_pure rfl rfl rfl (freshS_eq rfl) rfl ?_
    refine wl_pure rfl rfl rfl (freshS_eq rfl) rfl ?_
    refine wl_pure rfl rfl rfl (freshS_eq rfl) rfl ?_
    refine wl_nil ?_
    refine we_then ?_
    refine wc_keep [7, 6] (S' := [_,_]) rfl ?_
    refine wc_ret ?_
    have hE := (Option.some.inj hm).symm
    obtain ⟨hE0, hE1⟩ := Prod.mk.inj hE
    clear hE
    replace hE0 := hE0.symm
    subst hE0
    replace hE1 := hE1.symm
    subst hE1
    refine ret_two (Hr := []) [] Tryd.results26 (res_tmp rfl) (res_tmp rfl) ⟨rfl, rfl, rfl⟩ (fun _ _ hφ => ask [] rfl hφ) rfl rfl (.inl rfl)
set_option maxRecDepth 100000 in
set_option maxHeartbeats 4000000 in
theorem w_ropewalkref01_Do_s (N : Nat) (a0 : Int) (qp0 : Option Addr) (qn1 : Nat) (qc2 : Nat) (l1 : List V) (o0 : Nat) (o1 : Int) (o2 : Nat) (hm : m_ropewalkref01_Do N a0 l1 = some (o0, o1, o2)) : Spec Tryd.prog 12 [.int .u8 a0, .slice qp0 qn1 qc2] [tabF Tryd.prog "internal/strconv.uint64pow10" .u64 Lib.pow10Tab 1 pow10_g] [.own 29 3 R_V (.slice qp0 qn1 qc2) l1] (fun v Φr Hr => v = .tuple #[.agg #[.int .u8 ((o0 : Nat) : Int), .int .i64 o1, .string ((⟨#[]⟩ : ByteArray))], .int .i64 ((o2 : Nat) : Int)] ∧ Φr = [] ∧ Hr = [.own 29 3 R_V (.slice qp0 qn1 qc2) l1]) := by
 unfold m_ropewalkref01_Do at hm
 refine spec_of Tryd.func12 rfl Tryd.ntmps12 rfl (S := [_,_]) rfl (fun C => ?_)
 refine wc_seq ?_
 refine wc_region ?_
 refine wl_alloc rfl rfl rfl (freshS_eq rfl) rfl tZ_29 rfl (fun g4 => ?_)
 refine wl_pure rfl rfl rfl (freshS_eq rfl) rfl ?_
 refine wl_nil ?_
 refine we_then ?_
 refine wc_keep [4, 0, 1] (S' := [_,_,_]) rfl ?_
 refine wc_seq ?_
 refine wc_region ?_
 refine wl_pure rfl rfl rfl (freshS_eq rfl) rfl ?_
 refine wl_nil ?_
 refine we_then ?_
 refine wc_seq ?_
 obtain ⟨bj_1, hm, hLj_1⟩ := bindO_some hm
 unfold m_ropewalkref01_Do_C1 at hm
 refine wc_cut (σ := Nat) (fun j_1_6 => bj_1 = j_1_6) (fun j_1_6 => [(4, .pointer (some ⟨g4, 0, none⟩)), (0, .int .u8 a0), (1, .slice qp0 qn1 qc2), (6, .int .i64 ((j_1_6 : Nat) : Int))]) (fun j_1_6 => [tabF Tryd.prog "internal/strconv.uint64pow10" .u64 Lib.pow10Tab 1 pow10_g]) (fun j_1_6 => [.blk g4 [.int .u8 0, .int .i64 0, .string ((⟨#[]⟩ : ByteArray))] 29, .own 29 3 R_V (.slice qp0 qn1 qc2) l1]) ?_ ?_
 ·
  refine wc_seq ?_
  obtain ⟨bj_2, hm, hLj_2⟩ := bindO_some hm
  refine wc_cut (σ := Bool) (fun j_2_18 => bj_2 = j_2_18) (fun j_2_18 => [(4, .pointer (some ⟨g4, 0, none⟩)), (0, .int .u8 a0), (1, .slice qp0 qn1 qc2), (6, .int .i64 2), (18, .bool j_2_18)]) (fun j_2_18 => [tabF Tryd.prog "internal/strconv.uint64pow10" .u64 Lib.pow10Tab 1 pow10_g]) (fun j_2_18 => [.blk g4 [.int .u8 0, .int .i64 0, .string ((⟨#[]⟩ : ByteArray))] 29, .own 29 3 R_V (.slice qp0 qn1 qc2) l1]) ?_ ?_
  ·
   refine wc_region ?_
   refine wl_pure rfl rfl rfl (freshS_eq rfl) rfl ?_
   refine wl_pure rfl rfl rfl (freshS_eq rfl) rfl ?_
   refine wl_pure rfl rfl rfl (freshS_eq rfl) rfl ?_
   refine wl_split (d := 15) (S' := [_,_,_,_,_,_]) rfl rfl (fun hs15 => ?_) (fun hs15 => ?_)
   ·
    replace hm := iteT hm hs15
    refine wl_off rfl rfl rfl (freshS_eq rfl) ?_
    refine wl_off rfl rfl rfl (freshS_eq rfl) ?_
    refine wl_pure rfl rfl rfl (freshS_eq rfl) rfl ?_
    refine wl_nil ?_
    have hE := (Option.some.inj hm).symm
    refine we_join true hE [4, 0, 1, 6, 18] rfl (fun _ _ hφ => ask [0] rfl hφ) rfl
   ·
    replace hm := iteF hm hs15
    refine wl_pure rfl rfl rfl (freshS_eq rfl) rfl ?_
    refine wl_pure rfl rfl rfl (freshS_eq rfl) rfl ?_
    refine wl_pure rfl rfl rfl (freshS_eq rfl) rfl ?_
    refine wl_nil ?_
    have hE := (Option.some.inj hm).symm
    refine we_join (a0 == 11) hE [4, 0, 1, 6, 18] rfl (fun _ _ hφ => ask [0] rfl hφ) rfl
  ·
   rintro j_2_18 hE
   try dsimp only
   have hm := hLj_2
   rw [hE] at hm
   refine wc_cond rfl (fun hb18 => ?_) (fun hb18 => ?_)
   ·
    replace hm := iteT hm hb18
    refine wc_keep [4, 0, 1] (S' := [_,_,_]) rfl ?_
    refine wc_region ?_
    refine wl_pure rfl rfl rfl (freshS_eq rfl) rfl ?_
    refine wl_nil ?_
    have hE := (Option.some.inj hm).symm
    refine we_join 1 hE [4, 0, 1, 6] rfl (fun _ _ hφ => ask [0] rfl hφ) rfl
   ·
    replace hm := iteF hm hb18
    refine wc_keep [4, 0, 1, 6] (S' := [_,_,_,_]) rfl ?_
    refine wc_skip ?_
    have hE := (Option.some.inj hm).symm
    refine we_join 2 hE [4, 0, 1, 6] rfl (fun _ _ hφ => ask [0] rfl hφ) rfl
 ·
  rintro j_1_6 hE
  try dsimp only
  have hm := hLj_1
  rw [hE] at hm
  refine wc_seq ?_
  refine wc_seq ?_
  obtain ⟨bj_3, hm, hLj_3⟩ := bindO_some hm
  refine wc_cut (σ := Bool) (fun j_3_30 => bj_3 = j_3_30) (fun j_3_30 => [(4, .pointer (some ⟨g4, 0, none⟩)), (0, .int .u8 a0), (1, .slice qp0 qn1 qc2), (30, .bool j_3_30)]) (fun j_3_30 => [tabF Tryd.prog "internal/strconv.uint64pow10" .u64 Lib.pow10Tab 1 pow10_g]) (fun j_3_30 => [.blk g4 [.int .u8 0, .int .i64 0, .string ((⟨#[]⟩ : ByteArray))] 29, .own 29 3 R_V (.slice qp0 qn1 qc2) l1]) ?_ ?_
  ·
   refine wc_region ?_
   refine wl_pure rfl rfl rfl (freshS_eq rfl) rfl ?_
   refine wl_pure rfl rfl rfl (freshS_eq rfl) rfl ?_
   refine wl_pure rfl rfl rfl (freshS_eq rfl) rfl ?_
   refine wl_split (d := 21) (S' := [_,_,_,_,_,_]) rfl rfl (fun hs21 => ?_) (fun hs21 => ?_)
   ·
    replace hm := iteT hm hs21
    refine wl_off rfl rfl rfl (freshS_eq rfl) ?_
    refine wl_off rfl rfl rfl (freshS_eq rfl) ?_
    refine wl_pure rfl rfl rfl (freshS_eq rfl) rfl ?_
    refine wl_pure rfl rfl rfl (freshS_eq rfl) rfl ?_
    refine wl_off rfl rfl rfl (freshS_eq rfl) ?_
    refine wl_off rfl rfl rfl (freshS_eq rfl) ?_
    refine wl_off rfl rfl rfl (freshS_eq rfl) ?_
    refine wl_off rfl rfl rfl (freshS_eq rfl) ?_
    refine wl_pure rfl rfl rfl (freshS_eq rfl) rfl ?_
    refine wl_nil ?_
    have hE := (Option.some.inj hm).symm
    refine we_join true hE [4, 0, 1, 30] rfl (fun _ _ hφ => ask [0] rfl hφ) rfl
   ·
    replace hm := iteF hm hs21
    refine wl_pure rfl rfl rfl (freshS_eq rfl) rfl ?_
    refine wl_pure rfl rfl rfl (freshS_eq rfl) rfl ?_
    refine wl_pure rfl rfl rfl (freshS_eq rfl) rfl ?_
    refine wl_pure rfl rfl rfl (freshS_eq rfl) rfl ?_
    refine wl_split (d := 25) (S' := [_,_,_,_,_,_,_,_,_,_]) rfl rfl (fun hs25 => ?_) (fun hs25 => ?_)
    ·
     replace hm := iteT hm hs25
     refine wl_off rfl rfl rfl (freshS_eq rfl) ?_
     refine wl_off rfl rfl rfl (freshS_eq rfl) ?_
     refine wl_off rfl rfl rfl (freshS_eq rfl) ?_
     refine wl_off rfl rfl rfl (freshS_eq rfl) ?_
     refine wl_pure rfl rfl rfl (freshS_eq rfl) rfl ?_
     refine wl_nil ?_
     have hE := (Option.some.inj hm).symm
     refine we_join true hE [4, 0, 1, 30] rfl (fun _ _ hφ => ask [0] rfl hφ) rfl
    ·
     replace hm := iteF hm hs25
     refine wl_pure rfl rfl rfl (freshS_eq rfl) rfl ?_
     refine wl_ownLen 1 rfl (fun hl27 _ => ?_)
     refine wl_len rfl rfl rfl (freshS_eq rfl) rfl rfl tE_23 ?_
     refine wl_as (d := 27) (v' := .int .i64 ((l1.length : Nat) : Int)) (S' := [_,_,_,_,_,_,_,_,_,_,_,_]) rfl rfl (len_is hl27) ?_
     refine wl_pure rfl rfl rfl (freshS_eq rfl) rfl ?_
     refine wl_pure rfl rfl rfl (freshS_eq rfl) rfl ?_
     refine wl_as (d := 29) (v' := .bool (l1.length != j_1_6)) (S' := [_,_,_,_,_,_,_,_,_,_,_,_,_,_]) rfl rfl (natne (a := l1.length) (b := j_1_6)) ?_
     refine wl_pure rfl rfl rfl (freshS_eq rfl) rfl ?_
     refine wl_nil ?_
     have hE := (Option.some.inj hm).symm
     refine we_join (l1.length != j_1_6) hE [4, 0, 1, 30] rfl (fun _ _ hφ => ask [0] rfl hφ) rfl
  ·
   rintro j_3_30 hE
   try dsimp only
   have hm := hLj_3
   rw [hE] at hm
   refine wc_cond rfl (fun hb30 => ?_) (fun hb30 => ?_)
   ·
    replace hm := iteT hm hb30
    refine wc_keep [4] (S' := [_]) rfl ?_
    refine wc_seq ?_
    refine wc_region ?_
    refine wl_build rfl rfl rfl (freshS_eq rfl) rfl tZ_29 tP_29 rfl (out := [_,_,_]) rfl ?_
    refine wl_store 0 0 rfl rfl rfl rfl rfl rfl rfl tS_29 rfl rfl rfl (all' := [_,_,_]) rfl (H' := [_,_]) rfl ?_
    refine wl_pure rfl rfl rfl (freshS_eq rfl) rfl ?_
    refine wl_nil ?_
    refine we_then ?_
    refine wc_keep [5, 4] (S' := [_,_]) rfl ?_
    refine wc_ret ?_
    refine we_then_ret ?_
    have hE := (Option.some.inj hm).symm
    obtain ⟨hE0, hF1⟩ := Prod.mk.inj hE
    obtain ⟨hE1, hE2⟩ := Prod.mk.inj hF1
    clear hE hF1
    replace hE0 := hE0.symm
    subst hE0
    replace hE1 := hE1.symm
    subst hE1
    replace hE2 := hE2.symm
    subst hE2
    refine ret_two (Hr := [_]) [1] Tryd.results12 (res_cell 0 rfl rfl tS_29 tA_29 rfl rfl) (res_tmp rfl) ⟨rfl, rfl, rfl⟩ (fun _ _ hφ => ask [] rfl hφ) rfl rfl (.inl rfl)
   ·
    replace hm := iteF hm hb30
    refine wc_keep [4, 0, 1] (S' := [_,_,_]) rfl ?_
    refine wc_skip ?_
    refine we_then ?_
    refine wc_seq ?_
    refine wc_region ?_
    refine wl_pure rfl rfl rfl (freshS_eq rfl) rfl ?_
    refine wl_nil ?_
    refine we_then ?_
    refine wc_seq ?_
    obtain ⟨bj_4, hm, hLj_4⟩ := bindS_some hm
    refine wc_cut (σ := Bool) (fun j_4_7 => bj_4 = .inl j_4_7) (fun j_4_7 => [(4, .pointer (some ⟨g4, 0, none⟩)), (0, .int .u8 a0), (1, .slice qp0 qn1 qc2), (7, .bool j_4_7)]) (fun j_4_7 => [tabF Tryd.prog "internal/strconv.uint64pow10" .u64 Lib.pow10Tab 1 pow10_g]) (fun j_4_7 => [.blk g4 [.int .u8 0, .int .i64 0, .string ((⟨#[]⟩ : ByteArray))] 29, .own 29 3 R_V (.slice qp0 qn1 qc2) l1]) ?_ ?_
    ·
     refine wc_seq ?_
     refine wc_region ?_
     refine wl_pure rfl rfl rfl (freshS_eq rfl) rfl ?_
     refine wl_nil ?_
     refine we_then ?_
     refine wc_block ?_
     refine wc_loop (σ := Nat × Nat × Bool) (fun (nu1, u1_8, u1_7) => iter (m_ropewalkref01_Do_L1 N l1) nu1 (u1_8, u1_7) = some bj_4) (fun (nu1, u1_8, u1_7) => nu1) (fun (nu1, u1_8, u1_7) => [(8, .int .i64 ((u1_8 : Nat) : Int)), (7, .bool u1_7), (4, .pointer (some ⟨g4, 0, none⟩)), (0, .int .u8 a0), (1, .slice qp0 qn1 qc2)]) (fun (nu1, u1_8, u1_7) => [tabF Tryd.prog "internal/strconv.uint64pow10" .u64 Lib.pow10Tab 1 pow10_g]) (fun (nu1, u1_8, u1_7) => [.blk g4 [.int .u8 0, .int .i64 0, .string ((⟨#[]⟩ : ByteArray))] 29, .own 29 3 R_V (.slice qp0 qn1 qc2) l1]) (N, 0, false) hm [8, 7, 4, 0, 1] rfl (fun _ _ hφ => ask [0] rfl hφ) rfl (fun s_ hm => ?_)
     obtain ⟨nu1, u1_8, u1_7⟩ := s_
     try dsimp only at hm ⊢
     obtain ⟨mu1, bu1, hnu1, hq, hLu1⟩ := iter_some hm
     clear hm
     subst hnu1
     replace hm := hq
     clear hq
     unfold m_ropewalkref01_Do_L1 at hm
     try dsimp only at hm
     refine wc_seq ?_
     refine wc_seq ?_
     refine wc_region ?_
     refine wl_pure rfl rfl rfl (freshS_eq rfl) rfl ?_
     refine wl_pure rfl rfl rfl (freshS_eq rfl) rfl ?_
     refine wl_ownLen 1 rfl (fun hl34 _ => ?_)
     refine wl_len rfl rfl rfl (freshS_eq rfl) rfl rfl tE_23 ?_
     refine wl_as (d := 34) (v' := .int .i64 ((l1.length : Nat) : Int)) (S' := [_,_,_,_,_,_,_]) rfl rfl (len_is hl34) ?_
     refine wl_pure rfl rfl rfl (freshS_eq rfl) rfl ?_
     refine wl_as (d := 35) (v' := .bool (decide (u1_8 < l1.length))) (S' := [_,_,_,_,_,_,_,_]) rfl rfl (natlt (a := u1_8) (b := l1.length)) ?_
     refine wl_nil ?_
     refine we_then ?_
     refine wc_keep [35, 8, 7, 4, 0, 1] (S' := [_,_,_,_,_,_]) rfl ?_
     refine wc_cond rfl (fun hb35 => ?_) (fun hb35 => ?_)
     ·
      replace hm := iteT hm hb35
      refine wc_keep [8, 7, 4, 0, 1] (S' := [_,_,_,_,_]) rfl ?_
      refine wc_skip ?_
      refine we_then ?_
      refine wc_seq ?_
      obtain ⟨bj_5, hm, hLj_5⟩ := bindS_some hm
      unfold m_ropewalkref01_Do_C5 at hm
      refine wc_cut (σ := Bool) (fun j_5_7 => bj_5 = .inl j_5_7) (fun j_5_7 => [(8, .int .i64 ((u1_8 : Nat) : Int)), (7, .bool j_5_7), (4, .pointer (some ⟨g4, 0, none⟩)), (0, .int .u8 a0), (1, .slice qp0 qn1 qc2)]) (fun j_5_7 => [tabF Tryd.prog "internal/strconv.uint64pow10" .u64 Lib.pow10Tab 1 pow10_g]) (fun j_5_7 => [.blk g4 [.int .u8 0, .int .i64 0, .string ((⟨#[]⟩ : ByteArray))] 29, .own 29 3 R_V (.slice qp0 qn1 qc2) l1]) ?_ ?_
      ·
       refine wc_block ?_
       refine wc_seq ?_
       refine wc_seq ?_
       refine wc_region ?_
       refine wl_pure rfl rfl rfl (freshS_eq rfl) rfl ?_
       refine wl_pure rfl rfl rfl (freshS_eq rfl) rfl ?_
       obtain ⟨x40, hx40, hm⟩ := bindO_some hm
       refine wl_indexH 1 u1_8 rfl rfl rfl (freshS_eq rfl) rfl rfl rfl rfl rfl (get_lt hx40) tE_23 tS_29 (fun g40 eg40 => ?_)
       subst eg40
       refine wl_loadRow R_V_opens 1 u1_8 0 rfl rfl rfl (freshS_eq rfl) rfl rfl rfl hx40 tS_29 tA_29 (v := fun _ => .agg #[.int .u8 (x40.k), .int .i64 (x40.n), .string x40.s]) (fun _ => rfl) (fun _ => rfl) (fun _ _ => ?_)
       obtain ⟨v42, hc42, hm⟩ := bindO_some hm
       refine wl_call [] [0, 1] rfl rfl rfl (freshS_eq rfl) rfl rfl fn_16 rfl (w_ropewalkref01_Right_s N x40.k x40.n x40.s _ hc42) (fun _ _ hφ => ask [0] rfl hφ) rfl (H' := [_,_]) rfl ?_
       rintro _ _ _ ⟨rfl, rfl, rfl⟩
       refine wl_pure rfl rfl rfl (freshS_eq rfl) rfl ?_
       refine wl_nil ?_
       refine we_then ?_
       refine wc_keep [43, 8, 7, 4, 0, 1] (S' := [_,_,_,_,_,_]) rfl ?_
       refine wc_cond rfl (fun hb43 => ?_) (fun hb43 => ?_)
       ·
        replace hm := iteT hm hb43
        refine wc_keep [4] (S' := [_]) rfl ?_
        refine wc_seq ?_
        refine wc_region ?_
        refine wl_build rfl rfl rfl (freshS_eq rfl) rfl tZ_29 tP_29 rfl (out := [_,_,_]) rfl ?_
        refine wl_store 0 0 rfl rfl rfl rfl rfl rfl rfl tS_29 rfl rfl rfl (all' := [_,_,_]) rfl (H' := [_,_]) rfl ?_
        refine wl_pure rfl rfl rfl (freshS_eq rfl) rfl ?_
        refine wl_nil ?_
        refine we_then ?_
        refine wc_keep [5, 4] (S' := [_,_]) rfl ?_
        refine wc_ret ?_
        refine we_then_ret ?_
        refine we_block_ret ?_
        refine we_then_ret ?_
        refine we_then_ret ?_
        refine we_block_ret ?_
        refine we_then_ret ?_
        have hE := (Option.some.inj hm).symm
        replace hE := link_inr hLj_5 hE
        replace hE := link_inr hLu1 hE
        replace hE := link_inr hLj_4 hE
        obtain ⟨hE0, hF1⟩ := Prod.mk.inj hE
        obtain ⟨hE1, hE2⟩ := Prod.mk.inj hF1
        clear hE hF1
        replace hE0 := hE0.symm
        subst hE0
        replace hE1 := hE1.symm
        subst hE1
        replace hE2 := hE2.symm
        subst hE2
        refine ret_two (Hr := [_]) [1] Tryd.results12 (res_cell 0 rfl rfl tS_29 tA_29 rfl rfl) (res_tmp rfl) ⟨rfl, rfl, rfl⟩ (fun _ _ hφ => ask [] rfl hφ) rfl rfl (.inl rfl)
       ·
        replace hm := iteF hm hb43
        refine wc_keep [8, 7, 4, 0, 1] (S' := [_,_,_,_,_]) rfl ?_
        refine wc_skip ?_
        refine we_then ?_
        refine wc_region ?_
        refine wl_pure rfl rfl rfl (freshS_eq rfl) rfl ?_
        refine wl_pure rfl rfl rfl (freshS_eq rfl) rfl ?_
        refine wl_split (d := 46) (S' := [_,_,_,_,_,_]) rfl rfl (fun hs46 => ?_) (fun hs46 => ?_)
        ·
         replace hm := iteT hm hs46
         refine wl_off rfl rfl rfl (freshS_eq rfl) ?_
         refine wl_off rfl rfl rfl (freshS_eq rfl) ?_
         refine wl_off rfl rfl rfl (freshS_eq rfl) ?_
         refine wl_off rfl rfl rfl (freshS_eq rfl) ?_
         refine wl_off rfl rfl rfl (freshS_eq rfl) ?_
         refine wl_off rfl rfl rfl (freshS_eq rfl) ?_
         refine wl_pure rfl rfl rfl (freshS_eq rfl) rfl ?_
         refine wl_pure (S' := [_,_,_,_,_,_,_,_,_,_,_,_,_]) rfl rfl rfl rfl rfl ?_
         refine wl_nil ?_
         refine we_block_normal ?_
         have hE := (Option.some.inj hm).symm
         refine we_join true hE [8, 7, 4, 0, 1] rfl (fun _ _ hφ => ask [0] rfl hφ) rfl
        ·
         replace hm := iteF hm hs46
         refine wl_pure rfl rfl rfl (freshS_eq rfl) rfl ?_
         refine wl_pure rfl rfl rfl (freshS_eq rfl) rfl ?_
         obtain ⟨x49, hx49, hm⟩ := bindO_some hm
         refine wl_indexK 1 u1_8 rfl rfl rfl (freshS_eq rfl) rfl rfl rfl rfl rfl (get_lt hx49) tE_23 tS_29 ?_
         refine wl_fieldAddr rfl rfl rfl (freshS_eq rfl) rfl rfl tF_29_0 ?_
         refine wl_loadRow R_V_opens 1 u1_8 0 rfl rfl rfl (freshS_eq rfl) rfl rfl rfl hx49 tS_27 tA_27 (v := fun _ => .int .u8 (x49.k)) (fun _ => rfl) (fun _ => rfl) (fun _ _ => ?_)
         refine wl_pure rfl rfl rfl (freshS_eq rfl) rfl ?_
         refine wl_pure rfl rfl rfl (freshS_eq rfl) rfl ?_
         refine wl_pure (S' := [_,_,_,_,_,_,_,_,_,_,_,_,_]) rfl rfl rfl rfl rfl ?_
         refine wl_nil ?_
         refine we_block_normal ?_
         have hE := (Option.some.inj hm).symm
         refine we_join (x49.k == 2) hE [8, 7, 4, 0, 1] rfl (fun _ _ hφ => ask [0] rfl hφ) rfl
      ·
       rintro j_5_7 hE
       try dsimp only
       have hm := link_inl hLj_5 hE
       refine wc_region ?_
       refine wl_pure rfl rfl rfl (freshS_eq rfl) rfl ?_
       refine wl_pure rfl rfl rfl (freshS_eq rfl) rfl ?_
       obtain ⟨hg37, hm⟩ := gd_some hm
       refine wl_as (d := 37) (v' := .int .i64 ((u1_8 + 1 : Nat) : Int)) (S' := [_,_,_,_,_,_]) rfl rfl (nat_add (a := u1_8) (b := 1) hg37) ?_
       refine wl_pure (S' := [_,_,_,_,_,_]) rfl rfl rfl rfl rfl ?_
       refine wl_nil ?_
       have hE := (Option.some.inj hm).symm
       replace hE := link_inl hLu1 hE
       refine we_roundK (_, u1_8 + 1, j_5_7) (Nat.lt_succ_self _) hE [8, 7, 4, 0, 1] rfl (fun _ _ hφ => ask [0] rfl hφ) rfl
     ·
      replace hm := iteF hm hb35
      refine wc_keep [7, 4, 0, 1] (S' := [_,_,_,_]) rfl ?_
      refine wc_exit ?_
      refine we_then_exit ?_
      refine we_then_exit ?_
      refine we_block_hit ?_
      have hE := (Option.some.inj hm).symm
      replace hE := link_inr hLu1 hE
      refine we_join u1_7 hE [4, 0, 1, 7] rfl (fun _ _ hφ => ask [0] rfl hφ) rfl
    ·
     rintro j_4_7 hE
     try dsimp only
     have hm := link_inl hLj_4 hE
     refine wc_seq ?_
     obtain ⟨x55, hx55, hm⟩ := bindO_some hm
     obtain ⟨hg60, hm⟩ := gd_some hm
     obtain ⟨hn61, hm⟩ := gd_some hm
     obtain ⟨x61, hx61, hm⟩ := bindO_some hm
     refine wc_cut (σ := Nat × Nat) (fun _ => True) (fun (w_6_10_g, w_6_9_g) => [(10, .pointer (some ⟨w_6_10_g, 0, none⟩)), (9, .pointer (some ⟨w_6_9_g, 0, none⟩)), (4, .pointer (some ⟨g4, 0, none⟩)), (0, .int .u8 a0), (7, .bool j_4_7)]) (fun (w_6_10_g, w_6_9_g) => [tabF Tryd.prog "internal/strconv.uint64pow10" .u64 Lib.pow10Tab 1 pow10_g]) (fun (w_6_10_g, w_6_9_g) => [.blk w_6_10_g [.int .u8 (x61.k), .int .i64 (x61.n), .string x61.s] 29, .blk w_6_9_g [.int .u8 (x55.k), .int .i64 (x55.n), .string x55.s] 29, .blk g4 [.int .u8 0, .int .i64 0, .string ((⟨#[]⟩ : ByteArray))] 29, .own 29 3 R_V (.slice qp0 qn1 qc2) l1]) ?_ ?_
     ·
      refine wc_draw [0, 1, 2, 3, 4, 5, 6, 7, 8] rfl rfl (fun hok => ?_)
      refine wx_pure hok 0 rfl rfl rfl (freshS_eq rfl) rfl rfl ?_
      refine wx_indexH hok 1 1 0 rfl rfl rfl (freshS_eq rfl) rfl rfl rfl rfl rfl rfl (get_lt hx55) tE_23 tS_29 (fun g55 eg55 => ?_)
      subst eg55
      refine wx_loadRow hok 2 R_V_opens 1 0 0 rfl rfl rfl (freshS_eq rfl) rfl rfl rfl rfl hx55 tS_29 tA_29 (v := .agg #[.int .u8 (x55.k), .int .i64 (x55.n), .string x55.s]) rfl rfl (fun _ => ?_)
      refine wx_pure hok 3 rfl rfl rfl (freshS_eq rfl) rfl rfl ?_
      refine wx_pure hok 4 rfl rfl rfl (freshS_eq rfl) rfl rfl ?_
      refine wx_ownLen 1 rfl (fun hl59 _ => ?_)
      refine wx_len hok 5 rfl rfl rfl (freshS_eq rfl) rfl rfl rfl tE_23 ?_
      refine wx_as (d := 59) (v' := .int .i64 ((l1.length : Nat) : Int)) (S' := [_,_,_,_,_,_,_,_,_]) rfl rfl (len_is hl59) ?_
      refine wx_pure hok 6 rfl rfl rfl (freshS_eq rfl) rfl rfl ?_
      refine wx_as (d := 60) (v' := .int .i64 (((l1.length : Nat) : Int) - 1)) (S' := [_,_,_,_,_,_,_,_,_,_]) rfl rfl (i64_in hg60) ?_
      refine wx_indexK hok 7 1 ((((l1.length : Nat) : Int) - 1).toNat) rfl rfl rfl (freshS_eq rfl) rfl rfl rfl rfl rfl (toNat_eq hn61) (get_lt hx61) tE_23 tS_29 ?_
      refine wx_loadRow hok 8 R_V_opens 1 ((((l1.length : Nat) : Int) - 1).toNat) 0 rfl rfl rfl (freshS_eq rfl) rfl rfl rfl rfl hx61 tS_29 tA_29 (v := .agg #[.int .u8 (x61.k), .int .i64 (x61.n), .string x61.s]) rfl rfl (fun _ => ?_)
      refine wx_step2 hok 9 10 rfl rfl rfl rfl rfl rfl ?_ ?_
      ·
       refine wl_alloc rfl rfl rfl (freshS_eq rfl) rfl tZ_29 rfl (fun g9 => ?_)
       refine wl_nil ?_
       refine we_x [0] [2, 2] rfl rfl ?_
       refine wx_step1 hok 10 rfl rfl rfl rfl ?_
       refine wl_alloc rfl rfl rfl (freshS_eq rfl) rfl tZ_29 rfl (fun g10 => ?_)
       refine wl_nil ?_
       refine we_x [0] [3, 3] rfl rfl ?_
       refine wx_step1 hok 11 rfl rfl rfl rfl ?_
       refine wl_store 1 0 rfl rfl rfl rfl rfl rfl rfl tS_29 rfl rfl rfl (all' := [_,_,_]) rfl (H' := [_,_,_,_]) rfl ?_
       refine wl_nil ?_
       refine we_x [0] [3] rfl rfl ?_
       refine wx_step1 hok 12 rfl rfl rfl rfl ?_
       refine wl_store 0 0 rfl rfl rfl rfl rfl rfl rfl tS_29 rfl rfl rfl (all' := [_,_,_]) rfl (H' := [_,_,_,_]) rfl ?_
       refine wl_nil ?_
       refine we_x [0] [] rfl rfl ?_
       refine wx_done hok rfl ?_
       refine we_join (g10, g9) trivial [10, 9, 4, 0, 7] rfl (fun _ _ hφ => ask [0] rfl hφ) rfl
      ·
       refine wl_alloc rfl rfl rfl (freshS_eq rfl) rfl tZ_29 rfl (fun g10 => ?_)
       refine wl_nil ?_
       refine we_x [0] [2, 2] rfl rfl ?_
       refine wx_step1 hok 9 rfl rfl rfl rfl ?_
       refine wl_alloc rfl rfl rfl (freshS_eq rfl) rfl tZ_29 rfl (fun g9 => ?_)
       refine wl_nil ?_
       refine we_x [0] [3, 3] rfl rfl ?_
       refine wx_step1 hok 11 rfl rfl rfl rfl ?_
       refine wl_store 0 0 rfl rfl rfl rfl rfl rfl rfl tS_29 rfl rfl rfl (all' := [_,_,_]) rfl (H' := [_,_,_,_]) rfl ?_
       refine wl_nil ?_
       refine we_x [0] [3] rfl rfl ?_
       refine wx_step1 hok 12 rfl rfl rfl rfl ?_
       refine wl_store 1 0 rfl rfl rfl rfl rfl rfl rfl tS_29 rfl rfl rfl (all' := [_,_,_]) rfl (H' := [_,_,_,_]) rfl ?_
       refine wl_nil ?_
       refine we_x [0] [] rfl rfl ?_
       refine wx_done hok rfl ?_
       refine we_pick [1, 0, 2, 3] rfl (H' := [_,_,_,_]) rfl ?_
       refine we_join (g10, g9) trivial [10, 9, 4, 0, 7] rfl (fun _ _ hφ => ask [0] rfl hφ) rfl
     ·
      rintro ⟨w_6_10_g, w_6_9_g⟩ _
      try dsimp only
      refine wc_seq ?_
      refine wc_seq ?_
      obtain ⟨bj_7, hm, hLj_7⟩ := bindO_some hm
      refine wc_cut (σ := Bool) (fun j_7_68 => bj_7 = j_7_68) (fun j_7_68 => [(10, .pointer (some ⟨w_6_10_g, 0, none⟩)), (9, .pointer (some ⟨w_6_9_g, 0, none⟩)), (4, .pointer (some ⟨g4, 0, none⟩)), (0, .int .u8 a0), (7, .bool j_4_7), (68, .bool j_7_68)]) (fun j_7_68 => [tabF Tryd.prog "internal/strconv.uint64pow10" .u64 Lib.pow10Tab 1 pow10_g]) (fun j_7_68 => [.blk w_6_10_g [.int .u8 (x61.k), .int .i64 (x61.n), .string x61.s] 29, .blk w_6_9_g [.int .u8 (x55.k), .int .i64 (x55.n), .string x55.s] 29, .blk g4 [.int .u8 0, .int .i64 0, .string ((⟨#[]⟩ : ByteArray))] 29, .own 29 3 R_V (.slice qp0 qn1 qc2) l1]) ?_ ?_
      ·
       refine wc_region ?_
       refine wl_pure rfl rfl rfl (freshS_eq rfl) rfl ?_
       refine wl_pure rfl rfl rfl (freshS_eq rfl) rfl ?_
       refine wl_pure rfl rfl rfl (freshS_eq rfl) rfl ?_
       refine wl_split (d := 65) (S' := [_,_,_,_,_,_,_]) rfl rfl (fun hs65 => ?_) (fun hs65 => ?_)
       ·
        replace hm := iteT hm hs65
        refine wl_off rfl rfl rfl (freshS_eq rfl) ?_
        refine wl_off rfl rfl rfl (freshS_eq rfl) ?_
        refine wl_pure rfl rfl rfl (freshS_eq rfl) rfl ?_
        refine wl_nil ?_
        have hE := (Option.some.inj hm).symm
        refine we_join true hE [10, 9, 4, 0, 7, 68] rfl (fun _ _ hφ => ask [0] rfl hφ) rfl
       ·
        replace hm := iteF hm hs65
        refine wl_pure rfl rfl rfl (freshS_eq rfl) rfl ?_
        refine wl_pure rfl rfl rfl (freshS_eq rfl) rfl ?_
        refine wl_pure rfl rfl rfl (freshS_eq rfl) rfl ?_
        refine wl_nil ?_
        have hE := (Option.some.inj hm).symm
        refine we_join (a0 == 6) hE [10, 9, 4, 0, 7, 68] rfl (fun _ _ hφ => ask [0] rfl hφ) rfl
      ·
       rintro j_7_68 hE
       try dsimp only
       have hm := hLj_7
       rw [hE] at hm
       refine wc_cond rfl (fun hb68 => ?_) (fun hb68 => ?_)
       ·
        replace hm := iteT hm hb68
        refine wc_keep [10, 9, 4, 0] (S' := [_,_,_,_]) rfl ?_
        refine wc_seq ?_
        refine wc_region ?_
        refine wl_loadH 1 0 rfl rfl rfl (freshS_eq rfl) rfl rfl rfl (cs := [_,_,_]) rfl tS_29 tA_29 rfl rfl ?_
        refine wl_loadH 0 0 rfl rfl rfl (freshS_eq rfl) rfl rfl rfl (cs := [_,_,_]) rfl tS_29 tA_29 rfl rfl ?_
        refine wl_bin rfl rfl rfl (freshS_eq rfl) rfl rfl rfl (eqlV _ _ x55 x61) ?_
        refine wl_pure rfl rfl rfl (freshS_eq rfl) rfl ?_
        refine wl_pure rfl rfl rfl (freshS_eq rfl) rfl ?_
        refine wl_bin rfl rfl rfl (freshS_eq rfl) rfl rfl rfl (eqlB _ _ (decide (x55 = x61)) (a0 == 5)) ?_
        obtain ⟨v75, hc75, hm⟩ := bindO_some hm
        refine wl_call [] [0, 1, 2, 3] rfl rfl rfl (freshS_eq rfl) rfl rfl fn_22 rfl (w_ropewalkref01_Truth_s N ((decide (x55 = x61)) == (a0 == 5)) _ hc75) (fun _ _ hφ => ask [0] rfl hφ) rfl (H' := [_,_,_,_]) rfl ?_
        rintro _ _ _ ⟨rfl, rfl, rfl⟩
        refine wl_store 2 0 rfl rfl rfl rfl rfl rfl rfl tS_29 rfl rfl rfl (all' := [_,_,_]) rfl (H' := [_,_,_,_]) rfl ?_
        refine wl_pure rfl rfl rfl (freshS_eq rfl) rfl ?_
        refine wl_nil ?_
        refine we_then ?_
        refine wc_keep [5, 4] (S' := [_,_]) rfl ?_
        refine wc_ret ?_
        refine we_then_ret ?_
        have hE := (Option.some.inj hm).symm
        obtain ⟨hE0, hF1⟩ := Prod.mk.inj hE
        obtain ⟨hE1, hE2⟩ := Prod.mk.inj hF1
        clear hE hF1
        replace hE0 := hE0.symm
        subst hE0
        replace hE1 := hE1.symm
        subst hE1
        replace hE2 := hE2.symm
        subst hE2
        refine ret_two (Hr := [_]) [3] Tryd.results12 (res_cell 2 rfl rfl tS_29 tA_29 rfl rfl) (res_tmp rfl) ⟨rfl, rfl, rfl⟩ (fun _ _ hφ => ask [] rfl hφ) rfl rfl (.inl rfl)
       ·
        replace hm := iteF hm hb68
        refine wc_keep [10, 9, 4, 0, 7] (S' := [_,_,_,_,_]) rfl ?_
        refine wc_skip ?_
        refine we_then ?_
        refine wc_seq ?_
        refine wc_seq ?_
        refine wc_region ?_
        refine wl_pure rfl rfl rfl (freshS_eq rfl) rfl ?_
        refine wl_nil ?_
        refine we_then ?_
        refine wc_keep [76, 10, 9, 4, 0] (S' := [_,_,_,_,_]) rfl ?_
        refine wc_cond rfl (fun hb76 => ?_) (fun hb76 => ?_)
        ·
         replace hm := iteT hm hb76
         refine wc_keep [4] (S' := [_]) rfl ?_
         refine wc_seq ?_
         refine wc_region ?_
         refine wl_build rfl rfl rfl (freshS_eq rfl) rfl tZ_29 tP_29 rfl (out := [_,_,_]) rfl ?_
         refine wl_store 2 0 rfl rfl rfl rfl rfl rfl rfl tS_29 rfl rfl rfl (all' := [_,_,_]) rfl (H' := [_,_,_,_]) rfl ?_
         refine wl_pure rfl rfl rfl (freshS_eq rfl) rfl ?_
         refine wl_nil ?_
         refine we_then ?_
         refine wc_keep [5, 4] (S' := [_,_]) rfl ?_
         refine wc_ret ?_
         refine we_then_ret ?_
         have hE := (Option.some.inj hm).symm
         obtain ⟨hE0, hF1⟩ := Prod.mk.inj hE
         obtain ⟨hE1, hE2⟩ := Prod.mk.inj hF1
         clear hE hF1
         replace hE0 := hE0.symm
         subst hE0
         replace hE1 := hE1.symm
         subst hE1
         replace hE2 := hE2.symm
         subst hE2
         refine ret_two (Hr := [_]) [3] Tryd.results12 (res_cell 2 rfl rfl tS_29 tA_29 rfl rfl) (res_tmp rfl) ⟨rfl, rfl, rfl⟩ (fun _ _ hφ => ask [] rfl hφ) rfl rfl (.inl rfl)
        ·
         replace hm := iteF hm hb76
         refine wc_keep [10, 9, 4, 0] (S' := [_,_,_,_]) rfl ?_
         refine wc_skip ?_
         refine we_then ?_
         refine wc_seq ?_
         refine wc_seq ?_
         refine wc_region ?_
         refine wl_pure rfl rfl rfl (freshS_eq rfl) rfl ?_
         refine wl_nil ?_
         refine we_then ?_
         refine wc_block ?_
         refine wc_seq ?_
         refine wc_region ?_
         refine wl_pure rfl rfl rfl (freshS_eq rfl) rfl ?_
         refine wl_pure rfl rfl rfl (freshS_eq rfl) rfl ?_
         refine wl_nil ?_
         refine we_then ?_
         refine wc_keep [79, 78, 10, 9, 4, 0] (S' := [_,_,_,_,_,_]) rfl ?_
         refine wc_cond rfl (fun hb79 => ?_) (fun hb79 => ?_)
         ·
          replace hm := iteT hm hb79
          refine wc_keep [10, 9, 4] (S' := [_,_,_]) rfl ?_
          refine wc_seq ?_
          refine wc_region ?_
          refine wl_fieldAddr rfl rfl rfl (freshS_eq rfl) rfl rfl tF_29_1 ?_
          refine wl_loadH 1 1 rfl rfl rfl (freshS_eq rfl) rfl rfl rfl (cs := [_]) rfl tS_2 tA_2 rfl rfl ?_
          refine wl_fieldAddr rfl rfl rfl (freshS_eq rfl) rfl rfl tF_29_1 ?_
          refine wl_loadH 0 1 rfl rfl rfl (freshS_eq rfl) rfl rfl rfl (cs := [_]) rfl tS_2 tA_2 rfl rfl ?_
          refine wl_pure rfl rfl rfl (freshS_eq rfl) rfl ?_
          obtain ⟨v86, hc86, hm⟩ := bindO_some hm
          refine wl_call [] [0, 1, 2, 3] rfl rfl rfl (freshS_eq rfl) rfl rfl fn_22 rfl (w_ropewalkref01_Truth_s N (decide (x55.n < x61.n)) _ hc86) (fun _ _ hφ => ask [0] rfl hφ) rfl (H' := [_,_,_,_]) rfl ?_
          rintro _ _ _ ⟨rfl, rfl, rfl⟩
          refine wl_store 2 0 rfl rfl rfl rfl rfl rfl rfl tS_29 rfl rfl rfl (all' := [_,_,_]) rfl (H' := [_,_,_,_]) rfl ?_
          refine wl_pure rfl rfl rfl (freshS_eq rfl) rfl ?_
          refine wl_nil ?_
          refine we_then ?_
          refine wc_keep [5, 4] (S' := [_,_]) rfl ?_
          refine wc_ret ?_
          refine we_block_ret ?_
          refine we_then_ret ?_
          have hE := (Option.some.inj hm).symm
          obtain ⟨hE0, hF1⟩ := Prod.mk.inj hE
          obtain ⟨hE1, hE2⟩ := Prod.mk.inj hF1
          clear hE hF1
          replace hE0 := hE0.symm
          subst hE0
          replace hE1 := hE1.symm
          subst hE1
          replace hE2 := hE2.symm
          subst hE2
          refine ret_two (Hr := [_]) [3] Tryd.results12 (res_cell 2 rfl rfl tS_29 tA_29 rfl rfl) (res_tmp rfl) ⟨rfl, rfl, rfl⟩ (fun _ _ hφ => ask [] rfl hφ) rfl rfl (.inl rfl)
         ·
          replace hm := iteF hm hb79
          refine wc_keep [78, 10, 9, 4, 0] (S' := [_,_,_,_,_]) rfl ?_
          refine wc_seq ?_
          refine wc_region ?_
          refine wl_pure rfl rfl rfl (freshS_eq rfl) rfl ?_
          refine wl_pure rfl rfl rfl (freshS_eq rfl) rfl ?_
          refine wl_nil ?_
          refine we_then ?_
          refine wc_keep [87, 78, 10, 9, 4, 0] (S' := [_,_,_,_,_,_]) rfl ?_
          refine wc_cond rfl (fun hb87 => ?_) (fun hb87 => ?_)
          ·
           replace hm := iteT hm hb87
           refine wc_keep [10, 9, 4] (S' := [_,_,_]) rfl ?_
           refine wc_seq ?_
           refine wc_region ?_
           refine wl_fieldAddr rfl rfl rfl (freshS_eq rfl) rfl rfl tF_29_1 ?_
           refine wl_loadH 1 1 rfl rfl rfl (freshS_eq rfl) rfl rfl rfl (cs := [_]) rfl tS_2 tA_2 rfl rfl ?_
           refine wl_fieldAddr rfl rfl rfl (freshS_eq rfl) rfl rfl tF_29_1 ?_
           refine wl_loadH 0 1 rfl rfl rfl (freshS_eq rfl) rfl rfl rfl (cs := [_]) rfl tS_2 tA_2 rfl rfl ?_
           refine wl_pure rfl rfl rfl (freshS_eq rfl) rfl ?_
           obtain ⟨v94, hc94, hm⟩ := bindO_some hm
           refine wl_call [] [0, 1, 2, 3] rfl rfl rfl (freshS_eq rfl) rfl rfl fn_22 rfl (w_ropewalkref01_Truth_s N (decide (x55.n ≤ x61.n)) _ hc94) (fun _ _ hφ => ask [0] rfl hφ) rfl (H' := [_,_,_,_]) rfl ?_
           rintro _ _ _ ⟨rfl, rfl, rfl⟩
           refine wl_store 2 0 rfl rfl rfl rfl rfl rfl rfl tS_29 rfl rfl rfl (all' := [_,_,_]) rfl (H' := [_,_,_,_]) rfl ?_
           refine wl_pure rfl rfl rfl (freshS_eq rfl) rfl ?_
           refine wl_nil ?_
           refine we_then ?_
           refine wc_keep [5, 4] (S' := [_,_]) rfl ?_
           refine wc_ret ?_
           refine we_block_ret ?_
           refine we_then_ret ?_
           have hE := (Option.some.inj hm).symm
           obtain ⟨hE0, hF1⟩ := Prod.mk.inj hE
           obtain ⟨hE1, hE2⟩ := Prod.mk.inj hF1
           clear hE hF1
           replace hE0 := hE0.symm
           subst hE0
           replace hE1 := hE1.symm
           subst hE1
           replace hE2 := hE2.symm
           subst hE2
           refine ret_two (Hr := [_]) [3] Tryd.results12 (res_cell 2 rfl rfl tS_29 tA_29 rfl rfl) (res_tmp rfl) ⟨rfl, rfl, rfl⟩ (fun _ _ hφ => ask [] rfl hφ) rfl rfl (.inl rfl)
          ·
           replace hm := iteF hm hb87
           refine wc_keep [78, 10, 9, 4, 0] (S' := [_,_,_,_,_]) rfl ?_
           refine wc_seq ?_
           refine wc_region ?_
           refine wl_pure rfl rfl rfl (freshS_eq rfl) rfl ?_
           refine wl_pure rfl rfl rfl (freshS_eq rfl) rfl ?_
           refine wl_nil ?_
           refine we_then ?_
           refine wc_keep [95, 78, 10, 9, 4, 0] (S' := [_,_,_,_,_,_]) rfl ?_
           refine wc_cond rfl (fun hb95 => ?_) (fun hb95 => ?_)
           ·
            replace hm := iteT hm hb95
            refine wc_keep [10, 9, 4] (S' := [_,_,_]) rfl ?_
            refine wc_seq ?_
            refine wc_region ?_
            refine wl_fieldAddr rfl rfl rfl (freshS_eq rfl) rfl rfl tF_29_1 ?_
            refine wl_loadH 1 1 rfl rfl rfl (freshS_eq rfl) rfl rfl rfl (cs := [_]) rfl tS_2 tA_2 rfl rfl ?_
            refine wl_pure rfl rfl rfl (freshS_eq rfl) rfl ?_
            refine wl_pure rfl rfl rfl (freshS_eq rfl) rfl ?_
            refine wl_split (d := 100) (S' := [_,_,_,_,_,_]) rfl rfl (fun hs100 => ?_) (fun hs100 => ?_)
            ·
             replace hm := iteT hm hs100
             refine wl_fieldAddr rfl rfl rfl (freshS_eq rfl) rfl rfl tF_29_1 ?_
             refine wl_loadH 0 1 rfl rfl rfl (freshS_eq rfl) rfl rfl rfl (cs := [_]) rfl tS_2 tA_2 rfl rfl ?_
             refine wl_pure rfl rfl rfl (freshS_eq rfl) rfl ?_
             refine wl_pure rfl rfl rfl (freshS_eq rfl) rfl ?_
             obtain ⟨v105, hc105, hm⟩ := bindO_some hm
             refine wl_call [] [0, 1, 2, 3] rfl rfl rfl (freshS_eq rfl) rfl rfl fn_22 rfl (w_ropewalkref01_Truth_s N (x61.n != 0) _ hc105) (fun _ _ hφ => ask [0] rfl hφ) rfl (H' := [_,_,_,_]) rfl ?_
             rintro _ _ _ ⟨rfl, rfl, rfl⟩
             refine wl_store 2 0 rfl rfl rfl rfl rfl rfl rfl tS_29 rfl rfl rfl (all' := [_,_,_]) rfl (H' := [_,_,_,_]) rfl ?_
             refine wl_pure rfl rfl rfl (freshS_eq rfl) rfl ?_
             refine wl_nil ?_
             refine we_then ?_
             refine wc_keep [5, 4] (S' := [_,_]) rfl ?_
             refine wc_ret ?_
             refine we_block_ret ?_
             refine we_then_ret ?_
             have hE := (Option.some.inj hm).symm
             obtain ⟨hE0, hF1⟩ := Prod.mk.inj hE
             obtain ⟨hE1, hE2⟩ := Prod.mk.inj hF1
             clear hE hF1
             replace hE0 := hE0.symm
             subst hE0
             replace hE1 := hE1.symm
             subst hE1
             replace hE2 := hE2.symm
             subst hE2
             refine ret_two (Hr := [_]) [3] Tryd.results12 (res_cell 2 rfl rfl tS_29 tA_29 rfl rfl) (res_tmp rfl) ⟨rfl, rfl, rfl⟩ (fun _ _ hφ => ask [] rfl hφ) rfl rfl (.inl rfl)
            ·
             replace hm := iteF hm hs100
             refine wl_off rfl rfl rfl (freshS_eq rfl) ?_
             refine wl_off rfl rfl rfl (freshS_eq rfl) ?_
             refine wl_off rfl rfl rfl (freshS_eq rfl) ?_
             refine wl_pure rfl rfl rfl (freshS_eq rfl) rfl ?_
             obtain ⟨v105, hc105, hm⟩ := bindO_some hm
             refine wl_call [] [0, 1, 2, 3] rfl rfl rfl (freshS_eq rfl) rfl rfl fn_22 rfl (w_ropewalkref01_Truth_s N false _ hc105) (fun _ _ hφ => ask [0] rfl hφ) rfl (H' := [_,_,_,_]) rfl ?_
             rintro _ _ _ ⟨rfl, rfl, rfl⟩
             refine wl_store 2 0 rfl rfl rfl rfl rfl rfl rfl tS_29 rfl rfl rfl (all' := [_,_,_]) rfl (H' := [_,_,_,_]) rfl ?_
             refine wl_pure rfl rfl rfl (freshS_eq rfl) rfl ?_
             refine wl_nil ?_
             refine we_then ?_
             refine wc_keep [5, 4] (S' := [_,_]) rfl ?_
             refine wc_ret ?_
             refine we_block_ret ?_
             refine we_then_ret ?_
             have hE := (Option.some.inj hm).symm
             obtain ⟨hE0, hF1⟩ := Prod.mk.inj hE
             obtain ⟨hE1, hE2⟩ := Prod.mk.inj hF1
             clear hE hF1
             replace hE0 := hE0.symm
             subst hE0
             replace hE1 := hE1.symm
             subst hE1
             replace hE2 := hE2.symm
             subst hE2
             refine ret_two (Hr := [_]) [3] Tryd.results12 (res_cell 2 rfl rfl tS_29 tA_29 rfl rfl) (res_tmp rfl) ⟨rfl, rfl, rfl⟩ (fun _ _ hφ => ask [] rfl hφ) rfl rfl (.inl rfl)
           ·
            replace hm := iteF hm hb95
            refine wc_keep [78, 10, 9, 4, 0] (S' := [_,_,_,_,_]) rfl ?_
            refine wc_seq ?_
            refine wc_region ?_
            refine wl_pure rfl rfl rfl (freshS_eq rfl) rfl ?_
            refine wl_pure rfl rfl rfl (freshS_eq rfl) rfl ?_
            refine wl_nil ?_
            refine we_then ?_
            refine wc_keep [106, 78, 10, 9, 4, 0] (S' := [_,_,_,_,_,_]) rfl ?_
            refine wc_cond rfl (fun hb106 => ?_) (fun hb106 => ?_)
            ·
             replace hm := iteT hm hb106
             refine wc_keep [10, 9, 4] (S' := [_,_,_]) rfl ?_
             refine wc_seq ?_
             refine wc_region ?_
             refine wl_fieldAddr rfl rfl rfl (freshS_eq rfl) rfl rfl tF_29_1 ?_
             refine wl_loadH 1 1 rfl rfl rfl (freshS_eq rfl) rfl rfl rfl (cs := [_]) rfl tS_2 tA_2 rfl rfl ?_
             refine wl_pure rfl rfl rfl (freshS_eq rfl) rfl ?_
             refine wl_pure rfl rfl rfl (freshS_eq rfl) rfl ?_
             refine wl_split (d := 111) (S' := [_,_,_,_,_,_]) rfl rfl (fun hs111 => ?_) (fun hs111 => ?_)
             ·
              replace hm := iteT hm hs111
              refine wl_off rfl rfl rfl (freshS_eq rfl) ?_
              refine wl_off rfl rfl rfl (freshS_eq rfl) ?_
              refine wl_off rfl rfl rfl (freshS_eq rfl) ?_
              refine wl_pure rfl rfl rfl (freshS_eq rfl) rfl ?_
              obtain ⟨v116, hc116, hm⟩ := bindO_some hm
              refine wl_call [] [0, 1, 2, 3] rfl rfl rfl (freshS_eq rfl) rfl rfl fn_22 rfl (w_ropewalkref01_Truth_s N true _ hc116) (fun _ _ hφ => ask [0] rfl hφ) rfl (H' := [_,_,_,_]) rfl ?_
              rintro _ _ _ ⟨rfl, rfl, rfl⟩
              refine wl_store 2 0 rfl rfl rfl rfl rfl rfl rfl tS_29 rfl rfl rfl (all' := [_,_,_]) rfl (H' := [_,_,_,_]) rfl ?_
              refine wl_pure rfl rfl rfl (freshS_eq rfl) rfl ?_
              refine wl_nil ?_
              refine we_then ?_
              refine wc_keep [5, 4] (S' := [_,_]) rfl ?_
              refine wc_ret ?_
              refine we_block_ret ?_
              refine we_then_ret ?_
              have hE := (Option.some.inj hm).symm
              obtain ⟨hE0, hF1⟩ := Prod.mk.inj hE
              obtain ⟨hE1, hE2⟩ := Prod.mk.inj hF1
              clear hE hF1
              replace hE0 := hE0.symm
              subst hE0
              replace hE1 := hE1.symm
              subst hE1
              replace hE2 := hE2.symm
              subst hE2
              refine ret_two (Hr := [_]) [3] Tryd.results12 (res_cell 2 rfl rfl tS_29 tA_29 rfl rfl) (res_tmp rfl) ⟨rfl, rfl, rfl⟩ (fun _ _ hφ => ask [] rfl hφ) rfl rfl (.inl rfl)
             ·
              replace hm := iteF hm hs111
              refine wl_fieldAddr rfl rfl rfl (freshS_eq rfl) rfl rfl tF_29_1 ?_
              refine wl_loadH 0 1 rfl rfl rfl (freshS_eq rfl) rfl rfl rfl (cs := [_]) rfl tS_2 tA_2 rfl rfl ?_
              refine wl_pure rfl rfl rfl (freshS_eq rfl) rfl ?_
              refine wl_pure rfl rfl rfl (freshS_eq rfl) rfl ?_
              obtain ⟨v116, hc116, hm⟩ := bindO_some hm
              refine wl_call [] [0, 1, 2, 3] rfl rfl rfl (freshS_eq rfl) rfl rfl fn_22 rfl (w_ropewalkref01_Truth_s N (x61.n != 0) _ hc116) (fun _ _ hφ => ask [0] rfl hφ) rfl (H' := [_,_,_,_]) rfl ?_
              rintro _ _ _ ⟨rfl, rfl, rfl⟩
              refine wl_store 2 0 rfl rfl rfl rfl rfl rfl rfl tS_29 rfl rfl rfl (all' := [_,_,_]) rfl (H' := [_,_,_,_]) rfl ?_
              refine wl_pure rfl rfl rfl (freshS_eq rfl) rfl ?_
              refine wl_nil ?_
              refine we_then ?_
              refine wc_keep [5, 4] (S' := [_,_]) rfl ?_
              refine wc_ret ?_
              refine we_block_ret ?_
              refine we_then_ret ?_
              have hE := (Option.some.inj hm).symm
              obtain ⟨hE0, hF1⟩ := Prod.mk.inj hE
              obtain ⟨hE1, hE2⟩ := Prod.mk.inj hF1
              clear hE hF1
              replace hE0 := hE0.symm
              subst hE0
              replace hE1 := hE1.symm
              subst hE1
              replace hE2 := hE2.symm
              subst hE2
              refine ret_two (Hr := [_]) [3] Tryd.results12 (res_cell 2 rfl rfl tS_29 tA_29 rfl rfl) (res_tmp rfl) ⟨rfl, rfl, rfl⟩ (fun _ _ hφ => ask [] rfl hφ) rfl rfl (.inl rfl)
            ·
             replace hm := iteF hm hb106
             refine wc_keep [78, 10, 9, 4, 0] (S' := [_,_,_,_,_]) rfl ?_
             refine wc_seq ?_
             refine wc_region ?_
             refine wl_pure rfl rfl rfl (freshS_eq rfl) rfl ?_
             refine wl_pure rfl rfl rfl (freshS_eq rfl) rfl ?_
             refine wl_nil ?_
             refine we_then ?_
             refine wc_keep [117, 10, 9, 4, 0] (S' := [_,_,_,_,_]) rfl ?_
             refine wc_cond rfl (fun hb117 => ?_) (fun hb117 => ?_)
             ·
              replace hm := iteT hm hb117
              refine wc_keep [9, 4] (S' := [_,_]) rfl ?_
              refine wc_seq ?_
              refine wc_region ?_
              refine wl_fieldAddr rfl rfl rfl (freshS_eq rfl) rfl rfl tF_29_1 ?_
              refine wl_loadH 1 1 rfl rfl rfl (freshS_eq rfl) rfl rfl rfl (cs := [_]) rfl tS_2 tA_2 rfl rfl ?_
              refine wl_pure rfl rfl rfl (freshS_eq rfl) rfl ?_
              obtain ⟨v122, hc122, hm⟩ := bindO_some hm
              refine wl_call [] [0, 1, 2, 3] rfl rfl rfl (freshS_eq rfl) rfl rfl fn_22 rfl (w_ropewalkref01_Truth_s N (x55.n == 0) _ hc122) (fun _ _ hφ => ask [0] rfl hφ) rfl (H' := [_,_,_,_]) rfl ?_
              rintro _ _ _ ⟨rfl, rfl, rfl⟩
              refine wl_store 2 0 rfl rfl rfl rfl rfl rfl rfl tS_29 rfl rfl rfl (all' := [_,_,_]) rfl (H' := [_,_,_,_]) rfl ?_
              refine wl_pure rfl rfl rfl (freshS_eq rfl) rfl ?_
              refine wl_nil ?_
              refine we_then ?_
              refine wc_keep [5, 4] (S' := [_,_]) rfl ?_
              refine wc_ret ?_
              refine we_block_ret ?_
              refine we_then_ret ?_
              have hE := (Option.some.inj hm).symm
              obtain ⟨hE0, hF1⟩ := Prod.mk.inj hE
              obtain ⟨hE1, hE2⟩ := Prod.mk.inj hF1
              clear hE hF1
              replace hE0 := hE0.symm
              subst hE0
              replace hE1 := hE1.symm
              subst hE1
              replace hE2 := hE2.symm
              subst hE2
              refine ret_two (Hr := [_]) [3] Tryd.results12 (res_cell 2 rfl rfl tS_29 tA_29 rfl rfl) (res_tmp rfl) ⟨rfl, rfl, rfl⟩ (fun _ _ hφ => ask [] rfl hφ) rfl rfl (.inl rfl)
             ·
              replace hm := iteF hm hb117
              refine wc_keep [10, 9, 4, 0] (S' := [_,_,_,_]) rfl ?_
              refine wc_skip ?_
              refine we_block_normal ?_
              refine we_then ?_
              refine wc_seq ?_
              refine wc_region ?_
              refine wl_pure rfl rfl rfl (freshS_eq rfl) rfl ?_
              refine wl_fieldAddr rfl rfl rfl (freshS_eq rfl) rfl rfl tF_29_1 ?_
              refine wl_loadH 1 1 rfl rfl rfl (freshS_eq rfl) rfl rfl rfl (cs := [_]) rfl tS_2 tA_2 rfl rfl ?_
              refine wl_fieldAddr rfl rfl rfl (freshS_eq rfl) rfl rfl tF_29_1 ?_
              refine wl_loadH 0 1 rfl rfl rfl (freshS_eq rfl) rfl rfl rfl (cs := [_]) rfl tS_2 tA_2 rfl rfl ?_
              obtain ⟨⟨v129_0, v129_1⟩, hc129, hm⟩ := bindO_some hm
              try dsimp only at hm
              refine wl_call [] [0, 1, 2, 3] rfl rfl rfl (freshS_eq rfl) rfl rfl fn_26 rfl (w_ropewalkref01_reckoned_s N a0 x55.n x61.n _ _ hc129) (fun _ _ hφ => ask [0] rfl hφ) rfl (H' := [_,_,_,_]) rfl ?_
              rintro _ _ _ ⟨rfl, rfl, rfl⟩
              refine wl_pure rfl rfl rfl (freshS_eq rfl) rfl ?_
              refine wl_pure rfl rfl rfl (freshS_eq rfl) rfl ?_
              refine wl_pure rfl rfl rfl (freshS_eq rfl) rfl ?_
              refine wl_pure rfl rfl rfl (freshS_eq rfl) rfl ?_
              refine wl_pure rfl rfl rfl (freshS_eq rfl) rfl ?_
              refine wl_nil ?_
              refine we_then ?_
              refine wc_keep [12, 11, 4] (S' := [_,_,_]) rfl ?_
              refine wc_seq ?_
              refine wc_seq ?_
              refine wc_region ?_
              refine wl_pure rfl rfl rfl (freshS_eq rfl) rfl ?_
              refine wl_pure rfl rfl rfl (freshS_eq rfl) rfl ?_
              refine wl_nil ?_
              refine we_then ?_
              refine wc_keep [133, 11, 4] (S' := [_,_,_]) rfl ?_
              refine wc_cond rfl (fun hb133 => ?_) (fun hb133 => ?_)
              ·
               replace hm := iteT hm hb133
               refine wc_keep [4] (S' := [_]) rfl ?_
               refine wc_seq ?_
               refine wc_region ?_
               refine wl_build rfl rfl rfl (freshS_eq rfl) rfl tZ_29 tP_29 rfl (out := [_,_,_]) rfl ?_
               refine wl_store 2 0 rfl rfl rfl rfl rfl rfl rfl tS_29 rfl rfl rfl (all' := [_,_,_]) rfl (H' := [_,_,_,_]) rfl ?_
               refine wl_pure rfl rfl rfl (freshS_eq rfl) rfl ?_
               refine wl_nil ?_
               refine we_then ?_
               refine wc_keep [5, 4] (S' := [_,_]) rfl ?_
               refine wc_ret ?_
               refine we_then_ret ?_
               have hE := (Option.some.inj hm).symm
               obtain ⟨hE0, hF1⟩ := Prod.mk.inj hE
               obtain ⟨hE1, hE2⟩ := Prod.mk.inj hF1
               clear hE hF1
               replace hE0 := hE0.symm
               subst hE0
               replace hE1 := hE1.symm
               subst hE1
               replace hE2 := hE2.symm
               subst hE2
               refine ret_two (Hr := [_]) [3] Tryd.results12 (res_cell 2 rfl rfl tS_29 tA_29 rfl rfl) (res_tmp rfl) ⟨rfl, rfl, rfl⟩ (fun _ _ hφ => ask [] rfl hφ) rfl rfl (.inl rfl)
              ·
               replace hm := iteF hm hb133
               refine wc_keep [11, 4] (S' := [_,_]) rfl ?_
               refine wc_skip ?_
               refine we_then ?_
               refine wc_seq ?_
               refine wc_region ?_
               refine wl_pure rfl rfl rfl (freshS_eq rfl) rfl ?_
               obtain ⟨_, hc136, hm⟩ := bindO_some hm
               try dsimp only at hm
               refine wl_call [] [0, 1, 2, 3] rfl rfl rfl (freshS_eq rfl) rfl rfl fn_14 rfl (w_ropewalkref01_Number_s N v129_0 hc136) (fun _ _ hφ => ask [0] rfl hφ) rfl (H' := [_,_,_,_]) rfl ?_
               rintro _ _ _ ⟨rfl, rfl, rfl⟩
               refine wl_store 2 0 rfl rfl rfl rfl rfl rfl rfl tS_29 rfl rfl rfl (all' := [_,_,_]) rfl (H' := [_,_,_,_]) rfl ?_
               refine wl_pure rfl rfl rfl (freshS_eq rfl) rfl ?_
               refine wl_nil ?_
               refine we_then ?_
               refine wc_keep [5, 4] (S' := [_,_]) rfl ?_
               refine wc_ret ?_
               have hE := (Option.some.inj hm).symm
               obtain ⟨hE0, hF1⟩ := Prod.mk.inj hE
               obtain ⟨hE1, hE2⟩ := Prod.mk.inj hF1
               clear hE hF1
               replace hE0 := hE0.symm
               subst hE0
               replace hE1 := hE1.symm
               subst hE1
               replace hE2 := hE2.symm
               subst hE2
               refine ret_two (Hr := [_]) [3] Tryd.results12 (res_cell 2 rfl rfl tS_29 tA_29 rfl rfl) (res_tmp rfl) ⟨rfl, rfl, rfl⟩ (fun _ _ hφ => ask [] rfl hφ) rfl rfl (.inl rfl)
set_option maxRecDepth 100000 in
set_option maxHeartbeats 4000000 in
theorem w_ropewalkref01_Do_v2_s (N : Nat) (a0 : Int) (qp0 : Option Addr) (qc1 : Nat) (l1 : List V) (o0 : Nat) (o1 : Int) (o2 : Nat) (hm : m_ropewalkref01_Do N a0 l1 = some (o0, o1, o2)) : Spec Tryd.prog 12 [.int .u8 a0, .slice qp0 l1.length qc1] [.sli 3 R_V qp0 qc1 l1, tabF Tryd.prog "internal/strconv.uint64pow10" .u64 Lib.pow10Tab 1 pow10_g] [] (fun v Φr Hr => v = .tuple #[.agg #[.int .u8 ((o0 : Nat) : Int), .int .i64 o1, .string ((⟨#[]⟩ : ByteArray))], .int .i64 ((o2 : Nat) : Int)] ∧ Φr = [] ∧ Hr = []) := by
 unfold m_ropewalkref01_Do at hm
 refine spec_of Tryd.func12 rfl Tryd.ntmps12 rfl (S := [_,_]) rfl (fun C => ?_)
 refine wc_seq ?_
 refine wc_region ?_
 refine wl_alloc rfl rfl rfl (freshS_eq rfl) rfl tZ_29 rfl (fun g4 => ?_)
 refine wl_pure rfl rfl rfl (freshS_eq rfl) rfl ?_
 refine wl_nil ?_
 refine we_then ?_
 refine wc_keep [4, 0, 1] (S' := [_,_,_]) rfl ?_
 refine wc_seq ?_
 refine wc_region ?_
 refine wl_pure rfl rfl rfl (freshS_eq rfl) rfl ?_
 refine wl_nil ?_
 refine we_then ?_
 refine wc_seq ?_
 obtain ⟨bj_1, hm, hLj_1⟩ := bindO_some hm
 unfold m_ropewalkref01_Do_C1 at hm
 refine wc_cut (σ := Nat) (fun j_1_6 => bj_1 = j_1_6) (fun j_1_6 => [(4, .pointer (some ⟨g4, 0, none⟩)), (0, .int .u8 a0), (1, .slice qp0 l1.length qc1), (6, .int .i64 ((j_1_6 : Nat) : Int))]) (fun j_1_6 => [.sli 3 R_V qp0 qc1 l1, tabF Tryd.prog "internal/strconv.uint64pow10" .u64 Lib.pow10Tab 1 pow10_g]) (fun j_1_6 => [.blk g4 [.int .u8 0, .int .i64 0, .string ((⟨#[]⟩ : ByteArray))] 29]) ?_ ?_
 ·
  refine wc_seq ?_
  obtain ⟨bj_2, hm, hLj_2⟩ := bindO_some hm
  refine wc_cut (σ := Bool) (fun j_2_18 => bj_2 = j_2_18) (fun j_2_18 => [(4, .pointer (some ⟨g4, 0, none⟩)), (0, .int .u8 a0), (1, .slice qp0 l1.length qc1), (6, .int .i64 2), (18, .bool j_2_18)]) (fun j_2_18 => [.sli 3 R_V qp0 qc1 l1, tabF Tryd.prog "internal/strconv.uint64pow10" .u64 Lib.pow10Tab 1 pow10_g]) (fun j_2_18 => [.blk g4 [.int .u8 0, .int .i64 0, .string ((⟨#[]⟩ : ByteArray))] 29]) ?_ ?_
  ·
   refine wc_region ?_
   refine wl_pure rfl rfl rfl (freshS_eq rfl) rfl ?_
   refine wl_pure rfl rfl rfl (freshS_eq rfl) rfl ?_
   refine wl_pure rfl rfl rfl (freshS_eq rfl) rfl ?_
   refine wl_split (d := 15) (S' := [_,_,_,_,_,_]) rfl rfl (fun hs15 => ?_) (fun hs15 => ?_)
   ·
    replace hm := iteT hm hs15
    refine wl_off rfl rfl rfl (freshS_eq rfl) ?_
    refine wl_off rfl rfl rfl (freshS_eq rfl) ?_
    refine wl_pure rfl rfl rfl (freshS_eq rfl) rfl ?_
    refine wl_nil ?_
    have hE := (Option.some.inj hm).symm
    refine we_join true hE [4, 0, 1, 6, 18] rfl (fun _ _ hφ => ask [0, 1] rfl hφ) rfl
   ·
    replace hm := iteF hm hs15
    refine wl_pure rfl rfl rfl (freshS_eq rfl) rfl ?_
    refine wl_pure rfl rfl rfl (freshS_eq rfl) rfl ?_
    refine wl_pure rfl rfl rfl (freshS_eq rfl) rfl ?_
    refine wl_nil ?_
    have hE := (Option.some.inj hm).symm
    refine we_join (a0 == 11) hE [4, 0, 1, 6, 18] rfl (fun _ _ hφ => ask [0, 1] rfl hφ) rfl
  ·
   rintro j_2_18 hE
   try dsimp only
   have hm := hLj_2
   rw [hE] at hm
   refine wc_cond rfl (fun hb18 => ?_) (fun hb18 => ?_)
   ·
    replace hm := iteT hm hb18
    refine wc_keep [4, 0, 1] (S' := [_,_,_]) rfl ?_
    refine wc_region ?_
    refine wl_pure rfl rfl rfl (freshS_eq rfl) rfl ?_
    refine wl_nil ?_
    have hE := (Option.some.inj hm).symm
    refine we_join 1 hE [4, 0, 1, 6] rfl (fun _ _ hφ => ask [0, 1] rfl hφ) rfl
   ·
    replace hm := iteF hm hb18
    refine wc_keep [4, 0, 1, 6] (S' := [_,_,_,_]) rfl ?_
    refine wc_skip ?_
    have hE := (Option.some.inj hm).symm
    refine we_join 2 hE [4, 0, 1, 6] rfl (fun _ _ hφ => ask [0, 1] rfl hφ) rfl
 ·
  rintro j_1_6 hE
  try dsimp only
  have hm := hLj_1
  rw [hE] at hm
  refine wc_seq ?_
  refine wc_seq ?_
  obtain ⟨bj_3, hm, hLj_3⟩ := bindO_some hm
  refine wc_cut (σ := Bool) (fun j_3_30 => bj_3 = j_3_30) (fun j_3_30 => [(4, .pointer (some ⟨g4, 0, none⟩)), (0, .int .u8 a0), (1, .slice qp0 l1.length qc1), (30, .bool j_3_30)]) (fun j_3_30 => [.sli 3 R_V qp0 qc1 l1, tabF Tryd.prog "internal/strconv.uint64pow10" .u64 Lib.pow10Tab 1 pow10_g]) (fun j_3_30 => [.blk g4 [.int .u8 0, .int .i64 0, .string ((⟨#[]⟩ : ByteArray))] 29]) ?_ ?_
  ·
   refine wc_region ?_
   refine wl_pure rfl rfl rfl (freshS_eq rfl) rfl ?_
   refine wl_pure rfl rfl rfl (freshS_eq rfl) rfl ?_
   refine wl_pure rfl rfl rfl (freshS_eq rfl) rfl ?_
   refine wl_split (d := 21) (S' := [_,_,_,_,_,_]) rfl rfl (fun hs21 => ?_) (fun hs21 => ?_)
   ·
    replace hm := iteT hm hs21
    refine wl_off rfl rfl rfl (freshS_eq rfl) ?_
    refine wl_off rfl rfl rfl (freshS_eq rfl) ?_
    refine wl_pure rfl rfl rfl (freshS_eq rfl) rfl ?_
    refine wl_pure rfl rfl rfl (freshS_eq rfl) rfl ?_
    refine wl_off rfl rfl rfl (freshS_eq rfl) ?_
    refine wl_off rfl rfl rfl (freshS_eq rfl) ?_
    refine wl_off rfl rfl rfl (freshS_eq rfl) ?_
    refine wl_off rfl rfl rfl (freshS_eq rfl) ?_
    refine wl_pure rfl rfl rfl (freshS_eq rfl) rfl ?_
    refine wl_nil ?_
    have hE := (Option.some.inj hm).symm
    refine we_join true hE [4, 0, 1, 30] rfl (fun _ _ hφ => ask [0, 1] rfl hφ) rfl
   ·
    replace hm := iteF hm hs21
    refine wl_pure rfl rfl rfl (freshS_eq rfl) rfl ?_
    refine wl_pure rfl rfl rfl (freshS_eq rfl) rfl ?_
    refine wl_pure rfl rfl rfl (freshS_eq rfl) rfl ?_
    refine wl_pure rfl rfl rfl (freshS_eq rfl) rfl ?_
    refine wl_split (d := 25) (S' := [_,_,_,_,_,_,_,_,_,_]) rfl rfl (fun hs25 => ?_) (fun hs25 => ?_)
    ·
     replace hm := iteT hm hs25
     refine wl_off rfl rfl rfl (freshS_eq rfl) ?_
     refine wl_off rfl rfl rfl (freshS_eq rfl) ?_
     refine wl_off rfl rfl rfl (freshS_eq rfl) ?_
     refine wl_off rfl rfl rfl (freshS_eq rfl) ?_
     refine wl_pure rfl rfl rfl (freshS_eq rfl) rfl ?_
     refine wl_nil ?_
     have hE := (Option.some.inj hm).symm
     refine we_join true hE [4, 0, 1, 30] rfl (fun _ _ hφ => ask [0, 1] rfl hφ) rfl
    ·
     replace hm := iteF hm hs25
     refine wl_pure rfl rfl rfl (freshS_eq rfl) rfl ?_
     refine wl_len rfl rfl rfl (freshS_eq rfl) rfl rfl tE_23 ?_
     refine wl_pure rfl rfl rfl (freshS_eq rfl) rfl ?_
     refine wl_pure rfl rfl rfl (freshS_eq rfl) rfl ?_
     refine wl_as (d := 29) (v' := .bool (l1.length != j_1_6)) (S' := [_,_,_,_,_,_,_,_,_,_,_,_,_,_]) rfl rfl (natne (a := l1.length) (b := j_1_6)) ?_
     refine wl_pure rfl rfl rfl (freshS_eq rfl) rfl ?_
     refine wl_nil ?_
     have hE := (Option.some.inj hm).symm
     refine we_join (l1.length != j_1_6) hE [4, 0, 1, 30] rfl (fun _ _ hφ => ask [0, 1] rfl hφ) rfl
  ·
   rintro j_3_30 hE
   try dsimp only
   have hm := hLj_3
   rw [hE] at hm
   refine wc_cond rfl (fun hb30 => ?_) (fun hb30 => ?_)
   ·
    replace hm := iteT hm hb30
    refine wc_keep [4] (S' := [_]) rfl ?_
    refine wc_seq ?_
    refine wc_region ?_
    refine wl_build rfl rfl rfl (freshS_eq rfl) rfl tZ_29 tP_29 rfl (out := [_,_,_]) rfl ?_
    refine wl_store 0 0 rfl rfl rfl rfl rfl rfl rfl tS_29 rfl rfl rfl (all' := [_,_,_]) rfl (H' := [_]) rfl ?_
    refine wl_pure rfl rfl rfl (freshS_eq rfl) rfl ?_
    refine wl_nil ?_
    refine we_then ?_
    refine wc_keep [5, 4] (S' := [_,_]) rfl ?_
    refine wc_ret ?_
    refine we_then_ret ?_
    have hE := (Option.some.inj hm).symm
    obtain ⟨hE0, hF1⟩ := Prod.mk.inj hE
    obtain ⟨hE1, hE2⟩ := Prod.mk.inj hF1
    clear hE hF1
    replace hE0 := hE0.symm
    subst hE0
    replace hE1 := hE1.symm
    subst hE1
    replace hE2 := hE2.symm
    subst hE2
    refine ret_two (Hr := []) [] Tryd.results12 (res_cell 0 rfl rfl tS_29 tA_29 rfl rfl) (res_tmp rfl) ⟨rfl, rfl, rfl⟩ (fun _ _ hφ => ask [] rfl hφ) rfl rfl (.inl rfl)
   ·
    replace hm := iteF hm hb30
    refine wc_keep [4, 0, 1] (S' := [_,_,_]) rfl ?_
    refine wc_skip ?_
    refine we_then ?_
    refine wc_seq ?_
    refine wc_region ?_
    refine wl_pure rfl rfl rfl (freshS_eq rfl) rfl ?_
    refine wl_nil ?_
    refine we_then ?_
    refine wc_seq ?_
    obtain ⟨bj_4, hm, hLj_4⟩ := bindS_some hm
    refine wc_cut (σ := Bool) (fun j_4_7 => bj_4 = .inl j_4_7) (fun j_4_7 => [(4, .pointer (some ⟨g4, 0, none⟩)), (0, .int .u8 a0), (1, .slice qp0 l1.length qc1), (7, .bool j_4_7)]) (fun j_4_7 => [.sli 3 R_V qp0 qc1 l1, tabF Tryd.prog "internal/strconv.uint64pow10" .u64 Lib.pow10Tab 1 pow10_g]) (fun j_4_7 => [.blk g4 [.int .u8 0, .int .i64 0, .string ((⟨#[]⟩ : ByteArray))] 29]) ?_ ?_
    ·
     refine wc_seq ?_
     refine wc_region ?_
     refine wl_pure rfl rfl rfl (freshS_eq rfl) rfl ?_
     refine wl_nil ?_
     refine we_then ?_
     refine wc_block ?_
     refine wc_loop (σ := Nat × Nat × Bool) (fun (nu1, u1_8, u1_7) => iter (m_ropewalkref01_Do_L1 N l1) nu1 (u1_8, u1_7) = some bj_4) (fun (nu1, u1_8, u1_7) => nu1) (fun (nu1, u1_8, u1_7) => [(8, .int .i64 ((u1_8 : Nat) : Int)), (7, .bool u1_7), (4, .pointer (some ⟨g4, 0, none⟩)), (0, .int .u8 a0), (1, .slice qp0 l1.length qc1)]) (fun (nu1, u1_8, u1_7) => [.sli 3 R_V qp0 qc1 l1, tabF Tryd.prog "internal/strconv.uint64pow10" .u64 Lib.pow10Tab 1 pow10_g]) (fun (nu1, u1_8, u1_7) => [.blk g4 [.int .u8 0, .int .i64 0, .string ((⟨#[]⟩ : ByteArray))] 29]) (N, 0, false) hm [8, 7, 4, 0, 1] rfl (fun _ _ hφ => ask [0, 1] rfl hφ) rfl (fun s_ hm => ?_)
     obtain ⟨nu1, u1_8, u1_7⟩ := s_
     try dsimp only at hm ⊢
     obtain ⟨mu1, bu1, hnu1, hq, hLu1⟩ := iter_some hm
     clear hm
     subst hnu1
     replace hm := hq
     clear hq
     unfold m_ropewalkref01_Do_L1 at hm
     try dsimp only at hm
     refine wc_seq ?_
     refine wc_seq ?_
     refine wc_region ?_
     refine wl_pure rfl rfl rfl (freshS_eq rfl) rfl ?_
     refine wl_pure rfl rfl rfl (freshS_eq rfl) rfl ?_
     refine wl_len rfl rfl rfl (freshS_eq rfl) rfl rfl tE_23 ?_
     refine wl_pure rfl rfl rfl (freshS_eq rfl) rfl ?_
     refine wl_as (d := 35) (v' := .bool (decide (u1_8 < l1.length))) (S' := [_,_,_,_,_,_,_,_]) rfl rfl (natlt (a := u1_8) (b := l1.length)) ?_
     refine wl_nil ?_
     refine we_then ?_
     refine wc_keep [35, 8, 7, 4, 0, 1] (S' := [_,_,_,_,_,_]) rfl ?_
     refine wc_cond rfl (fun hb35 => ?_) (fun hb35 => ?_)
     ·
      replace hm := iteT hm hb35
      refine wc_keep [8, 7, 4, 0, 1] (S' := [_,_,_,_,_]) rfl ?_
      refine wc_skip ?_
      refine we_then ?_
      refine wc_seq ?_
      obtain ⟨bj_5, hm, hLj_5⟩ := bindS_some hm
      unfold m_ropewalkref01_Do_C5 at hm
      refine wc_cut (σ := Bool) (fun j_5_7 => bj_5 = .inl j_5_7) (fun j_5_7 => [(8, .int .i64 ((u1_8 : Nat) : Int)), (7, .bool j_5_7), (4, .pointer (some ⟨g4, 0, none⟩)), (0, .int .u8 a0), (1, .slice qp0 l1.length qc1)]) (fun j_5_7 => [.sli 3 R_V qp0 qc1 l1, tabF Tryd.prog "internal/strconv.uint64pow10" .u64 Lib.pow10Tab 1 pow10_g]) (fun j_5_7 => [.blk g4 [.int .u8 0, .int .i64 0, .string ((⟨#[]⟩ : ByteArray))] 29]) ?_ ?_
      ·
       refine wc_block ?_
       refine wc_seq ?_
       refine wc_seq ?_
       refine wc_region ?_
       refine wl_pure rfl rfl rfl (freshS_eq rfl) rfl ?_
       refine wl_pure rfl rfl rfl (freshS_eq rfl) rfl ?_
       obtain ⟨x40, hx40, hm⟩ := bindO_some hm
       refine wl_indexA 0 u1_8 rfl rfl rfl (freshS_eq rfl) rfl rfl rfl rfl rfl hx40 tE_23 tS_29 (fun b40 q40 cs40 hlx40 => ?_)
       refine wl_open R_V_opens 1 rfl (fun r40 er40 _ => ?_)
       subst er40
       refine wl_load 0 0 rfl rfl rfl (freshS_eq rfl) rfl rfl rfl (cs := [_,_,_]) rfl tS_29 tA_29 rfl rfl ?_
       obtain ⟨v42, hc42, hm⟩ := bindO_some hm
       refine wl_call [] [0] rfl rfl rfl (freshS_eq rfl) rfl rfl fn_16 rfl (w_ropewalkref01_Right_s N x40.k x40.n x40.s _ hc42) (fun _ _ hφ => ask [3] rfl hφ) rfl (H' := [_]) rfl ?_
       rintro _ _ _ ⟨rfl, rfl, rfl⟩
       refine wl_pure rfl rfl rfl (freshS_eq rfl) rfl ?_
       refine wl_nil ?_
       refine we_then ?_
       refine wc_keep [43, 8, 7, 4, 0, 1] (S' := [_,_,_,_,_,_]) rfl ?_
       refine wc_cond rfl (fun hb43 => ?_) (fun hb43 => ?_)
       ·
        replace hm := iteT hm hb43
        refine wc_keep [4] (S' := [_]) rfl ?_
        refine wc_seq ?_
        refine wc_region ?_
        refine wl_build rfl rfl rfl (freshS_eq rfl) rfl tZ_29 tP_29 rfl (out := [_,_,_]) rfl ?_
        refine wl_store 0 0 rfl rfl rfl rfl rfl rfl rfl tS_29 rfl rfl rfl (all' := [_,_,_]) rfl (H' := [_]) rfl ?_
        refine wl_pure rfl rfl rfl (freshS_eq rfl) rfl ?_
        refine wl_nil ?_
        refine we_then ?_
        refine wc_keep [5, 4] (S' := [_,_]) rfl ?_
        refine wc_ret ?_
        refine we_then_ret ?_
        refine we_block_ret ?_
        refine we_then_ret ?_
        refine we_then_ret ?_
        refine we_block_ret ?_
        refine we_then_ret ?_
        have hE := (Option.some.inj hm).symm
        replace hE := link_inr hLj_5 hE
        replace hE := link_inr hLu1 hE
        replace hE := link_inr hLj_4 hE
        obtain ⟨hE0, hF1⟩ := Prod.mk.inj hE
        obtain ⟨hE1, hE2⟩ := Prod.mk.inj hF1
        clear hE hF1
        replace hE0 := hE0.symm
        subst hE0
        replace hE1 := hE1.symm
        subst hE1
        replace hE2 := hE2.symm
        subst hE2
        refine ret_two (Hr := []) [] Tryd.results12 (res_cell 0 rfl rfl tS_29 tA_29 rfl rfl) (res_tmp rfl) ⟨rfl, rfl, rfl⟩ (fun _ _ hφ => ask [] rfl hφ) rfl rfl (.inl rfl)
       ·
        replace hm := iteF hm hb43
        refine wc_keep [8, 7, 4, 0, 1] (S' := [_,_,_,_,_]) rfl ?_
        refine wc_skip ?_
        refine we_then ?_
        refine wc_region ?_
        refine wl_pure rfl rfl rfl (freshS_eq rfl) rfl ?_
        refine wl_pure rfl rfl rfl (freshS_eq rfl) rfl ?_
        refine wl_split (d := 46) (S' := [_,_,_,_,_,_]) rfl rfl (fun hs46 => ?_) (fun hs46 => ?_)
        ·
         replace hm := iteT hm hs46
         refine wl_off rfl rfl rfl (freshS_eq rfl) ?_
         refine wl_off rfl rfl rfl (freshS_eq rfl) ?_
         refine wl_off rfl rfl rfl (freshS_eq rfl) ?_
         refine wl_off rfl rfl rfl (freshS_eq rfl) ?_
         refine wl_off rfl rfl rfl (freshS_eq rfl) ?_
         refine wl_off rfl rfl rfl (freshS_eq rfl) ?_
         refine wl_pure rfl rfl rfl (freshS_eq rfl) rfl ?_
         refine wl_pure (S' := [_,_,_,_,_,_,_,_,_,_,_,_,_]) rfl rfl rfl rfl rfl ?_
         refine wl_nil ?_
         refine we_block_normal ?_
         have hE := (Option.some.inj hm).symm
         refine we_join true hE [8, 7, 4, 0, 1] rfl (fun _ _ hφ => ask [2, 3] rfl hφ) rfl
        ·
         replace hm := iteF hm hs46
         refine wl_pure rfl rfl rfl (freshS_eq rfl) rfl ?_
         refine wl_pure rfl rfl rfl (freshS_eq rfl) rfl ?_
         obtain ⟨x49, hx49, hm⟩ := bindO_some hm
         refine wl_indexA 2 u1_8 rfl rfl rfl (freshS_eq rfl) rfl rfl rfl rfl rfl hx49 tE_23 tS_29 (fun b49 q49 cs49 hlx49 => ?_)
         refine wl_open R_V_opens 1 rfl (fun r49 er49 _ => ?_)
         subst er49
         refine wl_fieldAddr rfl rfl rfl (freshS_eq rfl) rfl rfl tF_29_0 ?_
         refine wl_load 0 0 rfl rfl rfl (freshS_eq rfl) rfl rfl rfl (cs := [_]) rfl tS_27 tA_27 rfl rfl ?_
         refine wl_pure rfl rfl rfl (freshS_eq rfl) rfl ?_
         refine wl_pure rfl rfl rfl (freshS_eq rfl) rfl ?_
         refine wl_pure (S' := [_,_,_,_,_,_,_,_,_,_,_,_,_]) rfl rfl rfl rfl rfl ?_
         refine wl_nil ?_
         refine we_block_normal ?_
         have hE := (Option.some.inj hm).symm
         refine we_join (x49.k == 2) hE [8, 7, 4, 0, 1] rfl (fun _ _ hφ => ask [4, 5] rfl hφ) rfl
      ·
       rintro j_5_7 hE
       try dsimp only
       have hm := link_inl hLj_5 hE
       refine wc_region ?_
       refine wl_pure rfl rfl rfl (freshS_eq rfl) rfl ?_
       refine wl_pure rfl rfl rfl (freshS_eq rfl) rfl ?_
       obtain ⟨hg37, hm⟩ := gd_some hm
       refine wl_as (d := 37) (v' := .int .i64 ((u1_8 + 1 : Nat) : Int)) (S' := [_,_,_,_,_,_]) rfl rfl (nat_add (a := u1_8) (b := 1) hg37) ?_
       refine wl_pure (S' := [_,_,_,_,_,_]) rfl rfl rfl rfl rfl ?_
       refine wl_nil ?_
       have hE := (Option.some.inj hm).symm
       replace hE := link_inl hLu1 hE
       refine we_roundK (_, u1_8 + 1, j_5_7) (Nat.lt_succ_self _) hE [8, 7, 4, 0, 1] rfl (fun _ _ hφ => ask [0, 1] rfl hφ) rfl
     ·
      replace hm := iteF hm hb35
      refine wc_keep [7, 4, 0, 1] (S' := [_,_,_,_]) rfl ?_
      refine wc_exit ?_
      refine we_then_exit ?_
      refine we_then_exit ?_
      refine we_block_hit ?_
      have hE := (Option.some.inj hm).symm
      replace hE := link_inr hLu1 hE
      refine we_join u1_7 hE [4, 0, 1, 7] rfl (fun _ _ hφ => ask [0, 1] rfl hφ) rfl
    ·
     rintro j_4_7 hE
     try dsimp only
     have hm := link_inl hLj_4 hE
     refine wc_seq ?_
     obtain ⟨x55, hx55, hm⟩ := bindO_some hm
     obtain ⟨hg60, hm⟩ := gd_some hm
     obtain ⟨hn61, hm⟩ := gd_some hm
     obtain ⟨x61, hx61, hm⟩ := bindO_some hm
     refine wc_cut (σ := Nat × Nat) (fun _ => True) (fun (w_6_10_g, w_6_9_g) => [(10, .pointer (some ⟨w_6_10_g, 0, none⟩)), (9, .pointer (some ⟨w_6_9_g, 0, none⟩)), (4, .pointer (some ⟨g4, 0, none⟩)), (0, .int .u8 a0), (7, .bool j_4_7)]) (fun (w_6_10_g, w_6_9_g) => [tabF Tryd.prog "internal/strconv.uint64pow10" .u64 Lib.pow10Tab 1 pow10_g]) (fun (w_6_10_g, w_6_9_g) => [.blk w_6_10_g [.int .u8 (x61.k), .int .i64 (x61.n), .string x61.s] 29, .blk w_6_9_g [.int .u8 (x55.k), .int .i64 (x55.n), .string x55.s] 29, .blk g4 [.int .u8 0, .int .i64 0, .string ((⟨#[]⟩ : ByteArray))] 29]) ?_ ?_
     ·
      refine wc_draw [0, 1, 2, 3, 4, 5, 6, 7, 8] rfl rfl (fun hok => ?_)
      refine wx_pure hok 0 rfl rfl rfl (freshS_eq rfl) rfl rfl ?_
      refine wx_indexA hok 1 0 0 rfl rfl rfl (freshS_eq rfl) rfl rfl rfl rfl rfl rfl hx55 tE_23 tS_29 (fun b55 q55 cs55 hlx55 => ?_)
      refine wx_openR R_V_opens 1 rfl (fun r55 er55 _ => ?_)
      subst er55
      refine wx_load hok 2 0 0 rfl rfl rfl (freshS_eq rfl) rfl rfl rfl rfl (cs := [_,_,_]) rfl tS_29 tA_29 rfl rfl ?_
      refine wx_pure hok 3 rfl rfl rfl (freshS_eq rfl) rfl rfl ?_
      refine wx_pure hok 4 rfl rfl rfl (freshS_eq rfl) rfl rfl ?_
      refine wx_len hok 5 rfl rfl rfl (freshS_eq rfl) rfl rfl rfl tE_23 ?_
      refine wx_pure hok 6 rfl rfl rfl (freshS_eq rfl) rfl rfl ?_
      refine wx_as (d := 60) (v' := .int .i64 (((l1.length : Nat) : Int) - 1)) (S' := [_,_,_,_,_,_,_,_,_,_]) rfl rfl (i64_in hg60) ?_
      refine wx_indexA hok 7 2 ((((l1.length : Nat) : Int) - 1).toNat) rfl rfl rfl (freshS_eq rfl) rfl rfl rfl rfl rfl (toNat_eq hn61) hx61 tE_23 tS_29 (fun b61 q61 cs61 hlx61 => ?_)
      refine wx_openR R_V_opens 1 rfl (fun r61 er61 _ => ?_)
      subst er61
      refine wx_load hok 8 0 0 rfl rfl rfl (freshS_eq rfl) rfl rfl rfl rfl (cs := [_,_,_]) rfl tS_29 tA_29 rfl rfl ?_
      refine wx_step2 hok 9 10 rfl rfl rfl rfl rfl rfl ?_ ?_
      ·
       refine wl_alloc rfl rfl rfl (freshS_eq rfl) rfl tZ_29 rfl (fun g9 => ?_)
       refine wl_nil ?_
       refine we_x [0, 1, 2, 3, 4, 5] [] rfl rfl ?_
       refine wx_step1 hok 10 rfl rfl rfl rfl ?_
       refine wl_alloc rfl rfl rfl (freshS_eq rfl) rfl tZ_29 rfl (fun g10 => ?_)
       refine wl_nil ?_
       refine we_x [0, 1, 2, 3, 4, 5] [] rfl rfl ?_
       refine wx_step1 hok 11 rfl rfl rfl rfl ?_
       refine wl_store 1 0 rfl rfl rfl rfl rfl rfl rfl tS_29 rfl rfl rfl (all' := [_,_,_]) rfl (H' := [_,_,_]) rfl ?_
       refine wl_nil ?_
       refine we_x [0, 1, 2, 3, 4, 5] [] rfl rfl ?_
       refine wx_step1 hok 12 rfl rfl rfl rfl ?_
       refine wl_store 0 0 rfl rfl rfl rfl rfl rfl rfl tS_29 rfl rfl rfl (all' := [_,_,_]) rfl (H' := [_,_,_]) rfl ?_
       refine wl_nil ?_
       refine we_x [0, 1, 2, 3, 4, 5] [] rfl rfl ?_
       refine wx_done hok rfl ?_
       refine we_join (g10, g9) trivial [10, 9, 4, 0, 7] rfl (fun _ _ hφ => ask [5] rfl hφ) rfl
      ·
       refine wl_alloc rfl rfl rfl (freshS_eq rfl) rfl tZ_29 rfl (fun g10 => ?_)
       refine wl_nil ?_
       refine we_x [0, 1, 2, 3, 4, 5] [] rfl rfl ?_
       refine wx_step1 hok 9 rfl rfl rfl rfl ?_
       refine wl_alloc rfl rfl rfl (freshS_eq rfl) rfl tZ_29 rfl (fun g9 => ?_)
       refine wl_nil ?_
       refine we_x [0, 1, 2, 3, 4, 5] [] rfl rfl ?_
       refine wx_step1 hok 11 rfl rfl rfl rfl ?_
       refine wl_store 0 0 rfl rfl rfl rfl rfl rfl rfl tS_29 rfl rfl rfl (all' := [_,_,_]) rfl (H' := [_,_,_]) rfl ?_
       refine wl_nil ?_
       refine we_x [0, 1, 2, 3, 4, 5] [] rfl rfl ?_
       refine wx_step1 hok 12 rfl rfl rfl rfl ?_
       refine wl_store 1 0 rfl rfl rfl rfl rfl rfl rfl tS_29 rfl rfl rfl (all' := [_,_,_]) rfl (H' := [_,_,_]) rfl ?_
       refine wl_nil ?_
       refine we_x [0, 1, 2, 3, 4, 5] [] rfl rfl ?_
       refine wx_done hok rfl ?_
       refine we_pick [1, 0, 2] rfl (H' := [_,_,_]) rfl ?_
       refine we_join (g10, g9) trivial [10, 9, 4, 0, 7] rfl (fun _ _ hφ => ask [5] rfl hφ) rfl
     ·
      rintro ⟨w_6_10_g, w_6_9_g⟩ _
      try dsimp only
      refine wc_seq ?_
      refine wc_seq ?_
      obtain ⟨bj_7, hm, hLj_7⟩ := bindO_some hm
      refine wc_cut (σ := Bool) (fun j_7_68 => bj_7 = j_7_68) (fun j_7_68 => [(10, .pointer (some ⟨w_6_10_g, 0, none⟩)), (9, .pointer (some ⟨w_6_9_g, 0, none⟩)), (4, .pointer (some ⟨g4, 0, none⟩)), (0, .int .u8 a0), (7, .bool j_4_7), (68, .bool j_7_68)]) (fun j_7_68 => [tabF Tryd.prog "internal/strconv.uint64pow10" .u64 Lib.pow10Tab 1 pow10_g]) (fun j_7_68 => [.blk w_6_10_g [.int .u8 (x61.k), .int .i64 (x61.n), .string x61.s] 29, .blk w_6_9_g [.int .u8 (x55.k), .int .i64 (x55.n), .string x55.s] 29, .blk g4 [.int .u8 0, .int .i64 0, .string ((⟨#[]⟩ : ByteArray))] 29]) ?_ ?_
      ·
       refine wc_region ?_
       refine wl_pure rfl rfl rfl (freshS_eq rfl) rfl ?_
       refine wl_pure rfl rfl rfl (freshS_eq rfl) rfl ?_
       refine wl_pure rfl rfl rfl (freshS_eq rfl) rfl ?_
       refine wl_split (d := 65) (S' := [_,_,_,_,_,_,_]) rfl rfl (fun hs65 => ?_) (fun hs65 => ?_)
       ·
        replace hm := iteT hm hs65
        refine wl_off rfl rfl rfl (freshS_eq rfl) ?_
        refine wl_off rfl rfl rfl (freshS_eq rfl) ?_
        refine wl_pure rfl rfl rfl (freshS_eq rfl) rfl ?_
        refine wl_nil ?_
        have hE := (Option.some.inj hm).symm
        refine we_join true hE [10, 9, 4, 0, 7, 68] rfl (fun _ _ hφ => ask [0] rfl hφ) rfl
       ·
        replace hm := iteF hm hs65
        refine wl_pure rfl rfl rfl (freshS_eq rfl) rfl ?_
        refine wl_pure rfl rfl rfl (freshS_eq rfl) rfl ?_
        refine wl_pure rfl rfl rfl (freshS_eq rfl) rfl ?_
        refine wl_nil ?_
        have hE := (Option.some.inj hm).symm
        refine we_join (a0 == 6) hE [10, 9, 4, 0, 7, 68] rfl (fun _ _ hφ => ask [0] rfl hφ) rfl
      ·
       rintro j_7_68 hE
       try dsimp only
       have hm := hLj_7
       rw [hE] at hm
       refine wc_cond rfl (fun hb68 => ?_) (fun hb68 => ?_)
       ·
        replace hm := iteT hm hb68
        refine wc_keep [10, 9, 4, 0] (S' := [_,_,_,_]) rfl ?_
        refine wc_seq ?_
        refine wc_region ?_
        refine wl_loadH 1 0 rfl rfl rfl (freshS_eq rfl) rfl rfl rfl (cs := [_,_,_]) rfl tS_29 tA_29 rfl rfl ?_
        refine wl_loadH 0 0 rfl rfl rfl (freshS_eq rfl) rfl rfl rfl (cs := [_,_,_]) rfl tS_29 tA_29 rfl rfl ?_
        refine wl_bin rfl rfl rfl (freshS_eq rfl) rfl rfl rfl (eqlV _ _ x55 x61) ?_
        refine wl_pure rfl rfl rfl (freshS_eq rfl) rfl ?_
        refine wl_pure rfl rfl rfl (freshS_eq rfl) rfl ?_
        refine wl_bin rfl rfl rfl (freshS_eq rfl) rfl rfl rfl (eqlB _ _ (decide (x55 = x61)) (a0 == 5)) ?_
        obtain ⟨v75, hc75, hm⟩ := bindO_some hm
        refine wl_call [] [0, 1, 2] rfl rfl rfl (freshS_eq rfl) rfl rfl fn_22 rfl (w_ropewalkref01_Truth_s N ((decide (x55 = x61)) == (a0 == 5)) _ hc75) (fun _ _ hφ => ask [0] rfl hφ) rfl (H' := [_,_,_]) rfl ?_
        rintro _ _ _ ⟨rfl, rfl, rfl⟩
        refine wl_store 2 0 rfl rfl rfl rfl rfl rfl rfl tS_29 rfl rfl rfl (all' := [_,_,_]) rfl (H' := [_,_,_]) rfl ?_
        refine wl_pure rfl rfl rfl (freshS_eq rfl) rfl ?_
        refine wl_nil ?_
        refine we_then ?_
        refine wc_keep [5, 4] (S' := [_,_]) rfl ?_
        refine wc_ret ?_
        refine we_then_ret ?_
        have hE := (Option.some.inj hm).symm
        obtain ⟨hE0, hF1⟩ := Prod.mk.inj hE
        obtain ⟨hE1, hE2⟩ := Prod.mk.inj hF1
        clear hE hF1
        replace hE0 := hE0.symm
        subst hE0
        replace hE1 := hE1.symm
        subst hE1
        replace hE2 := hE2.symm
        subst hE2
        refine ret_two (Hr := []) [] Tryd.results12 (res_cell 2 rfl rfl tS_29 tA_29 rfl rfl) (res_tmp rfl) ⟨rfl, rfl, rfl⟩ (fun _ _ hφ => ask [] rfl hφ) rfl rfl (.inl rfl)
       ·
        replace hm := iteF hm hb68
        refine wc_keep [10, 9, 4, 0, 7] (S' := [_,_,_,_,_]) rfl ?_
        refine wc_skip ?_
        refine we_then ?_
        refine wc_seq ?_
        refine wc_seq ?_
        refine wc_region ?_
        refine wl_pure rfl rfl rfl (freshS_eq rfl) rfl ?_
        refine wl_nil ?_
        refine we_then ?_
        refine wc_keep [76, 10, 9, 4, 0] (S' := [_,_,_,_,_]) rfl ?_
        refine wc_cond rfl (fun hb76 => ?_) (fun hb76 => ?_)
        ·
         replace hm := iteT hm hb76
         refine wc_keep [4] (S' := [_]) rfl ?_
         refine wc_seq ?_
         refine wc_region ?_
         refine wl_build rfl rfl rfl (freshS_eq rfl) rfl tZ_29 tP_29 rfl (out := [_,_,_]) rfl ?_
         refine wl_store 2 0 rfl rfl rfl rfl rfl rfl rfl tS_29 rfl rfl rfl (all' := [_,_,_]) rfl (H' := [_,_,_]) rfl ?_
         refine wl_pure rfl rfl rfl (freshS_eq rfl) rfl ?_
         refine wl_nil ?_
         refine we_then ?_
         refine wc_keep [5, 4] (S' := [_,_]) rfl ?_
         refine wc_ret ?_
         refine we_then_ret ?_
         have hE := (Option.some.inj hm).symm
         obtain ⟨hE0, hF1⟩ := Prod.mk.inj hE
         obtain ⟨hE1, hE2⟩ := Prod.mk.inj hF1
         clear hE hF1
         replace hE0 := hE0.symm
         subst hE0
         replace hE1 := hE1.symm
         subst hE1
         replace hE2 := hE2.symm
         subst hE2
         refine ret_two (Hr := []) [] Tryd.results12 (res_cell 2 rfl rfl tS_29 tA_29 rfl rfl) (res_tmp rfl) ⟨rfl, rfl, rfl⟩ (fun _ _ hφ => ask [] rfl hφ) rfl rfl (.inl rfl)
        ·
         replace hm := iteF hm hb76
         refine wc_keep [10, 9, 4, 0] (S' := [_,_,_,_]) rfl ?_
         refine wc_skip ?_
         refine we_then ?_
         refine wc_seq ?_
         refine wc_seq ?_
         refine wc_region ?_
         refine wl_pure rfl rfl rfl (freshS_eq rfl) rfl ?_
         refine wl_nil ?_
         refine we_then ?_
         refine wc_block ?_
         refine wc_seq ?_
         refine wc_region ?_
         refine wl_pure rfl rfl rfl (freshS_eq rfl) rfl ?_
         refine wl_pure rfl rfl rfl (freshS_eq rfl) rfl ?_
         refine wl_nil ?_
         refine we_then ?_
         refine wc_keep [79, 78, 10, 9, 4, 0] (S' := [_,_,_,_,_,_]) rfl ?_
         refine wc_cond rfl (fun hb79 => ?_) (fun hb79 => ?_)
         ·
          replace hm := iteT hm hb79
          refine wc_keep [10, 9, 4] (S' := [_,_,_]) rfl ?_
          refine wc_seq ?_
          refine wc_region ?_
          refine wl_fieldAddr rfl rfl rfl (freshS_eq rfl) rfl rfl tF_29_1 ?_
          refine wl_loadH 1 1 rfl rfl rfl (freshS_eq rfl) rfl rfl rfl (cs := [_]) rfl tS_2 tA_2 rfl rfl ?_
          refine wl_fieldAddr rfl rfl rfl (freshS_eq rfl) rfl rfl tF_29_1 ?_
          refine wl_loadH 0 1 rfl rfl rfl (freshS_eq rfl) rfl rfl rfl (cs := [_]) rfl tS_2 tA_2 rfl rfl ?_
          refine wl_pure rfl rfl rfl (freshS_eq rfl) rfl ?_
          obtain ⟨v86, hc86, hm⟩ := bindO_some hm
          refine wl_call [] [0, 1, 2] rfl rfl rfl (freshS_eq rfl) rfl rfl fn_22 rfl (w_ropewalkref01_Truth_s N (decide (x55.n < x61.n)) _ hc86) (fun _ _ hφ => ask [0] rfl hφ) rfl (H' := [_,_,_]) rfl ?_
          rintro _ _ _ ⟨rfl, rfl, rfl⟩
          refine wl_store 2 0 rfl rfl rfl rfl rfl rfl rfl tS_29 rfl rfl rfl (all' := [_,_,_]) rfl (H' := [_,_,_]) rfl ?_
          refine wl_pure rfl rfl rfl (freshS_eq rfl) rfl ?_
          refine wl_nil ?_
          refine we_then ?_
          refine wc_keep [5, 4] (S' := [_,_]) rfl ?_
          refine wc_ret ?_
          refine we_block_ret ?_
          refine we_then_ret ?_
          have hE := (Option.some.inj hm).symm
          obtain ⟨hE0, hF1⟩ := Prod.mk.inj hE
          obtain ⟨hE1, hE2⟩ := Prod.mk.inj hF1
          clear hE hF1
          replace hE0 := hE0.symm
          subst hE0
          replace hE1 := hE1.symm
          subst hE1
          replace hE2 := hE2.symm
          subst hE2
          refine ret_two (Hr := []) [] Tryd.results12 (res_cell 2 rfl rfl tS_29 tA_29 rfl rfl) (res_tmp rfl) ⟨rfl, rfl, rfl⟩ (fun _ _ hφ => ask [] rfl hφ) rfl rfl (.inl rfl)
         ·
          replace hm := iteF hm hb79
          refine wc_keep [78, 10, 9, 4, 0] (S' := [_,_,_,_,_]) rfl ?_
          refine wc_seq ?_
          refine wc_region ?_
          refine wl_pure rfl rfl rfl (freshS_eq rfl) rfl ?_
          refine wl_pure rfl rfl rfl (freshS_eq rfl) rfl ?_
          refine wl_nil ?_
          refine we_then ?_
          refine wc_keep [87, 78, 10, 9, 4, 0] (S' := [_,_,_,_,_,_]) rfl ?_
          refine wc_cond rfl (fun hb87 => ?_) (fun hb87 => ?_)
          ·
           replace hm := iteT hm hb87
           refine wc_keep [10, 9, 4] (S' := [_,_,_]) rfl ?_
           refine wc_seq ?_
           refine wc_region ?_
           refine wl_fieldAddr rfl rfl rfl (freshS_eq rfl) rfl rfl tF_29_1 ?_
           refine wl_loadH 1 1 rfl rfl rfl (freshS_eq rfl) rfl rfl rfl (cs := [_]) rfl tS_2 tA_2 rfl rfl ?_
           refine wl_fieldAddr rfl rfl rfl (freshS_eq rfl) rfl rfl tF_29_1 ?_
           refine wl_loadH 0 1 rfl rfl rfl (freshS_eq rfl) rfl rfl rfl (cs := [_]) rfl tS_2 tA_2 rfl rfl ?_
           refine wl_pure rfl rfl rfl (freshS_eq rfl) rfl ?_
           obtain ⟨v94, hc94, hm⟩ := bindO_some hm
           refine wl_call [] [0, 1, 2] rfl rfl rfl (freshS_eq rfl) rfl rfl fn_22 rfl (w_ropewalkref01_Truth_s N (decide (x55.n ≤ x61.n)) _ hc94) (fun _ _ hφ => ask [0] rfl hφ) rfl (H' := [_,_,_]) rfl ?_
           rintro _ _ _ ⟨rfl, rfl, rfl⟩
           refine wl_store 2 0 rfl rfl rfl rfl rfl rfl rfl tS_29 rfl rfl rfl (all' := [_,_,_]) rfl (H' := [_,_,_]) rfl ?_
           refine wl_pure rfl rfl rfl (freshS_eq rfl) rfl ?_
           refine wl_nil ?_
           refine we_then ?_
           refine wc_keep [5, 4] (S' := [_,_]) rfl ?_
           refine wc_ret ?_
           refine we_block_ret ?_
           refine we_then_ret ?_
           have hE := (Option.some.inj hm).symm
           obtain ⟨hE0, hF1⟩ := Prod.mk.inj hE
           obtain ⟨hE1, hE2⟩ := Prod.mk.inj hF1
           clear hE hF1
           replace hE0 := hE0.symm
           subst hE0
           replace hE1 := hE1.symm
           subst hE1
           replace hE2 := hE2.symm
           subst hE2
           refine ret_two (Hr := []) [] Tryd.results12 (res_cell 2 rfl rfl tS_29 tA_29 rfl rfl) (res_tmp rfl) ⟨rfl, rfl, rfl⟩ (fun _ _ hφ => ask [] rfl hφ) rfl rfl (.inl rfl)
          ·
           replace hm := iteF hm hb87
           refine wc_keep [78, 10, 9, 4, 0] (S' := [_,_,_,_,_]) rfl ?_
           refine wc_seq ?_
           refine wc_region ?_
           refine wl_pure rfl rfl rfl (freshS_eq rfl) rfl ?_
           refine wl_pure rfl rfl rfl (freshS_eq rfl) rfl ?_
           refine wl_nil ?_
           refine we_then ?_
           refine wc_keep [95, 78, 10, 9, 4, 0] (S' := [_,_,_,_,_,_]) rfl ?_
           refine wc_cond rfl (fun hb95 => ?_) (fun hb95 => ?_)
           ·
            replace hm := iteT hm hb95
            refine wc_keep [10, 9, 4] (S' := [_,_,_]) rfl ?_
            refine wc_seq ?_
            refine wc_region ?_
            refine wl_fieldAddr rfl rfl rfl (freshS_eq rfl) rfl rfl tF_29_1 ?_
            refine wl_loadH 1 1 rfl rfl rfl (freshS_eq rfl) rfl rfl rfl (cs := [_]) rfl tS_2 tA_2 rfl rfl ?_
            refine wl_pure rfl rfl rfl (freshS_eq rfl) rfl ?_
            refine wl_pure rfl rfl rfl (freshS_eq rfl) rfl ?_
            refine wl_split (d := 100) (S' := [_,_,_,_,_,_]) rfl rfl (fun hs100 => ?_) (fun hs100 => ?_)
            ·
             replace hm := iteT hm hs100
             refine wl_fieldAddr rfl rfl rfl (freshS_eq rfl) rfl rfl tF_29_1 ?_
             refine wl_loadH 0 1 rfl rfl rfl (freshS_eq rfl) rfl rfl rfl (cs := [_]) rfl tS_2 tA_2 rfl rfl ?_
             refine wl_pure rfl rfl rfl (freshS_eq rfl) rfl ?_
             refine wl_pure rfl rfl rfl (freshS_eq rfl) rfl ?_
             obtain ⟨v105, hc105, hm⟩ := bindO_some hm
             refine wl_call [] [0, 1, 2] rfl rfl rfl (freshS_eq rfl) rfl rfl fn_22 rfl (w_ropewalkref01_Truth_s N (x61.n != 0) _ hc105) (fun _ _ hφ => ask [0] rfl hφ) rfl (H' := [_,_,_]) rfl ?_
             rintro _ _ _ ⟨rfl, rfl, rfl⟩
             refine wl_store 2 0 rfl rfl rfl rfl rfl rfl rfl tS_29 rfl rfl rfl (all' := [_,_,_]) rfl (H' := [_,_,_]) rfl ?_
             refine wl_pure rfl rfl rfl (freshS_eq rfl) rfl ?_
             refine wl_nil ?_
             refine we_then ?_
             refine wc_keep [5, 4] (S' := [_,_]) rfl ?_
             refine wc_ret ?_
             refine we_block_ret ?_
             refine we_then_ret ?_
             have hE := (Option.some.inj hm).symm
             obtain ⟨hE0, hF1⟩ := Prod.mk.inj hE
             obtain ⟨hE1, hE2⟩ := Prod.mk.inj hF1
             clear hE hF1
             replace hE0 := hE0.symm
             subst hE0
             replace hE1 := hE1.symm
             subst hE1
             replace hE2 := hE2.symm
             subst hE2
             refine ret_two (Hr := []) [] Tryd.results12 (res_cell 2 rfl rfl tS_29 tA_29 rfl rfl) (res_tmp rfl) ⟨rfl, rfl, rfl⟩ (fun _ _ hφ => ask [] rfl hφ) rfl rfl (.inl rfl)
            ·
             replace hm := iteF hm hs100
             refine wl_off rfl rfl rfl (freshS_eq rfl) ?_
             refine wl_off rfl rfl rfl (freshS_eq rfl) ?_
             refine wl_off rfl rfl rfl (freshS_eq rfl) ?_
             refine wl_pure rfl rfl rfl (freshS_eq rfl) rfl ?_
             obtain ⟨v105, hc105, hm⟩ := bindO_some hm
             refine wl_call [] [0, 1, 2] rfl rfl rfl (freshS_eq rfl) rfl rfl fn_22 rfl (w_ropewalkref01_Truth_s N false _ hc105) (fun _ _ hφ => ask [0] rfl hφ) rfl (H' := [_,_,_]) rfl ?_
             rintro _ _ _ ⟨rfl, rfl, rfl⟩
             refine wl_store 2 0 rfl rfl rfl rfl rfl rfl rfl tS_29 rfl rfl rfl (all' := [_,_,_]) rfl (H' := [_,_,_]) rfl ?_
             refine wl_pure rfl rfl rfl (freshS_eq rfl) rfl ?_
             refine wl_nil ?_
             refine we_then ?_
             refine wc_keep [5, 4] (S' := [_,_]) rfl ?_
             refine wc_ret ?_
             refine we_block_ret ?_
             refine we_then_ret ?_
             have hE := (Option.some.inj hm).symm
             obtain ⟨hE0, hF1⟩ := Prod.mk.inj hE
             obtain ⟨hE1, hE2⟩ := Prod.mk.inj hF1
             clear hE hF1
             replace hE0 := hE0.symm
             subst hE0
             replace hE1 := hE1.symm
             subst hE1
             replace hE2 := hE2.symm
             subst hE2
             refine ret_two (Hr := []) [] Tryd.results12 (res_cell 2 rfl rfl tS_29 tA_29 rfl rfl) (res_tmp rfl) ⟨rfl, rfl, rfl⟩ (fun _ _ hφ => ask [] rfl hφ) rfl rfl (.inl rfl)
           ·
            replace hm := iteF hm hb95
            refine wc_keep [78, 10, 9, 4, 0] (S' := [_,_,_,_,_]) rfl ?_
            refine wc_seq ?_
            refine wc_region ?_
            refine wl_pure rfl rfl rfl (freshS_eq rfl) rfl ?_
            refine wl_pure rfl rfl rfl (freshS_eq rfl) rfl ?_
            refine wl_nil ?_
            refine we_then ?_
            refine wc_keep [106, 78, 10, 9, 4, 0] (S' := [_,_,_,_,_,_]) rfl ?_
            refine wc_cond rfl (fun hb106 => ?_) (fun hb106 => ?_)
            ·
             replace hm := iteT hm hb106
             refine wc_keep [10, 9, 4] (S' := [_,_,_]) rfl ?_
             refine wc_seq ?_
             refine wc_region ?_
             refine wl_fieldAddr rfl rfl rfl (freshS_eq rfl) rfl rfl tF_29_1 ?_
             refine wl_loadH 1 1 rfl rfl rfl (freshS_eq rfl) rfl rfl rfl (cs := [_]) rfl tS_2 tA_2 rfl rfl ?_
             refine wl_pure rfl rfl rfl (freshS_eq rfl) rfl ?_
             refine wl_pure rfl rfl rfl (freshS_eq rfl) rfl ?_
             refine wl_split (d := 111) (S' := [_,_,_,_,_,_]) rfl rfl (fun hs111 => ?_) (fun hs111 => ?_)
             ·
              replace hm := iteT hm hs111
              refine wl_off rfl rfl rfl (freshS_eq rfl) ?_
              refine wl_off rfl rfl rfl (freshS_eq rfl) ?_
              refine wl_off rfl rfl rfl (freshS_eq rfl) ?_
              refine wl_pure rfl rfl rfl (freshS_eq rfl) rfl ?_
              obtain ⟨v116, hc116, hm⟩ := bindO_some hm
              refine wl_call [] [0, 1, 2] rfl rfl rfl (freshS_eq rfl) rfl rfl fn_22 rfl (w_ropewalkref01_Truth_s N true _ hc116) (fun _ _ hφ => ask [0] rfl hφ) rfl (H' := [_,_,_]) rfl ?_
              rintro _ _ _ ⟨rfl, rfl, rfl⟩
              refine wl_store 2 0 rfl rfl rfl rfl rfl rfl rfl tS_29 rfl rfl rfl (all' := [_,_,_]) rfl (H' := [_,_,_]) rfl ?_
              refine wl_pure rfl rfl rfl (freshS_eq rfl) rfl ?_
              refine wl_nil ?_
              refine we_then ?_
              refine wc_keep [5, 4] (S' := [_,_]) rfl ?_
              refine wc_ret ?_
              refine we_block_ret ?_
              refine we_then_ret ?_
              have hE := (Option.some.inj hm).symm
              obtain ⟨hE0, hF1⟩ := Prod.mk.inj hE
              obtain ⟨hE1, hE2⟩ := Prod.mk.inj hF1
              clear hE hF1
              replace hE0 := hE0.symm
              subst hE0
              replace hE1 := hE1.symm
              subst hE1
              replace hE2 := hE2.symm
              subst hE2
              refine ret_two (Hr := []) [] Tryd.results12 (res_cell 2 rfl rfl tS_29 tA_29 rfl rfl) (res_tmp rfl) ⟨rfl, rfl, rfl⟩ (fun _ _ hφ => ask [] rfl hφ) rfl rfl (.inl rfl)
             ·
              replace hm := iteF hm hs111
              refine wl_fieldAddr rfl rfl rfl (freshS_eq rfl) rfl rfl tF_29_1 ?_
              refine wl_loadH 0 1 rfl rfl rfl (freshS_eq rfl) rfl rfl rfl (cs := [_]) rfl tS_2 tA_2 rfl rfl ?_
              refine wl_pure rfl rfl rfl (freshS_eq rfl) rfl ?_
              refine wl_pure rfl rfl rfl (freshS_eq rfl) rfl ?_
              obtain ⟨v116, hc116, hm⟩ := bindO_some hm
              refine wl_call [] [0, 1, 2] rfl rfl rfl (freshS_eq rfl) rfl rfl fn_22 rfl (w_ropewalkref01_Truth_s N (x61.n != 0) _ hc116) (fun _ _ hφ => ask [0] rfl hφ) rfl (H' := [_,_,_]) rfl ?_
              rintro _ _ _ ⟨rfl, rfl, rfl⟩
              refine wl_store 2 0 rfl rfl rfl rfl rfl rfl rfl tS_29 rfl rfl rfl (all' := [_,_,_]) rfl (H' := [_,_,_]) rfl ?_
              refine wl_pure rfl rfl rfl (freshS_eq rfl) rfl ?_
              refine wl_nil ?_
              refine we_then ?_
              refine wc_keep [5, 4] (S' := [_,_]) rfl ?_
              refine wc_ret ?_
              refine we_block_ret ?_
              refine we_then_ret ?_
              have hE := (Option.some.inj hm).symm
              obtain ⟨hE0, hF1⟩ := Prod.mk.inj hE
              obtain ⟨hE1, hE2⟩ := Prod.mk.inj hF1
              clear hE hF1
              replace hE0 := hE0.symm
              subst hE0
              replace hE1 := hE1.symm
              subst hE1
              replace hE2 := hE2.symm
              subst hE2
              refine ret_two (Hr := []) [] Tryd.results12 (res_cell 2 rfl rfl tS_29 tA_29 rfl rfl) (res_tmp rfl) ⟨rfl, rfl, rfl⟩ (fun _ _ hφ => ask [] rfl hφ) rfl rfl (.inl rfl)
            ·
             replace hm := iteF hm hb106
             refine wc_keep [78, 10, 9, 4, 0] (S' := [_,_,_,_,_]) rfl ?_
             refine wc_seq ?_
             refine wc_region ?_
             refine wl_pure rfl rfl rfl (freshS_eq rfl) rfl ?_
             refine wl_pure rfl rfl rfl (freshS_eq rfl) rfl ?_
             refine wl_nil ?_
             refine we_then ?_
             refine wc_keep [117, 10, 9, 4, 0] (S' := [_,_,_,_,_]) rfl ?_
             refine wc_cond rfl (fun hb117 => ?_) (fun hb117 => ?_)
             ·
              replace hm := iteT hm hb117
              refine wc_keep [9, 4] (S' := [_,_]) rfl ?_
              refine wc_seq ?_
              refine wc_region ?_
              refine wl_fieldAddr rfl rfl rfl (freshS_eq rfl) rfl rfl tF_29_1 ?_
              refine wl_loadH 1 1 rfl rfl rfl (freshS_eq rfl) rfl rfl rfl (cs := [_]) rfl tS_2 tA_2 rfl rfl ?_
              refine wl_pure rfl rfl rfl (freshS_eq rfl) rfl ?_
              obtain ⟨v122, hc122, hm⟩ := bindO_some hm
              refine wl_call [] [0, 1, 2] rfl rfl rfl (freshS_eq rfl) rfl rfl fn_22 rfl (w_ropewalkref01_Truth_s N (x55.n == 0) _ hc122) (fun _ _ hφ => ask [0] rfl hφ) rfl (H' := [_,_,_]) rfl ?_
              rintro _ _ _ ⟨rfl, rfl, rfl⟩
              refine wl_store 2 0 rfl rfl rfl rfl rfl rfl rfl tS_29 rfl rfl rfl (all' := [_,_,_]) rfl (H' := [_,_,_]) rfl ?_
              refine wl_pure rfl rfl rfl (freshS_eq rfl) rfl ?_
              refine wl_nil ?_
              refine we_then ?_
              refine wc_keep [5, 4] (S' := [_,_]) rfl ?_
              refine wc_ret ?_
              refine we_block_ret ?_
              refine we_then_ret ?_
              have hE := (Option.some.inj hm).symm
              obtain ⟨hE0, hF1⟩ := Prod.mk.inj hE
              obtain ⟨hE1, hE2⟩ := Prod.mk.inj hF1
              clear hE hF1
              replace hE0 := hE0.symm
              subst hE0
              replace hE1 := hE1.symm
              subst hE1
              replace hE2 := hE2.symm
              subst hE2
              refine ret_two (Hr := []) [] Tryd.results12 (res_cell 2 rfl rfl tS_29 tA_29 rfl rfl) (res_tmp rfl) ⟨rfl, rfl, rfl⟩ (fun _ _ hφ => ask [] rfl hφ) rfl rfl (.inl rfl)
             ·
              replace hm := iteF hm hb117
              refine wc_keep [10, 9, 4, 0] (S' := [_,_,_,_]) rfl ?_
              refine wc_skip ?_
              refine we_block_normal ?_
              refine we_then ?_
              refine wc_seq ?_
              refine wc_region ?_
              refine wl_pure rfl rfl rfl (freshS_eq rfl) rfl ?_
              refine wl_fieldAddr rfl rfl rfl (freshS_eq rfl) rfl rfl tF_29_1 ?_
              refine wl_loadH 1 1 rfl rfl rfl (freshS_eq rfl) rfl rfl rfl (cs := [_]) rfl tS_2 tA_2 rfl rfl ?_
              refine wl_fieldAddr rfl rfl rfl (freshS_eq rfl) rfl rfl tF_29_1 ?_
              refine wl_loadH 0 1 rfl rfl rfl (freshS_eq rfl) rfl rfl rfl (cs := [_]) rfl tS_2 tA_2 rfl rfl ?_
              obtain ⟨⟨v129_0, v129_1⟩, hc129, hm⟩ := bindO_some hm
              try dsimp only at hm
              refine wl_call [] [0, 1, 2] rfl rfl rfl (freshS_eq rfl) rfl rfl fn_26 rfl (w_ropewalkref01_reckoned_s N a0 x55.n x61.n _ _ hc129) (fun _ _ hφ => ask [0] rfl hφ) rfl (H' := [_,_,_]) rfl ?_
              rintro _ _ _ ⟨rfl, rfl, rfl⟩
              refine wl_pure rfl rfl rfl (freshS_eq rfl) rfl ?_
              refine wl_pure rfl rfl rfl (freshS_eq rfl) rfl ?_
              refine wl_pure rfl rfl rfl (freshS_eq rfl) rfl ?_
              refine wl_pure rfl rfl rfl (freshS_eq rfl) rfl ?_
              refine wl_pure rfl rfl rfl (freshS_eq rfl) rfl ?_
              refine wl_nil ?_
              refine we_then ?_
              refine wc_keep [12, 11, 4] (S' := [_,_,_]) rfl ?_
              refine wc_seq ?_
              refine wc_seq ?_
              refine wc_region ?_
              refine wl_pure rfl rfl rfl (freshS_eq rfl) rfl ?_
              refine wl_pure rfl rfl rfl (freshS_eq rfl) rfl ?_
              refine wl_nil ?_
              refine we_then ?_
              refine wc_keep [133, 11, 4] (S' := [_,_,_]) rfl ?_
              refine wc_cond rfl (fun hb133 => ?_) (fun hb133 => ?_)
              ·
               replace hm := iteT hm hb133
               refine wc_keep [4] (S' := [_]) rfl ?_
               refine wc_seq ?_
               refine wc_region ?_
               refine wl_build rfl rfl rfl (freshS_eq rfl) rfl tZ_29 tP_29 rfl (out := [_,_,_]) rfl ?_
               refine wl_store 2 0 rfl rfl rfl rfl rfl rfl rfl tS_29 rfl rfl rfl (all' := [_,_,_]) rfl (H' := [_,_,_]) rfl ?_
               refine wl_pure rfl rfl rfl (freshS_eq rfl) rfl ?_
               refine wl_nil ?_
               refine we_then ?_
               refine wc_keep [5, 4] (S' := [_,_]) rfl ?_
               refine wc_ret ?_
               refine we_then_ret ?_
               have hE := (Option.some.inj hm).symm
               obtain ⟨hE0, hF1⟩ := Prod.mk.inj hE
               obtain ⟨hE1, hE2⟩ := Prod.mk.inj hF1
               clear hE hF1
               replace hE0 := hE0.symm
               subst hE0
               replace hE1 := hE1.symm
               subst hE1
               replace hE2 := hE2.symm
               subst hE2
               refine ret_two (Hr := []) [] Tryd.results12 (res_cell 2 rfl rfl tS_29 tA_29 rfl rfl) (res_tmp rfl) ⟨rfl, rfl, rfl⟩ (fun _ _ hφ => ask [] rfl hφ) rfl rfl (.inl rfl)
              ·
               replace hm := iteF hm hb133
               refine wc_keep [11, 4] (S' := [_,_]) rfl ?_
               refine wc_skip ?_
               refine we_then ?_
               refine wc_seq ?_
               refine wc_region ?_
               refine wl_pure rfl rfl rfl (freshS_eq rfl) rfl ?_
               obtain ⟨_, hc136, hm⟩ := bindO_some hm
               try dsimp only at hm
               refine wl_call [] [0, 1, 2] rfl rfl rfl (freshS_eq rfl) rfl rfl fn_14 rfl (w_ropewalkref01_Number_s N v129_0 hc136) (fun _ _ hφ => ask [0] rfl hφ) rfl (H' := [_,_,_]) rfl ?_
               rintro _ _ _ ⟨rfl, rfl, rfl⟩
               refine wl_store 2 0 rfl rfl rfl rfl rfl rfl rfl tS_29 rfl rfl rfl (all' := [_,_,_]) rfl (H' := [_,_,_]) rfl ?_
               refine wl_pure rfl rfl rfl (freshS_eq rfl) rfl ?_
               refine wl_nil ?_
               refine we_then ?_
               refine wc_keep [5, 4] (S' := [_,_]) rfl ?_
               refine wc_ret ?_
               have hE := (Option.some.inj hm).symm
               obtain ⟨hE0, hF1⟩ := Prod.mk.inj hE
               obtain ⟨hE1, hE2⟩ := Prod.mk.inj hF1
               clear hE hF1
               replace hE0 := hE0.symm
               subst hE0
               replace hE1 := hE1.symm
               subst hE1
               replace hE2 := hE2.symm
               subst hE2
               refine ret_two (Hr := []) [] Tryd.results12 (res_cell 2 rfl rfl tS_29 tA_29 rfl rfl) (res_tmp rfl) ⟨rfl, rfl, rfl⟩ (fun _ _ hφ => ask [] rfl hφ) rfl rfl (.inl rfl)
set_option maxRecDepth 100000 in
set_option maxHeartbeats 4000000 in
theorem w_ropewalklaw01_ValueNumbers_s (N : Nat)  (o0 : Bool) (hm : m_ropewalklaw01_ValueNumbers N = some o0) : Spec Tryd.prog 4 [] [tabF Tryd.prog "internal/strconv.uint64pow10" .u64 Lib.pow10Tab 1 pow10_g] [] (fun v Φr Hr => v = .bool o0 ∧ Φr = [] ∧ Hr = []) := by
 unfold m_ropewalklaw01_ValueNumbers at hm
 refine spec_of Tryd.func4 rfl Tryd.ntmps4 rfl (S := []) rfl (fun C => ?_)
 refine wc_seq ?_
 refine wc_region ?_
 refine wl_pure rfl rfl rfl (freshS_eq rfl) rfl ?_
 refine wl_nil ?_
 refine we_then ?_
 refine wc_keep [] (S' := []) rfl ?_
 refine wc_seq ?_
 refine wc_seq ?_
 refine wc_region ?_
 obtain ⟨v14, hc14, hm⟩ := bindO_some hm
 refine wl_call [] [] rfl rfl rfl (freshS_eq rfl) rfl rfl fn_8 rfl (w_ropewalklaw01_awake_s N _ hc14) (fun _ _ hφ => ask [0] rfl hφ) rfl (H' := []) rfl ?_
 rintro _ _ _ ⟨rfl, rfl, rfl⟩
 refine wl_pure rfl rfl rfl (freshS_eq rfl) rfl ?_
 refine wl_nil ?_
 refine we_then ?_
 refine wc_keep [15] (S' := [_]) rfl ?_
 refine wc_cond rfl (fun hb15 => ?_) (fun hb15 => ?_)
 ·
  replace hm := iteT hm hb15
  refine wc_keep [] (S' := []) rfl ?_
  refine wc_seq ?_
  refine wc_region ?_
  refine wl_pure rfl rfl rfl (freshS_eq rfl) rfl ?_
  refine wl_nil ?_
  refine we_then ?_
  refine wc_ret ?_
  refine we_then_ret ?_
  have hE := (Option.some.inj hm).symm
  replace hE := hE.symm
  subst hE
  refine ret_one (Hr := []) [] Tryd.results4 (res_tmp rfl) ⟨rfl, rfl, rfl⟩ (fun _ _ hφ => ask [] rfl hφ) rfl rfl (.inl rfl)
 ·
  replace hm := iteF hm hb15
  refine wc_keep [] (S' := []) rfl ?_
  refine wc_skip ?_
  refine we_then ?_
  refine wc_seq ?_
  refine wc_region ?_
  refine wl_buildSlice rfl rfl rfl (freshS_eq rfl) rfl tE_36 tS_2 tZ_2 rfl (zs := [.int .i64 0, .int .i64 0, .int .i64 0, .int .i64 0, .int .i64 0, .int .i64 0, .int .i64 0, .int .i64 0, .int .i64 0, .int .i64 0, .int .i64 0, .int .i64 0, .int .i64 0, .int .i64 0, .int .i64 0]) (by kernel_rfl) rfl (out := [_,_,_,_,_,_,_,_,_,_,_,_,_,_,_]) rfl (fun g16 => ?_)
  refine wl_pure rfl rfl rfl (freshS_eq rfl) rfl ?_
  refine wl_nil ?_
  refine we_then ?_
  refine wc_keep [1] (S' := [_]) rfl ?_
  refine wc_seq ?_
  obtain ⟨bj_1, hm, hLj_1⟩ := bindS_some hm
  refine wc_cut (σ := Unit) (fun _ => bj_1 = .inl ()) (fun _ => []) (fun _ => [tabF Tryd.prog "internal/strconv.uint64pow10" .u64 Lib.pow10Tab 1 pow10_g]) (fun _ => []) ?_ ?_
  ·
   refine wc_seq ?_
   refine wc_region ?_
   refine wl_pure rfl rfl rfl (freshS_eq rfl) rfl ?_
   refine wl_nil ?_
   refine we_then ?_
   refine wc_block ?_
   refine wc_row (sz := 1) (m := 15) R_i64 ([0, 1, -1, 2, -2, 2147483647, 2147483648, -2147483648, 4294967297, 4611686018427387903, 4611686018427387904, -4611686018427387904, 9223372036854775807, -9223372036854775807, -9223372036854775808]) 0 rfl (fun F w hφ => ⟨[.int .i64 0], [.int .i64 1, .int .i64 (-1), .int .i64 2, .int .i64 (-2), .int .i64 2147483647, .int .i64 2147483648, .int .i64 (-2147483648), .int .i64 4294967297, .int .i64 4611686018427387903, .int .i64 4611686018427387904, .int .i64 (-4611686018427387904), .int .i64 9223372036854775807, .int .i64 (-9223372036854775807), .int .i64 (-9223372036854775808)], rfl, rfl, ⟨(), rfl, ask_nil⟩, ⟨[.int .i64 1], [.int .i64 (-1), .int .i64 2, .int .i64 (-2), .int .i64 2147483647, .int .i64 2147483648, .int .i64 (-2147483648), .int .i64 4294967297, .int .i64 4611686018427387903, .int .i64 4611686018427387904, .int .i64 (-4611686018427387904), .int .i64 9223372036854775807, .int .i64 (-9223372036854775807), .int .i64 (-9223372036854775808)], rfl, rfl, ⟨(), rfl, ask_nil⟩, ⟨[.int .i64 (-1)], [.int .i64 2, .int .i64 (-2), .int .i64 2147483647, .int .i64 2147483648, .int .i64 (-2147483648), .int .i64 4294967297, .int .i64 4611686018427387903, .int .i64 4611686018427387904, .int .i64 (-4611686018427387904), .int .i64 9223372036854775807, .int .i64 (-9223372036854775807), .int .i64 (-9223372036854775808)], rfl, rfl, ⟨(), rfl, ask_nil⟩, ⟨[.int .i64 2], [.int .i64 (-2), .int .i64 2147483647, .int .i64 2147483648, .int .i64 (-2147483648), .int .i64 4294967297, .int .i64 4611686018427387903, .int .i64 4611686018427387904, .int .i64 (-4611686018427387904), .int .i64 9223372036854775807, .int .i64 (-9223372036854775807), .int .i64 (-9223372036854775808)], rfl, rfl, ⟨(), rfl, ask_nil⟩, ⟨[.int .i64 (-2)], [.int .i64 2147483647, .int .i64 2147483648, .int .i64 (-2147483648), .int .i64 4294967297, .int .i64 4611686018427387903, .int .i64 4611686018427387904, .int .i64 (-4611686018427387904), .int .i64 9223372036854775807, .int .i64 (-9223372036854775807), .int .i64 (-9223372036854775808)], rfl, rfl, ⟨(), rfl, ask_nil⟩, ⟨[.int .i64 2147483647], [.int .i64 2147483648, .int .i64 (-2147483648), .int .i64 4294967297, .int .i64 4611686018427387903, .int .i64 4611686018427387904, .int .i64 (-4611686018427387904), .int .i64 9223372036854775807, .int .i64 (-9223372036854775807), .int .i64 (-9223372036854775808)], rfl, rfl, ⟨(), rfl, ask_nil⟩, ⟨[.int .i64 2147483648], [.int .i64 (-2147483648), .int .i64 4294967297, .int .i64 4611686018427387903, .int .i64 4611686018427387904, .int .i64 (-4611686018427387904), .int .i64 9223372036854775807, .int .i64 (-9223372036854775807), .int .i64 (-9223372036854775808)], rfl, rfl, ⟨(), rfl, ask_nil⟩, ⟨[.int .i64 (-2147483648)], [.int .i64 4294967297, .int .i64 4611686018427387903, .int .i64 4611686018427387904, .int .i64 (-4611686018427387904), .int .i64 9223372036854775807, .int .i64 (-9223372036854775807), .int .i64 (-9223372036854775808)], rfl, rfl, ⟨(), rfl, ask_nil⟩, ⟨[.int .i64 4294967297], [.int .i64 4611686018427387903, .int .i64 4611686018427387904, .int .i64 (-4611686018427387904), .int .i64 9223372036854775807, .int .i64 (-9223372036854775807), .int .i64 (-9223372036854775808)], rfl, rfl, ⟨(), rfl, ask_nil⟩, ⟨[.int .i64 4611686018427387903], [.int .i64 4611686018427387904, .int .i64 (-4611686018427387904), .int .i64 9223372036854775807, .int .i64 (-9223372036854775807), .int .i64 (-9223372036854775808)], rfl, rfl, ⟨(), rfl, ask_nil⟩, ⟨[.int .i64 4611686018427387904], [.int .i64 (-4611686018427387904), .int .i64 9223372036854775807, .int .i64 (-9223372036854775807), .int .i64 (-9223372036854775808)], rfl, rfl, ⟨(), rfl, ask_nil⟩, ⟨[.int .i64 (-4611686018427387904)], [.int .i64 9223372036854775807, .int .i64 (-9223372036854775807), .int .i64 (-9223372036854775808)], rfl, rfl, ⟨(), rfl, ask_nil⟩, ⟨[.int .i64 9223372036854775807], [.int .i64 (-9223372036854775807), .int .i64 (-9223372036854775808)], rfl, rfl, ⟨(), rfl, ask_nil⟩, ⟨[.int .i64 (-9223372036854775807)], [.int .i64 (-9223372036854775808)], rfl, rfl, ⟨(), rfl, ask_nil⟩, ⟨[.int .i64 (-9223372036854775808)], [], rfl, rfl, ⟨(), rfl, ask_nil⟩, rfl⟩⟩⟩⟩⟩⟩⟩⟩⟩⟩⟩⟩⟩⟩⟩) rfl (by decide) (H' := [_]) rfl ?_
   refine wc_loop (σ := Nat × Nat) (fun (nu1, u1_2) => iter (m_ropewalklaw01_ValueNumbers_L1 N) nu1 u1_2 = some bj_1) (fun (nu1, u1_2) => nu1) (fun (nu1, u1_2) => [(2, .int .i64 ((u1_2 : Nat) : Int)), (1, .slice (some ⟨g16, 0, none⟩) ([0, 1, -1, 2, -2, 2147483647, 2147483648, -2147483648, 4294967297, 4611686018427387903, 4611686018427387904, -4611686018427387904, 9223372036854775807, -9223372036854775807, -9223372036854775808].length) 15)]) (fun (nu1, u1_2) => [tabF Tryd.prog "internal/strconv.uint64pow10" .u64 Lib.pow10Tab 1 pow10_g]) (fun (nu1, u1_2) => [.own 2 1 R_i64 (.slice (some ⟨g16, 0, none⟩) ([0, 1, -1, 2, -2, 2147483647, 2147483648, -2147483648, 4294967297, 4611686018427387903, 4611686018427387904, -4611686018427387904, 9223372036854775807, -9223372036854775807, -9223372036854775808].length) 15) ([0, 1, -1, 2, -2, 2147483647, 2147483648, -2147483648, 4294967297, 4611686018427387903, 4611686018427387904, -4611686018427387904, 9223372036854775807, -9223372036854775807, -9223372036854775808])]) (N, 0) hm [2, 1] rfl (fun _ _ hφ => ask [0] rfl hφ) rfl (fun s_ hm => ?_)
   obtain ⟨nu1, u1_2⟩ := s_
   try dsimp only at hm ⊢
   obtain ⟨mu1, bu1, hnu1, hq, hLu1⟩ := iter_some hm
   clear hm
   subst hnu1
   replace hm := hq
   clear hq
   unfold m_ropewalklaw01_ValueNumbers_L1 at hm
   try dsimp only at hm
   refine wc_seq ?_
   refine wc_seq ?_
   refine wc_region ?_
   refine wl_pure rfl rfl rfl (freshS_eq rfl) rfl ?_
   refine wl_pure rfl rfl rfl (freshS_eq rfl) rfl ?_
   refine wl_len rfl rfl rfl (freshS_eq rfl) rfl rfl tE_36 ?_
   refine wl_pure rfl rfl rfl (freshS_eq rfl) rfl ?_
   refine wl_as (d := 20) (v' := .bool (decide (u1_2 < ([0, 1, -1, 2, -2, 2147483647, 2147483648, -2147483648, 4294967297, 4611686018427387903, 4611686018427387904, -4611686018427387904, 9223372036854775807, -9223372036854775807, -9223372036854775808].length)))) (S' := [_,_,_,_,_]) rfl rfl (natlt (a := u1_2) (b := [0, 1, -1, 2, -2, 2147483647, 2147483648, -2147483648, 4294967297, 4611686018427387903, 4611686018427387904, -4611686018427387904, 9223372036854775807, -9223372036854775807, -9223372036854775808].length)) ?_
   refine wl_nil ?_
   refine we_then ?_
   refine wc_keep [20, 2, 1] (S' := [_,_,_]) rfl ?_
   refine wc_cond rfl (fun hb20 => ?_) (fun hb20 => ?_)
   ·
    replace hm := iteT hm hb20
    refine wc_keep [2, 1] (S' := [_,_]) rfl ?_
    refine wc_skip ?_
    refine we_then ?_
    refine wc_seq ?_
    obtain ⟨bj_2, hm, hLj_2⟩ := bindS_some hm
    refine wc_cut (σ := Unit) (fun _ => bj_2 = .inl ()) (fun _ => [(2, .int .i64 ((u1_2 : Nat) : Int)), (1, .slice (some ⟨g16, 0, none⟩) ([0, 1, -1, 2, -2, 2147483647, 2147483648, -2147483648, 4294967297, 4611686018427387903, 4611686018427387904, -4611686018427387904, 9223372036854775807, -9223372036854775807, -9223372036854775808].length) 15)]) (fun _ => [tabF Tryd.prog "internal/strconv.uint64pow10" .u64 Lib.pow10Tab 1 pow10_g]) (fun _ => [.own 2 1 R_i64 (.slice (some ⟨g16, 0, none⟩) ([0, 1, -1, 2, -2, 2147483647, 2147483648, -2147483648, 4294967297, 4611686018427387903, 4611686018427387904, -4611686018427387904, 9223372036854775807, -9223372036854775807, -9223372036854775808].length) 15) ([0, 1, -1, 2, -2, 2147483647, 2147483648, -2147483648, 4294967297, 4611686018427387903, 4611686018427387904, -4611686018427387904, 9223372036854775807, -9223372036854775807, -9223372036854775808])]) ?_ ?_
    ·
     refine wc_block ?_
     refine wc_seq ?_
     refine wc_region ?_
     refine wl_pure rfl rfl rfl (freshS_eq rfl) rfl ?_
     refine wl_nil ?_
     refine we_then ?_
     refine wc_block ?_
     refine wc_loop (σ := Nat × Nat) (fun (nu2, u2_3) => iter (m_ropewalklaw01_ValueNumbers_L2 N u1_2) nu2 u2_3 = some bj_2) (fun (nu2, u2_3) => nu2) (fun (nu2, u2_3) => [(3, .int .i64 ((u2_3 : Nat) : Int)), (2, .int .i64 ((u1_2 : Nat) : Int)), (1, .slice (some ⟨g16, 0, none⟩) ([0, 1, -1, 2, -2, 2147483647, 2147483648, -2147483648, 4294967297, 4611686018427387903, 4611686018427387904, -4611686018427387904, 9223372036854775807, -9223372036854775807, -9223372036854775808].length) 15)]) (fun (nu2, u2_3) => [tabF Tryd.prog "internal/strconv.uint64pow10" .u64 Lib.pow10Tab 1 pow10_g]) (fun (nu2, u2_3) => [.own 2 1 R_i64 (.slice (some ⟨g16, 0, none⟩) ([0, 1, -1, 2, -2, 2147483647, 2147483648, -2147483648, 4294967297, 4611686018427387903, 4611686018427387904, -4611686018427387904, 9223372036854775807, -9223372036854775807, -9223372036854775808].length) 15) ([0, 1, -1, 2, -2, 2147483647, 2147483648, -2147483648, 4294967297, 4611686018427387903, 4611686018427387904, -4611686018427387904, 9223372036854775807, -9223372036854775807, -9223372036854775808])]) (N, 0) hm [3, 2, 1] rfl (fun _ _ hφ => ask [0] rfl hφ) rfl (fun s_ hm => ?_)
     obtain ⟨nu2, u2_3⟩ := s_
     try dsimp only at hm ⊢
     obtain ⟨mu2, bu2, hnu2, hq, hLu2⟩ := iter_some hm
     clear hm
     subst hnu2
     replace hm := hq
     clear hq
     unfold m_ropewalklaw01_ValueNumbers_L2 at hm
     try dsimp only at hm
     refine wc_seq ?_
     refine wc_seq ?_
     refine wc_region ?_
     refine wl_pure rfl rfl rfl (freshS_eq rfl) rfl ?_
     refine wl_pure rfl rfl rfl (freshS_eq rfl) rfl ?_
     refine wl_len rfl rfl rfl (freshS_eq rfl) rfl rfl tE_36 ?_
     refine wl_pure rfl rfl rfl (freshS_eq rfl) rfl ?_
     refine wl_as (d := 26) (v' := .bool (decide (u2_3 < ([0, 1, -1, 2, -2, 2147483647, 2147483648, -2147483648, 4294967297, 4611686018427387903, 4611686018427387904, -4611686018427387904, 9223372036854775807, -9223372036854775807, -9223372036854775808].length)))) (S' := [_,_,_,_,_,_]) rfl rfl (natlt (a := u2_3) (b := [0, 1, -1, 2, -2, 2147483647, 2147483648, -2147483648, 4294967297, 4611686018427387903, 4611686018427387904, -4611686018427387904, 9223372036854775807, -9223372036854775807, -9223372036854775808].length)) ?_
     refine wl_nil ?_
     refine we_then ?_
     refine wc_keep [26, 3, 2, 1] (S' := [_,_,_,_]) rfl ?_
     refine wc_cond rfl (fun hb26 => ?_) (fun hb26 => ?_)
     ·
      replace hm := iteT hm hb26
      refine wc_keep [3, 2, 1] (S' := [_,_,_]) rfl ?_
      refine wc_skip ?_
      refine we_then ?_
      refine wc_seq ?_
      obtain ⟨bj_3, hm, hLj_3⟩ := bindS_some hm
      refine wc_cut (σ := Unit) (fun _ => bj_3 = .inl ()) (fun _ => [(3, .int .i64 ((u2_3 : Nat) : Int)), (2, .int .i64 ((u1_2 : Nat) : Int)), (1, .slice (some ⟨g16, 0, none⟩) ([0, 1, -1, 2, -2, 2147483647, 2147483648, -2147483648, 4294967297, 4611686018427387903, 4611686018427387904, -4611686018427387904, 9223372036854775807, -9223372036854775807, -9223372036854775808].length) 15)]) (fun _ => [tabF Tryd.prog "internal/strconv.uint64pow10" .u64 Lib.pow10Tab 1 pow10_g]) (fun _ => [.own 2 1 R_i64 (.slice (some ⟨g16, 0, none⟩) ([0, 1, -1, 2, -2, 2147483647, 2147483648, -2147483648, 4294967297, 4611686018427387903, 4611686018427387904, -4611686018427387904, 9223372036854775807, -9223372036854775807, -9223372036854775808].length) 15) ([0, 1, -1, 2, -2, 2147483647, 2147483648, -2147483648, 4294967297, 4611686018427387903, 4611686018427387904, -4611686018427387904, 9223372036854775807, -9223372036854775807, -9223372036854775808])]) ?_ ?_
      ·
       refine wc_block ?_
       refine wc_seq ?_
       refine wc_region ?_
       refine wl_pure rfl rfl rfl (freshS_eq rfl) rfl ?_
       refine wl_nil ?_
       refine we_then ?_
       refine wc_block ?_
       refine wc_loop (σ := Nat × Int) (fun (nu3, u3_4) => iter (m_ropewalklaw01_ValueNumbers_L3 N u1_2 u2_3) nu3 u3_4 = some bj_3) (fun (nu3, u3_4) => nu3) (fun (nu3, u3_4) => [(4, .int .u8 u3_4), (3, .int .i64 ((u2_3 : Nat) : Int)), (2, .int .i64 ((u1_2 : Nat) : Int)), (1, .slice (some ⟨g16, 0, none⟩) ([0, 1, -1, 2, -2, 2147483647, 2147483648, -2147483648, 4294967297, 4611686018427387903, 4611686018427387904, -4611686018427387904, 9223372036854775807, -9223372036854775807, -9223372036854775808].length) 15)]) (fun (nu3, u3_4) => [tabF Tryd.prog "internal/strconv.uint64pow10" .u64 Lib.pow10Tab 1 pow10_g]) (fun (nu3, u3_4) => [.own 2 1 R_i64 (.slice (some ⟨g16, 0, none⟩) ([0, 1, -1, 2, -2, 2147483647, 2147483648, -2147483648, 4294967297, 4611686018427387903, 4611686018427387904, -4611686018427387904, 9223372036854775807, -9223372036854775807, -9223372036854775808].length) 15) ([0, 1, -1, 2, -2, 2147483647, 2147483648, -2147483648, 4294967297, 4611686018427387903, 4611686018427387904, -4611686018427387904, 9223372036854775807, -9223372036854775807, -9223372036854775808])]) (N, 0) hm [4, 3, 2, 1] rfl (fun _ _ hφ => ask [0] rfl hφ) rfl (fun s_ hm => ?_)
       obtain ⟨nu3, u3_4⟩ := s_
       try dsimp only at hm ⊢
       obtain ⟨mu3, bu3, hnu3, hq, hLu3⟩ := iter_some hm
       clear hm
       subst hnu3
       replace hm := hq
       clear hq
       unfold m_ropewalklaw01_ValueNumbers_L3 at hm
       try dsimp only at hm
       refine wc_seq ?_
       refine wc_seq ?_
       refine wc_region ?_
       refine wl_pure rfl rfl rfl (freshS_eq rfl) rfl ?_
       refine wl_pure rfl rfl rfl (freshS_eq rfl) rfl ?_
       refine wl_nil ?_
       refine we_then ?_
       refine wc_keep [30, 4, 3, 2, 1] (S' := [_,_,_,_,_]) rfl ?_
       refine wc_cond rfl (fun hb30 => ?_) (fun hb30 => ?_)
       ·
        replace hm := iteT hm hb30
        refine wc_keep [4, 3, 2, 1] (S' := [_,_,_,_]) rfl ?_
        refine wc_skip ?_
        refine we_then ?_
        refine wc_seq ?_
        refine wc_block ?_
        refine wc_seq ?_
        obtain ⟨x35, hx35, hm⟩ := bindO_some hm
        obtain ⟨_, hc37, hm⟩ := bindO_some hm
        try dsimp only at hm
        obtain ⟨x40, hx40, hm⟩ := bindO_some hm
        obtain ⟨_, hc42, hm⟩ := bindO_some hm
        try dsimp only at hm
        refine wc_draw [0, 1, 2, 3, 5, 6, 7, 8] rfl rfl (fun hok => ?_)
        refine wx_pure hok 0 rfl rfl rfl (freshS_eq rfl) rfl rfl ?_
        refine wx_pure hok 1 rfl rfl rfl (freshS_eq rfl) rfl rfl ?_
        refine wx_indexK hok 2 0 u1_2 rfl rfl rfl (freshS_eq rfl) rfl rfl rfl rfl rfl rfl (get_lt hx35) tE_36 tS_2 ?_
        refine wx_loadRow hok 3 R_i64_opens 0 u1_2 0 rfl rfl rfl (freshS_eq rfl) rfl rfl rfl rfl hx35 tS_2 tA_2 (v := .int .i64 x35) rfl rfl (fun _ => ?_)
        refine wx_pure hok 5 rfl rfl rfl (freshS_eq rfl) rfl rfl ?_
        refine wx_pure hok 6 rfl rfl rfl (freshS_eq rfl) rfl rfl ?_
        refine wx_indexK hok 7 0 u2_3 rfl rfl rfl (freshS_eq rfl) rfl rfl rfl rfl rfl rfl (get_lt hx40) tE_36 tS_2 ?_
        refine wx_loadRow hok 8 R_i64_opens 0 u2_3 0 rfl rfl rfl (freshS_eq rfl) rfl rfl rfl rfl hx40 tS_2 tA_2 (v := .int .i64 x40) rfl rfl (fun _ => ?_)
        refine wx_step1 hok 4 rfl rfl rfl rfl ?_
        refine wl_call [] [0] rfl rfl rfl (freshS_eq rfl) rfl rfl fn_14 rfl (w_ropewalkref01_Number_s N x35 hc37) (fun _ _ hφ => ask [0] rfl hφ) rfl (H' := [_]) rfl ?_
        rintro _ _ _ ⟨rfl, rfl, rfl⟩
        refine wl_nil ?_
        refine we_x [0] [0] rfl rfl ?_
        refine wx_step1 hok 9 rfl rfl rfl rfl ?_
        refine wl_call [] [0] rfl rfl rfl (freshS_eq rfl) rfl rfl fn_14 rfl (w_ropewalkref01_Number_s N x40 hc42) (fun _ _ hφ => ask [0] rfl hφ) rfl (H' := [_]) rfl ?_
        rintro _ _ _ ⟨rfl, rfl, rfl⟩
        refine wl_nil ?_
        refine we_x [0] [0] rfl rfl ?_
        refine wx_step1 hok 10 rfl rfl rfl rfl ?_
        refine wl_buildSlice rfl rfl rfl (freshS_eq rfl) rfl tE_23 tS_29 tZ_29 rfl (zs := [.int .u8 0, .int .i64 0, .string ((⟨#[]⟩ : ByteArray)), .int .u8 0, .int .i64 0, .string ((⟨#[]⟩ : ByteArray))]) (by kernel_rfl) rfl (out := [_,_,_,_,_,_]) rfl (fun g43 => ?_)
        refine wl_nil ?_
        refine we_x [0] [1, 1] rfl rfl ?_
        refine wx_step1 hok 11 rfl rfl rfl rfl ?_
        refine wl_pure rfl rfl rfl (freshS_eq rfl) rfl ?_
        refine wl_nil ?_
        refine we_x [0] [] rfl rfl ?_
        refine wx_done hok rfl ?_
        refine we_then ?_
        refine wc_keep [5, 4, 3, 2, 1] (S' := [_,_,_,_,_]) rfl ?_
        refine wc_seq ?_
        refine wc_region ?_
        refine wl_pure rfl rfl rfl (freshS_eq rfl) rfl ?_
        refine wl_pure rfl rfl rfl (freshS_eq rfl) rfl ?_
        refine wl_row (sz := 3) (m := 2) R_V ([(⟨1, x35, (⟨#[]⟩ : ByteArray)⟩ : V), (⟨1, x40, (⟨#[]⟩ : ByteArray)⟩ : V)]) 0 rfl (fun F w hφ => ⟨[.int .u8 1, .int .i64 x35, .string ((⟨#[]⟩ : ByteArray))], [.int .u8 1, .int .i64 x40, .string ((⟨#[]⟩ : ByteArray))], rfl, rfl, ⟨(), rfl, ask_nil⟩, ⟨[.int .u8 1, .int .i64 x40, .string ((⟨#[]⟩ : ByteArray))], [], rfl, rfl, ⟨(), rfl, ask_nil⟩, rfl⟩⟩) rfl (by decide) (H' := [_,_]) rfl ?_
        obtain ⟨⟨v47_0, v47_1, v47_2⟩, hc47, hm⟩ := bindO_some hm
        try dsimp only at hm
        refine wl_call [0] [1] rfl rfl rfl (freshS_eq rfl) rfl rfl fn_11 rfl (w_value_Do_s N u3_4 (some ⟨g43, 0, none⟩) ([(⟨1, x35, (⟨#[]⟩ : ByteArray)⟩ : V), (⟨1, x40, (⟨#[]⟩ : ByteArray)⟩ : V)].length) 2 [(⟨1, x35, (⟨#[]⟩ : ByteArray)⟩ : V), (⟨1, x40, (⟨#[]⟩ : ByteArray)⟩ : V)] _ _ _ hc47) (fun _ _ hφ => ask [0] rfl hφ) rfl (H' := [_]) rfl ?_
        rintro _ _ _ ⟨rfl, rfl, rfl⟩
        refine wl_pure rfl rfl rfl (freshS_eq rfl) rfl ?_
        refine wl_pure rfl rfl rfl (freshS_eq rfl) rfl ?_
        refine wl_pure rfl rfl rfl (freshS_eq rfl) rfl ?_
        refine wl_alloc rfl rfl rfl (freshS_eq rfl) rfl tZ_29 rfl (fun g6 => ?_)
        refine wl_store 0 0 rfl rfl rfl rfl rfl rfl rfl tS_29 rfl rfl rfl (all' := [_,_,_]) rfl (H' := [_,_,_]) rfl ?_
        refine wl_pure rfl rfl rfl (freshS_eq rfl) rfl ?_
        refine wl_nil ?_
        refine we_then ?_
        refine wc_keep [7, 6, 5, 4, 3, 2, 1] (S' := [_,_,_,_,_,_,_]) rfl ?_
        refine wc_seq ?_
        refine wc_region ?_
        refine wl_pure rfl rfl rfl (freshS_eq rfl) rfl ?_
        refine wl_pure rfl rfl rfl (freshS_eq rfl) rfl ?_
        obtain ⟨⟨v53_0, v53_1, v53_2⟩, hc53, hm⟩ := bindO_some hm
        try dsimp only at hm
        refine wl_call [1] [0, 2] rfl rfl rfl (freshS_eq rfl) rfl rfl fn_12 rfl (w_ropewalkref01_Do_s N u3_4 (some ⟨g43, 0, none⟩) ([(⟨1, x35, (⟨#[]⟩ : ByteArray)⟩ : V), (⟨1, x40, (⟨#[]⟩ : ByteArray)⟩ : V)].length) 2 [(⟨1, x35, (⟨#[]⟩ : ByteArray)⟩ : V), (⟨1, x40, (⟨#[]⟩ : ByteArray)⟩ : V)] _ _ _ hc53) (fun _ _ hφ => ask [0] rfl hφ) rfl (H' := [_,_]) rfl ?_
        rintro _ _ _ ⟨rfl, rfl, rfl⟩
        refine wl_pure rfl rfl rfl (freshS_eq rfl) rfl ?_
        refine wl_pure rfl rfl rfl (freshS_eq rfl) rfl ?_
        refine wl_pure rfl rfl rfl (freshS_eq rfl) rfl ?_
        refine wl_alloc rfl rfl rfl (freshS_eq rfl) rfl tZ_29 rfl (fun g8 => ?_)
        refine wl_store 0 0 rfl rfl rfl rfl rfl rfl rfl tS_29 rfl rfl rfl (all' := [_,_,_]) rfl (H' := [_,_,_,_]) rfl ?_
        refine wl_pure rfl rfl rfl (freshS_eq rfl) rfl ?_
        refine wl_nil ?_
        refine we_then ?_
        refine wc_keep [9, 8, 7, 6, 5, 4, 3, 2, 1] (S' := [_,_,_,_,_,_,_,_,_]) rfl ?_
        refine wc_seq ?_
        refine wc_region ?_
        refine wl_pure rfl rfl rfl (freshS_eq rfl) rfl ?_
        refine wl_pure rfl rfl rfl (freshS_eq rfl) rfl ?_
        obtain ⟨x59, hx59, hm⟩ := bindO_some hm
        refine wl_indexK 1 0 rfl rfl rfl (freshS_eq rfl) rfl rfl rfl rfl rfl (get_lt hx59) tE_23 tS_29 ?_
        refine wl_loadRow R_V_opens 1 0 0 rfl rfl rfl (freshS_eq rfl) rfl rfl rfl hx59 tS_29 tA_29 (v := fun _ => .agg #[.int .u8 (x59.k), .int .i64 (x59.n), .string x59.s]) (fun _ => rfl) (fun _ => rfl) (fun _ _ => ?_)
        refine wl_buildSlice rfl rfl rfl (freshS_eq rfl) rfl tE_23 tS_29 tZ_29 rfl (zs := [.int .u8 0, .int .i64 0, .string ((⟨#[]⟩ : ByteArray))]) (by kernel_rfl) rfl (out := [_,_,_]) rfl (fun g61 => ?_)
        refine wl_row (sz := 3) (m := 1) R_V [x59] 0 rfl (fun F w hφ => ⟨[.int .u8 (x59.k), .int .i64 (x59.n), .string x59.s], [], rfl, rfl, ⟨(), rfl, ask_nil⟩, rfl⟩) rfl (by decide) (H' := [_,_,_,_,_]) rfl ?_
        obtain ⟨⟨v62_0, v62_1, v62_2⟩, hc62, hm⟩ := bindO_some hm
        try dsimp only at hm
        refine wl_call [0] [1, 2, 3, 4] rfl rfl rfl (freshS_eq rfl) rfl rfl fn_11 rfl (w_value_Do_s N u3_4 (some ⟨g61, 0, none⟩) ([x59].length) 1 [x59] _ _ _ hc62) (fun _ _ hφ => ask [0] rfl hφ) rfl (H' := [_,_,_,_]) rfl ?_
        rintro _ _ _ ⟨rfl, rfl, rfl⟩
        refine wl_pure rfl rfl rfl (freshS_eq rfl) rfl ?_
        refine wl_pure rfl rfl rfl (freshS_eq rfl) rfl ?_
        refine wl_pure rfl rfl rfl (freshS_eq rfl) rfl ?_
        refine wl_alloc rfl rfl rfl (freshS_eq rfl) rfl tZ_29 rfl (fun g10 => ?_)
        refine wl_store 0 0 rfl rfl rfl rfl rfl rfl rfl tS_29 rfl rfl rfl (all' := [_,_,_]) rfl (H' := [_,_,_,_,_,_]) rfl ?_
        refine wl_pure rfl rfl rfl (freshS_eq rfl) rfl ?_
        refine wl_nil ?_
        refine we_then ?_
        refine wc_keep [11, 10, 9, 8, 7, 6, 5, 4, 3, 2, 1] (S' := [_,_,_,_,_,_,_,_,_,_,_]) rfl ?_
        refine wc_seq ?_
        refine wc_region ?_
        refine wl_pure rfl rfl rfl (freshS_eq rfl) rfl ?_
        refine wl_pure rfl rfl rfl (freshS_eq rfl) rfl ?_
        obtain ⟨hg68, hm⟩ := gd_some hm
        refine wl_ownSpot 3 rfl (fun hsp68 hcm68 => ?_)
        refine wl_sliceTo rfl rfl rfl (freshS_eq rfl) rfl rfl rfl rfl tE_23 tS_29 (Nat.le_trans hg68 (by rw [← hcm68.2]; exact hcm68.1)) hsp68 ?_
        refine wl_freeze 3 rfl (H' := [_,_,_,_,_]) rfl ?_
        refine wl_fact (.sli 3 R_V (some ⟨g43, 0, none⟩) 2 ([(⟨1, x35, (⟨#[]⟩ : ByteArray)⟩ : V), (⟨1, x40, (⟨#[]⟩ : ByteArray)⟩ : V)])) (fun F w hφ => own_sli (hφ _ (mem_at (k := 0) rfl))) ?_
        refine wl_fact (.sli 3 R_V (some ⟨g43, 0, none⟩) 2 ([(⟨1, x35, (⟨#[]⟩ : ByteArray)⟩ : V), (⟨1, x40, (⟨#[]⟩ : ByteArray)⟩ : V)].take 1)) (fun _ _ hφ => view_to (hφ _ (mem_at (k := 0) rfl)) 1) ?_
        refine wl_at 0 (v' := .slice (some ⟨g43, 0, none⟩) (([(⟨1, x35, (⟨#[]⟩ : ByteArray)⟩ : V), (⟨1, x40, (⟨#[]⟩ : ByteArray)⟩ : V)].take 1).length) 2) rfl (take_slice hg68) ?_
        obtain ⟨⟨v69_0, v69_1, v69_2⟩, hc69, hm⟩ := bindO_some hm
        try dsimp only at hm
        refine wl_call [] [0, 1, 2, 3, 4] rfl rfl rfl (freshS_eq rfl) rfl rfl fn_12 rfl (w_ropewalkref01_Do_v2_s N u3_4 (some ⟨g43, 0, none⟩) 2 ([(⟨1, x35, (⟨#[]⟩ : ByteArray)⟩ : V), (⟨1, x40, (⟨#[]⟩ : ByteArray)⟩ : V)].take 1) _ _ _ hc69) (fun _ _ hφ => ask [0, 3] rfl hφ) rfl (H' := [_,_,_,_,_]) rfl ?_
        rintro _ _ _ ⟨rfl, rfl, rfl⟩
        refine wl_pure rfl rfl rfl (freshS_eq rfl) rfl ?_
        refine wl_pure rfl rfl rfl (freshS_eq rfl) rfl ?_
        refine wl_pure rfl rfl rfl (freshS_eq rfl) rfl ?_
        refine wl_alloc rfl rfl rfl (freshS_eq rfl) rfl tZ_29 rfl (fun g12 => ?_)
        refine wl_store 0 0 rfl rfl rfl rfl rfl rfl rfl tS_29 rfl rfl rfl (all' := [_,_,_]) rfl (H' := [_,_,_,_,_,_]) rfl ?_
        refine wl_pure rfl rfl rfl (freshS_eq rfl) rfl ?_
        refine wl_nil ?_
        refine we_then ?_
        refine wc_keep [13, 12, 11, 10, 9, 8, 7, 6, 4, 3, 2, 1] (S' := [_,_,_,_,_,_,_,_,_,_,_,_]) rfl ?_
        refine wc_seq ?_
        obtain ⟨bj_4, hm, hLj_4⟩ := bindO_some hm
        unfold m_ropewalklaw01_ValueNumbers_C4 at hm
        refine wc_cut (σ := Bool) (fun j_4_89 => bj_4 = j_4_89) (fun j_4_89 => [(4, .int .u8 u3_4), (3, .int .i64 ((u2_3 : Nat) : Int)), (2, .int .i64 ((u1_2 : Nat) : Int)), (1, .slice (some ⟨g16, 0, none⟩) ([0, 1, -1, 2, -2, 2147483647, 2147483648, -2147483648, 4294967297, 4611686018427387903, 4611686018427387904, -4611686018427387904, 9223372036854775807, -9223372036854775807, -9223372036854775808].length) 15), (89, .bool j_4_89)]) (fun j_4_89 => [tabF Tryd.prog "internal/strconv.uint64pow10" .u64 Lib.pow10Tab 1 pow10_g]) (fun j_4_89 => [.own 2 1 R_i64 (.slice (some ⟨g16, 0, none⟩) ([0, 1, -1, 2, -2, 2147483647, 2147483648, -2147483648, 4294967297, 4611686018427387903, 4611686018427387904, -4611686018427387904, 9223372036854775807, -9223372036854775807, -9223372036854775808].length) 15) ([0, 1, -1, 2, -2, 2147483647, 2147483648, -2147483648, 4294967297, 4611686018427387903, 4611686018427387904, -4611686018427387904, 9223372036854775807, -9223372036854775807, -9223372036854775808])]) ?_ ?_
        ·
         refine wc_region ?_
         refine wl_loadH 4 0 rfl rfl rfl (freshS_eq rfl) rfl rfl rfl (cs := [_,_,_]) rfl tS_29 tA_29 rfl rfl ?_
         refine wl_loadH 3 0 rfl rfl rfl (freshS_eq rfl) rfl rfl rfl (cs := [_,_,_]) rfl tS_29 tA_29 rfl rfl ?_
         refine wl_bin rfl rfl rfl (freshS_eq rfl) rfl rfl rfl (neqV _ _ (⟨((v47_0 : Nat) : Int), v47_1, (⟨#[]⟩ : ByteArray)⟩ : V) (⟨((v53_0 : Nat) : Int), v53_1, (⟨#[]⟩ : ByteArray)⟩ : V)) ?_
         refine wl_pure rfl rfl rfl (freshS_eq rfl) rfl ?_
         refine wl_split (d := 75) (S' := [_,_,_,_,_,_,_,_,_,_,_,_,_,_,_]) rfl rfl (fun hs75 => ?_) (fun hs75 => ?_)
         ·
          replace hm := iteT hm hs75
          refine wl_off rfl rfl rfl (freshS_eq rfl) ?_
          refine wl_off rfl rfl rfl (freshS_eq rfl) ?_
          refine wl_off rfl rfl rfl (freshS_eq rfl) ?_
          refine wl_pure rfl rfl rfl (freshS_eq rfl) rfl ?_
          refine wl_pure rfl rfl rfl (freshS_eq rfl) rfl ?_
          refine wl_off rfl rfl rfl (freshS_eq rfl) ?_
          refine wl_off rfl rfl rfl (freshS_eq rfl) ?_
          refine wl_off rfl rfl rfl (freshS_eq rfl) ?_
          refine wl_pure rfl rfl rfl (freshS_eq rfl) rfl ?_
          refine wl_pure rfl rfl rfl (freshS_eq rfl) rfl ?_
          refine wl_off rfl rfl rfl (freshS_eq rfl) ?_
          refine wl_off rfl rfl rfl (freshS_eq rfl) ?_
          refine wl_off rfl rfl rfl (freshS_eq rfl) ?_
          refine wl_pure rfl rfl rfl (freshS_eq rfl) rfl ?_
          refine wl_nil ?_
          have hE := (Option.some.inj hm).symm
          refine we_pick [5] rfl (H' := [_]) rfl ?_
          refine we_join true hE [4, 3, 2, 1, 89] rfl (fun _ _ hφ => ask [3] rfl hφ) rfl
         ·
          replace hm := iteF hm hs75
          refine wl_pure rfl rfl rfl (freshS_eq rfl) rfl ?_
          refine wl_pure rfl rfl rfl (freshS_eq rfl) rfl ?_
          refine wl_pure rfl rfl rfl (freshS_eq rfl) rfl ?_
          refine wl_as (d := 78) (v' := .bool (v47_2 != v53_2)) (S' := [_,_,_,_,_,_,_,_,_,_,_,_,_,_,_,_,_,_]) rfl rfl (natne (a := v47_2) (b := v53_2)) ?_
          refine wl_pure rfl rfl rfl (freshS_eq rfl) rfl ?_
          refine wl_pure rfl rfl rfl (freshS_eq rfl) rfl ?_
          refine wl_split (d := 80) (S' := [_,_,_,_,_,_,_,_,_,_,_,_,_,_,_,_,_,_,_,_]) rfl rfl (fun hs80 => ?_) (fun hs80 => ?_)
          ·
           replace hm := iteT hm hs80
           refine wl_off rfl rfl rfl (freshS_eq rfl) ?_
           refine wl_off rfl rfl rfl (freshS_eq rfl) ?_
           refine wl_off rfl rfl rfl (freshS_eq rfl) ?_
           refine wl_pure rfl rfl rfl (freshS_eq rfl) rfl ?_
           refine wl_pure rfl rfl rfl (freshS_eq rfl) rfl ?_
           refine wl_off rfl rfl rfl (freshS_eq rfl) ?_
           refine wl_off rfl rfl rfl (freshS_eq rfl) ?_
           refine wl_off rfl rfl rfl (freshS_eq rfl) ?_
           refine wl_pure rfl rfl rfl (freshS_eq rfl) rfl ?_
           refine wl_nil ?_
           have hE := (Option.some.inj hm).symm
           refine we_pick [5] rfl (H' := [_]) rfl ?_
           refine we_join true hE [4, 3, 2, 1, 89] rfl (fun _ _ hφ => ask [3] rfl hφ) rfl
          ·
           replace hm := iteF hm hs80
           refine wl_loadH 1 0 rfl rfl rfl (freshS_eq rfl) rfl rfl rfl (cs := [_,_,_]) rfl tS_29 tA_29 rfl rfl ?_
           refine wl_loadH 0 0 rfl rfl rfl (freshS_eq rfl) rfl rfl rfl (cs := [_,_,_]) rfl tS_29 tA_29 rfl rfl ?_
           refine wl_bin rfl rfl rfl (freshS_eq rfl) rfl rfl rfl (neqV _ _ (⟨((v62_0 : Nat) : Int), v62_1, (⟨#[]⟩ : ByteArray)⟩ : V) (⟨((v69_0 : Nat) : Int), v69_1, (⟨#[]⟩ : ByteArray)⟩ : V)) ?_
           refine wl_pure rfl rfl rfl (freshS_eq rfl) rfl ?_
           refine wl_pure rfl rfl rfl (freshS_eq rfl) rfl ?_
           refine wl_split (d := 85) (S' := [_,_,_,_,_,_,_,_,_,_,_,_,_,_,_,_,_,_,_,_,_,_,_,_,_]) rfl rfl (fun hs85 => ?_) (fun hs85 => ?_)
           ·
            replace hm := iteT hm hs85
            refine wl_off rfl rfl rfl (freshS_eq rfl) ?_
            refine wl_off rfl rfl rfl (freshS_eq rfl) ?_
            refine wl_off rfl rfl rfl (freshS_eq rfl) ?_
            refine wl_pure rfl rfl rfl (freshS_eq rfl) rfl ?_
            refine wl_nil ?_
            have hE := (Option.some.inj hm).symm
            refine we_pick [5] rfl (H' := [_]) rfl ?_
            refine we_join true hE [4, 3, 2, 1, 89] rfl (fun _ _ hφ => ask [3] rfl hφ) rfl
           ·
            replace hm := iteF hm hs85
            refine wl_pure rfl rfl rfl (freshS_eq rfl) rfl ?_
            refine wl_pure rfl rfl rfl (freshS_eq rfl) rfl ?_
            refine wl_pure rfl rfl rfl (freshS_eq rfl) rfl ?_
            refine wl_as (d := 88) (v' := .bool (v62_2 != v69_2)) (S' := [_,_,_,_,_,_,_,_,_,_,_,_,_,_,_,_,_,_,_,_,_,_,_,_,_,_,_,_]) rfl rfl (natne (a := v62_2) (b := v69_2)) ?_
            refine wl_pure rfl rfl rfl (freshS_eq rfl) rfl ?_
            refine wl_nil ?_
            have hE := (Option.some.inj hm).symm
            refine we_pick [5] rfl (H' := [_]) rfl ?_
            refine we_join (v62_2 != v69_2) hE [4, 3, 2, 1, 89] rfl (fun _ _ hφ => ask [3] rfl hφ) rfl
        ·
         rintro j_4_89 hE
         try dsimp only
         have hm := hLj_4
         rw [hE] at hm
         refine wc_cond rfl (fun hb89 => ?_) (fun hb89 => ?_)
         ·
          replace hm := iteT hm hb89
          refine wc_keep [] (S' := []) rfl ?_
          refine wc_seq ?_
          refine wc_region ?_
          refine wl_pure rfl rfl rfl (freshS_eq rfl) rfl ?_
          refine wl_nil ?_
          refine we_then ?_
          refine wc_ret ?_
          refine we_block_ret ?_
          refine we_then_ret ?_
          refine we_then_ret ?_
          refine we_block_ret ?_
          refine we_block_ret ?_
          refine we_then_ret ?_
          refine we_then_ret ?_
          refine we_block_ret ?_
          refine we_block_ret ?_
          refine we_then_ret ?_
          refine we_then_ret ?_
          refine we_block_ret ?_
          refine we_then_ret ?_
          have hE := (Option.some.inj hm).symm
          replace hE := link_inr hLu3 hE
          replace hE := link_inr hLj_3 hE
          replace hE := link_inr hLu2 hE
          replace hE := link_inr hLj_2 hE
          replace hE := link_inr hLu1 hE
          replace hE := link_inr hLj_1 hE
          replace hE := hE.symm
          subst hE
          refine ret_one (Hr := []) [] Tryd.results4 (res_tmp rfl) ⟨rfl, rfl, rfl⟩ (fun _ _ hφ => ask [] rfl hφ) rfl rfl (.inl rfl)
         ·
          replace hm := iteF hm hb89
          refine wc_keep [4, 3, 2, 1] (S' := [_,_,_,_]) rfl ?_
          refine wc_skip ?_
          refine we_block_normal ?_
          refine we_then ?_
          refine wc_region ?_
          refine wl_pure rfl rfl rfl (freshS_eq rfl) rfl ?_
          refine wl_pure rfl rfl rfl (freshS_eq rfl) rfl ?_
          refine wl_pure (S' := [_,_,_,_,_]) rfl rfl rfl rfl rfl ?_
          refine wl_nil ?_
          have hE := (Option.some.inj hm).symm
          replace hE := link_inl hLu3 hE
          refine we_roundK (_, IntKind.wrap .u8 (u3_4 + 1)) (Nat.lt_succ_self _) hE [4, 3, 2, 1] rfl (fun _ _ hφ => ask [0] rfl hφ) rfl
       ·
        replace hm := iteF hm hb30
        refine wc_keep [3, 2, 1] (S' := [_,_,_]) rfl ?_
        refine wc_exit ?_
        refine we_then_exit ?_
        refine we_then_exit ?_
        refine we_block_hit ?_
        refine we_block_normal ?_
        have hE := (Option.some.inj hm).symm
        replace hE := link_inr hLu3 hE
        refine we_join () hE [3, 2, 1] rfl (fun _ _ hφ => ask [0] rfl hφ) rfl
      ·
       rintro _ hE
       try dsimp only
       have hm := link_inl hLj_3 hE
       try dsimp only at hm
       refine wc_region ?_
       refine wl_pure rfl rfl rfl (freshS_eq rfl) rfl ?_
       refine wl_pure rfl rfl rfl (freshS_eq rfl) rfl ?_
       obtain ⟨hg28, hm⟩ := gd_some hm
       refine wl_as (d := 28) (v' := .int .i64 ((u2_3 + 1 : Nat) : Int)) (S' := [_,_,_,_]) rfl rfl (nat_add (a := u2_3) (b := 1) hg28) ?_
       refine wl_pure (S' := [_,_,_,_]) rfl rfl rfl rfl rfl ?_
       refine wl_nil ?_
       have hE := (Option.some.inj hm).symm
       replace hE := link_inl hLu2 hE
       refine we_roundK (_, u2_3 + 1) (Nat.lt_succ_self _) hE [3, 2, 1] rfl (fun _ _ hφ => ask [0] rfl hφ) rfl
     ·
      replace hm := iteF hm hb26
      refine wc_keep [2, 1] (S' := [_,_]) rfl ?_
      refine wc_exit ?_
      refine we_then_exit ?_
      refine we_then_exit ?_
      refine we_block_hit ?_
      refine we_block_normal ?_
      have hE := (Option.some.inj hm).symm
      replace hE := link_inr hLu2 hE
      refine we_join () hE [2, 1] rfl (fun _ _ hφ => ask [0] rfl hφ) rfl
    ·
     rintro _ hE
     try dsimp only
     have hm := link_inl hLj_2 hE
     try dsimp only at hm
     refine wc_region ?_
     refine wl_pure rfl rfl rfl (freshS_eq rfl) rfl ?_
     refine wl_pure rfl rfl rfl (freshS_eq rfl) rfl ?_
     obtain ⟨hg22, hm⟩ := gd_some hm
     refine wl_as (d := 22) (v' := .int .i64 ((u1_2 + 1 : Nat) : Int)) (S' := [_,_,_]) rfl rfl (nat_add (a := u1_2) (b := 1) hg22) ?_
     refine wl_pure (S' := [_,_,_]) rfl rfl rfl rfl rfl ?_
     refine wl_nil ?_
     have hE := (Option.some.inj hm).symm
     replace hE := link_inl hLu1 hE
     refine we_roundK (_, u1_2 + 1) (Nat.lt_succ_self _) hE [2, 1] rfl (fun _ _ hφ => ask [0] rfl hφ) rfl
   ·
    replace hm := iteF hm hb20
    refine wc_keep [] (S' := []) rfl ?_
    refine wc_exit ?_
    refine we_then_exit ?_
    refine we_then_exit ?_
    refine we_block_hit ?_
    have hE := (Option.some.inj hm).symm
    replace hE := link_inr hLu1 hE
    refine we_pick [] rfl (H' := []) rfl ?_
    refine we_join () hE [] rfl (fun _ _ hφ => ask [0] rfl hφ) rfl
  ·
   rintro _ hE
   try dsimp only
   have hm := link_inl hLj_1 hE
   try dsimp only at hm
   refine wc_seq ?_
   refine wc_region ?_
   refine wl_pure rfl rfl rfl (freshS_eq rfl) rfl ?_
   refine wl_nil ?_
   refine we_then ?_
   refine wc_ret ?_
   have hE := (Option.some.inj hm).symm
   replace hE := hE.symm
   subst hE
   refine ret_one (Hr := []) [] Tryd.results4 (res_tmp rfl) ⟨rfl, rfl, rfl⟩ (fun _ _ hφ => ask [] rfl hφ) rfl rfl (.inl rfl)
set_option maxRecDepth 100000 in
set_option maxHeartbeats 4000000 in
theorem w_ropewalklaw01_light_v2_s (N : Nat) (qp0 : Option Addr) (qc1 : Nat) (l0 : List V) (o0 : Bool) (hm : m_ropewalklaw01_light N l0 = some o0) : Spec Tryd.prog 9 [.slice qp0 l0.length qc1] [.sli 3 R_V qp0 qc1 l0, tabF Tryd.prog "internal/strconv.uint64pow10" .u64 Lib.pow10Tab 1 pow10_g] [] (fun v Φr Hr => v = .bool o0 ∧ Φr = [] ∧ Hr = []) := by
 unfold m_ropewalklaw01_light at hm
 refine spec_of Tryd.func9 rfl Tryd.ntmps9 rfl (S := [_]) rfl (fun C => ?_)
 refine wc_seq ?_
 refine wc_region ?_
 refine wl_pure rfl rfl rfl (freshS_eq rfl) rfl ?_
 refine wl_nil ?_
 refine we_then ?_
 refine wc_keep [0] (S' := [_]) rfl ?_
 refine wc_seq ?_
 obtain ⟨bj_1, hm, hLj_1⟩ := bindS_some hm
 refine wc_cut (σ := Unit) (fun _ => bj_1 = .inl ()) (fun _ => [(0, .slice qp0 l0.length qc1)]) (fun _ => [.sli 3 R_V qp0 qc1 l0, tabF Tryd.prog "internal/strconv.uint64pow10" .u64 Lib.pow10Tab 1 pow10_g]) (fun _ => []) ?_ ?_
 ·
  refine wc_seq ?_
  refine wc_region ?_
  refine wl_pure rfl rfl rfl (freshS_eq rfl) rfl ?_
  refine wl_nil ?_
  refine we_then ?_
  refine wc_block ?_
  refine wc_loop (σ := Nat × Nat) (fun (nu1, u1_3) => iter (m_ropewalklaw01_light_L1 N l0) nu1 u1_3 = some bj_1) (fun (nu1, u1_3) => nu1) (fun (nu1, u1_3) => [(3, .int .i64 ((u1_3 : Nat) : Int)), (0, .slice qp0 l0.length qc1)]) (fun (nu1, u1_3) => [.sli 3 R_V qp0 qc1 l0, tabF Tryd.prog "internal/strconv.uint64pow10" .u64 Lib.pow10Tab 1 pow10_g]) (fun (nu1, u1_3) => []) (N, 0) hm [3, 0] rfl (fun _ _ hφ => ask [0, 1] rfl hφ) rfl (fun s_ hm => ?_)
  obtain ⟨nu1, u1_3⟩ := s_
  try dsimp only at hm ⊢
  obtain ⟨mu1, bu1, hnu1, hq, hLu1⟩ := iter_some hm
  clear hm
  subst hnu1
  replace hm := hq
  clear hq
  unfold m_ropewalklaw01_light_L1 at hm
  try dsimp only at hm
  refine wc_seq ?_
  refine wc_seq ?_
  refine wc_region ?_
  refine wl_pure rfl rfl rfl (freshS_eq rfl) rfl ?_
  refine wl_pure rfl rfl rfl (freshS_eq rfl) rfl ?_
  refine wl_len rfl rfl rfl (freshS_eq rfl) rfl rfl tE_23 ?_
  refine wl_pure rfl rfl rfl (freshS_eq rfl) rfl ?_
  refine wl_as (d := 7) (v' := .bool (decide (u1_3 < l0.length))) (S' := [_,_,_,_,_]) rfl rfl (natlt (a := u1_3) (b := l0.length)) ?_
  refine wl_nil ?_
  refine we_then ?_
  refine wc_keep [7, 3, 0] (S' := [_,_,_]) rfl ?_
  refine wc_cond rfl (fun hb7 => ?_) (fun hb7 => ?_)
  ·
   replace hm := iteT hm hb7
   refine wc_keep [3, 0] (S' := [_,_]) rfl ?_
   refine wc_skip ?_
   refine we_then ?_
   refine wc_seq ?_
   refine wc_block ?_
   refine wc_seq ?_
   refine wc_region ?_
   refine wl_pure rfl rfl rfl (freshS_eq rfl) rfl ?_
   refine wl_pure rfl rfl rfl (freshS_eq rfl) rfl ?_
   obtain ⟨x12, hx12, hm⟩ := bindO_some hm
   refine wl_indexA 0 u1_3 rfl rfl rfl (freshS_eq rfl) rfl rfl rfl rfl rfl hx12 tE_23 tS_29 (fun b12 q12 cs12 hlx12 => ?_)
   refine wl_open R_V_opens 1 rfl (fun r12 er12 _ => ?_)
   subst er12
   refine wl_fieldAddr rfl rfl rfl (freshS_eq rfl) rfl rfl tF_29_2 ?_
   refine wl_load 0 2 rfl rfl rfl (freshS_eq rfl) rfl rfl rfl (cs := [_]) rfl tS_9 tA_9 rfl rfl ?_
   refine wl_reck rfl rfl rfl (freshS_eq rfl) (rk_strLen rfl rfl tT_9) ?_
   refine wl_pure rfl rfl rfl (freshS_eq rfl) rfl ?_
   refine wl_as (d := 16) (v' := .bool (decide (300 < x12.s.size))) (S' := [_,_,_,_,_,_,_,_]) rfl rfl (natgt (a := x12.s.size) (b := 300)) ?_
   refine wl_nil ?_
   refine we_then ?_
   refine wc_keep [16, 3, 0] (S' := [_,_,_]) rfl ?_
   refine wc_cond rfl (fun hb16 => ?_) (fun hb16 => ?_)
   ·
    replace hm := iteT hm hb16
    refine wc_keep [] (S' := []) rfl ?_
    refine wc_seq ?_
    refine wc_region ?_
    refine wl_pure rfl rfl rfl (freshS_eq rfl) rfl ?_
    refine wl_nil ?_
    refine we_then ?_
    refine wc_ret ?_
    refine we_block_ret ?_
    refine we_then_ret ?_
    refine we_then_ret ?_
    refine we_block_ret ?_
    refine we_then_ret ?_
    have hE := (Option.some.inj hm).symm
    replace hE := link_inr hLu1 hE
    replace hE := link_inr hLj_1 hE
    replace hE := hE.symm
    subst hE
    refine ret_one (Hr := []) [] Tryd.results9 (res_tmp rfl) ⟨rfl, rfl, rfl⟩ (fun _ _ hφ => ask [] rfl hφ) rfl rfl (.inl rfl)
   ·
    replace hm := iteF hm hb16
    refine wc_keep [3, 0] (S' := [_,_]) rfl ?_
    refine wc_skip ?_
    refine we_block_normal ?_
    refine we_then ?_
    refine wc_region ?_
    refine wl_pure rfl rfl rfl (freshS_eq rfl) rfl ?_
    refine wl_pure rfl rfl rfl (freshS_eq rfl) rfl ?_
    obtain ⟨hg9, hm⟩ := gd_some hm
    refine wl_as (d := 9) (v' := .int .i64 ((u1_3 + 1 : Nat) : Int)) (S' := [_,_,_]) rfl rfl (nat_add (a := u1_3) (b := 1) hg9) ?_
    refine wl_pure (S' := [_,_,_]) rfl rfl rfl rfl rfl ?_
    refine wl_nil ?_
    have hE := (Option.some.inj hm).symm
    replace hE := link_inl hLu1 hE
    refine we_roundK (_, u1_3 + 1) (Nat.lt_succ_self _) hE [3, 0] rfl (fun _ _ hφ => ask [2, 3] rfl hφ) rfl
  ·
   replace hm := iteF hm hb7
   refine wc_keep [0] (S' := [_]) rfl ?_
   refine wc_exit ?_
   refine we_then_exit ?_
   refine we_then_exit ?_
   refine we_block_hit ?_
   have hE := (Option.some.inj hm).symm
   replace hE := link_inr hLu1 hE
   refine we_join () hE [0] rfl (fun _ _ hφ => ask [0, 1] rfl hφ) rfl
 ·
  rintro _ hE
  try dsimp only
  have hm := link_inl hLj_1 hE
  try dsimp only at hm
  refine wc_seq ?_
  refine wc_region ?_
  refine wl_pure rfl rfl rfl (freshS_eq rfl) rfl ?_
  refine wl_len rfl rfl rfl (freshS_eq rfl) rfl rfl tE_23 ?_
  refine wl_pure rfl rfl rfl (freshS_eq rfl) rfl ?_
  refine wl_as (d := 19) (v' := .bool (decide (l0.length ≤ 20))) (S' := [_,_,_]) rfl rfl (natle (a := l0.length) (b := 20)) ?_
  refine wl_pure rfl rfl rfl (freshS_eq rfl) rfl ?_
  refine wl_nil ?_
  refine we_then ?_
  refine wc_keep [2] (S' := [_]) rfl ?_
  refine wc_ret ?_
  have hE := (Option.some.inj hm).symm
  replace hE := hE.symm
  subst hE
  refine ret_one (Hr := []) [] Tryd.results9 (res_tmp rfl) ⟨rfl, rfl, rfl⟩ (fun _ _ hφ => ask [] rfl hφ) rfl rfl (.inl rfl)
set_option maxRecDepth 100000 in
set_option maxHeartbeats 4000000 in
theorem w_ropewalkkit_mark_s (N : Nat) (a0 : Int) (a1 : Int)  (hm : m_ropewalkkit_mark N a0 a1 = some ()) : Spec Tryd.prog 35 [.int .i64 a0, .int .i64 a1] [tabF Tryd.prog "internal/strconv.uint64pow10" .u64 Lib.pow10Tab 1 pow10_g] [] (fun v Φr Hr => v = .int .i64 ((1000003 * (a0 + 7)) + a1) ∧ Φr = [] ∧ Hr = []) := by
 unfold m_ropewalkkit_mark at hm
 refine spec_of Tryd.func35 rfl Tryd.ntmps35 rfl (S := [_,_]) rfl (fun C => ?_)
 refine wc_seq ?_
 refine wc_region ?_
 refine wl_pure rfl rfl rfl (freshS_eq rfl) rfl ?_
 refine wl_nil ?_
 refine we_then ?_
 refine wc_keep [0, 1] (S' := [_,_]) rfl ?_
 refine wc_seq ?_
 refine wc_region ?_
 refine wl_pure rfl rfl rfl (freshS_eq rfl) rfl ?_
 refine wl_pure rfl rfl rfl (freshS_eq rfl) rfl ?_
 obtain ⟨hg6, hm⟩ := gd_some hm
 refine wl_as (d := 6) (v' := .int .i64 (a0 + 7)) (S' := [_,_,_]) rfl rfl (i64_in hg6) ?_
 refine wl_pure rfl rfl rfl (freshS_eq rfl) rfl ?_
 obtain ⟨hg7, hm⟩ := gd_some hm
 refine wl_as (d := 7) (v' := .int .i64 (1000003 * (a0 + 7))) (S' := [_,_,_,_]) rfl rfl (i64_in hg7) ?_
 refine wl_pure rfl rfl rfl (freshS_eq rfl) rfl ?_
 refine wl_pure rfl rfl rfl (freshS_eq rfl) rfl ?_
 obtain ⟨hg9, hm⟩ := gd_some hm
 refine wl_as (d := 9) (v' := .int .i64 ((1000003 * (a0 + 7)) + a1)) (S' := [_,_,_,_,_,_]) rfl rfl (i64_in hg9) ?_
 refine wl_pure rfl rfl rfl (freshS_eq rfl) rfl ?_
 refine wl_nil ?_
 refine we_then ?_
 refine wc_keep [4] (S' := [_]) rfl ?_
 refine wc_ret ?_
 have hE := (Option.some.inj hm).symm
 refine ret_one (Hr := []) [] Tryd.results35 (res_tmp rfl) ⟨rfl, rfl, rfl⟩ (fun _ _ hφ => ask [] rfl hφ) rfl rfl (.inl rfl)
set_option maxRecDepth 100000 in
set_option maxHeartbeats 4000000 in
theorem w_ropewalkkit_markValue_s (N : Nat) (a0 : Int) (a1 : Int)  (hm : m_ropewalkkit_markValue N a0 a1 = some ()) : Spec Tryd.prog 23 [.int .i64 a0, .int .i64 a1] [tabF Tryd.prog "internal/strconv.uint64pow10" .u64 Lib.pow10Tab 1 pow10_g] [] (fun v Φr Hr => v = .agg #[.int .u8 0, .int .i64 ((1000003 * (a0 + 7)) + a1), .string ((⟨#[]⟩ : ByteArray))] ∧ Φr = [] ∧ Hr = []) := by
 unfold m_ropewalkkit_markValue at hm
 refine spec_of Tryd.func23 rfl Tryd.ntmps23 rfl (S := [_,_]) rfl (fun C => ?_)
 refine wc_seq ?_
 refine wc_region ?_
 refine wl_alloc rfl rfl rfl (freshS_eq rfl) rfl tZ_29 rfl (fun g4 => ?_)
 refine wl_nil ?_
 refine we_then ?_
 refine wc_seq ?_
 refine wc_region ?_
 refine wl_pure rfl rfl rfl (freshS_eq rfl) rfl ?_
 refine wl_pure rfl rfl rfl (freshS_eq rfl) rfl ?_
 obtain ⟨_, hc7, hm⟩ := bindO_some hm
 try dsimp only at hm
 refine wl_call [] [0] rfl rfl rfl (freshS_eq rfl) rfl rfl fn_35 rfl (w_ropewalkkit_mark_s N a0 a1 hc7) (fun _ _ hφ => ask [0] rfl hφ) rfl (H' := [_]) rfl ?_
 rintro _ _ _ ⟨rfl, rfl, rfl⟩
 refine wl_build rfl rfl rfl (freshS_eq rfl) rfl tZ_29 tP_29 rfl (out := [_,_,_]) rfl ?_
 refine wl_store 0 0 rfl rfl rfl rfl rfl rfl rfl tS_29 rfl rfl rfl (all' := [_,_,_]) rfl (H' := [_]) rfl ?_
 refine wl_nil ?_
 refine we_then ?_
 refine wc_keep [4] (S' := [_]) rfl ?_
 refine wc_ret ?_
 have hE := (Option.some.inj hm).symm
 refine ret_one (Hr := []) [] Tryd.results23 (res_cell 0 rfl rfl tS_29 tA_29 rfl rfl) ⟨rfl, rfl, rfl⟩ (fun _ _ hφ => ask [] rfl hφ) rfl rfl (.inl rfl)
end Go.Proofs.YtkddfgjefdlaeaaDoor
