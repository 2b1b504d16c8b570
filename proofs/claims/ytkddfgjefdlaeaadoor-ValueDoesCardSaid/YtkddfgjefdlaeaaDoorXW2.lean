/- Walks, printed by a program out of the loaded code. -/
import Derived.Test.YtkddfgjefdlaeaaDoorXW1
namespace Go.Proofs.YtkddfgjefdlaeaaDoor
open Go.RowKit
set_option maxRecDepth 100000 in
set_option maxHeartbeats 4000000 in
theorem w_value_product_s (N : Nat) (a0 : Int) (a1 : Int) (o0 : Int) (o1 : Bool) (hm : m_value_product N a0 a1 = some (o0, o1)) : Spec Tryd.prog 39 [.int .i64 a0, .int .i64 a1] [tabF Tryd.prog "internal/strconv.uint64pow10" .u64 Lib.pow10Tab 1 pow10_g] [] (fun v Φr Hr => v = .tuple #[.int .i64 o0, .bool o1] ∧ Φr = [] ∧ Hr = []) := by
 unfold m_value_product at hm
 refine spec_of Tryd.func39 rfl Tryd.ntmps39 rfl (S := [_,_]) rfl (fun C => ?_)
 refine wc_seq ?_
 refine wc_region ?_
 refine wl_pure rfl rfl rfl (freshS_eq rfl) rfl ?_
 refine wl_pure rfl rfl rfl (freshS_eq rfl) rfl ?_
 refine wl_nil ?_
 refine we_then ?_
 refine wc_keep [0, 1] (S' := [_,_]) rfl ?_
 refine wc_seq ?_
 refine wc_region ?_
 refine wl_pure rfl rfl rfl (freshS_eq rfl) rfl ?_
 refine wl_reck rfl rfl rfl (freshS_eq rfl) (rk_conv rfl rfl tI_2 tI_66) ?_
 refine wl_pure rfl rfl rfl (freshS_eq rfl) rfl ?_
 refine wl_reck rfl rfl rfl (freshS_eq rfl) (rk_conv rfl rfl tI_2 tI_66) ?_
 refine wl_pure rfl rfl rfl (freshS_eq rfl) rfl ?_
 refine wl_pure rfl rfl rfl (freshS_eq rfl) rfl ?_
 refine wl_nil ?_
 refine we_then ?_
 refine wc_keep [7, 6, 0, 1] (S' := [_,_,_,_]) rfl ?_
 refine wc_seq ?_
 obtain ⟨bj_1, hm, hLj_1⟩ := bindO_some hm
 refine wc_cut (σ := Int) (fun j_1_6 => bj_1 = j_1_6) (fun j_1_6 => [(7, .int .u64 (IntKind.wrap .u64 a1)), (6, .int .u64 j_1_6), (0, .int .i64 a0), (1, .int .i64 a1)]) (fun j_1_6 => [tabF Tryd.prog "internal/strconv.uint64pow10" .u64 Lib.pow10Tab 1 pow10_g]) (fun j_1_6 => []) ?_ ?_
 ·
  refine wc_seq ?_
  refine wc_region ?_
  refine wl_pure rfl rfl rfl (freshS_eq rfl) rfl ?_
  refine wl_pure rfl rfl rfl (freshS_eq rfl) rfl ?_
  refine wl_nil ?_
  refine we_then ?_
  refine wc_keep [15, 7, 6, 0, 1] (S' := [_,_,_,_,_]) rfl ?_
  refine wc_cond rfl (fun hb15 => ?_) (fun hb15 => ?_)
  ·
   replace hm := iteT hm hb15
   refine wc_keep [7, 6, 0, 1] (S' := [_,_,_,_]) rfl ?_
   refine wc_region ?_
   refine wl_pure rfl rfl rfl (freshS_eq rfl) rfl ?_
   refine wl_reck rfl rfl rfl (freshS_eq rfl) (rk_neg rfl rfl) ?_
   refine wl_pure (S' := [_,_,_,_,_]) rfl rfl rfl rfl rfl ?_
   refine wl_nil ?_
   have hE := (Option.some.inj hm).symm
   refine we_join (IntKind.wrap .u64 (0 - (IntKind.wrap .u64 a0))) hE [7, 6, 0, 1] rfl (fun _ _ hφ => ask [0] rfl hφ) rfl
  ·
   replace hm := iteF hm hb15
   refine wc_keep [7, 6, 0, 1] (S' := [_,_,_,_]) rfl ?_
   refine wc_skip ?_
   have hE := (Option.some.inj hm).symm
   refine we_join (IntKind.wrap .u64 a0) hE [7, 6, 0, 1] rfl (fun _ _ hφ => ask [0] rfl hφ) rfl
 ·
  rintro j_1_6 hE
  try dsimp only
  have hm := hLj_1
  rw [hE] at hm
  refine wc_seq ?_
  obtain ⟨bj_2, hm, hLj_2⟩ := bindO_some hm
  refine wc_cut (σ := Int) (fun j_2_7 => bj_2 = j_2_7) (fun j_2_7 => [(7, .int .u64 j_2_7), (6, .int .u64 j_1_6), (0, .int .i64 a0), (1, .int .i64 a1)]) (fun j_2_7 => [tabF Tryd.prog "internal/strconv.uint64pow10" .u64 Lib.pow10Tab 1 pow10_g]) (fun j_2_7 => []) ?_ ?_
  ·
   refine wc_seq ?_
   refine wc_region ?_
   refine wl_pure rfl rfl rfl (freshS_eq rfl) rfl ?_
   refine wl_pure rfl rfl rfl (freshS_eq rfl) rfl ?_
   refine wl_nil ?_
   refine we_then ?_
   refine wc_keep [19, 7, 6, 0, 1] (S' := [_,_,_,_,_]) rfl ?_
   refine wc_cond rfl (fun hb19 => ?_) (fun hb19 => ?_)
   ·
    replace hm := iteT hm hb19
    refine wc_keep [7, 6, 0, 1] (S' := [_,_,_,_]) rfl ?_
    refine wc_region ?_
    refine wl_pure rfl rfl rfl (freshS_eq rfl) rfl ?_
    refine wl_reck rfl rfl rfl (freshS_eq rfl) (rk_neg rfl rfl) ?_
    refine wl_pure (S' := [_,_,_,_,_]) rfl rfl rfl rfl rfl ?_
    refine wl_nil ?_
    have hE := (Option.some.inj hm).symm
    refine we_join (IntKind.wrap .u64 (0 - (IntKind.wrap .u64 a1))) hE [7, 6, 0, 1] rfl (fun _ _ hφ => ask [0] rfl hφ) rfl
   ·
    replace hm := iteF hm hb19
    refine wc_keep [7, 6, 0, 1] (S' := [_,_,_,_]) rfl ?_
    refine wc_skip ?_
    have hE := (Option.some.inj hm).symm
    refine we_join (IntKind.wrap .u64 a1) hE [7, 6, 0, 1] rfl (fun _ _ hφ => ask [0] rfl hφ) rfl
  ·
   rintro j_2_7 hE
   try dsimp only
   have hm := hLj_2
   rw [hE] at hm
   refine wc_seq ?_
   refine wc_region ?_
   refine wl_pure rfl rfl rfl (freshS_eq rfl) rfl ?_
   refine wl_pure rfl rfl rfl (freshS_eq rfl) rfl ?_
   obtain ⟨hs25_0, hm⟩ := gd_some hm
   obtain ⟨hs25_1, hm⟩ := gd_some hm
   refine wl_call [] [] rfl rfl rfl (freshS_eq rfl) rfl rfl fn_54 rfl (sh_Mul64 j_1_6 j_2_7 hs25_0 hs25_1) (fun _ _ hφ => ask [] rfl hφ) rfl (H' := []) rfl ?_
   rintro _ _ _ ⟨rfl, rfl, rfl⟩
   refine wl_pure rfl rfl rfl (freshS_eq rfl) rfl ?_
   refine wl_pure rfl rfl rfl (freshS_eq rfl) rfl ?_
   refine wl_pure rfl rfl rfl (freshS_eq rfl) rfl ?_
   refine wl_pure rfl rfl rfl (freshS_eq rfl) rfl ?_
   refine wl_pure rfl rfl rfl (freshS_eq rfl) rfl ?_
   refine wl_nil ?_
   refine we_then ?_
   refine wc_keep [9, 8, 0, 1] (S' := [_,_,_,_]) rfl ?_
   refine wc_seq ?_
   refine wc_seq ?_
   refine wc_region ?_
   refine wl_pure rfl rfl rfl (freshS_eq rfl) rfl ?_
   refine wl_pure rfl rfl rfl (freshS_eq rfl) rfl ?_
   refine wl_pure rfl rfl rfl (freshS_eq rfl) rfl ?_
   refine wl_pure rfl rfl rfl (freshS_eq rfl) rfl ?_
   refine wl_bin rfl rfl rfl (freshS_eq rfl) rfl rfl rfl (neqB _ _ (decide (a0 < 0)) (decide (a1 < 0))) ?_
   refine wl_nil ?_
   refine we_then ?_
   refine wc_keep [32, 9, 8] (S' := [_,_,_]) rfl ?_
   refine wc_cond rfl (fun hb32 => ?_) (fun hb32 => ?_)
   ·
    replace hm := iteT hm hb32
    refine wc_keep [9, 8] (S' := [_,_]) rfl ?_
    refine wc_seq ?_
    refine wc_region ?_
    refine wl_pure rfl rfl rfl (freshS_eq rfl) rfl ?_
    refine wl_reck rfl rfl rfl (freshS_eq rfl) (rk_neg rfl rfl) ?_
    refine wl_reck rfl rfl rfl (freshS_eq rfl) (rk_conv rfl rfl tI_66 tI_2) ?_
    refine wl_pure rfl rfl rfl (freshS_eq rfl) rfl ?_
    refine wl_pure rfl rfl rfl (freshS_eq rfl) rfl ?_
    refine wl_pure rfl rfl rfl (freshS_eq rfl) rfl ?_
    refine wl_split (d := 38) (S' := [_,_,_,_,_,_,_]) rfl rfl (fun hs38 => ?_) (fun hs38 => ?_)
    ·
     replace hm := iteT hm hs38
     refine wl_pure rfl rfl rfl (freshS_eq rfl) rfl ?_
     refine wl_pure rfl rfl rfl (freshS_eq rfl) rfl ?_
     refine wl_pure rfl rfl rfl (freshS_eq rfl) rfl ?_
     refine wl_pure rfl rfl rfl (freshS_eq rfl) rfl ?_
     refine wl_pure rfl rfl rfl (freshS_eq rfl) rfl ?_
     refine wl_nil ?_
     refine we_then ?_
     refine wc_keep [5, 4] (S' := [_,_]) rfl ?_
     refine wc_ret ?_
     refine we_then_ret ?_
     have hE := (Option.some.inj hm).symm
     obtain ⟨hE0, hE1⟩ := Prod.mk.inj hE
     clear hE
     replace hE0 := hE0.symm
     subst hE0
     replace hE1 := hE1.symm
     subst hE1
     refine ret_two (Hr := []) [] Tryd.results39 (res_tmp rfl) (res_tmp rfl) ⟨rfl, rfl, rfl⟩ (fun _ _ hφ => ask [] rfl hφ) rfl rfl (.inl rfl)
    ·
     replace hm := iteF hm hs38
     refine wl_off rfl rfl rfl (freshS_eq rfl) ?_
     refine wl_off rfl rfl rfl (freshS_eq rfl) ?_
     refine wl_pure rfl rfl rfl (freshS_eq rfl) rfl ?_
     refine wl_pure rfl rfl rfl (freshS_eq rfl) rfl ?_
     refine wl_pure rfl rfl rfl (freshS_eq rfl) rfl ?_
     refine wl_nil ?_
     refine we_then ?_
     refine wc_keep [5, 4] (S' := [_,_]) rfl ?_
     refine wc_ret ?_
     refine we_then_ret ?_
     have hE := (Option.some.inj hm).symm
     obtain ⟨hE0, hE1⟩ := Prod.mk.inj hE
     clear hE
     replace hE0 := hE0.symm
     subst hE0
     replace hE1 := hE1.symm
     subst hE1
     refine ret_two (Hr := []) [] Tryd.results39 (res_tmp rfl) (res_tmp rfl) ⟨rfl, rfl, rfl⟩ (fun _ _ hφ => ask [] rfl hφ) rfl rfl (.inl rfl)
   ·
    replace hm := iteF hm hb32
    refine wc_keep [9, 8] (S' := [_,_]) rfl ?_
    refine wc_skip ?_
    refine we_then ?_
    refine wc_seq ?_
    refine wc_region ?_
    refine wl_pure rfl rfl rfl (freshS_eq rfl) rfl ?_
    refine wl_reck rfl rfl rfl (freshS_eq rfl) (rk_conv rfl rfl tI_66 tI_2) ?_
    refine wl_pure rfl rfl rfl (freshS_eq rfl) rfl ?_
    refine wl_pure rfl rfl rfl (freshS_eq rfl) rfl ?_
    refine wl_pure rfl rfl rfl (freshS_eq rfl) rfl ?_
    refine wl_split (d := 46) (S' := [_,_,_,_,_,_]) rfl rfl (fun hs46 => ?_) (fun hs46 => ?_)
    ·
     replace hm := iteT hm hs46
     refine wl_pure rfl rfl rfl (freshS_eq rfl) rfl ?_
     refine wl_pure rfl rfl rfl (freshS_eq rfl) rfl ?_
     refine wl_pure rfl rfl rfl (freshS_eq rfl) rfl ?_
     refine wl_pure rfl rfl rfl (freshS_eq rfl) rfl ?_
     refine wl_pure rfl rfl rfl (freshS_eq rfl) rfl ?_
     refine wl_nil ?_
     refine we_then ?_
     refine wc_keep [5, 4] (S' := [_,_]) rfl ?_
     refine wc_ret ?_
     have hE := (Option.some.inj hm).symm
     obtain ⟨hE0, hE1⟩ := Prod.mk.inj hE
     clear hE
     replace hE0 := hE0.symm
     subst hE0
     replace hE1 := hE1.symm
     subst hE1
     refine ret_two (Hr := []) [] Tryd.results39 (res_tmp rfl) (res_tmp rfl) ⟨rfl, rfl, rfl⟩ (fun _ _ hφ => ask [] rfl hφ) rfl rfl (.inl rfl)
    ·
     replace hm := iteF hm hs46
     refine wl_off rfl rfl rfl (freshS_eq rfl) ?_
     refine wl_off rfl rfl rfl (freshS_eq rfl) ?_
     refine wl_pure rfl rfl rfl (freshS_eq rfl) rfl ?_
     refine wl_pure rfl rfl rfl (freshS_eq rfl) rfl ?_
     refine wl_pure rfl rfl rfl (freshS_eq rfl) rfl ?_
     refine wl_nil ?_
     refine we_then ?_
     refine wc_keep [5, 4] (S' := [_,_]) rfl ?_
     refine wc_ret ?_
     have hE := (Option.some.inj hm).symm
     obtain ⟨hE0, hE1⟩ := Prod.mk.inj hE
     clear hE
     replace hE0 := hE0.symm
     subst hE0
     replace hE1 := hE1.symm
     subst hE1
     refine ret_two (Hr := []) [] Tryd.results39 (res_tmp rfl) (res_tmp rfl) ⟨rfl, rfl, rfl⟩ (fun _ _ hφ => ask [] rfl hφ) rfl rfl (.inl rfl)
set_option maxRecDepth 100000 in
set_option maxHeartbeats 4000000 in
theorem w_value_does_4_s (N : Nat) (a0 : Int) (a1 : Int)  (hm : m_value_does_4 N a0 a1 = some ()) : Spec Tryd.prog 40 [.int .i64 a0, .int .i64 a1] [tabF Tryd.prog "internal/strconv.uint64pow10" .u64 Lib.pow10Tab 1 pow10_g] [] (fun v Φr Hr => v = .tuple #[.int .i64 (IntKind.wrap .i64 (0 - a0)), .bool (a0 != -9223372036854775808)] ∧ Φr = [] ∧ Hr = []) := by
 unfold m_value_does_4 at hm
 refine spec_of Tryd.func40 rfl Tryd.ntmps40 rfl (S := [_,_]) rfl (fun C => ?_)
 refine wc_seq ?_
 refine wc_region ?_
 refine wl_pure rfl rfl rfl (freshS_eq rfl) rfl ?_
 refine wl_pure rfl rfl rfl (freshS_eq rfl) rfl ?_
 refine wl_nil ?_
 refine we_then ?_
 refine wc_keep [0] (S' := [_]) rfl ?_
 refine wc_seq ?_
 refine wc_region ?_
 refine wl_pure rfl rfl rfl (freshS_eq rfl) rfl ?_
 refine wl_reck rfl rfl rfl (freshS_eq rfl) (rk_neg rfl rfl) ?_
 refine wl_pure rfl rfl rfl (freshS_eq rfl) rfl ?_
 refine wl_pure rfl rfl rfl (freshS_eq rfl) rfl ?_
 refine wl_pure rfl rfl rfl (freshS_eq rfl) rfl ?_
 refine wl_pure rfl rfl rfl (freshS_eq rfl) rfl ?_
 refine wl_nil ?_
 refine we_then ?_
 refine wc_keep [5, 4] (S' := [_,_]) rfl ?_
 refine wc_ret ?_
 have hE := (Option.some.inj hm).symm
 refine ret_two (Hr := []) [] Tryd.results40 (res_tmp rfl) (res_tmp rfl) ⟨rfl, rfl, rfl⟩ (fun _ _ hφ => ask [] rfl hφ) rfl rfl (.inl rfl)
set_option maxRecDepth 100000 in
set_option maxHeartbeats 4000000 in
theorem w_value_does_1_s (N : Nat) (a0 : Bool) (o0 : Int) (hm : m_value_does_1 N a0 = some o0) : Spec Tryd.prog 36 [.bool a0] [tabF Tryd.prog "internal/strconv.uint64pow10" .u64 Lib.pow10Tab 1 pow10_g] [] (fun v Φr Hr => v = .tuple #[.int .i64 o0, .bool true] ∧ Φr = [] ∧ Hr = []) := by
 unfold m_value_does_1 at hm
 refine spec_of Tryd.func36 rfl Tryd.ntmps36 rfl (S := [_]) rfl (fun C => ?_)
 refine wc_seq ?_
 refine wc_region ?_
 refine wl_pure rfl rfl rfl (freshS_eq rfl) rfl ?_
 refine wl_pure rfl rfl rfl (freshS_eq rfl) rfl ?_
 refine wl_nil ?_
 refine we_then ?_
 refine wc_keep [0] (S' := [_]) rfl ?_
 refine wc_seq ?_
 refine wc_region ?_
 refine wl_pure rfl rfl rfl (freshS_eq rfl) rfl ?_
 obtain ⟨v5, hc5, hm⟩ := bindO_some hm
 refine wl_call [] [] rfl rfl rfl (freshS_eq rfl) rfl rfl fn_21 rfl (w_value_Truth_s N a0 _ hc5) (fun _ _ hφ => ask [0] rfl hφ) rfl (H' := []) rfl ?_
 rintro _ _ _ ⟨rfl, rfl, rfl⟩
 refine wl_reck rfl rfl rfl (freshS_eq rfl) (rk_field rfl rfl tFT_29_1 tA_2 tS_2 (v := .int .i64 v5) rfl) ?_
 refine wl_pure rfl rfl rfl (freshS_eq rfl) rfl ?_
 refine wl_pure rfl rfl rfl (freshS_eq rfl) rfl ?_
 refine wl_nil ?_
 refine we_then ?_
 refine wc_keep [3, 2] (S' := [_,_]) rfl ?_
 refine wc_ret ?_
 have hE := (Option.some.inj hm).symm
 replace hE := hE.symm
 subst hE
 refine ret_two (Hr := []) [] Tryd.results36 (res_tmp rfl) (res_tmp rfl) ⟨rfl, rfl, rfl⟩ (fun _ _ hφ => ask [] rfl hφ) rfl rfl (.inl rfl)
set_option maxRecDepth 100000 in
set_option maxHeartbeats 4000000 in
theorem w_value_does_5_s (N : Nat) (a0 : Int) (a1 : Int) (qg0 : Nat) (o0 : Int) (hm : m_value_does_5 N a0 a1 = some o0) : Spec Tryd.prog 41 [.int .i64 a0, .int .i64 a1, .pointer (some ⟨qg0, 0, none⟩)] [tabF Tryd.prog "internal/strconv.uint64pow10" .u64 Lib.pow10Tab 1 pow10_g] [.blk qg0 [.func (.func 36) #[] #[]] 58] (fun v Φr Hr => v = .tuple #[.int .i64 o0, .bool true] ∧ Φr = [] ∧ Hr = [.blk qg0 [.func (.func 36) #[] #[]] 58]) := by
 unfold m_value_does_5 at hm
 refine spec_of Tryd.func41 rfl Tryd.ntmps41 rfl (S := [_,_,_]) rfl (fun C => ?_)
 refine wc_seq ?_
 refine wc_region ?_
 refine wl_pure rfl rfl rfl (freshS_eq rfl) rfl ?_
 refine wl_pure rfl rfl rfl (freshS_eq rfl) rfl ?_
 refine wl_nil ?_
 refine we_then ?_
 refine wc_keep [0, 1, 2] (S' := [_,_,_]) rfl ?_
 refine wc_seq ?_
 refine wc_region ?_
 refine wl_loadH 0 0 rfl rfl rfl (freshS_eq rfl) rfl rfl rfl (cs := [_]) rfl tS_58 tA_58 rfl rfl ?_
 refine wl_pure rfl rfl rfl (freshS_eq rfl) rfl ?_
 refine wl_pure rfl rfl rfl (freshS_eq rfl) rfl ?_
 refine wl_pure rfl rfl rfl (freshS_eq rfl) rfl ?_
 obtain ⟨v11, hc11, hm⟩ := bindO_some hm
 refine wl_callDyn [] [0] rfl rfl rfl (freshS_eq rfl) rfl rfl rfl fn_36 rfl rfl (w_value_does_1_s N (decide (a0 < a1)) _ hc11) (fun _ _ hφ => ask [0] rfl hφ) rfl (H' := [_]) rfl ?_
 rintro _ _ _ ⟨rfl, rfl, rfl⟩
 refine wl_pure rfl rfl rfl (freshS_eq rfl) rfl ?_
 refine wl_pure rfl rfl rfl (freshS_eq rfl) rfl ?_
 refine wl_pure rfl rfl rfl (freshS_eq rfl) rfl ?_
 refine wl_pure rfl rfl rfl (freshS_eq rfl) rfl ?_
 refine wl_nil ?_
 refine we_then ?_
 refine wc_keep [6, 5] (S' := [_,_]) rfl ?_
 refine wc_ret ?_
 have hE := (Option.some.inj hm).symm
 replace hE := hE.symm
 subst hE
 refine ret_two (Hr := [_]) [0] Tryd.results41 (res_tmp rfl) (res_tmp rfl) ⟨rfl, rfl, rfl⟩ (fun _ _ hφ => ask [] rfl hφ) rfl rfl (.inl rfl)
set_option maxRecDepth 100000 in
set_option maxHeartbeats 4000000 in
theorem w_value_does_6_s (N : Nat) (a0 : Int) (a1 : Int) (qg0 : Nat) (o0 : Int) (hm : m_value_does_6 N a0 a1 = some o0) : Spec Tryd.prog 42 [.int .i64 a0, .int .i64 a1, .pointer (some ⟨qg0, 0, none⟩)] [tabF Tryd.prog "internal/strconv.uint64pow10" .u64 Lib.pow10Tab 1 pow10_g] [.blk qg0 [.func (.func 36) #[] #[]] 58] (fun v Φr Hr => v = .tuple #[.int .i64 o0, .bool true] ∧ Φr = [] ∧ Hr = [.blk qg0 [.func (.func 36) #[] #[]] 58]) := by
 unfold m_value_does_6 at hm
 refine spec_of Tryd.func42 rfl Tryd.ntmps42 rfl (S := [_,_,_]) rfl (fun C => ?_)
 refine wc_seq ?_
 refine wc_region ?_
 refine wl_pure rfl rfl rfl (freshS_eq rfl) rfl ?_
 refine wl_pure rfl rfl rfl (freshS_eq rfl) rfl ?_
 refine wl_nil ?_
 refine we_then ?_
 refine wc_keep [0, 1, 2] (S' := [_,_,_]) rfl ?_
 refine wc_seq ?_
 refine wc_region ?_
 refine wl_loadH 0 0 rfl rfl rfl (freshS_eq rfl) rfl rfl rfl (cs := [_]) rfl tS_58 tA_58 rfl rfl ?_
 refine wl_pure rfl rfl rfl (freshS_eq rfl) rfl ?_
 refine wl_pure rfl rfl rfl (freshS_eq rfl) rfl ?_
 refine wl_pure rfl rfl rfl (freshS_eq rfl) rfl ?_
 obtain ⟨v11, hc11, hm⟩ := bindO_some hm
 refine wl_callDyn [] [0] rfl rfl rfl (freshS_eq rfl) rfl rfl rfl fn_36 rfl rfl (w_value_does_1_s N (decide (a0 ≤ a1)) _ hc11) (fun _ _ hφ => ask [0] rfl hφ) rfl (H' := [_]) rfl ?_
 rintro _ _ _ ⟨rfl, rfl, rfl⟩
 refine wl_pure rfl rfl rfl (freshS_eq rfl) rfl ?_
 refine wl_pure rfl rfl rfl (freshS_eq rfl) rfl ?_
 refine wl_pure rfl rfl rfl (freshS_eq rfl) rfl ?_
 refine wl_pure rfl rfl rfl (freshS_eq rfl) rfl ?_
 refine wl_nil ?_
 refine we_then ?_
 refine wc_keep [6, 5] (S' := [_,_]) rfl ?_
 refine wc_ret ?_
 have hE := (Option.some.inj hm).symm
 replace hE := hE.symm
 subst hE
 refine ret_two (Hr := [_]) [0] Tryd.results42 (res_tmp rfl) (res_tmp rfl) ⟨rfl, rfl, rfl⟩ (fun _ _ hφ => ask [] rfl hφ) rfl rfl (.inl rfl)
set_option maxRecDepth 100000 in
set_option maxHeartbeats 4000000 in
theorem w_value_does_7_s (N : Nat) (a0 : Int) (a1 : Int) (qg0 : Nat) (o0 : Int) (hm : m_value_does_7 N a0 a1 = some o0) : Spec Tryd.prog 43 [.int .i64 a0, .int .i64 a1, .pointer (some ⟨qg0, 0, none⟩)] [tabF Tryd.prog "internal/strconv.uint64pow10" .u64 Lib.pow10Tab 1 pow10_g] [.blk qg0 [.func (.func 36) #[] #[]] 58] (fun v Φr Hr => v = .tuple #[.int .i64 o0, .bool true] ∧ Φr = [] ∧ Hr = [.blk qg0 [.func (.func 36) #[] #[]] 58]) := by
 unfold m_value_does_7 at hm
 refine spec_of Tryd.func43 rfl Tryd.ntmps43 rfl (S := [_,_,_]) rfl (fun C => ?_)
 refine wc_seq ?_
 refine wc_region ?_
 refine wl_pure rfl rfl rfl (freshS_eq rfl) rfl ?_
 refine wl_pure rfl rfl rfl (freshS_eq rfl) rfl ?_
 refine wl_nil ?_
 refine we_then ?_
 refine wc_keep [0, 1, 2] (S' := [_,_,_]) rfl ?_
 refine wc_seq ?_
 refine wc_region ?_
 refine wl_loadH 0 0 rfl rfl rfl (freshS_eq rfl) rfl rfl rfl (cs := [_]) rfl tS_58 tA_58 rfl rfl ?_
 refine wl_pure rfl rfl rfl (freshS_eq rfl) rfl ?_
 refine wl_pure rfl rfl rfl (freshS_eq rfl) rfl ?_
 refine wl_pure rfl rfl rfl (freshS_eq rfl) rfl ?_
 refine wl_split (d := 10) (S' := [_,_,_,_,_,_]) rfl rfl (fun hs10 => ?_) (fun hs10 => ?_)
 ·
  replace hm := iteT hm hs10
  refine wl_pure rfl rfl rfl (freshS_eq rfl) rfl ?_
  refine wl_pure rfl rfl rfl (freshS_eq rfl) rfl ?_
  refine wl_pure rfl rfl rfl (freshS_eq rfl) rfl ?_
  obtain ⟨v14, hc14, hm⟩ := bindO_some hm
  refine wl_callDyn [] [0] rfl rfl rfl (freshS_eq rfl) rfl rfl rfl fn_36 rfl rfl (w_value_does_1_s N (a1 != 0) _ hc14) (fun _ _ hφ => ask [0] rfl hφ) rfl (H' := [_]) rfl ?_
  rintro _ _ _ ⟨rfl, rfl, rfl⟩
  refine wl_pure rfl rfl rfl (freshS_eq rfl) rfl ?_
  refine wl_pure rfl rfl rfl (freshS_eq rfl) rfl ?_
  refine wl_pure rfl rfl rfl (freshS_eq rfl) rfl ?_
  refine wl_pure rfl rfl rfl (freshS_eq rfl) rfl ?_
  refine wl_nil ?_
  refine we_then ?_
  refine wc_keep [6, 5] (S' := [_,_]) rfl ?_
  refine wc_ret ?_
  have hE := (Option.some.inj hm).symm
  replace hE := hE.symm
  subst hE
  refine ret_two (Hr := [_]) [0] Tryd.results43 (res_tmp rfl) (res_tmp rfl) ⟨rfl, rfl, rfl⟩ (fun _ _ hφ => ask [] rfl hφ) rfl rfl (.inl rfl)
 ·
  replace hm := iteF hm hs10
  refine wl_off rfl rfl rfl (freshS_eq rfl) ?_
  refine wl_off rfl rfl rfl (freshS_eq rfl) ?_
  refine wl_pure rfl rfl rfl (freshS_eq rfl) rfl ?_
  obtain ⟨v14, hc14, hm⟩ := bindO_some hm
  refine wl_callDyn [] [0] rfl rfl rfl (freshS_eq rfl) rfl rfl rfl fn_36 rfl rfl (w_value_does_1_s N false _ hc14) (fun _ _ hφ => ask [0] rfl hφ) rfl (H' := [_]) rfl ?_
  rintro _ _ _ ⟨rfl, rfl, rfl⟩
  refine wl_pure rfl rfl rfl (freshS_eq rfl) rfl ?_
  refine wl_pure rfl rfl rfl (freshS_eq rfl) rfl ?_
  refine wl_pure rfl rfl rfl (freshS_eq rfl) rfl ?_
  refine wl_pure rfl rfl rfl (freshS_eq rfl) rfl ?_
  refine wl_nil ?_
  refine we_then ?_
  refine wc_keep [6, 5] (S' := [_,_]) rfl ?_
  refine wc_ret ?_
  have hE := (Option.some.inj hm).symm
  replace hE := hE.symm
  subst hE
  refine ret_two (Hr := [_]) [0] Tryd.results43 (res_tmp rfl) (res_tmp rfl) ⟨rfl, rfl, rfl⟩ (fun _ _ hφ => ask [] rfl hφ) rfl rfl (.inl rfl)
set_option maxRecDepth 100000 in
set_option maxHeartbeats 4000000 in
theorem w_value_does_8_s (N : Nat) (a0 : Int) (a1 : Int) (qg0 : Nat) (o0 : Int) (hm : m_value_does_8 N a0 a1 = some o0) : Spec Tryd.prog 44 [.int .i64 a0, .int .i64 a1, .pointer (some ⟨qg0, 0, none⟩)] [tabF Tryd.prog "internal/strconv.uint64pow10" .u64 Lib.pow10Tab 1 pow10_g] [.blk qg0 [.func (.func 36) #[] #[]] 58] (fun v Φr Hr => v = .tuple #[.int .i64 o0, .bool true] ∧ Φr = [] ∧ Hr = [.blk qg0 [.func (.func 36) #[] #[]] 58]) := by
 unfold m_value_does_8 at hm
 refine spec_of Tryd.func44 rfl Tryd.ntmps44 rfl (S := [_,_,_]) rfl (fun C => ?_)
 refine wc_seq ?_
 refine wc_region ?_
 refine wl_pure rfl rfl rfl (freshS_eq rfl) rfl ?_
 refine wl_pure rfl rfl rfl (freshS_eq rfl) rfl ?_
 refine wl_nil ?_
 refine we_then ?_
 refine wc_keep [0, 1, 2] (S' := [_,_,_]) rfl ?_
 refine wc_seq ?_
 refine wc_region ?_
 refine wl_loadH 0 0 rfl rfl rfl (freshS_eq rfl) rfl rfl rfl (cs := [_]) rfl tS_58 tA_58 rfl rfl ?_
 refine wl_pure rfl rfl rfl (freshS_eq rfl) rfl ?_
 refine wl_pure rfl rfl rfl (freshS_eq rfl) rfl ?_
 refine wl_pure rfl rfl rfl (freshS_eq rfl) rfl ?_
 refine wl_split (d := 10) (S' := [_,_,_,_,_,_]) rfl rfl (fun hs10 => ?_) (fun hs10 => ?_)
 ·
  replace hm := iteT hm hs10
  refine wl_off rfl rfl rfl (freshS_eq rfl) ?_
  refine wl_off rfl rfl rfl (freshS_eq rfl) ?_
  refine wl_pure rfl rfl rfl (freshS_eq rfl) rfl ?_
  obtain ⟨v14, hc14, hm⟩ := bindO_some hm
  refine wl_callDyn [] [0] rfl rfl rfl (freshS_eq rfl) rfl rfl rfl fn_36 rfl rfl (w_value_does_1_s N true _ hc14) (fun _ _ hφ => ask [0] rfl hφ) rfl (H' := [_]) rfl ?_
  rintro _ _ _ ⟨rfl, rfl, rfl⟩
  refine wl_pure rfl rfl rfl (freshS_eq rfl) rfl ?_
  refine wl_pure rfl rfl rfl (freshS_eq rfl) rfl ?_
  refine wl_pure rfl rfl rfl (freshS_eq rfl) rfl ?_
  refine wl_pure rfl rfl rfl (freshS_eq rfl) rfl ?_
  refine wl_nil ?_
  refine we_then ?_
  refine wc_keep [6, 5] (S' := [_,_]) rfl ?_
  refine wc_ret ?_
  have hE := (Option.some.inj hm).symm
  replace hE := hE.symm
  subst hE
  refine ret_two (Hr := [_]) [0] Tryd.results44 (res_tmp rfl) (res_tmp rfl) ⟨rfl, rfl, rfl⟩ (fun _ _ hφ => ask [] rfl hφ) rfl rfl (.inl rfl)
 ·
  replace hm := iteF hm hs10
  refine wl_pure rfl rfl rfl (freshS_eq rfl) rfl ?_
  refine wl_pure rfl rfl rfl (freshS_eq rfl) rfl ?_
  refine wl_pure rfl rfl rfl (freshS_eq rfl) rfl ?_
  obtain ⟨v14, hc14, hm⟩ := bindO_some hm
  refine wl_callDyn [] [0] rfl rfl rfl (freshS_eq rfl) rfl rfl rfl fn_36 rfl rfl (w_value_does_1_s N (a1 != 0) _ hc14) (fun _ _ hφ => ask [0] rfl hφ) rfl (H' := [_]) rfl ?_
  rintro _ _ _ ⟨rfl, rfl, rfl⟩
  refine wl_pure rfl rfl rfl (freshS_eq rfl) rfl ?_
  refine wl_pure rfl rfl rfl (freshS_eq rfl) rfl ?_
  refine wl_pure rfl rfl rfl (freshS_eq rfl) rfl ?_
  refine wl_pure rfl rfl rfl (freshS_eq rfl) rfl ?_
  refine wl_nil ?_
  refine we_then ?_
  refine wc_keep [6, 5] (S' := [_,_]) rfl ?_
  refine wc_ret ?_
  have hE := (Option.some.inj hm).symm
  replace hE := hE.symm
  subst hE
  refine ret_two (Hr := [_]) [0] Tryd.results44 (res_tmp rfl) (res_tmp rfl) ⟨rfl, rfl, rfl⟩ (fun _ _ hφ => ask [] rfl hφ) rfl rfl (.inl rfl)
set_option maxRecDepth 100000 in
set_option maxHeartbeats 4000000 in
theorem w_value_does_9_s (N : Nat) (a0 : Int) (a1 : Int) (qg0 : Nat) (o0 : Int) (hm : m_value_does_9 N a0 a1 = some o0) : Spec Tryd.prog 45 [.int .i64 a0, .int .i64 a1, .pointer (some ⟨qg0, 0, none⟩)] [tabF Tryd.prog "internal/strconv.uint64pow10" .u64 Lib.pow10Tab 1 pow10_g] [.blk qg0 [.func (.func 36) #[] #[]] 58] (fun v Φr Hr => v = .tuple #[.int .i64 o0, .bool true] ∧ Φr = [] ∧ Hr = [.blk qg0 [.func (.func 36) #[] #[]] 58]) := by
 unfold m_value_does_9 at hm
 refine spec_of Tryd.func45 rfl Tryd.ntmps45 rfl (S := [_,_,_]) rfl (fun C => ?_)
 refine wc_seq ?_
 refine wc_region ?_
 refine wl_pure rfl rfl rfl (freshS_eq rfl) rfl ?_
 refine wl_pure rfl rfl rfl (freshS_eq rfl) rfl ?_
 refine wl_nil ?_
 refine we_then ?_
 refine wc_keep [0, 2] (S' := [_,_]) rfl ?_
 refine wc_seq ?_
 refine wc_region ?_
 refine wl_loadH 0 0 rfl rfl rfl (freshS_eq rfl) rfl rfl rfl (cs := [_]) rfl tS_58 tA_58 rfl rfl ?_
 refine wl_pure rfl rfl rfl (freshS_eq rfl) rfl ?_
 refine wl_pure rfl rfl rfl (freshS_eq rfl) rfl ?_
 obtain ⟨v10, hc10, hm⟩ := bindO_some hm
 refine wl_callDyn [] [0] rfl rfl rfl (freshS_eq rfl) rfl rfl rfl fn_36 rfl rfl (w_value_does_1_s N (a0 == 0) _ hc10) (fun _ _ hφ => ask [0] rfl hφ) rfl (H' := [_]) rfl ?_
 rintro _ _ _ ⟨rfl, rfl, rfl⟩
 refine wl_pure rfl rfl rfl (freshS_eq rfl) rfl ?_
 refine wl_pure rfl rfl rfl (freshS_eq rfl) rfl ?_
 refine wl_pure rfl rfl rfl (freshS_eq rfl) rfl ?_
 refine wl_pure rfl rfl rfl (freshS_eq rfl) rfl ?_
 refine wl_nil ?_
 refine we_then ?_
 refine wc_keep [6, 5] (S' := [_,_]) rfl ?_
 refine wc_ret ?_
 have hE := (Option.some.inj hm).symm
 replace hE := hE.symm
 subst hE
 refine ret_two (Hr := [_]) [0] Tryd.results45 (res_tmp rfl) (res_tmp rfl) ⟨rfl, rfl, rfl⟩ (fun _ _ hφ => ask [] rfl hφ) rfl rfl (.inl rfl)
set_option maxRecDepth 100000 in
set_option maxHeartbeats 4000000 in
theorem w_value_Do_s (N : Nat) (a0 : Int) (qp0 : Option Addr) (qn1 : Nat) (qc2 : Nat) (l1 : List V) (o0 : Nat) (o1 : Int) (o2 : Nat) (hm : m_value_Do N a0 l1 = some (o0, o1, o2)) : Spec Tryd.prog 11 [.int .u8 a0, .slice qp0 qn1 qc2] [tabF Tryd.prog "internal/strconv.uint64pow10" .u64 Lib.pow10Tab 1 pow10_g] [.own 29 3 R_V (.slice qp0 qn1 qc2) l1] (fun v Φr Hr => v = .tuple #[.agg #[.int .u8 ((o0 : Nat) : Int), .int .i64 o1, .string ((⟨#[]⟩ : ByteArray))], .int .i64 ((o2 : Nat) : Int)] ∧ Φr = [] ∧ Hr = [.own 29 3 R_V (.slice qp0 qn1 qc2) l1]) := by
 unfold m_value_Do at hm
 refine spec_of Tryd.func11 rfl Tryd.ntmps11 rfl (S := [_,_]) rfl (fun C => ?_)
 refine wc_seq ?_
 refine wc_region ?_
 refine wl_alloc rfl rfl rfl (freshS_eq rfl) rfl tZ_29 rfl (fun g4 => ?_)
 refine wl_pure rfl rfl rfl (freshS_eq rfl) rfl ?_
 refine wl_nil ?_
 refine we_then ?_
 refine wc_keep [4, 0, 1] (S' := [_,_,_]) rfl ?_
 refine wc_seq ?_
 refine wc_region ?_
 refine wl_pure rfl rfl rfl (freshS_eq rfl) rfl ?_
 refine wl_nil ?_
 refine we_then ?_
 refine wc_seq ?_
 obtain ⟨bj_1, hm, hLj_1⟩ := bindO_some hm
 unfold m_value_Do_C1 at hm
 refine wc_cut (σ := Nat) (fun j_1_6 => bj_1 = j_1_6) (fun j_1_6 => [(4, .pointer (some ⟨g4, 0, none⟩)), (0, .int .u8 a0), (1, .slice qp0 qn1 qc2), (6, .int .i64 ((j_1_6 : Nat) : Int))]) (fun j_1_6 => [tabF Tryd.prog "internal/strconv.uint64pow10" .u64 Lib.pow10Tab 1 pow10_g]) (fun j_1_6 => [.blk g4 [.int .u8 0, .int .i64 0, .string ((⟨#[]⟩ : ByteArray))] 29, .own 29 3 R_V (.slice qp0 qn1 qc2) l1]) ?_ ?_
 ·
  refine wc_seq ?_
  obtain ⟨bj_2, hm, hLj_2⟩ := bindO_some hm
  refine wc_cut (σ := Bool) (fun j_2_19 => bj_2 = j_2_19) (fun j_2_19 => [(4, .pointer (some ⟨g4, 0, none⟩)), (0, .int .u8 a0), (1, .slice qp0 qn1 qc2), (6, .int .i64 2), (19, .bool j_2_19)]) (fun j_2_19 => [tabF Tryd.prog "internal/strconv.uint64pow10" .u64 Lib.pow10Tab 1 pow10_g]) (fun j_2_19 => [.blk g4 [.int .u8 0, .int .i64 0, .string ((⟨#[]⟩ : ByteArray))] 29, .own 29 3 R_V (.slice qp0 qn1 qc2) l1]) ?_ ?_
  ·
   refine wc_region ?_
   refine wl_pure rfl rfl rfl (freshS_eq rfl) rfl ?_
   refine wl_pure rfl rfl rfl (freshS_eq rfl) rfl ?_
   refine wl_pure rfl rfl rfl (freshS_eq rfl) rfl ?_
   refine wl_split (d := 16) (S' := [_,_,_,_,_,_]) rfl rfl (fun hs16 => ?_) (fun hs16 => ?_)
   ·
    replace hm := iteT hm hs16
    refine wl_off rfl rfl rfl (freshS_eq rfl) ?_
    refine wl_off rfl rfl rfl (freshS_eq rfl) ?_
    refine wl_pure rfl rfl rfl (freshS_eq rfl) rfl ?_
    refine wl_nil ?_
    have hE := (Option.some.inj hm).symm
    refine we_join true hE [4, 0, 1, 6, 19] rfl (fun _ _ hφ => ask [0] rfl hφ) rfl
   ·
    replace hm := iteF hm hs16
    refine wl_pure rfl rfl rfl (freshS_eq rfl) rfl ?_
    refine wl_pure rfl rfl rfl (freshS_eq rfl) rfl ?_
    refine wl_pure rfl rfl rfl (freshS_eq rfl) rfl ?_
    refine wl_nil ?_
    have hE := (Option.some.inj hm).symm
    refine we_join (a0 == 11) hE [4, 0, 1, 6, 19] rfl (fun _ _ hφ => ask [0] rfl hφ) rfl
  ·
   rintro j_2_19 hE
   try dsimp only
   have hm := hLj_2
   rw [hE] at hm
   refine wc_cond rfl (fun hb19 => ?_) (fun hb19 => ?_)
   ·
    replace hm := iteT hm hb19
    refine wc_keep [4, 0, 1] (S' := [_,_,_]) rfl ?_
    refine wc_region ?_
    refine wl_pure rfl rfl rfl (freshS_eq rfl) rfl ?_
    refine wl_nil ?_
    have hE := (Option.some.inj hm).symm
    refine we_join 1 hE [4, 0, 1, 6] rfl (fun _ _ hφ => ask [0] rfl hφ) rfl
   ·
    replace hm := iteF hm hb19
    refine wc_keep [4, 0, 1, 6] (S' := [_,_,_,_]) rfl ?_
    refine wc_skip ?_
    have hE := (Option.some.inj hm).symm
    refine we_join 2 hE [4, 0, 1, 6] rfl (fun _ _ hφ => ask [0] rfl hφ) rfl
 ·
  rintro j_1_6 hE
  try dsimp only
  have hm := hLj_1
  rw [hE] at hm
  refine wc_seq ?_
  refine wc_seq ?_
  obtain ⟨bj_3, hm, hLj_3⟩ := bindO_some hm
  refine wc_cut (σ := Bool) (fun j_3_31 => bj_3 = j_3_31) (fun j_3_31 => [(4, .pointer (some ⟨g4, 0, none⟩)), (0, .int .u8 a0), (1, .slice qp0 qn1 qc2), (6, .int .i64 ((j_1_6 : Nat) : Int)), (31, .bool j_3_31)]) (fun j_3_31 => [tabF Tryd.prog "internal/strconv.uint64pow10" .u64 Lib.pow10Tab 1 pow10_g]) (fun j_3_31 => [.blk g4 [.int .u8 0, .int .i64 0, .string ((⟨#[]⟩ : ByteArray))] 29, .own 29 3 R_V (.slice qp0 qn1 qc2) l1]) ?_ ?_
  ·
   refine wc_region ?_
   refine wl_pure rfl rfl rfl (freshS_eq rfl) rfl ?_
   refine wl_pure rfl rfl rfl (freshS_eq rfl) rfl ?_
   refine wl_pure rfl rfl rfl (freshS_eq rfl) rfl ?_
   refine wl_split (d := 22) (S' := [_,_,_,_,_,_]) rfl rfl (fun hs22 => ?_) (fun hs22 => ?_)
   ·
    replace hm := iteT hm hs22
    refine wl_off rfl rfl rfl (freshS_eq rfl) ?_
    refine wl_off rfl rfl rfl (freshS_eq rfl) ?_
    refine wl_pure rfl rfl rfl (freshS_eq rfl) rfl ?_
    refine wl_pure rfl rfl rfl (freshS_eq rfl) rfl ?_
    refine wl_off rfl rfl rfl (freshS_eq rfl) ?_
    refine wl_off rfl rfl rfl (freshS_eq rfl) ?_
    refine wl_off rfl rfl rfl (freshS_eq rfl) ?_
    refine wl_off rfl rfl rfl (freshS_eq rfl) ?_
    refine wl_pure rfl rfl rfl (freshS_eq rfl) rfl ?_
    refine wl_nil ?_
    have hE := (Option.some.inj hm).symm
    refine we_join true hE [4, 0, 1, 6, 31] rfl (fun _ _ hφ => ask [0] rfl hφ) rfl
   ·
    replace hm := iteF hm hs22
    refine wl_pure rfl rfl rfl (freshS_eq rfl) rfl ?_
    refine wl_pure rfl rfl rfl (freshS_eq rfl) rfl ?_
    refine wl_pure rfl rfl rfl (freshS_eq rfl) rfl ?_
    refine wl_pure rfl rfl rfl (freshS_eq rfl) rfl ?_
    refine wl_split (d := 26) (S' := [_,_,_,_,_,_,_,_,_,_]) rfl rfl (fun hs26 => ?_) (fun hs26 => ?_)
    ·
     replace hm := iteT hm hs26
     refine wl_off rfl rfl rfl (freshS_eq rfl) ?_
     refine wl_off rfl rfl rfl (freshS_eq rfl) ?_
     refine wl_off rfl rfl rfl (freshS_eq rfl) ?_
     refine wl_off rfl rfl rfl (freshS_eq rfl) ?_
     refine wl_pure rfl rfl rfl (freshS_eq rfl) rfl ?_
     refine wl_nil ?_
     have hE := (Option.some.inj hm).symm
     refine we_join true hE [4, 0, 1, 6, 31] rfl (fun _ _ hφ => ask [0] rfl hφ) rfl
    ·
     replace hm := iteF hm hs26
     refine wl_pure rfl rfl rfl (freshS_eq rfl) rfl ?_
     refine wl_ownLen 1 rfl (fun hl28 _ => ?_)
     refine wl_len rfl rfl rfl (freshS_eq rfl) rfl rfl tE_23 ?_
     refine wl_as (d := 28) (v' := .int .i64 ((l1.length : Nat) : Int)) (S' := [_,_,_,_,_,_,_,_,_,_,_,_]) rfl rfl (len_is hl28) ?_
     refine wl_pure rfl rfl rfl (freshS_eq rfl) rfl ?_
     refine wl_pure rfl rfl rfl (freshS_eq rfl) rfl ?_
     refine wl_as (d := 30) (v' := .bool (l1.length != j_1_6)) (S' := [_,_,_,_,_,_,_,_,_,_,_,_,_,_]) rfl rfl (natne (a := l1.length) (b := j_1_6)) ?_
     refine wl_pure rfl rfl rfl (freshS_eq rfl) rfl ?_
     refine wl_nil ?_
     have hE := (Option.some.inj hm).symm
     refine we_join (l1.length != j_1_6) hE [4, 0, 1, 6, 31] rfl (fun _ _ hφ => ask [0] rfl hφ) rfl
  ·
   rintro j_3_31 hE
   try dsimp only
   have hm := hLj_3
   rw [hE] at hm
   refine wc_cond rfl (fun hb31 => ?_) (fun hb31 => ?_)
   ·
    replace hm := iteT hm hb31
    refine wc_keep [4] (S' := [_]) rfl ?_
    refine wc_seq ?_
    refine wc_region ?_
    refine wl_build rfl rfl rfl (freshS_eq rfl) rfl tZ_29 tP_29 rfl (out := [_,_,_]) rfl ?_
    refine wl_store 0 0 rfl rfl rfl rfl rfl rfl rfl tS_29 rfl rfl rfl (all' := [_,_,_]) rfl (H' := [_,_]) rfl ?_
    refine wl_pure rfl rfl rfl (freshS_eq rfl) rfl ?_
    refine wl_nil ?_
    refine we_then ?_
    refine wc_keep [5, 4] (S' := [_,_]) rfl ?_
    refine wc_ret ?_
    refine we_then_ret ?_
    have hE := (Option.some.inj hm).symm
    obtain ⟨hE0, hF1⟩ := Prod.mk.inj hE
    obtain ⟨hE1, hE2⟩ := Prod.mk.inj hF1
    clear hE hF1
    replace hE0 := hE0.symm
    subst hE0
    replace hE1 := hE1.symm
    subst hE1
    replace hE2 := hE2.symm
    subst hE2
    refine ret_two (Hr := [_]) [1] Tryd.results11 (res_cell 0 rfl rfl tS_29 tA_29 rfl rfl) (res_tmp rfl) ⟨rfl, rfl, rfl⟩ (fun _ _ hφ => ask [] rfl hφ) rfl rfl (.inl rfl)
   ·
    replace hm := iteF hm hb31
    refine wc_keep [4, 0, 1, 6] (S' := [_,_,_,_]) rfl ?_
    refine wc_skip ?_
    refine we_then ?_
    refine wc_seq ?_
    refine wc_region ?_
    refine wl_pure rfl rfl rfl (freshS_eq rfl) rfl ?_
    refine wl_nil ?_
    refine we_then ?_
    refine wc_seq ?_
    obtain ⟨bj_4, hm, hLj_4⟩ := bindS_some hm
    refine wc_cut (σ := Bool) (fun j_4_7 => bj_4 = .inl j_4_7) (fun j_4_7 => [(4, .pointer (some ⟨g4, 0, none⟩)), (0, .int .u8 a0), (1, .slice qp0 qn1 qc2), (6, .int .i64 ((j_1_6 : Nat) : Int)), (7, .bool j_4_7)]) (fun j_4_7 => [tabF Tryd.prog "internal/strconv.uint64pow10" .u64 Lib.pow10Tab 1 pow10_g]) (fun j_4_7 => [.blk g4 [.int .u8 0, .int .i64 0, .string ((⟨#[]⟩ : ByteArray))] 29, .own 29 3 R_V (.slice qp0 qn1 qc2) l1]) ?_ ?_
    ·
     refine wc_seq ?_
     refine wc_region ?_
     refine wl_pure rfl rfl rfl (freshS_eq rfl) rfl ?_
     refine wl_ownLen 1 rfl (fun hl34 _ => ?_)
     refine wl_len rfl rfl rfl (freshS_eq rfl) rfl rfl tE_23 ?_
     refine wl_as (d := 34) (v' := .int .i64 ((l1.length : Nat) : Int)) (S' := [_,_,_,_,_,_]) rfl rfl (len_is hl34) ?_
     refine wl_pure rfl rfl rfl (freshS_eq rfl) rfl ?_
     refine wl_nil ?_
     refine we_then ?_
     refine wc_block ?_
     refine wc_pick [1, 0] rfl (H' := [_,_]) rfl ?_
     refine wc_loop (σ := Nat × Nat × Bool) (fun (nu1, u1_35, u1_7) => iter (m_value_Do_L1 N l1) nu1 (u1_35, u1_7) = some bj_4) (fun (nu1, u1_35, u1_7) => nu1) (fun (nu1, u1_35, u1_7) => [(35, .int .i64 ((u1_35 : Nat) : Int)), (34, .int .i64 ((l1.length : Nat) : Int)), (33, .slice qp0 qn1 qc2), (7, .bool u1_7), (4, .pointer (some ⟨g4, 0, none⟩)), (0, .int .u8 a0), (1, .slice qp0 qn1 qc2), (6, .int .i64 ((j_1_6 : Nat) : Int))]) (fun (nu1, u1_35, u1_7) => [tabF Tryd.prog "internal/strconv.uint64pow10" .u64 Lib.pow10Tab 1 pow10_g]) (fun (nu1, u1_35, u1_7) => [.own 29 3 R_V (.slice qp0 qn1 qc2) l1, .blk g4 [.int .u8 0, .int .i64 0, .string ((⟨#[]⟩ : ByteArray))] 29]) (N, 0, false) hm [35, 34, 33, 7, 4, 0, 1, 6] rfl (fun _ _ hφ => ask [0] rfl hφ) rfl (fun s_ hm => ?_)
     obtain ⟨nu1, u1_35, u1_7⟩ := s_
     try dsimp only at hm ⊢
     obtain ⟨mu1, bu1, hnu1, hq, hLu1⟩ := iter_some hm
     clear hm
     subst hnu1
     replace hm := hq
     clear hq
     unfold m_value_Do_L1 at hm
     try dsimp only at hm
     refine wc_seq ?_
     refine wc_region ?_
     refine wl_pure rfl rfl rfl (freshS_eq rfl) rfl ?_
     refine wl_as (d := 36) (v' := .bool (decide (u1_35 < l1.length))) (S' := [_,_,_,_,_,_,_,_]) rfl rfl (natlt (a := u1_35) (b := l1.length)) ?_
     refine wl_nil ?_
     refine we_then ?_
     refine wc_seq ?_
     refine wc_cond rfl (fun hb36 => ?_) (fun hb36 => ?_)
     ·
      replace hm := iteT hm hb36
      refine wc_keep [35, 34, 33, 7, 4, 0, 1, 6] (S' := [_,_,_,_,_,_,_,_]) rfl ?_
      refine wc_skip ?_
      refine we_then ?_
      refine wc_seq ?_
      obtain ⟨bj_5, hm, hLj_5⟩ := bindS_some hm
      unfold m_value_Do_C5 at hm
      refine wc_cut (σ := Bool) (fun j_5_7 => bj_5 = .inl j_5_7) (fun j_5_7 => [(35, .int .i64 ((u1_35 : Nat) : Int)), (34, .int .i64 ((l1.length : Nat) : Int)), (33, .slice qp0 qn1 qc2), (7, .bool j_5_7), (4, .pointer (some ⟨g4, 0, none⟩)), (0, .int .u8 a0), (1, .slice qp0 qn1 qc2), (6, .int .i64 ((j_1_6 : Nat) : Int))]) (fun j_5_7 => [tabF Tryd.prog "internal/strconv.uint64pow10" .u64 Lib.pow10Tab 1 pow10_g]) (fun j_5_7 => [.own 29 3 R_V (.slice qp0 qn1 qc2) l1, .blk g4 [.int .u8 0, .int .i64 0, .string ((⟨#[]⟩ : ByteArray))] 29]) ?_ ?_
      ·
       refine wc_block ?_
       refine wc_seq ?_
       refine wc_region ?_
       obtain ⟨x37, hx37, hm⟩ := bindO_some hm
       refine wl_indexH 0 u1_35 rfl rfl rfl (freshS_eq rfl) rfl rfl rfl rfl rfl (get_lt hx37) tE_23 tS_29 (fun g37 eg37 => ?_)
       subst eg37
       refine wl_loadRow R_V_opens 0 u1_35 0 rfl rfl rfl (freshS_eq rfl) rfl rfl rfl hx37 tS_29 tA_29 (v := fun _ => .agg #[.int .u8 (x37.k), .int .i64 (x37.n), .string x37.s]) (fun _ => rfl) (fun _ => rfl) (fun _ _ => ?_)
       refine wl_alloc rfl rfl rfl (freshS_eq rfl) rfl tZ_29 rfl (fun g9 => ?_)
       refine wl_store 0 0 rfl rfl rfl rfl rfl rfl rfl tS_29 rfl rfl rfl (all' := [_,_,_]) rfl (H' := [_,_,_]) rfl ?_
       refine wl_nil ?_
       refine we_then ?_
       refine wc_keep [9, 35, 34, 33, 7, 4, 0, 1, 6] (S' := [_,_,_,_,_,_,_,_,_]) rfl ?_
       refine wc_seq ?_
       refine wc_seq ?_
       refine wc_region ?_
       refine wl_loadH 0 0 rfl rfl rfl (freshS_eq rfl) rfl rfl rfl (cs := [_,_,_]) rfl tS_29 tA_29 rfl rfl ?_
       obtain ⟨v40, hc40, hm⟩ := bindO_some hm
       refine wl_call [] [0, 1, 2] rfl rfl rfl (freshS_eq rfl) rfl rfl fn_15 rfl (w_value_Right_s N x37.k x37.n x37.s _ hc40) (fun _ _ hφ => ask [0] rfl hφ) rfl (H' := [_,_,_]) rfl ?_
       rintro _ _ _ ⟨rfl, rfl, rfl⟩
       refine wl_pure rfl rfl rfl (freshS_eq rfl) rfl ?_
       refine wl_nil ?_
       refine we_then ?_
       refine wc_keep [41, 9, 35, 34, 33, 7, 4, 0, 1, 6] (S' := [_,_,_,_,_,_,_,_,_,_]) rfl ?_
       refine wc_cond rfl (fun hb41 => ?_) (fun hb41 => ?_)
       ·
        replace hm := iteT hm hb41
        refine wc_keep [4] (S' := [_]) rfl ?_
        refine wc_seq ?_
        refine wc_region ?_
        refine wl_build rfl rfl rfl (freshS_eq rfl) rfl tZ_29 tP_29 rfl (out := [_,_,_]) rfl ?_
        refine wl_store 2 0 rfl rfl rfl rfl rfl rfl rfl tS_29 rfl rfl rfl (all' := [_,_,_]) rfl (H' := [_,_,_]) rfl ?_
        refine wl_pure rfl rfl rfl (freshS_eq rfl) rfl ?_
        refine wl_nil ?_
        refine we_then ?_
        refine wc_keep [5, 4] (S' := [_,_]) rfl ?_
        refine wc_ret ?_
        refine we_then_ret ?_
        refine we_block_ret ?_
        refine we_then_ret ?_
        refine we_then_ret ?_
        refine we_block_ret ?_
        refine we_then_ret ?_
        have hE := (Option.some.inj hm).symm
        replace hE := link_inr hLj_5 hE
        replace hE := link_inr hLu1 hE
        replace hE := link_inr hLj_4 hE
        obtain ⟨hE0, hF1⟩ := Prod.mk.inj hE
        obtain ⟨hE1, hE2⟩ := Prod.mk.inj hF1
        clear hE hF1
        replace hE0 := hE0.symm
        subst hE0
        replace hE1 := hE1.symm
        subst hE1
        replace hE2 := hE2.symm
        subst hE2
        refine ret_two (Hr := [_]) [1] Tryd.results11 (res_cell 2 rfl rfl tS_29 tA_29 rfl rfl) (res_tmp rfl) ⟨rfl, rfl, rfl⟩ (fun _ _ hφ => ask [] rfl hφ) rfl rfl (.inl rfl)
       ·
        replace hm := iteF hm hb41
        refine wc_keep [9, 35, 34, 33, 7, 4, 0, 1, 6] (S' := [_,_,_,_,_,_,_,_,_]) rfl ?_
        refine wc_skip ?_
        refine we_then ?_
        refine wc_region ?_
        refine wl_pure rfl rfl rfl (freshS_eq rfl) rfl ?_
        refine wl_pure rfl rfl rfl (freshS_eq rfl) rfl ?_
        refine wl_split (d := 44) (S' := [_,_,_,_,_,_,_,_,_,_]) rfl rfl (fun hs44 => ?_) (fun hs44 => ?_)
        ·
         replace hm := iteT hm hs44
         refine wl_off rfl rfl rfl (freshS_eq rfl) ?_
         refine wl_off rfl rfl rfl (freshS_eq rfl) ?_
         refine wl_off rfl rfl rfl (freshS_eq rfl) ?_
         refine wl_pure rfl rfl rfl (freshS_eq rfl) rfl ?_
         refine wl_pure (S' := [_,_,_,_,_,_,_,_,_,_,_,_,_,_]) rfl rfl rfl rfl rfl ?_
         refine wl_nil ?_
         refine we_block_normal ?_
         have hE := (Option.some.inj hm).symm
         refine we_pick [1, 2] rfl (H' := [_,_]) rfl ?_
         refine we_join true hE [35, 34, 33, 7, 4, 0, 1, 6] rfl (fun _ _ hφ => ask [0] rfl hφ) rfl
        ·
         replace hm := iteF hm hs44
         refine wl_fieldAddr rfl rfl rfl (freshS_eq rfl) rfl rfl tF_29_0 ?_
         refine wl_loadH 0 0 rfl rfl rfl (freshS_eq rfl) rfl rfl rfl (cs := [_]) rfl tS_27 tA_27 rfl rfl ?_
         refine wl_pure rfl rfl rfl (freshS_eq rfl) rfl ?_
         refine wl_pure rfl rfl rfl (freshS_eq rfl) rfl ?_
         refine wl_pure (S' := [_,_,_,_,_,_,_,_,_,_,_,_,_,_]) rfl rfl rfl rfl rfl ?_
         refine wl_nil ?_
         refine we_block_normal ?_
         have hE := (Option.some.inj hm).symm
         refine we_pick [1, 2] rfl (H' := [_,_]) rfl ?_
         refine we_join (x37.k == 2) hE [35, 34, 33, 7, 4, 0, 1, 6] rfl (fun _ _ hφ => ask [0] rfl hφ) rfl
      ·
       rintro j_5_7 hE
       try dsimp only
       have hm := link_inl hLj_5 hE
       refine wc_region ?_
       refine wl_pure rfl rfl rfl (freshS_eq rfl) rfl ?_
       obtain ⟨hg49, hm⟩ := gd_some hm
       refine wl_as (d := 49) (v' := .int .i64 ((u1_35 + 1 : Nat) : Int)) (S' := [_,_,_,_,_,_,_,_]) rfl rfl (nat_add (a := u1_35) (b := 1) hg49) ?_
       refine wl_pure (S' := [_,_,_,_,_,_,_,_]) rfl rfl rfl rfl rfl ?_
       refine wl_nil ?_
       have hE := (Option.some.inj hm).symm
       replace hE := link_inl hLu1 hE
       refine we_roundK (_, u1_35 + 1, j_5_7) (Nat.lt_succ_self _) hE [35, 34, 33, 7, 4, 0, 1, 6] rfl (fun _ _ hφ => ask [0] rfl hφ) rfl
     ·
      replace hm := iteF hm hb36
      refine wc_keep [7, 4, 0, 1, 6] (S' := [_,_,_,_,_]) rfl ?_
      refine wc_exit ?_
      refine we_then_exit ?_
      refine we_then_exit ?_
      refine we_block_hit ?_
      have hE := (Option.some.inj hm).symm
      replace hE := link_inr hLu1 hE
      refine we_pick [1, 0] rfl (H' := [_,_]) rfl ?_
      refine we_join u1_7 hE [4, 0, 1, 6, 7] rfl (fun _ _ hφ => ask [0] rfl hφ) rfl
    ·
     rintro j_4_7 hE
     try dsimp only
     have hm := link_inl hLj_4 hE
     refine wc_seq ?_
     obtain ⟨x51, hx51, hm⟩ := bindO_some hm
     obtain ⟨hg55, hm⟩ := gd_some hm
     obtain ⟨hn56, hm⟩ := gd_some hm
     obtain ⟨x56, hx56, hm⟩ := bindO_some hm
     refine wc_cut (σ := Nat × Nat) (fun _ => True) (fun (w_6_11_g, w_6_10_g) => [(11, .pointer (some ⟨w_6_11_g, 0, none⟩)), (10, .pointer (some ⟨w_6_10_g, 0, none⟩)), (4, .pointer (some ⟨g4, 0, none⟩)), (0, .int .u8 a0), (7, .bool j_4_7)]) (fun (w_6_11_g, w_6_10_g) => [tabF Tryd.prog "internal/strconv.uint64pow10" .u64 Lib.pow10Tab 1 pow10_g]) (fun (w_6_11_g, w_6_10_g) => [.blk w_6_11_g [.int .u8 (x56.k), .int .i64 (x56.n), .string x56.s] 29, .blk w_6_10_g [.int .u8 (x51.k), .int .i64 (x51.n), .string x51.s] 29, .blk g4 [.int .u8 0, .int .i64 0, .string ((⟨#[]⟩ : ByteArray))] 29, .own 29 3 R_V (.slice qp0 qn1 qc2) l1]) ?_ ?_
     ·
      refine wc_draw [0, 1, 2, 3, 4, 5, 6, 7] rfl rfl (fun hok => ?_)
      refine wx_pure hok 0 rfl rfl rfl (freshS_eq rfl) rfl rfl ?_
      refine wx_indexH hok 1 1 0 rfl rfl rfl (freshS_eq rfl) rfl rfl rfl rfl rfl rfl (get_lt hx51) tE_23 tS_29 (fun g51 eg51 => ?_)
      subst eg51
      refine wx_loadRow hok 2 R_V_opens 1 0 0 rfl rfl rfl (freshS_eq rfl) rfl rfl rfl rfl hx51 tS_29 tA_29 (v := .agg #[.int .u8 (x51.k), .int .i64 (x51.n), .string x51.s]) rfl rfl (fun _ => ?_)
      refine wx_pure hok 3 rfl rfl rfl (freshS_eq rfl) rfl rfl ?_
      refine wx_pure hok 4 rfl rfl rfl (freshS_eq rfl) rfl rfl ?_
      refine wx_pure hok 5 rfl rfl rfl (freshS_eq rfl) rfl rfl ?_
      refine wx_as (d := 55) (v' := .int .i64 (((j_1_6 : Nat) : Int) - 1)) (S' := [_,_,_,_,_,_,_,_,_,_]) rfl rfl (i64_in hg55) ?_
      refine wx_indexK hok 6 1 ((((j_1_6 : Nat) : Int) - 1).toNat) rfl rfl rfl (freshS_eq rfl) rfl rfl rfl rfl rfl (toNat_eq hn56) (get_lt hx56) tE_23 tS_29 ?_
      refine wx_loadRow hok 7 R_V_opens 1 ((((j_1_6 : Nat) : Int) - 1).toNat) 0 rfl rfl rfl (freshS_eq rfl) rfl rfl rfl rfl hx56 tS_29 tA_29 (v := .agg #[.int .u8 (x56.k), .int .i64 (x56.n), .string x56.s]) rfl rfl (fun _ => ?_)
      refine wx_step2 hok 8 9 rfl rfl rfl rfl rfl rfl ?_ ?_
      ·
       refine wl_alloc rfl rfl rfl (freshS_eq rfl) rfl tZ_29 rfl (fun g10 => ?_)
       refine wl_nil ?_
       refine we_x [0] [2, 2] rfl rfl ?_
       refine wx_step1 hok 9 rfl rfl rfl rfl ?_
       refine wl_alloc rfl rfl rfl (freshS_eq rfl) rfl tZ_29 rfl (fun g11 => ?_)
       refine wl_nil ?_
       refine we_x [0] [3, 3] rfl rfl ?_
       refine wx_step1 hok 10 rfl rfl rfl rfl ?_
       refine wl_store 1 0 rfl rfl rfl rfl rfl rfl rfl tS_29 rfl rfl rfl (all' := [_,_,_]) rfl (H' := [_,_,_,_]) rfl ?_
       refine wl_nil ?_
       refine we_x [0] [3] rfl rfl ?_
       refine wx_step1 hok 11 rfl rfl rfl rfl ?_
       refine wl_store 0 0 rfl rfl rfl rfl rfl rfl rfl tS_29 rfl rfl rfl (all' := [_,_,_]) rfl (H' := [_,_,_,_]) rfl ?_
       refine wl_nil ?_
       refine we_x [0] [] rfl rfl ?_
       refine wx_done hok rfl ?_
       refine we_join (g11, g10) trivial [11, 10, 4, 0, 7] rfl (fun _ _ hφ => ask [0] rfl hφ) rfl
      ·
       refine wl_alloc rfl rfl rfl (freshS_eq rfl) rfl tZ_29 rfl (fun g11 => ?_)
       refine wl_nil ?_
       refine we_x [0] [2, 2] rfl rfl ?_
       refine wx_step1 hok 8 rfl rfl rfl rfl ?_
       refine wl_alloc rfl rfl rfl (freshS_eq rfl) rfl tZ_29 rfl (fun g10 => ?_)
       refine wl_nil ?_
       refine we_x [0] [3, 3] rfl rfl ?_
       refine wx_step1 hok 10 rfl rfl rfl rfl ?_
       refine wl_store 0 0 rfl rfl rfl rfl rfl rfl rfl tS_29 rfl rfl rfl (all' := [_,_,_]) rfl (H' := [_,_,_,_]) rfl ?_
       refine wl_nil ?_
       refine we_x [0] [3] rfl rfl ?_
       refine wx_step1 hok 11 rfl rfl rfl rfl ?_
       refine wl_store 1 0 rfl rfl rfl rfl rfl rfl rfl tS_29 rfl rfl rfl (all' := [_,_,_]) rfl (H' := [_,_,_,_]) rfl ?_
       refine wl_nil ?_
       refine we_x [0] [] rfl rfl ?_
       refine wx_done hok rfl ?_
       refine we_pick [1, 0, 2, 3] rfl (H' := [_,_,_,_]) rfl ?_
       refine we_join (g11, g10) trivial [11, 10, 4, 0, 7] rfl (fun _ _ hφ => ask [0] rfl hφ) rfl
     ·
      rintro ⟨w_6_11_g, w_6_10_g⟩ _
      try dsimp only
      refine wc_seq ?_
      refine wc_block ?_
      refine wc_seq ?_
      refine wc_region ?_
      refine wl_pure rfl rfl rfl (freshS_eq rfl) rfl ?_
      refine wl_pure rfl rfl rfl (freshS_eq rfl) rfl ?_
      refine wl_pure rfl rfl rfl (freshS_eq rfl) rfl ?_
      refine wl_nil ?_
      refine we_then ?_
      refine wc_keep [58, 11, 10, 4, 0, 7] (S' := [_,_,_,_,_,_]) rfl ?_
      refine wc_cond rfl (fun hb58 => ?_) (fun hb58 => ?_)
      ·
       replace hm := iteT hm hb58
       refine wc_keep [11, 10, 4] (S' := [_,_,_]) rfl ?_
       refine wc_seq ?_
       refine wc_region ?_
       refine wl_loadH 1 0 rfl rfl rfl (freshS_eq rfl) rfl rfl rfl (cs := [_,_,_]) rfl tS_29 tA_29 rfl rfl ?_
       refine wl_loadH 0 0 rfl rfl rfl (freshS_eq rfl) rfl rfl rfl (cs := [_,_,_]) rfl tS_29 tA_29 rfl rfl ?_
       refine wl_bin rfl rfl rfl (freshS_eq rfl) rfl rfl rfl (eqlV _ _ x51 x56) ?_
       obtain ⟨v64, hc64, hm⟩ := bindO_some hm
       refine wl_call [] [0, 1, 2, 3] rfl rfl rfl (freshS_eq rfl) rfl rfl fn_21 rfl (w_value_Truth_s N (decide (x51 = x56)) _ hc64) (fun _ _ hφ => ask [0] rfl hφ) rfl (H' := [_,_,_,_]) rfl ?_
       rintro _ _ _ ⟨rfl, rfl, rfl⟩
       refine wl_store 2 0 rfl rfl rfl rfl rfl rfl rfl tS_29 rfl rfl rfl (all' := [_,_,_]) rfl (H' := [_,_,_,_]) rfl ?_
       refine wl_pure rfl rfl rfl (freshS_eq rfl) rfl ?_
       refine wl_nil ?_
       refine we_then ?_
       refine wc_keep [5, 4] (S' := [_,_]) rfl ?_
       refine wc_ret ?_
       refine we_block_ret ?_
       refine we_then_ret ?_
       have hE := (Option.some.inj hm).symm
       obtain ⟨hE0, hF1⟩ := Prod.mk.inj hE
       obtain ⟨hE1, hE2⟩ := Prod.mk.inj hF1
       clear hE hF1
       replace hE0 := hE0.symm
       subst hE0
       replace hE1 := hE1.symm
       subst hE1
       replace hE2 := hE2.symm
       subst hE2
       refine ret_two (Hr := [_]) [3] Tryd.results11 (res_cell 2 rfl rfl tS_29 tA_29 rfl rfl) (res_tmp rfl) ⟨rfl, rfl, rfl⟩ (fun _ _ hφ => ask [] rfl hφ) rfl rfl (.inl rfl)
      ·
       replace hm := iteF hm hb58
       refine wc_keep [11, 10, 4, 0, 7] (S' := [_,_,_,_,_]) rfl ?_
       refine wc_seq ?_
       refine wc_region ?_
       refine wl_pure rfl rfl rfl (freshS_eq rfl) rfl ?_
       refine wl_pure rfl rfl rfl (freshS_eq rfl) rfl ?_
       refine wl_pure rfl rfl rfl (freshS_eq rfl) rfl ?_
       refine wl_nil ?_
       refine we_then ?_
       refine wc_keep [65, 11, 10, 4, 0, 7] (S' := [_,_,_,_,_,_]) rfl ?_
       refine wc_cond rfl (fun hb65 => ?_) (fun hb65 => ?_)
       ·
        replace hm := iteT hm hb65
        refine wc_keep [11, 10, 4] (S' := [_,_,_]) rfl ?_
        refine wc_seq ?_
        refine wc_region ?_
        refine wl_loadH 1 0 rfl rfl rfl (freshS_eq rfl) rfl rfl rfl (cs := [_,_,_]) rfl tS_29 tA_29 rfl rfl ?_
        refine wl_loadH 0 0 rfl rfl rfl (freshS_eq rfl) rfl rfl rfl (cs := [_,_,_]) rfl tS_29 tA_29 rfl rfl ?_
        refine wl_bin rfl rfl rfl (freshS_eq rfl) rfl rfl rfl (neqV _ _ x51 x56) ?_
        obtain ⟨v71, hc71, hm⟩ := bindO_some hm
        refine wl_call [] [0, 1, 2, 3] rfl rfl rfl (freshS_eq rfl) rfl rfl fn_21 rfl (w_value_Truth_s N (!decide (x51 = x56)) _ hc71) (fun _ _ hφ => ask [0] rfl hφ) rfl (H' := [_,_,_,_]) rfl ?_
        rintro _ _ _ ⟨rfl, rfl, rfl⟩
        refine wl_store 2 0 rfl rfl rfl rfl rfl rfl rfl tS_29 rfl rfl rfl (all' := [_,_,_]) rfl (H' := [_,_,_,_]) rfl ?_
        refine wl_pure rfl rfl rfl (freshS_eq rfl) rfl ?_
        refine wl_nil ?_
        refine we_then ?_
        refine wc_keep [5, 4] (S' := [_,_]) rfl ?_
        refine wc_ret ?_
        refine we_block_ret ?_
        refine we_then_ret ?_
        have hE := (Option.some.inj hm).symm
        obtain ⟨hE0, hF1⟩ := Prod.mk.inj hE
        obtain ⟨hE1, hE2⟩ := Prod.mk.inj hF1
        clear hE hF1
        replace hE0 := hE0.symm
        subst hE0
        replace hE1 := hE1.symm
        subst hE1
        replace hE2 := hE2.symm
        subst hE2
        refine ret_two (Hr := [_]) [3] Tryd.results11 (res_cell 2 rfl rfl tS_29 tA_29 rfl rfl) (res_tmp rfl) ⟨rfl, rfl, rfl⟩ (fun _ _ hφ => ask [] rfl hφ) rfl rfl (.inl rfl)
       ·
        replace hm := iteF hm hb65
        refine wc_keep [11, 10, 4, 0, 7] (S' := [_,_,_,_,_]) rfl ?_
        refine wc_seq ?_
        refine wc_region ?_
        refine wl_pure rfl rfl rfl (freshS_eq rfl) rfl ?_
        refine wl_pure rfl rfl rfl (freshS_eq rfl) rfl ?_
        refine wl_nil ?_
        refine we_then ?_
        refine wc_keep [72, 11, 10, 4, 0] (S' := [_,_,_,_,_]) rfl ?_
        refine wc_cond rfl (fun hb72 => ?_) (fun hb72 => ?_)
        ·
         replace hm := iteT hm hb72
         refine wc_keep [4] (S' := [_]) rfl ?_
         refine wc_seq ?_
         refine wc_region ?_
         refine wl_build rfl rfl rfl (freshS_eq rfl) rfl tZ_29 tP_29 rfl (out := [_,_,_]) rfl ?_
         refine wl_store 2 0 rfl rfl rfl rfl rfl rfl rfl tS_29 rfl rfl rfl (all' := [_,_,_]) rfl (H' := [_,_,_,_]) rfl ?_
         refine wl_pure rfl rfl rfl (freshS_eq rfl) rfl ?_
         refine wl_nil ?_
         refine we_then ?_
         refine wc_keep [5, 4] (S' := [_,_]) rfl ?_
         refine wc_ret ?_
         refine we_block_ret ?_
         refine we_then_ret ?_
         have hE := (Option.some.inj hm).symm
         obtain ⟨hE0, hF1⟩ := Prod.mk.inj hE
         obtain ⟨hE1, hE2⟩ := Prod.mk.inj hF1
         clear hE hF1
         replace hE0 := hE0.symm
         subst hE0
         replace hE1 := hE1.symm
         subst hE1
         replace hE2 := hE2.symm
         subst hE2
         refine ret_two (Hr := [_]) [3] Tryd.results11 (res_cell 2 rfl rfl tS_29 tA_29 rfl rfl) (res_tmp rfl) ⟨rfl, rfl, rfl⟩ (fun _ _ hφ => ask [] rfl hφ) rfl rfl (.inl rfl)
        ·
         replace hm := iteF hm hb72
         refine wc_keep [11, 10, 4, 0] (S' := [_,_,_,_]) rfl ?_
         refine wc_skip ?_
         refine we_block_normal ?_
         refine we_then ?_
         refine wc_seq ?_
         obtain ⟨bj_7, hm, hLj_7⟩ := bindO_some hm
         unfold m_value_Do_C7 at hm
         refine wc_cut (σ := Int × Bool) (fun (j_7_12, j_7_13) => bj_7 = (j_7_12, j_7_13)) (fun (j_7_12, j_7_13) => [(4, .pointer (some ⟨g4, 0, none⟩)), (12, .int .i64 j_7_12), (13, .bool j_7_13)]) (fun (j_7_12, j_7_13) => [tabF Tryd.prog "internal/strconv.uint64pow10" .u64 Lib.pow10Tab 1 pow10_g]) (fun (j_7_12, j_7_13) => [.blk g4 [.int .u8 0, .int .i64 0, .string ((⟨#[]⟩ : ByteArray))] 29, .own 29 3 R_V (.slice qp0 qn1 qc2) l1]) ?_ ?_
         ·
          obtain ⟨_ | _ | _ | _ | _ | _ | _ | _ | _ | _, hc77, hm⟩ := bindO_some hm
          ·
           try dsimp only at hm
           obtain ⟨_, hc82, hm⟩ := bindO_some hm
           try dsimp only at hm
           refine wc_draw [0, 2, 3, 4, 5, 7, 8, 9] rfl rfl (fun hok => ?_)
           refine wx_pure hok 0 rfl rfl rfl (freshS_eq rfl) rfl rfl ?_
           refine wx_fieldAddr hok 2 rfl rfl rfl (freshS_eq rfl) rfl rfl rfl tF_29_1 ?_
           refine wx_loadH hok 3 1 1 rfl rfl rfl (freshS_eq rfl) rfl rfl rfl rfl (cs := [_]) rfl tS_2 tA_2 rfl rfl ?_
           refine wx_fieldAddr hok 4 rfl rfl rfl (freshS_eq rfl) rfl rfl rfl tF_29_1 ?_
           refine wx_loadH hok 5 0 1 rfl rfl rfl (freshS_eq rfl) rfl rfl rfl rfl (cs := [_]) rfl tS_2 tA_2 rfl rfl ?_
           refine wx_step1 hok 1 rfl rfl rfl rfl ?_
           refine wl_call [] [0, 1, 2, 3] rfl rfl rfl (freshS_eq rfl) rfl rfl fn_24 rfl (w_value_does_s0 N a0 hc77) (fun _ _ hφ => ask [0] rfl hφ) rfl (H' := [_,_,_,_]) rfl ?_
           rintro _ _ _ ⟨rfl, rfl, rfl⟩
           refine wl_nil ?_
           refine we_x [0] [0, 1] rfl rfl ?_
           refine wx_step1 hok 6 rfl rfl rfl rfl ?_
           refine wl_callDyn [] [0, 1, 2, 3] rfl rfl rfl (freshS_eq rfl) rfl rfl rfl fn_37 rfl rfl (w_value_does_2_s N x51.n x56.n hc82) (fun _ _ hφ => ask [0] rfl hφ) rfl (H' := [_,_,_,_]) rfl ?_
           rintro _ _ _ ⟨rfl, rfl, rfl⟩
           refine wl_nil ?_
           refine we_x [0] [] rfl rfl ?_
           refine wx_pure hok 7 rfl rfl rfl (freshS_eq rfl) rfl rfl ?_
           refine wx_pure hok 8 rfl rfl rfl (freshS_eq rfl) rfl rfl ?_
           refine wx_pure hok 9 rfl rfl rfl (freshS_eq rfl) rfl rfl ?_
           refine wx_step1 hok 10 rfl rfl rfl rfl ?_
           refine wl_pure rfl rfl rfl (freshS_eq rfl) rfl ?_
           refine wl_nil ?_
           refine we_x [0] [] rfl rfl ?_
           refine wx_step1 hok 11 rfl rfl rfl rfl ?_
           refine wl_pure rfl rfl rfl (freshS_eq rfl) rfl ?_
           refine wl_nil ?_
           refine we_x [0] [] rfl rfl ?_
           refine wx_done hok rfl ?_
           have hE := (Option.some.inj hm).symm
           refine we_pick [2, 3] rfl (H' := [_,_]) rfl ?_
           refine we_join (IntKind.wrap .i64 (x51.n + x56.n), (decide ((IntKind.wrap .i64 (x51.n + x56.n)) < x51.n)) == (decide (x56.n < 0))) hE [4, 12, 13] rfl (fun _ _ hφ => ask [0] rfl hφ) rfl
          ·
           try dsimp only at hm
           obtain ⟨_, hc82, hm⟩ := bindO_some hm
           try dsimp only at hm
           refine wc_draw [0, 2, 3, 4, 5, 7, 8, 9] rfl rfl (fun hok => ?_)
           refine wx_pure hok 0 rfl rfl rfl (freshS_eq rfl) rfl rfl ?_
           refine wx_fieldAddr hok 2 rfl rfl rfl (freshS_eq rfl) rfl rfl rfl tF_29_1 ?_
           refine wx_loadH hok 3 1 1 rfl rfl rfl (freshS_eq rfl) rfl rfl rfl rfl (cs := [_]) rfl tS_2 tA_2 rfl rfl ?_
           refine wx_fieldAddr hok 4 rfl rfl rfl (freshS_eq rfl) rfl rfl rfl tF_29_1 ?_
           refine wx_loadH hok 5 0 1 rfl rfl rfl (freshS_eq rfl) rfl rfl rfl rfl (cs := [_]) rfl tS_2 tA_2 rfl rfl ?_
           refine wx_step1 hok 1 rfl rfl rfl rfl ?_
           refine wl_call [] [0, 1, 2, 3] rfl rfl rfl (freshS_eq rfl) rfl rfl fn_24 rfl (w_value_does_s1 N a0 hc77) (fun _ _ hφ => ask [0] rfl hφ) rfl (H' := [_,_,_,_]) rfl ?_
           rintro _ _ _ ⟨rfl, rfl, rfl⟩
           refine wl_nil ?_
           refine we_x [0] [0, 1] rfl rfl ?_
           refine wx_step1 hok 6 rfl rfl rfl rfl ?_
           refine wl_callDyn [] [0, 1, 2, 3] rfl rfl rfl (freshS_eq rfl) rfl rfl rfl fn_38 rfl rfl (w_value_does_3_s N x51.n x56.n hc82) (fun _ _ hφ => ask [0] rfl hφ) rfl (H' := [_,_,_,_]) rfl ?_
           rintro _ _ _ ⟨rfl, rfl, rfl⟩
           refine wl_nil ?_
           refine we_x [0] [] rfl rfl ?_
           refine wx_pure hok 7 rfl rfl rfl (freshS_eq rfl) rfl rfl ?_
           refine wx_pure hok 8 rfl rfl rfl (freshS_eq rfl) rfl rfl ?_
           refine wx_pure hok 9 rfl rfl rfl (freshS_eq rfl) rfl rfl ?_
           refine wx_step1 hok 10 rfl rfl rfl rfl ?_
           refine wl_pure rfl rfl rfl (freshS_eq rfl) rfl ?_
           refine wl_nil ?_
           refine we_x [0] [] rfl rfl ?_
           refine wx_step1 hok 11 rfl rfl rfl rfl ?_
           refine wl_pure rfl rfl rfl (freshS_eq rfl) rfl ?_
           refine wl_nil ?_
           refine we_x [0] [] rfl rfl ?_
           refine wx_done hok rfl ?_
           have hE := (Option.some.inj hm).symm
           refine we_pick [2, 3] rfl (H' := [_,_]) rfl ?_
           refine we_join (IntKind.wrap .i64 (x51.n - x56.n), (decide ((IntKind.wrap .i64 (x51.n - x56.n)) > x51.n)) == (decide (x56.n < 0))) hE [4, 12, 13] rfl (fun _ _ hφ => ask [0] rfl hφ) rfl
          ·
           try dsimp only at hm
           obtain ⟨⟨v82_0, v82_1⟩, hc82, hm⟩ := bindO_some hm
           try dsimp only at hm
           refine wc_draw [0, 2, 3, 4, 5, 7, 8, 9] rfl rfl (fun hok => ?_)
           refine wx_pure hok 0 rfl rfl rfl (freshS_eq rfl) rfl rfl ?_
           refine wx_fieldAddr hok 2 rfl rfl rfl (freshS_eq rfl) rfl rfl rfl tF_29_1 ?_
           refine wx_loadH hok 3 1 1 rfl rfl rfl (freshS_eq rfl) rfl rfl rfl rfl (cs := [_]) rfl tS_2 tA_2 rfl rfl ?_
           refine wx_fieldAddr hok 4 rfl rfl rfl (freshS_eq rfl) rfl rfl rfl tF_29_1 ?_
           refine wx_loadH hok 5 0 1 rfl rfl rfl (freshS_eq rfl) rfl rfl rfl rfl (cs := [_]) rfl tS_2 tA_2 rfl rfl ?_
           refine wx_step1 hok 1 rfl rfl rfl rfl ?_
           refine wl_call [] [0, 1, 2, 3] rfl rfl rfl (freshS_eq rfl) rfl rfl fn_24 rfl (w_value_does_s2 N a0 hc77) (fun _ _ hφ => ask [0] rfl hφ) rfl (H' := [_,_,_,_]) rfl ?_
           rintro _ _ _ ⟨rfl, rfl, rfl⟩
           refine wl_nil ?_
           refine we_x [0] [0, 1] rfl rfl ?_
           refine wx_step1 hok 6 rfl rfl rfl rfl ?_
           refine wl_callDyn [] [0, 1, 2, 3] rfl rfl rfl (freshS_eq rfl) rfl rfl rfl fn_39 rfl rfl (w_value_product_s N x51.n x56.n _ _ hc82) (fun _ _ hφ => ask [0] rfl hφ) rfl (H' := [_,_,_,_]) rfl ?_
           rintro _ _ _ ⟨rfl, rfl, rfl⟩
           refine wl_nil ?_
           refine we_x [0] [] rfl rfl ?_
           refine wx_pure hok 7 rfl rfl rfl (freshS_eq rfl) rfl rfl ?_
           refine wx_pure hok 8 rfl rfl rfl (freshS_eq rfl) rfl rfl ?_
           refine wx_pure hok 9 rfl rfl rfl (freshS_eq rfl) rfl rfl ?_
           refine wx_step1 hok 10 rfl rfl rfl rfl ?_
           refine wl_pure rfl rfl rfl (freshS_eq rfl) rfl ?_
           refine wl_nil ?_
           refine we_x [0] [] rfl rfl ?_
           refine wx_step1 hok 11 rfl rfl rfl rfl ?_
           refine wl_pure rfl rfl rfl (freshS_eq rfl) rfl ?_
           refine wl_nil ?_
           refine we_x [0] [] rfl rfl ?_
           refine wx_done hok rfl ?_
           have hE := (Option.some.inj hm).symm
           refine we_pick [2, 3] rfl (H' := [_,_]) rfl ?_
           refine we_join (v82_0, v82_1) hE [4, 12, 13] rfl (fun _ _ hφ => ask [0] rfl hφ) rfl
          ·
           try dsimp only at hm
           obtain ⟨_, hc82, hm⟩ := bindO_some hm
           try dsimp only at hm
           refine wc_draw [0, 2, 3, 4, 5, 7, 8, 9] rfl rfl (fun hok => ?_)
           refine wx_pure hok 0 rfl rfl rfl (freshS_eq rfl) rfl rfl ?_
           refine wx_fieldAddr hok 2 rfl rfl rfl (freshS_eq rfl) rfl rfl rfl tF_29_1 ?_
           refine wx_loadH hok 3 1 1 rfl rfl rfl (freshS_eq rfl) rfl rfl rfl rfl (cs := [_]) rfl tS_2 tA_2 rfl rfl ?_
           refine wx_fieldAddr hok 4 rfl rfl rfl (freshS_eq rfl) rfl rfl rfl tF_29_1 ?_
           refine wx_loadH hok 5 0 1 rfl rfl rfl (freshS_eq rfl) rfl rfl rfl rfl (cs := [_]) rfl tS_2 tA_2 rfl rfl ?_
           refine wx_step1 hok 1 rfl rfl rfl rfl ?_
           refine wl_call [] [0, 1, 2, 3] rfl rfl rfl (freshS_eq rfl) rfl rfl fn_24 rfl (w_value_does_s3 N a0 hc77) (fun _ _ hφ => ask [0] rfl hφ) rfl (H' := [_,_,_,_]) rfl ?_
           rintro _ _ _ ⟨rfl, rfl, rfl⟩
           refine wl_nil ?_
           refine we_x [0] [0, 1] rfl rfl ?_
           refine wx_step1 hok 6 rfl rfl rfl rfl ?_
           refine wl_callDyn [] [0, 1, 2, 3] rfl rfl rfl (freshS_eq rfl) rfl rfl rfl fn_40 rfl rfl (w_value_does_4_s N x51.n x56.n hc82) (fun _ _ hφ => ask [0] rfl hφ) rfl (H' := [_,_,_,_]) rfl ?_
           rintro _ _ _ ⟨rfl, rfl, rfl⟩
           refine wl_nil ?_
           refine we_x [0] [] rfl rfl ?_
           refine wx_pure hok 7 rfl rfl rfl (freshS_eq rfl) rfl rfl ?_
           refine wx_pure hok 8 rfl rfl rfl (freshS_eq rfl) rfl rfl ?_
           refine wx_pure hok 9 rfl rfl rfl (freshS_eq rfl) rfl rfl ?_
           refine wx_step1 hok 10 rfl rfl rfl rfl ?_
           refine wl_pure rfl rfl rfl (freshS_eq rfl) rfl ?_
           refine wl_nil ?_
           refine we_x [0] [] rfl rfl ?_
           refine wx_step1 hok 11 rfl rfl rfl rfl ?_
           refine wl_pure rfl rfl rfl (freshS_eq rfl) rfl ?_
           refine wl_nil ?_
           refine we_x [0] [] rfl rfl ?_
           refine wx_done hok rfl ?_
           have hE := (Option.some.inj hm).symm
           refine we_pick [2, 3] rfl (H' := [_,_]) rfl ?_
           refine we_join (IntKind.wrap .i64 (0 - x51.n), x51.n != -9223372036854775808) hE [4, 12, 13] rfl (fun _ _ hφ => ask [0] rfl hφ) rfl
          ·
           try dsimp only at hm
           obtain ⟨v82, hc82, hm⟩ := bindO_some hm
           refine wc_draw [0, 2, 3, 4, 5, 7, 8, 9] rfl rfl (fun hok => ?_)
           refine wx_pure hok 0 rfl rfl rfl (freshS_eq rfl) rfl rfl ?_
           refine wx_fieldAddr hok 2 rfl rfl rfl (freshS_eq rfl) rfl rfl rfl tF_29_1 ?_
           refine wx_loadH hok 3 1 1 rfl rfl rfl (freshS_eq rfl) rfl rfl rfl rfl (cs := [_]) rfl tS_2 tA_2 rfl rfl ?_
           refine wx_fieldAddr hok 4 rfl rfl rfl (freshS_eq rfl) rfl rfl rfl tF_29_1 ?_
           refine wx_loadH hok 5 0 1 rfl rfl rfl (freshS_eq rfl) rfl rfl rfl rfl (cs := [_]) rfl tS_2 tA_2 rfl rfl ?_
           refine wx_step1 hok 1 rfl rfl rfl rfl ?_
           refine wl_call [] [0, 1, 2, 3] rfl rfl rfl (freshS_eq rfl) rfl rfl fn_24 rfl (w_value_does_s4 N a0 hc77) (fun _ _ hφ => ask [0] rfl hφ) rfl (H' := [_,_,_,_]) rfl ?_
           rintro _ _ _ ⟨c77_0, rfl, rfl, rfl⟩
           refine wl_nil ?_
           refine we_x [0] [1, 2] rfl rfl ?_
           refine wx_step1 hok 6 rfl rfl rfl rfl ?_
           refine wl_callDyn [0] [1, 2, 3, 4] rfl rfl rfl (freshS_eq rfl) rfl rfl rfl fn_41 rfl rfl (w_value_does_5_s N x51.n x56.n c77_0 _ hc82) (fun _ _ hφ => ask [0] rfl hφ) rfl (H' := [_,_,_,_]) rfl ?_
           rintro _ _ _ ⟨rfl, rfl, rfl⟩
           refine wl_nil ?_
           refine we_x [0] [] rfl rfl ?_
           refine wx_pure hok 7 rfl rfl rfl (freshS_eq rfl) rfl rfl ?_
           refine wx_pure hok 8 rfl rfl rfl (freshS_eq rfl) rfl rfl ?_
           refine wx_pure hok 9 rfl rfl rfl (freshS_eq rfl) rfl rfl ?_
           refine wx_step1 hok 10 rfl rfl rfl rfl ?_
           refine wl_pure rfl rfl rfl (freshS_eq rfl) rfl ?_
           refine wl_nil ?_
           refine we_x [0] [] rfl rfl ?_
           refine wx_step1 hok 11 rfl rfl rfl rfl ?_
           refine wl_pure rfl rfl rfl (freshS_eq rfl) rfl ?_
           refine wl_nil ?_
           refine we_x [0] [] rfl rfl ?_
           refine wx_done hok rfl ?_
           have hE := (Option.some.inj hm).symm
           refine we_pick [3, 4] rfl (H' := [_,_]) rfl ?_
           refine we_join (v82, true) hE [4, 12, 13] rfl (fun _ _ hφ => ask [0] rfl hφ) rfl
          ·
           try dsimp only at hm
           obtain ⟨v82, hc82, hm⟩ := bindO_some hm
           refine wc_draw [0, 2, 3, 4, 5, 7, 8, 9] rfl rfl (fun hok => ?_)
           refine wx_pure hok 0 rfl rfl rfl (freshS_eq rfl) rfl rfl ?_
           refine wx_fieldAddr hok 2 rfl rfl rfl (freshS_eq rfl) rfl rfl rfl tF_29_1 ?_
           refine wx_loadH hok 3 1 1 rfl rfl rfl (freshS_eq rfl) rfl rfl rfl rfl (cs := [_]) rfl tS_2 tA_2 rfl rfl ?_
           refine wx_fieldAddr hok 4 rfl rfl rfl (freshS_eq rfl) rfl rfl rfl tF_29_1 ?_
           refine wx_loadH hok 5 0 1 rfl rfl rfl (freshS_eq rfl) rfl rfl rfl rfl (cs := [_]) rfl tS_2 tA_2 rfl rfl ?_
           refine wx_step1 hok 1 rfl rfl rfl rfl ?_
           refine wl_call [] [0, 1, 2, 3] rfl rfl rfl (freshS_eq rfl) rfl rfl fn_24 rfl (w_value_does_s5 N a0 hc77) (fun _ _ hφ => ask [0] rfl hφ) rfl (H' := [_,_,_,_]) rfl ?_
           rintro _ _ _ ⟨c77_0, rfl, rfl, rfl⟩
           refine wl_nil ?_
           refine we_x [0] [1, 2] rfl rfl ?_
           refine wx_step1 hok 6 rfl rfl rfl rfl ?_
           refine wl_callDyn [0] [1, 2, 3, 4] rfl rfl rfl (freshS_eq rfl) rfl rfl rfl fn_42 rfl rfl (w_value_does_6_s N x51.n x56.n c77_0 _ hc82) (fun _ _ hφ => ask [0] rfl hφ) rfl (H' := [_,_,_,_]) rfl ?_
           rintro _ _ _ ⟨rfl, rfl, rfl⟩
           refine wl_nil ?_
           refine we_x [0] [] rfl rfl ?_
           refine wx_pure hok 7 rfl rfl rfl (freshS_eq rfl) rfl rfl ?_
           refine wx_pure hok 8 rfl rfl rfl (freshS_eq rfl) rfl rfl ?_
           refine wx_pure hok 9 rfl rfl rfl (freshS_eq rfl) rfl rfl ?_
           refine wx_step1 hok 10 rfl rfl rfl rfl ?_
           refine wl_pure rfl rfl rfl (freshS_eq rfl) rfl ?_
           refine wl_nil ?_
           refine we_x [0] [] rfl rfl ?_
           refine wx_step1 hok 11 rfl rfl rfl rfl ?_
           refine wl_pure rfl rfl rfl (freshS_eq rfl) rfl ?_
           refine wl_nil ?_
           refine we_x [0] [] rfl rfl ?_
           refine wx_done hok rfl ?_
           have hE := (Option.some.inj hm).symm
           refine we_pick [3, 4] rfl (H' := [_,_]) rfl ?_
           refine we_join (v82, true) hE [4, 12, 13] rfl (fun _ _ hφ => ask [0] rfl hφ) rfl
          ·
           try dsimp only at hm
           obtain ⟨v82, hc82, hm⟩ := bindO_some hm
           refine wc_draw [0, 2, 3, 4, 5, 7, 8, 9] rfl rfl (fun hok => ?_)
           refine wx_pure hok 0 rfl rfl rfl (freshS_eq rfl) rfl rfl ?_
           refine wx_fieldAddr hok 2 rfl rfl rfl (freshS_eq rfl) rfl rfl rfl tF_29_1 ?_
           refine wx_loadH hok 3 1 1 rfl rfl rfl (freshS_eq rfl) rfl rfl rfl rfl (cs := [_]) rfl tS_2 tA_2 rfl rfl ?_
           refine wx_fieldAddr hok 4 rfl rfl rfl (freshS_eq rfl) rfl rfl rfl tF_29_1 ?_
           refine wx_loadH hok 5 0 1 rfl rfl rfl (freshS_eq rfl) rfl rfl rfl rfl (cs := [_]) rfl tS_2 tA_2 rfl rfl ?_
           refine wx_step1 hok 1 rfl rfl rfl rfl ?_
           refine wl_call [] [0, 1, 2, 3] rfl rfl rfl (freshS_eq rfl) rfl rfl fn_24 rfl (w_value_does_s6 N a0 hc77) (fun _ _ hφ => ask [0] rfl hφ) rfl (H' := [_,_,_,_]) rfl ?_
           rintro _ _ _ ⟨c77_0, rfl, rfl, rfl⟩
           refine wl_nil ?_
           refine we_x [0] [1, 2] rfl rfl ?_
           refine wx_step1 hok 6 rfl rfl rfl rfl ?_
           refine wl_callDyn [0] [1, 2, 3, 4] rfl rfl rfl (freshS_eq rfl) rfl rfl rfl fn_43 rfl rfl (w_value_does_7_s N x51.n x56.n c77_0 _ hc82) (fun _ _ hφ => ask [0] rfl hφ) rfl (H' := [_,_,_,_]) rfl ?_
           rintro _ _ _ ⟨rfl, rfl, rfl⟩
           refine wl_nil ?_
           refine we_x [0] [] rfl rfl ?_
           refine wx_pure hok 7 rfl rfl rfl (freshS_eq rfl) rfl rfl ?_
           refine wx_pure hok 8 rfl rfl rfl (freshS_eq rfl) rfl rfl ?_
           refine wx_pure hok 9 rfl rfl rfl (freshS_eq rfl) rfl rfl ?_
           refine wx_step1 hok 10 rfl rfl rfl rfl ?_
           refine wl_pure rfl rfl rfl (freshS_eq rfl) rfl ?_
           refine wl_nil ?_
           refine we_x [0] [] rfl rfl ?_
           refine wx_step1 hok 11 rfl rfl rfl rfl ?_
           refine wl_pure rfl rfl rfl (freshS_eq rfl) rfl ?_
           refine wl_nil ?_
           refine we_x [0] [] rfl rfl ?_
           refine wx_done hok rfl ?_
           have hE := (Option.some.inj hm).symm
           refine we_pick [3, 4] rfl (H' := [_,_]) rfl ?_
           refine we_join (v82, true) hE [4, 12, 13] rfl (fun _ _ hφ => ask [0] rfl hφ) rfl
          ·
           try dsimp only at hm
           obtain ⟨v82, hc82, hm⟩ := bindO_some hm
           refine wc_draw [0, 2, 3, 4, 5, 7, 8, 9] rfl rfl (fun hok => ?_)
           refine wx_pure hok 0 rfl rfl rfl (freshS_eq rfl) rfl rfl ?_
           refine wx_fieldAddr hok 2 rfl rfl rfl (freshS_eq rfl) rfl rfl rfl tF_29_1 ?_
           refine wx_loadH hok 3 1 1 rfl rfl rfl (freshS_eq rfl) rfl rfl rfl rfl (cs := [_]) rfl tS_2 tA_2 rfl rfl ?_
           refine wx_fieldAddr hok 4 rfl rfl rfl (freshS_eq rfl) rfl rfl rfl tF_29_1 ?_
           refine wx_loadH hok 5 0 1 rfl rfl rfl (freshS_eq rfl) rfl rfl rfl rfl (cs := [_]) rfl tS_2 tA_2 rfl rfl ?_
           refine wx_step1 hok 1 rfl rfl rfl rfl ?_
           refine wl_call [] [0, 1, 2, 3] rfl rfl rfl (freshS_eq rfl) rfl rfl fn_24 rfl (w_value_does_s7 N a0 hc77) (fun _ _ hφ => ask [0] rfl hφ) rfl (H' := [_,_,_,_]) rfl ?_
           rintro _ _ _ ⟨c77_0, rfl, rfl, rfl⟩
           refine wl_nil ?_
           refine we_x [0] [1, 2] rfl rfl ?_
           refine wx_step1 hok 6 rfl rfl rfl rfl ?_
           refine wl_callDyn [0] [1, 2, 3, 4] rfl rfl rfl (freshS_eq rfl) rfl rfl rfl fn_44 rfl rfl (w_value_does_8_s N x51.n x56.n c77_0 _ hc82) (fun _ _ hφ => ask [0] rfl hφ) rfl (H' := [_,_,_,_]) rfl ?_
           rintro _ _ _ ⟨rfl, rfl, rfl⟩
           refine wl_nil ?_
           refine we_x [0] [] rfl rfl ?_
           refine wx_pure hok 7 rfl rfl rfl (freshS_eq rfl) rfl rfl ?_
           refine wx_pure hok 8 rfl rfl rfl (freshS_eq rfl) rfl rfl ?_
           refine wx_pure hok 9 rfl rfl rfl (freshS_eq rfl) rfl rfl ?_
           refine wx_step1 hok 10 rfl rfl rfl rfl ?_
           refine wl_pure rfl rfl rfl (freshS_eq rfl) rfl ?_
           refine wl_nil ?_
           refine we_x [0] [] rfl rfl ?_
           refine wx_step1 hok 11 rfl rfl rfl rfl ?_
           refine wl_pure rfl rfl rfl (freshS_eq rfl) rfl ?_
           refine wl_nil ?_
           refine we_x [0] [] rfl rfl ?_
           refine wx_done hok rfl ?_
           have hE := (Option.some.inj hm).symm
           refine we_pick [3, 4] rfl (H' := [_,_]) rfl ?_
           refine we_join (v82, true) hE [4, 12, 13] rfl (fun _ _ hφ => ask [0] rfl hφ) rfl
          ·
           try dsimp only at hm
           obtain ⟨v82, hc82, hm⟩ := bindO_some hm
           refine wc_draw [0, 2, 3, 4, 5, 7, 8, 9] rfl rfl (fun hok => ?_)
           refine wx_pure hok 0 rfl rfl rfl (freshS_eq rfl) rfl rfl ?_
           refine wx_fieldAddr hok 2 rfl rfl rfl (freshS_eq rfl) rfl rfl rfl tF_29_1 ?_
           refine wx_loadH hok 3 1 1 rfl rfl rfl (freshS_eq rfl) rfl rfl rfl rfl (cs := [_]) rfl tS_2 tA_2 rfl rfl ?_
           refine wx_fieldAddr hok 4 rfl rfl rfl (freshS_eq rfl) rfl rfl rfl tF_29_1 ?_
           refine wx_loadH hok 5 0 1 rfl rfl rfl (freshS_eq rfl) rfl rfl rfl rfl (cs := [_]) rfl tS_2 tA_2 rfl rfl ?_
           refine wx_step1 hok 1 rfl rfl rfl rfl ?_
           refine wl_call [] [0, 1, 2, 3] rfl rfl rfl (freshS_eq rfl) rfl rfl fn_24 rfl (w_value_does_s8 N a0 hc77) (fun _ _ hφ => ask [0] rfl hφ) rfl (H' := [_,_,_,_]) rfl ?_
           rintro _ _ _ ⟨c77_0, rfl, rfl, rfl⟩
           refine wl_nil ?_
           refine we_x [0] [1, 2] rfl rfl ?_
           refine wx_step1 hok 6 rfl rfl rfl rfl ?_
           refine wl_callDyn [0] [1, 2, 3, 4] rfl rfl rfl (freshS_eq rfl) rfl rfl rfl fn_45 rfl rfl (w_value_does_9_s N x51.n x56.n c77_0 _ hc82) (fun _ _ hφ => ask [0] rfl hφ) rfl (H' := [_,_,_,_]) rfl ?_
           rintro _ _ _ ⟨rfl, rfl, rfl⟩
           refine wl_nil ?_
           refine we_x [0] [] rfl rfl ?_
           refine wx_pure hok 7 rfl rfl rfl (freshS_eq rfl) rfl rfl ?_
           refine wx_pure hok 8 rfl rfl rfl (freshS_eq rfl) rfl rfl ?_
           refine wx_pure hok 9 rfl rfl rfl (freshS_eq rfl) rfl rfl ?_
           refine wx_step1 hok 10 rfl rfl rfl rfl ?_
           refine wl_pure rfl rfl rfl (freshS_eq rfl) rfl ?_
           refine wl_nil ?_
           refine we_x [0] [] rfl rfl ?_
           refine wx_step1 hok 11 rfl rfl rfl rfl ?_
           refine wl_pure rfl rfl rfl (freshS_eq rfl) rfl ?_
           refine wl_nil ?_
           refine we_x [0] [] rfl rfl ?_
           refine wx_done hok rfl ?_
           have hE := (Option.some.inj hm).symm
           refine we_pick [3, 4] rfl (H' := [_,_]) rfl ?_
           refine we_join (v82, true) hE [4, 12, 13] rfl (fun _ _ hφ => ask [0] rfl hφ) rfl
          ·
           try dsimp only at hm
           cases hm
         ·
          rintro ⟨j_7_12, j_7_13⟩ hE
          try dsimp only
          have hm := hLj_7
          rw [hE] at hm
          try dsimp only at hm
          refine wc_seq ?_
          refine wc_seq ?_
          refine wc_region ?_
          refine wl_pure rfl rfl rfl (freshS_eq rfl) rfl ?_
          refine wl_pure rfl rfl rfl (freshS_eq rfl) rfl ?_
          refine wl_nil ?_
          refine we_then ?_
          refine wc_keep [86, 4, 12] (S' := [_,_,_]) rfl ?_
          refine wc_cond rfl (fun hb86 => ?_) (fun hb86 => ?_)
          ·
           replace hm := iteT hm hb86
           refine wc_keep [4] (S' := [_]) rfl ?_
           refine wc_seq ?_
           refine wc_region ?_
           refine wl_build rfl rfl rfl (freshS_eq rfl) rfl tZ_29 tP_29 rfl (out := [_,_,_]) rfl ?_
           refine wl_store 0 0 rfl rfl rfl rfl rfl rfl rfl tS_29 rfl rfl rfl (all' := [_,_,_]) rfl (H' := [_,_]) rfl ?_
           refine wl_pure rfl rfl rfl (freshS_eq rfl) rfl ?_
           refine wl_nil ?_
           refine we_then ?_
           refine wc_keep [5, 4] (S' := [_,_]) rfl ?_
           refine wc_ret ?_
           refine we_then_ret ?_
           have hE := (Option.some.inj hm).symm
           obtain ⟨hE0, hF1⟩ := Prod.mk.inj hE
           obtain ⟨hE1, hE2⟩ := Prod.mk.inj hF1
           clear hE hF1
           replace hE0 := hE0.symm
           subst hE0
           replace hE1 := hE1.symm
           subst hE1
           replace hE2 := hE2.symm
           subst hE2
           refine ret_two (Hr := [_]) [1] Tryd.results11 (res_cell 0 rfl rfl tS_29 tA_29 rfl rfl) (res_tmp rfl) ⟨rfl, rfl, rfl⟩ (fun _ _ hφ => ask [] rfl hφ) rfl rfl (.inl rfl)
          ·
           replace hm := iteF hm hb86
           refine wc_keep [4, 12] (S' := [_,_]) rfl ?_
           refine wc_skip ?_
           refine we_then ?_
           refine wc_seq ?_
           refine wc_region ?_
           refine wl_pure rfl rfl rfl (freshS_eq rfl) rfl ?_
           obtain ⟨_, hc89, hm⟩ := bindO_some hm
           try dsimp only at hm
           refine wl_call [] [0, 1] rfl rfl rfl (freshS_eq rfl) rfl rfl fn_25 rfl (w_value_number_s N j_7_12 hc89) (fun _ _ hφ => ask [0] rfl hφ) rfl (H' := [_,_]) rfl ?_
           rintro _ _ _ ⟨rfl, rfl, rfl⟩
           refine wl_store 0 0 rfl rfl rfl rfl rfl rfl rfl tS_29 rfl rfl rfl (all' := [_,_,_]) rfl (H' := [_,_]) rfl ?_
           refine wl_pure rfl rfl rfl (freshS_eq rfl) rfl ?_
           refine wl_nil ?_
           refine we_then ?_
           refine wc_keep [5, 4] (S' := [_,_]) rfl ?_
           refine wc_ret ?_
           have hE := (Option.some.inj hm).symm
           obtain ⟨hE0, hF1⟩ := Prod.mk.inj hE
           obtain ⟨hE1, hE2⟩ := Prod.mk.inj hF1
           clear hE hF1
           replace hE0 := hE0.symm
           subst hE0
           replace hE1 := hE1.symm
           subst hE1
           replace hE2 := hE2.symm
           subst hE2
           refine ret_two (Hr := [_]) [1] Tryd.results11 (res_cell 0 rfl rfl tS_29 tA_29 rfl rfl) (res_tmp rfl) ⟨rfl, rfl, rfl⟩ (fun _ _ hφ => ask [] rfl hφ) rfl rfl (.inl rfl)
set_option maxRecDepth 100000 in
set_option maxHeartbeats 4000000 in
theorem w_value_Text_s (N : Nat) (a0 : Int) (a1 : Int) (a2 : ByteArray) (o0 : ByteArray) (hm : m_value_Text N a0 a1 a2 = some o0) : Spec Tryd.prog 19 [.agg #[.int .u8 a0, .int .i64 a1, .string a2]] [tabF Tryd.prog "internal/strconv.uint64pow10" .u64 Lib.pow10Tab 1 pow10_g] [] (fun v Φr Hr => v = .string o0 ∧ Φr = [] ∧ Hr = []) := by
 unfold m_value_Text at hm
 refine spec_of Tryd.func19 rfl Tryd.ntmps19 rfl (S := [_]) rfl (fun C => ?_)
 refine wc_seq ?_
 refine wc_region ?_
 refine wl_box rfl rfl rfl (freshS_eq rfl) rfl rfl rfl (fun g1 => ?_)
 refine wl_pure rfl rfl rfl (freshS_eq rfl) rfl ?_
 refine wl_nil ?_
 refine we_then ?_
 refine wc_keep [1] (S' := [_]) rfl ?_
 refine wc_seq ?_
 refine wc_block ?_
 refine wc_seq ?_
 refine wc_region ?_
 refine wl_loadH 0 0 rfl rfl rfl (freshS_eq rfl) rfl rfl rfl (cs := [_,_,_]) rfl tS_29 tA_29 rfl rfl ?_
 obtain ⟨v5, hc5, hm⟩ := bindO_some hm
 refine wl_call [] [0] rfl rfl rfl (freshS_eq rfl) rfl rfl fn_15 rfl (w_value_Right_s N a0 a1 a2 _ hc5) (fun _ _ hφ => ask [0] rfl hφ) rfl (H' := [_]) rfl ?_
 rintro _ _ _ ⟨rfl, rfl, rfl⟩
 refine wl_pure rfl rfl rfl (freshS_eq rfl) rfl ?_
 refine wl_pure rfl rfl rfl (freshS_eq rfl) rfl ?_
 refine wl_nil ?_
 refine we_then ?_
 refine wc_keep [3, 1] (S' := [_,_]) rfl ?_
 refine wc_cond rfl (fun hb3 => ?_) (fun hb3 => ?_)
 ·
  replace hm := iteT hm hb3
  refine wc_keep [] (S' := []) rfl ?_
  refine wc_seq ?_
  refine wc_region ?_
  refine wl_pure rfl rfl rfl (freshS_eq rfl) rfl ?_
  refine wl_nil ?_
  refine we_then ?_
  refine wc_ret ?_
  refine we_block_ret ?_
  refine we_then_ret ?_
  have hE := (Option.some.inj hm).symm
  replace hE := hE.symm
  subst hE
  refine ret_one (Hr := []) [] Tryd.results19 (res_tmp rfl) ⟨rfl, rfl, rfl⟩ (fun _ _ hφ => ask [] rfl hφ) rfl rfl (.inl rfl)
 ·
  replace hm := iteF hm hb3
  refine wc_keep [1] (S' := [_]) rfl ?_
  refine wc_seq ?_
  refine wc_region ?_
  refine wl_fieldAddr rfl rfl rfl (freshS_eq rfl) rfl rfl tF_29_0 ?_
  refine wl_loadH 0 0 rfl rfl rfl (freshS_eq rfl) rfl rfl rfl (cs := [_]) rfl tS_27 tA_27 rfl rfl ?_
  refine wl_pure rfl rfl rfl (freshS_eq rfl) rfl ?_
  refine wl_pure rfl rfl rfl (freshS_eq rfl) rfl ?_
  refine wl_nil ?_
  refine we_then ?_
  refine wc_keep [7, 1] (S' := [_,_]) rfl ?_
  refine wc_cond rfl (fun hb7 => ?_) (fun hb7 => ?_)
  ·
   replace hm := iteT hm hb7
   refine wc_keep [1] (S' := [_]) rfl ?_
   refine wc_seq ?_
   refine wc_region ?_
   refine wl_fieldAddr rfl rfl rfl (freshS_eq rfl) rfl rfl tF_29_2 ?_
   refine wl_loadH 0 2 rfl rfl rfl (freshS_eq rfl) rfl rfl rfl (cs := [_]) rfl tS_9 tA_9 rfl rfl ?_
   obtain ⟨hg13, hm⟩ := gd_some hm
   refine wl_bin rfl rfl rfl (freshS_eq rfl) rfl rfl rfl (run_strAdd hg13) ?_
   refine wl_pure rfl rfl rfl (freshS_eq rfl) rfl ?_
   refine wl_nil ?_
   refine we_then ?_
   refine wc_keep [2] (S' := [_]) rfl ?_
   refine wc_ret ?_
   refine we_block_ret ?_
   refine we_then_ret ?_
   have hE := (Option.some.inj hm).symm
   replace hE := hE.symm
   subst hE
   refine ret_one (Hr := []) [] Tryd.results19 (res_tmp rfl) ⟨rfl, rfl, rfl⟩ (fun _ _ hφ => ask [] rfl hφ) rfl rfl (.inl rfl)
  ·
   replace hm := iteF hm hb7
   refine wc_keep [1] (S' := [_]) rfl ?_
   refine wc_skip ?_
   refine we_block_normal ?_
   refine we_then ?_
   refine wc_seq ?_
   refine wc_region ?_
   refine wl_fieldAddr rfl rfl rfl (freshS_eq rfl) rfl rfl tF_29_1 ?_
   refine wl_loadH 0 1 rfl rfl rfl (freshS_eq rfl) rfl rfl rfl (cs := [_]) rfl tS_2 tA_2 rfl rfl ?_
   obtain ⟨hs16, hm⟩ := gd_some hm
   refine wl_call [] [0] rfl rfl rfl (freshS_eq rfl) rfl rfl fn_33 rfl (sh_FormatInt a1 hs16) (fun _ _ hφ => ask [0] rfl hφ) rfl (H' := [_]) rfl ?_
   rintro _ _ _ ⟨rfl, rfl, rfl⟩
   refine wl_pure rfl rfl rfl (freshS_eq rfl) rfl ?_
   refine wl_nil ?_
   refine we_then ?_
   refine wc_keep [2] (S' := [_]) rfl ?_
   refine wc_ret ?_
   have hE := (Option.some.inj hm).symm
   replace hE := hE.symm
   subst hE
   refine ret_one (Hr := []) [] Tryd.results19 (res_tmp rfl) ⟨rfl, rfl, rfl⟩ (fun _ _ hφ => ask [] rfl hφ) rfl rfl (.inl rfl)
set_option maxRecDepth 100000 in
set_option maxHeartbeats 4000000 in
theorem w_ropewalklaw01_awake_s (N : Nat)  (o0 : Bool) (hm : m_ropewalklaw01_awake N = some o0) : Spec Tryd.prog 8 [] [tabF Tryd.prog "internal/strconv.uint64pow10" .u64 Lib.pow10Tab 1 pow10_g] [] (fun v Φr Hr => v = .bool o0 ∧ Φr = [] ∧ Hr = []) := by
 unfold m_ropewalklaw01_awake at hm
 refine spec_of Tryd.func8 rfl Tryd.ntmps8 rfl (S := []) rfl (fun C => ?_)
 refine wc_seq ?_
 refine wc_region ?_
 refine wl_pure rfl rfl rfl (freshS_eq rfl) rfl ?_
 refine wl_nil ?_
 refine we_then ?_
 refine wc_keep [] (S' := []) rfl ?_
 refine wc_seq ?_
 refine wc_region ?_
 obtain ⟨_, hc6, hm⟩ := bindO_some hm
 try dsimp only at hm
 refine wl_call [] [] rfl rfl rfl (freshS_eq rfl) rfl rfl fn_14 rfl (w_ropewalkref01_Number_s N 2 hc6) (fun _ _ hφ => ask [0] rfl hφ) rfl (H' := []) rfl ?_
 rintro _ _ _ ⟨rfl, rfl, rfl⟩
 obtain ⟨_, hc7, hm⟩ := bindO_some hm
 try dsimp only at hm
 refine wl_call [] [] rfl rfl rfl (freshS_eq rfl) rfl rfl fn_14 rfl (w_ropewalkref01_Number_s N 3 hc7) (fun _ _ hφ => ask [0] rfl hφ) rfl (H' := []) rfl ?_
 rintro _ _ _ ⟨rfl, rfl, rfl⟩
 refine wl_buildSlice rfl rfl rfl (freshS_eq rfl) rfl tE_23 tS_29 tZ_29 rfl (zs := [.int .u8 0, .int .i64 0, .string ((⟨#[]⟩ : ByteArray)), .int .u8 0, .int .i64 0, .string ((⟨#[]⟩ : ByteArray))]) (by kernel_rfl) rfl (out := [_,_,_,_,_,_]) rfl (fun g8 => ?_)
 refine wl_row (sz := 3) (m := 2) R_V ([(⟨1, 2, (⟨#[]⟩ : ByteArray)⟩ : V), (⟨1, 3, (⟨#[]⟩ : ByteArray)⟩ : V)]) 0 rfl (fun F w hφ => ⟨[.int .u8 1, .int .i64 2, .string ((⟨#[]⟩ : ByteArray))], [.int .u8 1, .int .i64 3, .string ((⟨#[]⟩ : ByteArray))], rfl, rfl, ⟨(), rfl, ask_nil⟩, ⟨[.int .u8 1, .int .i64 3, .string ((⟨#[]⟩ : ByteArray))], [], rfl, rfl, ⟨(), rfl, ask_nil⟩, rfl⟩⟩) rfl (by decide) (H' := [_]) rfl ?_
 obtain ⟨⟨v9_0, v9_1, v9_2⟩, hc9, hm⟩ := bindO_some hm
 try dsimp only at hm
 refine wl_call [0] [] rfl rfl rfl (freshS_eq rfl) rfl rfl fn_11 rfl (w_value_Do_s N 1 (some ⟨g8, 0, none⟩) ([(⟨1, 2, (⟨#[]⟩ : ByteArray)⟩ : V), (⟨1, 3, (⟨#[]⟩ : ByteArray)⟩ : V)].length) 2 [(⟨1, 2, (⟨#[]⟩ : ByteArray)⟩ : V), (⟨1, 3, (⟨#[]⟩ : ByteArray)⟩ : V)] _ _ _ hc9) (fun _ _ hφ => ask [0] rfl hφ) rfl (H' := []) rfl ?_
 rintro _ _ _ ⟨rfl, rfl, rfl⟩
 refine wl_pure rfl rfl rfl (freshS_eq rfl) rfl ?_
 refine wl_pure rfl rfl rfl (freshS_eq rfl) rfl ?_
 refine wl_pure rfl rfl rfl (freshS_eq rfl) rfl ?_
 refine wl_alloc rfl rfl rfl (freshS_eq rfl) rfl tZ_29 rfl (fun g1 => ?_)
 refine wl_store 0 0 rfl rfl rfl rfl rfl rfl rfl tS_29 rfl rfl rfl (all' := [_,_,_]) rfl (H' := [_,_]) rfl ?_
 refine wl_pure rfl rfl rfl (freshS_eq rfl) rfl ?_
 refine wl_nil ?_
 refine we_then ?_
 refine wc_keep [2, 1] (S' := [_,_]) rfl ?_
 refine wc_seq ?_
 refine wc_region ?_
 obtain ⟨_, hc13, hm⟩ := bindO_some hm
 try dsimp only at hm
 refine wl_call [] [0, 1] rfl rfl rfl (freshS_eq rfl) rfl rfl fn_14 rfl (w_ropewalkref01_Number_s N 9223372036854775807 hc13) (fun _ _ hφ => ask [0] rfl hφ) rfl (H' := [_,_]) rfl ?_
 rintro _ _ _ ⟨rfl, rfl, rfl⟩
 obtain ⟨_, hc14, hm⟩ := bindO_some hm
 try dsimp only at hm
 refine wl_call [] [0, 1] rfl rfl rfl (freshS_eq rfl) rfl rfl fn_14 rfl (w_ropewalkref01_Number_s N 1 hc14) (fun _ _ hφ => ask [0] rfl hφ) rfl (H' := [_,_]) rfl ?_
 rintro _ _ _ ⟨rfl, rfl, rfl⟩
 refine wl_buildSlice rfl rfl rfl (freshS_eq rfl) rfl tE_23 tS_29 tZ_29 rfl (zs := [.int .u8 0, .int .i64 0, .string ((⟨#[]⟩ : ByteArray)), .int .u8 0, .int .i64 0, .string ((⟨#[]⟩ : ByteArray))]) (by kernel_rfl) rfl (out := [_,_,_,_,_,_]) rfl (fun g15 => ?_)
 refine wl_row (sz := 3) (m := 2) R_V ([(⟨1, 9223372036854775807, (⟨#[]⟩ : ByteArray)⟩ : V), (⟨1, 1, (⟨#[]⟩ : ByteArray)⟩ : V)]) 0 rfl (fun F w hφ => ⟨[.int .u8 1, .int .i64 9223372036854775807, .string ((⟨#[]⟩ : ByteArray))], [.int .u8 1, .int .i64 1, .string ((⟨#[]⟩ : ByteArray))], rfl, rfl, ⟨(), rfl, ask_nil⟩, ⟨[.int .u8 1, .int .i64 1, .string ((⟨#[]⟩ : ByteArray))], [], rfl, rfl, ⟨(), rfl, ask_nil⟩, rfl⟩⟩) rfl (by decide) (H' := [_,_,_]) rfl ?_
 obtain ⟨⟨v16_0, v16_1, v16_2⟩, hc16, hm⟩ := bindO_some hm
 try dsimp only at hm
 refine wl_call [0] [1, 2] rfl rfl rfl (freshS_eq rfl) rfl rfl fn_11 rfl (w_value_Do_s N 1 (some ⟨g15, 0, none⟩) ([(⟨1, 9223372036854775807, (⟨#[]⟩ : ByteArray)⟩ : V), (⟨1, 1, (⟨#[]⟩ : ByteArray)⟩ : V)].length) 2 [(⟨1, 9223372036854775807, (⟨#[]⟩ : ByteArray)⟩ : V), (⟨1, 1, (⟨#[]⟩ : ByteArray)⟩ : V)] _ _ _ hc16) (fun _ _ hφ => ask [0] rfl hφ) rfl (H' := [_,_]) rfl ?_
 rintro _ _ _ ⟨rfl, rfl, rfl⟩
 refine wl_pure rfl rfl rfl (freshS_eq rfl) rfl ?_
 refine wl_pure rfl rfl rfl (freshS_eq rfl) rfl ?_
 refine wl_pure rfl rfl rfl (freshS_eq rfl) rfl ?_
 refine wl_alloc rfl rfl rfl (freshS_eq rfl) rfl tZ_29 rfl (fun g3 => ?_)
 refine wl_store 0 0 rfl rfl rfl rfl rfl rfl rfl tS_29 rfl rfl rfl (all' := [_,_,_]) rfl (H' := [_,_,_,_]) rfl ?_
 refine wl_pure rfl rfl rfl (freshS_eq rfl) rfl ?_
 refine wl_nil ?_
 refine we_then ?_
 refine wc_keep [4, 2, 1] (S' := [_,_,_]) rfl ?_
 refine wc_seq ?_
 obtain ⟨bj_1, hm, hLj_1⟩ := bindO_some hm
 unfold m_ropewalklaw01_awake_C1 at hm
 refine wc_cut (σ := Bool) (fun j_1_0 => bj_1 = j_1_0) (fun j_1_0 => [(0, .bool j_1_0)]) (fun j_1_0 => [tabF Tryd.prog "internal/strconv.uint64pow10" .u64 Lib.pow10Tab 1 pow10_g]) (fun j_1_0 => []) ?_ ?_
 ·
  rcases ite_some hm with ⟨hs21, hm⟩ | ⟨hs21, hm⟩
  ·
   obtain ⟨_, hc23, hm⟩ := bindO_some hm
   try dsimp only at hm
   rcases ite_some hm with ⟨hs26, hm⟩ | ⟨hs26, hm⟩
   ·
    rcases ite_some hm with ⟨hs30, hm⟩ | ⟨hs30, hm⟩
    ·
     obtain ⟨v32, hc32, hm⟩ := bindO_some hm
     refine wc_draw [0, 1, 2, 3, 5, 6, 7, 8, 9, 10, 11, 12, 14, 15] rfl rfl (fun hok => ?_)
     refine wx_pure hok 0 rfl rfl rfl (freshS_eq rfl) rfl rfl ?_
     refine wx_pure hok 1 rfl rfl rfl (freshS_eq rfl) rfl rfl ?_
     refine wx_as (d := 20) (v' := .bool (v9_2 == 0)) (S' := [_,_,_,_]) rfl rfl (nateq (a := v9_2) (b := 0)) ?_
     refine wx_pure hok 2 rfl rfl rfl (freshS_eq rfl) rfl rfl ?_
     refine wx_as (d := 21) (v' := .bool true) (S' := [_,_,_,_,_]) rfl rfl (bool_is hs21) ?_
     refine wx_loadH hok 3 2 0 rfl rfl rfl (freshS_eq rfl) rfl rfl rfl rfl (cs := [_,_,_]) rfl tS_29 tA_29 rfl rfl ?_
     refine wx_step1 hok 4 rfl rfl rfl rfl ?_
     refine wl_call [] [0, 1, 2, 3] rfl rfl rfl (freshS_eq rfl) rfl rfl fn_14 rfl (w_ropewalkref01_Number_s N 5 hc23) (fun _ _ hφ => ask [0] rfl hφ) rfl (H' := [_,_,_,_]) rfl ?_
     rintro _ _ _ ⟨rfl, rfl, rfl⟩
     refine wl_nil ?_
     refine we_x [0] [2] rfl rfl ?_
     refine wx_bin hok 5 rfl rfl rfl (freshS_eq rfl) rfl rfl rfl rfl (eqlV _ _ (⟨((v9_0 : Nat) : Int), v9_1, (⟨#[]⟩ : ByteArray)⟩ : V) (⟨1, 5, (⟨#[]⟩ : ByteArray)⟩ : V)) ?_
     refine wx_pure hok 6 rfl rfl rfl (freshS_eq rfl) rfl rfl ?_
     refine wx_pure hok 7 rfl rfl rfl (freshS_eq rfl) rfl rfl ?_
     refine wx_as (d := 26) (v' := .bool true) (S' := [_,_,_,_,_,_,_,_,_,_]) rfl rfl (bool_is hs26) ?_
     refine wx_pure hok 8 rfl rfl rfl (freshS_eq rfl) rfl rfl ?_
     refine wx_pure hok 9 rfl rfl rfl (freshS_eq rfl) rfl rfl ?_
     refine wx_as (d := 28) (v' := .bool (v16_2 == 300)) (S' := [_,_,_,_,_,_,_,_,_,_,_,_]) rfl rfl (nateq (a := v16_2) (b := 300)) ?_
     refine wx_pure hok 10 rfl rfl rfl (freshS_eq rfl) rfl rfl ?_
     refine wx_pure hok 11 rfl rfl rfl (freshS_eq rfl) rfl rfl ?_
     refine wx_as (d := 30) (v' := .bool true) (S' := [_,_,_,_,_,_,_,_,_,_,_,_,_,_]) rfl rfl (bool_is hs30) ?_
     refine wx_loadH hok 12 2 0 rfl rfl rfl (freshS_eq rfl) rfl rfl rfl rfl (cs := [_,_,_]) rfl tS_29 tA_29 rfl rfl ?_
     refine wx_step1 hok 13 rfl rfl rfl rfl ?_
     refine wl_call [] [0, 1, 2, 3] rfl rfl rfl (freshS_eq rfl) rfl rfl fn_19 rfl (w_value_Text_s N ((v9_0 : Nat) : Int) v9_1 (⟨#[]⟩ : ByteArray) _ hc32) (fun _ _ hφ => ask [0] rfl hφ) rfl (H' := [_,_,_,_]) rfl ?_
     rintro _ _ _ ⟨rfl, rfl, rfl⟩
     refine wl_nil ?_
     refine we_x [0] [2] rfl rfl ?_
     refine wx_pure hok 14 rfl rfl rfl (freshS_eq rfl) rfl rfl ?_
     refine wx_pure hok 15 rfl rfl rfl (freshS_eq rfl) rfl rfl ?_
     refine wx_step1 hok 16 rfl rfl rfl rfl ?_
     refine wl_pure rfl rfl rfl (freshS_eq rfl) rfl ?_
     refine wl_nil ?_
     refine we_x [0] [] rfl rfl ?_
     refine wx_done hok rfl ?_
     have hE := (Option.some.inj hm).symm
     refine we_pick [] rfl (H' := []) rfl ?_
     refine we_join (v32.toList == (⟨#[53]⟩ : ByteArray).toList) hE [0] rfl (fun _ _ hφ => ask [0] rfl hφ) rfl
    ·
     refine wc_draw [0, 1, 2, 3, 5, 6, 7, 8, 9, 10, 11, 12, 14, 15] rfl rfl (fun hok => ?_)
     refine wx_pure hok 0 rfl rfl rfl (freshS_eq rfl) rfl rfl ?_
     refine wx_pure hok 1 rfl rfl rfl (freshS_eq rfl) rfl rfl ?_
     refine wx_as (d := 20) (v' := .bool (v9_2 == 0)) (S' := [_,_,_,_]) rfl rfl (nateq (a := v9_2) (b := 0)) ?_
     refine wx_pure hok 2 rfl rfl rfl (freshS_eq rfl) rfl rfl ?_
     refine wx_as (d := 21) (v' := .bool true) (S' := [_,_,_,_,_]) rfl rfl (bool_is hs21) ?_
     refine wx_loadH hok 3 2 0 rfl rfl rfl (freshS_eq rfl) rfl rfl rfl rfl (cs := [_,_,_]) rfl tS_29 tA_29 rfl rfl ?_
     refine wx_step1 hok 4 rfl rfl rfl rfl ?_
     refine wl_call [] [0, 1, 2, 3] rfl rfl rfl (freshS_eq rfl) rfl rfl fn_14 rfl (w_ropewalkref01_Number_s N 5 hc23) (fun _ _ hφ => ask [0] rfl hφ) rfl (H' := [_,_,_,_]) rfl ?_
     rintro _ _ _ ⟨rfl, rfl, rfl⟩
     refine wl_nil ?_
     refine we_x [0] [2] rfl rfl ?_
     refine wx_bin hok 5 rfl rfl rfl (freshS_eq rfl) rfl rfl rfl rfl (eqlV _ _ (⟨((v9_0 : Nat) : Int), v9_1, (⟨#[]⟩ : ByteArray)⟩ : V) (⟨1, 5, (⟨#[]⟩ : ByteArray)⟩ : V)) ?_
     refine wx_pure hok 6 rfl rfl rfl (freshS_eq rfl) rfl rfl ?_
     refine wx_pure hok 7 rfl rfl rfl (freshS_eq rfl) rfl rfl ?_
     refine wx_as (d := 26) (v' := .bool true) (S' := [_,_,_,_,_,_,_,_,_,_]) rfl rfl (bool_is hs26) ?_
     refine wx_pure hok 8 rfl rfl rfl (freshS_eq rfl) rfl rfl ?_
     refine wx_pure hok 9 rfl rfl rfl (freshS_eq rfl) rfl rfl ?_
     refine wx_as (d := 28) (v' := .bool (v16_2 == 300)) (S' := [_,_,_,_,_,_,_,_,_,_,_,_]) rfl rfl (nateq (a := v16_2) (b := 300)) ?_
     refine wx_pure hok 10 rfl rfl rfl (freshS_eq rfl) rfl rfl ?_
     refine wx_pure hok 11 rfl rfl rfl (freshS_eq rfl) rfl rfl ?_
     refine wx_as (d := 30) (v' := .bool false) (S' := [_,_,_,_,_,_,_,_,_,_,_,_,_,_]) rfl rfl (bool_is hs30) ?_
     refine wx_off hok 12 rfl rfl rfl (freshS_eq rfl) rfl ?_
     refine wx_step1 hok 13 rfl rfl rfl rfl ?_
     refine wl_off rfl rfl rfl (freshS_eq rfl) ?_
     refine wl_nil ?_
     refine we_x [0] [2] rfl rfl ?_
     refine wx_off hok 14 rfl rfl rfl (freshS_eq rfl) rfl ?_
     refine wx_pure hok 15 rfl rfl rfl (freshS_eq rfl) rfl rfl ?_
     refine wx_step1 hok 16 rfl rfl rfl rfl ?_
     refine wl_pure rfl rfl rfl (freshS_eq rfl) rfl ?_
     refine wl_nil ?_
     refine we_x [0] [] rfl rfl ?_
     refine wx_done hok rfl ?_
     have hE := (Option.some.inj hm).symm
     refine we_pick [] rfl (H' := []) rfl ?_
     refine we_join false hE [0] rfl (fun _ _ hφ => ask [0] rfl hφ) rfl
   ·
    refine wc_draw [0, 1, 2, 3, 5, 6, 7, 8, 9, 10, 11, 12, 14, 15] rfl rfl (fun hok => ?_)
    refine wx_pure hok 0 rfl rfl rfl (freshS_eq rfl) rfl rfl ?_
    refine wx_pure hok 1 rfl rfl rfl (freshS_eq rfl) rfl rfl ?_
    refine wx_as (d := 20) (v' := .bool (v9_2 == 0)) (S' := [_,_,_,_]) rfl rfl (nateq (a := v9_2) (b := 0)) ?_
    refine wx_pure hok 2 rfl rfl rfl (freshS_eq rfl) rfl rfl ?_
    refine wx_as (d := 21) (v' := .bool true) (S' := [_,_,_,_,_]) rfl rfl (bool_is hs21) ?_
    refine wx_loadH hok 3 2 0 rfl rfl rfl (freshS_eq rfl) rfl rfl rfl rfl (cs := [_,_,_]) rfl tS_29 tA_29 rfl rfl ?_
    refine wx_step1 hok 4 rfl rfl rfl rfl ?_
    refine wl_call [] [0, 1, 2, 3] rfl rfl rfl (freshS_eq rfl) rfl rfl fn_14 rfl (w_ropewalkref01_Number_s N 5 hc23) (fun _ _ hφ => ask [0] rfl hφ) rfl (H' := [_,_,_,_]) rfl ?_
    rintro _ _ _ ⟨rfl, rfl, rfl⟩
    refine wl_nil ?_
    refine we_x [0] [2] rfl rfl ?_
    refine wx_bin hok 5 rfl rfl rfl (freshS_eq rfl) rfl rfl rfl rfl (eqlV _ _ (⟨((v9_0 : Nat) : Int), v9_1, (⟨#[]⟩ : ByteArray)⟩ : V) (⟨1, 5, (⟨#[]⟩ : ByteArray)⟩ : V)) ?_
    refine wx_pure hok 6 rfl rfl rfl (freshS_eq rfl) rfl rfl ?_
    refine wx_pure hok 7 rfl rfl rfl (freshS_eq rfl) rfl rfl ?_
    refine wx_as (d := 26) (v' := .bool false) (S' := [_,_,_,_,_,_,_,_,_,_]) rfl rfl (bool_is hs26) ?_
    refine wx_off hok 8 rfl rfl rfl (freshS_eq rfl) rfl ?_
    refine wx_off hok 9 rfl rfl rfl (freshS_eq rfl) rfl ?_
    refine wx_pure hok 10 rfl rfl rfl (freshS_eq rfl) rfl rfl ?_
    refine wx_pure hok 11 rfl rfl rfl (freshS_eq rfl) rfl rfl ?_
    refine wx_off hok 12 rfl rfl rfl (freshS_eq rfl) rfl ?_
    refine wx_step1 hok 13 rfl rfl rfl rfl ?_
    refine wl_off rfl rfl rfl (freshS_eq rfl) ?_
    refine wl_nil ?_
    refine we_x [0] [2] rfl rfl ?_
    refine wx_off hok 14 rfl rfl rfl (freshS_eq rfl) rfl ?_
    refine wx_pure hok 15 rfl rfl rfl (freshS_eq rfl) rfl rfl ?_
    refine wx_step1 hok 16 rfl rfl rfl rfl ?_
    refine wl_pure rfl rfl rfl (freshS_eq rfl) rfl ?_
    refine wl_nil ?_
    refine we_x [0] [] rfl rfl ?_
    refine wx_done hok rfl ?_
    have hE := (Option.some.inj hm).symm
    refine we_pick [] rfl (H' := []) rfl ?_
    refine we_join false hE [0] rfl (fun _ _ hφ => ask [0] rfl hφ) rfl
  ·
   refine wc_draw [0, 1, 2, 3, 5, 6, 7, 8, 9, 10, 11, 12, 14, 15] rfl rfl (fun hok => ?_)
   refine wx_pure hok 0 rfl rfl rfl (freshS_eq rfl) rfl rfl ?_
   refine wx_pure hok 1 rfl rfl rfl (freshS_eq rfl) rfl rfl ?_
   refine wx_as (d := 20) (v' := .bool (v9_2 == 0)) (S' := [_,_,_,_]) rfl rfl (nateq (a := v9_2) (b := 0)) ?_
   refine wx_pure hok 2 rfl rfl rfl (freshS_eq rfl) rfl rfl ?_
   refine wx_as (d := 21) (v' := .bool false) (S' := [_,_,_,_,_]) rfl rfl (bool_is hs21) ?_
   refine wx_off hok 3 rfl rfl rfl (freshS_eq rfl) rfl ?_
   refine wx_step1 hok 4 rfl rfl rfl rfl ?_
   refine wl_off rfl rfl rfl (freshS_eq rfl) ?_
   refine wl_nil ?_
   refine we_x [0] [] rfl rfl ?_
   refine wx_off hok 5 rfl rfl rfl (freshS_eq rfl) rfl ?_
   refine wx_pure hok 6 rfl rfl rfl (freshS_eq rfl) rfl rfl ?_
   refine wx_pure hok 7 rfl rfl rfl (freshS_eq rfl) rfl rfl ?_
   refine wx_off hok 8 rfl rfl rfl (freshS_eq rfl) rfl ?_
   refine wx_off hok 9 rfl rfl rfl (freshS_eq rfl) rfl ?_
   refine wx_pure hok 10 rfl rfl rfl (freshS_eq rfl) rfl rfl ?_
   refine wx_pure hok 11 rfl rfl rfl (freshS_eq rfl) rfl rfl ?_
   refine wx_off hok 12 rfl rfl rfl (freshS_eq rfl) rfl ?_
   refine wx_step1 hok 13 rfl rfl rfl rfl ?_
   refine wl_off rfl rfl rfl (freshS_eq rfl) ?_
   refine wl_nil ?_
   refine we_x [0] [] rfl rfl ?_
   refine wx_off hok 14 rfl rfl rfl (freshS_eq rfl) rfl ?_
   refine wx_pure hok 15 rfl rfl rfl (freshS_eq rfl) rfl rfl ?_
   refine wx_step1 hok 16 rfl rfl rfl rfl ?_
   refine wl_pure rfl rfl rfl (freshS_eq rfl) rfl ?_
   refine wl_nil ?_
   refine we_x [0] [] rfl rfl ?_
   refine wx_done hok rfl ?_
   have hE := (Option.some.inj hm).symm
   refine we_pick [] rfl (H' := []) rfl ?_
   refine we_join false hE [0] rfl (fun _ _ hφ => ask [0] rfl hφ) rfl
 ·
  rintro j_1_0 hE
  try dsimp only
  have hm := hLj_1
  rw [hE] at hm
  refine wc_ret ?_
  have hE := (Option.some.inj hm).symm
  replace hE := hE.symm
  subst hE
  refine ret_one (Hr := []) [] Tryd.results8 (res_tmp rfl) ⟨rfl, rfl, rfl⟩ (fun _ _ hφ => ask [] rfl hφ) rfl rfl (.inl rfl)
set_option maxRecDepth 100000 in
set_option maxHeartbeats 4000000 in
theorem w_ropewalklaw01_ValueLaws_s (N : Nat) (a0 : Int) (a1 : Int) (o0 : Bool) (hm : m_ropewalklaw01_ValueLaws N a0 a1 = some o0) : Spec Tryd.prog 5 [.int .i64 a0, .int .i64 a1] [tabF Tryd.prog "internal/strconv.uint64pow10" .u64 Lib.pow10Tab 1 pow10_g] [] (fun v Φr Hr => v = .bool o0 ∧ Φr = [] ∧ Hr = []) := by
 unfold m_ropewalklaw01_ValueLaws at hm
 refine spec_of Tryd.func5 rfl Tryd.ntmps5 rfl (S := [_,_]) rfl (fun C => ?_)
 refine wc_seq ?_
 refine wc_region ?_
 refine wl_pure rfl rfl rfl (freshS_eq rfl) rfl ?_
 refine wl_nil ?_
 refine we_then ?_
 refine wc_keep [0, 1] (S' := [_,_]) rfl ?_
 refine wc_seq ?_
 refine wc_seq ?_
 refine wc_region ?_
 obtain ⟨v25, hc25, hm⟩ := bindO_some hm
 refine wl_call [] [] rfl rfl rfl (freshS_eq rfl) rfl rfl fn_8 rfl (w_ropewalklaw01_awake_s N _ hc25) (fun _ _ hφ => ask [0] rfl hφ) rfl (H' := []) rfl ?_
 rintro _ _ _ ⟨rfl, rfl, rfl⟩
 refine wl_pure rfl rfl rfl (freshS_eq rfl) rfl ?_
 refine wl_nil ?_
 refine we_then ?_
 refine wc_keep [26, 0, 1] (S' := [_,_,_]) rfl ?_
 refine wc_cond rfl (fun hb26 => ?_) (fun hb26 => ?_)
 ·
  replace hm := iteT hm hb26
  refine wc_keep [] (S' := []) rfl ?_
  refine wc_seq ?_
  refine wc_region ?_
  refine wl_pure rfl rfl rfl (freshS_eq rfl) rfl ?_
  refine wl_nil ?_
  refine we_then ?_
  refine wc_ret ?_
  refine we_then_ret ?_
  have hE := (Option.some.inj hm).symm
  replace hE := hE.symm
  subst hE
  refine ret_one (Hr := []) [] Tryd.results5 (res_tmp rfl) ⟨rfl, rfl, rfl⟩ (fun _ _ hφ => ask [] rfl hφ) rfl rfl (.inl rfl)
 ·
  replace hm := iteF hm hb26
  refine wc_keep [0, 1] (S' := [_,_]) rfl ?_
  refine wc_skip ?_
  refine we_then ?_
  refine wc_seq ?_
  refine wc_region ?_
  refine wl_pure rfl rfl rfl (freshS_eq rfl) rfl ?_
  obtain ⟨_, hc28, hm⟩ := bindO_some hm
  try dsimp only at hm
  refine wl_call [] [] rfl rfl rfl (freshS_eq rfl) rfl rfl fn_14 rfl (w_ropewalkref01_Number_s N a0 hc28) (fun _ _ hφ => ask [0] rfl hφ) rfl (H' := []) rfl ?_
  rintro _ _ _ ⟨rfl, rfl, rfl⟩
  refine wl_pure rfl rfl rfl (freshS_eq rfl) rfl ?_
  obtain ⟨_, hc30, hm⟩ := bindO_some hm
  try dsimp only at hm
  refine wl_call [] [] rfl rfl rfl (freshS_eq rfl) rfl rfl fn_14 rfl (w_ropewalkref01_Number_s N a1 hc30) (fun _ _ hφ => ask [0] rfl hφ) rfl (H' := []) rfl ?_
  rintro _ _ _ ⟨rfl, rfl, rfl⟩
  refine wl_alloc rfl rfl rfl (freshS_eq rfl) rfl tZ_29 rfl (fun g5 => ?_)
  refine wl_alloc rfl rfl rfl (freshS_eq rfl) rfl tZ_29 rfl (fun g6 => ?_)
  refine wl_store 1 0 rfl rfl rfl rfl rfl rfl rfl tS_29 rfl rfl rfl (all' := [_,_,_]) rfl (H' := [_,_]) rfl ?_
  refine wl_store 0 0 rfl rfl rfl rfl rfl rfl rfl tS_29 rfl rfl rfl (all' := [_,_,_]) rfl (H' := [_,_]) rfl ?_
  refine wl_nil ?_
  refine we_then ?_
  refine wc_keep [6, 5, 0, 1] (S' := [_,_,_,_]) rfl ?_
  refine wc_seq ?_
  refine wc_region ?_
  refine wl_loadH 1 0 rfl rfl rfl (freshS_eq rfl) rfl rfl rfl (cs := [_,_,_]) rfl tS_29 tA_29 rfl rfl ?_
  refine wl_loadH 0 0 rfl rfl rfl (freshS_eq rfl) rfl rfl rfl (cs := [_,_,_]) rfl tS_29 tA_29 rfl rfl ?_
  refine wl_buildSlice rfl rfl rfl (freshS_eq rfl) rfl tE_23 tS_29 tZ_29 rfl (zs := [.int .u8 0, .int .i64 0, .string ((⟨#[]⟩ : ByteArray)), .int .u8 0, .int .i64 0, .string ((⟨#[]⟩ : ByteArray))]) (by kernel_rfl) rfl (out := [_,_,_,_,_,_]) rfl (fun g34 => ?_)
  refine wl_row (sz := 3) (m := 2) R_V ([(⟨1, a0, (⟨#[]⟩ : ByteArray)⟩ : V), (⟨1, a1, (⟨#[]⟩ : ByteArray)⟩ : V)]) 0 rfl (fun F w hφ => ⟨[.int .u8 1, .int .i64 a0, .string ((⟨#[]⟩ : ByteArray))], [.int .u8 1, .int .i64 a1, .string ((⟨#[]⟩ : ByteArray))], rfl, rfl, ⟨(), rfl, ask_nil⟩, ⟨[.int .u8 1, .int .i64 a1, .string ((⟨#[]⟩ : ByteArray))], [], rfl, rfl, ⟨(), rfl, ask_nil⟩, rfl⟩⟩) rfl (by decide) (H' := [_,_,_]) rfl ?_
  obtain ⟨⟨v35_0, v35_1, v35_2⟩, hc35, hm⟩ := bindO_some hm
  try dsimp only at hm
  refine wl_call [0] [1, 2] rfl rfl rfl (freshS_eq rfl) rfl rfl fn_11 rfl (w_value_Do_s N 1 (some ⟨g34, 0, none⟩) ([(⟨1, a0, (⟨#[]⟩ : ByteArray)⟩ : V), (⟨1, a1, (⟨#[]⟩ : ByteArray)⟩ : V)].length) 2 [(⟨1, a0, (⟨#[]⟩ : ByteArray)⟩ : V), (⟨1, a1, (⟨#[]⟩ : ByteArray)⟩ : V)] _ _ _ hc35) (fun _ _ hφ => ask [0] rfl hφ) rfl (H' := [_,_]) rfl ?_
  rintro _ _ _ ⟨rfl, rfl, rfl⟩
  refine wl_pure rfl rfl rfl (freshS_eq rfl) rfl ?_
  refine wl_pure rfl rfl rfl (freshS_eq rfl) rfl ?_
  refine wl_pure rfl rfl rfl (freshS_eq rfl) rfl ?_
  refine wl_alloc rfl rfl rfl (freshS_eq rfl) rfl tZ_29 rfl (fun g7 => ?_)
  refine wl_store 0 0 rfl rfl rfl rfl rfl rfl rfl tS_29 rfl rfl rfl (all' := [_,_,_]) rfl (H' := [_,_,_,_]) rfl ?_
  refine wl_pure rfl rfl rfl (freshS_eq rfl) rfl ?_
  refine wl_nil ?_
  refine we_then ?_
  refine wc_keep [8, 7, 6, 5, 0, 1] (S' := [_,_,_,_,_,_]) rfl ?_
  refine wc_seq ?_
  refine wc_region ?_
  refine wl_loadH 2 0 rfl rfl rfl (freshS_eq rfl) rfl rfl rfl (cs := [_,_,_]) rfl tS_29 tA_29 rfl rfl ?_
  refine wl_loadH 3 0 rfl rfl rfl (freshS_eq rfl) rfl rfl rfl (cs := [_,_,_]) rfl tS_29 tA_29 rfl rfl ?_
  refine wl_buildSlice rfl rfl rfl (freshS_eq rfl) rfl tE_23 tS_29 tZ_29 rfl (zs := [.int .u8 0, .int .i64 0, .string ((⟨#[]⟩ : ByteArray)), .int .u8 0, .int .i64 0, .string ((⟨#[]⟩ : ByteArray))]) (by kernel_rfl) rfl (out := [_,_,_,_,_,_]) rfl (fun g41 => ?_)
  refine wl_row (sz := 3) (m := 2) R_V ([(⟨1, a1, (⟨#[]⟩ : ByteArray)⟩ : V), (⟨1, a0, (⟨#[]⟩ : ByteArray)⟩ : V)]) 0 rfl (fun F w hφ => ⟨[.int .u8 1, .int .i64 a1, .string ((⟨#[]⟩ : ByteArray))], [.int .u8 1, .int .i64 a0, .string ((⟨#[]⟩ : ByteArray))], rfl, rfl, ⟨(), rfl, ask_nil⟩, ⟨[.int .u8 1, .int .i64 a0, .string ((⟨#[]⟩ : ByteArray))], [], rfl, rfl, ⟨(), rfl, ask_nil⟩, rfl⟩⟩) rfl (by decide) (H' := [_,_,_,_,_]) rfl ?_
  obtain ⟨⟨v42_0, v42_1, v42_2⟩, hc42, hm⟩ := bindO_some hm
  try dsimp only at hm
  refine wl_call [0] [1, 2, 3, 4] rfl rfl rfl (freshS_eq rfl) rfl rfl fn_11 rfl (w_value_Do_s N 1 (some ⟨g41, 0, none⟩) ([(⟨1, a1, (⟨#[]⟩ : ByteArray)⟩ : V), (⟨1, a0, (⟨#[]⟩ : ByteArray)⟩ : V)].length) 2 [(⟨1, a1, (⟨#[]⟩ : ByteArray)⟩ : V), (⟨1, a0, (⟨#[]⟩ : ByteArray)⟩ : V)] _ _ _ hc42) (fun _ _ hφ => ask [0] rfl hφ) rfl (H' := [_,_,_,_]) rfl ?_
  rintro _ _ _ ⟨rfl, rfl, rfl⟩
  refine wl_pure rfl rfl rfl (freshS_eq rfl) rfl ?_
  refine wl_pure rfl rfl rfl (freshS_eq rfl) rfl ?_
  refine wl_pure rfl rfl rfl (freshS_eq rfl) rfl ?_
  refine wl_alloc rfl rfl rfl (freshS_eq rfl) rfl tZ_29 rfl (fun g9 => ?_)
  refine wl_store 0 0 rfl rfl rfl rfl rfl rfl rfl tS_29 rfl rfl rfl (all' := [_,_,_]) rfl (H' := [_,_,_,_,_,_]) rfl ?_
  refine wl_pure rfl rfl rfl (freshS_eq rfl) rfl ?_
  refine wl_nil ?_
  refine we_then ?_
  refine wc_keep [10, 9, 8, 7, 6, 5, 0, 1] (S' := [_,_,_,_,_,_,_,_]) rfl ?_
  refine wc_seq ?_
  refine wc_region ?_
  refine wl_loadH 5 0 rfl rfl rfl (freshS_eq rfl) rfl rfl rfl (cs := [_,_,_]) rfl tS_29 tA_29 rfl rfl ?_
  refine wl_loadH 4 0 rfl rfl rfl (freshS_eq rfl) rfl rfl rfl (cs := [_,_,_]) rfl tS_29 tA_29 rfl rfl ?_
  refine wl_buildSlice rfl rfl rfl (freshS_eq rfl) rfl tE_23 tS_29 tZ_29 rfl (zs := [.int .u8 0, .int .i64 0, .string ((⟨#[]⟩ : ByteArray)), .int .u8 0, .int .i64 0, .string ((⟨#[]⟩ : ByteArray))]) (by kernel_rfl) rfl (out := [_,_,_,_,_,_]) rfl (fun g48 => ?_)
  refine wl_row (sz := 3) (m := 2) R_V ([(⟨1, a0, (⟨#[]⟩ : ByteArray)⟩ : V), (⟨1, a1, (⟨#[]⟩ : ByteArray)⟩ : V)]) 0 rfl (fun F w hφ => ⟨[.int .u8 1, .int .i64 a0, .string ((⟨#[]⟩ : ByteArray))], [.int .u8 1, .int .i64 a1, .string ((⟨#[]⟩ : ByteArray))], rfl, rfl, ⟨(), rfl, ask_nil⟩, ⟨[.int .u8 1, .int .i64 a1, .string ((⟨#[]⟩ : ByteArray))], [], rfl, rfl, ⟨(), rfl, ask_nil⟩, rfl⟩⟩) rfl (by decide) (H' := [_,_,_,_,_,_,_]) rfl ?_
  obtain ⟨⟨v49_0, v49_1, v49_2⟩, hc49, hm⟩ := bindO_some hm
  try dsimp only at hm
  refine wl_call [0] [1, 2, 3, 4, 5, 6] rfl rfl rfl (freshS_eq rfl) rfl rfl fn_11 rfl (w_value_Do_s N 3 (some ⟨g48, 0, none⟩) ([(⟨1, a0, (⟨#[]⟩ : ByteArray)⟩ : V), (⟨1, a1, (⟨#[]⟩ : ByteArray)⟩ : V)].length) 2 [(⟨1, a0, (⟨#[]⟩ : ByteArray)⟩ : V), (⟨1, a1, (⟨#[]⟩ : ByteArray)⟩ : V)] _ _ _ hc49) (fun _ _ hφ => ask [0] rfl hφ) rfl (H' := [_,_,_,_,_,_]) rfl ?_
  rintro _ _ _ ⟨rfl, rfl, rfl⟩
  refine wl_pure rfl rfl rfl (freshS_eq rfl) rfl ?_
  refine wl_pure rfl rfl rfl (freshS_eq rfl) rfl ?_
  refine wl_pure rfl rfl rfl (freshS_eq rfl) rfl ?_
  refine wl_alloc rfl rfl rfl (freshS_eq rfl) rfl tZ_29 rfl (fun g11 => ?_)
  refine wl_store 0 0 rfl rfl rfl rfl rfl rfl rfl tS_29 rfl rfl rfl (all' := [_,_,_]) rfl (H' := [_,_,_,_,_,_,_,_]) rfl ?_
  refine wl_pure rfl rfl rfl (freshS_eq rfl) rfl ?_
  refine wl_nil ?_
  refine we_then ?_
  refine wc_keep [12, 11, 10, 9, 8, 7, 6, 5, 0, 1] (S' := [_,_,_,_,_,_,_,_,_,_]) rfl ?_
  refine wc_seq ?_
  refine wc_region ?_
  refine wl_loadH 6 0 rfl rfl rfl (freshS_eq rfl) rfl rfl rfl (cs := [_,_,_]) rfl tS_29 tA_29 rfl rfl ?_
  refine wl_loadH 7 0 rfl rfl rfl (freshS_eq rfl) rfl rfl rfl (cs := [_,_,_]) rfl tS_29 tA_29 rfl rfl ?_
  refine wl_buildSlice rfl rfl rfl (freshS_eq rfl) rfl tE_23 tS_29 tZ_29 rfl (zs := [.int .u8 0, .int .i64 0, .string ((⟨#[]⟩ : ByteArray)), .int .u8 0, .int .i64 0, .string ((⟨#[]⟩ : ByteArray))]) (by kernel_rfl) rfl (out := [_,_,_,_,_,_]) rfl (fun g55 => ?_)
  refine wl_row (sz := 3) (m := 2) R_V ([(⟨1, a1, (⟨#[]⟩ : ByteArray)⟩ : V), (⟨1, a0, (⟨#[]⟩ : ByteArray)⟩ : V)]) 0 rfl (fun F w hφ => ⟨[.int .u8 1, .int .i64 a1, .string ((⟨#[]⟩ : ByteArray))], [.int .u8 1, .int .i64 a0, .string ((⟨#[]⟩ : ByteArray))], rfl, rfl, ⟨(), rfl, ask_nil⟩, ⟨[.int .u8 1, .int .i64 a0, .string ((⟨#[]⟩ : ByteArray))], [], rfl, rfl, ⟨(), rfl, ask_nil⟩, rfl⟩⟩) rfl (by decide) (H' := [_,_,_,_,_,_,_,_,_]) rfl ?_
  obtain ⟨⟨v56_0, v56_1, v56_2⟩, hc56, hm⟩ := bindO_some hm
  try dsimp only at hm
  refine wl_call [0] [1, 2, 3, 4, 5, 6, 7, 8] rfl rfl rfl (freshS_eq rfl) rfl rfl fn_11 rfl (w_value_Do_s N 3 (some ⟨g55, 0, none⟩) ([(⟨1, a1, (⟨#[]⟩ : ByteArray)⟩ : V), (⟨1, a0, (⟨#[]⟩ : ByteArray)⟩ : V)].length) 2 [(⟨1, a1, (⟨#[]⟩ : ByteArray)⟩ : V), (⟨1, a0, (⟨#[]⟩ : ByteArray)⟩ : V)] _ _ _ hc56) (fun _ _ hφ => ask [0] rfl hφ) rfl (H' := [_,_,_,_,_,_,_,_]) rfl ?_
  rintro _ _ _ ⟨rfl, rfl, rfl⟩
  refine wl_pure rfl rfl rfl (freshS_eq rfl) rfl ?_
  refine wl_pure rfl rfl rfl (freshS_eq rfl) rfl ?_
  refine wl_pure rfl rfl rfl (freshS_eq rfl) rfl ?_
  refine wl_alloc rfl rfl rfl (freshS_eq rfl) rfl tZ_29 rfl (fun g13 => ?_)
  refine wl_store 0 0 rfl rfl rfl rfl rfl rfl rfl tS_29 rfl rfl rfl (all' := [_,_,_]) rfl (H' := [_,_,_,_,_,_,_,_,_,_]) rfl ?_
  refine wl_pure rfl rfl rfl (freshS_eq rfl) rfl ?_
  refine wl_nil ?_
  refine we_then ?_
  refine wc_keep [14, 13, 12, 11, 10, 9, 8, 7, 6, 5, 0, 1] (S' := [_,_,_,_,_,_,_,_,_,_,_,_]) rfl ?_
  refine wc_seq ?_
  refine wc_seq ?_
  obtain ⟨bj_1, hm, hLj_1⟩ := bindO_some hm
  unfold m_ropewalklaw01_ValueLaws_C1 at hm
  refine wc_cut (σ := Bool) (fun j_1_76 => bj_1 = j_1_76) (fun j_1_76 => [(8, .int .i64 ((v35_2 : Nat) : Int)), (7, .pointer (some ⟨g7, 0, none⟩)), (6, .pointer (some ⟨g6, 0, none⟩)), (5, .pointer (some ⟨g5, 0, none⟩)), (0, .int .i64 a0), (1, .int .i64 a1), (76, .bool j_1_76)]) (fun j_1_76 => [tabF Tryd.prog "internal/strconv.uint64pow10" .u64 Lib.pow10Tab 1 pow10_g]) (fun j_1_76 => [.blk g7 [.int .u8 ((v35_0 : Nat) : Int), .int .i64 v35_1, .string ((⟨#[]⟩ : ByteArray))] 29, .blk g6 [.int .u8 1, .int .i64 a1, .string ((⟨#[]⟩ : ByteArray))] 29, .blk g5 [.int .u8 1, .int .i64 a0, .string ((⟨#[]⟩ : ByteArray))] 29]) ?_ ?_
  ·
   refine wc_region ?_
   refine wl_loadH 6 0 rfl rfl rfl (freshS_eq rfl) rfl rfl rfl (cs := [_,_,_]) rfl tS_29 tA_29 rfl rfl ?_
   refine wl_loadH 4 0 rfl rfl rfl (freshS_eq rfl) rfl rfl rfl (cs := [_,_,_]) rfl tS_29 tA_29 rfl rfl ?_
   refine wl_bin rfl rfl rfl (freshS_eq rfl) rfl rfl rfl (neqV _ _ (⟨((v35_0 : Nat) : Int), v35_1, (⟨#[]⟩ : ByteArray)⟩ : V) (⟨((v42_0 : Nat) : Int), v42_1, (⟨#[]⟩ : ByteArray)⟩ : V)) ?_
   refine wl_pure rfl rfl rfl (freshS_eq rfl) rfl ?_
   refine wl_split (d := 62) (S' := [_,_,_,_,_,_,_,_,_,_,_,_,_,_,_]) rfl rfl (fun hs62 => ?_) (fun hs62 => ?_)
   ·
    replace hm := iteT hm hs62
    refine wl_off rfl rfl rfl (freshS_eq rfl) ?_
    refine wl_off rfl rfl rfl (freshS_eq rfl) ?_
    refine wl_off rfl rfl rfl (freshS_eq rfl) ?_
    refine wl_pure rfl rfl rfl (freshS_eq rfl) rfl ?_
    refine wl_pure rfl rfl rfl (freshS_eq rfl) rfl ?_
    refine wl_off rfl rfl rfl (freshS_eq rfl) ?_
    refine wl_off rfl rfl rfl (freshS_eq rfl) ?_
    refine wl_off rfl rfl rfl (freshS_eq rfl) ?_
    refine wl_pure rfl rfl rfl (freshS_eq rfl) rfl ?_
    refine wl_pure rfl rfl rfl (freshS_eq rfl) rfl ?_
    refine wl_off rfl rfl rfl (freshS_eq rfl) ?_
    refine wl_off rfl rfl rfl (freshS_eq rfl) ?_
    refine wl_off rfl rfl rfl (freshS_eq rfl) ?_
    refine wl_pure rfl rfl rfl (freshS_eq rfl) rfl ?_
    refine wl_nil ?_
    have hE := (Option.some.inj hm).symm
    refine we_pick [6, 8, 9] rfl (H' := [_,_,_]) rfl ?_
    refine we_join true hE [8, 7, 6, 5, 0, 1, 76] rfl (fun _ _ hφ => ask [0] rfl hφ) rfl
   ·
    replace hm := iteF hm hs62
    refine wl_pure rfl rfl rfl (freshS_eq rfl) rfl ?_
    refine wl_pure rfl rfl rfl (freshS_eq rfl) rfl ?_
    refine wl_pure rfl rfl rfl (freshS_eq rfl) rfl ?_
    refine wl_as (d := 65) (v' := .bool (v35_2 != v42_2)) (S' := [_,_,_,_,_,_,_,_,_,_,_,_,_,_,_,_,_,_]) rfl rfl (natne (a := v35_2) (b := v42_2)) ?_
    refine wl_pure rfl rfl rfl (freshS_eq rfl) rfl ?_
    refine wl_pure rfl rfl rfl (freshS_eq rfl) rfl ?_
    refine wl_split (d := 67) (S' := [_,_,_,_,_,_,_,_,_,_,_,_,_,_,_,_,_,_,_,_]) rfl rfl (fun hs67 => ?_) (fun hs67 => ?_)
    ·
     replace hm := iteT hm hs67
     refine wl_off rfl rfl rfl (freshS_eq rfl) ?_
     refine wl_off rfl rfl rfl (freshS_eq rfl) ?_
     refine wl_off rfl rfl rfl (freshS_eq rfl) ?_
     refine wl_pure rfl rfl rfl (freshS_eq rfl) rfl ?_
     refine wl_pure rfl rfl rfl (freshS_eq rfl) rfl ?_
     refine wl_off rfl rfl rfl (freshS_eq rfl) ?_
     refine wl_off rfl rfl rfl (freshS_eq rfl) ?_
     refine wl_off rfl rfl rfl (freshS_eq rfl) ?_
     refine wl_pure rfl rfl rfl (freshS_eq rfl) rfl ?_
     refine wl_nil ?_
     have hE := (Option.some.inj hm).symm
     refine we_pick [6, 8, 9] rfl (H' := [_,_,_]) rfl ?_
     refine we_join true hE [8, 7, 6, 5, 0, 1, 76] rfl (fun _ _ hφ => ask [0] rfl hφ) rfl
    ·
     replace hm := iteF hm hs67
     refine wl_loadH 2 0 rfl rfl rfl (freshS_eq rfl) rfl rfl rfl (cs := [_,_,_]) rfl tS_29 tA_29 rfl rfl ?_
     refine wl_loadH 0 0 rfl rfl rfl (freshS_eq rfl) rfl rfl rfl (cs := [_,_,_]) rfl tS_29 tA_29 rfl rfl ?_
     refine wl_bin rfl rfl rfl (freshS_eq rfl) rfl rfl rfl (neqV _ _ (⟨((v49_0 : Nat) : Int), v49_1, (⟨#[]⟩ : ByteArray)⟩ : V) (⟨((v56_0 : Nat) : Int), v56_1, (⟨#[]⟩ : ByteArray)⟩ : V)) ?_
     refine wl_pure rfl rfl rfl (freshS_eq rfl) rfl ?_
     refine wl_pure rfl rfl rfl (freshS_eq rfl) rfl ?_
     refine wl_split (d := 72) (S' := [_,_,_,_,_,_,_,_,_,_,_,_,_,_,_,_,_,_,_,_,_,_,_,_,_]) rfl rfl (fun hs72 => ?_) (fun hs72 => ?_)
     ·
      replace hm := iteT hm hs72
      refine wl_off rfl rfl rfl (freshS_eq rfl) ?_
      refine wl_off rfl rfl rfl (freshS_eq rfl) ?_
      refine wl_off rfl rfl rfl (freshS_eq rfl) ?_
      refine wl_pure rfl rfl rfl (freshS_eq rfl) rfl ?_
      refine wl_nil ?_
      have hE := (Option.some.inj hm).symm
      refine we_pick [6, 8, 9] rfl (H' := [_,_,_]) rfl ?_
      refine we_join true hE [8, 7, 6, 5, 0, 1, 76] rfl (fun _ _ hφ => ask [0] rfl hφ) rfl
     ·
      replace hm := iteF hm hs72
      refine wl_pure rfl rfl rfl (freshS_eq rfl) rfl ?_
      refine wl_pure rfl rfl rfl (freshS_eq rfl) rfl ?_
      refine wl_pure rfl rfl rfl (freshS_eq rfl) rfl ?_
      refine wl_as (d := 75) (v' := .bool (v49_2 != v56_2)) (S' := [_,_,_,_,_,_,_,_,_,_,_,_,_,_,_,_,_,_,_,_,_,_,_,_,_,_,_,_]) rfl rfl (natne (a := v49_2) (b := v56_2)) ?_
      refine wl_pure rfl rfl rfl (freshS_eq rfl) rfl ?_
      refine wl_nil ?_
      have hE := (Option.some.inj hm).symm
      refine we_pick [6, 8, 9] rfl (H' := [_,_,_]) rfl ?_
      refine we_join (v49_2 != v56_2) hE [8, 7, 6, 5, 0, 1, 76] rfl (fun _ _ hφ => ask [0] rfl hφ) rfl
  ·
   rintro j_1_76 hE
   try dsimp only
   have hm := hLj_1
   rw [hE] at hm
   refine wc_cond rfl (fun hb76 => ?_) (fun hb76 => ?_)
   ·
    replace hm := iteT hm hb76
    refine wc_keep [] (S' := []) rfl ?_
    refine wc_seq ?_
    refine wc_region ?_
    refine wl_pure rfl rfl rfl (freshS_eq rfl) rfl ?_
    refine wl_nil ?_
    refine we_then ?_
    refine wc_ret ?_
    refine we_then_ret ?_
    have hE := (Option.some.inj hm).symm
    replace hE := hE.symm
    subst hE
    refine ret_one (Hr := []) [] Tryd.results5 (res_tmp rfl) ⟨rfl, rfl, rfl⟩ (fun _ _ hφ => ask [] rfl hφ) rfl rfl (.inl rfl)
   ·
    replace hm := iteF hm hb76
    refine wc_keep [8, 7, 6, 5, 0, 1] (S' := [_,_,_,_,_,_]) rfl ?_
    refine wc_skip ?_
    refine we_then ?_
    refine wc_seq ?_
    obtain ⟨bj_2, hm, hLj_2⟩ := bindS_some hm
    unfold m_ropewalklaw01_ValueLaws_C2 at hm
    refine wc_cut (σ := Unit) (fun _ => bj_2 = .inl ()) (fun _ => [(6, .pointer (some ⟨g6, 0, none⟩)), (5, .pointer (some ⟨g5, 0, none⟩)), (0, .int .i64 a0), (1, .int .i64 a1)]) (fun _ => [tabF Tryd.prog "internal/strconv.uint64pow10" .u64 Lib.pow10Tab 1 pow10_g]) (fun _ => [.blk g6 [.int .u8 1, .int .i64 a1, .string ((⟨#[]⟩ : ByteArray))] 29, .blk g5 [.int .u8 1, .int .i64 a0, .string ((⟨#[]⟩ : ByteArray))] 29]) ?_ ?_
    ·
     refine wc_seq ?_
     refine wc_region ?_
     refine wl_pure rfl rfl rfl (freshS_eq rfl) rfl ?_
     refine wl_pure rfl rfl rfl (freshS_eq rfl) rfl ?_
     refine wl_as (d := 78) (v' := .bool (v35_2 == 0)) (S' := [_,_,_,_,_,_,_]) rfl rfl (nateq (a := v35_2) (b := 0)) ?_
     refine wl_nil ?_
     refine we_then ?_
     refine wc_keep [78, 7, 6, 5, 0, 1] (S' := [_,_,_,_,_,_]) rfl ?_
     refine wc_cond rfl (fun hb78 => ?_) (fun hb78 => ?_)
     ·
      replace hm := iteT hm hb78
      refine wc_keep [7, 6, 5, 0, 1] (S' := [_,_,_,_,_]) rfl ?_
      refine wc_seq ?_
      refine wc_region ?_
      refine wl_loadH 0 0 rfl rfl rfl (freshS_eq rfl) rfl rfl rfl (cs := [_,_,_]) rfl tS_29 tA_29 rfl rfl ?_
      refine wl_loadH 1 0 rfl rfl rfl (freshS_eq rfl) rfl rfl rfl (cs := [_,_,_]) rfl tS_29 tA_29 rfl rfl ?_
      refine wl_buildSlice rfl rfl rfl (freshS_eq rfl) rfl tE_23 tS_29 tZ_29 rfl (zs := [.int .u8 0, .int .i64 0, .string ((⟨#[]⟩ : ByteArray)), .int .u8 0, .int .i64 0, .string ((⟨#[]⟩ : ByteArray))]) (by kernel_rfl) rfl (out := [_,_,_,_,_,_]) rfl (fun g82 => ?_)
      refine wl_row (sz := 3) (m := 2) R_V ([(⟨(((v35_0 : Nat) : Int)), v35_1, (⟨#[]⟩ : ByteArray)⟩ : V), (⟨1, a1, (⟨#[]⟩ : ByteArray)⟩ : V)]) 0 rfl (fun F w hφ => ⟨[.int .u8 ((v35_0 : Nat) : Int), .int .i64 v35_1, .string ((⟨#[]⟩ : ByteArray))], [.int .u8 1, .int .i64 a1, .string ((⟨#[]⟩ : ByteArray))], rfl, rfl, ⟨(), rfl, ask_nil⟩, ⟨[.int .u8 1, .int .i64 a1, .string ((⟨#[]⟩ : ByteArray))], [], rfl, rfl, ⟨(), rfl, ask_nil⟩, rfl⟩⟩) rfl (by decide) (H' := [_,_,_,_]) rfl ?_
      obtain ⟨⟨v83_0, v83_1, v83_2⟩, hc83, hm⟩ := bindO_some hm
      try dsimp only at hm
      refine wl_call [0] [1, 2, 3] rfl rfl rfl (freshS_eq rfl) rfl rfl fn_11 rfl (w_value_Do_s N 2 (some ⟨g82, 0, none⟩) ([(⟨(((v35_0 : Nat) : Int)), v35_1, (⟨#[]⟩ : ByteArray)⟩ : V), (⟨1, a1, (⟨#[]⟩ : ByteArray)⟩ : V)].length) 2 [(⟨(((v35_0 : Nat) : Int)), v35_1, (⟨#[]⟩ : ByteArray)⟩ : V), (⟨1, a1, (⟨#[]⟩ : ByteArray)⟩ : V)] _ _ _ hc83) (fun _ _ hφ => ask [0] rfl hφ) rfl (H' := [_,_,_]) rfl ?_
      rintro _ _ _ ⟨rfl, rfl, rfl⟩
      refine wl_pure rfl rfl rfl (freshS_eq rfl) rfl ?_
      refine wl_pure rfl rfl rfl (freshS_eq rfl) rfl ?_
      refine wl_pure rfl rfl rfl (freshS_eq rfl) rfl ?_
      refine wl_alloc rfl rfl rfl (freshS_eq rfl) rfl tZ_29 rfl (fun g15 => ?_)
      refine wl_store 0 0 rfl rfl rfl rfl rfl rfl rfl tS_29 rfl rfl rfl (all' := [_,_,_]) rfl (H' := [_,_,_,_,_]) rfl ?_
      refine wl_pure rfl rfl rfl (freshS_eq rfl) rfl ?_
      refine wl_nil ?_
      refine we_then ?_
      refine wc_keep [16, 15, 7, 6, 5, 0, 1] (S' := [_,_,_,_,_,_,_]) rfl ?_
      refine wc_seq ?_
      obtain ⟨bj_3, hm, hLj_3⟩ := bindO_some hm
      unfold m_ropewalklaw01_ValueLaws_C3 at hm
      refine wc_cut (σ := Bool) (fun j_3_97 => bj_3 = j_3_97) (fun j_3_97 => [(6, .pointer (some ⟨g6, 0, none⟩)), (5, .pointer (some ⟨g5, 0, none⟩)), (0, .int .i64 a0), (1, .int .i64 a1), (97, .bool j_3_97)]) (fun j_3_97 => [tabF Tryd.prog "internal/strconv.uint64pow10" .u64 Lib.pow10Tab 1 pow10_g]) (fun j_3_97 => [.blk g6 [.int .u8 1, .int .i64 a1, .string ((⟨#[]⟩ : ByteArray))] 29, .blk g5 [.int .u8 1, .int .i64 a0, .string ((⟨#[]⟩ : ByteArray))] 29]) ?_ ?_
      ·
       refine wc_region ?_
       refine wl_pure rfl rfl rfl (freshS_eq rfl) rfl ?_
       refine wl_pure rfl rfl rfl (freshS_eq rfl) rfl ?_
       refine wl_as (d := 87) (v' := .bool (v83_2 != 0)) (S' := [_,_,_,_,_,_,_,_]) rfl rfl (natne (a := v83_2) (b := 0)) ?_
       refine wl_pure rfl rfl rfl (freshS_eq rfl) rfl ?_
       refine wl_split (d := 88) (S' := [_,_,_,_,_,_,_,_,_]) rfl rfl (fun hs88 => ?_) (fun hs88 => ?_)
       ·
        replace hm := iteT hm hs88
        refine wl_off rfl rfl rfl (freshS_eq rfl) ?_
        refine wl_off rfl rfl rfl (freshS_eq rfl) ?_
        refine wl_off rfl rfl rfl (freshS_eq rfl) ?_
        refine wl_pure rfl rfl rfl (freshS_eq rfl) rfl ?_
        refine wl_pure rfl rfl rfl (freshS_eq rfl) rfl ?_
        refine wl_off rfl rfl rfl (freshS_eq rfl) ?_
        refine wl_off rfl rfl rfl (freshS_eq rfl) ?_
        refine wl_off rfl rfl rfl (freshS_eq rfl) ?_
        refine wl_pure rfl rfl rfl (freshS_eq rfl) rfl ?_
        refine wl_nil ?_
        have hE := (Option.some.inj hm).symm
        refine we_pick [3, 4] rfl (H' := [_,_]) rfl ?_
        refine we_join true hE [6, 5, 0, 1, 97] rfl (fun _ _ hφ => ask [0] rfl hφ) rfl
       ·
        replace hm := iteF hm hs88
        refine wl_loadH 0 0 rfl rfl rfl (freshS_eq rfl) rfl rfl rfl (cs := [_,_,_]) rfl tS_29 tA_29 rfl rfl ?_
        refine wl_loadH 4 0 rfl rfl rfl (freshS_eq rfl) rfl rfl rfl (cs := [_,_,_]) rfl tS_29 tA_29 rfl rfl ?_
        refine wl_bin rfl rfl rfl (freshS_eq rfl) rfl rfl rfl (neqV _ _ (⟨((v83_0 : Nat) : Int), v83_1, (⟨#[]⟩ : ByteArray)⟩ : V) (⟨1, a0, (⟨#[]⟩ : ByteArray)⟩ : V)) ?_
        refine wl_pure rfl rfl rfl (freshS_eq rfl) rfl ?_
        refine wl_pure rfl rfl rfl (freshS_eq rfl) rfl ?_
        refine wl_split (d := 93) (S' := [_,_,_,_,_,_,_,_,_,_,_,_,_,_]) rfl rfl (fun hs93 => ?_) (fun hs93 => ?_)
        ·
         replace hm := iteT hm hs93
         refine wl_off rfl rfl rfl (freshS_eq rfl) ?_
         refine wl_off rfl rfl rfl (freshS_eq rfl) ?_
         refine wl_off rfl rfl rfl (freshS_eq rfl) ?_
         refine wl_pure rfl rfl rfl (freshS_eq rfl) rfl ?_
         refine wl_nil ?_
         have hE := (Option.some.inj hm).symm
         refine we_pick [3, 4] rfl (H' := [_,_]) rfl ?_
         refine we_join true hE [6, 5, 0, 1, 97] rfl (fun _ _ hφ => ask [0] rfl hφ) rfl
        ·
         replace hm := iteF hm hs93
         refine wl_loadH 2 0 rfl rfl rfl (freshS_eq rfl) rfl rfl rfl (cs := [_,_,_]) rfl tS_29 tA_29 rfl rfl ?_
         obtain ⟨v95, hc95, hm⟩ := bindO_some hm
         refine wl_call [] [0, 1, 2, 3, 4] rfl rfl rfl (freshS_eq rfl) rfl rfl fn_15 rfl (w_value_Right_s N ((v35_0 : Nat) : Int) v35_1 (⟨#[]⟩ : ByteArray) _ hc95) (fun _ _ hφ => ask [0] rfl hφ) rfl (H' := [_,_,_,_,_]) rfl ?_
         rintro _ _ _ ⟨rfl, rfl, rfl⟩
         refine wl_pure rfl rfl rfl (freshS_eq rfl) rfl ?_
         refine wl_pure rfl rfl rfl (freshS_eq rfl) rfl ?_
         refine wl_nil ?_
         have hE := (Option.some.inj hm).symm
         refine we_pick [3, 4] rfl (H' := [_,_]) rfl ?_
         refine we_join (!v95) hE [6, 5, 0, 1, 97] rfl (fun _ _ hφ => ask [0] rfl hφ) rfl
      ·
       rintro j_3_97 hE
       try dsimp only
       have hm := hLj_3
       rw [hE] at hm
       refine wc_cond rfl (fun hb97 => ?_) (fun hb97 => ?_)
       ·
        replace hm := iteT hm hb97
        refine wc_keep [] (S' := []) rfl ?_
        refine wc_seq ?_
        refine wc_region ?_
        refine wl_pure rfl rfl rfl (freshS_eq rfl) rfl ?_
        refine wl_nil ?_
        refine we_then ?_
        refine wc_ret ?_
        refine we_then_ret ?_
        have hE := (Option.some.inj hm).symm
        replace hE := link_inr hLj_2 hE
        replace hE := hE.symm
        subst hE
        refine ret_one (Hr := []) [] Tryd.results5 (res_tmp rfl) ⟨rfl, rfl, rfl⟩ (fun _ _ hφ => ask [] rfl hφ) rfl rfl (.inl rfl)
       ·
        replace hm := iteF hm hb97
        refine wc_keep [6, 5, 0, 1] (S' := [_,_,_,_]) rfl ?_
        refine wc_skip ?_
        have hE := (Option.some.inj hm).symm
        refine we_join () hE [6, 5, 0, 1] rfl (fun _ _ hφ => ask [0] rfl hφ) rfl
     ·
      replace hm := iteF hm hb78
      refine wc_keep [6, 5, 0, 1] (S' := [_,_,_,_]) rfl ?_
      refine wc_skip ?_
      have hE := (Option.some.inj hm).symm
      refine we_pick [1, 2] rfl (H' := [_,_]) rfl ?_
      refine we_join () hE [6, 5, 0, 1] rfl (fun _ _ hφ => ask [0] rfl hφ) rfl
    ·
     rintro _ hE
     try dsimp only
     have hm := link_inl hLj_2 hE
     try dsimp only at hm
     refine wc_seq ?_
     refine wc_region ?_
     refine wl_loadH 1 0 rfl rfl rfl (freshS_eq rfl) rfl rfl rfl (cs := [_,_,_]) rfl tS_29 tA_29 rfl rfl ?_
     refine wl_buildSlice rfl rfl rfl (freshS_eq rfl) rfl tE_23 tS_29 tZ_29 rfl (zs := [.int .u8 0, .int .i64 0, .string ((⟨#[]⟩ : ByteArray))]) (by kernel_rfl) rfl (out := [_,_,_]) rfl (fun g100 => ?_)
     refine wl_row (sz := 3) (m := 1) R_V ([(⟨1, a0, (⟨#[]⟩ : ByteArray)⟩ : V)]) 0 rfl (fun F w hφ => ⟨[.int .u8 1, .int .i64 a0, .string ((⟨#[]⟩ : ByteArray))], [], rfl, rfl, ⟨(), rfl, ask_nil⟩, rfl⟩) rfl (by decide) (H' := [_,_,_]) rfl ?_
     obtain ⟨⟨v101_0, v101_1, v101_2⟩, hc101, hm⟩ := bindO_some hm
     try dsimp only at hm
     refine wl_call [0] [1, 2] rfl rfl rfl (freshS_eq rfl) rfl rfl fn_11 rfl (w_value_Do_s N 4 (some ⟨g100, 0, none⟩) ([(⟨1, a0, (⟨#[]⟩ : ByteArray)⟩ : V)].length) 1 [(⟨1, a0, (⟨#[]⟩ : ByteArray)⟩ : V)] _ _ _ hc101) (fun _ _ hφ => ask [0] rfl hφ) rfl (H' := [_,_]) rfl ?_
     rintro _ _ _ ⟨rfl, rfl, rfl⟩
     refine wl_pure rfl rfl rfl (freshS_eq rfl) rfl ?_
     refine wl_pure rfl rfl rfl (freshS_eq rfl) rfl ?_
     refine wl_pure rfl rfl rfl (freshS_eq rfl) rfl ?_
     refine wl_alloc rfl rfl rfl (freshS_eq rfl) rfl tZ_29 rfl (fun g17 => ?_)
     refine wl_store 0 0 rfl rfl rfl rfl rfl rfl rfl tS_29 rfl rfl rfl (all' := [_,_,_]) rfl (H' := [_,_,_,_]) rfl ?_
     refine wl_pure rfl rfl rfl (freshS_eq rfl) rfl ?_
     refine wl_nil ?_
     refine we_then ?_
     refine wc_keep [18, 17, 6, 5, 0, 1] (S' := [_,_,_,_,_,_]) rfl ?_
     refine wc_seq ?_
     obtain ⟨bj_4, hm, hLj_4⟩ := bindS_some hm
     unfold m_ropewalklaw01_ValueLaws_C4 at hm
     refine wc_cut (σ := Unit) (fun _ => bj_4 = .inl ()) (fun _ => [(6, .pointer (some ⟨g6, 0, none⟩)), (5, .pointer (some ⟨g5, 0, none⟩)), (0, .int .i64 a0), (1, .int .i64 a1)]) (fun _ => [tabF Tryd.prog "internal/strconv.uint64pow10" .u64 Lib.pow10Tab 1 pow10_g]) (fun _ => [.blk g6 [.int .u8 1, .int .i64 a1, .string ((⟨#[]⟩ : ByteArray))] 29, .blk g5 [.int .u8 1, .int .i64 a0, .string ((⟨#[]⟩ : ByteArray))] 29]) ?_ ?_
     ·
      refine wc_seq ?_
      refine wc_region ?_
      refine wl_pure rfl rfl rfl (freshS_eq rfl) rfl ?_
      refine wl_pure rfl rfl rfl (freshS_eq rfl) rfl ?_
      refine wl_as (d := 105) (v' := .bool (v101_2 == 0)) (S' := [_,_,_,_,_,_,_]) rfl rfl (nateq (a := v101_2) (b := 0)) ?_
      refine wl_nil ?_
      refine we_then ?_
      refine wc_keep [105, 17, 6, 5, 0, 1] (S' := [_,_,_,_,_,_]) rfl ?_
      refine wc_cond rfl (fun hb105 => ?_) (fun hb105 => ?_)
      ·
       replace hm := iteT hm hb105
       refine wc_keep [17, 6, 5, 0, 1] (S' := [_,_,_,_,_]) rfl ?_
       refine wc_seq ?_
       refine wc_region ?_
       refine wl_loadH 0 0 rfl rfl rfl (freshS_eq rfl) rfl rfl rfl (cs := [_,_,_]) rfl tS_29 tA_29 rfl rfl ?_
       refine wl_buildSlice rfl rfl rfl (freshS_eq rfl) rfl tE_23 tS_29 tZ_29 rfl (zs := [.int .u8 0, .int .i64 0, .string ((⟨#[]⟩ : ByteArray))]) (by kernel_rfl) rfl (out := [_,_,_]) rfl (fun g108 => ?_)
       refine wl_row (sz := 3) (m := 1) R_V ([(⟨(((v101_0 : Nat) : Int)), v101_1, (⟨#[]⟩ : ByteArray)⟩ : V)]) 0 rfl (fun F w hφ => ⟨[.int .u8 ((v101_0 : Nat) : Int), .int .i64 v101_1, .string ((⟨#[]⟩ : ByteArray))], [], rfl, rfl, ⟨(), rfl, ask_nil⟩, rfl⟩) rfl (by decide) (H' := [_,_,_,_,_]) rfl ?_
       obtain ⟨⟨v109_0, v109_1, v109_2⟩, hc109, hm⟩ := bindO_some hm
       try dsimp only at hm
       refine wl_call [0] [1, 2, 3, 4] rfl rfl rfl (freshS_eq rfl) rfl rfl fn_11 rfl (w_value_Do_s N 4 (some ⟨g108, 0, none⟩) ([(⟨(((v101_0 : Nat) : Int)), v101_1, (⟨#[]⟩ : ByteArray)⟩ : V)].length) 1 [(⟨(((v101_0 : Nat) : Int)), v101_1, (⟨#[]⟩ : ByteArray)⟩ : V)] _ _ _ hc109) (fun _ _ hφ => ask [0] rfl hφ) rfl (H' := [_,_,_,_]) rfl ?_
       rintro _ _ _ ⟨rfl, rfl, rfl⟩
       refine wl_pure rfl rfl rfl (freshS_eq rfl) rfl ?_
       refine wl_pure rfl rfl rfl (freshS_eq rfl) rfl ?_
       refine wl_pure rfl rfl rfl (freshS_eq rfl) rfl ?_
       refine wl_alloc rfl rfl rfl (freshS_eq rfl) rfl tZ_29 rfl (fun g19 => ?_)
       refine wl_store 0 0 rfl rfl rfl rfl rfl rfl rfl tS_29 rfl rfl rfl (all' := [_,_,_]) rfl (H' := [_,_,_,_,_,_]) rfl ?_
       refine wl_pure rfl rfl rfl (freshS_eq rfl) rfl ?_
       refine wl_nil ?_
       refine we_then ?_
       refine wc_keep [20, 19, 6, 5, 0, 1] (S' := [_,_,_,_,_,_]) rfl ?_
       refine wc_seq ?_
       obtain ⟨bj_5, hm, hLj_5⟩ := bindO_some hm
       refine wc_cut (σ := Bool) (fun j_5_118 => bj_5 = j_5_118) (fun j_5_118 => [(6, .pointer (some ⟨g6, 0, none⟩)), (5, .pointer (some ⟨g5, 0, none⟩)), (0, .int .i64 a0), (1, .int .i64 a1), (118, .bool j_5_118)]) (fun j_5_118 => [tabF Tryd.prog "internal/strconv.uint64pow10" .u64 Lib.pow10Tab 1 pow10_g]) (fun j_5_118 => [.blk g6 [.int .u8 1, .int .i64 a1, .string ((⟨#[]⟩ : ByteArray))] 29, .blk g5 [.int .u8 1, .int .i64 a0, .string ((⟨#[]⟩ : ByteArray))] 29]) ?_ ?_
       ·
        refine wc_region ?_
        refine wl_pure rfl rfl rfl (freshS_eq rfl) rfl ?_
        refine wl_pure rfl rfl rfl (freshS_eq rfl) rfl ?_
        refine wl_as (d := 113) (v' := .bool (v109_2 != 0)) (S' := [_,_,_,_,_,_,_]) rfl rfl (natne (a := v109_2) (b := 0)) ?_
        refine wl_pure rfl rfl rfl (freshS_eq rfl) rfl ?_
        refine wl_split (d := 114) (S' := [_,_,_,_,_,_,_,_]) rfl rfl (fun hs114 => ?_) (fun hs114 => ?_)
        ·
         replace hm := iteT hm hs114
         refine wl_off rfl rfl rfl (freshS_eq rfl) ?_
         refine wl_off rfl rfl rfl (freshS_eq rfl) ?_
         refine wl_off rfl rfl rfl (freshS_eq rfl) ?_
         refine wl_pure rfl rfl rfl (freshS_eq rfl) rfl ?_
         refine wl_nil ?_
         have hE := (Option.some.inj hm).symm
         refine we_pick [4, 5] rfl (H' := [_,_]) rfl ?_
         refine we_join true hE [6, 5, 0, 1, 118] rfl (fun _ _ hφ => ask [0] rfl hφ) rfl
        ·
         replace hm := iteF hm hs114
         refine wl_loadH 0 0 rfl rfl rfl (freshS_eq rfl) rfl rfl rfl (cs := [_,_,_]) rfl tS_29 tA_29 rfl rfl ?_
         refine wl_loadH 5 0 rfl rfl rfl (freshS_eq rfl) rfl rfl rfl (cs := [_,_,_]) rfl tS_29 tA_29 rfl rfl ?_
         refine wl_bin rfl rfl rfl (freshS_eq rfl) rfl rfl rfl (neqV _ _ (⟨((v109_0 : Nat) : Int), v109_1, (⟨#[]⟩ : ByteArray)⟩ : V) (⟨1, a0, (⟨#[]⟩ : ByteArray)⟩ : V)) ?_
         refine wl_pure rfl rfl rfl (freshS_eq rfl) rfl ?_
         refine wl_nil ?_
         have hE := (Option.some.inj hm).symm
         refine we_pick [4, 5] rfl (H' := [_,_]) rfl ?_
         refine we_join (!decide ((⟨((v109_0 : Nat) : Int), v109_1, (⟨#[]⟩ : ByteArray)⟩ : V) = (⟨1, a0, (⟨#[]⟩ : ByteArray)⟩ : V))) hE [6, 5, 0, 1, 118] rfl (fun _ _ hφ => ask [0] rfl hφ) rfl
       ·
        rintro j_5_118 hE
        try dsimp only
        have hm := hLj_5
        rw [hE] at hm
        refine wc_cond rfl (fun hb118 => ?_) (fun hb118 => ?_)
        ·
         replace hm := iteT hm hb118
         refine wc_keep [] (S' := []) rfl ?_
         refine wc_seq ?_
         refine wc_region ?_
         refine wl_pure rfl rfl rfl (freshS_eq rfl) rfl ?_
         refine wl_nil ?_
         refine we_then ?_
         refine wc_ret ?_
         refine we_then_ret ?_
         have hE := (Option.some.inj hm).symm
         replace hE := link_inr hLj_4 hE
         replace hE := hE.symm
         subst hE
         refine ret_one (Hr := []) [] Tryd.results5 (res_tmp rfl) ⟨rfl, rfl, rfl⟩ (fun _ _ hφ => ask [] rfl hφ) rfl rfl (.inl rfl)
        ·
         replace hm := iteF hm hb118
         refine wc_keep [6, 5, 0, 1] (S' := [_,_,_,_]) rfl ?_
         refine wc_skip ?_
         have hE := (Option.some.inj hm).symm
         refine we_join () hE [6, 5, 0, 1] rfl (fun _ _ hφ => ask [0] rfl hφ) rfl
      ·
       replace hm := iteF hm hb105
       refine wc_keep [6, 5, 0, 1] (S' := [_,_,_,_]) rfl ?_
       refine wc_skip ?_
       have hE := (Option.some.inj hm).symm
       refine we_pick [2, 3] rfl (H' := [_,_]) rfl ?_
       refine we_join () hE [6, 5, 0, 1] rfl (fun _ _ hφ => ask [0] rfl hφ) rfl
     ·
      rintro _ hE
      try dsimp only
      have hm := link_inl hLj_4 hE
      try dsimp only at hm
      refine wc_seq ?_
      refine wc_region ?_
      refine wl_loadH 1 0 rfl rfl rfl (freshS_eq rfl) rfl rfl rfl (cs := [_,_,_]) rfl tS_29 tA_29 rfl rfl ?_
      refine wl_loadH 0 0 rfl rfl rfl (freshS_eq rfl) rfl rfl rfl (cs := [_,_,_]) rfl tS_29 tA_29 rfl rfl ?_
      refine wl_buildSlice rfl rfl rfl (freshS_eq rfl) rfl tE_23 tS_29 tZ_29 rfl (zs := [.int .u8 0, .int .i64 0, .string ((⟨#[]⟩ : ByteArray)), .int .u8 0, .int .i64 0, .string ((⟨#[]⟩ : ByteArray))]) (by kernel_rfl) rfl (out := [_,_,_,_,_,_]) rfl (fun g122 => ?_)
      refine wl_row (sz := 3) (m := 2) R_V ([(⟨1, a0, (⟨#[]⟩ : ByteArray)⟩ : V), (⟨1, a1, (⟨#[]⟩ : ByteArray)⟩ : V)]) 0 rfl (fun F w hφ => ⟨[.int .u8 1, .int .i64 a0, .string ((⟨#[]⟩ : ByteArray))], [.int .u8 1, .int .i64 a1, .string ((⟨#[]⟩ : ByteArray))], rfl, rfl, ⟨(), rfl, ask_nil⟩, ⟨[.int .u8 1, .int .i64 a1, .string ((⟨#[]⟩ : ByteArray))], [], rfl, rfl, ⟨(), rfl, ask_nil⟩, rfl⟩⟩) rfl (by decide) (H' := [_,_,_]) rfl ?_
      obtain ⟨⟨v123_0, v123_1, v123_2⟩, hc123, hm⟩ := bindO_some hm
      try dsimp only at hm
      refine wl_call [0] [1, 2] rfl rfl rfl (freshS_eq rfl) rfl rfl fn_11 rfl (w_value_Do_s N 7 (some ⟨g122, 0, none⟩) ([(⟨1, a0, (⟨#[]⟩ : ByteArray)⟩ : V), (⟨1, a1, (⟨#[]⟩ : ByteArray)⟩ : V)].length) 2 [(⟨1, a0, (⟨#[]⟩ : ByteArray)⟩ : V), (⟨1, a1, (⟨#[]⟩ : ByteArray)⟩ : V)] _ _ _ hc123) (fun _ _ hφ => ask [0] rfl hφ) rfl (H' := [_,_]) rfl ?_
      rintro _ _ _ ⟨rfl, rfl, rfl⟩
      refine wl_pure rfl rfl rfl (freshS_eq rfl) rfl ?_
      refine wl_pure rfl rfl rfl (freshS_eq rfl) rfl ?_
      refine wl_pure rfl rfl rfl (freshS_eq rfl) rfl ?_
      refine wl_alloc rfl rfl rfl (freshS_eq rfl) rfl tZ_29 rfl (fun g21 => ?_)
      refine wl_store 0 0 rfl rfl rfl rfl rfl rfl rfl tS_29 rfl rfl rfl (all' := [_,_,_]) rfl (H' := [_,_,_,_]) rfl ?_
      refine wl_pure rfl rfl rfl (freshS_eq rfl) rfl ?_
      refine wl_nil ?_
      refine we_then ?_
      refine wc_keep [21, 6, 5, 0, 1] (S' := [_,_,_,_,_]) rfl ?_
      refine wc_seq ?_
      refine wc_region ?_
      refine wl_loadH 2 0 rfl rfl rfl (freshS_eq rfl) rfl rfl rfl (cs := [_,_,_]) rfl tS_29 tA_29 rfl rfl ?_
      refine wl_loadH 3 0 rfl rfl rfl (freshS_eq rfl) rfl rfl rfl (cs := [_,_,_]) rfl tS_29 tA_29 rfl rfl ?_
      refine wl_buildSlice rfl rfl rfl (freshS_eq rfl) rfl tE_23 tS_29 tZ_29 rfl (zs := [.int .u8 0, .int .i64 0, .string ((⟨#[]⟩ : ByteArray)), .int .u8 0, .int .i64 0, .string ((⟨#[]⟩ : ByteArray))]) (by kernel_rfl) rfl (out := [_,_,_,_,_,_]) rfl (fun g129 => ?_)
      refine wl_row (sz := 3) (m := 2) R_V ([(⟨1, a1, (⟨#[]⟩ : ByteArray)⟩ : V), (⟨1, a0, (⟨#[]⟩ : ByteArray)⟩ : V)]) 0 rfl (fun F w hφ => ⟨[.int .u8 1, .int .i64 a1, .string ((⟨#[]⟩ : ByteArray))], [.int .u8 1, .int .i64 a0, .string ((⟨#[]⟩ : ByteArray))], rfl, rfl, ⟨(), rfl, ask_nil⟩, ⟨[.int .u8 1, .int .i64 a0, .string ((⟨#[]⟩ : ByteArray))], [], rfl, rfl, ⟨(), rfl, ask_nil⟩, rfl⟩⟩) rfl (by decide) (H' := [_,_,_,_,_]) rfl ?_
      obtain ⟨⟨v130_0, v130_1, v130_2⟩, hc130, hm⟩ := bindO_some hm
      try dsimp only at hm
      refine wl_call [0] [1, 2, 3, 4] rfl rfl rfl (freshS_eq rfl) rfl rfl fn_11 rfl (w_value_Do_s N 8 (some ⟨g129, 0, none⟩) ([(⟨1, a1, (⟨#[]⟩ : ByteArray)⟩ : V), (⟨1, a0, (⟨#[]⟩ : ByteArray)⟩ : V)].length) 2 [(⟨1, a1, (⟨#[]⟩ : ByteArray)⟩ : V), (⟨1, a0, (⟨#[]⟩ : ByteArray)⟩ : V)] _ _ _ hc130) (fun _ _ hφ => ask [0] rfl hφ) rfl (H' := [_,_,_,_]) rfl ?_
      rintro _ _ _ ⟨rfl, rfl, rfl⟩
      refine wl_pure rfl rfl rfl (freshS_eq rfl) rfl ?_
      refine wl_pure rfl rfl rfl (freshS_eq rfl) rfl ?_
      refine wl_pure rfl rfl rfl (freshS_eq rfl) rfl ?_
      refine wl_alloc rfl rfl rfl (freshS_eq rfl) rfl tZ_29 rfl (fun g23 => ?_)
      refine wl_store 0 0 rfl rfl rfl rfl rfl rfl rfl tS_29 rfl rfl rfl (all' := [_,_,_]) rfl (H' := [_,_,_,_,_,_]) rfl ?_
      refine wl_pure rfl rfl rfl (freshS_eq rfl) rfl ?_
      refine wl_nil ?_
      refine we_then ?_
      refine wc_keep [23, 21, 0, 1] (S' := [_,_,_,_]) rfl ?_
      refine wc_seq ?_
      refine wc_region ?_
      refine wl_fieldAddr rfl rfl rfl (freshS_eq rfl) rfl rfl tF_29_1 ?_
      refine wl_loadH 2 1 rfl rfl rfl (freshS_eq rfl) rfl rfl rfl (cs := [_]) rfl tS_2 tA_2 rfl rfl ?_
      refine wl_fieldAddr rfl rfl rfl (freshS_eq rfl) rfl rfl tF_29_1 ?_
      refine wl_loadH 0 1 rfl rfl rfl (freshS_eq rfl) rfl rfl rfl (cs := [_]) rfl tS_2 tA_2 rfl rfl ?_
      refine wl_pure rfl rfl rfl (freshS_eq rfl) rfl ?_
      obtain ⟨hg137, hm⟩ := gd_some hm
      refine wl_as (d := 137) (v' := .int .i64 (v123_1 + v130_1)) (S' := [_,_,_,_,_,_,_,_]) rfl rfl (i64_in hg137) ?_
      refine wl_pure rfl rfl rfl (freshS_eq rfl) rfl ?_
      refine wl_pure rfl rfl rfl (freshS_eq rfl) rfl ?_
      refine wl_split (d := 139) (S' := [_,_,_,_,_,_,_,_,_,_]) rfl rfl (fun hs139 => ?_) (fun hs139 => ?_)
      ·
       replace hm := iteT hm hs139
       refine wl_fieldAddr rfl rfl rfl (freshS_eq rfl) rfl rfl tF_29_1 ?_
       refine wl_loadH 2 1 rfl rfl rfl (freshS_eq rfl) rfl rfl rfl (cs := [_]) rfl tS_2 tA_2 rfl rfl ?_
       refine wl_pure rfl rfl rfl (freshS_eq rfl) rfl ?_
       refine wl_pure rfl rfl rfl (freshS_eq rfl) rfl ?_
       refine wl_pure rfl rfl rfl (freshS_eq rfl) rfl ?_
       refine wl_pure rfl rfl rfl (freshS_eq rfl) rfl ?_
       refine wl_bin rfl rfl rfl (freshS_eq rfl) rfl rfl rfl (eqlB _ _ (v123_1 == 1) (decide (a0 < a1))) ?_
       refine wl_pure rfl rfl rfl (freshS_eq rfl) rfl ?_
       refine wl_pure rfl rfl rfl (freshS_eq rfl) rfl ?_
       refine wl_nil ?_
       refine we_then ?_
       refine wc_keep [4] (S' := [_]) rfl ?_
       refine wc_ret ?_
       have hE := (Option.some.inj hm).symm
       replace hE := hE.symm
       subst hE
       refine ret_one (Hr := []) [] Tryd.results5 (res_tmp rfl) ⟨rfl, rfl, rfl⟩ (fun _ _ hφ => ask [] rfl hφ) rfl rfl (.inl rfl)
      ·
       replace hm := iteF hm hs139
       refine wl_off rfl rfl rfl (freshS_eq rfl) ?_
       refine wl_off rfl rfl rfl (freshS_eq rfl) ?_
       refine wl_off rfl rfl rfl (freshS_eq rfl) ?_
       refine wl_off rfl rfl rfl (freshS_eq rfl) ?_
       refine wl_off rfl rfl rfl (freshS_eq rfl) ?_
       refine wl_off rfl rfl rfl (freshS_eq rfl) ?_
       refine wl_off rfl rfl rfl (freshS_eq rfl) ?_
       refine wl_pure rfl rfl rfl (freshS_eq rfl) rfl ?_
       refine wl_pure rfl rfl rfl (freshS_eq rfl) rfl ?_
       refine wl_nil ?_
       refine we_then ?_
       refine wc_keep [4] (S' := [_]) rfl ?_
       refine wc_ret ?_
       have hE := (Option.some.inj hm).symm
       replace hE := hE.symm
       subst hE
       refine ret_one (Hr := []) [] Tryd.results5 (res_tmp rfl) ⟨rfl, rfl, rfl⟩ (fun _ _ hφ => ask [] rfl hφ) rfl rfl (.inl rfl)
set_option maxRecDepth 100000 in
set_option maxHeartbeats 4000000 in
theorem w_ropewalklaw01_light_s (N : Nat) (qp0 : Option Addr) (qn1 : Nat) (qc2 : Nat) (l0 : List V) (o0 : Bool) (hm : m_ropewalklaw01_light N l0 = some o0) : Spec Tryd.prog 9 [.slice qp0 qn1 qc2] [tabF Tryd.prog "internal/strconv.uint64pow10" .u64 Lib.pow10Tab 1 pow10_g] [.own 29 3 R_V (.slice qp0 qn1 qc2) l0] (fun v Φr Hr => v = .bool o0 ∧ Φr = [] ∧ Hr = [.own 29 3 R_V (.slice qp0 qn1 qc2) l0]) := by
 unfold m_ropewalklaw01_light at hm
 refine spec_of Tryd.func9 rfl Tryd.ntmps9 rfl (S := [_]) rfl (fun C => ?_)
 refine wc_seq ?_
 refine wc_region ?_
 refine wl_pure rfl rfl rfl (freshS_eq rfl) rfl ?_
 refine wl_nil ?_
 refine we_then ?_
 refine wc_keep [0] (S' := [_]) rfl ?_
 refine wc_seq ?_
 obtain ⟨bj_1, hm, hLj_1⟩ := bindS_some hm
 refine wc_cut (σ := Unit) (fun _ => bj_1 = .inl ()) (fun _ => [(0, .slice qp0 qn1 qc2)]) (fun _ => [tabF Tryd.prog "internal/strconv.uint64pow10" .u64 Lib.pow10Tab 1 pow10_g]) (fun _ => [.own 29 3 R_V (.slice qp0 qn1 qc2) l0]) ?_ ?_
 ·
  refine wc_seq ?_
  refine wc_region ?_
  refine wl_pure rfl rfl rfl (freshS_eq rfl) rfl ?_
  refine wl_nil ?_
  refine we_then ?_
  refine wc_block ?_
  refine wc_loop (σ := Nat × Nat) (fun (nu1, u1_3) => iter (m_ropewalklaw01_light_L1 N l0) nu1 u1_3 = some bj_1) (fun (nu1, u1_3) => nu1) (fun (nu1, u1_3) => [(3, .int .i64 ((u1_3 : Nat) : Int)), (0, .slice qp0 qn1 qc2)]) (fun (nu1, u1_3) => [tabF Tryd.prog "internal/strconv.uint64pow10" .u64 Lib.pow10Tab 1 pow10_g]) (fun (nu1, u1_3) => [.own 29 3 R_V (.slice qp0 qn1 qc2) l0]) (N, 0) hm [3, 0] rfl (fun _ _ hφ => ask [0] rfl hφ) rfl (fun s_ hm => ?_)
  obtain ⟨nu1, u1_3⟩ := s_
  try dsimp only at hm ⊢
  obtain ⟨mu1, bu1, hnu1, hq, hLu1⟩ := iter_some hm
  clear hm
  subst hnu1
  replace hm := hq
  clear hq
  unfold m_ropewalklaw01_light_L1 at hm
  try dsimp only at hm
  refine wc_seq ?_
  refine wc_seq ?_
  refine wc_region ?_
  refine wl_pure rfl rfl rfl (freshS_eq rfl) rfl ?_
  refine wl_pure rfl rfl rfl (freshS_eq rfl) rfl ?_
  refine wl_ownLen 0 rfl (fun hl6 _ => ?_)
  refine wl_len rfl rfl rfl (freshS_eq rfl) rfl rfl tE_23 ?_
  refine wl_as (d := 6) (v' := .int .i64 ((l0.length : Nat) : Int)) (S' := [_,_,_,_]) rfl rfl (len_is hl6) ?_
  refine wl_pure rfl rfl rfl (freshS_eq rfl) rfl ?_
  refine wl_as (d := 7) (v' := .bool (decide (u1_3 < l0.length))) (S' := [_,_,_,_,_]) rfl rfl (natlt (a := u1_3) (b := l0.length)) ?_
  refine wl_nil ?_
  refine we_then ?_
  refine wc_keep [7, 3, 0] (S' := [_,_,_]) rfl ?_
  refine wc_cond rfl (fun hb7 => ?_) (fun hb7 => ?_)
  ·
   replace hm := iteT hm hb7
   refine wc_keep [3, 0] (S' := [_,_]) rfl ?_
   refine wc_skip ?_
   refine we_then ?_
   refine wc_seq ?_
   refine wc_block ?_
   refine wc_seq ?_
   refine wc_region ?_
   refine wl_pure rfl rfl rfl (freshS_eq rfl) rfl ?_
   refine wl_pure rfl rfl rfl (freshS_eq rfl) rfl ?_
   obtain ⟨x12, hx12, hm⟩ := bindO_some hm
   refine wl_indexH 0 u1_3 rfl rfl rfl (freshS_eq rfl) rfl rfl rfl rfl rfl (get_lt hx12) tE_23 tS_29 (fun g12 eg12 => ?_)
   subst eg12
   refine wl_fieldAddr rfl rfl rfl (freshS_eq rfl) rfl rfl tF_29_2 ?_
   refine wl_loadRow R_V_opens 0 u1_3 2 rfl rfl rfl (freshS_eq rfl) rfl rfl rfl hx12 tS_9 tA_9 (v := fun _ => .string x12.s) (fun _ => rfl) (fun _ => rfl) (fun _ _ => ?_)
   refine wl_reck rfl rfl rfl (freshS_eq rfl) (rk_strLen rfl rfl tT_9) ?_
   refine wl_pure rfl rfl rfl (freshS_eq rfl) rfl ?_
   refine wl_as (d := 16) (v' := .bool (decide (300 < x12.s.size))) (S' := [_,_,_,_,_,_,_,_]) rfl rfl (natgt (a := x12.s.size) (b := 300)) ?_
   refine wl_nil ?_
   refine we_then ?_
   refine wc_keep [16, 3, 0] (S' := [_,_,_]) rfl ?_
   refine wc_cond rfl (fun hb16 => ?_) (fun hb16 => ?_)
   ·
    replace hm := iteT hm hb16
    refine wc_keep [] (S' := []) rfl ?_
    refine wc_seq ?_
    refine wc_region ?_
    refine wl_pure rfl rfl rfl (freshS_eq rfl) rfl ?_
    refine wl_nil ?_
    refine we_then ?_
    refine wc_ret ?_
    refine we_block_ret ?_
    refine we_then_ret ?_
    refine we_then_ret ?_
    refine we_block_ret ?_
    refine we_then_ret ?_
    have hE := (Option.some.inj hm).symm
    replace hE := link_inr hLu1 hE
    replace hE := link_inr hLj_1 hE
    replace hE := hE.symm
    subst hE
    refine ret_one (Hr := [_]) [0] Tryd.results9 (res_tmp rfl) ⟨rfl, rfl, rfl⟩ (fun _ _ hφ => ask [] rfl hφ) rfl rfl (.inl rfl)
   ·
    replace hm := iteF hm hb16
    refine wc_keep [3, 0] (S' := [_,_]) rfl ?_
    refine wc_skip ?_
    refine we_block_normal ?_
    refine we_then ?_
    refine wc_region ?_
    refine wl_pure rfl rfl rfl (freshS_eq rfl) rfl ?_
    refine wl_pure rfl rfl rfl (freshS_eq rfl) rfl ?_
    obtain ⟨hg9, hm⟩ := gd_some hm
    refine wl_as (d := 9) (v' := .int .i64 ((u1_3 + 1 : Nat) : Int)) (S' := [_,_,_]) rfl rfl (nat_add (a := u1_3) (b := 1) hg9) ?_
    refine wl_pure (S' := [_,_,_]) rfl rfl rfl rfl rfl ?_
    refine wl_nil ?_
    have hE := (Option.some.inj hm).symm
    replace hE := link_inl hLu1 hE
    refine we_roundK (_, u1_3 + 1) (Nat.lt_succ_self _) hE [3, 0] rfl (fun _ _ hφ => ask [0] rfl hφ) rfl
  ·
   replace hm := iteF hm hb7
   refine wc_keep [0] (S' := [_]) rfl ?_
   refine wc_exit ?_
   refine we_then_exit ?_
   refine we_then_exit ?_
   refine we_block_hit ?_
   have hE := (Option.some.inj hm).symm
   replace hE := link_inr hLu1 hE
   refine we_join () hE [0] rfl (fun _ _ hφ => ask [0] rfl hφ) rfl
 ·
  rintro _ hE
  try dsimp only
  have hm := link_inl hLj_1 hE
  try dsimp only at hm
  refine wc_seq ?_
  refine wc_region ?_
  refine wl_pure rfl rfl rfl (freshS_eq rfl) rfl ?_
  refine wl_ownLen 0 rfl (fun hl18 _ => ?_)
  refine wl_len rfl rfl rfl (freshS_eq rfl) rfl rfl tE_23 ?_
  refine wl_as (d := 18) (v' := .int .i64 ((l0.length : Nat) : Int)) (S' := [_,_]) rfl rfl (len_is hl18) ?_
  refine wl_pure rfl rfl rfl (freshS_eq rfl) rfl ?_
  refine wl_as (d := 19) (v' := .bool (decide (l0.length ≤ 20))) (S' := [_,_,_]) rfl rfl (natle (a := l0.length) (b := 20)) ?_
  refine wl_pure rfl rfl rfl (freshS_eq rfl) rfl ?_
  refine wl_nil ?_
  refine we_then ?_
  refine wc_keep [2] (S' := [_]) rfl ?_
  refine wc_ret ?_
  have hE := (Option.some.inj hm).symm
  replace hE := hE.symm
  subst hE
  refine ret_one (Hr := [_]) [0] Tryd.results9 (res_tmp rfl) ⟨rfl, rfl, rfl⟩ (fun _ _ hφ => ask [] rfl hφ) rfl rfl (.inl rfl)
end Go.Proofs.YtkddfgjefdlaeaaDoor
