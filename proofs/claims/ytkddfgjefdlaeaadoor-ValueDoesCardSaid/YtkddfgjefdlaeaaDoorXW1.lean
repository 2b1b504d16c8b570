/- Walks, printed by a program out of the loaded code. -/
import Derived.Test.YtkddfgjefdlaeaaDoorXM
import Derived.Test.YtkddfgjefdlaeaaDoorTypesP
import Derived.Test.YtkddfgjefdlaeaaDoorEq
import Derived.Test.YtkddfgjefdlaeaaDoorMapK
import Derived.Test.YtkddfgjefdlaeaaDoorStr
import Derived.Test.YtkddfgjefdlaeaaDoorView
import Derived.Test.YtkddfgjefdlaeaaDoorMapE
import Derived.Test.YtkddfgjefdlaeaaDoorText
import Derived.Test.YtkddfgjefdlaeaaDoorSh
namespace Go.Proofs.YtkddfgjefdlaeaaDoor
open Go.RowKit
theorem tM_59 : Tryd.prog.underlying 59 = some (.map 22 47) := by kernel_rfl
theorem tFT_29_1 : fldTy Tryd.prog 29 1 = some (2, 1) := by kernel_rfl
theorem tD_65 : Tryd.prog.underlying 65 = some (.slice 5) := by kernel_rfl
theorem tD_9 : Tryd.prog.underlying 9 = some .string := by kernel_rfl
theorem tD_5 : Tryd.prog.underlying 5 = some (.int .u8) := by kernel_rfl
set_option maxRecDepth 100000 in
set_option maxHeartbeats 4000000 in
theorem w_ropewalkref01_Number_s (N : Nat) (a0 : Int)  (hm : m_ropewalkref01_Number N a0 = some ()) : Spec Tryd.prog 14 [.int .i64 a0] [tabF Tryd.prog "internal/strconv.uint64pow10" .u64 Lib.pow10Tab 1 pow10_g] [] (fun v Φr Hr => v = .agg #[.int .u8 1, .int .i64 a0, .string ((⟨#[]⟩ : ByteArray))] ∧ Φr = [] ∧ Hr = []) := by
 unfold m_ropewalkref01_Number at hm
 refine spec_of Tryd.func14 rfl Tryd.ntmps14 rfl (S := [_]) rfl (fun C => ?_)
 refine wc_seq ?_
 refine wc_region ?_
 refine wl_alloc rfl rfl rfl (freshS_eq rfl) rfl tZ_29 rfl (fun g2 => ?_)
 refine wl_nil ?_
 refine we_then ?_
 refine wc_seq ?_
 refine wc_region ?_
 refine wl_pure rfl rfl rfl (freshS_eq rfl) rfl ?_
 refine wl_build rfl rfl rfl (freshS_eq rfl) rfl tZ_29 tP_29 rfl (out := [_,_,_]) rfl ?_
 refine wl_store 0 0 rfl rfl rfl rfl rfl rfl rfl tS_29 rfl rfl rfl (all' := [_,_,_]) rfl (H' := [_]) rfl ?_
 refine wl_nil ?_
 refine we_then ?_
 refine wc_keep [2] (S' := [_]) rfl ?_
 refine wc_ret ?_
 have hE := (Option.some.inj hm).symm
 refine ret_one (Hr := []) [] Tryd.results14 (res_cell 0 rfl rfl tS_29 tA_29 rfl rfl) ⟨rfl, rfl, rfl⟩ (fun _ _ hφ => ask [] rfl hφ) rfl rfl (.inl rfl)
set_option maxRecDepth 100000 in
set_option maxHeartbeats 4000000 in
theorem w_value_named_s (N : Nat) (a0 : ByteArray) (o0 : Bool) (hm : m_value_named N a0 = some o0) : Spec Tryd.prog 27 [.string a0] [tabF Tryd.prog "internal/strconv.uint64pow10" .u64 Lib.pow10Tab 1 pow10_g] [] (fun v Φr Hr => v = .bool o0 ∧ Φr = [] ∧ Hr = []) := by
 unfold m_value_named at hm
 refine spec_of Tryd.func27 rfl Tryd.ntmps27 rfl (S := [_]) rfl (fun C => ?_)
 refine wc_seq ?_
 refine wc_region ?_
 refine wl_pure rfl rfl rfl (freshS_eq rfl) rfl ?_
 refine wl_nil ?_
 refine we_then ?_
 refine wc_keep [0] (S' := [_]) rfl ?_
 refine wc_seq ?_
 obtain ⟨bj_1, hm, hLj_1⟩ := bindO_some hm
 unfold m_value_named_C1 at hm
 refine wc_cut (σ := Bool) (fun j_1_2 => bj_1 = j_1_2) (fun j_1_2 => [(2, .bool j_1_2)]) (fun j_1_2 => [tabF Tryd.prog "internal/strconv.uint64pow10" .u64 Lib.pow10Tab 1 pow10_g]) (fun j_1_2 => []) ?_ ?_
 ·
  refine wc_region ?_
  refine wl_pure rfl rfl rfl (freshS_eq rfl) rfl ?_
  refine wl_pure rfl rfl rfl (freshS_eq rfl) rfl ?_
  refine wl_pure rfl rfl rfl (freshS_eq rfl) rfl ?_
  refine wl_split (d := 5) (S' := [_,_,_]) rfl rfl (fun hs5 => ?_) (fun hs5 => ?_)
  ·
   replace hm := iteT hm hs5
   refine wl_pure rfl rfl rfl (freshS_eq rfl) rfl ?_
   refine wl_reck rfl rfl rfl (freshS_eq rfl) (rk_strLen rfl rfl tT_9) ?_
   refine wl_pure rfl rfl rfl (freshS_eq rfl) rfl ?_
   refine wl_as (d := 8) (v' := .bool (decide (a0.size ≤ 24))) (S' := [_,_,_,_,_,_]) rfl rfl (natle (a := a0.size) (b := 24)) ?_
   refine wl_pure rfl rfl rfl (freshS_eq rfl) rfl ?_
   refine wl_pure rfl rfl rfl (freshS_eq rfl) rfl ?_
   refine wl_split (d := 10) (S' := [_,_,_,_,_,_,_,_]) rfl rfl (fun hs10 => ?_) (fun hs10 => ?_)
   ·
    replace hm := iteT hm hs10
    refine wl_pure rfl rfl rfl (freshS_eq rfl) rfl ?_
    obtain ⟨x12, hx12, hm⟩ := bindO_some hm
    refine wl_reck rfl rfl rfl (freshS_eq rfl) (rk_strAt 0 rfl rfl rfl rfl hx12 tT_9) ?_
    refine wl_call [] [] rfl rfl rfl (freshS_eq rfl) rfl rfl fn_48 rfl (sh_IndexByte (⟨#[97, 98, 99, 100, 101, 102, 103, 104, 105, 106, 107, 108, 109, 110, 111, 112, 113, 114, 115, 116, 117, 118, 119, 120, 121, 122]⟩ : ByteArray) ((x12.toNat : Nat) : Int) ) (fun _ _ hφ => ask [] rfl hφ) rfl (H' := []) rfl ?_
    rintro _ _ _ ⟨rfl, rfl, rfl⟩
    refine wl_pure rfl rfl rfl (freshS_eq rfl) rfl ?_
    refine wl_pure rfl rfl rfl (freshS_eq rfl) rfl ?_
    refine wl_pure rfl rfl rfl (freshS_eq rfl) rfl ?_
    refine wl_split (d := 16) (S' := [_,_,_,_,_,_,_,_,_,_,_,_,_,_]) rfl rfl (fun hs16 => ?_) (fun hs16 => ?_)
    ·
     replace hm := iteT hm hs16
     refine wl_pure rfl rfl rfl (freshS_eq rfl) rfl ?_
     obtain ⟨hs18_0, hm⟩ := gd_some hm
     refine wl_call [] [] rfl rfl rfl (freshS_eq rfl) rfl rfl fn_49 rfl (sh_Trim a0 (⟨#[97, 98, 99, 100, 101, 102, 103, 104, 105, 106, 107, 108, 109, 110, 111, 112, 113, 114, 115, 116, 117, 118, 119, 120, 121, 122, 48, 49, 50, 51, 52, 53, 54, 55, 56, 57, 95]⟩ : ByteArray) (by decide) (ascii_of_all (by decide)) hs18_0) (fun _ _ hφ => ask [] rfl hφ) rfl (H' := []) rfl ?_
     rintro _ _ _ ⟨rfl, rfl, rfl⟩
     refine wl_pure rfl rfl rfl (freshS_eq rfl) rfl ?_
     refine wl_pure rfl rfl rfl (freshS_eq rfl) rfl ?_
     refine wl_pure rfl rfl rfl (freshS_eq rfl) rfl ?_
     refine wl_nil ?_
     have hE := (Option.some.inj hm).symm
     refine we_join ((⟨(Lib.trimS a0.data.toList (⟨#[97, 98, 99, 100, 101, 102, 103, 104, 105, 106, 107, 108, 109, 110, 111, 112, 113, 114, 115, 116, 117, 118, 119, 120, 121, 122, 48, 49, 50, 51, 52, 53, 54, 55, 56, 57, 95]⟩ : ByteArray).data.toList).toArray⟩ : ByteArray).toList == (⟨#[]⟩ : ByteArray).toList) hE [2] rfl (fun _ _ hφ => ask [0] rfl hφ) rfl
    ·
     replace hm := iteF hm hs16
     refine wl_off rfl rfl rfl (freshS_eq rfl) ?_
     refine wl_off rfl rfl rfl (freshS_eq rfl) ?_
     refine wl_off rfl rfl rfl (freshS_eq rfl) ?_
     refine wl_pure rfl rfl rfl (freshS_eq rfl) rfl ?_
     refine wl_pure rfl rfl rfl (freshS_eq rfl) rfl ?_
     refine wl_nil ?_
     have hE := (Option.some.inj hm).symm
     refine we_join false hE [2] rfl (fun _ _ hφ => ask [0] rfl hφ) rfl
   ·
    replace hm := iteF hm hs10
    refine wl_off rfl rfl rfl (freshS_eq rfl) ?_
    refine wl_off rfl rfl rfl (freshS_eq rfl) ?_
    refine wl_off rfl rfl rfl (freshS_eq rfl) ?_
    refine wl_off rfl rfl rfl (freshS_eq rfl) ?_
    refine wl_pure rfl rfl rfl (freshS_eq rfl) rfl ?_
    refine wl_pure rfl rfl rfl (freshS_eq rfl) rfl ?_
    refine wl_off rfl rfl rfl (freshS_eq rfl) ?_
    refine wl_off rfl rfl rfl (freshS_eq rfl) ?_
    refine wl_off rfl rfl rfl (freshS_eq rfl) ?_
    refine wl_pure rfl rfl rfl (freshS_eq rfl) rfl ?_
    refine wl_pure rfl rfl rfl (freshS_eq rfl) rfl ?_
    refine wl_nil ?_
    have hE := (Option.some.inj hm).symm
    refine we_join false hE [2] rfl (fun _ _ hφ => ask [0] rfl hφ) rfl
  ·
   replace hm := iteF hm hs5
   refine wl_off rfl rfl rfl (freshS_eq rfl) ?_
   refine wl_off rfl rfl rfl (freshS_eq rfl) ?_
   refine wl_off rfl rfl rfl (freshS_eq rfl) ?_
   refine wl_pure rfl rfl rfl (freshS_eq rfl) rfl ?_
   refine wl_pure rfl rfl rfl (freshS_eq rfl) rfl ?_
   refine wl_off rfl rfl rfl (freshS_eq rfl) ?_
   refine wl_off rfl rfl rfl (freshS_eq rfl) ?_
   refine wl_off rfl rfl rfl (freshS_eq rfl) ?_
   refine wl_off rfl rfl rfl (freshS_eq rfl) ?_
   refine wl_pure rfl rfl rfl (freshS_eq rfl) rfl ?_
   refine wl_pure rfl rfl rfl (freshS_eq rfl) rfl ?_
   refine wl_off rfl rfl rfl (freshS_eq rfl) ?_
   refine wl_off rfl rfl rfl (freshS_eq rfl) ?_
   refine wl_off rfl rfl rfl (freshS_eq rfl) ?_
   refine wl_pure rfl rfl rfl (freshS_eq rfl) rfl ?_
   refine wl_pure rfl rfl rfl (freshS_eq rfl) rfl ?_
   refine wl_nil ?_
   have hE := (Option.some.inj hm).symm
   refine we_join false hE [2] rfl (fun _ _ hφ => ask [0] rfl hφ) rfl
 ·
  rintro j_1_2 hE
  try dsimp only
  have hm := hLj_1
  rw [hE] at hm
  refine wc_ret ?_
  have hE := (Option.some.inj hm).symm
  replace hE := hE.symm
  subst hE
  refine ret_one (Hr := []) [] Tryd.results27 (res_tmp rfl) ⟨rfl, rfl, rfl⟩ (fun _ _ hφ => ask [] rfl hφ) rfl rfl (.inl rfl)
set_option maxRecDepth 100000 in
set_option maxHeartbeats 4000000 in
theorem w_value_Right_s (N : Nat) (a0 : Int) (a1 : Int) (a2 : ByteArray) (o0 : Bool) (hm : m_value_Right N a0 a1 a2 = some o0) : Spec Tryd.prog 15 [.agg #[.int .u8 a0, .int .i64 a1, .string a2]] [tabF Tryd.prog "internal/strconv.uint64pow10" .u64 Lib.pow10Tab 1 pow10_g] [] (fun v Φr Hr => v = .bool o0 ∧ Φr = [] ∧ Hr = []) := by
 unfold m_value_Right at hm
 refine spec_of Tryd.func15 rfl Tryd.ntmps15 rfl (S := [_]) rfl (fun C => ?_)
 refine wc_seq ?_
 refine wc_region ?_
 refine wl_box rfl rfl rfl (freshS_eq rfl) rfl rfl rfl (fun g1 => ?_)
 refine wl_pure rfl rfl rfl (freshS_eq rfl) rfl ?_
 refine wl_nil ?_
 refine we_then ?_
 refine wc_keep [1] (S' := [_]) rfl ?_
 refine wc_seq ?_
 refine wc_seq ?_
 refine wc_region ?_
 refine wl_fieldAddr rfl rfl rfl (freshS_eq rfl) rfl rfl tF_29_0 ?_
 refine wl_loadH 0 0 rfl rfl rfl (freshS_eq rfl) rfl rfl rfl (cs := [_]) rfl tS_27 tA_27 rfl rfl ?_
 refine wl_nil ?_
 refine we_then ?_
 refine wc_keep [4, 1] (S' := [_,_]) rfl ?_
 refine wc_block ?_
 refine wc_seq ?_
 refine wc_region ?_
 refine wl_pure rfl rfl rfl (freshS_eq rfl) rfl ?_
 refine wl_pure rfl rfl rfl (freshS_eq rfl) rfl ?_
 refine wl_nil ?_
 refine we_then ?_
 refine wc_keep [5, 4, 1] (S' := [_,_,_]) rfl ?_
 refine wc_cond rfl (fun hb5 => ?_) (fun hb5 => ?_)
 ·
  replace hm := iteT hm hb5
  refine wc_keep [1] (S' := [_]) rfl ?_
  refine wc_seq ?_
  refine wc_region ?_
  refine wl_fieldAddr rfl rfl rfl (freshS_eq rfl) rfl rfl tF_29_2 ?_
  refine wl_loadH 0 2 rfl rfl rfl (freshS_eq rfl) rfl rfl rfl (cs := [_]) rfl tS_9 tA_9 rfl rfl ?_
  refine wl_pure rfl rfl rfl (freshS_eq rfl) rfl ?_
  refine wl_pure rfl rfl rfl (freshS_eq rfl) rfl ?_
  refine wl_nil ?_
  refine we_then ?_
  refine wc_keep [2] (S' := [_]) rfl ?_
  refine wc_ret ?_
  refine we_block_ret ?_
  refine we_then_ret ?_
  have hE := (Option.some.inj hm).symm
  replace hE := hE.symm
  subst hE
  refine ret_one (Hr := []) [] Tryd.results15 (res_tmp rfl) ⟨rfl, rfl, rfl⟩ (fun _ _ hφ => ask [] rfl hφ) rfl rfl (.inl rfl)
 ·
  replace hm := iteF hm hb5
  refine wc_keep [4, 1] (S' := [_,_]) rfl ?_
  refine wc_seq ?_
  refine wc_region ?_
  refine wl_pure rfl rfl rfl (freshS_eq rfl) rfl ?_
  refine wl_pure rfl rfl rfl (freshS_eq rfl) rfl ?_
  refine wl_nil ?_
  refine we_then ?_
  refine wc_keep [10, 1] (S' := [_,_]) rfl ?_
  refine wc_cond rfl (fun hb10 => ?_) (fun hb10 => ?_)
  ·
   replace hm := iteT hm hb10
   refine wc_keep [1] (S' := [_]) rfl ?_
   refine wc_seq ?_
   refine wc_region ?_
   refine wl_fieldAddr rfl rfl rfl (freshS_eq rfl) rfl rfl tF_29_1 ?_
   refine wl_loadH 0 1 rfl rfl rfl (freshS_eq rfl) rfl rfl rfl (cs := [_]) rfl tS_2 tA_2 rfl rfl ?_
   refine wl_pure rfl rfl rfl (freshS_eq rfl) rfl ?_
   refine wl_pure rfl rfl rfl (freshS_eq rfl) rfl ?_
   refine wl_split (d := 15) (S' := [_,_,_,_]) rfl rfl (fun hs15 => ?_) (fun hs15 => ?_)
   ·
    replace hm := iteT hm hs15
    refine wl_fieldAddr rfl rfl rfl (freshS_eq rfl) rfl rfl tF_29_2 ?_
    refine wl_loadH 0 2 rfl rfl rfl (freshS_eq rfl) rfl rfl rfl (cs := [_]) rfl tS_9 tA_9 rfl rfl ?_
    obtain ⟨v18, hc18, hm⟩ := bindO_some hm
    refine wl_call [] [0] rfl rfl rfl (freshS_eq rfl) rfl rfl fn_27 rfl (w_value_named_s N a2 _ hc18) (fun _ _ hφ => ask [0] rfl hφ) rfl (H' := [_]) rfl ?_
    rintro _ _ _ ⟨rfl, rfl, rfl⟩
    refine wl_pure rfl rfl rfl (freshS_eq rfl) rfl ?_
    refine wl_pure rfl rfl rfl (freshS_eq rfl) rfl ?_
    refine wl_nil ?_
    refine we_then ?_
    refine wc_keep [2] (S' := [_]) rfl ?_
    refine wc_ret ?_
    refine we_block_ret ?_
    refine we_then_ret ?_
    have hE := (Option.some.inj hm).symm
    replace hE := hE.symm
    subst hE
    refine ret_one (Hr := []) [] Tryd.results15 (res_tmp rfl) ⟨rfl, rfl, rfl⟩ (fun _ _ hφ => ask [] rfl hφ) rfl rfl (.inl rfl)
   ·
    replace hm := iteF hm hs15
    refine wl_off rfl rfl rfl (freshS_eq rfl) ?_
    refine wl_off rfl rfl rfl (freshS_eq rfl) ?_
    refine wl_off rfl rfl rfl (freshS_eq rfl) ?_
    refine wl_pure rfl rfl rfl (freshS_eq rfl) rfl ?_
    refine wl_pure rfl rfl rfl (freshS_eq rfl) rfl ?_
    refine wl_nil ?_
    refine we_then ?_
    refine wc_keep [2] (S' := [_]) rfl ?_
    refine wc_ret ?_
    refine we_block_ret ?_
    refine we_then_ret ?_
    have hE := (Option.some.inj hm).symm
    replace hE := hE.symm
    subst hE
    refine ret_one (Hr := []) [] Tryd.results15 (res_tmp rfl) ⟨rfl, rfl, rfl⟩ (fun _ _ hφ => ask [] rfl hφ) rfl rfl (.inl rfl)
  ·
   replace hm := iteF hm hb10
   refine wc_keep [] (S' := []) rfl ?_
   refine wc_skip ?_
   refine we_block_normal ?_
   refine we_then ?_
   refine wc_seq ?_
   refine wc_region ?_
   refine wl_pure rfl rfl rfl (freshS_eq rfl) rfl ?_
   refine wl_nil ?_
   refine we_then ?_
   refine wc_ret ?_
   have hE := (Option.some.inj hm).symm
   replace hE := hE.symm
   subst hE
   refine ret_one (Hr := []) [] Tryd.results15 (res_tmp rfl) ⟨rfl, rfl, rfl⟩ (fun _ _ hφ => ask [] rfl hφ) rfl rfl (.inl rfl)
set_option maxRecDepth 100000 in
set_option maxHeartbeats 4000000 in
theorem w_value_number_s (N : Nat) (a0 : Int)  (hm : m_value_number N a0 = some ()) : Spec Tryd.prog 25 [.int .i64 a0] [tabF Tryd.prog "internal/strconv.uint64pow10" .u64 Lib.pow10Tab 1 pow10_g] [] (fun v Φr Hr => v = .agg #[.int .u8 1, .int .i64 a0, .string ((⟨#[]⟩ : ByteArray))] ∧ Φr = [] ∧ Hr = []) := by
 unfold m_value_number at hm
 refine spec_of Tryd.func25 rfl Tryd.ntmps25 rfl (S := [_]) rfl (fun C => ?_)
 refine wc_seq ?_
 refine wc_region ?_
 refine wl_alloc rfl rfl rfl (freshS_eq rfl) rfl tZ_29 rfl (fun g2 => ?_)
 refine wl_nil ?_
 refine we_then ?_
 refine wc_seq ?_
 refine wc_region ?_
 refine wl_pure rfl rfl rfl (freshS_eq rfl) rfl ?_
 refine wl_build rfl rfl rfl (freshS_eq rfl) rfl tZ_29 tP_29 rfl (out := [_,_,_]) rfl ?_
 refine wl_store 0 0 rfl rfl rfl rfl rfl rfl rfl tS_29 rfl rfl rfl (all' := [_,_,_]) rfl (H' := [_]) rfl ?_
 refine wl_nil ?_
 refine we_then ?_
 refine wc_keep [2] (S' := [_]) rfl ?_
 refine wc_ret ?_
 have hE := (Option.some.inj hm).symm
 refine ret_one (Hr := []) [] Tryd.results25 (res_cell 0 rfl rfl tS_29 tA_29 rfl rfl) ⟨rfl, rfl, rfl⟩ (fun _ _ hφ => ask [] rfl hφ) rfl rfl (.inl rfl)
set_option maxRecDepth 100000 in
set_option maxHeartbeats 4000000 in
theorem w_value_Truth_s (N : Nat) (a0 : Bool) (o0 : Int) (hm : m_value_Truth N a0 = some o0) : Spec Tryd.prog 21 [.bool a0] [tabF Tryd.prog "internal/strconv.uint64pow10" .u64 Lib.pow10Tab 1 pow10_g] [] (fun v Φr Hr => v = .agg #[.int .u8 1, .int .i64 o0, .string ((⟨#[]⟩ : ByteArray))] ∧ Φr = [] ∧ Hr = []) := by
 unfold m_value_Truth at hm
 refine spec_of Tryd.func21 rfl Tryd.ntmps21 rfl (S := [_]) rfl (fun C => ?_)
 refine wc_seq ?_
 refine wc_region ?_
 refine wl_alloc rfl rfl rfl (freshS_eq rfl) rfl tZ_29 rfl (fun g2 => ?_)
 refine wl_nil ?_
 refine we_then ?_
 refine wc_seq ?_
 refine wc_seq ?_
 refine wc_region ?_
 refine wl_pure rfl rfl rfl (freshS_eq rfl) rfl ?_
 refine wl_nil ?_
 refine we_then ?_
 refine wc_keep [3, 2] (S' := [_,_]) rfl ?_
 refine wc_cond rfl (fun hb3 => ?_) (fun hb3 => ?_)
 ·
  replace hm := iteT hm hb3
  refine wc_keep [2] (S' := [_]) rfl ?_
  refine wc_seq ?_
  refine wc_region ?_
  obtain ⟨_, hc4, hm⟩ := bindO_some hm
  try dsimp only at hm
  refine wl_call [] [0] rfl rfl rfl (freshS_eq rfl) rfl rfl fn_25 rfl (w_value_number_s N 1 hc4) (fun _ _ hφ => ask [0] rfl hφ) rfl (H' := [_]) rfl ?_
  rintro _ _ _ ⟨rfl, rfl, rfl⟩
  refine wl_store 0 0 rfl rfl rfl rfl rfl rfl rfl tS_29 rfl rfl rfl (all' := [_,_,_]) rfl (H' := [_]) rfl ?_
  refine wl_nil ?_
  refine we_then ?_
  refine wc_keep [2] (S' := [_]) rfl ?_
  refine wc_ret ?_
  refine we_then_ret ?_
  have hE := (Option.some.inj hm).symm
  replace hE := hE.symm
  subst hE
  refine ret_one (Hr := []) [] Tryd.results21 (res_cell 0 rfl rfl tS_29 tA_29 rfl rfl) ⟨rfl, rfl, rfl⟩ (fun _ _ hφ => ask [] rfl hφ) rfl rfl (.inl rfl)
 ·
  replace hm := iteF hm hb3
  refine wc_keep [2] (S' := [_]) rfl ?_
  refine wc_skip ?_
  refine we_then ?_
  refine wc_seq ?_
  refine wc_region ?_
  obtain ⟨_, hc5, hm⟩ := bindO_some hm
  try dsimp only at hm
  refine wl_call [] [0] rfl rfl rfl (freshS_eq rfl) rfl rfl fn_25 rfl (w_value_number_s N 0 hc5) (fun _ _ hφ => ask [0] rfl hφ) rfl (H' := [_]) rfl ?_
  rintro _ _ _ ⟨rfl, rfl, rfl⟩
  refine wl_store 0 0 rfl rfl rfl rfl rfl rfl rfl tS_29 rfl rfl rfl (all' := [_,_,_]) rfl (H' := [_]) rfl ?_
  refine wl_nil ?_
  refine we_then ?_
  refine wc_keep [2] (S' := [_]) rfl ?_
  refine wc_ret ?_
  have hE := (Option.some.inj hm).symm
  replace hE := hE.symm
  subst hE
  refine ret_one (Hr := []) [] Tryd.results21 (res_cell 0 rfl rfl tS_29 tA_29 rfl rfl) ⟨rfl, rfl, rfl⟩ (fun _ _ hφ => ask [] rfl hφ) rfl rfl (.inl rfl)
set_option maxRecDepth 100000 in
set_option maxHeartbeats 4000000 in
theorem w_value_does_s0 (N : Nat) (a0 : Int)  (hm : m_value_does N a0 = some (.inl ())) : Spec Tryd.prog 24 [.int .u8 a0] [tabF Tryd.prog "internal/strconv.uint64pow10" .u64 Lib.pow10Tab 1 pow10_g] [] (fun v Φr Hr => v = .func (.func 37) #[] #[] ∧ Φr = [] ∧ Hr = []) := by
 unfold m_value_does at hm
 refine spec_of Tryd.func24 rfl Tryd.ntmps24 rfl (S := [_]) rfl (fun C => ?_)
 refine wc_seq ?_
 refine wc_region ?_
 refine wl_pure rfl rfl rfl (freshS_eq rfl) rfl ?_
 refine wl_nil ?_
 refine we_then ?_
 refine wc_keep [0] (S' := [_]) rfl ?_
 refine wc_seq ?_
 refine wc_region ?_
 refine wl_alloc rfl rfl rfl (freshS_eq rfl) rfl tZ_58 rfl (fun g3 => ?_)
 refine wl_store 0 0 rfl rfl rfl rfl rfl rfl rfl tS_58 rfl rfl rfl (all' := [_]) rfl (H' := [_]) rfl ?_
 refine wl_nil ?_
 refine we_then ?_
 refine wc_seq ?_
 refine wc_region ?_
 refine wl_makeMapE (keyInt (tInt_run tI_22)) false valRep rfl rfl rfl (freshS_eq rfl) rfl (fun g4 => ?_)
 refine wl_mapPutE (i := 1) (u := .func (.func 37) #[] #[]) (cs := [.func (.func 37) #[] #[]]) 0 rfl rfl (.inr rfl) rfl rfl rfl rfl tM_59 trivial rfl (fun F w hφ => ⟨rfl, rfl⟩) (H' := [mapE (keyInt (tInt_run tI_22)) false valRep g4 ([(1, .func (.func 37) #[] #[])]), .blk g3 [.func (.func 36) #[] #[]] 58]) rfl ?_
 refine wl_mapPutE (i := 2) (u := .func (.func 38) #[] #[]) (cs := [.func (.func 38) #[] #[]]) 0 rfl rfl (.inr rfl) rfl rfl rfl rfl tM_59 trivial rfl (fun F w hφ => ⟨rfl, rfl⟩) (H' := [mapE (keyInt (tInt_run tI_22)) false valRep g4 ([(1, .func (.func 37) #[] #[]), (2, .func (.func 38) #[] #[])]), .blk g3 [.func (.func 36) #[] #[]] 58]) rfl ?_
 refine wl_mapPutE (i := 3) (u := .func (.func 39) #[] #[]) (cs := [.func (.func 39) #[] #[]]) 0 rfl rfl (.inr rfl) rfl rfl rfl rfl tM_59 trivial rfl (fun F w hφ => ⟨rfl, rfl⟩) (H' := [mapE (keyInt (tInt_run tI_22)) false valRep g4 ([(1, .func (.func 37) #[] #[]), (2, .func (.func 38) #[] #[]), (3, .func (.func 39) #[] #[])]), .blk g3 [.func (.func 36) #[] #[]] 58]) rfl ?_
 refine wl_mapPutE (i := 4) (u := .func (.func 40) #[] #[]) (cs := [.func (.func 40) #[] #[]]) 0 rfl rfl (.inr rfl) rfl rfl rfl rfl tM_59 trivial rfl (fun F w hφ => ⟨rfl, rfl⟩) (H' := [mapE (keyInt (tInt_run tI_22)) false valRep g4 ([(1, .func (.func 37) #[] #[]), (2, .func (.func 38) #[] #[]), (3, .func (.func 39) #[] #[]), (4, .func (.func 40) #[] #[])]), .blk g3 [.func (.func 36) #[] #[]] 58]) rfl ?_
 refine wl_makeFunc rfl rfl rfl (freshS_eq rfl) rfl rfl ?_
 refine wl_mapPutE (i := 7) (u := .func (.func 41) #[] #[.pointer (some ⟨g3, 0, none⟩)]) (cs := [.func (.func 41) #[] #[.pointer (some ⟨g3, 0, none⟩)]]) 0 rfl rfl (.inr rfl) rfl rfl rfl rfl tM_59 trivial rfl (fun F w hφ => ⟨rfl, rfl⟩) (H' := [mapE (keyInt (tInt_run tI_22)) false valRep g4 ([(1, .func (.func 37) #[] #[]), (2, .func (.func 38) #[] #[]), (3, .func (.func 39) #[] #[]), (4, .func (.func 40) #[] #[]), (7, .func (.func 41) #[] #[.pointer (some ⟨g3, 0, none⟩)])]), .blk g3 [.func (.func 36) #[] #[]] 58]) rfl ?_
 refine wl_makeFunc rfl rfl rfl (freshS_eq rfl) rfl rfl ?_
 refine wl_mapPutE (i := 8) (u := .func (.func 42) #[] #[.pointer (some ⟨g3, 0, none⟩)]) (cs := [.func (.func 42) #[] #[.pointer (some ⟨g3, 0, none⟩)]]) 0 rfl rfl (.inr rfl) rfl rfl rfl rfl tM_59 trivial rfl (fun F w hφ => ⟨rfl, rfl⟩) (H' := [mapE (keyInt (tInt_run tI_22)) false valRep g4 ([(1, .func (.func 37) #[] #[]), (2, .func (.func 38) #[] #[]), (3, .func (.func 39) #[] #[]), (4, .func (.func 40) #[] #[]), (7, .func (.func 41) #[] #[.pointer (some ⟨g3, 0, none⟩)]), (8, .func (.func 42) #[] #[.pointer (some ⟨g3, 0, none⟩)])]), .blk g3 [.func (.func 36) #[] #[]] 58]) rfl ?_
 refine wl_makeFunc rfl rfl rfl (freshS_eq rfl) rfl rfl ?_
 refine wl_mapPutE (i := 9) (u := .func (.func 43) #[] #[.pointer (some ⟨g3, 0, none⟩)]) (cs := [.func (.func 43) #[] #[.pointer (some ⟨g3, 0, none⟩)]]) 0 rfl rfl (.inr rfl) rfl rfl rfl rfl tM_59 trivial rfl (fun F w hφ => ⟨rfl, rfl⟩) (H' := [mapE (keyInt (tInt_run tI_22)) false valRep g4 ([(1, .func (.func 37) #[] #[]), (2, .func (.func 38) #[] #[]), (3, .func (.func 39) #[] #[]), (4, .func (.func 40) #[] #[]), (7, .func (.func 41) #[] #[.pointer (some ⟨g3, 0, none⟩)]), (8, .func (.func 42) #[] #[.pointer (some ⟨g3, 0, none⟩)]), (9, .func (.func 43) #[] #[.pointer (some ⟨g3, 0, none⟩)])]), .blk g3 [.func (.func 36) #[] #[]] 58]) rfl ?_
 refine wl_makeFunc rfl rfl rfl (freshS_eq rfl) rfl rfl ?_
 refine wl_mapPutE (i := 10) (u := .func (.func 44) #[] #[.pointer (some ⟨g3, 0, none⟩)]) (cs := [.func (.func 44) #[] #[.pointer (some ⟨g3, 0, none⟩)]]) 0 rfl rfl (.inr rfl) rfl rfl rfl rfl tM_59 trivial rfl (fun F w hφ => ⟨rfl, rfl⟩) (H' := [mapE (keyInt (tInt_run tI_22)) false valRep g4 ([(1, .func (.func 37) #[] #[]), (2, .func (.func 38) #[] #[]), (3, .func (.func 39) #[] #[]), (4, .func (.func 40) #[] #[]), (7, .func (.func 41) #[] #[.pointer (some ⟨g3, 0, none⟩)]), (8, .func (.func 42) #[] #[.pointer (some ⟨g3, 0, none⟩)]), (9, .func (.func 43) #[] #[.pointer (some ⟨g3, 0, none⟩)]), (10, .func (.func 44) #[] #[.pointer (some ⟨g3, 0, none⟩)])]), .blk g3 [.func (.func 36) #[] #[]] 58]) rfl ?_
 refine wl_makeFunc rfl rfl rfl (freshS_eq rfl) rfl rfl ?_
 refine wl_mapPutE (i := 11) (u := .func (.func 45) #[] #[.pointer (some ⟨g3, 0, none⟩)]) (cs := [.func (.func 45) #[] #[.pointer (some ⟨g3, 0, none⟩)]]) 0 rfl rfl (.inr rfl) rfl rfl rfl rfl tM_59 trivial rfl (fun F w hφ => ⟨rfl, rfl⟩) (H' := [mapE (keyInt (tInt_run tI_22)) false valRep g4 ([(1, .func (.func 37) #[] #[]), (2, .func (.func 38) #[] #[]), (3, .func (.func 39) #[] #[]), (4, .func (.func 40) #[] #[]), (7, .func (.func 41) #[] #[.pointer (some ⟨g3, 0, none⟩)]), (8, .func (.func 42) #[] #[.pointer (some ⟨g3, 0, none⟩)]), (9, .func (.func 43) #[] #[.pointer (some ⟨g3, 0, none⟩)]), (10, .func (.func 44) #[] #[.pointer (some ⟨g3, 0, none⟩)]), (11, .func (.func 45) #[] #[.pointer (some ⟨g3, 0, none⟩)])]), .blk g3 [.func (.func 36) #[] #[]] 58]) rfl ?_
 refine wl_pure rfl rfl rfl (freshS_eq rfl) rfl ?_
 refine wl_pure rfl rfl rfl (freshS_eq rfl) rfl ?_
 rcases ite_some hm with ⟨hq12_0, hm⟩ | ⟨hq12_0, hm⟩
 ·
  refine wl_lookYesE (i := a0) (a := (.func (.func 37) #[] #[])) valRep_opens 0 rfl rfl rfl (freshS_eq rfl) rfl rfl rfl rfl tM_59 trivial (by rw [eq_of_beq hq12_0]; rfl) (u := fun _ => .func (.func 37) #[] #[]) (fun _ => rfl) (v := fun _ => .func (.func 37) #[] #[]) (fun _ => rfl) (fun _ _ => ?_)
  refine wl_pure rfl rfl rfl (freshS_eq rfl) rfl ?_
  refine wl_nil ?_
  refine we_then ?_
  refine wc_keep [2] (S' := [_]) rfl ?_
  refine wc_ret ?_
  have hE := (Option.some.inj hm).symm
  replace hE := Sum.inl.inj hE
  refine ret_one (Hr := []) [] Tryd.results24 (res_tmp rfl) ⟨rfl, rfl, rfl⟩ (fun _ _ hφ => ask [] rfl hφ) rfl rfl (.inl rfl)
 rcases ite_some hm with ⟨hq12_1, hm⟩ | ⟨hq12_1, hm⟩
 ·
  refine wl_lookYesE (i := a0) (a := (.func (.func 38) #[] #[])) valRep_opens 0 rfl rfl rfl (freshS_eq rfl) rfl rfl rfl rfl tM_59 trivial (by rw [eq_of_beq hq12_1]; rfl) (u := fun _ => .func (.func 38) #[] #[]) (fun _ => rfl) (v := fun _ => .func (.func 38) #[] #[]) (fun _ => rfl) (fun _ _ => ?_)
  refine wl_pure rfl rfl rfl (freshS_eq rfl) rfl ?_
  refine wl_nil ?_
  refine we_then ?_
  refine wc_keep [2] (S' := [_]) rfl ?_
  refine wc_ret ?_
  have hE := (Option.some.inj hm).symm
  cases hE
 rcases ite_some hm with ⟨hq12_2, hm⟩ | ⟨hq12_2, hm⟩
 ·
  refine wl_lookYesE (i := a0) (a := (.func (.func 39) #[] #[])) valRep_opens 0 rfl rfl rfl (freshS_eq rfl) rfl rfl rfl rfl tM_59 trivial (by rw [eq_of_beq hq12_2]; rfl) (u := fun _ => .func (.func 39) #[] #[]) (fun _ => rfl) (v := fun _ => .func (.func 39) #[] #[]) (fun _ => rfl) (fun _ _ => ?_)
  refine wl_pure rfl rfl rfl (freshS_eq rfl) rfl ?_
  refine wl_nil ?_
  refine we_then ?_
  refine wc_keep [2] (S' := [_]) rfl ?_
  refine wc_ret ?_
  have hE := (Option.some.inj hm).symm
  cases hE
 rcases ite_some hm with ⟨hq12_3, hm⟩ | ⟨hq12_3, hm⟩
 ·
  refine wl_lookYesE (i := a0) (a := (.func (.func 40) #[] #[])) valRep_opens 0 rfl rfl rfl (freshS_eq rfl) rfl rfl rfl rfl tM_59 trivial (by rw [eq_of_beq hq12_3]; rfl) (u := fun _ => .func (.func 40) #[] #[]) (fun _ => rfl) (v := fun _ => .func (.func 40) #[] #[]) (fun _ => rfl) (fun _ _ => ?_)
  refine wl_pure rfl rfl rfl (freshS_eq rfl) rfl ?_
  refine wl_nil ?_
  refine we_then ?_
  refine wc_keep [2] (S' := [_]) rfl ?_
  refine wc_ret ?_
  have hE := (Option.some.inj hm).symm
  cases hE
 rcases ite_some hm with ⟨hq12_4, hm⟩ | ⟨hq12_4, hm⟩
 ·
  refine wl_lookYesE (i := a0) (a := (.func (.func 41) #[] #[.pointer (some ⟨g3, 0, none⟩)])) valRep_opens 0 rfl rfl rfl (freshS_eq rfl) rfl rfl rfl rfl tM_59 trivial (by rw [eq_of_beq hq12_4]; rfl) (u := fun _ => .func (.func 41) #[] #[.pointer (some ⟨g3, 0, none⟩)]) (fun _ => rfl) (v := fun _ => .func (.func 41) #[] #[.pointer (some ⟨g3, 0, none⟩)]) (fun _ => rfl) (fun _ _ => ?_)
  refine wl_pure rfl rfl rfl (freshS_eq rfl) rfl ?_
  refine wl_nil ?_
  refine we_then ?_
  refine wc_keep [2] (S' := [_]) rfl ?_
  refine wc_ret ?_
  have hE := (Option.some.inj hm).symm
  cases hE
 rcases ite_some hm with ⟨hq12_5, hm⟩ | ⟨hq12_5, hm⟩
 ·
  refine wl_lookYesE (i := a0) (a := (.func (.func 42) #[] #[.pointer (some ⟨g3, 0, none⟩)])) valRep_opens 0 rfl rfl rfl (freshS_eq rfl) rfl rfl rfl rfl tM_59 trivial (by rw [eq_of_beq hq12_5]; rfl) (u := fun _ => .func (.func 42) #[] #[.pointer (some ⟨g3, 0, none⟩)]) (fun _ => rfl) (v := fun _ => .func (.func 42) #[] #[.pointer (some ⟨g3, 0, none⟩)]) (fun _ => rfl) (fun _ _ => ?_)
  refine wl_pure rfl rfl rfl (freshS_eq rfl) rfl ?_
  refine wl_nil ?_
  refine we_then ?_
  refine wc_keep [2] (S' := [_]) rfl ?_
  refine wc_ret ?_
  have hE := (Option.some.inj hm).symm
  cases hE
 rcases ite_some hm with ⟨hq12_6, hm⟩ | ⟨hq12_6, hm⟩
 ·
  refine wl_lookYesE (i := a0) (a := (.func (.func 43) #[] #[.pointer (some ⟨g3, 0, none⟩)])) valRep_opens 0 rfl rfl rfl (freshS_eq rfl) rfl rfl rfl rfl tM_59 trivial (by rw [eq_of_beq hq12_6]; rfl) (u := fun _ => .func (.func 43) #[] #[.pointer (some ⟨g3, 0, none⟩)]) (fun _ => rfl) (v := fun _ => .func (.func 43) #[] #[.pointer (some ⟨g3, 0, none⟩)]) (fun _ => rfl) (fun _ _ => ?_)
  refine wl_pure rfl rfl rfl (freshS_eq rfl) rfl ?_
  refine wl_nil ?_
  refine we_then ?_
  refine wc_keep [2] (S' := [_]) rfl ?_
  refine wc_ret ?_
  have hE := (Option.some.inj hm).symm
  cases hE
 rcases ite_some hm with ⟨hq12_7, hm⟩ | ⟨hq12_7, hm⟩
 ·
  refine wl_lookYesE (i := a0) (a := (.func (.func 44) #[] #[.pointer (some ⟨g3, 0, none⟩)])) valRep_opens 0 rfl rfl rfl (freshS_eq rfl) rfl rfl rfl rfl tM_59 trivial (by rw [eq_of_beq hq12_7]; rfl) (u := fun _ => .func (.func 44) #[] #[.pointer (some ⟨g3, 0, none⟩)]) (fun _ => rfl) (v := fun _ => .func (.func 44) #[] #[.pointer (some ⟨g3, 0, none⟩)]) (fun _ => rfl) (fun _ _ => ?_)
  refine wl_pure rfl rfl rfl (freshS_eq rfl) rfl ?_
  refine wl_nil ?_
  refine we_then ?_
  refine wc_keep [2] (S' := [_]) rfl ?_
  refine wc_ret ?_
  have hE := (Option.some.inj hm).symm
  cases hE
 rcases ite_some hm with ⟨hq12_8, hm⟩ | ⟨hq12_8, hm⟩
 ·
  refine wl_lookYesE (i := a0) (a := (.func (.func 45) #[] #[.pointer (some ⟨g3, 0, none⟩)])) valRep_opens 0 rfl rfl rfl (freshS_eq rfl) rfl rfl rfl rfl tM_59 trivial (by rw [eq_of_beq hq12_8]; rfl) (u := fun _ => .func (.func 45) #[] #[.pointer (some ⟨g3, 0, none⟩)]) (fun _ => rfl) (v := fun _ => .func (.func 45) #[] #[.pointer (some ⟨g3, 0, none⟩)]) (fun _ => rfl) (fun _ _ => ?_)
  refine wl_pure rfl rfl rfl (freshS_eq rfl) rfl ?_
  refine wl_nil ?_
  refine we_then ?_
  refine wc_keep [2] (S' := [_]) rfl ?_
  refine wc_ret ?_
  have hE := (Option.some.inj hm).symm
  cases hE
 ·
  refine wl_lookNoE (i := a0) 0 rfl rfl rfl (freshS_eq rfl) rfl rfl rfl rfl tZ_47 tM_59 trivial (by simp [mlook, (ne_of_beq_false hq12_0).symm, (ne_of_beq_false hq12_1).symm, (ne_of_beq_false hq12_2).symm, (ne_of_beq_false hq12_3).symm, (ne_of_beq_false hq12_4).symm, (ne_of_beq_false hq12_5).symm, (ne_of_beq_false hq12_6).symm, (ne_of_beq_false hq12_7).symm, (ne_of_beq_false hq12_8).symm]) (v := .nilFunc) rfl ?_
  refine wl_pure rfl rfl rfl (freshS_eq rfl) rfl ?_
  refine wl_nil ?_
  refine we_then ?_
  refine wc_keep [2] (S' := [_]) rfl ?_
  refine wc_ret ?_
  have hE := (Option.some.inj hm).symm
  cases hE
set_option maxRecDepth 100000 in
set_option maxHeartbeats 4000000 in
theorem w_value_does_s1 (N : Nat) (a0 : Int)  (hm : m_value_does N a0 = some (.inr (.inl ()))) : Spec Tryd.prog 24 [.int .u8 a0] [tabF Tryd.prog "internal/strconv.uint64pow10" .u64 Lib.pow10Tab 1 pow10_g] [] (fun v Φr Hr => v = .func (.func 38) #[] #[] ∧ Φr = [] ∧ Hr = []) := by
 unfold m_value_does at hm
 refine spec_of Tryd.func24 rfl Tryd.ntmps24 rfl (S := [_]) rfl (fun C => ?_)
 refine wc_seq ?_
 refine wc_region ?_
 refine wl_pure rfl rfl rfl (freshS_eq rfl) rfl ?_
 refine wl_nil ?_
 refine we_then ?_
 refine wc_keep [0] (S' := [_]) rfl ?_
 refine wc_seq ?_
 refine wc_region ?_
 refine wl_alloc rfl rfl rfl (freshS_eq rfl) rfl tZ_58 rfl (fun g3 => ?_)
 refine wl_store 0 0 rfl rfl rfl rfl rfl rfl rfl tS_58 rfl rfl rfl (all' := [_]) rfl (H' := [_]) rfl ?_
 refine wl_nil ?_
 refine we_then ?_
 refine wc_seq ?_
 refine wc_region ?_
 refine wl_makeMapE (keyInt (tInt_run tI_22)) false valRep rfl rfl rfl (freshS_eq rfl) rfl (fun g4 => ?_)
 refine wl_mapPutE (i := 1) (u := .func (.func 37) #[] #[]) (cs := [.func (.func 37) #[] #[]]) 0 rfl rfl (.inr rfl) rfl rfl rfl rfl tM_59 trivial rfl (fun F w hφ => ⟨rfl, rfl⟩) (H' := [mapE (keyInt (tInt_run tI_22)) false valRep g4 ([(1, .func (.func 37) #[] #[])]), .blk g3 [.func (.func 36) #[] #[]] 58]) rfl ?_
 refine wl_mapPutE (i := 2) (u := .func (.func 38) #[] #[]) (cs := [.func (.func 38) #[] #[]]) 0 rfl rfl (.inr rfl) rfl rfl rfl rfl tM_59 trivial rfl (fun F w hφ => ⟨rfl, rfl⟩) (H' := [mapE (keyInt (tInt_run tI_22)) false valRep g4 ([(1, .func (.func 37) #[] #[]), (2, .func (.func 38) #[] #[])]), .blk g3 [.func (.func 36) #[] #[]] 58]) rfl ?_
 refine wl_mapPutE (i := 3) (u := .func (.func 39) #[] #[]) (cs := [.func (.func 39) #[] #[]]) 0 rfl rfl (.inr rfl) rfl rfl rfl rfl tM_59 trivial rfl (fun F w hφ => ⟨rfl, rfl⟩) (H' := [mapE (keyInt (tInt_run tI_22)) false valRep g4 ([(1, .func (.func 37) #[] #[]), (2, .func (.func 38) #[] #[]), (3, .func (.func 39) #[] #[])]), .blk g3 [.func (.func 36) #[] #[]] 58]) rfl ?_
 refine wl_mapPutE (i := 4) (u := .func (.func 40) #[] #[]) (cs := [.func (.func 40) #[] #[]]) 0 rfl rfl (.inr rfl) rfl rfl rfl rfl tM_59 trivial rfl (fun F w hφ => ⟨rfl, rfl⟩) (H' := [mapE (keyInt (tInt_run tI_22)) false valRep g4 ([(1, .func (.func 37) #[] #[]), (2, .func (.func 38) #[] #[]), (3, .func (.func 39) #[] #[]), (4, .func (.func 40) #[] #[])]), .blk g3 [.func (.func 36) #[] #[]] 58]) rfl ?_
 refine wl_makeFunc rfl rfl rfl (freshS_eq rfl) rfl rfl ?_
 refine wl_mapPutE (i := 7) (u := .func (.func 41) #[] #[.pointer (some ⟨g3, 0, none⟩)]) (cs := [.func (.func 41) #[] #[.pointer (some ⟨g3, 0, none⟩)]]) 0 rfl rfl (.inr rfl) rfl rfl rfl rfl tM_59 trivial rfl (fun F w hφ => ⟨rfl, rfl⟩) (H' := [mapE (keyInt (tInt_run tI_22)) false valRep g4 ([(1, .func (.func 37) #[] #[]), (2, .func (.func 38) #[] #[]), (3, .func (.func 39) #[] #[]), (4, .func (.func 40) #[] #[]), (7, .func (.func 41) #[] #[.pointer (some ⟨g3, 0, none⟩)])]), .blk g3 [.func (.func 36) #[] #[]] 58]) rfl ?_
 refine wl_makeFunc rfl rfl rfl (freshS_eq rfl) rfl rfl ?_
 refine wl_mapPutE (i := 8) (u := .func (.func 42) #[] #[.pointer (some ⟨g3, 0, none⟩)]) (cs := [.func (.func 42) #[] #[.pointer (some ⟨g3, 0, none⟩)]]) 0 rfl rfl (.inr rfl) rfl rfl rfl rfl tM_59 trivial rfl (fun F w hφ => ⟨rfl, rfl⟩) (H' := [mapE (keyInt (tInt_run tI_22)) false valRep g4 ([(1, .func (.func 37) #[] #[]), (2, .func (.func 38) #[] #[]), (3, .func (.func 39) #[] #[]), (4, .func (.func 40) #[] #[]), (7, .func (.func 41) #[] #[.pointer (some ⟨g3, 0, none⟩)]), (8, .func (.func 42) #[] #[.pointer (some ⟨g3, 0, none⟩)])]), .blk g3 [.func (.func 36) #[] #[]] 58]) rfl ?_
 refine wl_makeFunc rfl rfl rfl (freshS_eq rfl) rfl rfl ?_
 refine wl_mapPutE (i := 9) (u := .func (.func 43) #[] #[.pointer (some ⟨g3, 0, none⟩)]) (cs := [.func (.func 43) #[] #[.pointer (some ⟨g3, 0, none⟩)]]) 0 rfl rfl (.inr rfl) rfl rfl rfl rfl tM_59 trivial rfl (fun F w hφ => ⟨rfl, rfl⟩) (H' := [mapE (keyInt (tInt_run tI_22)) false valRep g4 ([(1, .func (.func 37) #[] #[]), (2, .func (.func 38) #[] #[]), (3, .func (.func 39) #[] #[]), (4, .func (.func 40) #[] #[]), (7, .func (.func 41) #[] #[.pointer (some ⟨g3, 0, none⟩)]), (8, .func (.func 42) #[] #[.pointer (some ⟨g3, 0, none⟩)]), (9, .func (.func 43) #[] #[.pointer (some ⟨g3, 0, none⟩)])]), .blk g3 [.func (.func 36) #[] #[]] 58]) rfl ?_
 refine wl_makeFunc rfl rfl rfl (freshS_eq rfl) rfl rfl ?_
 refine wl_mapPutE (i := 10) (u := .func (.func 44) #[] #[.pointer (some ⟨g3, 0, none⟩)]) (cs := [.func (.func 44) #[] #[.pointer (some ⟨g3, 0, none⟩)]]) 0 rfl rfl (.inr rfl) rfl rfl rfl rfl tM_59 trivial rfl (fun F w hφ => ⟨rfl, rfl⟩) (H' := [mapE (keyInt (tInt_run tI_22)) false valRep g4 ([(1, .func (.func 37) #[] #[]), (2, .func (.func 38) #[] #[]), (3, .func (.func 39) #[] #[]), (4, .func (.func 40) #[] #[]), (7, .func (.func 41) #[] #[.pointer (some ⟨g3, 0, none⟩)]), (8, .func (.func 42) #[] #[.pointer (some ⟨g3, 0, none⟩)]), (9, .func (.func 43) #[] #[.pointer (some ⟨g3, 0, none⟩)]), (10, .func (.func 44) #[] #[.pointer (some ⟨g3, 0, none⟩)])]), .blk g3 [.func (.func 36) #[] #[]] 58]) rfl ?_
 refine wl_makeFunc rfl rfl rfl (freshS_eq rfl) rfl rfl ?_
 refine wl_mapPutE (i := 11) (u := .func (.func 45) #[] #[.pointer (some ⟨g3, 0, none⟩)]) (cs := [.func (.func 45) #[] #[.pointer (some ⟨g3, 0, none⟩)]]) 0 rfl rfl (.inr rfl) rfl rfl rfl rfl tM_59 trivial rfl (fun F w hφ => ⟨rfl, rfl⟩) (H' := [mapE (keyInt (tInt_run tI_22)) false valRep g4 ([(1, .func (.func 37) #[] #[]), (2, .func (.func 38) #[] #[]), (3, .func (.func 39) #[] #[]), (4, .func (.func 40) #[] #[]), (7, .func (.func 41) #[] #[.pointer (some ⟨g3, 0, none⟩)]), (8, .func (.func 42) #[] #[.pointer (some ⟨g3, 0, none⟩)]), (9, .func (.func 43) #[] #[.pointer (some ⟨g3, 0, none⟩)]), (10, .func (.func 44) #[] #[.pointer (some ⟨g3, 0, none⟩)]), (11, .func (.func 45) #[] #[.pointer (some ⟨g3, 0, none⟩)])]), .blk g3 [.func (.func 36) #[] #[]] 58]) rfl ?_
 refine wl_pure rfl rfl rfl (freshS_eq rfl) rfl ?_
 refine wl_pure rfl rfl rfl (freshS_eq rfl) rfl ?_
 rcases ite_some hm with ⟨hq12_0, hm⟩ | ⟨hq12_0, hm⟩
 ·
  refine wl_lookYesE (i := a0) (a := (.func (.func 37) #[] #[])) valRep_opens 0 rfl rfl rfl (freshS_eq rfl) rfl rfl rfl rfl tM_59 trivial (by rw [eq_of_beq hq12_0]; rfl) (u := fun _ => .func (.func 37) #[] #[]) (fun _ => rfl) (v := fun _ => .func (.func 37) #[] #[]) (fun _ => rfl) (fun _ _ => ?_)
  refine wl_pure rfl rfl rfl (freshS_eq rfl) rfl ?_
  refine wl_nil ?_
  refine we_then ?_
  refine wc_keep [2] (S' := [_]) rfl ?_
  refine wc_ret ?_
  have hE := (Option.some.inj hm).symm
  cases hE
 rcases ite_some hm with ⟨hq12_1, hm⟩ | ⟨hq12_1, hm⟩
 ·
  refine wl_lookYesE (i := a0) (a := (.func (.func 38) #[] #[])) valRep_opens 0 rfl rfl rfl (freshS_eq rfl) rfl rfl rfl rfl tM_59 trivial (by rw [eq_of_beq hq12_1]; rfl) (u := fun _ => .func (.func 38) #[] #[]) (fun _ => rfl) (v := fun _ => .func (.func 38) #[] #[]) (fun _ => rfl) (fun _ _ => ?_)
  refine wl_pure rfl rfl rfl (freshS_eq rfl) rfl ?_
  refine wl_nil ?_
  refine we_then ?_
  refine wc_keep [2] (S' := [_]) rfl ?_
  refine wc_ret ?_
  have hE := (Option.some.inj hm).symm
  replace hE := Sum.inr.inj hE
  replace hE := Sum.inl.inj hE
  refine ret_one (Hr := []) [] Tryd.results24 (res_tmp rfl) ⟨rfl, rfl, rfl⟩ (fun _ _ hφ => ask [] rfl hφ) rfl rfl (.inl rfl)
 rcases ite_some hm with ⟨hq12_2, hm⟩ | ⟨hq12_2, hm⟩
 ·
  refine wl_lookYesE (i := a0) (a := (.func (.func 39) #[] #[])) valRep_opens 0 rfl rfl rfl (freshS_eq rfl) rfl rfl rfl rfl tM_59 trivial (by rw [eq_of_beq hq12_2]; rfl) (u := fun _ => .func (.func 39) #[] #[]) (fun _ => rfl) (v := fun _ => .func (.func 39) #[] #[]) (fun _ => rfl) (fun _ _ => ?_)
  refine wl_pure rfl rfl rfl (freshS_eq rfl) rfl ?_
  refine wl_nil ?_
  refine we_then ?_
  refine wc_keep [2] (S' := [_]) rfl ?_
  refine wc_ret ?_
  have hE := (Option.some.inj hm).symm
  cases hE
 rcases ite_some hm with ⟨hq12_3, hm⟩ | ⟨hq12_3, hm⟩
 ·
  refine wl_lookYesE (i := a0) (a := (.func (.func 40) #[] #[])) valRep_opens 0 rfl rfl rfl (freshS_eq rfl) rfl rfl rfl rfl tM_59 trivial (by rw [eq_of_beq hq12_3]; rfl) (u := fun _ => .func (.func 40) #[] #[]) (fun _ => rfl) (v := fun _ => .func (.func 40) #[] #[]) (fun _ => rfl) (fun _ _ => ?_)
  refine wl_pure rfl rfl rfl (freshS_eq rfl) rfl ?_
  refine wl_nil ?_
  refine we_then ?_
  refine wc_keep [2] (S' := [_]) rfl ?_
  refine wc_ret ?_
  have hE := (Option.some.inj hm).symm
  cases hE
 rcases ite_some hm with ⟨hq12_4, hm⟩ | ⟨hq12_4, hm⟩
 ·
  refine wl_lookYesE (i := a0) (a := (.func (.func 41) #[] #[.pointer (some ⟨g3, 0, none⟩)])) valRep_opens 0 rfl rfl rfl (freshS_eq rfl) rfl rfl rfl rfl tM_59 trivial (by rw [eq_of_beq hq12_4]; rfl) (u := fun _ => .func (.func 41) #[] #[.pointer (some ⟨g3, 0, none⟩)]) (fun _ => rfl) (v := fun _ => .func (.func 41) #[] #[.pointer (some ⟨g3, 0, none⟩)]) (fun _ => rfl) (fun _ _ => ?_)
  refine wl_pure rfl rfl rfl (freshS_eq rfl) rfl ?_
  refine wl_nil ?_
  refine we_then ?_
  refine wc_keep [2] (S' := [_]) rfl ?_
  refine wc_ret ?_
  have hE := (Option.some.inj hm).symm
  cases hE
 rcases ite_some hm with ⟨hq12_5, hm⟩ | ⟨hq12_5, hm⟩
 ·
  refine wl_lookYesE (i := a0) (a := (.func (.func 42) #[] #[.pointer (some ⟨g3, 0, none⟩)])) valRep_opens 0 rfl rfl rfl (freshS_eq rfl) rfl rfl rfl rfl tM_59 trivial (by rw [eq_of_beq hq12_5]; rfl) (u := fun _ => .func (.func 42) #[] #[.pointer (some ⟨g3, 0, none⟩)]) (fun _ => rfl) (v := fun _ => .func (.func 42) #[] #[.pointer (some ⟨g3, 0, none⟩)]) (fun _ => rfl) (fun _ _ => ?_)
  refine wl_pure rfl rfl rfl (freshS_eq rfl) rfl ?_
  refine wl_nil ?_
  refine we_then ?_
  refine wc_keep [2] (S' := [_]) rfl ?_
  refine wc_ret ?_
  have hE := (Option.some.inj hm).symm
  cases hE
 rcases ite_some hm with ⟨hq12_6, hm⟩ | ⟨hq12_6, hm⟩
 ·
  refine wl_lookYesE (i := a0) (a := (.func (.func 43) #[] #[.pointer (some ⟨g3, 0, none⟩)])) valRep_opens 0 rfl rfl rfl (freshS_eq rfl) rfl rfl rfl rfl tM_59 trivial (by rw [eq_of_beq hq12_6]; rfl) (u := fun _ => .func (.func 43) #[] #[.pointer (some ⟨g3, 0, none⟩)]) (fun _ => rfl) (v := fun _ => .func (.func 43) #[] #[.pointer (some ⟨g3, 0, none⟩)]) (fun _ => rfl) (fun _ _ => ?_)
  refine wl_pure rfl rfl rfl (freshS_eq rfl) rfl ?_
  refine wl_nil ?_
  refine we_then ?_
  refine wc_keep [2] (S' := [_]) rfl ?_
  refine wc_ret ?_
  have hE := (Option.some.inj hm).symm
  cases hE
 rcases ite_some hm with ⟨hq12_7, hm⟩ | ⟨hq12_7, hm⟩
 ·
  refine wl_lookYesE (i := a0) (a := (.func (.func 44) #[] #[.pointer (some ⟨g3, 0, none⟩)])) valRep_opens 0 rfl rfl rfl (freshS_eq rfl) rfl rfl rfl rfl tM_59 trivial (by rw [eq_of_beq hq12_7]; rfl) (u := fun _ => .func (.func 44) #[] #[.pointer (some ⟨g3, 0, none⟩)]) (fun _ => rfl) (v := fun _ => .func (.func 44) #[] #[.pointer (some ⟨g3, 0, none⟩)]) (fun _ => rfl) (fun _ _ => ?_)
  refine wl_pure rfl rfl rfl (freshS_eq rfl) rfl ?_
  refine wl_nil ?_
  refine we_then ?_
  refine wc_keep [2] (S' := [_]) rfl ?_
  refine wc_ret ?_
  have hE := (Option.some.inj hm).symm
  cases hE
 rcases ite_some hm with ⟨hq12_8, hm⟩ | ⟨hq12_8, hm⟩
 ·
  refine wl_lookYesE (i := a0) (a := (.func (.func 45) #[] #[.pointer (some ⟨g3, 0, none⟩)])) valRep_opens 0 rfl rfl rfl (freshS_eq rfl) rfl rfl rfl rfl tM_59 trivial (by rw [eq_of_beq hq12_8]; rfl) (u := fun _ => .func (.func 45) #[] #[.pointer (some ⟨g3, 0, none⟩)]) (fun _ => rfl) (v := fun _ => .func (.func 45) #[] #[.pointer (some ⟨g3, 0, none⟩)]) (fun _ => rfl) (fun _ _ => ?_)
  refine wl_pure rfl rfl rfl (freshS_eq rfl) rfl ?_
  refine wl_nil ?_
  refine we_then ?_
  refine wc_keep [2] (S' := [_]) rfl ?_
  refine wc_ret ?_
  have hE := (Option.some.inj hm).symm
  cases hE
 ·
  refine wl_lookNoE (i := a0) 0 rfl rfl rfl (freshS_eq rfl) rfl rfl rfl rfl tZ_47 tM_59 trivial (by simp [mlook, (ne_of_beq_false hq12_0).symm, (ne_of_beq_false hq12_1).symm, (ne_of_beq_false hq12_2).symm, (ne_of_beq_false hq12_3).symm, (ne_of_beq_false hq12_4).symm, (ne_of_beq_false hq12_5).symm, (ne_of_beq_false hq12_6).symm, (ne_of_beq_false hq12_7).symm, (ne_of_beq_false hq12_8).symm]) (v := .nilFunc) rfl ?_
  refine wl_pure rfl rfl rfl (freshS_eq rfl) rfl ?_
  refine wl_nil ?_
  refine we_then ?_
  refine wc_keep [2] (S' := [_]) rfl ?_
  refine wc_ret ?_
  have hE := (Option.some.inj hm).symm
  cases hE
set_option maxRecDepth 100000 in
set_option maxHeartbeats 4000000 in
theorem w_value_does_s2 (N : Nat) (a0 : Int)  (hm : m_value_does N a0 = some (.inr (.inr (.inl ())))) : Spec Tryd.prog 24 [.int .u8 a0] [tabF Tryd.prog "internal/strconv.uint64pow10" .u64 Lib.pow10Tab 1 pow10_g] [] (fun v Φr Hr => v = .func (.func 39) #[] #[] ∧ Φr = [] ∧ Hr = []) := by
 unfold m_value_does at hm
 refine spec_of Tryd.func24 rfl Tryd.ntmps24 rfl (S := [_]) rfl (fun C => ?_)
 refine wc_seq ?_
 refine wc_region ?_
 refine wl_pure rfl rfl rfl (freshS_eq rfl) rfl ?_
 refine wl_nil ?_
 refine we_then ?_
 refine wc_keep [0] (S' := [_]) rfl ?_
 refine wc_seq ?_
 refine wc_region ?_
 refine wl_alloc rfl rfl rfl (freshS_eq rfl) rfl tZ_58 rfl (fun g3 => ?_)
 refine wl_store 0 0 rfl rfl rfl rfl rfl rfl rfl tS_58 rfl rfl rfl (all' := [_]) rfl (H' := [_]) rfl ?_
 refine wl_nil ?_
 refine we_then ?_
 refine wc_seq ?_
 refine wc_region ?_
 refine wl_makeMapE (keyInt (tInt_run tI_22)) false valRep rfl rfl rfl (freshS_eq rfl) rfl (fun g4 => ?_)
 refine wl_mapPutE (i := 1) (u := .func (.func 37) #[] #[]) (cs := [.func (.func 37) #[] #[]]) 0 rfl rfl (.inr rfl) rfl rfl rfl rfl tM_59 trivial rfl (fun F w hφ => ⟨rfl, rfl⟩) (H' := [mapE (keyInt (tInt_run tI_22)) false valRep g4 ([(1, .func (.func 37) #[] #[])]), .blk g3 [.func (.func 36) #[] #[]] 58]) rfl ?_
 refine wl_mapPutE (i := 2) (u := .func (.func 38) #[] #[]) (cs := [.func (.func 38) #[] #[]]) 0 rfl rfl (.inr rfl) rfl rfl rfl rfl tM_59 trivial rfl (fun F w hφ => ⟨rfl, rfl⟩) (H' := [mapE (keyInt (tInt_run tI_22)) false valRep g4 ([(1, .func (.func 37) #[] #[]), (2, .func (.func 38) #[] #[])]), .blk g3 [.func (.func 36) #[] #[]] 58]) rfl ?_
 refine wl_mapPutE (i := 3) (u := .func (.func 39) #[] #[]) (cs := [.func (.func 39) #[] #[]]) 0 rfl rfl (.inr rfl) rfl rfl rfl rfl tM_59 trivial rfl (fun F w hφ => ⟨rfl, rfl⟩) (H' := [mapE (keyInt (tInt_run tI_22)) false valRep g4 ([(1, .func (.func 37) #[] #[]), (2, .func (.func 38) #[] #[]), (3, .func (.func 39) #[] #[])]), .blk g3 [.func (.func 36) #[] #[]] 58]) rfl ?_
 refine wl_mapPutE (i := 4) (u := .func (.func 40) #[] #[]) (cs := [.func (.func 40) #[] #[]]) 0 rfl rfl (.inr rfl) rfl rfl rfl rfl tM_59 trivial rfl (fun F w hφ => ⟨rfl, rfl⟩) (H' := [mapE (keyInt (tInt_run tI_22)) false valRep g4 ([(1, .func (.func 37) #[] #[]), (2, .func (.func 38) #[] #[]), (3, .func (.func 39) #[] #[]), (4, .func (.func 40) #[] #[])]), .blk g3 [.func (.func 36) #[] #[]] 58]) rfl ?_
 refine wl_makeFunc rfl rfl rfl (freshS_eq rfl) rfl rfl ?_
 refine wl_mapPutE (i := 7) (u := .func (.func 41) #[] #[.pointer (some ⟨g3, 0, none⟩)]) (cs := [.func (.func 41) #[] #[.pointer (some ⟨g3, 0, none⟩)]]) 0 rfl rfl (.inr rfl) rfl rfl rfl rfl tM_59 trivial rfl (fun F w hφ => ⟨rfl, rfl⟩) (H' := [mapE (keyInt (tInt_run tI_22)) false valRep g4 ([(1, .func (.func 37) #[] #[]), (2, .func (.func 38) #[] #[]), (3, .func (.func 39) #[] #[]), (4, .func (.func 40) #[] #[]), (7, .func (.func 41) #[] #[.pointer (some ⟨g3, 0, none⟩)])]), .blk g3 [.func (.func 36) #[] #[]] 58]) rfl ?_
 refine wl_makeFunc rfl rfl rfl (freshS_eq rfl) rfl rfl ?_
 refine wl_mapPutE (i := 8) (u := .func (.func 42) #[] #[.pointer (some ⟨g3, 0, none⟩)]) (cs := [.func (.func 42) #[] #[.pointer (some ⟨g3, 0, none⟩)]]) 0 rfl rfl (.inr rfl) rfl rfl rfl rfl tM_59 trivial rfl (fun F w hφ => ⟨rfl, rfl⟩) (H' := [mapE (keyInt (tInt_run tI_22)) false valRep g4 ([(1, .func (.func 37) #[] #[]), (2, .func (.func 38) #[] #[]), (3, .func (.func 39) #[] #[]), (4, .func (.func 40) #[] #[]), (7, .func (.func 41) #[] #[.pointer (some ⟨g3, 0, none⟩)]), (8, .func (.func 42) #[] #[.pointer (some ⟨g3, 0, none⟩)])]), .blk g3 [.func (.func 36) #[] #[]] 58]) rfl ?_
 refine wl_makeFunc rfl rfl rfl (freshS_eq rfl) rfl rfl ?_
 refine wl_mapPutE (i := 9) (u := .func (.func 43) #[] #[.pointer (some ⟨g3, 0, none⟩)]) (cs := [.func (.func 43) #[] #[.pointer (some ⟨g3, 0, none⟩)]]) 0 rfl rfl (.inr rfl) rfl rfl rfl rfl tM_59 trivial rfl (fun F w hφ => ⟨rfl, rfl⟩) (H' := [mapE (keyInt (tInt_run tI_22)) false valRep g4 ([(1, .func (.func 37) #[] #[]), (2, .func (.func 38) #[] #[]), (3, .func (.func 39) #[] #[]), (4, .func (.func 40) #[] #[]), (7, .func (.func 41) #[] #[.pointer (some ⟨g3, 0, none⟩)]), (8, .func (.func 42) #[] #[.pointer (some ⟨g3, 0, none⟩)]), (9, .func (.func 43) #[] #[.pointer (some ⟨g3, 0, none⟩)])]), .blk g3 [.func (.func 36) #[] #[]] 58]) rfl ?_
 refine wl_makeFunc rfl rfl rfl (freshS_eq rfl) rfl rfl ?_
 refine wl_mapPutE (i := 10) (u := .func (.func 44) #[] #[.pointer (some ⟨g3, 0, none⟩)]) (cs := [.func (.func 44) #[] #[.pointer (some ⟨g3, 0, none⟩)]]) 0 rfl rfl (.inr rfl) rfl rfl rfl rfl tM_59 trivial rfl (fun F w hφ => ⟨rfl, rfl⟩) (H' := [mapE (keyInt (tInt_run tI_22)) false valRep g4 ([(1, .func (.func 37) #[] #[]), (2, .func (.func 38) #[] #[]), (3, .func (.func 39) #[] #[]), (4, .func (.func 40) #[] #[]), (7, .func (.func 41) #[] #[.pointer (some ⟨g3, 0, none⟩)]), (8, .func (.func 42) #[] #[.pointer (some ⟨g3, 0, none⟩)]), (9, .func (.func 43) #[] #[.pointer (some ⟨g3, 0, none⟩)]), (10, .func (.func 44) #[] #[.pointer (some ⟨g3, 0, none⟩)])]), .blk g3 [.func (.func 36) #[] #[]] 58]) rfl ?_
 refine wl_makeFunc rfl rfl rfl (freshS_eq rfl) rfl rfl ?_
 refine wl_mapPutE (i := 11) (u := .func (.func 45) #[] #[.pointer (some ⟨g3, 0, none⟩)]) (cs := [.func (.func 45) #[] #[.pointer (some ⟨g3, 0, none⟩)]]) 0 rfl rfl (.inr rfl) rfl rfl rfl rfl tM_59 trivial rfl (fun F w hφ => ⟨rfl, rfl⟩) (H' := [mapE (keyInt (tInt_run tI_22)) false valRep g4 ([(1, .func (.func 37) #[] #[]), (2, .func (.func 38) #[] #[]), (3, .func (.func 39) #[] #[]), (4, .func (.func 40) #[] #[]), (7, .func (.func 41) #[] #[.pointer (some ⟨g3, 0, none⟩)]), (8, .func (.func 42) #[] #[.pointer (some ⟨g3, 0, none⟩)]), (9, .func (.func 43) #[] #[.pointer (some ⟨g3, 0, none⟩)]), (10, .func (.func 44) #[] #[.pointer (some ⟨g3, 0, none⟩)]), (11, .func (.func 45) #[] #[.pointer (some ⟨g3, 0, none⟩)])]), .blk g3 [.func (.func 36) #[] #[]] 58]) rfl ?_
 refine wl_pure rfl rfl rfl (freshS_eq rfl) rfl ?_
 refine wl_pure rfl rfl rfl (freshS_eq rfl) rfl ?_
 rcases ite_some hm with ⟨hq12_0, hm⟩ | ⟨hq12_0, hm⟩
 ·
  refine wl_lookYesE (i := a0) (a := (.func (.func 37) #[] #[])) valRep_opens 0 rfl rfl rfl (freshS_eq rfl) rfl rfl rfl rfl tM_59 trivial (by rw [eq_of_beq hq12_0]; rfl) (u := fun _ => .func (.func 37) #[] #[]) (fun _ => rfl) (v := fun _ => .func (.func 37) #[] #[]) (fun _ => rfl) (fun _ _ => ?_)
  refine wl_pure rfl rfl rfl (freshS_eq rfl) rfl ?_
  refine wl_nil ?_
  refine we_then ?_
  refine wc_keep [2] (S' := [_]) rfl ?_
  refine wc_ret ?_
  have hE := (Option.some.inj hm).symm
  cases hE
 rcases ite_some hm with ⟨hq12_1, hm⟩ | ⟨hq12_1, hm⟩
 ·
  refine wl_lookYesE (i := a0) (a := (.func (.func 38) #[] #[])) valRep_opens 0 rfl rfl rfl (freshS_eq rfl) rfl rfl rfl rfl tM_59 trivial (by rw [eq_of_beq hq12_1]; rfl) (u := fun _ => .func (.func 38) #[] #[]) (fun _ => rfl) (v := fun _ => .func (.func 38) #[] #[]) (fun _ => rfl) (fun _ _ => ?_)
  refine wl_pure rfl rfl rfl (freshS_eq rfl) rfl ?_
  refine wl_nil ?_
  refine we_then ?_
  refine wc_keep [2] (S' := [_]) rfl ?_
  refine wc_ret ?_
  have hE := (Option.some.inj hm).symm
  cases hE
 rcases ite_some hm with ⟨hq12_2, hm⟩ | ⟨hq12_2, hm⟩
 ·
  refine wl_lookYesE (i := a0) (a := (.func (.func 39) #[] #[])) valRep_opens 0 rfl rfl rfl (freshS_eq rfl) rfl rfl rfl rfl tM_59 trivial (by rw [eq_of_beq hq12_2]; rfl) (u := fun _ => .func (.func 39) #[] #[]) (fun _ => rfl) (v := fun _ => .func (.func 39) #[] #[]) (fun _ => rfl) (fun _ _ => ?_)
  refine wl_pure rfl rfl rfl (freshS_eq rfl) rfl ?_
  refine wl_nil ?_
  refine we_then ?_
  refine wc_keep [2] (S' := [_]) rfl ?_
  refine wc_ret ?_
  have hE := (Option.some.inj hm).symm
  replace hE := Sum.inr.inj hE
  replace hE := Sum.inr.inj hE
  replace hE := Sum.inl.inj hE
  refine ret_one (Hr := []) [] Tryd.results24 (res_tmp rfl) ⟨rfl, rfl, rfl⟩ (fun _ _ hφ => ask [] rfl hφ) rfl rfl (.inl rfl)
 rcases ite_some hm with ⟨hq12_3, hm⟩ | ⟨hq12_3, hm⟩
 ·
  refine wl_lookYesE (i := a0) (a := (.func (.func 40) #[] #[])) valRep_opens 0 rfl rfl rfl (freshS_eq rfl) rfl rfl rfl rfl tM_59 trivial (by rw [eq_of_beq hq12_3]; rfl) (u := fun _ => .func (.func 40) #[] #[]) (fun _ => rfl) (v := fun _ => .func (.func 40) #[] #[]) (fun _ => rfl) (fun _ _ => ?_)
  refine wl_pure rfl rfl rfl (freshS_eq rfl) rfl ?_
  refine wl_nil ?_
  refine we_then ?_
  refine wc_keep [2] (S' := [_]) rfl ?_
  refine wc_ret ?_
  have hE := (Option.some.inj hm).symm
  cases hE
 rcases ite_some hm with ⟨hq12_4, hm⟩ | ⟨hq12_4, hm⟩
 ·
  refine wl_lookYesE (i := a0) (a := (.func (.func 41) #[] #[.pointer (some ⟨g3, 0, none⟩)])) valRep_opens 0 rfl rfl rfl (freshS_eq rfl) rfl rfl rfl rfl tM_59 trivial (by rw [eq_of_beq hq12_4]; rfl) (u := fun _ => .func (.func 41) #[] #[.pointer (some ⟨g3, 0, none⟩)]) (fun _ => rfl) (v := fun _ => .func (.func 41) #[] #[.pointer (some ⟨g3, 0, none⟩)]) (fun _ => rfl) (fun _ _ => ?_)
  refine wl_pure rfl rfl rfl (freshS_eq rfl) rfl ?_
  refine wl_nil ?_
  refine we_then ?_
  refine wc_keep [2] (S' := [_]) rfl ?_
  refine wc_ret ?_
  have hE := (Option.some.inj hm).symm
  cases hE
 rcases ite_some hm with ⟨hq12_5, hm⟩ | ⟨hq12_5, hm⟩
 ·
  refine wl_lookYesE (i := a0) (a := (.func (.func 42) #[] #[.pointer (some ⟨g3, 0, none⟩)])) valRep_opens 0 rfl rfl rfl (freshS_eq rfl) rfl rfl rfl rfl tM_59 trivial (by rw [eq_of_beq hq12_5]; rfl) (u := fun _ => .func (.func 42) #[] #[.pointer (some ⟨g3, 0, none⟩)]) (fun _ => rfl) (v := fun _ => .func (.func 42) #[] #[.pointer (some ⟨g3, 0, none⟩)]) (fun _ => rfl) (fun _ _ => ?_)
  refine wl_pure rfl rfl rfl (freshS_eq rfl) rfl ?_
  refine wl_nil ?_
  refine we_then ?_
  refine wc_keep [2] (S' := [_]) rfl ?_
  refine wc_ret ?_
  have hE := (Option.some.inj hm).symm
  cases hE
 rcases ite_some hm with ⟨hq12_6, hm⟩ | ⟨hq12_6, hm⟩
 ·
  refine wl_lookYesE (i := a0) (a := (.func (.func 43) #[] #[.pointer (some ⟨g3, 0, none⟩)])) valRep_opens 0 rfl rfl rfl (freshS_eq rfl) rfl rfl rfl rfl tM_59 trivial (by rw [eq_of_beq hq12_6]; rfl) (u := fun _ => .func (.func 43) #[] #[.pointer (some ⟨g3, 0, none⟩)]) (fun _ => rfl) (v := fun _ => .func (.func 43) #[] #[.pointer (some ⟨g3, 0, none⟩)]) (fun _ => rfl) (fun _ _ => ?_)
  refine wl_pure rfl rfl rfl (freshS_eq rfl) rfl ?_
  refine wl_nil ?_
  refine we_then ?_
  refine wc_keep [2] (S' := [_]) rfl ?_
  refine wc_ret ?_
  have hE := (Option.some.inj hm).symm
  cases hE
 rcases ite_some hm with ⟨hq12_7, hm⟩ | ⟨hq12_7, hm⟩
 ·
  refine wl_lookYesE (i := a0) (a := (.func (.func 44) #[] #[.pointer (some ⟨g3, 0, none⟩)])) valRep_opens 0 rfl rfl rfl (freshS_eq rfl) rfl rfl rfl rfl tM_59 trivial (by rw [eq_of_beq hq12_7]; rfl) (u := fun _ => .func (.func 44) #[] #[.pointer (some ⟨g3, 0, none⟩)]) (fun _ => rfl) (v := fun _ => .func (.func 44) #[] #[.pointer (some ⟨g3, 0, none⟩)]) (fun _ => rfl) (fun _ _ => ?_)
  refine wl_pure rfl rfl rfl (freshS_eq rfl) rfl ?_
  refine wl_nil ?_
  refine we_then ?_
  refine wc_keep [2] (S' := [_]) rfl ?_
  refine wc_ret ?_
  have hE := (Option.some.inj hm).symm
  cases hE
 rcases ite_some hm with ⟨hq12_8, hm⟩ | ⟨hq12_8, hm⟩
 ·
  refine wl_lookYesE (i := a0) (a := (.func (.func 45) #[] #[.pointer (some ⟨g3, 0, none⟩)])) valRep_opens 0 rfl rfl rfl (freshS_eq rfl) rfl rfl rfl rfl tM_59 trivial (by rw [eq_of_beq hq12_8]; rfl) (u := fun _ => .func (.func 45) #[] #[.pointer (some ⟨g3, 0, none⟩)]) (fun _ => rfl) (v := fun _ => .func (.func 45) #[] #[.pointer (some ⟨g3, 0, none⟩)]) (fun _ => rfl) (fun _ _ => ?_)
  refine wl_pure rfl rfl rfl (freshS_eq rfl) rfl ?_
  refine wl_nil ?_
  refine we_then ?_
  refine wc_keep [2] (S' := [_]) rfl ?_
  refine wc_ret ?_
  have hE := (Option.some.inj hm).symm
  cases hE
 ·
  refine wl_lookNoE (i := a0) 0 rfl rfl rfl (freshS_eq rfl) rfl rfl rfl rfl tZ_47 tM_59 trivial (by simp [mlook, (ne_of_beq_false hq12_0).symm, (ne_of_beq_false hq12_1).symm, (ne_of_beq_false hq12_2).symm, (ne_of_beq_false hq12_3).symm, (ne_of_beq_false hq12_4).symm, (ne_of_beq_false hq12_5).symm, (ne_of_beq_false hq12_6).symm, (ne_of_beq_false hq12_7).symm, (ne_of_beq_false hq12_8).symm]) (v := .nilFunc) rfl ?_
  refine wl_pure rfl rfl rfl (freshS_eq rfl) rfl ?_
  refine wl_nil ?_
  refine we_then ?_
  refine wc_keep [2] (S' := [_]) rfl ?_
  refine wc_ret ?_
  have hE := (Option.some.inj hm).symm
  cases hE
set_option maxRecDepth 100000 in
set_option maxHeartbeats 4000000 in
theorem w_value_does_s3 (N : Nat) (a0 : Int)  (hm : m_value_does N a0 = some (.inr (.inr (.inr (.inl ()))))) : Spec Tryd.prog 24 [.int .u8 a0] [tabF Tryd.prog "internal/strconv.uint64pow10" .u64 Lib.pow10Tab 1 pow10_g] [] (fun v Φr Hr => v = .func (.func 40) #[] #[] ∧ Φr = [] ∧ Hr = []) := by
 unfold m_value_does at hm
 refine spec_of Tryd.func24 rfl Tryd.ntmps24 rfl (S := [_]) rfl (fun C => ?_)
 refine wc_seq ?_
 refine wc_region ?_
 refine wl_pure rfl rfl rfl (freshS_eq rfl) rfl ?_
 refine wl_nil ?_
 refine we_then ?_
 refine wc_keep [0] (S' := [_]) rfl ?_
 refine wc_seq ?_
 refine wc_region ?_
 refine wl_alloc rfl rfl rfl (freshS_eq rfl) rfl tZ_58 rfl (fun g3 => ?_)
 refine wl_store 0 0 rfl rfl rfl rfl rfl rfl rfl tS_58 rfl rfl rfl (all' := [_]) rfl (H' := [_]) rfl ?_
 refine wl_nil ?_
 refine we_then ?_
 refine wc_seq ?_
 refine wc_region ?_
 refine wl_makeMapE (keyInt (tInt_run tI_22)) false valRep rfl rfl rfl (freshS_eq rfl) rfl (fun g4 => ?_)
 refine wl_mapPutE (i := 1) (u := .func (.func 37) #[] #[]) (cs := [.func (.func 37) #[] #[]]) 0 rfl rfl (.inr rfl) rfl rfl rfl rfl tM_59 trivial rfl (fun F w hφ => ⟨rfl, rfl⟩) (H' := [mapE (keyInt (tInt_run tI_22)) false valRep g4 ([(1, .func (.func 37) #[] #[])]), .blk g3 [.func (.func 36) #[] #[]] 58]) rfl ?_
 refine wl_mapPutE (i := 2) (u := .func (.func 38) #[] #[]) (cs := [.func (.func 38) #[] #[]]) 0 rfl rfl (.inr rfl) rfl rfl rfl rfl tM_59 trivial rfl (fun F w hφ => ⟨rfl, rfl⟩) (H' := [mapE (keyInt (tInt_run tI_22)) false valRep g4 ([(1, .func (.func 37) #[] #[]), (2, .func (.func 38) #[] #[])]), .blk g3 [.func (.func 36) #[] #[]] 58]) rfl ?_
 refine wl_mapPutE (i := 3) (u := .func (.func 39) #[] #[]) (cs := [.func (.func 39) #[] #[]]) 0 rfl rfl (.inr rfl) rfl rfl rfl rfl tM_59 trivial rfl (fun F w hφ => ⟨rfl, rfl⟩) (H' := [mapE (keyInt (tInt_run tI_22)) false valRep g4 ([(1, .func (.func 37) #[] #[]), (2, .func (.func 38) #[] #[]), (3, .func (.func 39) #[] #[])]), .blk g3 [.func (.func 36) #[] #[]] 58]) rfl ?_
 refine wl_mapPutE (i := 4) (u := .func (.func 40) #[] #[]) (cs := [.func (.func 40) #[] #[]]) 0 rfl rfl (.inr rfl) rfl rfl rfl rfl tM_59 trivial rfl (fun F w hφ => ⟨rfl, rfl⟩) (H' := [mapE (keyInt (tInt_run tI_22)) false valRep g4 ([(1, .func (.func 37) #[] #[]), (2, .func (.func 38) #[] #[]), (3, .func (.func 39) #[] #[]), (4, .func (.func 40) #[] #[])]), .blk g3 [.func (.func 36) #[] #[]] 58]) rfl ?_
 refine wl_makeFunc rfl rfl rfl (freshS_eq rfl) rfl rfl ?_
 refine wl_mapPutE (i := 7) (u := .func (.func 41) #[] #[.pointer (some ⟨g3, 0, none⟩)]) (cs := [.func (.func 41) #[] #[.pointer (some ⟨g3, 0, none⟩)]]) 0 rfl rfl (.inr rfl) rfl rfl rfl rfl tM_59 trivial rfl (fun F w hφ => ⟨rfl, rfl⟩) (H' := [mapE (keyInt (tInt_run tI_22)) false valRep g4 ([(1, .func (.func 37) #[] #[]), (2, .func (.func 38) #[] #[]), (3, .func (.func 39) #[] #[]), (4, .func (.func 40) #[] #[]), (7, .func (.func 41) #[] #[.pointer (some ⟨g3, 0, none⟩)])]), .blk g3 [.func (.func 36) #[] #[]] 58]) rfl ?_
 refine wl_makeFunc rfl rfl rfl (freshS_eq rfl) rfl rfl ?_
 refine wl_mapPutE (i := 8) (u := .func (.func 42) #[] #[.pointer (some ⟨g3, 0, none⟩)]) (cs := [.func (.func 42) #[] #[.pointer (some ⟨g3, 0, none⟩)]]) 0 rfl rfl (.inr rfl) rfl rfl rfl rfl tM_59 trivial rfl (fun F w hφ => ⟨rfl, rfl⟩) (H' := [mapE (keyInt (tInt_run tI_22)) false valRep g4 ([(1, .func (.func 37) #[] #[]), (2, .func (.func 38) #[] #[]), (3, .func (.func 39) #[] #[]), (4, .func (.func 40) #[] #[]), (7, .func (.func 41) #[] #[.pointer (some ⟨g3, 0, none⟩)]), (8, .func (.func 42) #[] #[.pointer (some ⟨g3, 0, none⟩)])]), .blk g3 [.func (.func 36) #[] #[]] 58]) rfl ?_
 refine wl_makeFunc rfl rfl rfl (freshS_eq rfl) rfl rfl ?_
 refine wl_mapPutE (i := 9) (u := .func (.func 43) #[] #[.pointer (some ⟨g3, 0, none⟩)]) (cs := [.func (.func 43) #[] #[.pointer (some ⟨g3, 0, none⟩)]]) 0 rfl rfl (.inr rfl) rfl rfl rfl rfl tM_59 trivial rfl (fun F w hφ => ⟨rfl, rfl⟩) (H' := [mapE (keyInt (tInt_run tI_22)) false valRep g4 ([(1, .func (.func 37) #[] #[]), (2, .func (.func 38) #[] #[]), (3, .func (.func 39) #[] #[]), (4, .func (.func 40) #[] #[]), (7, .func (.func 41) #[] #[.pointer (some ⟨g3, 0, none⟩)]), (8, .func (.func 42) #[] #[.pointer (some ⟨g3, 0, none⟩)]), (9, .func (.func 43) #[] #[.pointer (some ⟨g3, 0, none⟩)])]), .blk g3 [.func (.func 36) #[] #[]] 58]) rfl ?_
 refine wl_makeFunc rfl rfl rfl (freshS_eq rfl) rfl rfl ?_
 refine wl_mapPutE (i := 10) (u := .func (.func 44) #[] #[.pointer (some ⟨g3, 0, none⟩)]) (cs := [.func (.func 44) #[] #[.pointer (some ⟨g3, 0, none⟩)]]) 0 rfl rfl (.inr rfl) rfl rfl rfl rfl tM_59 trivial rfl (fun F w hφ => ⟨rfl, rfl⟩) (H' := [mapE (keyInt (tInt_run tI_22)) false valRep g4 ([(1, .func (.func 37) #[] #[]), (2, .func (.func 38) #[] #[]), (3, .func (.func 39) #[] #[]), (4, .func (.func 40) #[] #[]), (7, .func (.func 41) #[] #[.pointer (some ⟨g3, 0, none⟩)]), (8, .func (.func 42) #[] #[.pointer (some ⟨g3, 0, none⟩)]), (9, .func (.func 43) #[] #[.pointer (some ⟨g3, 0, none⟩)]), (10, .func (.func 44) #[] #[.pointer (some ⟨g3, 0, none⟩)])]), .blk g3 [.func (.func 36) #[] #[]] 58]) rfl ?_
 refine wl_makeFunc rfl rfl rfl (freshS_eq rfl) rfl rfl ?_
 refine wl_mapPutE (i := 11) (u := .func (.func 45) #[] #[.pointer (some ⟨g3, 0, none⟩)]) (cs := [.func (.func 45) #[] #[.pointer (some ⟨g3, 0, none⟩)]]) 0 rfl rfl (.inr rfl) rfl rfl rfl rfl tM_59 trivial rfl (fun F w hφ => ⟨rfl, rfl⟩) (H' := [mapE (keyInt (tInt_run tI_22)) false valRep g4 ([(1, .func (.func 37) #[] #[]), (2, .func (.func 38) #[] #[]), (3, .func (.func 39) #[] #[]), (4, .func (.func 40) #[] #[]), (7, .func (.func 41) #[] #[.pointer (some ⟨g3, 0, none⟩)]), (8, .func (.func 42) #[] #[.pointer (some ⟨g3, 0, none⟩)]), (9, .func (.func 43) #[] #[.pointer (some ⟨g3, 0, none⟩)]), (10, .func (.func 44) #[] #[.pointer (some ⟨g3, 0, none⟩)]), (11, .func (.func 45) #[] #[.pointer (some ⟨g3, 0, none⟩)])]), .blk g3 [.func (.func 36) #[] #[]] 58]) rfl ?_
 refine wl_pure rfl rfl rfl (freshS_eq rfl) rfl ?_
 refine wl_pure rfl rfl rfl (freshS_eq rfl) rfl ?_
 rcases ite_some hm with ⟨hq12_0, hm⟩ | ⟨hq12_0, hm⟩
 ·
  refine wl_lookYesE (i := a0) (a := (.func (.func 37) #[] #[])) valRep_opens 0 rfl rfl rfl (freshS_eq rfl) rfl rfl rfl rfl tM_59 trivial (by rw [eq_of_beq hq12_0]; rfl) (u := fun _ => .func (.func 37) #[] #[]) (fun _ => rfl) (v := fun _ => .func (.func 37) #[] #[]) (fun _ => rfl) (fun _ _ => ?_)
  refine wl_pure rfl rfl rfl (freshS_eq rfl) rfl ?_
  refine wl_nil ?_
  refine we_then ?_
  refine wc_keep [2] (S' := [_]) rfl ?_
  refine wc_ret ?_
  have hE := (Option.some.inj hm).symm
  cases hE
 rcases ite_some hm with ⟨hq12_1, hm⟩ | ⟨hq12_1, hm⟩
 ·
  refine wl_lookYesE (i := a0) (a := (.func (.func 38) #[] #[])) valRep_opens 0 rfl rfl rfl (freshS_eq rfl) rfl rfl rfl rfl tM_59 trivial (by rw [eq_of_beq hq12_1]; rfl) (u := fun _ => .func (.func 38) #[] #[]) (fun _ => rfl) (v := fun _ => .func (.func 38) #[] #[]) (fun _ => rfl) (fun _ _ => ?_)
  refine wl_pure rfl rfl rfl (freshS_eq rfl) rfl ?_
  refine wl_nil ?_
  refine we_then ?_
  refine wc_keep [2] (S' := [_]) rfl ?_
  refine wc_ret ?_
  have hE := (Option.some.inj hm).symm
  cases hE
 rcases ite_some hm with ⟨hq12_2, hm⟩ | ⟨hq12_2, hm⟩
 ·
  refine wl_lookYesE (i := a0) (a := (.func (.func 39) #[] #[])) valRep_opens 0 rfl rfl rfl (freshS_eq rfl) rfl rfl rfl rfl tM_59 trivial (by rw [eq_of_beq hq12_2]; rfl) (u := fun _ => .func (.func 39) #[] #[]) (fun _ => rfl) (v := fun _ => .func (.func 39) #[] #[]) (fun _ => rfl) (fun _ _ => ?_)
  refine wl_pure rfl rfl rfl (freshS_eq rfl) rfl ?_
  refine wl_nil ?_
  refine we_then ?_
  refine wc_keep [2] (S' := [_]) rfl ?_
  refine wc_ret ?_
  have hE := (Option.some.inj hm).symm
  cases hE
 rcases ite_some hm with ⟨hq12_3, hm⟩ | ⟨hq12_3, hm⟩
 ·
  refine wl_lookYesE (i := a0) (a := (.func (.func 40) #[] #[])) valRep_opens 0 rfl rfl rfl (freshS_eq rfl) rfl rfl rfl rfl tM_59 trivial (by rw [eq_of_beq hq12_3]; rfl) (u := fun _ => .func (.func 40) #[] #[]) (fun _ => rfl) (v := fun _ => .func (.func 40) #[] #[]) (fun _ => rfl) (fun _ _ => ?_)
  refine wl_pure rfl rfl rfl (freshS_eq rfl) rfl ?_
  refine wl_nil ?_
  refine we_then ?_
  refine wc_keep [2] (S' := [_]) rfl ?_
  refine wc_ret ?_
  have hE := (Option.some.inj hm).symm
  replace hE := Sum.inr.inj hE
  replace hE := Sum.inr.inj hE
  replace hE := Sum.inr.inj hE
  replace hE := Sum.inl.inj hE
  refine ret_one (Hr := []) [] Tryd.results24 (res_tmp rfl) ⟨rfl, rfl, rfl⟩ (fun _ _ hφ => ask [] rfl hφ) rfl rfl (.inl rfl)
 rcases ite_some hm with ⟨hq12_4, hm⟩ | ⟨hq12_4, hm⟩
 ·
  refine wl_lookYesE (i := a0) (a := (.func (.func 41) #[] #[.pointer (some ⟨g3, 0, none⟩)])) valRep_opens 0 rfl rfl rfl (freshS_eq rfl) rfl rfl rfl rfl tM_59 trivial (by rw [eq_of_beq hq12_4]; rfl) (u := fun _ => .func (.func 41) #[] #[.pointer (some ⟨g3, 0, none⟩)]) (fun _ => rfl) (v := fun _ => .func (.func 41) #[] #[.pointer (some ⟨g3, 0, none⟩)]) (fun _ => rfl) (fun _ _ => ?_)
  refine wl_pure rfl rfl rfl (freshS_eq rfl) rfl ?_
  refine wl_nil ?_
  refine we_then ?_
  refine wc_keep [2] (S' := [_]) rfl ?_
  refine wc_ret ?_
  have hE := (Option.some.inj hm).symm
  cases hE
 rcases ite_some hm with ⟨hq12_5, hm⟩ | ⟨hq12_5, hm⟩
 ·
  refine wl_lookYesE (i := a0) (a := (.func (.func 42) #[] #[.pointer (some ⟨g3, 0, none⟩)])) valRep_opens 0 rfl rfl rfl (freshS_eq rfl) rfl rfl rfl rfl tM_59 trivial (by rw [eq_of_beq hq12_5]; rfl) (u := fun _ => .func (.func 42) #[] #[.pointer (some ⟨g3, 0, none⟩)]) (fun _ => rfl) (v := fun _ => .func (.func 42) #[] #[.pointer (some ⟨g3, 0, none⟩)]) (fun _ => rfl) (fun _ _ => ?_)
  refine wl_pure rfl rfl rfl (freshS_eq rfl) rfl ?_
  refine wl_nil ?_
  refine we_then ?_
  refine wc_keep [2] (S' := [_]) rfl ?_
  refine wc_ret ?_
  have hE := (Option.some.inj hm).symm
  cases hE
 rcases ite_some hm with ⟨hq12_6, hm⟩ | ⟨hq12_6, hm⟩
 ·
  refine wl_lookYesE (i := a0) (a := (.func (.func 43) #[] #[.pointer (some ⟨g3, 0, none⟩)])) valRep_opens 0 rfl rfl rfl (freshS_eq rfl) rfl rfl rfl rfl tM_59 trivial (by rw [eq_of_beq hq12_6]; rfl) (u := fun _ => .func (.func 43) #[] #[.pointer (some ⟨g3, 0, none⟩)]) (fun _ => rfl) (v := fun _ => .func (.func 43) #[] #[.pointer (some ⟨g3, 0, none⟩)]) (fun _ => rfl) (fun _ _ => ?_)
  refine wl_pure rfl rfl rfl (freshS_eq rfl) rfl ?_
  refine wl_nil ?_
  refine we_then ?_
  refine wc_keep [2] (S' := [_]) rfl ?_
  refine wc_ret ?_
  have hE := (Option.some.inj hm).symm
  cases hE
 rcases ite_some hm with ⟨hq12_7, hm⟩ | ⟨hq12_7, hm⟩
 ·
  refine wl_lookYesE (i := a0) (a := (.func (.func 44) #[] #[.pointer (some ⟨g3, 0, none⟩)])) valRep_opens 0 rfl rfl rfl (freshS_eq rfl) rfl rfl rfl rfl tM_59 trivial (by rw [eq_of_beq hq12_7]; rfl) (u := fun _ => .func (.func 44) #[] #[.pointer (some ⟨g3, 0, none⟩)]) (fun _ => rfl) (v := fun _ => .func (.func 44) #[] #[.pointer (some ⟨g3, 0, none⟩)]) (fun _ => rfl) (fun _ _ => ?_)
  refine wl_pure rfl rfl rfl (freshS_eq rfl) rfl ?_
  refine wl_nil ?_
  refine we_then ?_
  refine wc_keep [2] (S' := [_]) rfl ?_
  refine wc_ret ?_
  have hE := (Option.some.inj hm).symm
  cases hE
 rcases ite_some hm with ⟨hq12_8, hm⟩ | ⟨hq12_8, hm⟩
 ·
  refine wl_lookYesE (i := a0) (a := (.func (.func 45) #[] #[.pointer (some ⟨g3, 0, none⟩)])) valRep_opens 0 rfl rfl rfl (freshS_eq rfl) rfl rfl rfl rfl tM_59 trivial (by rw [eq_of_beq hq12_8]; rfl) (u := fun _ => .func (.func 45) #[] #[.pointer (some ⟨g3, 0, none⟩)]) (fun _ => rfl) (v := fun _ => .func (.func 45) #[] #[.pointer (some ⟨g3, 0, none⟩)]) (fun _ => rfl) (fun _ _ => ?_)
  refine wl_pure rfl rfl rfl (freshS_eq rfl) rfl ?_
  refine wl_nil ?_
  refine we_then ?_
  refine wc_keep [2] (S' := [_]) rfl ?_
  refine wc_ret ?_
  have hE := (Option.some.inj hm).symm
  cases hE
 ·
  refine wl_lookNoE (i := a0) 0 rfl rfl rfl (freshS_eq rfl) rfl rfl rfl rfl tZ_47 tM_59 trivial (by simp [mlook, (ne_of_beq_false hq12_0).symm, (ne_of_beq_false hq12_1).symm, (ne_of_beq_false hq12_2).symm, (ne_of_beq_false hq12_3).symm, (ne_of_beq_false hq12_4).symm, (ne_of_beq_false hq12_5).symm, (ne_of_beq_false hq12_6).symm, (ne_of_beq_false hq12_7).symm, (ne_of_beq_false hq12_8).symm]) (v := .nilFunc) rfl ?_
  refine wl_pure rfl rfl rfl (freshS_eq rfl) rfl ?_
  refine wl_nil ?_
  refine we_then ?_
  refine wc_keep [2] (S' := [_]) rfl ?_
  refine wc_ret ?_
  have hE := (Option.some.inj hm).symm
  cases hE
set_option maxRecDepth 100000 in
set_option maxHeartbeats 4000000 in
theorem w_value_does_s4 (N : Nat) (a0 : Int)  (hm : m_value_does N a0 = some (.inr (.inr (.inr (.inr (.inl ())))))) : Spec Tryd.prog 24 [.int .u8 a0] [tabF Tryd.prog "internal/strconv.uint64pow10" .u64 Lib.pow10Tab 1 pow10_g] [] (fun v Φr Hr => ∃ (o0 : Nat), v = .func (.func 41) #[] #[.pointer (some ⟨o0, 0, none⟩)] ∧ Φr = [] ∧ Hr = [.blk o0 [.func (.func 36) #[] #[]] 58]) := by
 unfold m_value_does at hm
 refine spec_of Tryd.func24 rfl Tryd.ntmps24 rfl (S := [_]) rfl (fun C => ?_)
 refine wc_seq ?_
 refine wc_region ?_
 refine wl_pure rfl rfl rfl (freshS_eq rfl) rfl ?_
 refine wl_nil ?_
 refine we_then ?_
 refine wc_keep [0] (S' := [_]) rfl ?_
 refine wc_seq ?_
 refine wc_region ?_
 refine wl_alloc rfl rfl rfl (freshS_eq rfl) rfl tZ_58 rfl (fun g3 => ?_)
 refine wl_store 0 0 rfl rfl rfl rfl rfl rfl rfl tS_58 rfl rfl rfl (all' := [_]) rfl (H' := [_]) rfl ?_
 refine wl_nil ?_
 refine we_then ?_
 refine wc_seq ?_
 refine wc_region ?_
 refine wl_makeMapE (keyInt (tInt_run tI_22)) false valRep rfl rfl rfl (freshS_eq rfl) rfl (fun g4 => ?_)
 refine wl_mapPutE (i := 1) (u := .func (.func 37) #[] #[]) (cs := [.func (.func 37) #[] #[]]) 0 rfl rfl (.inr rfl) rfl rfl rfl rfl tM_59 trivial rfl (fun F w hφ => ⟨rfl, rfl⟩) (H' := [mapE (keyInt (tInt_run tI_22)) false valRep g4 ([(1, .func (.func 37) #[] #[])]), .blk g3 [.func (.func 36) #[] #[]] 58]) rfl ?_
 refine wl_mapPutE (i := 2) (u := .func (.func 38) #[] #[]) (cs := [.func (.func 38) #[] #[]]) 0 rfl rfl (.inr rfl) rfl rfl rfl rfl tM_59 trivial rfl (fun F w hφ => ⟨rfl, rfl⟩) (H' := [mapE (keyInt (tInt_run tI_22)) false valRep g4 ([(1, .func (.func 37) #[] #[]), (2, .func (.func 38) #[] #[])]), .blk g3 [.func (.func 36) #[] #[]] 58]) rfl ?_
 refine wl_mapPutE (i := 3) (u := .func (.func 39) #[] #[]) (cs := [.func (.func 39) #[] #[]]) 0 rfl rfl (.inr rfl) rfl rfl rfl rfl tM_59 trivial rfl (fun F w hφ => ⟨rfl, rfl⟩) (H' := [mapE (keyInt (tInt_run tI_22)) false valRep g4 ([(1, .func (.func 37) #[] #[]), (2, .func (.func 38) #[] #[]), (3, .func (.func 39) #[] #[])]), .blk g3 [.func (.func 36) #[] #[]] 58]) rfl ?_
 refine wl_mapPutE (i := 4) (u := .func (.func 40) #[] #[]) (cs := [.func (.func 40) #[] #[]]) 0 rfl rfl (.inr rfl) rfl rfl rfl rfl tM_59 trivial rfl (fun F w hφ => ⟨rfl, rfl⟩) (H' := [mapE (keyInt (tInt_run tI_22)) false valRep g4 ([(1, .func (.func 37) #[] #[]), (2, .func (.func 38) #[] #[]), (3, .func (.func 39) #[] #[]), (4, .func (.func 40) #[] #[])]), .blk g3 [.func (.func 36) #[] #[]] 58]) rfl ?_
 refine wl_makeFunc rfl rfl rfl (freshS_eq rfl) rfl rfl ?_
 refine wl_mapPutE (i := 7) (u := .func (.func 41) #[] #[.pointer (some ⟨g3, 0, none⟩)]) (cs := [.func (.func 41) #[] #[.pointer (some ⟨g3, 0, none⟩)]]) 0 rfl rfl (.inr rfl) rfl rfl rfl rfl tM_59 trivial rfl (fun F w hφ => ⟨rfl, rfl⟩) (H' := [mapE (keyInt (tInt_run tI_22)) false valRep g4 ([(1, .func (.func 37) #[] #[]), (2, .func (.func 38) #[] #[]), (3, .func (.func 39) #[] #[]), (4, .func (.func 40) #[] #[]), (7, .func (.func 41) #[] #[.pointer (some ⟨g3, 0, none⟩)])]), .blk g3 [.func (.func 36) #[] #[]] 58]) rfl ?_
 refine wl_makeFunc rfl rfl rfl (freshS_eq rfl) rfl rfl ?_
 refine wl_mapPutE (i := 8) (u := .func (.func 42) #[] #[.pointer (some ⟨g3, 0, none⟩)]) (cs := [.func (.func 42) #[] #[.pointer (some ⟨g3, 0, none⟩)]]) 0 rfl rfl (.inr rfl) rfl rfl rfl rfl tM_59 trivial rfl (fun F w hφ => ⟨rfl, rfl⟩) (H' := [mapE (keyInt (tInt_run tI_22)) false valRep g4 ([(1, .func (.func 37) #[] #[]), (2, .func (.func 38) #[] #[]), (3, .func (.func 39) #[] #[]), (4, .func (.func 40) #[] #[]), (7, .func (.func 41) #[] #[.pointer (some ⟨g3, 0, none⟩)]), (8, .func (.func 42) #[] #[.pointer (some ⟨g3, 0, none⟩)])]), .blk g3 [.func (.func 36) #[] #[]] 58]) rfl ?_
 refine wl_makeFunc rfl rfl rfl (freshS_eq rfl) rfl rfl ?_
 refine wl_mapPutE (i := 9) (u := .func (.func 43) #[] #[.pointer (some ⟨g3, 0, none⟩)]) (cs := [.func (.func 43) #[] #[.pointer (some ⟨g3, 0, none⟩)]]) 0 rfl rfl (.inr rfl) rfl rfl rfl rfl tM_59 trivial rfl (fun F w hφ => ⟨rfl, rfl⟩) (H' := [mapE (keyInt (tInt_run tI_22)) false valRep g4 ([(1, .func (.func 37) #[] #[]), (2, .func (.func 38) #[] #[]), (3, .func (.func 39) #[] #[]), (4, .func (.func 40) #[] #[]), (7, .func (.func 41) #[] #[.pointer (some ⟨g3, 0, none⟩)]), (8, .func (.func 42) #[] #[.pointer (some ⟨g3, 0, none⟩)]), (9, .func (.func 43) #[] #[.pointer (some ⟨g3, 0, none⟩)])]), .blk g3 [.func (.func 36) #[] #[]] 58]) rfl ?_
 refine wl_makeFunc rfl rfl rfl (freshS_eq rfl) rfl rfl ?_
 refine wl_mapPutE (i := 10) (u := .func (.func 44) #[] #[.pointer (some ⟨g3, 0, none⟩)]) (cs := [.func (.func 44) #[] #[.pointer (some ⟨g3, 0, none⟩)]]) 0 rfl rfl (.inr rfl) rfl rfl rfl rfl tM_59 trivial rfl (fun F w hφ => ⟨rfl, rfl⟩) (H' := [mapE (keyInt (tInt_run tI_22)) false valRep g4 ([(1, .func (.func 37) #[] #[]), (2, .func (.func 38) #[] #[]), (3, .func (.func 39) #[] #[]), (4, .func (.func 40) #[] #[]), (7, .func (.func 41) #[] #[.pointer (some ⟨g3, 0, none⟩)]), (8, .func (.func 42) #[] #[.pointer (some ⟨g3, 0, none⟩)]), (9, .func (.func 43) #[] #[.pointer (some ⟨g3, 0, none⟩)]), (10, .func (.func 44) #[] #[.pointer (some ⟨g3, 0, none⟩)])]), .blk g3 [.func (.func 36) #[] #[]] 58]) rfl ?_
 refine wl_makeFunc rfl rfl rfl (freshS_eq rfl) rfl rfl ?_
 refine wl_mapPutE (i := 11) (u := .func (.func 45) #[] #[.pointer (some ⟨g3, 0, none⟩)]) (cs := [.func (.func 45) #[] #[.pointer (some ⟨g3, 0, none⟩)]]) 0 rfl rfl (.inr rfl) rfl rfl rfl rfl tM_59 trivial rfl (fun F w hφ => ⟨rfl, rfl⟩) (H' := [mapE (keyInt (tInt_run tI_22)) false valRep g4 ([(1, .func (.func 37) #[] #[]), (2, .func (.func 38) #[] #[]), (3, .func (.func 39) #[] #[]), (4, .func (.func 40) #[] #[]), (7, .func (.func 41) #[] #[.pointer (some ⟨g3, 0, none⟩)]), (8, .func (.func 42) #[] #[.pointer (some ⟨g3, 0, none⟩)]), (9, .func (.func 43) #[] #[.pointer (some ⟨g3, 0, none⟩)]), (10, .func (.func 44) #[] #[.pointer (some ⟨g3, 0, none⟩)]), (11, .func (.func 45) #[] #[.pointer (some ⟨g3, 0, none⟩)])]), .blk g3 [.func (.func 36) #[] #[]] 58]) rfl ?_
 refine wl_pure rfl rfl rfl (freshS_eq rfl) rfl ?_
 refine wl_pure rfl rfl rfl (freshS_eq rfl) rfl ?_
 rcases ite_some hm with ⟨hq12_0, hm⟩ | ⟨hq12_0, hm⟩
 ·
  refine wl_lookYesE (i := a0) (a := (.func (.func 37) #[] #[])) valRep_opens 0 rfl rfl rfl (freshS_eq rfl) rfl rfl rfl rfl tM_59 trivial (by rw [eq_of_beq hq12_0]; rfl) (u := fun _ => .func (.func 37) #[] #[]) (fun _ => rfl) (v := fun _ => .func (.func 37) #[] #[]) (fun _ => rfl) (fun _ _ => ?_)
  refine wl_pure rfl rfl rfl (freshS_eq rfl) rfl ?_
  refine wl_nil ?_
  refine we_then ?_
  refine wc_keep [2] (S' := [_]) rfl ?_
  refine wc_ret ?_
  have hE := (Option.some.inj hm).symm
  cases hE
 rcases ite_some hm with ⟨hq12_1, hm⟩ | ⟨hq12_1, hm⟩
 ·
  refine wl_lookYesE (i := a0) (a := (.func (.func 38) #[] #[])) valRep_opens 0 rfl rfl rfl (freshS_eq rfl) rfl rfl rfl rfl tM_59 trivial (by rw [eq_of_beq hq12_1]; rfl) (u := fun _ => .func (.func 38) #[] #[]) (fun _ => rfl) (v := fun _ => .func (.func 38) #[] #[]) (fun _ => rfl) (fun _ _ => ?_)
  refine wl_pure rfl rfl rfl (freshS_eq rfl) rfl ?_
  refine wl_nil ?_
  refine we_then ?_
  refine wc_keep [2] (S' := [_]) rfl ?_
  refine wc_ret ?_
  have hE := (Option.some.inj hm).symm
  cases hE
 rcases ite_some hm with ⟨hq12_2, hm⟩ | ⟨hq12_2, hm⟩
 ·
  refine wl_lookYesE (i := a0) (a := (.func (.func 39) #[] #[])) valRep_opens 0 rfl rfl rfl (freshS_eq rfl) rfl rfl rfl rfl tM_59 trivial (by rw [eq_of_beq hq12_2]; rfl) (u := fun _ => .func (.func 39) #[] #[]) (fun _ => rfl) (v := fun _ => .func (.func 39) #[] #[]) (fun _ => rfl) (fun _ _ => ?_)
  refine wl_pure rfl rfl rfl (freshS_eq rfl) rfl ?_
  refine wl_nil ?_
  refine we_then ?_
  refine wc_keep [2] (S' := [_]) rfl ?_
  refine wc_ret ?_
  have hE := (Option.some.inj hm).symm
  cases hE
 rcases ite_some hm with ⟨hq12_3, hm⟩ | ⟨hq12_3, hm⟩
 ·
  refine wl_lookYesE (i := a0) (a := (.func (.func 40) #[] #[])) valRep_opens 0 rfl rfl rfl (freshS_eq rfl) rfl rfl rfl rfl tM_59 trivial (by rw [eq_of_beq hq12_3]; rfl) (u := fun _ => .func (.func 40) #[] #[]) (fun _ => rfl) (v := fun _ => .func (.func 40) #[] #[]) (fun _ => rfl) (fun _ _ => ?_)
  refine wl_pure rfl rfl rfl (freshS_eq rfl) rfl ?_
  refine wl_nil ?_
  refine we_then ?_
  refine wc_keep [2] (S' := [_]) rfl ?_
  refine wc_ret ?_
  have hE := (Option.some.inj hm).symm
  cases hE
 rcases ite_some hm with ⟨hq12_4, hm⟩ | ⟨hq12_4, hm⟩
 ·
  refine wl_lookYesE (i := a0) (a := (.func (.func 41) #[] #[.pointer (some ⟨g3, 0, none⟩)])) valRep_opens 0 rfl rfl rfl (freshS_eq rfl) rfl rfl rfl rfl tM_59 trivial (by rw [eq_of_beq hq12_4]; rfl) (u := fun _ => .func (.func 41) #[] #[.pointer (some ⟨g3, 0, none⟩)]) (fun _ => rfl) (v := fun _ => .func (.func 41) #[] #[.pointer (some ⟨g3, 0, none⟩)]) (fun _ => rfl) (fun _ _ => ?_)
  refine wl_pure rfl rfl rfl (freshS_eq rfl) rfl ?_
  refine wl_nil ?_
  refine we_then ?_
  refine wc_keep [2] (S' := [_]) rfl ?_
  refine wc_ret ?_
  have hE := (Option.some.inj hm).symm
  replace hE := Sum.inr.inj hE
  replace hE := Sum.inr.inj hE
  replace hE := Sum.inr.inj hE
  replace hE := Sum.inr.inj hE
  replace hE := Sum.inl.inj hE
  refine ret_one (Hr := [_]) [1] Tryd.results24 (res_tmp rfl) ⟨g3, rfl, rfl, rfl⟩ (fun _ _ hφ => ask [] rfl hφ) rfl rfl (.inl rfl)
 rcases ite_some hm with ⟨hq12_5, hm⟩ | ⟨hq12_5, hm⟩
 ·
  refine wl_lookYesE (i := a0) (a := (.func (.func 42) #[] #[.pointer (some ⟨g3, 0, none⟩)])) valRep_opens 0 rfl rfl rfl (freshS_eq rfl) rfl rfl rfl rfl tM_59 trivial (by rw [eq_of_beq hq12_5]; rfl) (u := fun _ => .func (.func 42) #[] #[.pointer (some ⟨g3, 0, none⟩)]) (fun _ => rfl) (v := fun _ => .func (.func 42) #[] #[.pointer (some ⟨g3, 0, none⟩)]) (fun _ => rfl) (fun _ _ => ?_)
  refine wl_pure rfl rfl rfl (freshS_eq rfl) rfl ?_
  refine wl_nil ?_
  refine we_then ?_
  refine wc_keep [2] (S' := [_]) rfl ?_
  refine wc_ret ?_
  have hE := (Option.some.inj hm).symm
  cases hE
 rcases ite_some hm with ⟨hq12_6, hm⟩ | ⟨hq12_6, hm⟩
 ·
  refine wl_lookYesE (i := a0) (a := (.func (.func 43) #[] #[.pointer (some ⟨g3, 0, none⟩)])) valRep_opens 0 rfl rfl rfl (freshS_eq rfl) rfl rfl rfl rfl tM_59 trivial (by rw [eq_of_beq hq12_6]; rfl) (u := fun _ => .func (.func 43) #[] #[.pointer (some ⟨g3, 0, none⟩)]) (fun _ => rfl) (v := fun _ => .func (.func 43) #[] #[.pointer (some ⟨g3, 0, none⟩)]) (fun _ => rfl) (fun _ _ => ?_)
  refine wl_pure rfl rfl rfl (freshS_eq rfl) rfl ?_
  refine wl_nil ?_
  refine we_then ?_
  refine wc_keep [2] (S' := [_]) rfl ?_
  refine wc_ret ?_
  have hE := (Option.some.inj hm).symm
  cases hE
 rcases ite_some hm with ⟨hq12_7, hm⟩ | ⟨hq12_7, hm⟩
 ·
  refine wl_lookYesE (i := a0) (a := (.func (.func 44) #[] #[.pointer (some ⟨g3, 0, none⟩)])) valRep_opens 0 rfl rfl rfl (freshS_eq rfl) rfl rfl rfl rfl tM_59 trivial (by rw [eq_of_beq hq12_7]; rfl) (u := fun _ => .func (.func 44) #[] #[.pointer (some ⟨g3, 0, none⟩)]) (fun _ => rfl) (v := fun _ => .func (.func 44) #[] #[.pointer (some ⟨g3, 0, none⟩)]) (fun _ => rfl) (fun _ _ => ?_)
  refine wl_pure rfl rfl rfl (freshS_eq rfl) rfl ?_
  refine wl_nil ?_
  refine we_then ?_
  refine wc_keep [2] (S' := [_]) rfl ?_
  refine wc_ret ?_
  have hE := (Option.some.inj hm).symm
  cases hE
 rcases ite_some hm with ⟨hq12_8, hm⟩ | ⟨hq12_8, hm⟩
 ·
  refine wl_lookYesE (i := a0) (a := (.func (.func 45) #[] #[.pointer (some ⟨g3, 0, none⟩)])) valRep_opens 0 rfl rfl rfl (freshS_eq rfl) rfl rfl rfl rfl tM_59 trivial (by rw [eq_of_beq hq12_8]; rfl) (u := fun _ => .func (.func 45) #[] #[.pointer (some ⟨g3, 0, none⟩)]) (fun _ => rfl) (v := fun _ => .func (.func 45) #[] #[.pointer (some ⟨g3, 0, none⟩)]) (fun _ => rfl) (fun _ _ => ?_)
  refine wl_pure rfl rfl rfl (freshS_eq rfl) rfl ?_
  refine wl_nil ?_
  refine we_then ?_
  refine wc_keep [2] (S' := [_]) rfl ?_
  refine wc_ret ?_
  have hE := (Option.some.inj hm).symm
  cases hE
 ·
  refine wl_lookNoE (i := a0) 0 rfl rfl rfl (freshS_eq rfl) rfl rfl rfl rfl tZ_47 tM_59 trivial (by simp [mlook, (ne_of_beq_false hq12_0).symm, (ne_of_beq_false hq12_1).symm, (ne_of_beq_false hq12_2).symm, (ne_of_beq_false hq12_3).symm, (ne_of_beq_false hq12_4).symm, (ne_of_beq_false hq12_5).symm, (ne_of_beq_false hq12_6).symm, (ne_of_beq_false hq12_7).symm, (ne_of_beq_false hq12_8).symm]) (v := .nilFunc) rfl ?_
  refine wl_pure rfl rfl rfl (freshS_eq rfl) rfl ?_
  refine wl_nil ?_
  refine we_then ?_
  refine wc_keep [2] (S' := [_]) rfl ?_
  refine wc_ret ?_
  have hE := (Option.some.inj hm).symm
  cases hE
set_option maxRecDepth 100000 in
set_option maxHeartbeats 4000000 in
theorem w_value_does_s5 (N : Nat) (a0 : Int)  (hm : m_value_does N a0 = some (.inr (.inr (.inr (.inr (.inr (.inl ()))))))) : Spec Tryd.prog 24 [.int .u8 a0] [tabF Tryd.prog "internal/strconv.uint64pow10" .u64 Lib.pow10Tab 1 pow10_g] [] (fun v Φr Hr => ∃ (o0 : Nat), v = .func (.func 42) #[] #[.pointer (some ⟨o0, 0, none⟩)] ∧ Φr = [] ∧ Hr = [.blk o0 [.func (.func 36) #[] #[]] 58]) := by
 unfold m_value_does at hm
 refine spec_of Tryd.func24 rfl Tryd.ntmps24 rfl (S := [_]) rfl (fun C => ?_)
 refine wc_seq ?_
 refine wc_region ?_
 refine wl_pure rfl rfl rfl (freshS_eq rfl) rfl ?_
 refine wl_nil ?_
 refine we_then ?_
 refine wc_keep [0] (S' := [_]) rfl ?_
 refine wc_seq ?_
 refine wc_region ?_
 refine wl_alloc rfl rfl rfl (freshS_eq rfl) rfl tZ_58 rfl (fun g3 => ?_)
 refine wl_store 0 0 rfl rfl rfl rfl rfl rfl rfl tS_58 rfl rfl rfl (all' := [_]) rfl (H' := [_]) rfl ?_
 refine wl_nil ?_
 refine we_then ?_
 refine wc_seq ?_
 refine wc_region ?_
 refine wl_makeMapE (keyInt (tInt_run tI_22)) false valRep rfl rfl rfl (freshS_eq rfl) rfl (fun g4 => ?_)
 refine wl_mapPutE (i := 1) (u := .func (.func 37) #[] #[]) (cs := [.func (.func 37) #[] #[]]) 0 rfl rfl (.inr rfl) rfl rfl rfl rfl tM_59 trivial rfl (fun F w hφ => ⟨rfl, rfl⟩) (H' := [mapE (keyInt (tInt_run tI_22)) false valRep g4 ([(1, .func (.func 37) #[] #[])]), .blk g3 [.func (.func 36) #[] #[]] 58]) rfl ?_
 refine wl_mapPutE (i := 2) (u := .func (.func 38) #[] #[]) (cs := [.func (.func 38) #[] #[]]) 0 rfl rfl (.inr rfl) rfl rfl rfl rfl tM_59 trivial rfl (fun F w hφ => ⟨rfl, rfl⟩) (H' := [mapE (keyInt (tInt_run tI_22)) false valRep g4 ([(1, .func (.func 37) #[] #[]), (2, .func (.func 38) #[] #[])]), .blk g3 [.func (.func 36) #[] #[]] 58]) rfl ?_
 refine wl_mapPutE (i := 3) (u := .func (.func 39) #[] #[]) (cs := [.func (.func 39) #[] #[]]) 0 rfl rfl (.inr rfl) rfl rfl rfl rfl tM_59 trivial rfl (fun F w hφ => ⟨rfl, rfl⟩) (H' := [mapE (keyInt (tInt_run tI_22)) false valRep g4 ([(1, .func (.func 37) #[] #[]), (2, .func (.func 38) #[] #[]), (3, .func (.func 39) #[] #[])]), .blk g3 [.func (.func 36) #[] #[]] 58]) rfl ?_
 refine wl_mapPutE (i := 4) (u := .func (.func 40) #[] #[]) (cs := [.func (.func 40) #[] #[]]) 0 rfl rfl (.inr rfl) rfl rfl rfl rfl tM_59 trivial rfl (fun F w hφ => ⟨rfl, rfl⟩) (H' := [mapE (keyInt (tInt_run tI_22)) false valRep g4 ([(1, .func (.func 37) #[] #[]), (2, .func (.func 38) #[] #[]), (3, .func (.func 39) #[] #[]), (4, .func (.func 40) #[] #[])]), .blk g3 [.func (.func 36) #[] #[]] 58]) rfl ?_
 refine wl_makeFunc rfl rfl rfl (freshS_eq rfl) rfl rfl ?_
 refine wl_mapPutE (i := 7) (u := .func (.func 41) #[] #[.pointer (some ⟨g3, 0, none⟩)]) (cs := [.func (.func 41) #[] #[.pointer (some ⟨g3, 0, none⟩)]]) 0 rfl rfl (.inr rfl) rfl rfl rfl rfl tM_59 trivial rfl (fun F w hφ => ⟨rfl, rfl⟩) (H' := [mapE (keyInt (tInt_run tI_22)) false valRep g4 ([(1, .func (.func 37) #[] #[]), (2, .func (.func 38) #[] #[]), (3, .func (.func 39) #[] #[]), (4, .func (.func 40) #[] #[]), (7, .func (.func 41) #[] #[.pointer (some ⟨g3, 0, none⟩)])]), .blk g3 [.func (.func 36) #[] #[]] 58]) rfl ?_
 refine wl_makeFunc rfl rfl rfl (freshS_eq rfl) rfl rfl ?_
 refine wl_mapPutE (i := 8) (u := .func (.func 42) #[] #[.pointer (some ⟨g3, 0, none⟩)]) (cs := [.func (.func 42) #[] #[.pointer (some ⟨g3, 0, none⟩)]]) 0 rfl rfl (.inr rfl) rfl rfl rfl rfl tM_59 trivial rfl (fun F w hφ => ⟨rfl, rfl⟩) (H' := [mapE (keyInt (tInt_run tI_22)) false valRep g4 ([(1, .func (.func 37) #[] #[]), (2, .func (.func 38) #[] #[]), (3, .func (.func 39) #[] #[]), (4, .func (.func 40) #[] #[]), (7, .func (.func 41) #[] #[.pointer (some ⟨g3, 0, none⟩)]), (8, .func (.func 42) #[] #[.pointer (some ⟨g3, 0, none⟩)])]), .blk g3 [.func (.func 36) #[] #[]] 58]) rfl ?_
 refine wl_makeFunc rfl rfl rfl (freshS_eq rfl) rfl rfl ?_
 refine wl_mapPutE (i := 9) (u := .func (.func 43) #[] #[.pointer (some ⟨g3, 0, none⟩)]) (cs := [.func (.func 43) #[] #[.pointer (some ⟨g3, 0, none⟩)]]) 0 rfl rfl (.inr rfl) rfl rfl rfl rfl tM_59 trivial rfl (fun F w hφ => ⟨rfl, rfl⟩) (H' := [mapE (keyInt (tInt_run tI_22)) false valRep g4 ([(1, .func (.func 37) #[] #[]), (2, .func (.func 38) #[] #[]), (3, .func (.func 39) #[] #[]), (4, .func (.func 40) #[] #[]), (7, .func (.func 41) #[] #[.pointer (some ⟨g3, 0, none⟩)]), (8, .func (.func 42) #[] #[.pointer (some ⟨g3, 0, none⟩)]), (9, .func (.func 43) #[] #[.pointer (some ⟨g3, 0, none⟩)])]), .blk g3 [.func (.func 36) #[] #[]] 58]) rfl ?_
 refine wl_makeFunc rfl rfl rfl (freshS_eq rfl) rfl rfl ?_
 refine wl_mapPutE (i := 10) (u := .func (.func 44) #[] #[.pointer (some ⟨g3, 0, none⟩)]) (cs := [.func (.func 44) #[] #[.pointer (some ⟨g3, 0, none⟩)]]) 0 rfl rfl (.inr rfl) rfl rfl rfl rfl tM_59 trivial rfl (fun F w hφ => ⟨rfl, rfl⟩) (H' := [mapE (keyInt (tInt_run tI_22)) false valRep g4 ([(1, .func (.func 37) #[] #[]), (2, .func (.func 38) #[] #[]), (3, .func (.func 39) #[] #[]), (4, .func (.func 40) #[] #[]), (7, .func (.func 41) #[] #[.pointer (some ⟨g3, 0, none⟩)]), (8, .func (.func 42) #[] #[.pointer (some ⟨g3, 0, none⟩)]), (9, .func (.func 43) #[] #[.pointer (some ⟨g3, 0, none⟩)]), (10, .func (.func 44) #[] #[.pointer (some ⟨g3, 0, none⟩)])]), .blk g3 [.func (.func 36) #[] #[]] 58]) rfl ?_
 refine wl_makeFunc rfl rfl rfl (freshS_eq rfl) rfl rfl ?_
 refine wl_mapPutE (i := 11) (u := .func (.func 45) #[] #[.pointer (some ⟨g3, 0, none⟩)]) (cs := [.func (.func 45) #[] #[.pointer (some ⟨g3, 0, none⟩)]]) 0 rfl rfl (.inr rfl) rfl rfl rfl rfl tM_59 trivial rfl (fun F w hφ => ⟨rfl, rfl⟩) (H' := [mapE (keyInt (tInt_run tI_22)) false valRep g4 ([(1, .func (.func 37) #[] #[]), (2, .func (.func 38) #[] #[]), (3, .func (.func 39) #[] #[]), (4, .func (.func 40) #[] #[]), (7, .func (.func 41) #[] #[.pointer (some ⟨g3, 0, none⟩)]), (8, .func (.func 42) #[] #[.pointer (some ⟨g3, 0, none⟩)]), (9, .func (.func 43) #[] #[.pointer (some ⟨g3, 0, none⟩)]), (10, .func (.func 44) #[] #[.pointer (some ⟨g3, 0, none⟩)]), (11, .func (.func 45) #[] #[.pointer (some ⟨g3, 0, none⟩)])]), .blk g3 [.func (.func 36) #[] #[]] 58]) rfl ?_
 refine wl_pure rfl rfl rfl (freshS_eq rfl) rfl ?_
 refine wl_pure rfl rfl rfl (freshS_eq rfl) rfl ?_
 rcases ite_some hm with ⟨hq12_0, hm⟩ | ⟨hq12_0, hm⟩
 ·
  refine wl_lookYesE (i := a0) (a := (.func (.func 37) #[] #[])) valRep_opens 0 rfl rfl rfl (freshS_eq rfl) rfl rfl rfl rfl tM_59 trivial (by rw [eq_of_beq hq12_0]; rfl) (u := fun _ => .func (.func 37) #[] #[]) (fun _ => rfl) (v := fun _ => .func (.func 37) #[] #[]) (fun _ => rfl) (fun _ _ => ?_)
  refine wl_pure rfl rfl rfl (freshS_eq rfl) rfl ?_
  refine wl_nil ?_
  refine we_then ?_
  refine wc_keep [2] (S' := [_]) rfl ?_
  refine wc_ret ?_
  have hE := (Option.some.inj hm).symm
  cases hE
 rcases ite_some hm with ⟨hq12_1, hm⟩ | ⟨hq12_1, hm⟩
 ·
  refine wl_lookYesE (i := a0) (a := (.func (.func 38) #[] #[])) valRep_opens 0 rfl rfl rfl (freshS_eq rfl) rfl rfl rfl rfl tM_59 trivial (by rw [eq_of_beq hq12_1]; rfl) (u := fun _ => .func (.func 38) #[] #[]) (fun _ => rfl) (v := fun _ => .func (.func 38) #[] #[]) (fun _ => rfl) (fun _ _ => ?_)
  refine wl_pure rfl rfl rfl (freshS_eq rfl) rfl ?_
  refine wl_nil ?_
  refine we_then ?_
  refine wc_keep [2] (S' := [_]) rfl ?_
  refine wc_ret ?_
  have hE := (Option.some.inj hm).symm
  cases hE
 rcases ite_some hm with ⟨hq12_2, hm⟩ | ⟨hq12_2, hm⟩
 ·
  refine wl_lookYesE (i := a0) (a := (.func (.func 39) #[] #[])) valRep_opens 0 rfl rfl rfl (freshS_eq rfl) rfl rfl rfl rfl tM_59 trivial (by rw [eq_of_beq hq12_2]; rfl) (u := fun _ => .func (.func 39) #[] #[]) (fun _ => rfl) (v := fun _ => .func (.func 39) #[] #[]) (fun _ => rfl) (fun _ _ => ?_)
  refine wl_pure rfl rfl rfl (freshS_eq rfl) rfl ?_
  refine wl_nil ?_
  refine we_then ?_
  refine wc_keep [2] (S' := [_]) rfl ?_
  refine wc_ret ?_
  have hE := (Option.some.inj hm).symm
  cases hE
 rcases ite_some hm with ⟨hq12_3, hm⟩ | ⟨hq12_3, hm⟩
 ·
  refine wl_lookYesE (i := a0) (a := (.func (.func 40) #[] #[])) valRep_opens 0 rfl rfl rfl (freshS_eq rfl) rfl rfl rfl rfl tM_59 trivial (by rw [eq_of_beq hq12_3]; rfl) (u := fun _ => .func (.func 40) #[] #[]) (fun _ => rfl) (v := fun _ => .func (.func 40) #[] #[]) (fun _ => rfl) (fun _ _ => ?_)
  refine wl_pure rfl rfl rfl (freshS_eq rfl) rfl ?_
  refine wl_nil ?_
  refine we_then ?_
  refine wc_keep [2] (S' := [_]) rfl ?_
  refine wc_ret ?_
  have hE := (Option.some.inj hm).symm
  cases hE
 rcases ite_some hm with ⟨hq12_4, hm⟩ | ⟨hq12_4, hm⟩
 ·
  refine wl_lookYesE (i := a0) (a := (.func (.func 41) #[] #[.pointer (some ⟨g3, 0, none⟩)])) valRep_opens 0 rfl rfl rfl (freshS_eq rfl) rfl rfl rfl rfl tM_59 trivial (by rw [eq_of_beq hq12_4]; rfl) (u := fun _ => .func (.func 41) #[] #[.pointer (some ⟨g3, 0, none⟩)]) (fun _ => rfl) (v := fun _ => .func (.func 41) #[] #[.pointer (some ⟨g3, 0, none⟩)]) (fun _ => rfl) (fun _ _ => ?_)
  refine wl_pure rfl rfl rfl (freshS_eq rfl) rfl ?_
  refine wl_nil ?_
  refine we_then ?_
  refine wc_keep [2] (S' := [_]) rfl ?_
  refine wc_ret ?_
  have hE := (Option.some.inj hm).symm
  cases hE
 rcases ite_some hm with ⟨hq12_5, hm⟩ | ⟨hq12_5, hm⟩
 ·
  refine wl_lookYesE (i := a0) (a := (.func (.func 42) #[] #[.pointer (some ⟨g3, 0, none⟩)])) valRep_opens 0 rfl rfl rfl (freshS_eq rfl) rfl rfl rfl rfl tM_59 trivial (by rw [eq_of_beq hq12_5]; rfl) (u := fun _ => .func (.func 42) #[] #[.pointer (some ⟨g3, 0, none⟩)]) (fun _ => rfl) (v := fun _ => .func (.func 42) #[] #[.pointer (some ⟨g3, 0, none⟩)]) (fun _ => rfl) (fun _ _ => ?_)
  refine wl_pure rfl rfl rfl (freshS_eq rfl) rfl ?_
  refine wl_nil ?_
  refine we_then ?_
  refine wc_keep [2] (S' := [_]) rfl ?_
  refine wc_ret ?_
  have hE := (Option.some.inj hm).symm
  replace hE := Sum.inr.inj hE
  replace hE := Sum.inr.inj hE
  replace hE := Sum.inr.inj hE
  replace hE := Sum.inr.inj hE
  replace hE := Sum.inr.inj hE
  replace hE := Sum.inl.inj hE
  refine ret_one (Hr := [_]) [1] Tryd.results24 (res_tmp rfl) ⟨g3, rfl, rfl, rfl⟩ (fun _ _ hφ => ask [] rfl hφ) rfl rfl (.inl rfl)
 rcases ite_some hm with ⟨hq12_6, hm⟩ | ⟨hq12_6, hm⟩
 ·
  refine wl_lookYesE (i := a0) (a := (.func (.func 43) #[] #[.pointer (some ⟨g3, 0, none⟩)])) valRep_opens 0 rfl rfl rfl (freshS_eq rfl) rfl rfl rfl rfl tM_59 trivial (by rw [eq_of_beq hq12_6]; rfl) (u := fun _ => .func (.func 43) #[] #[.pointer (some ⟨g3, 0, none⟩)]) (fun _ => rfl) (v := fun _ => .func (.func 43) #[] #[.pointer (some ⟨g3, 0, none⟩)]) (fun _ => rfl) (fun _ _ => ?_)
  refine wl_pure rfl rfl rfl (freshS_eq rfl) rfl ?_
  refine wl_nil ?_
  refine we_then ?_
  refine wc_keep [2] (S' := [_]) rfl ?_
  refine wc_ret ?_
  have hE := (Option.some.inj hm).symm
  cases hE
 rcases ite_some hm with ⟨hq12_7, hm⟩ | ⟨hq12_7, hm⟩
 ·
  refine wl_lookYesE (i := a0) (a := (.func (.func 44) #[] #[.pointer (some ⟨g3, 0, none⟩)])) valRep_opens 0 rfl rfl rfl (freshS_eq rfl) rfl rfl rfl rfl tM_59 trivial (by rw [eq_of_beq hq12_7]; rfl) (u := fun _ => .func (.func 44) #[] #[.pointer (some ⟨g3, 0, none⟩)]) (fun _ => rfl) (v := fun _ => .func (.func 44) #[] #[.pointer (some ⟨g3, 0, none⟩)]) (fun _ => rfl) (fun _ _ => ?_)
  refine wl_pure rfl rfl rfl (freshS_eq rfl) rfl ?_
  refine wl_nil ?_
  refine we_then ?_
  refine wc_keep [2] (S' := [_]) rfl ?_
  refine wc_ret ?_
  have hE := (Option.some.inj hm).symm
  cases hE
 rcases ite_some hm with ⟨hq12_8, hm⟩ | ⟨hq12_8, hm⟩
 ·
  refine wl_lookYesE (i := a0) (a := (.func (.func 45) #[] #[.pointer (some ⟨g3, 0, none⟩)])) valRep_opens 0 rfl rfl rfl (freshS_eq rfl) rfl rfl rfl rfl tM_59 trivial (by rw [eq_of_beq hq12_8]; rfl) (u := fun _ => .func (.func 45) #[] #[.pointer (some ⟨g3, 0, none⟩)]) (fun _ => rfl) (v := fun _ => .func (.func 45) #[] #[.pointer (some ⟨g3, 0, none⟩)]) (fun _ => rfl) (fun _ _ => ?_)
  refine wl_pure rfl rfl rfl (freshS_eq rfl) rfl ?_
  refine wl_nil ?_
  refine we_then ?_
  refine wc_keep [2] (S' := [_]) rfl ?_
  refine wc_ret ?_
  have hE := (Option.some.inj hm).symm
  cases hE
 ·
  refine wl_lookNoE (i := a0) 0 rfl rfl rfl (freshS_eq rfl) rfl rfl rfl rfl tZ_47 tM_59 trivial (by simp [mlook, (ne_of_beq_false hq12_0).symm, (ne_of_beq_false hq12_1).symm, (ne_of_beq_false hq12_2).symm, (ne_of_beq_false hq12_3).symm, (ne_of_beq_false hq12_4).symm, (ne_of_beq_false hq12_5).symm, (ne_of_beq_false hq12_6).symm, (ne_of_beq_false hq12_7).symm, (ne_of_beq_false hq12_8).symm]) (v := .nilFunc) rfl ?_
  refine wl_pure rfl rfl rfl (freshS_eq rfl) rfl ?_
  refine wl_nil ?_
  refine we_then ?_
  refine wc_keep [2] (S' := [_]) rfl ?_
  refine wc_ret ?_
  have hE := (Option.some.inj hm).symm
  cases hE
set_option maxRecDepth 100000 in
set_option maxHeartbeats 4000000 in
theorem w_value_does_s6 (N : Nat) (a0 : Int)  (hm : m_value_does N a0 = some (.inr (.inr (.inr (.inr (.inr (.inr (.inl ())))))))) : Spec Tryd.prog 24 [.int .u8 a0] [tabF Tryd.prog "internal/strconv.uint64pow10" .u64 Lib.pow10Tab 1 pow10_g] [] (fun v Φr Hr => ∃ (o0 : Nat), v = .func (.func 43) #[] #[.pointer (some ⟨o0, 0, none⟩)] ∧ Φr = [] ∧ Hr = [.blk o0 [.func (.func 36) #[] #[]] 58]) := by
 unfold m_value_does at hm
 refine spec_of Tryd.func24 rfl Tryd.ntmps24 rfl (S := [_]) rfl (fun C => ?_)
 refine wc_seq ?_
 refine wc_region ?_
 refine wl_pure rfl rfl rfl (freshS_eq rfl) rfl ?_
 refine wl_nil ?_
 refine we_then ?_
 refine wc_keep [0] (S' := [_]) rfl ?_
 refine wc_seq ?_
 refine wc_region ?_
 refine wl_alloc rfl rfl rfl (freshS_eq rfl) rfl tZ_58 rfl (fun g3 => ?_)
 refine wl_store 0 0 rfl rfl rfl rfl rfl rfl rfl tS_58 rfl rfl rfl (all' := [_]) rfl (H' := [_]) rfl ?_
 refine wl_nil ?_
 refine we_then ?_
 refine wc_seq ?_
 refine wc_region ?_
 refine wl_makeMapE (keyInt (tInt_run tI_22)) false valRep rfl rfl rfl (freshS_eq rfl) rfl (fun g4 => ?_)
 refine wl_mapPutE (i := 1) (u := .func (.func 37) #[] #[]) (cs := [.func (.func 37) #[] #[]]) 0 rfl rfl (.inr rfl) rfl rfl rfl rfl tM_59 trivial rfl (fun F w hφ => ⟨rfl, rfl⟩) (H' := [mapE (keyInt (tInt_run tI_22)) false valRep g4 ([(1, .func (.func 37) #[] #[])]), .blk g3 [.func (.func 36) #[] #[]] 58]) rfl ?_
 refine wl_mapPutE (i := 2) (u := .func (.func 38) #[] #[]) (cs := [.func (.func 38) #[] #[]]) 0 rfl rfl (.inr rfl) rfl rfl rfl rfl tM_59 trivial rfl (fun F w hφ => ⟨rfl, rfl⟩) (H' := [mapE (keyInt (tInt_run tI_22)) false valRep g4 ([(1, .func (.func 37) #[] #[]), (2, .func (.func 38) #[] #[])]), .blk g3 [.func (.func 36) #[] #[]] 58]) rfl ?_
 refine wl_mapPutE (i := 3) (u := .func (.func 39) #[] #[]) (cs := [.func (.func 39) #[] #[]]) 0 rfl rfl (.inr rfl) rfl rfl rfl rfl tM_59 trivial rfl (fun F w hφ => ⟨rfl, rfl⟩) (H' := [mapE (keyInt (tInt_run tI_22)) false valRep g4 ([(1, .func (.func 37) #[] #[]), (2, .func (.func 38) #[] #[]), (3, .func (.func 39) #[] #[])]), .blk g3 [.func (.func 36) #[] #[]] 58]) rfl ?_
 refine wl_mapPutE (i := 4) (u := .func (.func 40) #[] #[]) (cs := [.func (.func 40) #[] #[]]) 0 rfl rfl (.inr rfl) rfl rfl rfl rfl tM_59 trivial rfl (fun F w hφ => ⟨rfl, rfl⟩) (H' := [mapE (keyInt (tInt_run tI_22)) false valRep g4 ([(1, .func (.func 37) #[] #[]), (2, .func (.func 38) #[] #[]), (3, .func (.func 39) #[] #[]), (4, .func (.func 40) #[] #[])]), .blk g3 [.func (.func 36) #[] #[]] 58]) rfl ?_
 refine wl_makeFunc rfl rfl rfl (freshS_eq rfl) rfl rfl ?_
 refine wl_mapPutE (i := 7) (u := .func (.func 41) #[] #[.pointer (some ⟨g3, 0, none⟩)]) (cs := [.func (.func 41) #[] #[.pointer (some ⟨g3, 0, none⟩)]]) 0 rfl rfl (.inr rfl) rfl rfl rfl rfl tM_59 trivial rfl (fun F w hφ => ⟨rfl, rfl⟩) (H' := [mapE (keyInt (tInt_run tI_22)) false valRep g4 ([(1, .func (.func 37) #[] #[]), (2, .func (.func 38) #[] #[]), (3, .func (.func 39) #[] #[]), (4, .func (.func 40) #[] #[]), (7, .func (.func 41) #[] #[.pointer (some ⟨g3, 0, none⟩)])]), .blk g3 [.func (.func 36) #[] #[]] 58]) rfl ?_
 refine wl_makeFunc rfl rfl rfl (freshS_eq rfl) rfl rfl ?_
 refine wl_mapPutE (i := 8) (u := .func (.func 42) #[] #[.pointer (some ⟨g3, 0, none⟩)]) (cs := [.func (.func 42) #[] #[.pointer (some ⟨g3, 0, none⟩)]]) 0 rfl rfl (.inr rfl) rfl rfl rfl rfl tM_59 trivial rfl (fun F w hφ => ⟨rfl, rfl⟩) (H' := [mapE (keyInt (tInt_run tI_22)) false valRep g4 ([(1, .func (.func 37) #[] #[]), (2, .func (.func 38) #[] #[]), (3, .func (.func 39) #[] #[]), (4, .func (.func 40) #[] #[]), (7, .func (.func 41) #[] #[.pointer (some ⟨g3, 0, none⟩)]), (8, .func (.func 42) #[] #[.pointer (some ⟨g3, 0, none⟩)])]), .blk g3 [.func (.func 36) #[] #[]] 58]) rfl ?_
 refine wl_makeFunc rfl rfl rfl (freshS_eq rfl) rfl rfl ?_
 refine wl_mapPutE (i := 9) (u := .func (.func 43) #[] #[.pointer (some ⟨g3, 0, none⟩)]) (cs := [.func (.func 43) #[] #[.pointer (some ⟨g3, 0, none⟩)]]) 0 rfl rfl (.inr rfl) rfl rfl rfl rfl tM_59 trivial rfl (fun F w hφ => ⟨rfl, rfl⟩) (H' := [mapE (keyInt (tInt_run tI_22)) false valRep g4 ([(1, .func (.func 37) #[] #[]), (2, .func (.func 38) #[] #[]), (3, .func (.func 39) #[] #[]), (4, .func (.func 40) #[] #[]), (7, .func (.func 41) #[] #[.pointer (some ⟨g3, 0, none⟩)]), (8, .func (.func 42) #[] #[.pointer (some ⟨g3, 0, none⟩)]), (9, .func (.func 43) #[] #[.pointer (some ⟨g3, 0, none⟩)])]), .blk g3 [.func (.func 36) #[] #[]] 58]) rfl ?_
 refine wl_makeFunc rfl rfl rfl (freshS_eq rfl) rfl rfl ?_
 refine wl_mapPutE (i := 10) (u := .func (.func 44) #[] #[.pointer (some ⟨g3, 0, none⟩)]) (cs := [.func (.func 44) #[] #[.pointer (some ⟨g3, 0, none⟩)]]) 0 rfl rfl (.inr rfl) rfl rfl rfl rfl tM_59 trivial rfl (fun F w hφ => ⟨rfl, rfl⟩) (H' := [mapE (keyInt (tInt_run tI_22)) false valRep g4 ([(1, .func (.func 37) #[] #[]), (2, .func (.func 38) #[] #[]), (3, .func (.func 39) #[] #[]), (4, .func (.func 40) #[] #[]), (7, .func (.func 41) #[] #[.pointer (some ⟨g3, 0, none⟩)]), (8, .func (.func 42) #[] #[.pointer (some ⟨g3, 0, none⟩)]), (9, .func (.func 43) #[] #[.pointer (some ⟨g3, 0, none⟩)]), (10, .func (.func 44) #[] #[.pointer (some ⟨g3, 0, none⟩)])]), .blk g3 [.func (.func 36) #[] #[]] 58]) rfl ?_
 refine wl_makeFunc rfl rfl rfl (freshS_eq rfl) rfl rfl ?_
 refine wl_mapPutE (i := 11) (u := .func (.func 45) #[] #[.pointer (some ⟨g3, 0, none⟩)]) (cs := [.func (.func 45) #[] #[.pointer (some ⟨g3, 0, none⟩)]]) 0 rfl rfl (.inr rfl) rfl rfl rfl rfl tM_59 trivial rfl (fun F w hφ => ⟨rfl, rfl⟩) (H' := [mapE (keyInt (tInt_run tI_22)) false valRep g4 ([(1, .func (.func 37) #[] #[]), (2, .func (.func 38) #[] #[]), (3, .func (.func 39) #[] #[]), (4, .func (.func 40) #[] #[]), (7, .func (.func 41) #[] #[.pointer (some ⟨g3, 0, none⟩)]), (8, .func (.func 42) #[] #[.pointer (some ⟨g3, 0, none⟩)]), (9, .func (.func 43) #[] #[.pointer (some ⟨g3, 0, none⟩)]), (10, .func (.func 44) #[] #[.pointer (some ⟨g3, 0, none⟩)]), (11, .func (.func 45) #[] #[.pointer (some ⟨g3, 0, none⟩)])]), .blk g3 [.func (.func 36) #[] #[]] 58]) rfl ?_
 refine wl_pure rfl rfl rfl (freshS_eq rfl) rfl ?_
 refine wl_pure rfl rfl rfl (freshS_eq rfl) rfl ?_
 rcases ite_some hm with ⟨hq12_0, hm⟩ | ⟨hq12_0, hm⟩
 ·
  refine wl_lookYesE (i := a0) (a := (.func (.func 37) #[] #[])) valRep_opens 0 rfl rfl rfl (freshS_eq rfl) rfl rfl rfl rfl tM_59 trivial (by rw [eq_of_beq hq12_0]; rfl) (u := fun _ => .func (.func 37) #[] #[]) (fun _ => rfl) (v := fun _ => .func (.func 37) #[] #[]) (fun _ => rfl) (fun _ _ => ?_)
  refine wl_pure rfl rfl rfl (freshS_eq rfl) rfl ?_
  refine wl_nil ?_
  refine we_then ?_
  refine wc_keep [2] (S' := [_]) rfl ?_
  refine wc_ret ?_
  have hE := (Option.some.inj hm).symm
  cases hE
 rcases ite_some hm with ⟨hq12_1, hm⟩ | ⟨hq12_1, hm⟩
 ·
  refine wl_lookYesE (i := a0) (a := (.func (.func 38) #[] #[])) valRep_opens 0 rfl rfl rfl (freshS_eq rfl) rfl rfl rfl rfl tM_59 trivial (by rw [eq_of_beq hq12_1]; rfl) (u := fun _ => .func (.func 38) #[] #[]) (fun _ => rfl) (v := fun _ => .func (.func 38) #[] #[]) (fun _ => rfl) (fun _ _ => ?_)
  refine wl_pure rfl rfl rfl (freshS_eq rfl) rfl ?_
  refine wl_nil ?_
  refine we_then ?_
  refine wc_keep [2] (S' := [_]) rfl ?_
  refine wc_ret ?_
  have hE := (Option.some.inj hm).symm
  cases hE
 rcases ite_some hm with ⟨hq12_2, hm⟩ | ⟨hq12_2, hm⟩
 ·
  refine wl_lookYesE (i := a0) (a := (.func (.func 39) #[] #[])) valRep_opens 0 rfl rfl rfl (freshS_eq rfl) rfl rfl rfl rfl tM_59 trivial (by rw [eq_of_beq hq12_2]; rfl) (u := fun _ => .func (.func 39) #[] #[]) (fun _ => rfl) (v := fun _ => .func (.func 39) #[] #[]) (fun _ => rfl) (fun _ _ => ?_)
  refine wl_pure rfl rfl rfl (freshS_eq rfl) rfl ?_
  refine wl_nil ?_
  refine we_then ?_
  refine wc_keep [2] (S' := [_]) rfl ?_
  refine wc_ret ?_
  have hE := (Option.some.inj hm).symm
  cases hE
 rcases ite_some hm with ⟨hq12_3, hm⟩ | ⟨hq12_3, hm⟩
 ·
  refine wl_lookYesE (i := a0) (a := (.func (.func 40) #[] #[])) valRep_opens 0 rfl rfl rfl (freshS_eq rfl) rfl rfl rfl rfl tM_59 trivial (by rw [eq_of_beq hq12_3]; rfl) (u := fun _ => .func (.func 40) #[] #[]) (fun _ => rfl) (v := fun _ => .func (.func 40) #[] #[]) (fun _ => rfl) (fun _ _ => ?_)
  refine wl_pure rfl rfl rfl (freshS_eq rfl) rfl ?_
  refine wl_nil ?_
  refine we_then ?_
  refine wc_keep [2] (S' := [_]) rfl ?_
  refine wc_ret ?_
  have hE := (Option.some.inj hm).symm
  cases hE
 rcases ite_some hm with ⟨hq12_4, hm⟩ | ⟨hq12_4, hm⟩
 ·
  refine wl_lookYesE (i := a0) (a := (.func (.func 41) #[] #[.pointer (some ⟨g3, 0, none⟩)])) valRep_opens 0 rfl rfl rfl (freshS_eq rfl) rfl rfl rfl rfl tM_59 trivial (by rw [eq_of_beq hq12_4]; rfl) (u := fun _ => .func (.func 41) #[] #[.pointer (some ⟨g3, 0, none⟩)]) (fun _ => rfl) (v := fun _ => .func (.func 41) #[] #[.pointer (some ⟨g3, 0, none⟩)]) (fun _ => rfl) (fun _ _ => ?_)
  refine wl_pure rfl rfl rfl (freshS_eq rfl) rfl ?_
  refine wl_nil ?_
  refine we_then ?_
  refine wc_keep [2] (S' := [_]) rfl ?_
  refine wc_ret ?_
  have hE := (Option.some.inj hm).symm
  cases hE
 rcases ite_some hm with ⟨hq12_5, hm⟩ | ⟨hq12_5, hm⟩
 ·
  refine wl_lookYesE (i := a0) (a := (.func (.func 42) #[] #[.pointer (some ⟨g3, 0, none⟩)])) valRep_opens 0 rfl rfl rfl (freshS_eq rfl) rfl rfl rfl rfl tM_59 trivial (by rw [eq_of_beq hq12_5]; rfl) (u := fun _ => .func (.func 42) #[] #[.pointer (some ⟨g3, 0, none⟩)]) (fun _ => rfl) (v := fun _ => .func (.func 42) #[] #[.pointer (some ⟨g3, 0, none⟩)]) (fun _ => rfl) (fun _ _ => ?_)
  refine wl_pure rfl rfl rfl (freshS_eq rfl) rfl ?_
  refine wl_nil ?_
  refine we_then ?_
  refine wc_keep [2] (S' := [_]) rfl ?_
  refine wc_ret ?_
  have hE := (Option.some.inj hm).symm
  cases hE
 rcases ite_some hm with ⟨hq12_6, hm⟩ | ⟨hq12_6, hm⟩
 ·
  refine wl_lookYesE (i := a0) (a := (.func (.func 43) #[] #[.pointer (some ⟨g3, 0, none⟩)])) valRep_opens 0 rfl rfl rfl (freshS_eq rfl) rfl rfl rfl rfl tM_59 trivial (by rw [eq_of_beq hq12_6]; rfl) (u := fun _ => .func (.func 43) #[] #[.pointer (some ⟨g3, 0, none⟩)]) (fun _ => rfl) (v := fun _ => .func (.func 43) #[] #[.pointer (some ⟨g3, 0, none⟩)]) (fun _ => rfl) (fun _ _ => ?_)
  refine wl_pure rfl rfl rfl (freshS_eq rfl) rfl ?_
  refine wl_nil ?_
  refine we_then ?_
  refine wc_keep [2] (S' := [_]) rfl ?_
  refine wc_ret ?_
  have hE := (Option.some.inj hm).symm
  replace hE := Sum.inr.inj hE
  replace hE := Sum.inr.inj hE
  replace hE := Sum.inr.inj hE
  replace hE := Sum.inr.inj hE
  replace hE := Sum.inr.inj hE
  replace hE := Sum.inr.inj hE
  replace hE := Sum.inl.inj hE
  refine ret_one (Hr := [_]) [1] Tryd.results24 (res_tmp rfl) ⟨g3, rfl, rfl, rfl⟩ (fun _ _ hφ => ask [] rfl hφ) rfl rfl (.inl rfl)
 rcases ite_some hm with ⟨hq12_7, hm⟩ | ⟨hq12_7, hm⟩
 ·
  refine wl_lookYesE (i := a0) (a := (.func (.func 44) #[] #[.pointer (some ⟨g3, 0, none⟩)])) valRep_opens 0 rfl rfl rfl (freshS_eq rfl) rfl rfl rfl rfl tM_59 trivial (by rw [eq_of_beq hq12_7]; rfl) (u := fun _ => .func (.func 44) #[] #[.pointer (some ⟨g3, 0, none⟩)]) (fun _ => rfl) (v := fun _ => .func (.func 44) #[] #[.pointer (some ⟨g3, 0, none⟩)]) (fun _ => rfl) (fun _ _ => ?_)
  refine wl_pure rfl rfl rfl (freshS_eq rfl) rfl ?_
  refine wl_nil ?_
  refine we_then ?_
  refine wc_keep [2] (S' := [_]) rfl ?_
  refine wc_ret ?_
  have hE := (Option.some.inj hm).symm
  cases hE
 rcases ite_some hm with ⟨hq12_8, hm⟩ | ⟨hq12_8, hm⟩
 ·
  refine wl_lookYesE (i := a0) (a := (.func (.func 45) #[] #[.pointer (some ⟨g3, 0, none⟩)])) valRep_opens 0 rfl rfl rfl (freshS_eq rfl) rfl rfl rfl rfl tM_59 trivial (by rw [eq_of_beq hq12_8]; rfl) (u := fun _ => .func (.func 45) #[] #[.pointer (some ⟨g3, 0, none⟩)]) (fun _ => rfl) (v := fun _ => .func (.func 45) #[] #[.pointer (some ⟨g3, 0, none⟩)]) (fun _ => rfl) (fun _ _ => ?_)
  refine wl_pure rfl rfl rfl (freshS_eq rfl) rfl ?_
  refine wl_nil ?_
  refine we_then ?_
  refine wc_keep [2] (S' := [_]) rfl ?_
  refine wc_ret ?_
  have hE := (Option.some.inj hm).symm
  cases hE
 ·
  refine wl_lookNoE (i := a0) 0 rfl rfl rfl (freshS_eq rfl) rfl rfl rfl rfl tZ_47 tM_59 trivial (by simp [mlook, (ne_of_beq_false hq12_0).symm, (ne_of_beq_false hq12_1).symm, (ne_of_beq_false hq12_2).symm, (ne_of_beq_false hq12_3).symm, (ne_of_beq_false hq12_4).symm, (ne_of_beq_false hq12_5).symm, (ne_of_beq_false hq12_6).symm, (ne_of_beq_false hq12_7).symm, (ne_of_beq_false hq12_8).symm]) (v := .nilFunc) rfl ?_
  refine wl_pure rfl rfl rfl (freshS_eq rfl) rfl ?_
  refine wl_nil ?_
  refine we_then ?_
  refine wc_keep [2] (S' := [_]) rfl ?_
  refine wc_ret ?_
  have hE := (Option.some.inj hm).symm
  cases hE
set_option maxRecDepth 100000 in
set_option maxHeartbeats 4000000 in
theorem w_value_does_s7 (N : Nat) (a0 : Int)  (hm : m_value_does N a0 = some (.inr (.inr (.inr (.inr (.inr (.inr (.inr (.inl ()))))))))) : Spec Tryd.prog 24 [.int .u8 a0] [tabF Tryd.prog "internal/strconv.uint64pow10" .u64 Lib.pow10Tab 1 pow10_g] [] (fun v Φr Hr => ∃ (o0 : Nat), v = .func (.func 44) #[] #[.pointer (some ⟨o0, 0, none⟩)] ∧ Φr = [] ∧ Hr = [.blk o0 [.func (.func 36) #[] #[]] 58]) := by
 unfold m_value_does at hm
 refine spec_of Tryd.func24 rfl Tryd.ntmps24 rfl (S := [_]) rfl (fun C => ?_)
 refine wc_seq ?_
 refine wc_region ?_
 refine wl_pure rfl rfl rfl (freshS_eq rfl) rfl ?_
 refine wl_nil ?_
 refine we_then ?_
 refine wc_keep [0] (S' := [_]) rfl ?_
 refine wc_seq ?_
 refine wc_region ?_
 refine wl_alloc rfl rfl rfl (freshS_eq rfl) rfl tZ_58 rfl (fun g3 => ?_)
 refine wl_store 0 0 rfl rfl rfl rfl rfl rfl rfl tS_58 rfl rfl rfl (all' := [_]) rfl (H' := [_]) rfl ?_
 refine wl_nil ?_
 refine we_then ?_
 refine wc_seq ?_
 refine wc_region ?_
 refine wl_makeMapE (keyInt (tInt_run tI_22)) false valRep rfl rfl rfl (freshS_eq rfl) rfl (fun g4 => ?_)
 refine wl_mapPutE (i := 1) (u := .func (.func 37) #[] #[]) (cs := [.func (.func 37) #[] #[]]) 0 rfl rfl (.inr rfl) rfl rfl rfl rfl tM_59 trivial rfl (fun F w hφ => ⟨rfl, rfl⟩) (H' := [mapE (keyInt (tInt_run tI_22)) false valRep g4 ([(1, .func (.func 37) #[] #[])]), .blk g3 [.func (.func 36) #[] #[]] 58]) rfl ?_
 refine wl_mapPutE (i := 2) (u := .func (.func 38) #[] #[]) (cs := [.func (.func 38) #[] #[]]) 0 rfl rfl (.inr rfl) rfl rfl rfl rfl tM_59 trivial rfl (fun F w hφ => ⟨rfl, rfl⟩) (H' := [mapE (keyInt (tInt_run tI_22)) false valRep g4 ([(1, .func (.func 37) #[] #[]), (2, .func (.func 38) #[] #[])]), .blk g3 [.func (.func 36) #[] #[]] 58]) rfl ?_
 refine wl_mapPutE (i := 3) (u := .func (.func 39) #[] #[]) (cs := [.func (.func 39) #[] #[]]) 0 rfl rfl (.inr rfl) rfl rfl rfl rfl tM_59 trivial rfl (fun F w hφ => ⟨rfl, rfl⟩) (H' := [mapE (keyInt (tInt_run tI_22)) false valRep g4 ([(1, .func (.func 37) #[] #[]), (2, .func (.func 38) #[] #[]), (3, .func (.func 39) #[] #[])]), .blk g3 [.func (.func 36) #[] #[]] 58]) rfl ?_
 refine wl_mapPutE (i := 4) (u := .func (.func 40) #[] #[]) (cs := [.func (.func 40) #[] #[]]) 0 rfl rfl (.inr rfl) rfl rfl rfl rfl tM_59 trivial rfl (fun F w hφ => ⟨rfl, rfl⟩) (H' := [mapE (keyInt (tInt_run tI_22)) false valRep g4 ([(1, .func (.func 37) #[] #[]), (2, .func (.func 38) #[] #[]), (3, .func (.func 39) #[] #[]), (4, .func (.func 40) #[] #[])]), .blk g3 [.func (.func 36) #[] #[]] 58]) rfl ?_
 refine wl_makeFunc rfl rfl rfl (freshS_eq rfl) rfl rfl ?_
 refine wl_mapPutE (i := 7) (u := .func (.func 41) #[] #[.pointer (some ⟨g3, 0, none⟩)]) (cs := [.func (.func 41) #[] #[.pointer (some ⟨g3, 0, none⟩)]]) 0 rfl rfl (.inr rfl) rfl rfl rfl rfl tM_59 trivial rfl (fun F w hφ => ⟨rfl, rfl⟩) (H' := [mapE (keyInt (tInt_run tI_22)) false valRep g4 ([(1, .func (.func 37) #[] #[]), (2, .func (.func 38) #[] #[]), (3, .func (.func 39) #[] #[]), (4, .func (.func 40) #[] #[]), (7, .func (.func 41) #[] #[.pointer (some ⟨g3, 0, none⟩)])]), .blk g3 [.func (.func 36) #[] #[]] 58]) rfl ?_
 refine wl_makeFunc rfl rfl rfl (freshS_eq rfl) rfl rfl ?_
 refine wl_mapPutE (i := 8) (u := .func (.func 42) #[] #[.pointer (some ⟨g3, 0, none⟩)]) (cs := [.func (.func 42) #[] #[.pointer (some ⟨g3, 0, none⟩)]]) 0 rfl rfl (.inr rfl) rfl rfl rfl rfl tM_59 trivial rfl (fun F w hφ => ⟨rfl, rfl⟩) (H' := [mapE (keyInt (tInt_run tI_22)) false valRep g4 ([(1, .func (.func 37) #[] #[]), (2, .func (.func 38) #[] #[]), (3, .func (.func 39) #[] #[]), (4, .func (.func 40) #[] #[]), (7, .func (.func 41) #[] #[.pointer (some ⟨g3, 0, none⟩)]), (8, .func (.func 42) #[] #[.pointer (some ⟨g3, 0, none⟩)])]), .blk g3 [.func (.func 36) #[] #[]] 58]) rfl ?_
 refine wl_makeFunc rfl rfl rfl (freshS_eq rfl) rfl rfl ?_
 refine wl_mapPutE (i := 9) (u := .func (.func 43) #[] #[.pointer (some ⟨g3, 0, none⟩)]) (cs := [.func (.func 43) #[] #[.pointer (some ⟨g3, 0, none⟩)]]) 0 rfl rfl (.inr rfl) rfl rfl rfl rfl tM_59 trivial rfl (fun F w hφ => ⟨rfl, rfl⟩) (H' := [mapE (keyInt (tInt_run tI_22)) false valRep g4 ([(1, .func (.func 37) #[] #[]), (2, .func (.func 38) #[] #[]), (3, .func (.func 39) #[] #[]), (4, .func (.func 40) #[] #[]), (7, .func (.func 41) #[] #[.pointer (some ⟨g3, 0, none⟩)]), (8, .func (.func 42) #[] #[.pointer (some ⟨g3, 0, none⟩)]), (9, .func (.func 43) #[] #[.pointer (some ⟨g3, 0, none⟩)])]), .blk g3 [.func (.func 36) #[] #[]] 58]) rfl ?_
 refine wl_makeFunc rfl rfl rfl (freshS_eq rfl) rfl rfl ?_
 refine wl_mapPutE (i := 10) (u := .func (.func 44) #[] #[.pointer (some ⟨g3, 0, none⟩)]) (cs := [.func (.func 44) #[] #[.pointer (some ⟨g3, 0, none⟩)]]) 0 rfl rfl (.inr rfl) rfl rfl rfl rfl tM_59 trivial rfl (fun F w hφ => ⟨rfl, rfl⟩) (H' := [mapE (keyInt (tInt_run tI_22)) false valRep g4 ([(1, .func (.func 37) #[] #[]), (2, .func (.func 38) #[] #[]), (3, .func (.func 39) #[] #[]), (4, .func (.func 40) #[] #[]), (7, .func (.func 41) #[] #[.pointer (some ⟨g3, 0, none⟩)]), (8, .func (.func 42) #[] #[.pointer (some ⟨g3, 0, none⟩)]), (9, .func (.func 43) #[] #[.pointer (some ⟨g3, 0, none⟩)]), (10, .func (.func 44) #[] #[.pointer (some ⟨g3, 0, none⟩)])]), .blk g3 [.func (.func 36) #[] #[]] 58]) rfl ?_
 refine wl_makeFunc rfl rfl rfl (freshS_eq rfl) rfl rfl ?_
 refine wl_mapPutE (i := 11) (u := .func (.func 45) #[] #[.pointer (some ⟨g3, 0, none⟩)]) (cs := [.func (.func 45) #[] #[.pointer (some ⟨g3, 0, none⟩)]]) 0 rfl rfl (.inr rfl) rfl rfl rfl rfl tM_59 trivial rfl (fun F w hφ => ⟨rfl, rfl⟩) (H' := [mapE (keyInt (tInt_run tI_22)) false valRep g4 ([(1, .func (.func 37) #[] #[]), (2, .func (.func 38) #[] #[]), (3, .func (.func 39) #[] #[]), (4, .func (.func 40) #[] #[]), (7, .func (.func 41) #[] #[.pointer (some ⟨g3, 0, none⟩)]), (8, .func (.func 42) #[] #[.pointer (some ⟨g3, 0, none⟩)]), (9, .func (.func 43) #[] #[.pointer (some ⟨g3, 0, none⟩)]), (10, .func (.func 44) #[] #[.pointer (some ⟨g3, 0, none⟩)]), (11, .func (.func 45) #[] #[.pointer (some ⟨g3, 0, none⟩)])]), .blk g3 [.func (.func 36) #[] #[]] 58]) rfl ?_
 refine wl_pure rfl rfl rfl (freshS_eq rfl) rfl ?_
 refine wl_pure rfl rfl rfl (freshS_eq rfl) rfl ?_
 rcases ite_some hm with ⟨hq12_0, hm⟩ | ⟨hq12_0, hm⟩
 ·
  refine wl_lookYesE (i := a0) (a := (.func (.func 37) #[] #[])) valRep_opens 0 rfl rfl rfl (freshS_eq rfl) rfl rfl rfl rfl tM_59 trivial (by rw [eq_of_beq hq12_0]; rfl) (u := fun _ => .func (.func 37) #[] #[]) (fun _ => rfl) (v := fun _ => .func (.func 37) #[] #[]) (fun _ => rfl) (fun _ _ => ?_)
  refine wl_pure rfl rfl rfl (freshS_eq rfl) rfl ?_
  refine wl_nil ?_
  refine we_then ?_
  refine wc_keep [2] (S' := [_]) rfl ?_
  refine wc_ret ?_
  have hE := (Option.some.inj hm).symm
  cases hE
 rcases ite_some hm with ⟨hq12_1, hm⟩ | ⟨hq12_1, hm⟩
 ·
  refine wl_lookYesE (i := a0) (a := (.func (.func 38) #[] #[])) valRep_opens 0 rfl rfl rfl (freshS_eq rfl) rfl rfl rfl rfl tM_59 trivial (by rw [eq_of_beq hq12_1]; rfl) (u := fun _ => .func (.func 38) #[] #[]) (fun _ => rfl) (v := fun _ => .func (.func 38) #[] #[]) (fun _ => rfl) (fun _ _ => ?_)
  refine wl_pure rfl rfl rfl (freshS_eq rfl) rfl ?_
  refine wl_nil ?_
  refine we_then ?_
  refine wc_keep [2] (S' := [_]) rfl ?_
  refine wc_ret ?_
  have hE := (Option.some.inj hm).symm
  cases hE
 rcases ite_some hm with ⟨hq12_2, hm⟩ | ⟨hq12_2, hm⟩
 ·
  refine wl_lookYesE (i := a0) (a := (.func (.func 39) #[] #[])) valRep_opens 0 rfl rfl rfl (freshS_eq rfl) rfl rfl rfl rfl tM_59 trivial (by rw [eq_of_beq hq12_2]; rfl) (u := fun _ => .func (.func 39) #[] #[]) (fun _ => rfl) (v := fun _ => .func (.func 39) #[] #[]) (fun _ => rfl) (fun _ _ => ?_)
  refine wl_pure rfl rfl rfl (freshS_eq rfl) rfl ?_
  refine wl_nil ?_
  refine we_then ?_
  refine wc_keep [2] (S' := [_]) rfl ?_
  refine wc_ret ?_
  have hE := (Option.some.inj hm).symm
  cases hE
 rcases ite_some hm with ⟨hq12_3, hm⟩ | ⟨hq12_3, hm⟩
 ·
  refine wl_lookYesE (i := a0) (a := (.func (.func 40) #[] #[])) valRep_opens 0 rfl rfl rfl (freshS_eq rfl) rfl rfl rfl rfl tM_59 trivial (by rw [eq_of_beq hq12_3]; rfl) (u := fun _ => .func (.func 40) #[] #[]) (fun _ => rfl) (v := fun _ => .func (.func 40) #[] #[]) (fun _ => rfl) (fun _ _ => ?_)
  refine wl_pure rfl rfl rfl (freshS_eq rfl) rfl ?_
  refine wl_nil ?_
  refine we_then ?_
  refine wc_keep [2] (S' := [_]) rfl ?_
  refine wc_ret ?_
  have hE := (Option.some.inj hm).symm
  cases hE
 rcases ite_some hm with ⟨hq12_4, hm⟩ | ⟨hq12_4, hm⟩
 ·
  refine wl_lookYesE (i := a0) (a := (.func (.func 41) #[] #[.pointer (some ⟨g3, 0, none⟩)])) valRep_opens 0 rfl rfl rfl (freshS_eq rfl) rfl rfl rfl rfl tM_59 trivial (by rw [eq_of_beq hq12_4]; rfl) (u := fun _ => .func (.func 41) #[] #[.pointer (some ⟨g3, 0, none⟩)]) (fun _ => rfl) (v := fun _ => .func (.func 41) #[] #[.pointer (some ⟨g3, 0, none⟩)]) (fun _ => rfl) (fun _ _ => ?_)
  refine wl_pure rfl rfl rfl (freshS_eq rfl) rfl ?_
  refine wl_nil ?_
  refine we_then ?_
  refine wc_keep [2] (S' := [_]) rfl ?_
  refine wc_ret ?_
  have hE := (Option.some.inj hm).symm
  cases hE
 rcases ite_some hm with ⟨hq12_5, hm⟩ | ⟨hq12_5, hm⟩
 ·
  refine wl_lookYesE (i := a0) (a := (.func (.func 42) #[] #[.pointer (some ⟨g3, 0, none⟩)])) valRep_opens 0 rfl rfl rfl (freshS_eq rfl) rfl rfl rfl rfl tM_59 trivial (by rw [eq_of_beq hq12_5]; rfl) (u := fun _ => .func (.func 42) #[] #[.pointer (some ⟨g3, 0, none⟩)]) (fun _ => rfl) (v := fun _ => .func (.func 42) #[] #[.pointer (some ⟨g3, 0, none⟩)]) (fun _ => rfl) (fun _ _ => ?_)
  refine wl_pure rfl rfl rfl (freshS_eq rfl) rfl ?_
  refine wl_nil ?_
  refine we_then ?_
  refine wc_keep [2] (S' := [_]) rfl ?_
  refine wc_ret ?_
  have hE := (Option.some.inj hm).symm
  cases hE
 rcases ite_some hm with ⟨hq12_6, hm⟩ | ⟨hq12_6, hm⟩
 ·
  refine wl_lookYesE (i := a0) (a := (.func (.func 43) #[] #[.pointer (some ⟨g3, 0, none⟩)])) valRep_opens 0 rfl rfl rfl (freshS_eq rfl) rfl rfl rfl rfl tM_59 trivial (by rw [eq_of_beq hq12_6]; rfl) (u := fun _ => .func (.func 43) #[] #[.pointer (some ⟨g3, 0, none⟩)]) (fun _ => rfl) (v := fun _ => .func (.func 43) #[] #[.pointer (some ⟨g3, 0, none⟩)]) (fun _ => rfl) (fun _ _ => ?_)
  refine wl_pure rfl rfl rfl (freshS_eq rfl) rfl ?_
  refine wl_nil ?_
  refine we_then ?_
  refine wc_keep [2] (S' := [_]) rfl ?_
  refine wc_ret ?_
  have hE := (Option.some.inj hm).symm
  cases hE
 rcases ite_some hm with ⟨hq12_7, hm⟩ | ⟨hq12_7, hm⟩
 ·
  refine wl_lookYesE (i := a0) (a := (.func (.func 44) #[] #[.pointer (some ⟨g3, 0, none⟩)])) valRep_opens 0 rfl rfl rfl (freshS_eq rfl) rfl rfl rfl rfl tM_59 trivial (by rw [eq_of_beq hq12_7]; rfl) (u := fun _ => .func (.func 44) #[] #[.pointer (some ⟨g3, 0, none⟩)]) (fun _ => rfl) (v := fun _ => .func (.func 44) #[] #[.pointer (some ⟨g3, 0, none⟩)]) (fun _ => rfl) (fun _ _ => ?_)
  refine wl_pure rfl rfl rfl (freshS_eq rfl) rfl ?_
  refine wl_nil ?_
  refine we_then ?_
  refine wc_keep [2] (S' := [_]) rfl ?_
  refine wc_ret ?_
  have hE := (Option.some.inj hm).symm
  replace hE := Sum.inr.inj hE
  replace hE := Sum.inr.inj hE
  replace hE := Sum.inr.inj hE
  replace hE := Sum.inr.inj hE
  replace hE := Sum.inr.inj hE
  replace hE := Sum.inr.inj hE
  replace hE := Sum.inr.inj hE
  replace hE := Sum.inl.inj hE
  refine ret_one (Hr := [_]) [1] Tryd.results24 (res_tmp rfl) ⟨g3, rfl, rfl, rfl⟩ (fun _ _ hφ => ask [] rfl hφ) rfl rfl (.inl rfl)
 rcases ite_some hm with ⟨hq12_8, hm⟩ | ⟨hq12_8, hm⟩
 ·
  refine wl_lookYesE (i := a0) (a := (.func (.func 45) #[] #[.pointer (some ⟨g3, 0, none⟩)])) valRep_opens 0 rfl rfl rfl (freshS_eq rfl) rfl rfl rfl rfl tM_59 trivial (by rw [eq_of_beq hq12_8]; rfl) (u := fun _ => .func (.func 45) #[] #[.pointer (some ⟨g3, 0, none⟩)]) (fun _ => rfl) (v := fun _ => .func (.func 45) #[] #[.pointer (some ⟨g3, 0, none⟩)]) (fun _ => rfl) (fun _ _ => ?_)
  refine wl_pure rfl rfl rfl (freshS_eq rfl) rfl ?_
  refine wl_nil ?_
  refine we_then ?_
  refine wc_keep [2] (S' := [_]) rfl ?_
  refine wc_ret ?_
  have hE := (Option.some.inj hm).symm
  cases hE
 ·
  refine wl_lookNoE (i := a0) 0 rfl rfl rfl (freshS_eq rfl) rfl rfl rfl rfl tZ_47 tM_59 trivial (by simp [mlook, (ne_of_beq_false hq12_0).symm, (ne_of_beq_false hq12_1).symm, (ne_of_beq_false hq12_2).symm, (ne_of_beq_false hq12_3).symm, (ne_of_beq_false hq12_4).symm, (ne_of_beq_false hq12_5).symm, (ne_of_beq_false hq12_6).symm, (ne_of_beq_false hq12_7).symm, (ne_of_beq_false hq12_8).symm]) (v := .nilFunc) rfl ?_
  refine wl_pure rfl rfl rfl (freshS_eq rfl) rfl ?_
  refine wl_nil ?_
  refine we_then ?_
  refine wc_keep [2] (S' := [_]) rfl ?_
  refine wc_ret ?_
  have hE := (Option.some.inj hm).symm
  cases hE
set_option maxRecDepth 100000 in
set_option maxHeartbeats 4000000 in
theorem w_value_does_s8 (N : Nat) (a0 : Int)  (hm : m_value_does N a0 = some (.inr (.inr (.inr (.inr (.inr (.inr (.inr (.inr (.inl ())))))))))) : Spec Tryd.prog 24 [.int .u8 a0] [tabF Tryd.prog "internal/strconv.uint64pow10" .u64 Lib.pow10Tab 1 pow10_g] [] (fun v Φr Hr => ∃ (o0 : Nat), v = .func (.func 45) #[] #[.pointer (some ⟨o0, 0, none⟩)] ∧ Φr = [] ∧ Hr = [.blk o0 [.func (.func 36) #[] #[]] 58]) := by
 unfold m_value_does at hm
 refine spec_of Tryd.func24 rfl Tryd.ntmps24 rfl (S := [_]) rfl (fun C => ?_)
 refine wc_seq ?_
 refine wc_region ?_
 refine wl_pure rfl rfl rfl (freshS_eq rfl) rfl ?_
 refine wl_nil ?_
 refine we_then ?_
 refine wc_keep [0] (S' := [_]) rfl ?_
 refine wc_seq ?_
 refine wc_region ?_
 refine wl_alloc rfl rfl rfl (freshS_eq rfl) rfl tZ_58 rfl (fun g3 => ?_)
 refine wl_store 0 0 rfl rfl rfl rfl rfl rfl rfl tS_58 rfl rfl rfl (all' := [_]) rfl (H' := [_]) rfl ?_
 refine wl_nil ?_
 refine we_then ?_
 refine wc_seq ?_
 refine wc_region ?_
 refine wl_makeMapE (keyInt (tInt_run tI_22)) false valRep rfl rfl rfl (freshS_eq rfl) rfl (fun g4 => ?_)
 refine wl_mapPutE (i := 1) (u := .func (.func 37) #[] #[]) (cs := [.func (.func 37) #[] #[]]) 0 rfl rfl (.inr rfl) rfl rfl rfl rfl tM_59 trivial rfl (fun F w hφ => ⟨rfl, rfl⟩) (H' := [mapE (keyInt (tInt_run tI_22)) false valRep g4 ([(1, .func (.func 37) #[] #[])]), .blk g3 [.func (.func 36) #[] #[]] 58]) rfl ?_
 refine wl_mapPutE (i := 2) (u := .func (.func 38) #[] #[]) (cs := [.func (.func 38) #[] #[]]) 0 rfl rfl (.inr rfl) rfl rfl rfl rfl tM_59 trivial rfl (fun F w hφ => ⟨rfl, rfl⟩) (H' := [mapE (keyInt (tInt_run tI_22)) false valRep g4 ([(1, .func (.func 37) #[] #[]), (2, .func (.func 38) #[] #[])]), .blk g3 [.func (.func 36) #[] #[]] 58]) rfl ?_
 refine wl_mapPutE (i := 3) (u := .func (.func 39) #[] #[]) (cs := [.func (.func 39) #[] #[]]) 0 rfl rfl (.inr rfl) rfl rfl rfl rfl tM_59 trivial rfl (fun F w hφ => ⟨rfl, rfl⟩) (H' := [mapE (keyInt (tInt_run tI_22)) false valRep g4 ([(1, .func (.func 37) #[] #[]), (2, .func (.func 38) #[] #[]), (3, .func (.func 39) #[] #[])]), .blk g3 [.func (.func 36) #[] #[]] 58]) rfl ?_
 refine wl_mapPutE (i := 4) (u := .func (.func 40) #[] #[]) (cs := [.func (.func 40) #[] #[]]) 0 rfl rfl (.inr rfl) rfl rfl rfl rfl tM_59 trivial rfl (fun F w hφ => ⟨rfl, rfl⟩) (H' := [mapE (keyInt (tInt_run tI_22)) false valRep g4 ([(1, .func (.func 37) #[] #[]), (2, .func (.func 38) #[] #[]), (3, .func (.func 39) #[] #[]), (4, .func (.func 40) #[] #[])]), .blk g3 [.func (.func 36) #[] #[]] 58]) rfl ?_
 refine wl_makeFunc rfl rfl rfl (freshS_eq rfl) rfl rfl ?_
 refine wl_mapPutE (i := 7) (u := .func (.func 41) #[] #[.pointer (some ⟨g3, 0, none⟩)]) (cs := [.func (.func 41) #[] #[.pointer (some ⟨g3, 0, none⟩)]]) 0 rfl rfl (.inr rfl) rfl rfl rfl rfl tM_59 trivial rfl (fun F w hφ => ⟨rfl, rfl⟩) (H' := [mapE (keyInt (tInt_run tI_22)) false valRep g4 ([(1, .func (.func 37) #[] #[]), (2, .func (.func 38) #[] #[]), (3, .func (.func 39) #[] #[]), (4, .func (.func 40) #[] #[]), (7, .func (.func 41) #[] #[.pointer (some ⟨g3, 0, none⟩)])]), .blk g3 [.func (.func 36) #[] #[]] 58]) rfl ?_
 refine wl_makeFunc rfl rfl rfl (freshS_eq rfl) rfl rfl ?_
 refine wl_mapPutE (i := 8) (u := .func (.func 42) #[] #[.pointer (some ⟨g3, 0, none⟩)]) (cs := [.func (.func 42) #[] #[.pointer (some ⟨g3, 0, none⟩)]]) 0 rfl rfl (.inr rfl) rfl rfl rfl rfl tM_59 trivial rfl (fun F w hφ => ⟨rfl, rfl⟩) (H' := [mapE (keyInt (tInt_run tI_22)) false valRep g4 ([(1, .func (.func 37) #[] #[]), (2, .func (.func 38) #[] #[]), (3, .func (.func 39) #[] #[]), (4, .func (.func 40) #[] #[]), (7, .func (.func 41) #[] #[.pointer (some ⟨g3, 0, none⟩)]), (8, .func (.func 42) #[] #[.pointer (some ⟨g3, 0, none⟩)])]), .blk g3 [.func (.func 36) #[] #[]] 58]) rfl ?_
 refine wl_makeFunc rfl rfl rfl (freshS_eq rfl) rfl rfl ?_
 refine wl_mapPutE (i := 9) (u := .func (.func 43) #[] #[.pointer (some ⟨g3, 0, none⟩)]) (cs := [.func (.func 43) #[] #[.pointer (some ⟨g3, 0, none⟩)]]) 0 rfl rfl (.inr rfl) rfl rfl rfl rfl tM_59 trivial rfl (fun F w hφ => ⟨rfl, rfl⟩) (H' := [mapE (keyInt (tInt_run tI_22)) false valRep g4 ([(1, .func (.func 37) #[] #[]), (2, .func (.func 38) #[] #[]), (3, .func (.func 39) #[] #[]), (4, .func (.func 40) #[] #[]), (7, .func (.func 41) #[] #[.pointer (some ⟨g3, 0, none⟩)]), (8, .func (.func 42) #[] #[.pointer (some ⟨g3, 0, none⟩)]), (9, .func (.func 43) #[] #[.pointer (some ⟨g3, 0, none⟩)])]), .blk g3 [.func (.func 36) #[] #[]] 58]) rfl ?_
 refine wl_makeFunc rfl rfl rfl (freshS_eq rfl) rfl rfl ?_
 refine wl_mapPutE (i := 10) (u := .func (.func 44) #[] #[.pointer (some ⟨g3, 0, none⟩)]) (cs := [.func (.func 44) #[] #[.pointer (some ⟨g3, 0, none⟩)]]) 0 rfl rfl (.inr rfl) rfl rfl rfl rfl tM_59 trivial rfl (fun F w hφ => ⟨rfl, rfl⟩) (H' := [mapE (keyInt (tInt_run tI_22)) false valRep g4 ([(1, .func (.func 37) #[] #[]), (2, .func (.func 38) #[] #[]), (3, .func (.func 39) #[] #[]), (4, .func (.func 40) #[] #[]), (7, .func (.func 41) #[] #[.pointer (some ⟨g3, 0, none⟩)]), (8, .func (.func 42) #[] #[.pointer (some ⟨g3, 0, none⟩)]), (9, .func (.func 43) #[] #[.pointer (some ⟨g3, 0, none⟩)]), (10, .func (.func 44) #[] #[.pointer (some ⟨g3, 0, none⟩)])]), .blk g3 [.func (.func 36) #[] #[]] 58]) rfl ?_
 refine wl_makeFunc rfl rfl rfl (freshS_eq rfl) rfl rfl ?_
 refine wl_mapPutE (i := 11) (u := .func (.func 45) #[] #[.pointer (some ⟨g3, 0, none⟩)]) (cs := [.func (.func 45) #[] #[.pointer (some ⟨g3, 0, none⟩)]]) 0 rfl rfl (.inr rfl) rfl rfl rfl rfl tM_59 trivial rfl (fun F w hφ => ⟨rfl, rfl⟩) (H' := [mapE (keyInt (tInt_run tI_22)) false valRep g4 ([(1, .func (.func 37) #[] #[]), (2, .func (.func 38) #[] #[]), (3, .func (.func 39) #[] #[]), (4, .func (.func 40) #[] #[]), (7, .func (.func 41) #[] #[.pointer (some ⟨g3, 0, none⟩)]), (8, .func (.func 42) #[] #[.pointer (some ⟨g3, 0, none⟩)]), (9, .func (.func 43) #[] #[.pointer (some ⟨g3, 0, none⟩)]), (10, .func (.func 44) #[] #[.pointer (some ⟨g3, 0, none⟩)]), (11, .func (.func 45) #[] #[.pointer (some ⟨g3, 0, none⟩)])]), .blk g3 [.func (.func 36) #[] #[]] 58]) rfl ?_
 refine wl_pure rfl rfl rfl (freshS_eq rfl) rfl ?_
 refine wl_pure rfl rfl rfl (freshS_eq rfl) rfl ?_
 rcases ite_some hm with ⟨hq12_0, hm⟩ | ⟨hq12_0, hm⟩
 ·
  refine wl_lookYesE (i := a0) (a := (.func (.func 37) #[] #[])) valRep_opens 0 rfl rfl rfl (freshS_eq rfl) rfl rfl rfl rfl tM_59 trivial (by rw [eq_of_beq hq12_0]; rfl) (u := fun _ => .func (.func 37) #[] #[]) (fun _ => rfl) (v := fun _ => .func (.func 37) #[] #[]) (fun _ => rfl) (fun _ _ => ?_)
  refine wl_pure rfl rfl rfl (freshS_eq rfl) rfl ?_
  refine wl_nil ?_
  refine we_then ?_
  refine wc_keep [2] (S' := [_]) rfl ?_
  refine wc_ret ?_
  have hE := (Option.some.inj hm).symm
  cases hE
 rcases ite_some hm with ⟨hq12_1, hm⟩ | ⟨hq12_1, hm⟩
 ·
  refine wl_lookYesE (i := a0) (a := (.func (.func 38) #[] #[])) valRep_opens 0 rfl rfl rfl (freshS_eq rfl) rfl rfl rfl rfl tM_59 trivial (by rw [eq_of_beq hq12_1]; rfl) (u := fun _ => .func (.func 38) #[] #[]) (fun _ => rfl) (v := fun _ => .func (.func 38) #[] #[]) (fun _ => rfl) (fun _ _ => ?_)
  refine wl_pure rfl rfl rfl (freshS_eq rfl) rfl ?_
  refine wl_nil ?_
  refine we_then ?_
  refine wc_keep [2] (S' := [_]) rfl ?_
  refine wc_ret ?_
  have hE := (Option.some.inj hm).symm
  cases hE
 rcases ite_some hm with ⟨hq12_2, hm⟩ | ⟨hq12_2, hm⟩
 ·
  refine wl_lookYesE (i := a0) (a := (.func (.func 39) #[] #[])) valRep_opens 0 rfl rfl rfl (freshS_eq rfl) rfl rfl rfl rfl tM_59 trivial (by rw [eq_of_beq hq12_2]; rfl) (u := fun _ => .func (.func 39) #[] #[]) (fun _ => rfl) (v := fun _ => .func (.func 39) #[] #[]) (fun _ => rfl) (fun _ _ => ?_)
  refine wl_pure rfl rfl rfl (freshS_eq rfl) rfl ?_
  refine wl_nil ?_
  refine we_then ?_
  refine wc_keep [2] (S' := [_]) rfl ?_
  refine wc_ret ?_
  have hE := (Option.some.inj hm).symm
  cases hE
 rcases ite_some hm with ⟨hq12_3, hm⟩ | ⟨hq12_3, hm⟩
 ·
  refine wl_lookYesE (i := a0) (a := (.func (.func 40) #[] #[])) valRep_opens 0 rfl rfl rfl (freshS_eq rfl) rfl rfl rfl rfl tM_59 trivial (by rw [eq_of_beq hq12_3]; rfl) (u := fun _ => .func (.func 40) #[] #[]) (fun _ => rfl) (v := fun _ => .func (.func 40) #[] #[]) (fun _ => rfl) (fun _ _ => ?_)
  refine wl_pure rfl rfl rfl (freshS_eq rfl) rfl ?_
  refine wl_nil ?_
  refine we_then ?_
  refine wc_keep [2] (S' := [_]) rfl ?_
  refine wc_ret ?_
  have hE := (Option.some.inj hm).symm
  cases hE
 rcases ite_some hm with ⟨hq12_4, hm⟩ | ⟨hq12_4, hm⟩
 ·
  refine wl_lookYesE (i := a0) (a := (.func (.func 41) #[] #[.pointer (some ⟨g3, 0, none⟩)])) valRep_opens 0 rfl rfl rfl (freshS_eq rfl) rfl rfl rfl rfl tM_59 trivial (by rw [eq_of_beq hq12_4]; rfl) (u := fun _ => .func (.func 41) #[] #[.pointer (some ⟨g3, 0, none⟩)]) (fun _ => rfl) (v := fun _ => .func (.func 41) #[] #[.pointer (some ⟨g3, 0, none⟩)]) (fun _ => rfl) (fun _ _ => ?_)
  refine wl_pure rfl rfl rfl (freshS_eq rfl) rfl ?_
  refine wl_nil ?_
  refine we_then ?_
  refine wc_keep [2] (S' := [_]) rfl ?_
  refine wc_ret ?_
  have hE := (Option.some.inj hm).symm
  cases hE
 rcases ite_some hm with ⟨hq12_5, hm⟩ | ⟨hq12_5, hm⟩
 ·
  refine wl_lookYesE (i := a0) (a := (.func (.func 42) #[] #[.pointer (some ⟨g3, 0, none⟩)])) valRep_opens 0 rfl rfl rfl (freshS_eq rfl) rfl rfl rfl rfl tM_59 trivial (by rw [eq_of_beq hq12_5]; rfl) (u := fun _ => .func (.func 42) #[] #[.pointer (some ⟨g3, 0, none⟩)]) (fun _ => rfl) (v := fun _ => .func (.func 42) #[] #[.pointer (some ⟨g3, 0, none⟩)]) (fun _ => rfl) (fun _ _ => ?_)
  refine wl_pure rfl rfl rfl (freshS_eq rfl) rfl ?_
  refine wl_nil ?_
  refine we_then ?_
  refine wc_keep [2] (S' := [_]) rfl ?_
  refine wc_ret ?_
  have hE := (Option.some.inj hm).symm
  cases hE
 rcases ite_some hm with ⟨hq12_6, hm⟩ | ⟨hq12_6, hm⟩
 ·
  refine wl_lookYesE (i := a0) (a := (.func (.func 43) #[] #[.pointer (some ⟨g3, 0, none⟩)])) valRep_opens 0 rfl rfl rfl (freshS_eq rfl) rfl rfl rfl rfl tM_59 trivial (by rw [eq_of_beq hq12_6]; rfl) (u := fun _ => .func (.func 43) #[] #[.pointer (some ⟨g3, 0, none⟩)]) (fun _ => rfl) (v := fun _ => .func (.func 43) #[] #[.pointer (some ⟨g3, 0, none⟩)]) (fun _ => rfl) (fun _ _ => ?_)
  refine wl_pure rfl rfl rfl (freshS_eq rfl) rfl ?_
  refine wl_nil ?_
  refine we_then ?_
  refine wc_keep [2] (S' := [_]) rfl ?_
  refine wc_ret ?_
  have hE := (Option.some.inj hm).symm
  cases hE
 rcases ite_some hm with ⟨hq12_7, hm⟩ | ⟨hq12_7, hm⟩
 ·
  refine wl_lookYesE (i := a0) (a := (.func (.func 44) #[] #[.pointer (some ⟨g3, 0, none⟩)])) valRep_opens 0 rfl rfl rfl (freshS_eq rfl) rfl rfl rfl rfl tM_59 trivial (by rw [eq_of_beq hq12_7]; rfl) (u := fun _ => .func (.func 44) #[] #[.pointer (some ⟨g3, 0, none⟩)]) (fun _ => rfl) (v := fun _ => .func (.func 44) #[] #[.pointer (some ⟨g3, 0, none⟩)]) (fun _ => rfl) (fun _ _ => ?_)
  refine wl_pure rfl rfl rfl (freshS_eq rfl) rfl ?_
  refine wl_nil ?_
  refine we_then ?_
  refine wc_keep [2] (S' := [_]) rfl ?_
  refine wc_ret ?_
  have hE := (Option.some.inj hm).symm
  cases hE
 rcases ite_some hm with ⟨hq12_8, hm⟩ | ⟨hq12_8, hm⟩
 ·
  refine wl_lookYesE (i := a0) (a := (.func (.func 45) #[] #[.pointer (some ⟨g3, 0, none⟩)])) valRep_opens 0 rfl rfl rfl (freshS_eq rfl) rfl rfl rfl rfl tM_59 trivial (by rw [eq_of_beq hq12_8]; rfl) (u := fun _ => .func (.func 45) #[] #[.pointer (some ⟨g3, 0, none⟩)]) (fun _ => rfl) (v := fun _ => .func (.func 45) #[] #[.pointer (some ⟨g3, 0, none⟩)]) (fun _ => rfl) (fun _ _ => ?_)
  refine wl_pure rfl rfl rfl (freshS_eq rfl) rfl ?_
  refine wl_nil ?_
  refine we_then ?_
  refine wc_keep [2] (S' := [_]) rfl ?_
  refine wc_ret ?_
  have hE := (Option.some.inj hm).symm
  replace hE := Sum.inr.inj hE
  replace hE := Sum.inr.inj hE
  replace hE := Sum.inr.inj hE
  replace hE := Sum.inr.inj hE
  replace hE := Sum.inr.inj hE
  replace hE := Sum.inr.inj hE
  replace hE := Sum.inr.inj hE
  replace hE := Sum.inr.inj hE
  replace hE := Sum.inl.inj hE
  refine ret_one (Hr := [_]) [1] Tryd.results24 (res_tmp rfl) ⟨g3, rfl, rfl, rfl⟩ (fun _ _ hφ => ask [] rfl hφ) rfl rfl (.inl rfl)
 ·
  refine wl_lookNoE (i := a0) 0 rfl rfl rfl (freshS_eq rfl) rfl rfl rfl rfl tZ_47 tM_59 trivial (by simp [mlook, (ne_of_beq_false hq12_0).symm, (ne_of_beq_false hq12_1).symm, (ne_of_beq_false hq12_2).symm, (ne_of_beq_false hq12_3).symm, (ne_of_beq_false hq12_4).symm, (ne_of_beq_false hq12_5).symm, (ne_of_beq_false hq12_6).symm, (ne_of_beq_false hq12_7).symm, (ne_of_beq_false hq12_8).symm]) (v := .nilFunc) rfl ?_
  refine wl_pure rfl rfl rfl (freshS_eq rfl) rfl ?_
  refine wl_nil ?_
  refine we_then ?_
  refine wc_keep [2] (S' := [_]) rfl ?_
  refine wc_ret ?_
  have hE := (Option.some.inj hm).symm
  cases hE
set_option maxRecDepth 100000 in
set_option maxHeartbeats 4000000 in
theorem w_value_does_s9 (N : Nat) (a0 : Int)  (hm : m_value_does N a0 = some (.inr (.inr (.inr (.inr (.inr (.inr (.inr (.inr (.inr ())))))))))) : Spec Tryd.prog 24 [.int .u8 a0] [tabF Tryd.prog "internal/strconv.uint64pow10" .u64 Lib.pow10Tab 1 pow10_g] [] (fun v Φr Hr => v = .nilFunc ∧ Φr = [] ∧ Hr = []) := by
 unfold m_value_does at hm
 refine spec_of Tryd.func24 rfl Tryd.ntmps24 rfl (S := [_]) rfl (fun C => ?_)
 refine wc_seq ?_
 refine wc_region ?_
 refine wl_pure rfl rfl rfl (freshS_eq rfl) rfl ?_
 refine wl_nil ?_
 refine we_then ?_
 refine wc_keep [0] (S' := [_]) rfl ?_
 refine wc_seq ?_
 refine wc_region ?_
 refine wl_alloc rfl rfl rfl (freshS_eq rfl) rfl tZ_58 rfl (fun g3 => ?_)
 refine wl_store 0 0 rfl rfl rfl rfl rfl rfl rfl tS_58 rfl rfl rfl (all' := [_]) rfl (H' := [_]) rfl ?_
 refine wl_nil ?_
 refine we_then ?_
 refine wc_seq ?_
 refine wc_region ?_
 refine wl_makeMapE (keyInt (tInt_run tI_22)) false valRep rfl rfl rfl (freshS_eq rfl) rfl (fun g4 => ?_)
 refine wl_mapPutE (i := 1) (u := .func (.func 37) #[] #[]) (cs := [.func (.func 37) #[] #[]]) 0 rfl rfl (.inr rfl) rfl rfl rfl rfl tM_59 trivial rfl (fun F w hφ => ⟨rfl, rfl⟩) (H' := [mapE (keyInt (tInt_run tI_22)) false valRep g4 ([(1, .func (.func 37) #[] #[])]), .blk g3 [.func (.func 36) #[] #[]] 58]) rfl ?_
 refine wl_mapPutE (i := 2) (u := .func (.func 38) #[] #[]) (cs := [.func (.func 38) #[] #[]]) 0 rfl rfl (.inr rfl) rfl rfl rfl rfl tM_59 trivial rfl (fun F w hφ => ⟨rfl, rfl⟩) (H' := [mapE (keyInt (tInt_run tI_22)) false valRep g4 ([(1, .func (.func 37) #[] #[]), (2, .func (.func 38) #[] #[])]), .blk g3 [.func (.func 36) #[] #[]] 58]) rfl ?_
 refine wl_mapPutE (i := 3) (u := .func (.func 39) #[] #[]) (cs := [.func (.func 39) #[] #[]]) 0 rfl rfl (.inr rfl) rfl rfl rfl rfl tM_59 trivial rfl (fun F w hφ => ⟨rfl, rfl⟩) (H' := [mapE (keyInt (tInt_run tI_22)) false valRep g4 ([(1, .func (.func 37) #[] #[]), (2, .func (.func 38) #[] #[]), (3, .func (.func 39) #[] #[])]), .blk g3 [.func (.func 36) #[] #[]] 58]) rfl ?_
 refine wl_mapPutE (i := 4) (u := .func (.func 40) #[] #[]) (cs := [.func (.func 40) #[] #[]]) 0 rfl rfl (.inr rfl) rfl rfl rfl rfl tM_59 trivial rfl (fun F w hφ => ⟨rfl, rfl⟩) (H' := [mapE (keyInt (tInt_run tI_22)) false valRep g4 ([(1, .func (.func 37) #[] #[]), (2, .func (.func 38) #[] #[]), (3, .func (.func 39) #[] #[]), (4, .func (.func 40) #[] #[])]), .blk g3 [.func (.func 36) #[] #[]] 58]) rfl ?_
 refine wl_makeFunc rfl rfl rfl (freshS_eq rfl) rfl rfl ?_
 refine wl_mapPutE (i := 7) (u := .func (.func 41) #[] #[.pointer (some ⟨g3, 0, none⟩)]) (cs := [.func (.func 41) #[] #[.pointer (some ⟨g3, 0, none⟩)]]) 0 rfl rfl (.inr rfl) rfl rfl rfl rfl tM_59 trivial rfl (fun F w hφ => ⟨rfl, rfl⟩) (H' := [mapE (keyInt (tInt_run tI_22)) false valRep g4 ([(1, .func (.func 37) #[] #[]), (2, .func (.func 38) #[] #[]), (3, .func (.func 39) #[] #[]), (4, .func (.func 40) #[] #[]), (7, .func (.func 41) #[] #[.pointer (some ⟨g3, 0, none⟩)])]), .blk g3 [.func (.func 36) #[] #[]] 58]) rfl ?_
 refine wl_makeFunc rfl rfl rfl (freshS_eq rfl) rfl rfl ?_
 refine wl_mapPutE (i := 8) (u := .func (.func 42) #[] #[.pointer (some ⟨g3, 0, none⟩)]) (cs := [.func (.func 42) #[] #[.pointer (some ⟨g3, 0, none⟩)]]) 0 rfl rfl (.inr rfl) rfl rfl rfl rfl tM_59 trivial rfl (fun F w hφ => ⟨rfl, rfl⟩) (H' := [mapE (keyInt (tInt_run tI_22)) false valRep g4 ([(1, .func (.func 37) #[] #[]), (2, .func (.func 38) #[] #[]), (3, .func (.func 39) #[] #[]), (4, .func (.func 40) #[] #[]), (7, .func (.func 41) #[] #[.pointer (some ⟨g3, 0, none⟩)]), (8, .func (.func 42) #[] #[.pointer (some ⟨g3, 0, none⟩)])]), .blk g3 [.func (.func 36) #[] #[]] 58]) rfl ?_
 refine wl_makeFunc rfl rfl rfl (freshS_eq rfl) rfl rfl ?_
 refine wl_mapPutE (i := 9) (u := .func (.func 43) #[] #[.pointer (some ⟨g3, 0, none⟩)]) (cs := [.func (.func 43) #[] #[.pointer (some ⟨g3, 0, none⟩)]]) 0 rfl rfl (.inr rfl) rfl rfl rfl rfl tM_59 trivial rfl (fun F w hφ => ⟨rfl, rfl⟩) (H' := [mapE (keyInt (tInt_run tI_22)) false valRep g4 ([(1, .func (.func 37) #[] #[]), (2, .func (.func 38) #[] #[]), (3, .func (.func 39) #[] #[]), (4, .func (.func 40) #[] #[]), (7, .func (.func 41) #[] #[.pointer (some ⟨g3, 0, none⟩)]), (8, .func (.func 42) #[] #[.pointer (some ⟨g3, 0, none⟩)]), (9, .func (.func 43) #[] #[.pointer (some ⟨g3, 0, none⟩)])]), .blk g3 [.func (.func 36) #[] #[]] 58]) rfl ?_
 refine wl_makeFunc rfl rfl rfl (freshS_eq rfl) rfl rfl ?_
 refine wl_mapPutE (i := 10) (u := .func (.func 44) #[] #[.pointer (some ⟨g3, 0, none⟩)]) (cs := [.func (.func 44) #[] #[.pointer (some ⟨g3, 0, none⟩)]]) 0 rfl rfl (.inr rfl) rfl rfl rfl rfl tM_59 trivial rfl (fun F w hφ => ⟨rfl, rfl⟩) (H' := [mapE (keyInt (tInt_run tI_22)) false valRep g4 ([(1, .func (.func 37) #[] #[]), (2, .func (.func 38) #[] #[]), (3, .func (.func 39) #[] #[]), (4, .func (.func 40) #[] #[]), (7, .func (.func 41) #[] #[.pointer (some ⟨g3, 0, none⟩)]), (8, .func (.func 42) #[] #[.pointer (some ⟨g3, 0, none⟩)]), (9, .func (.func 43) #[] #[.pointer (some ⟨g3, 0, none⟩)]), (10, .func (.func 44) #[] #[.pointer (some ⟨g3, 0, none⟩)])]), .blk g3 [.func (.func 36) #[] #[]] 58]) rfl ?_
 refine wl_makeFunc rfl rfl rfl (freshS_eq rfl) rfl rfl ?_
 refine wl_mapPutE (i := 11) (u := .func (.func 45) #[] #[.pointer (some ⟨g3, 0, none⟩)]) (cs := [.func (.func 45) #[] #[.pointer (some ⟨g3, 0, none⟩)]]) 0 rfl rfl (.inr rfl) rfl rfl rfl rfl tM_59 trivial rfl (fun F w hφ => ⟨rfl, rfl⟩) (H' := [mapE (keyInt (tInt_run tI_22)) false valRep g4 ([(1, .func (.func 37) #[] #[]), (2, .func (.func 38) #[] #[]), (3, .func (.func 39) #[] #[]), (4, .func (.func 40) #[] #[]), (7, .func (.func 41) #[] #[.pointer (some ⟨g3, 0, none⟩)]), (8, .func (.func 42) #[] #[.pointer (some ⟨g3, 0, none⟩)]), (9, .func (.func 43) #[] #[.pointer (some ⟨g3, 0, none⟩)]), (10, .func (.func 44) #[] #[.pointer (some ⟨g3, 0, none⟩)]), (11, .func (.func 45) #[] #[.pointer (some ⟨g3, 0, none⟩)])]), .blk g3 [.func (.func 36) #[] #[]] 58]) rfl ?_
 refine wl_pure rfl rfl rfl (freshS_eq rfl) rfl ?_
 refine wl_pure rfl rfl rfl (freshS_eq rfl) rfl ?_
 rcases ite_some hm with ⟨hq12_0, hm⟩ | ⟨hq12_0, hm⟩
 ·
  refine wl_lookYesE (i := a0) (a := (.func (.func 37) #[] #[])) valRep_opens 0 rfl rfl rfl (freshS_eq rfl) rfl rfl rfl rfl tM_59 trivial (by rw [eq_of_beq hq12_0]; rfl) (u := fun _ => .func (.func 37) #[] #[]) (fun _ => rfl) (v := fun _ => .func (.func 37) #[] #[]) (fun _ => rfl) (fun _ _ => ?_)
  refine wl_pure rfl rfl rfl (freshS_eq rfl) rfl ?_
  refine wl_nil ?_
  refine we_then ?_
  refine wc_keep [2] (S' := [_]) rfl ?_
  refine wc_ret ?_
  have hE := (Option.some.inj hm).symm
  cases hE
 rcases ite_some hm with ⟨hq12_1, hm⟩ | ⟨hq12_1, hm⟩
 ·
  refine wl_lookYesE (i := a0) (a := (.func (.func 38) #[] #[])) valRep_opens 0 rfl rfl rfl (freshS_eq rfl) rfl rfl rfl rfl tM_59 trivial (by rw [eq_of_beq hq12_1]; rfl) (u := fun _ => .func (.func 38) #[] #[]) (fun _ => rfl) (v := fun _ => .func (.func 38) #[] #[]) (fun _ => rfl) (fun _ _ => ?_)
  refine wl_pure rfl rfl rfl (freshS_eq rfl) rfl ?_
  refine wl_nil ?_
  refine we_then ?_
  refine wc_keep [2] (S' := [_]) rfl ?_
  refine wc_ret ?_
  have hE := (Option.some.inj hm).symm
  cases hE
 rcases ite_some hm with ⟨hq12_2, hm⟩ | ⟨hq12_2, hm⟩
 ·
  refine wl_lookYesE (i := a0) (a := (.func (.func 39) #[] #[])) valRep_opens 0 rfl rfl rfl (freshS_eq rfl) rfl rfl rfl rfl tM_59 trivial (by rw [eq_of_beq hq12_2]; rfl) (u := fun _ => .func (.func 39) #[] #[]) (fun _ => rfl) (v := fun _ => .func (.func 39) #[] #[]) (fun _ => rfl) (fun _ _ => ?_)
  refine wl_pure rfl rfl rfl (freshS_eq rfl) rfl ?_
  refine wl_nil ?_
  refine we_then ?_
  refine wc_keep [2] (S' := [_]) rfl ?_
  refine wc_ret ?_
  have hE := (Option.some.inj hm).symm
  cases hE
 rcases ite_some hm with ⟨hq12_3, hm⟩ | ⟨hq12_3, hm⟩
 ·
  refine wl_lookYesE (i := a0) (a := (.func (.func 40) #[] #[])) valRep_opens 0 rfl rfl rfl (freshS_eq rfl) rfl rfl rfl rfl tM_59 trivial (by rw [eq_of_beq hq12_3]; rfl) (u := fun _ => .func (.func 40) #[] #[]) (fun _ => rfl) (v := fun _ => .func (.func 40) #[] #[]) (fun _ => rfl) (fun _ _ => ?_)
  refine wl_pure rfl rfl rfl (freshS_eq rfl) rfl ?_
  refine wl_nil ?_
  refine we_then ?_
  refine wc_keep [2] (S' := [_]) rfl ?_
  refine wc_ret ?_
  have hE := (Option.some.inj hm).symm
  cases hE
 rcases ite_some hm with ⟨hq12_4, hm⟩ | ⟨hq12_4, hm⟩
 ·
  refine wl_lookYesE (i := a0) (a := (.func (.func 41) #[] #[.pointer (some ⟨g3, 0, none⟩)])) valRep_opens 0 rfl rfl rfl (freshS_eq rfl) rfl rfl rfl rfl tM_59 trivial (by rw [eq_of_beq hq12_4]; rfl) (u := fun _ => .func (.func 41) #[] #[.pointer (some ⟨g3, 0, none⟩)]) (fun _ => rfl) (v := fun _ => .func (.func 41) #[] #[.pointer (some ⟨g3, 0, none⟩)]) (fun _ => rfl) (fun _ _ => ?_)
  refine wl_pure rfl rfl rfl (freshS_eq rfl) rfl ?_
  refine wl_nil ?_
  refine we_then ?_
  refine wc_keep [2] (S' := [_]) rfl ?_
  refine wc_ret ?_
  have hE := (Option.some.inj hm).symm
  cases hE
 rcases ite_some hm with ⟨hq12_5, hm⟩ | ⟨hq12_5, hm⟩
 ·
  refine wl_lookYesE (i := a0) (a := (.func (.func 42) #[] #[.pointer (some ⟨g3, 0, none⟩)])) valRep_opens 0 rfl rfl rfl (freshS_eq rfl) rfl rfl rfl rfl tM_59 trivial (by rw [eq_of_beq hq12_5]; rfl) (u := fun _ => .func (.func 42) #[] #[.pointer (some ⟨g3, 0, none⟩)]) (fun _ => rfl) (v := fun _ => .func (.func 42) #[] #[.pointer (some ⟨g3, 0, none⟩)]) (fun _ => rfl) (fun _ _ => ?_)
  refine wl_pure rfl rfl rfl (freshS_eq rfl) rfl ?_
  refine wl_nil ?_
  refine we_then ?_
  refine wc_keep [2] (S' := [_]) rfl ?_
  refine wc_ret ?_
  have hE := (Option.some.inj hm).symm
  cases hE
 rcases ite_some hm with ⟨hq12_6, hm⟩ | ⟨hq12_6, hm⟩
 ·
  refine wl_lookYesE (i := a0) (a := (.func (.func 43) #[] #[.pointer (some ⟨g3, 0, none⟩)])) valRep_opens 0 rfl rfl rfl (freshS_eq rfl) rfl rfl rfl rfl tM_59 trivial (by rw [eq_of_beq hq12_6]; rfl) (u := fun _ => .func (.func 43) #[] #[.pointer (some ⟨g3, 0, none⟩)]) (fun _ => rfl) (v := fun _ => .func (.func 43) #[] #[.pointer (some ⟨g3, 0, none⟩)]) (fun _ => rfl) (fun _ _ => ?_)
  refine wl_pure rfl rfl rfl (freshS_eq rfl) rfl ?_
  refine wl_nil ?_
  refine we_then ?_
  refine wc_keep [2] (S' := [_]) rfl ?_
  refine wc_ret ?_
  have hE := (Option.some.inj hm).symm
  cases hE
 rcases ite_some hm with ⟨hq12_7, hm⟩ | ⟨hq12_7, hm⟩
 ·
  refine wl_lookYesE (i := a0) (a := (.func (.func 44) #[] #[.pointer (some ⟨g3, 0, none⟩)])) valRep_opens 0 rfl rfl rfl (freshS_eq rfl) rfl rfl rfl rfl tM_59 trivial (by rw [eq_of_beq hq12_7]; rfl) (u := fun _ => .func (.func 44) #[] #[.pointer (some ⟨g3, 0, none⟩)]) (fun _ => rfl) (v := fun _ => .func (.func 44) #[] #[.pointer (some ⟨g3, 0, none⟩)]) (fun _ => rfl) (fun _ _ => ?_)
  refine wl_pure rfl rfl rfl (freshS_eq rfl) rfl ?_
  refine wl_nil ?_
  refine we_then ?_
  refine wc_keep [2] (S' := [_]) rfl ?_
  refine wc_ret ?_
  have hE := (Option.some.inj hm).symm
  cases hE
 rcases ite_some hm with ⟨hq12_8, hm⟩ | ⟨hq12_8, hm⟩
 ·
  refine wl_lookYesE (i := a0) (a := (.func (.func 45) #[] #[.pointer (some ⟨g3, 0, none⟩)])) valRep_opens 0 rfl rfl rfl (freshS_eq rfl) rfl rfl rfl rfl tM_59 trivial (by rw [eq_of_beq hq12_8]; rfl) (u := fun _ => .func (.func 45) #[] #[.pointer (some ⟨g3, 0, none⟩)]) (fun _ => rfl) (v := fun _ => .func (.func 45) #[] #[.pointer (some ⟨g3, 0, none⟩)]) (fun _ => rfl) (fun _ _ => ?_)
  refine wl_pure rfl rfl rfl (freshS_eq rfl) rfl ?_
  refine wl_nil ?_
  refine we_then ?_
  refine wc_keep [2] (S' := [_]) rfl ?_
  refine wc_ret ?_
  have hE := (Option.some.inj hm).symm
  cases hE
 ·
  refine wl_lookNoE (i := a0) 0 rfl rfl rfl (freshS_eq rfl) rfl rfl rfl rfl tZ_47 tM_59 trivial (by simp [mlook, (ne_of_beq_false hq12_0).symm, (ne_of_beq_false hq12_1).symm, (ne_of_beq_false hq12_2).symm, (ne_of_beq_false hq12_3).symm, (ne_of_beq_false hq12_4).symm, (ne_of_beq_false hq12_5).symm, (ne_of_beq_false hq12_6).symm, (ne_of_beq_false hq12_7).symm, (ne_of_beq_false hq12_8).symm]) (v := .nilFunc) rfl ?_
  refine wl_pure rfl rfl rfl (freshS_eq rfl) rfl ?_
  refine wl_nil ?_
  refine we_then ?_
  refine wc_keep [2] (S' := [_]) rfl ?_
  refine wc_ret ?_
  have hE := (Option.some.inj hm).symm
  replace hE := Sum.inr.inj hE
  replace hE := Sum.inr.inj hE
  replace hE := Sum.inr.inj hE
  replace hE := Sum.inr.inj hE
  replace hE := Sum.inr.inj hE
  replace hE := Sum.inr.inj hE
  replace hE := Sum.inr.inj hE
  replace hE := Sum.inr.inj hE
  replace hE := Sum.inr.inj hE
  refine ret_one (Hr := []) [] Tryd.results24 (res_tmp rfl) ⟨rfl, rfl, rfl⟩ (fun _ _ hφ => ask [] rfl hφ) rfl rfl (.inl rfl)
set_option maxRecDepth 100000 in
set_option maxHeartbeats 4000000 in
theorem w_value_does_2_s (N : Nat) (a0 : Int) (a1 : Int)  (hm : m_value_does_2 N a0 a1 = some ()) : Spec Tryd.prog 37 [.int .i64 a0, .int .i64 a1] [tabF Tryd.prog "internal/strconv.uint64pow10" .u64 Lib.pow10Tab 1 pow10_g] [] (fun v Φr Hr => v = .tuple #[.int .i64 (IntKind.wrap .i64 (a0 + a1)), .bool ((decide ((IntKind.wrap .i64 (a0 + a1)) < a0)) == (decide (a1 < 0)))] ∧ Φr = [] ∧ Hr = []) := by
 unfold m_value_does_2 at hm
 refine spec_of Tryd.func37 rfl Tryd.ntmps37 rfl (S := [_,_]) rfl (fun C => ?_)
 refine wc_seq ?_
 refine wc_region ?_
 refine wl_pure rfl rfl rfl (freshS_eq rfl) rfl ?_
 refine wl_pure rfl rfl rfl (freshS_eq rfl) rfl ?_
 refine wl_nil ?_
 refine we_then ?_
 refine wc_keep [0, 1] (S' := [_,_]) rfl ?_
 refine wc_seq ?_
 refine wc_region ?_
 refine wl_pure rfl rfl rfl (freshS_eq rfl) rfl ?_
 refine wl_pure rfl rfl rfl (freshS_eq rfl) rfl ?_
 refine wl_pure rfl rfl rfl (freshS_eq rfl) rfl ?_
 refine wl_pure rfl rfl rfl (freshS_eq rfl) rfl ?_
 refine wl_pure rfl rfl rfl (freshS_eq rfl) rfl ?_
 refine wl_pure rfl rfl rfl (freshS_eq rfl) rfl ?_
 refine wl_pure rfl rfl rfl (freshS_eq rfl) rfl ?_
 refine wl_pure rfl rfl rfl (freshS_eq rfl) rfl ?_
 refine wl_pure rfl rfl rfl (freshS_eq rfl) rfl ?_
 refine wl_pure rfl rfl rfl (freshS_eq rfl) rfl ?_
 refine wl_bin rfl rfl rfl (freshS_eq rfl) rfl rfl rfl (eqlB _ _ (decide ((IntKind.wrap .i64 (a0 + a1)) < a0)) (decide (a1 < 0))) ?_
 refine wl_pure rfl rfl rfl (freshS_eq rfl) rfl ?_
 refine wl_pure rfl rfl rfl (freshS_eq rfl) rfl ?_
 refine wl_nil ?_
 refine we_then ?_
 refine wc_keep [5, 4] (S' := [_,_]) rfl ?_
 refine wc_ret ?_
 have hE := (Option.some.inj hm).symm
 refine ret_two (Hr := []) [] Tryd.results37 (res_tmp rfl) (res_tmp rfl) ⟨rfl, rfl, rfl⟩ (fun _ _ hφ => ask [] rfl hφ) rfl rfl (.inl rfl)
set_option maxRecDepth 100000 in
set_option maxHeartbeats 4000000 in
theorem w_value_does_3_s (N : Nat) (a0 : Int) (a1 : Int)  (hm : m_value_does_3 N a0 a1 = some ()) : Spec Tryd.prog 38 [.int .i64 a0, .int .i64 a1] [tabF Tryd.prog "internal/strconv.uint64pow10" .u64 Lib.pow10Tab 1 pow10_g] [] (fun v Φr Hr => v = .tuple #[.int .i64 (IntKind.wrap .i64 (a0 - a1)), .bool ((decide ((IntKind.wrap .i64 (a0 - a1)) > a0)) == (decide (a1 < 0)))] ∧ Φr = [] ∧ Hr = []) := by
 unfold m_value_does_3 at hm
 refine spec_of Tryd.func38 rfl Tryd.ntmps38 rfl (S := [_,_]) rfl (fun C => ?_)
 refine wc_seq ?_
 refine wc_region ?_
 refine wl_pure rfl rfl rfl (freshS_eq rfl) rfl ?_
 refine wl_pure rfl rfl rfl (freshS_eq rfl) rfl ?_
 refine wl_nil ?_
 refine we_then ?_
 refine wc_keep [0, 1] (S' := [_,_]) rfl ?_
 refine wc_seq ?_
 refine wc_region ?_
 refine wl_pure rfl rfl rfl (freshS_eq rfl) rfl ?_
 refine wl_pure rfl rfl rfl (freshS_eq rfl) rfl ?_
 refine wl_pure rfl rfl rfl (freshS_eq rfl) rfl ?_
 refine wl_pure rfl rfl rfl (freshS_eq rfl) rfl ?_
 refine wl_pure rfl rfl rfl (freshS_eq rfl) rfl ?_
 refine wl_pure rfl rfl rfl (freshS_eq rfl) rfl ?_
 refine wl_pure rfl rfl rfl (freshS_eq rfl) rfl ?_
 refine wl_pure rfl rfl rfl (freshS_eq rfl) rfl ?_
 refine wl_pure rfl rfl rfl (freshS_eq rfl) rfl ?_
 refine wl_pure rfl rfl rfl (freshS_eq rfl) rfl ?_
 refine wl_bin rfl rfl rfl (freshS_eq rfl) rfl rfl rfl (eqlB _ _ (decide ((IntKind.wrap .i64 (a0 - a1)) > a0)) (decide (a1 < 0))) ?_
 refine wl_pure rfl rfl rfl (freshS_eq rfl) rfl ?_
 refine wl_pure rfl rfl rfl (freshS_eq rfl) rfl ?_
 refine wl_nil ?_
 refine we_then ?_
 refine wc_keep [5, 4] (S' := [_,_]) rfl ?_
 refine wc_ret ?_
 have hE := (Option.some.inj hm).symm
 refine ret_two (Hr := []) [] Tryd.results38 (res_tmp rfl) (res_tmp rfl) ⟨rfl, rfl, rfl⟩ (fun _ _ hφ => ask [] rfl hφ) rfl rfl (.inl rfl)
end Go.Proofs.YtkddfgjefdlaeaaDoor
