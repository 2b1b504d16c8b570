/- Walks, printed by a program out of the loaded code. -/
import Derived.Test.YtdnolbmbmncefaaDoorXM
import Derived.Test.YtdnolbmbmncefaaDoorTypesP
import Derived.Test.YtdnolbmbmncefaaDoorEq
import Derived.Test.YtdnolbmbmncefaaDoorMapK
import Derived.Test.YtdnolbmbmncefaaDoorStr
import Derived.Test.YtdnolbmbmncefaaDoorView
import Derived.Test.YtdnolbmbmncefaaDoorSh
namespace Go.Proofs.YtdnolbmbmncefaaDoor
open Go.RowKit

set_option maxRecDepth 100000 in
set_option maxHeartbeats 4000000 in
theorem w_memory_New_s (N : Nat)   (hm : m_memory_New N = some ()) : Spec Tryd.prog 6 [] [] [] (fun v Φr Hr => ∃ (o0 : Nat), v = .pointer (some ⟨o0, 0, none⟩) ∧ Φr = [] ∧ Hr = [.blk o0 [.slice none 0 0, .int .i64 1] 60]) := by
 unfold m_memory_New at hm
 refine spec_of Tryd.func6 rfl Tryd.ntmps6 rfl (S := []) rfl (fun C => ?_)
 refine wc_seq ?_
 refine wc_region ?_
 refine wl_pure rfl rfl rfl (freshS_eq rfl) rfl ?_
 refine wl_nil ?_
 refine we_then ?_
 refine wc_keep [] (S' := []) rfl ?_
 refine wc_seq ?_
 refine wc_region ?_
 refine wl_build rfl rfl rfl (freshS_eq rfl) rfl tZ_60 tP_60 rfl (out := [_,_]) rfl ?_
 refine wl_box rfl rfl rfl (freshS_eq rfl) rfl rfl rfl (fun g2 => ?_)
 refine wl_pure rfl rfl rfl (freshS_eq rfl) rfl ?_
 refine wl_nil ?_
 refine we_then ?_
 refine wc_keep [0] (S' := [_]) rfl ?_
 refine wc_ret ?_
 have hE := (Option.some.inj hm).symm
 refine ret_one (Hr := [_]) [0] Tryd.results6 (res_tmp rfl) ⟨g2, rfl, rfl, rfl⟩ (fun _ _ hφ => ask [] rfl hφ) rfl rfl (.inl rfl)
set_option maxRecDepth 100000 in
set_option maxHeartbeats 4000000 in
theorem w_ropewalklaw11_num_s (N : Nat) (a0 : Int)  (hm : m_ropewalklaw11_num N a0 = some ()) : Spec Tryd.prog 22 [.int .i64 a0] [] [] (fun v Φr Hr => v = .agg #[.int .u8 1, .int .i64 a0, .string ((⟨#[]⟩ : ByteArray))] ∧ Φr = [] ∧ Hr = []) := by
 unfold m_ropewalklaw11_num at hm
 refine spec_of Tryd.func22 rfl Tryd.ntmps22 rfl (S := [_]) rfl (fun C => ?_)
 refine wc_seq ?_
 refine wc_region ?_
 refine wl_alloc rfl rfl rfl (freshS_eq rfl) rfl tZ_55 rfl (fun g2 => ?_)
 refine wl_nil ?_
 refine we_then ?_
 refine wc_seq ?_
 refine wc_region ?_
 refine wl_pure rfl rfl rfl (freshS_eq rfl) rfl ?_
 refine wl_build rfl rfl rfl (freshS_eq rfl) rfl tZ_55 tP_55 rfl (out := [_,_,_]) rfl ?_
 refine wl_store 0 0 rfl rfl rfl rfl rfl rfl rfl tS_55 rfl rfl rfl (all' := [_,_,_]) rfl (H' := [_]) rfl ?_
 refine wl_nil ?_
 refine we_then ?_
 refine wc_keep [2] (S' := [_]) rfl ?_
 refine wc_ret ?_
 have hE := (Option.some.inj hm).symm
 refine ret_one (Hr := []) [] Tryd.results22 (res_cell 0 rfl rfl tS_55 tA_55 rfl rfl) ⟨rfl, rfl, rfl⟩ (fun _ _ hφ => ask [] rfl hφ) rfl rfl (.inl rfl)
set_option maxRecDepth 100000 in
set_option maxHeartbeats 4000000 in
theorem w_memory_Memory_known_s (N : Nat) (qg0 : Nat) (qp1 : Option Addr) (qn2 : Nat) (qc3 : Nat) (l0 : List FactD) (a1 : Int)  (hm : m_memory_Memory_known N l0 a1 = some ()) : Spec Tryd.prog 26 [.pointer (some ⟨qg0, 0, none⟩)] [] [.blk qg0 [.slice qp1 qn2 qc3, .int .i64 a1] 60, .own 42 3 R_FactD (.slice qp1 qn2 qc3) l0] (fun v Φr Hr => v = .bool (decide (a1 > 0)) ∧ Φr = [] ∧ Hr = [.blk qg0 [.slice qp1 qn2 qc3, .int .i64 a1] 60, .own 42 3 R_FactD (.slice qp1 qn2 qc3) l0]) := by
 unfold m_memory_Memory_known at hm
 refine spec_of Tryd.func26 rfl Tryd.ntmps26 rfl (S := [_]) rfl (fun C => ?_)
 refine wc_seq ?_
 refine wc_region ?_
 refine wl_pure rfl rfl rfl (freshS_eq rfl) rfl ?_
 refine wl_nil ?_
 refine we_then ?_
 refine wc_keep [0] (S' := [_]) rfl ?_
 refine wc_seq ?_
 refine wc_region ?_
 refine wl_pure rfl rfl rfl (freshS_eq rfl) rfl ?_
 refine wl_bin rfl rfl rfl (freshS_eq rfl) rfl rfl rfl (neqP tQ_24 _ _ _) ?_
 refine wl_pure rfl rfl rfl (freshS_eq rfl) rfl ?_
 refine wl_pure rfl rfl rfl (freshS_eq rfl) rfl ?_
 refine wl_pure rfl rfl rfl (freshS_eq rfl) rfl ?_
 refine wl_fieldAddr rfl rfl rfl (freshS_eq rfl) rfl rfl tF_60_1 ?_
 refine wl_loadH 0 1 rfl rfl rfl (freshS_eq rfl) rfl rfl rfl (cs := [_]) rfl tS_3 tA_3 rfl rfl ?_
 refine wl_pure rfl rfl rfl (freshS_eq rfl) rfl ?_
 refine wl_pure rfl rfl rfl (freshS_eq rfl) rfl ?_
 refine wl_pure rfl rfl rfl (freshS_eq rfl) rfl ?_
 refine wl_nil ?_
 refine we_then ?_
 refine wc_keep [2] (S' := [_]) rfl ?_
 refine wc_ret ?_
 have hE := (Option.some.inj hm).symm
 refine ret_one (Hr := [_, _]) [0, 1] Tryd.results26 (res_tmp rfl) ⟨rfl, rfl, rfl⟩ (fun _ _ hφ => ask [] rfl hφ) rfl rfl (.inl rfl)
set_option maxRecDepth 100000 in
set_option maxHeartbeats 4000000 in
theorem w_value_named_s (N : Nat) (a0 : ByteArray) (o0 : Bool) (hm : m_value_named N a0 = some o0) : Spec Tryd.prog 42 [.string a0] [] [] (fun v Φr Hr => v = .bool o0 ∧ Φr = [] ∧ Hr = []) := by
 unfold m_value_named at hm
 refine spec_of Tryd.func42 rfl Tryd.ntmps42 rfl (S := [_]) rfl (fun C => ?_)
 refine wc_seq ?_
 refine wc_region ?_
 refine wl_pure rfl rfl rfl (freshS_eq rfl) rfl ?_
 refine wl_nil ?_
 refine we_then ?_
 refine wc_keep [0] (S' := [_]) rfl ?_
 refine wc_seq ?_
 obtain ⟨bj_1, hm, hLj_1⟩ := bindO_some hm
 unfold m_value_named_C1 at hm
 refine wc_cut (σ := Bool) (fun j_1_2 => bj_1 = j_1_2) (fun j_1_2 => [(2, .bool j_1_2)]) (fun j_1_2 => []) (fun j_1_2 => []) ?_ ?_
 ·
  refine wc_region ?_
  refine wl_pure rfl rfl rfl (freshS_eq rfl) rfl ?_
  refine wl_pure rfl rfl rfl (freshS_eq rfl) rfl ?_
  refine wl_pure rfl rfl rfl (freshS_eq rfl) rfl ?_
  refine wl_split (d := 5) (S' := [_,_,_]) rfl rfl (fun hs5 => ?_) (fun hs5 => ?_)
  ·
   replace hm := iteT hm hs5
   refine wl_pure rfl rfl rfl (freshS_eq rfl) rfl ?_
   refine wl_reck rfl rfl rfl (freshS_eq rfl) (rk_strLen rfl rfl tT_9) ?_
   refine wl_pure rfl rfl rfl (freshS_eq rfl) rfl ?_
   refine wl_as (d := 8) (v' := .bool (decide (a0.size ≤ 24))) (S' := [_,_,_,_,_,_]) rfl rfl (natle (a := a0.size) (b := 24)) ?_
   refine wl_pure rfl rfl rfl (freshS_eq rfl) rfl ?_
   refine wl_pure rfl rfl rfl (freshS_eq rfl) rfl ?_
   refine wl_split (d := 10) (S' := [_,_,_,_,_,_,_,_]) rfl rfl (fun hs10 => ?_) (fun hs10 => ?_)
   ·
    replace hm := iteT hm hs10
    refine wl_pure rfl rfl rfl (freshS_eq rfl) rfl ?_
    obtain ⟨x12, hx12, hm⟩ := bindO_some hm
    refine wl_reck rfl rfl rfl (freshS_eq rfl) (rk_strAt 0 rfl rfl rfl rfl hx12 tT_9) ?_
    refine wl_call [] [] rfl rfl rfl (freshS_eq rfl) rfl rfl fn_44 rfl (sh_IndexByte (⟨#[97, 98, 99, 100, 101, 102, 103, 104, 105, 106, 107, 108, 109, 110, 111, 112, 113, 114, 115, 116, 117, 118, 119, 120, 121, 122]⟩ : ByteArray) ((x12.toNat : Nat) : Int) ) (fun _ _ hφ => ask [] rfl hφ) rfl (H' := []) rfl ?_
    rintro _ _ _ ⟨rfl, rfl, rfl⟩
    refine wl_pure rfl rfl rfl (freshS_eq rfl) rfl ?_
    refine wl_pure rfl rfl rfl (freshS_eq rfl) rfl ?_
    refine wl_pure rfl rfl rfl (freshS_eq rfl) rfl ?_
    refine wl_split (d := 16) (S' := [_,_,_,_,_,_,_,_,_,_,_,_,_,_]) rfl rfl (fun hs16 => ?_) (fun hs16 => ?_)
    ·
     replace hm := iteT hm hs16
     refine wl_pure rfl rfl rfl (freshS_eq rfl) rfl ?_
     obtain ⟨hs18_0, hm⟩ := gd_some hm
     refine wl_call [] [] rfl rfl rfl (freshS_eq rfl) rfl rfl fn_45 rfl (sh_Trim a0 (⟨#[97, 98, 99, 100, 101, 102, 103, 104, 105, 106, 107, 108, 109, 110, 111, 112, 113, 114, 115, 116, 117, 118, 119, 120, 121, 122, 48, 49, 50, 51, 52, 53, 54, 55, 56, 57, 95]⟩ : ByteArray) (by decide) (ascii_of_all (by decide)) hs18_0) (fun _ _ hφ => ask [] rfl hφ) rfl (H' := []) rfl ?_
     rintro _ _ _ ⟨rfl, rfl, rfl⟩
     refine wl_pure rfl rfl rfl (freshS_eq rfl) rfl ?_
     refine wl_pure rfl rfl rfl (freshS_eq rfl) rfl ?_
     refine wl_pure rfl rfl rfl (freshS_eq rfl) rfl ?_
     refine wl_nil ?_
     have hE := (Option.some.inj hm).symm
     refine we_join ((⟨(Lib.trimS a0.data.toList (⟨#[97, 98, 99, 100, 101, 102, 103, 104, 105, 106, 107, 108, 109, 110, 111, 112, 113, 114, 115, 116, 117, 118, 119, 120, 121, 122, 48, 49, 50, 51, 52, 53, 54, 55, 56, 57, 95]⟩ : ByteArray).data.toList).toArray⟩ : ByteArray).toList == (⟨#[]⟩ : ByteArray).toList) hE [2] rfl (fun _ _ hφ => ask [] rfl hφ) rfl
    ·
     replace hm := iteF hm hs16
     refine wl_off rfl rfl rfl (freshS_eq rfl) ?_
     refine wl_off rfl rfl rfl (freshS_eq rfl) ?_
     refine wl_off rfl rfl rfl (freshS_eq rfl) ?_
     refine wl_pure rfl rfl rfl (freshS_eq rfl) rfl ?_
     refine wl_pure rfl rfl rfl (freshS_eq rfl) rfl ?_
     refine wl_nil ?_
     have hE := (Option.some.inj hm).symm
     refine we_join false hE [2] rfl (fun _ _ hφ => ask [] rfl hφ) rfl
   ·
    replace hm := iteF hm hs10
    refine wl_off rfl rfl rfl (freshS_eq rfl) ?_
    refine wl_off rfl rfl rfl (freshS_eq rfl) ?_
    refine wl_off rfl rfl rfl (freshS_eq rfl) ?_
    refine wl_off rfl rfl rfl (freshS_eq rfl) ?_
    refine wl_pure rfl rfl rfl (freshS_eq rfl) rfl ?_
    refine wl_pure rfl rfl rfl (freshS_eq rfl) rfl ?_
    refine wl_off rfl rfl rfl (freshS_eq rfl) ?_
    refine wl_off rfl rfl rfl (freshS_eq rfl) ?_
    refine wl_off rfl rfl rfl (freshS_eq rfl) ?_
    refine wl_pure rfl rfl rfl (freshS_eq rfl) rfl ?_
    refine wl_pure rfl rfl rfl (freshS_eq rfl) rfl ?_
    refine wl_nil ?_
    have hE := (Option.some.inj hm).symm
    refine we_join false hE [2] rfl (fun _ _ hφ => ask [] rfl hφ) rfl
  ·
   replace hm := iteF hm hs5
   refine wl_off rfl rfl rfl (freshS_eq rfl) ?_
   refine wl_off rfl rfl rfl (freshS_eq rfl) ?_
   refine wl_off rfl rfl rfl (freshS_eq rfl) ?_
   refine wl_pure rfl rfl rfl (freshS_eq rfl) rfl ?_
   refine wl_pure rfl rfl rfl (freshS_eq rfl) rfl ?_
   refine wl_off rfl rfl rfl (freshS_eq rfl) ?_
   refine wl_off rfl rfl rfl (freshS_eq rfl) ?_
   refine wl_off rfl rfl rfl (freshS_eq rfl) ?_
   refine wl_off rfl rfl rfl (freshS_eq rfl) ?_
   refine wl_pure rfl rfl rfl (freshS_eq rfl) rfl ?_
   refine wl_pure rfl rfl rfl (freshS_eq rfl) rfl ?_
   refine wl_off rfl rfl rfl (freshS_eq rfl) ?_
   refine wl_off rfl rfl rfl (freshS_eq rfl) ?_
   refine wl_off rfl rfl rfl (freshS_eq rfl) ?_
   refine wl_pure rfl rfl rfl (freshS_eq rfl) rfl ?_
   refine wl_pure rfl rfl rfl (freshS_eq rfl) rfl ?_
   refine wl_nil ?_
   have hE := (Option.some.inj hm).symm
   refine we_join false hE [2] rfl (fun _ _ hφ => ask [] rfl hφ) rfl
 ·
  rintro j_1_2 hE
  try dsimp only
  have hm := hLj_1
  rw [hE] at hm
  refine wc_ret ?_
  have hE := (Option.some.inj hm).symm
  replace hE := hE.symm
  subst hE
  refine ret_one (Hr := []) [] Tryd.results42 (res_tmp rfl) ⟨rfl, rfl, rfl⟩ (fun _ _ hφ => ask [] rfl hφ) rfl rfl (.inl rfl)
set_option maxRecDepth 100000 in
set_option maxHeartbeats 4000000 in
theorem w_value_Right_s (N : Nat) (a0 : Int) (a1 : Int) (a2 : ByteArray) (o0 : Bool) (hm : m_value_Right N a0 a1 a2 = some o0) : Spec Tryd.prog 33 [.agg #[.int .u8 a0, .int .i64 a1, .string a2]] [] [] (fun v Φr Hr => v = .bool o0 ∧ Φr = [] ∧ Hr = []) := by
 unfold m_value_Right at hm
 refine spec_of Tryd.func33 rfl Tryd.ntmps33 rfl (S := [_]) rfl (fun C => ?_)
 refine wc_seq ?_
 refine wc_region ?_
 refine wl_box rfl rfl rfl (freshS_eq rfl) rfl rfl rfl (fun g1 => ?_)
 refine wl_pure rfl rfl rfl (freshS_eq rfl) rfl ?_
 refine wl_nil ?_
 refine we_then ?_
 refine wc_keep [1] (S' := [_]) rfl ?_
 refine wc_seq ?_
 refine wc_seq ?_
 refine wc_region ?_
 refine wl_fieldAddr rfl rfl rfl (freshS_eq rfl) rfl rfl tF_55_0 ?_
 refine wl_loadH 0 0 rfl rfl rfl (freshS_eq rfl) rfl rfl rfl (cs := [_]) rfl tS_53 tA_53 rfl rfl ?_
 refine wl_nil ?_
 refine we_then ?_
 refine wc_keep [4, 1] (S' := [_,_]) rfl ?_
 refine wc_block ?_
 refine wc_seq ?_
 refine wc_region ?_
 refine wl_pure rfl rfl rfl (freshS_eq rfl) rfl ?_
 refine wl_pure rfl rfl rfl (freshS_eq rfl) rfl ?_
 refine wl_nil ?_
 refine we_then ?_
 refine wc_keep [5, 4, 1] (S' := [_,_,_]) rfl ?_
 refine wc_cond rfl (fun hb5 => ?_) (fun hb5 => ?_)
 ·
  replace hm := iteT hm hb5
  refine wc_keep [1] (S' := [_]) rfl ?_
  refine wc_seq ?_
  refine wc_region ?_
  refine wl_fieldAddr rfl rfl rfl (freshS_eq rfl) rfl rfl tF_55_2 ?_
  refine wl_loadH 0 2 rfl rfl rfl (freshS_eq rfl) rfl rfl rfl (cs := [_]) rfl tS_9 tA_9 rfl rfl ?_
  refine wl_pure rfl rfl rfl (freshS_eq rfl) rfl ?_
  refine wl_pure rfl rfl rfl (freshS_eq rfl) rfl ?_
  refine wl_nil ?_
  refine we_then ?_
  refine wc_keep [2] (S' := [_]) rfl ?_
  refine wc_ret ?_
  refine we_block_ret ?_
  refine we_then_ret ?_
  have hE := (Option.some.inj hm).symm
  replace hE := hE.symm
  subst hE
  refine ret_one (Hr := []) [] Tryd.results33 (res_tmp rfl) ⟨rfl, rfl, rfl⟩ (fun _ _ hφ => ask [] rfl hφ) rfl rfl (.inl rfl)
 ·
  replace hm := iteF hm hb5
  refine wc_keep [4, 1] (S' := [_,_]) rfl ?_
  refine wc_seq ?_
  refine wc_region ?_
  refine wl_pure rfl rfl rfl (freshS_eq rfl) rfl ?_
  refine wl_pure rfl rfl rfl (freshS_eq rfl) rfl ?_
  refine wl_nil ?_
  refine we_then ?_
  refine wc_keep [10, 1] (S' := [_,_]) rfl ?_
  refine wc_cond rfl (fun hb10 => ?_) (fun hb10 => ?_)
  ·
   replace hm := iteT hm hb10
   refine wc_keep [1] (S' := [_]) rfl ?_
   refine wc_seq ?_
   refine wc_region ?_
   refine wl_fieldAddr rfl rfl rfl (freshS_eq rfl) rfl rfl tF_55_1 ?_
   refine wl_loadH 0 1 rfl rfl rfl (freshS_eq rfl) rfl rfl rfl (cs := [_]) rfl tS_2 tA_2 rfl rfl ?_
   refine wl_pure rfl rfl rfl (freshS_eq rfl) rfl ?_
   refine wl_pure rfl rfl rfl (freshS_eq rfl) rfl ?_
   refine wl_split (d := 15) (S' := [_,_,_,_]) rfl rfl (fun hs15 => ?_) (fun hs15 => ?_)
   ·
    replace hm := iteT hm hs15
    refine wl_fieldAddr rfl rfl rfl (freshS_eq rfl) rfl rfl tF_55_2 ?_
    refine wl_loadH 0 2 rfl rfl rfl (freshS_eq rfl) rfl rfl rfl (cs := [_]) rfl tS_9 tA_9 rfl rfl ?_
    obtain ⟨v18, hc18, hm⟩ := bindO_some hm
    refine wl_call [] [0] rfl rfl rfl (freshS_eq rfl) rfl rfl fn_42 rfl (w_value_named_s N a2 _ hc18) (fun _ _ hφ => ask [] rfl hφ) rfl (H' := [_]) rfl ?_
    rintro _ _ _ ⟨rfl, rfl, rfl⟩
    refine wl_pure rfl rfl rfl (freshS_eq rfl) rfl ?_
    refine wl_pure rfl rfl rfl (freshS_eq rfl) rfl ?_
    refine wl_nil ?_
    refine we_then ?_
    refine wc_keep [2] (S' := [_]) rfl ?_
    refine wc_ret ?_
    refine we_block_ret ?_
    refine we_then_ret ?_
    have hE := (Option.some.inj hm).symm
    replace hE := hE.symm
    subst hE
    refine ret_one (Hr := []) [] Tryd.results33 (res_tmp rfl) ⟨rfl, rfl, rfl⟩ (fun _ _ hφ => ask [] rfl hφ) rfl rfl (.inl rfl)
   ·
    replace hm := iteF hm hs15
    refine wl_off rfl rfl rfl (freshS_eq rfl) ?_
    refine wl_off rfl rfl rfl (freshS_eq rfl) ?_
    refine wl_off rfl rfl rfl (freshS_eq rfl) ?_
    refine wl_pure rfl rfl rfl (freshS_eq rfl) rfl ?_
    refine wl_pure rfl rfl rfl (freshS_eq rfl) rfl ?_
    refine wl_nil ?_
    refine we_then ?_
    refine wc_keep [2] (S' := [_]) rfl ?_
    refine wc_ret ?_
    refine we_block_ret ?_
    refine we_then_ret ?_
    have hE := (Option.some.inj hm).symm
    replace hE := hE.symm
    subst hE
    refine ret_one (Hr := []) [] Tryd.results33 (res_tmp rfl) ⟨rfl, rfl, rfl⟩ (fun _ _ hφ => ask [] rfl hφ) rfl rfl (.inl rfl)
  ·
   replace hm := iteF hm hb10
   refine wc_keep [] (S' := []) rfl ?_
   refine wc_skip ?_
   refine we_block_normal ?_
   refine we_then ?_
   refine wc_seq ?_
   refine wc_region ?_
   refine wl_pure rfl rfl rfl (freshS_eq rfl) rfl ?_
   refine wl_nil ?_
   refine we_then ?_
   refine wc_ret ?_
   have hE := (Option.some.inj hm).symm
   replace hE := hE.symm
   subst hE
   refine ret_one (Hr := []) [] Tryd.results33 (res_tmp rfl) ⟨rfl, rfl, rfl⟩ (fun _ _ hφ => ask [] rfl hφ) rfl rfl (.inl rfl)
set_option maxRecDepth 100000 in
set_option maxHeartbeats 4000000 in
theorem w_memory_may_1_s (N : Nat) (a0 : Int) (a1 : Int) (a2 : ByteArray) (o0 : Bool) (hm : m_memory_may_1 N a0 a1 a2 = some o0) : Spec Tryd.prog 32 [.agg #[.int .u8 a0, .int .i64 a1, .string a2]] [] [] (fun v Φr Hr => v = .bool o0 ∧ Φr = [] ∧ Hr = []) := by
 unfold m_memory_may_1 at hm
 refine spec_of Tryd.func32 rfl Tryd.ntmps32 rfl (S := [_]) rfl (fun C => ?_)
 refine wc_seq ?_
 refine wc_region ?_
 refine wl_box rfl rfl rfl (freshS_eq rfl) rfl rfl rfl (fun g1 => ?_)
 refine wl_pure rfl rfl rfl (freshS_eq rfl) rfl ?_
 refine wl_nil ?_
 refine we_then ?_
 refine wc_keep [1] (S' := [_]) rfl ?_
 refine wc_seq ?_
 refine wc_region ?_
 refine wl_loadH 0 0 rfl rfl rfl (freshS_eq rfl) rfl rfl rfl (cs := [_,_,_]) rfl tS_55 tA_55 rfl rfl ?_
 obtain ⟨v4, hc4, hm⟩ := bindO_some hm
 refine wl_call [] [0] rfl rfl rfl (freshS_eq rfl) rfl rfl fn_33 rfl (w_value_Right_s N a0 a1 a2 _ hc4) (fun _ _ hφ => ask [] rfl hφ) rfl (H' := [_]) rfl ?_
 rintro _ _ _ ⟨rfl, rfl, rfl⟩
 refine wl_pure rfl rfl rfl (freshS_eq rfl) rfl ?_
 refine wl_pure rfl rfl rfl (freshS_eq rfl) rfl ?_
 refine wl_nil ?_
 refine we_then ?_
 refine wc_keep [2] (S' := [_]) rfl ?_
 refine wc_ret ?_
 have hE := (Option.some.inj hm).symm
 replace hE := hE.symm
 subst hE
 refine ret_one (Hr := []) [] Tryd.results32 (res_tmp rfl) ⟨rfl, rfl, rfl⟩ (fun _ _ hφ => ask [] rfl hφ) rfl rfl (.inl rfl)
set_option maxRecDepth 100000 in
set_option maxHeartbeats 4000000 in
theorem w_slices_IndexFunc_Value_s (N : Nat) (qp0 : Option Addr) (qn1 : Nat) (qc2 : Nat) (l0 : List V) (o0 : Int) (hm : m_slices_IndexFunc_Value N l0 = some o0) : Spec Tryd.prog 41 [.slice qp0 qn1 qc2, .func (.func 32) #[] #[]] [] [.own 55 3 R_V (.slice qp0 qn1 qc2) l0] (fun v Φr Hr => v = .int .i64 o0 ∧ Φr = [] ∧ Hr = [.own 55 3 R_V (.slice qp0 qn1 qc2) l0]) := by
 unfold m_slices_IndexFunc_Value at hm
 refine spec_of Tryd.func41 rfl Tryd.ntmps41 rfl (S := [_,_]) rfl (fun C => ?_)
 refine wc_seq ?_
 refine wc_region ?_
 refine wl_pure rfl rfl rfl (freshS_eq rfl) rfl ?_
 refine wl_nil ?_
 refine we_then ?_
 refine wc_keep [0, 1] (S' := [_,_]) rfl ?_
 refine wc_seq ?_
 obtain ⟨bj_1, hm, hLj_1⟩ := bindS_some hm
 refine wc_cut (σ := Unit) (fun _ => bj_1 = .inl ()) (fun _ => []) (fun _ => []) (fun _ => [.own 55 3 R_V (.slice qp0 qn1 qc2) l0]) ?_ ?_
 ·
  refine wc_seq ?_
  refine wc_region ?_
  refine wl_pure rfl rfl rfl (freshS_eq rfl) rfl ?_
  refine wl_ownLen 0 rfl (fun hl7 _ => ?_)
  refine wl_len rfl rfl rfl (freshS_eq rfl) rfl rfl tE_26 ?_
  refine wl_as (d := 7) (v' := .int .i64 ((l0.length : Nat) : Int)) (S' := [_,_,_]) rfl rfl (len_is hl7) ?_
  refine wl_pure rfl rfl rfl (freshS_eq rfl) rfl ?_
  refine wl_nil ?_
  refine we_then ?_
  refine wc_keep [8, 7, 0, 1] (S' := [_,_,_,_]) rfl ?_
  refine wc_block ?_
  refine wc_loop (σ := Nat × Nat) (fun (nu1, u1_8) => iter (m_slices_IndexFunc_Value_L1 N l0) nu1 u1_8 = some bj_1) (fun (nu1, u1_8) => nu1) (fun (nu1, u1_8) => [(8, .int .i64 ((u1_8 : Nat) : Int)), (7, .int .i64 ((l0.length : Nat) : Int)), (0, .slice qp0 qn1 qc2), (1, .func (.func 32) #[] #[])]) (fun (nu1, u1_8) => []) (fun (nu1, u1_8) => [.own 55 3 R_V (.slice qp0 qn1 qc2) l0]) (N, 0) hm [8, 7, 0, 1] rfl (fun _ _ hφ => ask [] rfl hφ) rfl (fun s_ hm => ?_)
  obtain ⟨nu1, u1_8⟩ := s_
  try dsimp only at hm ⊢
  obtain ⟨mu1, bu1, hnu1, hq, hLu1⟩ := iter_some hm
  clear hm
  subst hnu1
  replace hm := hq
  clear hq
  unfold m_slices_IndexFunc_Value_L1 at hm
  try dsimp only at hm
  refine wc_seq ?_
  refine wc_region ?_
  refine wl_pure rfl rfl rfl (freshS_eq rfl) rfl ?_
  refine wl_as (d := 9) (v' := .bool (decide (u1_8 < l0.length))) (S' := [_,_,_,_]) rfl rfl (natlt (a := u1_8) (b := l0.length)) ?_
  refine wl_nil ?_
  refine we_then ?_
  refine wc_seq ?_
  refine wc_cond rfl (fun hb9 => ?_) (fun hb9 => ?_)
  ·
   replace hm := iteT hm hb9
   refine wc_keep [8, 7, 0, 1] (S' := [_,_,_,_]) rfl ?_
   refine wc_skip ?_
   refine we_then ?_
   refine wc_seq ?_
   refine wc_block ?_
   refine wc_seq ?_
   refine wc_region ?_
   refine wl_pure rfl rfl rfl (freshS_eq rfl) rfl ?_
   refine wl_pure rfl rfl rfl (freshS_eq rfl) rfl ?_
   refine wl_nil ?_
   refine we_then ?_
   refine wc_keep [5, 8, 7, 0, 1] (S' := [_,_,_,_,_]) rfl ?_
   refine wc_seq ?_
   refine wc_region ?_
   refine wl_pure rfl rfl rfl (freshS_eq rfl) rfl ?_
   refine wl_pure rfl rfl rfl (freshS_eq rfl) rfl ?_
   refine wl_pure rfl rfl rfl (freshS_eq rfl) rfl ?_
   obtain ⟨x14, hx14, hm⟩ := bindO_some hm
   refine wl_indexH 0 u1_8 rfl rfl rfl (freshS_eq rfl) rfl rfl rfl rfl rfl (get_lt hx14) tE_26 tS_55 (fun g14 eg14 => ?_)
   subst eg14
   refine wl_loadRow R_V_opens 0 u1_8 0 rfl rfl rfl (freshS_eq rfl) rfl rfl rfl hx14 tS_55 tA_55 (v := fun _ => .agg #[.int .u8 (x14.k), .int .i64 (x14.n), .string x14.s]) (fun _ => rfl) (fun _ => rfl) (fun _ _ => ?_)
   obtain ⟨v16, hc16, hm⟩ := bindO_some hm
   refine wl_callDyn [] [0] rfl rfl rfl (freshS_eq rfl) rfl rfl rfl fn_32 rfl rfl (w_memory_may_1_s N x14.k x14.n x14.s _ hc16) (fun _ _ hφ => ask [] rfl hφ) rfl (H' := [_]) rfl ?_
   rintro _ _ _ ⟨rfl, rfl, rfl⟩
   refine wl_nil ?_
   refine we_then ?_
   refine wc_keep [16, 5, 8, 7, 0, 1] (S' := [_,_,_,_,_,_]) rfl ?_
   refine wc_cond rfl (fun hb16 => ?_) (fun hb16 => ?_)
   ·
    replace hm := iteT hm hb16
    refine wc_keep [5] (S' := [_]) rfl ?_
    refine wc_seq ?_
    refine wc_region ?_
    refine wl_pure rfl rfl rfl (freshS_eq rfl) rfl ?_
    refine wl_pure rfl rfl rfl (freshS_eq rfl) rfl ?_
    refine wl_nil ?_
    refine we_then ?_
    refine wc_keep [4] (S' := [_]) rfl ?_
    refine wc_ret ?_
    refine we_block_ret ?_
    refine we_then_ret ?_
    refine we_then_ret ?_
    refine we_block_ret ?_
    refine we_then_ret ?_
    have hE := (Option.some.inj hm).symm
    replace hE := link_inr hLu1 hE
    replace hE := link_inr hLj_1 hE
    replace hE := hE.symm
    subst hE
    refine ret_one (Hr := [_]) [0] Tryd.results41 (res_tmp rfl) ⟨rfl, rfl, rfl⟩ (fun _ _ hφ => ask [] rfl hφ) rfl rfl (.inl rfl)
   ·
    replace hm := iteF hm hb16
    refine wc_keep [8, 7, 0, 1] (S' := [_,_,_,_]) rfl ?_
    refine wc_skip ?_
    refine we_block_normal ?_
    refine we_then ?_
    refine wc_region ?_
    refine wl_pure rfl rfl rfl (freshS_eq rfl) rfl ?_
    obtain ⟨hg18, hm⟩ := gd_some hm
    refine wl_as (d := 18) (v' := .int .i64 ((u1_8 + 1 : Nat) : Int)) (S' := [_,_,_,_]) rfl rfl (nat_add (a := u1_8) (b := 1) hg18) ?_
    refine wl_pure (S' := [_,_,_,_]) rfl rfl rfl rfl rfl ?_
    refine wl_nil ?_
    have hE := (Option.some.inj hm).symm
    replace hE := link_inl hLu1 hE
    refine we_roundK (_, u1_8 + 1) (Nat.lt_succ_self _) hE [8, 7, 0, 1] rfl (fun _ _ hφ => ask [] rfl hφ) rfl
  ·
   replace hm := iteF hm hb9
   refine wc_keep [] (S' := []) rfl ?_
   refine wc_exit ?_
   refine we_then_exit ?_
   refine we_then_exit ?_
   refine we_block_hit ?_
   have hE := (Option.some.inj hm).symm
   replace hE := link_inr hLu1 hE
   refine we_join () hE [] rfl (fun _ _ hφ => ask [] rfl hφ) rfl
 ·
  rintro _ hE
  try dsimp only
  have hm := link_inl hLj_1 hE
  try dsimp only at hm
  refine wc_seq ?_
  refine wc_region ?_
  refine wl_pure rfl rfl rfl (freshS_eq rfl) rfl ?_
  refine wl_nil ?_
  refine we_then ?_
  refine wc_ret ?_
  have hE := (Option.some.inj hm).symm
  replace hE := hE.symm
  subst hE
  refine ret_one (Hr := [_]) [0] Tryd.results41 (res_tmp rfl) ⟨rfl, rfl, rfl⟩ (fun _ _ hφ => ask [] rfl hφ) rfl rfl (.inl rfl)
set_option maxRecDepth 100000 in
set_option maxHeartbeats 4000000 in
theorem w_slices_ContainsFunc_Value_s (N : Nat) (qp0 : Option Addr) (qn1 : Nat) (qc2 : Nat) (l0 : List V) (o0 : Bool) (hm : m_slices_ContainsFunc_Value N l0 = some o0) : Spec Tryd.prog 31 [.slice qp0 qn1 qc2, .func (.func 32) #[] #[]] [] [.own 55 3 R_V (.slice qp0 qn1 qc2) l0] (fun v Φr Hr => v = .bool o0 ∧ Φr = [] ∧ Hr = [.own 55 3 R_V (.slice qp0 qn1 qc2) l0]) := by
 unfold m_slices_ContainsFunc_Value at hm
 refine spec_of Tryd.func31 rfl Tryd.ntmps31 rfl (S := [_,_]) rfl (fun C => ?_)
 refine wc_seq ?_
 refine wc_region ?_
 refine wl_pure rfl rfl rfl (freshS_eq rfl) rfl ?_
 refine wl_nil ?_
 refine we_then ?_
 refine wc_keep [0, 1] (S' := [_,_]) rfl ?_
 refine wc_seq ?_
 refine wc_region ?_
 refine wl_pure rfl rfl rfl (freshS_eq rfl) rfl ?_
 refine wl_pure rfl rfl rfl (freshS_eq rfl) rfl ?_
 obtain ⟨v7, hc7, hm⟩ := bindO_some hm
 refine wl_call [0] [] rfl rfl rfl (freshS_eq rfl) rfl rfl fn_41 rfl (w_slices_IndexFunc_Value_s N qp0 qn1 qc2 l0 _ hc7) (fun _ _ hφ => ask [] rfl hφ) rfl (H' := []) rfl ?_
 rintro _ _ _ ⟨rfl, rfl, rfl⟩
 refine wl_pure rfl rfl rfl (freshS_eq rfl) rfl ?_
 refine wl_pure rfl rfl rfl (freshS_eq rfl) rfl ?_
 refine wl_nil ?_
 refine we_then ?_
 refine wc_keep [4] (S' := [_]) rfl ?_
 refine wc_ret ?_
 have hE := (Option.some.inj hm).symm
 replace hE := hE.symm
 subst hE
 refine ret_one (Hr := [_]) [0] Tryd.results31 (res_tmp rfl) ⟨rfl, rfl, rfl⟩ (fun _ _ hφ => ask [] rfl hφ) rfl rfl (.inl rfl)
set_option maxRecDepth 100000 in
set_option maxHeartbeats 4000000 in
theorem w_memory_may_s (N : Nat) (a0 : Int) (qp0 : Option Addr) (qn1 : Nat) (qc2 : Nat) (l1 : List V) (o0 : Bool) (hm : m_memory_may N a0 l1 = some o0) : Spec Tryd.prog 23 [.int .i64 a0, .slice qp0 qn1 qc2] [] [.own 55 3 R_V (.slice qp0 qn1 qc2) l1] (fun v Φr Hr => v = .bool o0 ∧ Φr = [] ∧ Hr = [.own 55 3 R_V (.slice qp0 qn1 qc2) l1]) := by
 unfold m_memory_may at hm
 refine spec_of Tryd.func23 rfl Tryd.ntmps23 rfl (S := [_,_]) rfl (fun C => ?_)
 refine wc_seq ?_
 refine wc_region ?_
 refine wl_pure rfl rfl rfl (freshS_eq rfl) rfl ?_
 refine wl_nil ?_
 refine we_then ?_
 refine wc_keep [0, 1] (S' := [_,_]) rfl ?_
 refine wc_seq ?_
 obtain ⟨bj_1, hm, hLj_1⟩ := bindO_some hm
 unfold m_memory_may_C1 at hm
 refine wc_cut (σ := Bool) (fun j_1_4 => bj_1 = j_1_4) (fun j_1_4 => [(4, .bool j_1_4)]) (fun j_1_4 => []) (fun j_1_4 => [.own 55 3 R_V (.slice qp0 qn1 qc2) l1]) ?_ ?_
 ·
  refine wc_region ?_
  refine wl_pure rfl rfl rfl (freshS_eq rfl) rfl ?_
  refine wl_pure rfl rfl rfl (freshS_eq rfl) rfl ?_
  refine wl_pure rfl rfl rfl (freshS_eq rfl) rfl ?_
  refine wl_split (d := 7) (S' := [_,_,_,_]) rfl rfl (fun hs7 => ?_) (fun hs7 => ?_)
  ·
   replace hm := iteT hm hs7
   refine wl_pure rfl rfl rfl (freshS_eq rfl) rfl ?_
   refine wl_pure rfl rfl rfl (freshS_eq rfl) rfl ?_
   refine wl_pure rfl rfl rfl (freshS_eq rfl) rfl ?_
   refine wl_pure rfl rfl rfl (freshS_eq rfl) rfl ?_
   refine wl_split (d := 11) (S' := [_,_,_,_,_,_,_,_]) rfl rfl (fun hs11 => ?_) (fun hs11 => ?_)
   ·
    replace hm := iteT hm hs11
    refine wl_pure rfl rfl rfl (freshS_eq rfl) rfl ?_
    refine wl_ownLen 0 rfl (fun hl13 _ => ?_)
    refine wl_len rfl rfl rfl (freshS_eq rfl) rfl rfl tE_26 ?_
    refine wl_as (d := 13) (v' := .int .i64 ((l1.length : Nat) : Int)) (S' := [_,_,_,_,_,_,_,_,_,_]) rfl rfl (len_is hl13) ?_
    refine wl_pure rfl rfl rfl (freshS_eq rfl) rfl ?_
    refine wl_as (d := 14) (v' := .bool (decide (l1.length ≤ 6))) (S' := [_,_,_,_,_,_,_,_,_,_,_]) rfl rfl (natle (a := l1.length) (b := 6)) ?_
    refine wl_pure rfl rfl rfl (freshS_eq rfl) rfl ?_
    refine wl_pure rfl rfl rfl (freshS_eq rfl) rfl ?_
    refine wl_split (d := 16) (S' := [_,_,_,_,_,_,_,_,_,_,_,_,_]) rfl rfl (fun hs16 => ?_) (fun hs16 => ?_)
    ·
     replace hm := iteT hm hs16
     refine wl_pure rfl rfl rfl (freshS_eq rfl) rfl ?_
     obtain ⟨v18, hc18, hm⟩ := bindO_some hm
     refine wl_call [0] [] rfl rfl rfl (freshS_eq rfl) rfl rfl fn_31 rfl (w_slices_ContainsFunc_Value_s N qp0 qn1 qc2 l1 _ hc18) (fun _ _ hφ => ask [] rfl hφ) rfl (H' := []) rfl ?_
     rintro _ _ _ ⟨rfl, rfl, rfl⟩
     refine wl_pure rfl rfl rfl (freshS_eq rfl) rfl ?_
     refine wl_pure rfl rfl rfl (freshS_eq rfl) rfl ?_
     refine wl_pure rfl rfl rfl (freshS_eq rfl) rfl ?_
     refine wl_nil ?_
     have hE := (Option.some.inj hm).symm
     refine we_join (!v18) hE [4] rfl (fun _ _ hφ => ask [] rfl hφ) rfl
    ·
     replace hm := iteF hm hs16
     refine wl_off rfl rfl rfl (freshS_eq rfl) ?_
     refine wl_off rfl rfl rfl (freshS_eq rfl) ?_
     refine wl_off rfl rfl rfl (freshS_eq rfl) ?_
     refine wl_pure rfl rfl rfl (freshS_eq rfl) rfl ?_
     refine wl_pure rfl rfl rfl (freshS_eq rfl) rfl ?_
     refine wl_nil ?_
     have hE := (Option.some.inj hm).symm
     refine we_join false hE [4] rfl (fun _ _ hφ => ask [] rfl hφ) rfl
   ·
    replace hm := iteF hm hs11
    refine wl_off rfl rfl rfl (freshS_eq rfl) ?_
    refine wl_off rfl rfl rfl (freshS_eq rfl) ?_
    refine wl_off rfl rfl rfl (freshS_eq rfl) ?_
    refine wl_pure rfl rfl rfl (freshS_eq rfl) rfl ?_
    refine wl_pure rfl rfl rfl (freshS_eq rfl) rfl ?_
    refine wl_off rfl rfl rfl (freshS_eq rfl) ?_
    refine wl_off rfl rfl rfl (freshS_eq rfl) ?_
    refine wl_off rfl rfl rfl (freshS_eq rfl) ?_
    refine wl_pure rfl rfl rfl (freshS_eq rfl) rfl ?_
    refine wl_pure rfl rfl rfl (freshS_eq rfl) rfl ?_
    refine wl_nil ?_
    have hE := (Option.some.inj hm).symm
    refine we_join false hE [4] rfl (fun _ _ hφ => ask [] rfl hφ) rfl
  ·
   replace hm := iteF hm hs7
   refine wl_off rfl rfl rfl (freshS_eq rfl) ?_
   refine wl_off rfl rfl rfl (freshS_eq rfl) ?_
   refine wl_pure rfl rfl rfl (freshS_eq rfl) rfl ?_
   refine wl_pure rfl rfl rfl (freshS_eq rfl) rfl ?_
   refine wl_off rfl rfl rfl (freshS_eq rfl) ?_
   refine wl_off rfl rfl rfl (freshS_eq rfl) ?_
   refine wl_off rfl rfl rfl (freshS_eq rfl) ?_
   refine wl_pure rfl rfl rfl (freshS_eq rfl) rfl ?_
   refine wl_pure rfl rfl rfl (freshS_eq rfl) rfl ?_
   refine wl_off rfl rfl rfl (freshS_eq rfl) ?_
   refine wl_off rfl rfl rfl (freshS_eq rfl) ?_
   refine wl_off rfl rfl rfl (freshS_eq rfl) ?_
   refine wl_pure rfl rfl rfl (freshS_eq rfl) rfl ?_
   refine wl_pure rfl rfl rfl (freshS_eq rfl) rfl ?_
   refine wl_nil ?_
   have hE := (Option.some.inj hm).symm
   refine we_join false hE [4] rfl (fun _ _ hφ => ask [] rfl hφ) rfl
 ·
  rintro j_1_4 hE
  try dsimp only
  have hm := hLj_1
  rw [hE] at hm
  refine wc_ret ?_
  have hE := (Option.some.inj hm).symm
  replace hE := hE.symm
  subst hE
  refine ret_one (Hr := [_]) [0] Tryd.results23 (res_tmp rfl) ⟨rfl, rfl, rfl⟩ (fun _ _ hφ => ask [] rfl hφ) rfl rfl (.inl rfl)
set_option maxRecDepth 100000 in
set_option maxHeartbeats 4000000 in
theorem w_memory_same_s (N : Nat) (qp0 : Option Addr) (qc1 : Nat) (l0 : List V) (qp2 : Option Addr) (qn3 : Nat) (qc4 : Nat) (l1 : List V) (o0 : Bool) (hm : m_memory_same N l0 l1 = some o0) : Spec Tryd.prog 36 [.slice qp0 l0.length qc1, .slice qp2 qn3 qc4] [.sli 3 R_V qp0 qc1 l0] [.own 55 3 R_V (.slice qp2 qn3 qc4) l1] (fun v Φr Hr => v = .bool o0 ∧ Φr = [] ∧ Hr = [.own 55 3 R_V (.slice qp2 qn3 qc4) l1]) := by
 unfold m_memory_same at hm
 refine spec_of Tryd.func36 rfl Tryd.ntmps36 rfl (S := [_,_]) rfl (fun C => ?_)
 refine wc_seq ?_
 refine wc_region ?_
 refine wl_pure rfl rfl rfl (freshS_eq rfl) rfl ?_
 refine wl_nil ?_
 refine we_then ?_
 refine wc_keep [0, 1] (S' := [_,_]) rfl ?_
 refine wc_seq ?_
 refine wc_seq ?_
 refine wc_region ?_
 refine wl_pure rfl rfl rfl (freshS_eq rfl) rfl ?_
 refine wl_len rfl rfl rfl (freshS_eq rfl) rfl rfl tE_26 ?_
 refine wl_pure rfl rfl rfl (freshS_eq rfl) rfl ?_
 refine wl_ownLen 0 rfl (fun hl9 _ => ?_)
 refine wl_len rfl rfl rfl (freshS_eq rfl) rfl rfl tE_26 ?_
 refine wl_as (d := 9) (v' := .int .i64 ((l1.length : Nat) : Int)) (S' := [_,_,_,_,_]) rfl rfl (len_is hl9) ?_
 refine wl_pure rfl rfl rfl (freshS_eq rfl) rfl ?_
 refine wl_as (d := 10) (v' := .bool (l0.length != l1.length)) (S' := [_,_,_,_,_,_]) rfl rfl (natne (a := l0.length) (b := l1.length)) ?_
 refine wl_nil ?_
 refine we_then ?_
 refine wc_keep [10, 0, 1] (S' := [_,_,_]) rfl ?_
 refine wc_cond rfl (fun hb10 => ?_) (fun hb10 => ?_)
 ·
  replace hm := iteT hm hb10
  refine wc_keep [] (S' := []) rfl ?_
  refine wc_seq ?_
  refine wc_region ?_
  refine wl_pure rfl rfl rfl (freshS_eq rfl) rfl ?_
  refine wl_nil ?_
  refine we_then ?_
  refine wc_ret ?_
  refine we_then_ret ?_
  have hE := (Option.some.inj hm).symm
  replace hE := hE.symm
  subst hE
  refine ret_one (Hr := [_]) [0] Tryd.results36 (res_tmp rfl) ⟨rfl, rfl, rfl⟩ (fun _ _ hφ => ask [] rfl hφ) rfl rfl (.inl rfl)
 ·
  replace hm := iteF hm hb10
  refine wc_keep [0, 1] (S' := [_,_]) rfl ?_
  refine wc_skip ?_
  refine we_then ?_
  refine wc_seq ?_
  obtain ⟨bj_1, hm, hLj_1⟩ := bindS_some hm
  refine wc_cut (σ := Unit) (fun _ => bj_1 = .inl ()) (fun _ => []) (fun _ => []) (fun _ => [.own 55 3 R_V (.slice qp2 qn3 qc4) l1]) ?_ ?_
  ·
   refine wc_seq ?_
   refine wc_region ?_
   refine wl_pure rfl rfl rfl (freshS_eq rfl) rfl ?_
   refine wl_len rfl rfl rfl (freshS_eq rfl) rfl rfl tE_26 ?_
   refine wl_pure rfl rfl rfl (freshS_eq rfl) rfl ?_
   refine wl_nil ?_
   refine we_then ?_
   refine wc_keep [13, 12, 0, 1] (S' := [_,_,_,_]) rfl ?_
   refine wc_block ?_
   refine wc_loop (σ := Nat × Nat) (fun (nu1, u1_13) => iter (m_memory_same_L1 N l0 l1) nu1 u1_13 = some bj_1) (fun (nu1, u1_13) => nu1) (fun (nu1, u1_13) => [(13, .int .i64 ((u1_13 : Nat) : Int)), (12, .int .i64 ((l0.length : Nat) : Int)), (0, .slice qp0 l0.length qc1), (1, .slice qp2 qn3 qc4)]) (fun (nu1, u1_13) => [.sli 3 R_V qp0 qc1 l0]) (fun (nu1, u1_13) => [.own 55 3 R_V (.slice qp2 qn3 qc4) l1]) (N, 0) hm [13, 12, 0, 1] rfl (fun _ _ hφ => ask [0] rfl hφ) rfl (fun s_ hm => ?_)
   obtain ⟨nu1, u1_13⟩ := s_
   try dsimp only at hm ⊢
   obtain ⟨mu1, bu1, hnu1, hq, hLu1⟩ := iter_some hm
   clear hm
   subst hnu1
   replace hm := hq
   clear hq
   unfold m_memory_same_L1 at hm
   try dsimp only at hm
   refine wc_seq ?_
   refine wc_region ?_
   refine wl_pure rfl rfl rfl (freshS_eq rfl) rfl ?_
   refine wl_as (d := 14) (v' := .bool (decide (u1_13 < l0.length))) (S' := [_,_,_,_]) rfl rfl (natlt (a := u1_13) (b := l0.length)) ?_
   refine wl_nil ?_
   refine we_then ?_
   refine wc_seq ?_
   refine wc_cond rfl (fun hb14 => ?_) (fun hb14 => ?_)
   ·
    replace hm := iteT hm hb14
    refine wc_keep [13, 12, 0, 1] (S' := [_,_,_,_]) rfl ?_
    refine wc_skip ?_
    refine we_then ?_
    refine wc_seq ?_
    refine wc_block ?_
    refine wc_seq ?_
    refine wc_region ?_
    refine wl_pure rfl rfl rfl (freshS_eq rfl) rfl ?_
    refine wl_pure rfl rfl rfl (freshS_eq rfl) rfl ?_
    refine wl_nil ?_
    refine we_then ?_
    refine wc_keep [5, 13, 12, 0, 1] (S' := [_,_,_,_,_]) rfl ?_
    refine wc_seq ?_
    obtain ⟨x18, hx18, hm⟩ := bindO_some hm
    obtain ⟨x22, hx22, hm⟩ := bindO_some hm
    refine wc_draw [0, 1, 2, 3, 4, 5, 6, 7, 8] rfl rfl (fun hok => ?_)
    refine wx_pure hok 0 rfl rfl rfl (freshS_eq rfl) rfl rfl ?_
    refine wx_pure hok 1 rfl rfl rfl (freshS_eq rfl) rfl rfl ?_
    refine wx_indexA hok 2 0 u1_13 rfl rfl rfl (freshS_eq rfl) rfl rfl rfl rfl rfl rfl hx18 tE_26 tS_55 (fun b18 q18 cs18 hlx18 => ?_)
    refine wx_openR R_V_opens 1 rfl (fun r18 er18 _ => ?_)
    subst er18
    refine wx_load hok 3 0 0 rfl rfl rfl (freshS_eq rfl) rfl rfl rfl rfl (cs := [_,_,_]) rfl tS_55 tA_55 rfl rfl ?_
    refine wx_pure hok 4 rfl rfl rfl (freshS_eq rfl) rfl rfl ?_
    refine wx_pure hok 5 rfl rfl rfl (freshS_eq rfl) rfl rfl ?_
    refine wx_indexH hok 6 0 u1_13 rfl rfl rfl (freshS_eq rfl) rfl rfl rfl rfl rfl rfl (get_lt hx22) tE_26 tS_55 (fun g22 eg22 => ?_)
    subst eg22
    refine wx_loadRow hok 7 R_V_opens 0 u1_13 0 rfl rfl rfl (freshS_eq rfl) rfl rfl rfl rfl hx22 tS_55 tA_55 (v := .agg #[.int .u8 (x22.k), .int .i64 (x22.n), .string x22.s]) rfl rfl (fun _ => ?_)
    refine wx_bin hok 8 rfl rfl rfl (freshS_eq rfl) rfl rfl rfl rfl (neqV _ _ x18 x22) ?_
    refine wx_done hok rfl ?_
    refine we_then ?_
    refine wc_keep [24, 13, 12, 0, 1] (S' := [_,_,_,_,_]) rfl ?_
    refine wc_cond rfl (fun hb24 => ?_) (fun hb24 => ?_)
    ·
     replace hm := iteT hm hb24
     refine wc_keep [] (S' := []) rfl ?_
     refine wc_seq ?_
     refine wc_region ?_
     refine wl_pure rfl rfl rfl (freshS_eq rfl) rfl ?_
     refine wl_nil ?_
     refine we_then ?_
     refine wc_ret ?_
     refine we_block_ret ?_
     refine we_then_ret ?_
     refine we_then_ret ?_
     refine we_block_ret ?_
     refine we_then_ret ?_
     have hE := (Option.some.inj hm).symm
     replace hE := link_inr hLu1 hE
     replace hE := link_inr hLj_1 hE
     replace hE := hE.symm
     subst hE
     refine ret_one (Hr := [_]) [0] Tryd.results36 (res_tmp rfl) ⟨rfl, rfl, rfl⟩ (fun _ _ hφ => ask [] rfl hφ) rfl rfl (.inl rfl)
    ·
     replace hm := iteF hm hb24
     refine wc_keep [13, 12, 0, 1] (S' := [_,_,_,_]) rfl ?_
     refine wc_skip ?_
     refine we_block_normal ?_
     refine we_then ?_
     refine wc_region ?_
     refine wl_pure rfl rfl rfl (freshS_eq rfl) rfl ?_
     obtain ⟨hg25, hm⟩ := gd_some hm
     refine wl_as (d := 25) (v' := .int .i64 ((u1_13 + 1 : Nat) : Int)) (S' := [_,_,_,_]) rfl rfl (nat_add (a := u1_13) (b := 1) hg25) ?_
     refine wl_pure (S' := [_,_,_,_]) rfl rfl rfl rfl rfl ?_
     refine wl_nil ?_
     have hE := (Option.some.inj hm).symm
     replace hE := link_inl hLu1 hE
     refine we_roundK (_, u1_13 + 1) (Nat.lt_succ_self _) hE [13, 12, 0, 1] rfl (fun _ _ hφ => ask [2] rfl hφ) rfl
   ·
    replace hm := iteF hm hb14
    refine wc_keep [] (S' := []) rfl ?_
    refine wc_exit ?_
    refine we_then_exit ?_
    refine we_then_exit ?_
    refine we_block_hit ?_
    have hE := (Option.some.inj hm).symm
    replace hE := link_inr hLu1 hE
    refine we_join () hE [] rfl (fun _ _ hφ => ask [] rfl hφ) rfl
  ·
   rintro _ hE
   try dsimp only
   have hm := link_inl hLj_1 hE
   try dsimp only at hm
   refine wc_seq ?_
   refine wc_region ?_
   refine wl_pure rfl rfl rfl (freshS_eq rfl) rfl ?_
   refine wl_nil ?_
   refine we_then ?_
   refine wc_ret ?_
   have hE := (Option.some.inj hm).symm
   replace hE := hE.symm
   subst hE
   refine ret_one (Hr := [_]) [0] Tryd.results36 (res_tmp rfl) ⟨rfl, rfl, rfl⟩ (fun _ _ hφ => ask [] rfl hφ) rfl rfl (.inl rfl)
set_option maxRecDepth 100000 in
set_option maxHeartbeats 4000000 in
theorem w_memory_row_says_1_s (N : Nat) (a0 : Int) (a1 : Int) (qp0 : Option Addr) (qc1 : Nat) (l2 : List V) (qg2 : Nat) (a3 : Int) (qg3 : Nat) (qp4 : Option Addr) (qn5 : Nat) (qc6 : Nat) (l4 : List V) (o0 : Bool) (hm : m_memory_row_says_1 N a0 a1 l2 a3 l4 = some o0) : Spec Tryd.prog 35 [.agg #[.int .i64 a0, .int .i64 a1, .slice qp0 l2.length qc1], .pointer (some ⟨qg2, 0, none⟩), .pointer (some ⟨qg3, 0, none⟩)] [.sli 3 R_V qp0 qc1 l2] [.blk qg2 [.int .i64 a3] 3, .blk qg3 [.slice qp4 qn5 qc6] 26, .own 55 3 R_V (.slice qp4 qn5 qc6) l4] (fun v Φr Hr => v = .bool o0 ∧ Φr = [] ∧ Hr = [.blk qg2 [.int .i64 a3] 3, .blk qg3 [.slice qp4 qn5 qc6] 26, .own 55 3 R_V (.slice qp4 qn5 qc6) l4]) := by
 unfold m_memory_row_says_1 at hm
 refine spec_of Tryd.func35 rfl Tryd.ntmps35 rfl (S := [_,_,_]) rfl (fun C => ?_)
 refine wc_seq ?_
 refine wc_region ?_
 refine wl_box rfl rfl rfl (freshS_eq rfl) rfl rfl rfl (fun g3 => ?_)
 refine wl_pure rfl rfl rfl (freshS_eq rfl) rfl ?_
 refine wl_nil ?_
 refine we_then ?_
 refine wc_keep [3, 1, 2] (S' := [_,_,_]) rfl ?_
 refine wc_seq ?_
 refine wc_region ?_
 refine wl_fieldAddr rfl rfl rfl (freshS_eq rfl) rfl rfl tF_42_1 ?_
 refine wl_loadH 0 1 rfl rfl rfl (freshS_eq rfl) rfl rfl rfl (cs := [_]) rfl tS_3 tA_3 rfl rfl ?_
 refine wl_loadH 1 0 rfl rfl rfl (freshS_eq rfl) rfl rfl rfl (cs := [_]) rfl tS_3 tA_3 rfl rfl ?_
 refine wl_pure rfl rfl rfl (freshS_eq rfl) rfl ?_
 refine wl_pure rfl rfl rfl (freshS_eq rfl) rfl ?_
 refine wl_split (d := 9) (S' := [_,_,_,_,_,_,_]) rfl rfl (fun hs9 => ?_) (fun hs9 => ?_)
 ·
  replace hm := iteT hm hs9
  refine wl_fieldAddr rfl rfl rfl (freshS_eq rfl) rfl rfl tF_42_2 ?_
  refine wl_loadH 0 2 rfl rfl rfl (freshS_eq rfl) rfl rfl rfl (cs := [_]) rfl tS_26 tA_26 rfl rfl ?_
  refine wl_loadH 2 0 rfl rfl rfl (freshS_eq rfl) rfl rfl rfl (cs := [_]) rfl tS_26 tA_26 rfl rfl ?_
  obtain ⟨v13, hc13, hm⟩ := bindO_some hm
  refine wl_call [3] [0, 1, 2] rfl rfl rfl (freshS_eq rfl) rfl rfl fn_36 rfl (w_memory_same_s N qp0 qc1 l2 qp4 qn5 qc6 l4 _ hc13) (fun _ _ hφ => ask [0] rfl hφ) rfl (H' := [_,_,_]) rfl ?_
  rintro _ _ _ ⟨rfl, rfl, rfl⟩
  refine wl_pure rfl rfl rfl (freshS_eq rfl) rfl ?_
  refine wl_pure rfl rfl rfl (freshS_eq rfl) rfl ?_
  refine wl_nil ?_
  refine we_then ?_
  refine wc_keep [4] (S' := [_]) rfl ?_
  refine wc_ret ?_
  have hE := (Option.some.inj hm).symm
  replace hE := hE.symm
  subst hE
  refine ret_one (Hr := [_, _, _]) [2, 3, 0] Tryd.results35 (res_tmp rfl) ⟨rfl, rfl, rfl⟩ (fun _ _ hφ => ask [] rfl hφ) rfl rfl (.inl rfl)
 ·
  replace hm := iteF hm hs9
  refine wl_off rfl rfl rfl (freshS_eq rfl) ?_
  refine wl_off rfl rfl rfl (freshS_eq rfl) ?_
  refine wl_off rfl rfl rfl (freshS_eq rfl) ?_
  refine wl_off rfl rfl rfl (freshS_eq rfl) ?_
  refine wl_pure rfl rfl rfl (freshS_eq rfl) rfl ?_
  refine wl_pure rfl rfl rfl (freshS_eq rfl) rfl ?_
  refine wl_nil ?_
  refine we_then ?_
  refine wc_keep [4] (S' := [_]) rfl ?_
  refine wc_ret ?_
  have hE := (Option.some.inj hm).symm
  replace hE := hE.symm
  subst hE
  refine ret_one (Hr := [_, _, _]) [1, 2, 3] Tryd.results35 (res_tmp rfl) ⟨rfl, rfl, rfl⟩ (fun _ _ hφ => ask [] rfl hφ) rfl rfl (.inl rfl)
set_option maxRecDepth 100000 in
set_option maxHeartbeats 4000000 in
theorem w_slices_IndexFunc_Fact_s (N : Nat) (qp0 : Option Addr) (qn1 : Nat) (qc2 : Nat) (l0 : List FactD) (qg3 : Nat) (a1 : Int) (qg4 : Nat) (qp5 : Option Addr) (qn6 : Nat) (qc7 : Nat) (l2 : List V) (o0 : Int) (hm : m_slices_IndexFunc_Fact N l0 a1 l2 = some o0) : Spec Tryd.prog 34 [.slice qp0 qn1 qc2, .func (.func 35) #[] #[.pointer (some ⟨qg3, 0, none⟩), .pointer (some ⟨qg4, 0, none⟩)]] [] [.own 42 3 R_FactD (.slice qp0 qn1 qc2) l0, .blk qg3 [.int .i64 a1] 3, .blk qg4 [.slice qp5 qn6 qc7] 26, .own 55 3 R_V (.slice qp5 qn6 qc7) l2] (fun v Φr Hr => v = .int .i64 o0 ∧ Φr = [] ∧ Hr = [.own 42 3 R_FactD (.slice qp0 qn1 qc2) l0, .blk qg3 [.int .i64 a1] 3, .blk qg4 [.slice qp5 qn6 qc7] 26, .own 55 3 R_V (.slice qp5 qn6 qc7) l2]) := by
 unfold m_slices_IndexFunc_Fact at hm
 refine spec_of Tryd.func34 rfl Tryd.ntmps34 rfl (S := [_,_]) rfl (fun C => ?_)
 refine wc_seq ?_
 refine wc_region ?_
 refine wl_pure rfl rfl rfl (freshS_eq rfl) rfl ?_
 refine wl_nil ?_
 refine we_then ?_
 refine wc_keep [0, 1] (S' := [_,_]) rfl ?_
 refine wc_seq ?_
 obtain ⟨bj_1, hm, hLj_1⟩ := bindS_some hm
 refine wc_cut (σ := Unit) (fun _ => bj_1 = .inl ()) (fun _ => []) (fun _ => []) (fun _ => [.own 42 3 R_FactD (.slice qp0 qn1 qc2) l0, .blk qg3 [.int .i64 a1] 3, .blk qg4 [.slice qp5 qn6 qc7] 26, .own 55 3 R_V (.slice qp5 qn6 qc7) l2]) ?_ ?_
 ·
  refine wc_seq ?_
  refine wc_region ?_
  refine wl_pure rfl rfl rfl (freshS_eq rfl) rfl ?_
  refine wl_ownLen 0 rfl (fun hl7 _ => ?_)
  refine wl_len rfl rfl rfl (freshS_eq rfl) rfl rfl tE_35 ?_
  refine wl_as (d := 7) (v' := .int .i64 ((l0.length : Nat) : Int)) (S' := [_,_,_]) rfl rfl (len_is hl7) ?_
  refine wl_pure rfl rfl rfl (freshS_eq rfl) rfl ?_
  refine wl_nil ?_
  refine we_then ?_
  refine wc_keep [8, 7, 0, 1] (S' := [_,_,_,_]) rfl ?_
  refine wc_block ?_
  refine wc_loop (σ := Nat × Nat) (fun (nu1, u1_8) => iter (m_slices_IndexFunc_Fact_L1 N l0 a1 l2) nu1 u1_8 = some bj_1) (fun (nu1, u1_8) => nu1) (fun (nu1, u1_8) => [(8, .int .i64 ((u1_8 : Nat) : Int)), (7, .int .i64 ((l0.length : Nat) : Int)), (0, .slice qp0 qn1 qc2), (1, .func (.func 35) #[] #[.pointer (some ⟨qg3, 0, none⟩), .pointer (some ⟨qg4, 0, none⟩)])]) (fun (nu1, u1_8) => []) (fun (nu1, u1_8) => [.own 42 3 R_FactD (.slice qp0 qn1 qc2) l0, .blk qg3 [.int .i64 a1] 3, .blk qg4 [.slice qp5 qn6 qc7] 26, .own 55 3 R_V (.slice qp5 qn6 qc7) l2]) (N, 0) hm [8, 7, 0, 1] rfl (fun _ _ hφ => ask [] rfl hφ) rfl (fun s_ hm => ?_)
  obtain ⟨nu1, u1_8⟩ := s_
  try dsimp only at hm ⊢
  obtain ⟨mu1, bu1, hnu1, hq, hLu1⟩ := iter_some hm
  clear hm
  subst hnu1
  replace hm := hq
  clear hq
  unfold m_slices_IndexFunc_Fact_L1 at hm
  try dsimp only at hm
  refine wc_seq ?_
  refine wc_region ?_
  refine wl_pure rfl rfl rfl (freshS_eq rfl) rfl ?_
  refine wl_as (d := 9) (v' := .bool (decide (u1_8 < l0.length))) (S' := [_,_,_,_]) rfl rfl (natlt (a := u1_8) (b := l0.length)) ?_
  refine wl_nil ?_
  refine we_then ?_
  refine wc_seq ?_
  refine wc_cond rfl (fun hb9 => ?_) (fun hb9 => ?_)
  ·
   replace hm := iteT hm hb9
   refine wc_keep [8, 7, 0, 1] (S' := [_,_,_,_]) rfl ?_
   refine wc_skip ?_
   refine we_then ?_
   refine wc_seq ?_
   refine wc_block ?_
   refine wc_seq ?_
   refine wc_region ?_
   refine wl_pure rfl rfl rfl (freshS_eq rfl) rfl ?_
   refine wl_pure rfl rfl rfl (freshS_eq rfl) rfl ?_
   refine wl_nil ?_
   refine we_then ?_
   refine wc_keep [5, 8, 7, 0, 1] (S' := [_,_,_,_,_]) rfl ?_
   refine wc_seq ?_
   refine wc_region ?_
   refine wl_pure rfl rfl rfl (freshS_eq rfl) rfl ?_
   refine wl_pure rfl rfl rfl (freshS_eq rfl) rfl ?_
   refine wl_pure rfl rfl rfl (freshS_eq rfl) rfl ?_
   obtain ⟨x14, hx14, hm⟩ := bindO_some hm
   refine wl_indexH 0 u1_8 rfl rfl rfl (freshS_eq rfl) rfl rfl rfl rfl rfl (get_lt hx14) tE_35 tS_42 (fun g14 eg14 => ?_)
   subst eg14
   refine wl_loadRow R_FactD_opens 0 u1_8 0 rfl rfl rfl (freshS_eq rfl) rfl rfl rfl hx14 tS_42 tA_42 (v := fun r15 => .agg #[.int .i64 (x14.id), .int .i64 (x14.ty), .slice r15.1 x14.args.length r15.2]) (fun _ => rfl) (fun _ => rfl) (fun r15 _ => ?_)
   obtain ⟨v16, hc16, hm⟩ := bindO_some hm
   refine wl_callDyn [1, 2, 3] [0] rfl rfl rfl (freshS_eq rfl) rfl rfl rfl fn_35 rfl rfl (w_memory_row_says_1_s N x14.id x14.ty r15.1 r15.2 x14.args qg3 a1 qg4 qp5 qn6 qc7 l2 _ hc16) (fun _ _ hφ => ask [0] rfl hφ) rfl (H' := [_]) rfl ?_
   rintro _ _ _ ⟨rfl, rfl, rfl⟩
   refine wl_nil ?_
   refine we_then ?_
   refine wc_keep [16, 5, 8, 7, 0, 1] (S' := [_,_,_,_,_,_]) rfl ?_
   refine wc_cond rfl (fun hb16 => ?_) (fun hb16 => ?_)
   ·
    replace hm := iteT hm hb16
    refine wc_keep [5] (S' := [_]) rfl ?_
    refine wc_seq ?_
    refine wc_region ?_
    refine wl_pure rfl rfl rfl (freshS_eq rfl) rfl ?_
    refine wl_pure rfl rfl rfl (freshS_eq rfl) rfl ?_
    refine wl_nil ?_
    refine we_then ?_
    refine wc_keep [4] (S' := [_]) rfl ?_
    refine wc_ret ?_
    refine we_block_ret ?_
    refine we_then_ret ?_
    refine we_then_ret ?_
    refine we_block_ret ?_
    refine we_then_ret ?_
    have hE := (Option.some.inj hm).symm
    replace hE := link_inr hLu1 hE
    replace hE := link_inr hLj_1 hE
    replace hE := hE.symm
    subst hE
    refine ret_one (Hr := [_, _, _, _]) [3, 0, 1, 2] Tryd.results34 (res_tmp rfl) ⟨rfl, rfl, rfl⟩ (fun _ _ hφ => ask [] rfl hφ) rfl rfl (.inl rfl)
   ·
    replace hm := iteF hm hb16
    refine wc_keep [8, 7, 0, 1] (S' := [_,_,_,_]) rfl ?_
    refine wc_skip ?_
    refine we_block_normal ?_
    refine we_then ?_
    refine wc_region ?_
    refine wl_pure rfl rfl rfl (freshS_eq rfl) rfl ?_
    obtain ⟨hg18, hm⟩ := gd_some hm
    refine wl_as (d := 18) (v' := .int .i64 ((u1_8 + 1 : Nat) : Int)) (S' := [_,_,_,_]) rfl rfl (nat_add (a := u1_8) (b := 1) hg18) ?_
    refine wl_pure (S' := [_,_,_,_]) rfl rfl rfl rfl rfl ?_
    refine wl_nil ?_
    have hE := (Option.some.inj hm).symm
    replace hE := link_inl hLu1 hE
    refine we_pick [3, 0, 1, 2] rfl (H' := [_,_,_,_]) rfl ?_
    refine we_roundK (_, u1_8 + 1) (Nat.lt_succ_self _) hE [8, 7, 0, 1] rfl (fun _ _ hφ => ask [] rfl hφ) rfl
  ·
   replace hm := iteF hm hb9
   refine wc_keep [] (S' := []) rfl ?_
   refine wc_exit ?_
   refine we_then_exit ?_
   refine we_then_exit ?_
   refine we_block_hit ?_
   have hE := (Option.some.inj hm).symm
   replace hE := link_inr hLu1 hE
   refine we_join () hE [] rfl (fun _ _ hφ => ask [] rfl hφ) rfl
 ·
  rintro _ hE
  try dsimp only
  have hm := link_inl hLj_1 hE
  try dsimp only at hm
  refine wc_seq ?_
  refine wc_region ?_
  refine wl_pure rfl rfl rfl (freshS_eq rfl) rfl ?_
  refine wl_nil ?_
  refine we_then ?_
  refine wc_ret ?_
  have hE := (Option.some.inj hm).symm
  replace hE := hE.symm
  subst hE
  refine ret_one (Hr := [_, _, _, _]) [0, 1, 2, 3] Tryd.results34 (res_tmp rfl) ⟨rfl, rfl, rfl⟩ (fun _ _ hφ => ask [] rfl hφ) rfl rfl (.inl rfl)
set_option maxRecDepth 100000 in
set_option maxHeartbeats 4000000 in
theorem w_memory_row_says_s (N : Nat) (qg0 : Nat) (qp1 : Option Addr) (qn2 : Nat) (qc3 : Nat) (l0 : List FactD) (a1 : Int) (a2 : Int) (qp4 : Option Addr) (qn5 : Nat) (qc6 : Nat) (l3 : List V) (o0 : Int) (hm : m_memory_row_says N l0 a1 a2 l3 = some o0) : Spec Tryd.prog 24 [.pointer (some ⟨qg0, 0, none⟩), .int .i64 a2, .slice qp4 qn5 qc6] [] [.blk qg0 [.slice qp1 qn2 qc3, .int .i64 a1] 60, .own 42 3 R_FactD (.slice qp1 qn2 qc3) l0, .own 55 3 R_V (.slice qp4 qn5 qc6) l3] (fun v Φr Hr => v = .int .i64 o0 ∧ Φr = [] ∧ Hr = [.blk qg0 [.slice qp1 qn2 qc3, .int .i64 a1] 60, .own 42 3 R_FactD (.slice qp1 qn2 qc3) l0, .own 55 3 R_V (.slice qp4 qn5 qc6) l3]) := by
 unfold m_memory_row_says at hm
 refine spec_of Tryd.func24 rfl Tryd.ntmps24 rfl (S := [_,_,_]) rfl (fun C => ?_)
 refine wc_seq ?_
 refine wc_region ?_
 refine wl_box rfl rfl rfl (freshS_eq rfl) rfl rfl rfl (fun g4 => ?_)
 refine wl_box rfl rfl rfl (freshS_eq rfl) rfl rfl rfl (fun g5 => ?_)
 refine wl_pure rfl rfl rfl (freshS_eq rfl) rfl ?_
 refine wl_nil ?_
 refine we_then ?_
 refine wc_keep [5, 4, 0] (S' := [_,_,_]) rfl ?_
 refine wc_seq ?_
 refine wc_region ?_
 refine wl_pure rfl rfl rfl (freshS_eq rfl) rfl ?_
 refine wl_pure rfl rfl rfl (freshS_eq rfl) rfl ?_
 refine wl_fieldAddr rfl rfl rfl (freshS_eq rfl) rfl rfl tF_58_0 ?_
 refine wl_loadH 2 0 rfl rfl rfl (freshS_eq rfl) rfl rfl rfl (cs := [_]) rfl tS_35 tA_35 rfl rfl ?_
 refine wl_makeFunc rfl rfl rfl (freshS_eq rfl) rfl rfl ?_
 obtain ⟨v12, hc12, hm⟩ := bindO_some hm
 refine wl_call [3, 1, 0, 4] [2] rfl rfl rfl (freshS_eq rfl) rfl rfl fn_34 rfl (w_slices_IndexFunc_Fact_s N qp1 qn2 qc3 l0 g4 a2 g5 qp4 qn5 qc6 l3 _ hc12) (fun _ _ hφ => ask [] rfl hφ) rfl (H' := [_]) rfl ?_
 rintro _ _ _ ⟨rfl, rfl, rfl⟩
 refine wl_pure rfl rfl rfl (freshS_eq rfl) rfl ?_
 refine wl_nil ?_
 refine we_then ?_
 refine wc_keep [6] (S' := [_]) rfl ?_
 refine wc_ret ?_
 have hE := (Option.some.inj hm).symm
 replace hE := hE.symm
 subst hE
 refine ret_one (Hr := [_, _, _]) [4, 0, 3] Tryd.results24 (res_tmp rfl) ⟨rfl, rfl, rfl⟩ (fun _ _ hφ => ask [] rfl hφ) rfl rfl (.inl rfl)
set_option maxRecDepth 100000 in
set_option maxHeartbeats 4000000 in
theorem Clone37o_s (p : Option Addr) (c : Nat) (l : List V) (hb : l.length ≤ 4398046511104) : Spec Tryd.prog 37 [.slice p l.length c] [] [.own 55 3 R_V (.slice p l.length c) l] (fun v Φr Hr => ∃ p' c', v = .slice p' l.length c' ∧ Φr = [] ∧ Hr = [.own 55 3 R_V v l, .own 55 3 R_V (.slice p l.length c) l]) := by
 refine spec_of Tryd.func37 rfl Tryd.ntmps37 rfl (S := [_]) rfl (fun C => ?_)
 refine wc_ownNil 0 rfl (fun isnil => ?_)
 refine wc_seq ?_
 refine wc_region ?_
 refine wl_pure rfl rfl rfl (freshS_eq rfl) rfl ?_
 refine wl_nil ?_
 refine we_then ?_
 refine wc_seq ?_
 refine wc_seq ?_
 refine wc_region ?_
 refine wl_pure rfl rfl rfl (freshS_eq rfl) rfl ?_
 refine wl_eqlNil rfl rfl rfl (freshS_eq rfl) rfl rfl rfl tE_26 ?_
 refine wl_nil ?_
 refine we_then ?_
 refine wc_keep [4, 2, 0] (S' := [_,_,_]) rfl ?_
 refine wc_cond rfl (fun h4 => ?_) (fun h4 => ?_)
 ·
  replace h4 := isNone_true h4
  obtain rfl := isnil h4
  subst h4
  refine wc_rowNil 55 3 R_V ?_
  refine wc_seq ?_
  refine wc_region ?_
  refine wl_pure (S' := [_,_]) rfl rfl rfl rfl rfl ?_
  refine wl_nil ?_
  refine we_then ?_
  refine wc_ret ?_
  refine we_then_ret ?_
  refine ret_one (Hr := [.own 55 3 R_V (.slice none 0 0) [], .own 55 3 R_V (.slice none ([] : List V).length c) ([] : List V)]) [0, 1] Tryd.results37 (res_tmp rfl) ?_ (fun _ _ hφ => ask [] rfl hφ) rfl rfl (.inl rfl)
  exact ⟨none, 0, rfl, rfl, rfl⟩
 ·
  replace h4 := isNone_false h4
  refine wc_skip ?_
  refine we_then ?_
  refine wc_seq ?_
  refine wc_region ?_
  refine wl_buildSlice rfl rfl rfl (freshS_eq rfl) rfl tE_26 tS_55 tZ_55 rfl (zs := []) (by kernel_rfl) rfl (out := []) rfl (fun g5 => ?_)
  refine wl_pure rfl rfl rfl (freshS_eq rfl) rfl ?_
  refine wl_row (sz := 3) (m := 0) R_V [] 0 rfl (fun F w hφ => rfl) rfl (by decide) (H' := [_,_]) rfl ?_
  refine wl_appendO 0 1 rfl rfl rfl (freshS_eq rfl) rfl rfl rfl rfl rfl tE_26 tR_55 rfl rfl (by simp; omega) (by simp; omega) (H2 := fun p7 c7 => [.own 55 3 R_V (.slice p7 (l).length c7) l, .own 55 3 R_V (.slice p l.length c) l]) (fun _ _ => rfl) (fun p7 c7 => ?_)
  refine wl_pure (S' := [_,_,_,_,_]) rfl rfl rfl rfl rfl ?_
  refine wl_nil ?_
  refine we_then ?_
  refine wc_keep [2, 4, 0] (S' := [_,_,_]) rfl ?_
  refine wc_ret ?_
  refine ret_one (Hr := [.own 55 3 R_V (.slice p7 (l).length c7) l, .own 55 3 R_V (.slice p l.length c) l]) [0, 1] Tryd.results37 (res_tmp rfl) ?_ (fun _ _ hφ => ask [] rfl hφ) rfl rfl (.inl rfl)
  exact ⟨_, _, rfl, rfl, rfl⟩

set_option maxRecDepth 100000 in
set_option maxHeartbeats 4000000 in
theorem w_memory_own_s (N : Nat) (a0 : Int) (a1 : Int) (qp0 : Option Addr) (qn1 : Nat) (qc2 : Nat) (l2 : List V)  (hm : m_memory_own N a0 a1 l2 = some ()) : Spec Tryd.prog 25 [.agg #[.int .i64 a0, .int .i64 a1, .slice qp0 qn1 qc2]] [] [.own 55 3 R_V (.slice qp0 qn1 qc2) l2] (fun v Φr Hr => ∃ (o0 : Option Addr) (o1 : Nat), v = .agg #[.int .i64 a0, .int .i64 a1, .slice o0 qn1 o1] ∧ Φr = [] ∧ Hr = [.own 55 3 R_V (.slice o0 qn1 o1) l2, .own 55 3 R_V (.slice qp0 qn1 qc2) l2]) := by
 unfold m_memory_own at hm
 refine spec_of Tryd.func25 rfl Tryd.ntmps25 rfl (S := [_]) rfl (fun C => ?_)
 refine wc_seq ?_
 refine wc_region ?_
 refine wl_box rfl rfl rfl (freshS_eq rfl) rfl rfl rfl (fun g1 => ?_)
 refine wl_alloc rfl rfl rfl (freshS_eq rfl) rfl tZ_42 rfl (fun g2 => ?_)
 refine wl_nil ?_
 refine we_then ?_
 refine wc_keep [2, 1] (S' := [_,_]) rfl ?_
 refine wc_seq ?_
 refine wc_region ?_
 refine wl_fieldAddr rfl rfl rfl (freshS_eq rfl) rfl rfl tF_42_2 ?_
 refine wl_loadH 1 2 rfl rfl rfl (freshS_eq rfl) rfl rfl rfl (cs := [_]) rfl tS_26 tA_26 rfl rfl ?_
 refine wl_ownLen 2 rfl (fun hzqn1 _ => ?_)
 subst hzqn1
 obtain ⟨hg5, hm⟩ := gd_some hm
 refine wl_call [2] [0, 1] rfl rfl rfl (freshS_eq rfl) rfl rfl fn_37 rfl (Clone37o_s qp0 qc2 l2 hg5) (fun _ _ hφ => ask [] rfl hφ) rfl (H' := [_,_]) rfl ?_
 rintro _ _ _ ⟨p5, c5, rfl, rfl, rfl⟩
 refine wl_fieldAddr rfl rfl rfl (freshS_eq rfl) rfl rfl tF_42_2 ?_
 refine wl_store 3 2 rfl rfl rfl rfl rfl rfl rfl tS_26 rfl rfl rfl (all' := [_,_,_]) rfl (H' := [_,_,_,_]) rfl ?_
 refine wl_nil ?_
 refine we_then ?_
 refine wc_keep [2, 1] (S' := [_,_]) rfl ?_
 refine wc_seq ?_
 refine wc_region ?_
 refine wl_loadH 3 0 rfl rfl rfl (freshS_eq rfl) rfl rfl rfl (cs := [_,_,_]) rfl tS_42 tA_42 rfl rfl ?_
 refine wl_store 2 0 rfl rfl rfl rfl rfl rfl rfl tS_42 rfl rfl rfl (all' := [_,_,_]) rfl (H' := [_,_,_,_]) rfl ?_
 refine wl_nil ?_
 refine we_then ?_
 refine wc_keep [2] (S' := [_]) rfl ?_
 refine wc_ret ?_
 have hE := (Option.some.inj hm).symm
 refine ret_one (Hr := [_, _]) [0, 1] Tryd.results25 (res_cell 2 rfl rfl tS_42 tA_42 rfl rfl) ⟨p5, c5, rfl, rfl, rfl⟩ (fun _ _ hφ => ask [] rfl hφ) rfl rfl (.inl rfl)
set_option maxRecDepth 100000 in
set_option maxHeartbeats 4000000 in
theorem w_memory_Memory_Add_s (N : Nat) (qg0 : Nat) (qp1 : Option Addr) (qn2 : Nat) (qc3 : Nat) (l0 : List FactD) (a1 : Int) (a2 : Int) (qp4 : Option Addr) (qn5 : Nat) (qc6 : Nat) (l3 : List V) (o0 : Int) (o1 : Nat) (o4 : List FactD) (o6 : Int) (hm : m_memory_Memory_Add N l0 a1 a2 l3 = some (o0, o1, o4, o6)) : Spec Tryd.prog 15 [.pointer (some ⟨qg0, 0, none⟩), .int .i64 a2, .slice qp4 qn5 qc6] [] [.blk qg0 [.slice qp1 qn2 qc3, .int .i64 a1] 60, .own 42 3 R_FactD (.slice qp1 qn2 qc3) l0, .own 55 3 R_V (.slice qp4 qn5 qc6) l3] (fun v Φr Hr => ∃ (o2 : Option Addr) (o3 : Nat) (o5 : Nat), v = .tuple #[.int .i64 o0, .int .i64 ((o1 : Nat) : Int)] ∧ Φr = [] ∧ Hr = [.blk qg0 [.slice o2 o5 o3, .int .i64 o6] 60, .own 42 3 R_FactD (.slice o2 o5 o3) o4, .own 55 3 R_V (.slice qp4 qn5 qc6) l3]) := by
 unfold m_memory_Memory_Add at hm
 refine spec_of Tryd.func15 rfl Tryd.ntmps15 rfl (S := [_,_,_]) rfl (fun C => ?_)
 refine wc_seq ?_
 refine wc_region ?_
 refine wl_pure rfl rfl rfl (freshS_eq rfl) rfl ?_
 refine wl_pure rfl rfl rfl (freshS_eq rfl) rfl ?_
 refine wl_nil ?_
 refine we_then ?_
 refine wc_keep [0, 1, 2] (S' := [_,_,_]) rfl ?_
 refine wc_seq ?_
 refine wc_block ?_
 refine wc_seq ?_
 refine wc_region ?_
 refine wl_pure rfl rfl rfl (freshS_eq rfl) rfl ?_
 obtain ⟨_, hc11, hm⟩ := bindO_some hm
 try dsimp only at hm
 refine wl_call [0, 1] [2] rfl rfl rfl (freshS_eq rfl) rfl rfl fn_26 rfl (w_memory_Memory_known_s N qg0 qp1 qn2 qc3 l0 a1 hc11) (fun _ _ hφ => ask [] rfl hφ) rfl (H' := [_]) rfl ?_
 rintro _ _ _ ⟨rfl, rfl, rfl⟩
 refine wl_pure rfl rfl rfl (freshS_eq rfl) rfl ?_
 refine wl_pure rfl rfl rfl (freshS_eq rfl) rfl ?_
 refine wl_nil ?_
 refine we_then ?_
 refine wc_keep [9, 0, 1, 2] (S' := [_,_,_,_]) rfl ?_
 refine wc_cond rfl (fun hb9 => ?_) (fun hb9 => ?_)
 ·
  replace hm := iteT hm hb9
  refine wc_keep [] (S' := []) rfl ?_
  refine wc_seq ?_
  refine wc_region ?_
  refine wl_pure rfl rfl rfl (freshS_eq rfl) rfl ?_
  refine wl_pure rfl rfl rfl (freshS_eq rfl) rfl ?_
  refine wl_nil ?_
  refine we_then ?_
  refine wc_ret ?_
  refine we_block_ret ?_
  refine we_then_ret ?_
  have hE := (Option.some.inj hm).symm
  obtain ⟨hE0, hF1⟩ := Prod.mk.inj hE
  obtain ⟨hE1, hF2⟩ := Prod.mk.inj hF1
  obtain ⟨hE2, hE3⟩ := Prod.mk.inj hF2
  clear hE hF1 hF2
  replace hE0 := hE0.symm
  subst hE0
  replace hE1 := hE1.symm
  subst hE1
  replace hE2 := hE2.symm
  subst hE2
  replace hE3 := hE3.symm
  subst hE3
  refine ret_two (Hr := [_, _, _]) [0, 1, 2] Tryd.results15 (res_tmp rfl) (res_tmp rfl) ⟨qp1, qc3, qn2, rfl, rfl, rfl⟩ (fun _ _ hφ => ask [] rfl hφ) rfl rfl (.inl rfl)
 ·
  replace hm := iteF hm hb9
  refine wc_keep [0, 1, 2] (S' := [_,_,_]) rfl ?_
  refine wc_seq ?_
  refine wc_region ?_
  refine wl_pure rfl rfl rfl (freshS_eq rfl) rfl ?_
  refine wl_pure rfl rfl rfl (freshS_eq rfl) rfl ?_
  obtain ⟨v16, hc16, hm⟩ := bindO_some hm
  refine wl_call [2] [0, 1] rfl rfl rfl (freshS_eq rfl) rfl rfl fn_23 rfl (w_memory_may_s N a2 qp4 qn5 qc6 l3 _ hc16) (fun _ _ hφ => ask [] rfl hφ) rfl (H' := [_,_]) rfl ?_
  rintro _ _ _ ⟨rfl, rfl, rfl⟩
  refine wl_pure rfl rfl rfl (freshS_eq rfl) rfl ?_
  refine wl_pure rfl rfl rfl (freshS_eq rfl) rfl ?_
  refine wl_nil ?_
  refine we_then ?_
  refine wc_keep [13, 0, 1, 2] (S' := [_,_,_,_]) rfl ?_
  refine wc_cond rfl (fun hb13 => ?_) (fun hb13 => ?_)
  ·
   replace hm := iteT hm hb13
   refine wc_keep [] (S' := []) rfl ?_
   refine wc_seq ?_
   refine wc_region ?_
   refine wl_pure rfl rfl rfl (freshS_eq rfl) rfl ?_
   refine wl_pure rfl rfl rfl (freshS_eq rfl) rfl ?_
   refine wl_nil ?_
   refine we_then ?_
   refine wc_ret ?_
   refine we_block_ret ?_
   refine we_then_ret ?_
   have hE := (Option.some.inj hm).symm
   obtain ⟨hE0, hF1⟩ := Prod.mk.inj hE
   obtain ⟨hE1, hF2⟩ := Prod.mk.inj hF1
   obtain ⟨hE2, hE3⟩ := Prod.mk.inj hF2
   clear hE hF1 hF2
   replace hE0 := hE0.symm
   subst hE0
   replace hE1 := hE1.symm
   subst hE1
   replace hE2 := hE2.symm
   subst hE2
   replace hE3 := hE3.symm
   subst hE3
   refine ret_two (Hr := [_, _, _]) [1, 2, 0] Tryd.results15 (res_tmp rfl) (res_tmp rfl) ⟨qp1, qc3, qn2, rfl, rfl, rfl⟩ (fun _ _ hφ => ask [] rfl hφ) rfl rfl (.inl rfl)
  ·
   replace hm := iteF hm hb13
   refine wc_keep [0, 1, 2] (S' := [_,_,_]) rfl ?_
   refine wc_skip ?_
   refine we_block_normal ?_
   refine we_then ?_
   refine wc_seq ?_
   refine wc_seq ?_
   refine wc_region ?_
   refine wl_pure rfl rfl rfl (freshS_eq rfl) rfl ?_
   refine wl_pure rfl rfl rfl (freshS_eq rfl) rfl ?_
   refine wl_fieldAddr rfl rfl rfl (freshS_eq rfl) rfl rfl tF_60_0 ?_
   refine wl_pure rfl rfl rfl (freshS_eq rfl) rfl ?_
   refine wl_pure rfl rfl rfl (freshS_eq rfl) rfl ?_
   obtain ⟨v23, hc23, hm⟩ := bindO_some hm
   refine wl_call [1, 2, 0] [] rfl rfl rfl (freshS_eq rfl) rfl rfl fn_24 rfl (w_memory_row_says_s N qg0 qp1 qn2 qc3 l0 a1 a2 qp4 qn5 qc6 l3 _ hc23) (fun _ _ hφ => ask [] rfl hφ) rfl (H' := []) rfl ?_
   rintro _ _ _ ⟨rfl, rfl, rfl⟩
   refine wl_pure rfl rfl rfl (freshS_eq rfl) rfl ?_
   refine wl_nil ?_
   refine we_then ?_
   refine wc_keep [8, 0, 1, 2] (S' := [_,_,_,_]) rfl ?_
   refine wc_seq ?_
   refine wc_region ?_
   refine wl_pure rfl rfl rfl (freshS_eq rfl) rfl ?_
   refine wl_pure rfl rfl rfl (freshS_eq rfl) rfl ?_
   refine wl_nil ?_
   refine we_then ?_
   refine wc_keep [25, 8, 0, 1, 2] (S' := [_,_,_,_,_]) rfl ?_
   refine wc_cond rfl (fun hb25 => ?_) (fun hb25 => ?_)
   ·
    replace hm := iteT hm hb25
    refine wc_keep [8, 0] (S' := [_,_]) rfl ?_
    refine wc_seq ?_
    refine wc_region ?_
    refine wl_pure rfl rfl rfl (freshS_eq rfl) rfl ?_
    refine wl_pure rfl rfl rfl (freshS_eq rfl) rfl ?_
    refine wl_fieldAddr rfl rfl rfl (freshS_eq rfl) rfl rfl tF_60_0 ?_
    refine wl_fieldAddr rfl rfl rfl (freshS_eq rfl) rfl rfl tF_58_0 ?_
    refine wl_loadH 0 0 rfl rfl rfl (freshS_eq rfl) rfl rfl rfl (cs := [_]) rfl tS_35 tA_35 rfl rfl ?_
    refine wl_pure rfl rfl rfl (freshS_eq rfl) rfl ?_
    obtain ⟨hn32, hm⟩ := gd_some hm
    obtain ⟨x32, hx32, hm⟩ := bindO_some hm
    refine wl_indexH 1 v23.toNat rfl rfl rfl (freshS_eq rfl) rfl rfl rfl rfl (toNat_eq hn32) (get_lt hx32) tE_35 tS_42 (fun g32 eg32 => ?_)
    subst eg32
    refine wl_fieldAddr rfl rfl rfl (freshS_eq rfl) rfl rfl tF_42_0 ?_
    refine wl_loadRow R_FactD_opens 1 v23.toNat 0 rfl rfl rfl (freshS_eq rfl) rfl rfl rfl hx32 tS_3 tA_3 (v := fun r34 => .int .i64 (x32.id)) (fun _ => rfl) (fun _ => rfl) (fun r34 _ => ?_)
    refine wl_pure rfl rfl rfl (freshS_eq rfl) rfl ?_
    refine wl_pure rfl rfl rfl (freshS_eq rfl) rfl ?_
    refine wl_nil ?_
    refine we_then ?_
    refine wc_keep [7, 6] (S' := [_,_]) rfl ?_
    refine wc_ret ?_
    refine we_then_ret ?_
    have hE := (Option.some.inj hm).symm
    obtain ⟨hE0, hF1⟩ := Prod.mk.inj hE
    obtain ⟨hE1, hF2⟩ := Prod.mk.inj hF1
    obtain ⟨hE2, hE3⟩ := Prod.mk.inj hF2
    clear hE hF1 hF2
    replace hE0 := hE0.symm
    subst hE0
    replace hE1 := hE1.symm
    subst hE1
    replace hE2 := hE2.symm
    subst hE2
    replace hE3 := hE3.symm
    subst hE3
    refine ret_two (Hr := [_, _, _]) [0, 1, 2] Tryd.results15 (res_tmp rfl) (res_tmp rfl) ⟨some ⟨g32, 0, none⟩, qc3, qn2, rfl, rfl, rfl⟩ (fun _ _ hφ => ask [] rfl hφ) rfl rfl (.inl rfl)
   ·
    replace hm := iteF hm hb25
    refine wc_keep [0, 1, 2] (S' := [_,_,_]) rfl ?_
    refine wc_skip ?_
    refine we_then ?_
    refine wc_seq ?_
    refine wc_seq ?_
    obtain ⟨bj_1, hm, hLj_1⟩ := bindO_some hm
    refine wc_cut (σ := Bool) (fun j_1_48 => bj_1 = j_1_48) (fun j_1_48 => [(0, .pointer (some ⟨qg0, 0, none⟩)), (1, .int .i64 a2), (2, .slice qp4 qn5 qc6), (48, .bool j_1_48)]) (fun j_1_48 => []) (fun j_1_48 => [.blk qg0 [.slice qp1 qn2 qc3, .int .i64 a1] 60, .own 42 3 R_FactD (.slice qp1 qn2 qc3) l0, .own 55 3 R_V (.slice qp4 qn5 qc6) l3]) ?_ ?_
    ·
     refine wc_region ?_
     refine wl_pure rfl rfl rfl (freshS_eq rfl) rfl ?_
     refine wl_pure rfl rfl rfl (freshS_eq rfl) rfl ?_
     refine wl_fieldAddr rfl rfl rfl (freshS_eq rfl) rfl rfl tF_60_0 ?_
     refine wl_fieldAddr rfl rfl rfl (freshS_eq rfl) rfl rfl tF_58_0 ?_
     refine wl_loadH 0 0 rfl rfl rfl (freshS_eq rfl) rfl rfl rfl (cs := [_]) rfl tS_35 tA_35 rfl rfl ?_
     refine wl_ownLen 1 rfl (fun hl40 _ => ?_)
     refine wl_len rfl rfl rfl (freshS_eq rfl) rfl rfl tE_35 ?_
     refine wl_as (d := 40) (v' := .int .i64 ((l0.length : Nat) : Int)) (S' := [_,_,_,_,_,_,_,_]) rfl rfl (len_is hl40) ?_
     refine wl_pure rfl rfl rfl (freshS_eq rfl) rfl ?_
     refine wl_as (d := 41) (v' := .bool (decide (256 ≤ l0.length))) (S' := [_,_,_,_,_,_,_,_,_]) rfl rfl (natge (a := l0.length) (b := 256)) ?_
     refine wl_pure rfl rfl rfl (freshS_eq rfl) rfl ?_
     refine wl_split (d := 42) (S' := [_,_,_,_,_,_,_,_,_,_]) rfl rfl (fun hs42 => ?_) (fun hs42 => ?_)
     ·
      replace hm := iteT hm hs42
      refine wl_off rfl rfl rfl (freshS_eq rfl) ?_
      refine wl_off rfl rfl rfl (freshS_eq rfl) ?_
      refine wl_off rfl rfl rfl (freshS_eq rfl) ?_
      refine wl_off rfl rfl rfl (freshS_eq rfl) ?_
      refine wl_off rfl rfl rfl (freshS_eq rfl) ?_
      refine wl_pure rfl rfl rfl (freshS_eq rfl) rfl ?_
      refine wl_nil ?_
      have hE := (Option.some.inj hm).symm
      refine we_join true hE [0, 1, 2, 48] rfl (fun _ _ hφ => ask [] rfl hφ) rfl
     ·
      replace hm := iteF hm hs42
      refine wl_pure rfl rfl rfl (freshS_eq rfl) rfl ?_
      refine wl_pure rfl rfl rfl (freshS_eq rfl) rfl ?_
      refine wl_fieldAddr rfl rfl rfl (freshS_eq rfl) rfl rfl tF_60_1 ?_
      refine wl_loadH 0 1 rfl rfl rfl (freshS_eq rfl) rfl rfl rfl (cs := [_]) rfl tS_3 tA_3 rfl rfl ?_
      refine wl_pure rfl rfl rfl (freshS_eq rfl) rfl ?_
      refine wl_pure rfl rfl rfl (freshS_eq rfl) rfl ?_
      refine wl_nil ?_
      have hE := (Option.some.inj hm).symm
      refine we_join (decide (a1 > 1099511627776)) hE [0, 1, 2, 48] rfl (fun _ _ hφ => ask [] rfl hφ) rfl
    ·
     rintro j_1_48 hE
     try dsimp only
     have hm := hLj_1
     rw [hE] at hm
     refine wc_cond rfl (fun hb48 => ?_) (fun hb48 => ?_)
     ·
      replace hm := iteT hm hb48
      refine wc_keep [] (S' := []) rfl ?_
      refine wc_seq ?_
      refine wc_region ?_
      refine wl_pure rfl rfl rfl (freshS_eq rfl) rfl ?_
      refine wl_pure rfl rfl rfl (freshS_eq rfl) rfl ?_
      refine wl_nil ?_
      refine we_then ?_
      refine wc_ret ?_
      refine we_then_ret ?_
      have hE := (Option.some.inj hm).symm
      obtain ⟨hE0, hF1⟩ := Prod.mk.inj hE
      obtain ⟨hE1, hF2⟩ := Prod.mk.inj hF1
      obtain ⟨hE2, hE3⟩ := Prod.mk.inj hF2
      clear hE hF1 hF2
      replace hE0 := hE0.symm
      subst hE0
      replace hE1 := hE1.symm
      subst hE1
      replace hE2 := hE2.symm
      subst hE2
      replace hE3 := hE3.symm
      subst hE3
      refine ret_two (Hr := [_, _, _]) [0, 1, 2] Tryd.results15 (res_tmp rfl) (res_tmp rfl) ⟨qp1, qc3, qn2, rfl, rfl, rfl⟩ (fun _ _ hφ => ask [] rfl hφ) rfl rfl (.inl rfl)
     ·
      replace hm := iteF hm hb48
      refine wc_keep [0, 1, 2] (S' := [_,_,_]) rfl ?_
      refine wc_skip ?_
      refine we_then ?_
      refine wc_seq ?_
      obtain ⟨_, hc62, hm⟩ := bindO_some hm
      try dsimp only at hm
      obtain ⟨hg64, hm⟩ := gd_some hm
      refine wc_draw [0, 1, 2, 3, 4, 5, 6, 7, 8, 9, 10, 11, 12, 16, 17, 18] rfl rfl (fun hok => ?_)
      refine wx_pure hok 0 rfl rfl rfl (freshS_eq rfl) rfl rfl ?_
      refine wx_pure hok 1 rfl rfl rfl (freshS_eq rfl) rfl rfl ?_
      refine wx_pure hok 2 rfl rfl rfl (freshS_eq rfl) rfl rfl ?_
      refine wx_fieldAddr hok 3 rfl rfl rfl (freshS_eq rfl) rfl rfl rfl tF_60_0 ?_
      refine wx_fieldAddr hok 4 rfl rfl rfl (freshS_eq rfl) rfl rfl rfl tF_58_0 ?_
      refine wx_loadH hok 5 0 0 rfl rfl rfl (freshS_eq rfl) rfl rfl rfl rfl (cs := [_]) rfl tS_35 tA_35 rfl rfl ?_
      refine wx_pure hok 6 rfl rfl rfl (freshS_eq rfl) rfl rfl ?_
      refine wx_pure hok 7 rfl rfl rfl (freshS_eq rfl) rfl rfl ?_
      refine wx_fieldAddr hok 8 rfl rfl rfl (freshS_eq rfl) rfl rfl rfl tF_60_1 ?_
      refine wx_loadH hok 9 0 1 rfl rfl rfl (freshS_eq rfl) rfl rfl rfl rfl (cs := [_]) rfl tS_3 tA_3 rfl rfl ?_
      refine wx_pure hok 10 rfl rfl rfl (freshS_eq rfl) rfl rfl ?_
      refine wx_pure hok 11 rfl rfl rfl (freshS_eq rfl) rfl rfl ?_
      refine wx_build hok 12 rfl rfl rfl (freshS_eq rfl) rfl rfl tZ_42 tP_42 rfl (out := [_,_,_]) rfl ?_
      refine wx_step1 hok 13 rfl rfl rfl rfl ?_
      refine wl_call [2] [0, 1] rfl rfl rfl (freshS_eq rfl) rfl rfl fn_25 rfl (w_memory_own_s N a1 a2 qp4 qn5 qc6 l3 hc62) (fun _ _ hφ => ask [] rfl hφ) rfl (H' := [_,_]) rfl ?_
      rintro _ _ _ ⟨p62_0, c62_1, rfl, rfl, rfl⟩
      refine wl_nil ?_
      refine we_x [] [2, 2] rfl rfl ?_
      refine wx_step1 hok 14 rfl rfl rfl rfl ?_
      refine wl_buildSlice rfl rfl rfl (freshS_eq rfl) rfl tE_35 tS_42 tZ_42 rfl (zs := [.int .i64 0, .int .i64 0, .slice none 0 0]) (by kernel_rfl) rfl (out := [_,_,_]) rfl (fun g63 => ?_)
      refine wl_nil ?_
      refine we_x [] [3, 3] rfl rfl ?_
      refine wx_step1 hok 15 rfl rfl rfl rfl ?_
      refine wl_ownLen 1 rfl (fun hzqn5 _ => ?_)
      subst hzqn5
      refine wl_freeze 1 rfl (H' := [_,_,_,_]) rfl ?_
      refine wl_fact (.sli 3 R_V p62_0 c62_1 l3) (fun F w hφ => own_sli (hφ _ (mem_at (k := 0) rfl))) ?_
      refine wl_appendH ([(⟨a1, a2, l3⟩ : FactD)]) 3 0 rfl rfl rfl (freshS_eq rfl) rfl rfl rfl rfl rfl (fun F w hφ => ⟨[.int .i64 a1, .int .i64 a2, .slice p62_0 l3.length c62_1], [], rfl, rfl, ⟨(p62_0, c62_1), rfl, (ask_cons (hφ _ (mem_at (k := 0) rfl)) ask_nil)⟩, rfl⟩) tE_35 tR_42 rfl rfl (Nat.le_trans hg64 (by decide)) (Nat.le_trans (Nat.mul_le_mul_right _ hg64) (by decide)) (H2 := fun p64 c64 => [.blk g63 [.int .i64 a1, .int .i64 a2, .slice p62_0 l3.length c62_1] 42, .own 55 3 R_V (.slice qp4 l3.length qc6) l3, .blk qg0 [.slice qp1 qn2 qc3, .int .i64 a1] 60, .own 42 3 R_FactD (.slice p64 ((l0 ++ ([(⟨a1, a2, l3⟩ : FactD)])).length) c64) (l0 ++ ([(⟨a1, a2, l3⟩ : FactD)]))]) (fun _ _ => rfl) (fun p64 c64 => ?_)
      refine wl_drop 0 rfl (H' := [_,_,_]) rfl ?_
      refine wl_nil ?_
      refine we_x [] [1] rfl rfl ?_
      refine wx_pure hok 16 rfl rfl rfl (freshS_eq rfl) rfl rfl ?_
      refine wx_fieldAddr hok 17 rfl rfl rfl (freshS_eq rfl) rfl rfl rfl tF_60_0 ?_
      refine wx_fieldAddr hok 18 rfl rfl rfl (freshS_eq rfl) rfl rfl rfl tF_58_0 ?_
      refine wx_step1 hok 19 rfl rfl rfl rfl ?_
      refine wl_store 1 0 rfl rfl rfl rfl rfl rfl rfl tS_35 rfl rfl rfl (all' := [_,_]) rfl (H' := [_,_,_]) rfl ?_
      refine wl_nil ?_
      refine we_x [0, 1] [] rfl rfl ?_
      refine wx_done hok rfl ?_
      refine we_then ?_
      refine wc_keep [0] (S' := [_]) rfl ?_
      refine wc_seq ?_
      refine wc_region ?_
      refine wl_pure rfl rfl rfl (freshS_eq rfl) rfl ?_
      refine wl_pure rfl rfl rfl (freshS_eq rfl) rfl ?_
      refine wl_fieldAddr rfl rfl rfl (freshS_eq rfl) rfl rfl tF_60_1 ?_
      refine wl_loadH 1 1 rfl rfl rfl (freshS_eq rfl) rfl rfl rfl (cs := [_]) rfl tS_3 tA_3 rfl rfl ?_
      refine wl_pure rfl rfl rfl (freshS_eq rfl) rfl ?_
      obtain ⟨hg72, hm⟩ := gd_some hm
      refine wl_as (d := 72) (v' := .int .i64 (a1 + 1)) (S' := [_,_,_,_,_]) rfl rfl (i64_in hg72) ?_
      refine wl_pure rfl rfl rfl (freshS_eq rfl) rfl ?_
      refine wl_fieldAddr rfl rfl rfl (freshS_eq rfl) rfl rfl tF_60_1 ?_
      refine wl_store 1 1 rfl rfl rfl rfl rfl rfl rfl tS_3 rfl rfl rfl (all' := [_,_]) rfl (H' := [_,_,_]) rfl ?_
      refine wl_nil ?_
      refine we_then ?_
      refine wc_keep [0] (S' := [_]) rfl ?_
      refine wc_seq ?_
      refine wc_region ?_
      refine wl_pure rfl rfl rfl (freshS_eq rfl) rfl ?_
      refine wl_pure rfl rfl rfl (freshS_eq rfl) rfl ?_
      refine wl_fieldAddr rfl rfl rfl (freshS_eq rfl) rfl rfl tF_60_1 ?_
      refine wl_loadH 1 1 rfl rfl rfl (freshS_eq rfl) rfl rfl rfl (cs := [_]) rfl tS_3 tA_3 rfl rfl ?_
      refine wl_pure rfl rfl rfl (freshS_eq rfl) rfl ?_
      obtain ⟨hg79, hm⟩ := gd_some hm
      refine wl_as (d := 79) (v' := .int .i64 ((a1 + 1) - 1)) (S' := [_,_,_,_,_]) rfl rfl (i64_in hg79) ?_
      refine wl_pure rfl rfl rfl (freshS_eq rfl) rfl ?_
      refine wl_pure rfl rfl rfl (freshS_eq rfl) rfl ?_
      refine wl_nil ?_
      refine we_then ?_
      refine wc_keep [7, 6] (S' := [_,_]) rfl ?_
      refine wc_ret ?_
      have hE := (Option.some.inj hm).symm
      obtain ⟨hE0, hF1⟩ := Prod.mk.inj hE
      obtain ⟨hE1, hF2⟩ := Prod.mk.inj hF1
      obtain ⟨hE2, hE3⟩ := Prod.mk.inj hF2
      clear hE hF1 hF2
      replace hE0 := hE0.symm
      subst hE0
      replace hE1 := hE1.symm
      subst hE1
      replace hE2 := hE2.symm
      subst hE2
      replace hE3 := hE3.symm
      subst hE3
      refine ret_two (Hr := [_, _, _]) [1, 2, 0] Tryd.results15 (res_tmp rfl) (res_tmp rfl) ⟨p64, c64, (l0 ++ ([(⟨a1, a2, l3⟩ : FactD)])).length, rfl, rfl, rfl⟩ (fun _ _ hφ => ask [] rfl hφ) rfl rfl (.inl rfl)
set_option maxRecDepth 100000 in
set_option maxHeartbeats 4000000 in
theorem w_cmp_isNaN_int_s (N : Nat) (a0 : Int)  (hm : m_cmp_isNaN_int N a0 = some ()) : Spec Tryd.prog 43 [.int .i64 a0] [] [] (fun v Φr Hr => v = .bool (a0 != a0) ∧ Φr = [] ∧ Hr = []) := by
 unfold m_cmp_isNaN_int at hm
 refine spec_of Tryd.func43 rfl Tryd.ntmps43 rfl (S := [_]) rfl (fun C => ?_)
 refine wc_seq ?_
 refine wc_region ?_
 refine wl_pure rfl rfl rfl (freshS_eq rfl) rfl ?_
 refine wl_nil ?_
 refine we_then ?_
 refine wc_keep [0] (S' := [_]) rfl ?_
 refine wc_seq ?_
 refine wc_region ?_
 refine wl_pure rfl rfl rfl (freshS_eq rfl) rfl ?_
 refine wl_pure rfl rfl rfl (freshS_eq rfl) rfl ?_
 refine wl_pure rfl rfl rfl (freshS_eq rfl) rfl ?_
 refine wl_pure rfl rfl rfl (freshS_eq rfl) rfl ?_
 refine wl_nil ?_
 refine we_then ?_
 refine wc_keep [2] (S' := [_]) rfl ?_
 refine wc_ret ?_
 have hE := (Option.some.inj hm).symm
 refine ret_one (Hr := []) [] Tryd.results43 (res_tmp rfl) ⟨rfl, rfl, rfl⟩ (fun _ _ hφ => ask [] rfl hφ) rfl rfl (.inl rfl)
set_option maxRecDepth 100000 in
set_option maxHeartbeats 4000000 in
theorem w_cmp_Compare_int_s (N : Nat) (a0 : Int) (a1 : Int) (o0 : Int) (hm : m_cmp_Compare_int N a0 a1 = some o0) : Spec Tryd.prog 40 [.int .i64 a0, .int .i64 a1] [] [] (fun v Φr Hr => v = .int .i64 o0 ∧ Φr = [] ∧ Hr = []) := by
 unfold m_cmp_Compare_int at hm
 refine spec_of Tryd.func40 rfl Tryd.ntmps40 rfl (S := [_,_]) rfl (fun C => ?_)
 refine wc_seq ?_
 refine wc_region ?_
 refine wl_pure rfl rfl rfl (freshS_eq rfl) rfl ?_
 refine wl_nil ?_
 refine we_then ?_
 refine wc_keep [0, 1] (S' := [_,_]) rfl ?_
 refine wc_seq ?_
 refine wc_region ?_
 refine wl_pure rfl rfl rfl (freshS_eq rfl) rfl ?_
 obtain ⟨_, hc8, hm⟩ := bindO_some hm
 try dsimp only at hm
 refine wl_call [] [] rfl rfl rfl (freshS_eq rfl) rfl rfl fn_43 rfl (w_cmp_isNaN_int_s N a0 hc8) (fun _ _ hφ => ask [] rfl hφ) rfl (H' := []) rfl ?_
 rintro _ _ _ ⟨rfl, rfl, rfl⟩
 refine wl_pure rfl rfl rfl (freshS_eq rfl) rfl ?_
 refine wl_nil ?_
 refine we_then ?_
 refine wc_keep [5, 0, 1] (S' := [_,_,_]) rfl ?_
 refine wc_seq ?_
 refine wc_region ?_
 refine wl_pure rfl rfl rfl (freshS_eq rfl) rfl ?_
 obtain ⟨_, hc10, hm⟩ := bindO_some hm
 try dsimp only at hm
 refine wl_call [] [] rfl rfl rfl (freshS_eq rfl) rfl rfl fn_43 rfl (w_cmp_isNaN_int_s N a1 hc10) (fun _ _ hφ => ask [] rfl hφ) rfl (H' := []) rfl ?_
 rintro _ _ _ ⟨rfl, rfl, rfl⟩
 refine wl_pure rfl rfl rfl (freshS_eq rfl) rfl ?_
 refine wl_nil ?_
 refine we_then ?_
 refine wc_keep [6, 5, 0, 1] (S' := [_,_,_,_]) rfl ?_
 refine wc_seq ?_
 refine wc_seq ?_
 refine wc_region ?_
 refine wl_pure rfl rfl rfl (freshS_eq rfl) rfl ?_
 refine wl_nil ?_
 refine we_then ?_
 refine wc_keep [11, 6, 0, 1] (S' := [_,_,_,_]) rfl ?_
 refine wc_cond rfl (fun hb11 => ?_) (fun hb11 => ?_)
 ·
  replace hm := iteT hm hb11
  refine wc_keep [6] (S' := [_]) rfl ?_
  refine wc_seq ?_
  refine wc_seq ?_
  refine wc_region ?_
  refine wl_pure rfl rfl rfl (freshS_eq rfl) rfl ?_
  refine wl_nil ?_
  refine we_then ?_
  refine wc_keep [12] (S' := [_]) rfl ?_
  refine wc_cond rfl (fun hb12 => ?_) (fun hb12 => ?_)
  ·
   replace hm := iteT hm hb12
   refine wc_keep [] (S' := []) rfl ?_
   refine wc_seq ?_
   refine wc_region ?_
   refine wl_pure rfl rfl rfl (freshS_eq rfl) rfl ?_
   refine wl_nil ?_
   refine we_then ?_
   refine wc_ret ?_
   refine we_then_ret ?_
   refine we_then_ret ?_
   have hE := (Option.some.inj hm).symm
   replace hE := hE.symm
   subst hE
   refine ret_one (Hr := []) [] Tryd.results40 (res_tmp rfl) ⟨rfl, rfl, rfl⟩ (fun _ _ hφ => ask [] rfl hφ) rfl rfl (.inl rfl)
  ·
   replace hm := iteF hm hb12
   refine wc_keep [] (S' := []) rfl ?_
   refine wc_skip ?_
   refine we_then ?_
   refine wc_seq ?_
   refine wc_region ?_
   refine wl_pure rfl rfl rfl (freshS_eq rfl) rfl ?_
   refine wl_nil ?_
   refine we_then ?_
   refine wc_ret ?_
   refine we_then_ret ?_
   have hE := (Option.some.inj hm).symm
   replace hE := hE.symm
   subst hE
   refine ret_one (Hr := []) [] Tryd.results40 (res_tmp rfl) ⟨rfl, rfl, rfl⟩ (fun _ _ hφ => ask [] rfl hφ) rfl rfl (.inl rfl)
 ·
  replace hm := iteF hm hb11
  refine wc_keep [6, 0, 1] (S' := [_,_,_]) rfl ?_
  refine wc_skip ?_
  refine we_then ?_
  refine wc_seq ?_
  refine wc_seq ?_
  refine wc_region ?_
  refine wl_pure rfl rfl rfl (freshS_eq rfl) rfl ?_
  refine wl_nil ?_
  refine we_then ?_
  refine wc_keep [13, 0, 1] (S' := [_,_,_]) rfl ?_
  refine wc_cond rfl (fun hb13 => ?_) (fun hb13 => ?_)
  ·
   replace hm := iteT hm hb13
   refine wc_keep [] (S' := []) rfl ?_
   refine wc_seq ?_
   refine wc_region ?_
   refine wl_pure rfl rfl rfl (freshS_eq rfl) rfl ?_
   refine wl_nil ?_
   refine we_then ?_
   refine wc_ret ?_
   refine we_then_ret ?_
   have hE := (Option.some.inj hm).symm
   replace hE := hE.symm
   subst hE
   refine ret_one (Hr := []) [] Tryd.results40 (res_tmp rfl) ⟨rfl, rfl, rfl⟩ (fun _ _ hφ => ask [] rfl hφ) rfl rfl (.inl rfl)
  ·
   replace hm := iteF hm hb13
   refine wc_keep [0, 1] (S' := [_,_]) rfl ?_
   refine wc_skip ?_
   refine we_then ?_
   refine wc_seq ?_
   refine wc_seq ?_
   refine wc_region ?_
   refine wl_pure rfl rfl rfl (freshS_eq rfl) rfl ?_
   refine wl_pure rfl rfl rfl (freshS_eq rfl) rfl ?_
   refine wl_pure rfl rfl rfl (freshS_eq rfl) rfl ?_
   refine wl_nil ?_
   refine we_then ?_
   refine wc_keep [16, 0, 1] (S' := [_,_,_]) rfl ?_
   refine wc_cond rfl (fun hb16 => ?_) (fun hb16 => ?_)
   ·
    replace hm := iteT hm hb16
    refine wc_keep [] (S' := []) rfl ?_
    refine wc_seq ?_
    refine wc_region ?_
    refine wl_pure rfl rfl rfl (freshS_eq rfl) rfl ?_
    refine wl_nil ?_
    refine we_then ?_
    refine wc_ret ?_
    refine we_then_ret ?_
    have hE := (Option.some.inj hm).symm
    replace hE := hE.symm
    subst hE
    refine ret_one (Hr := []) [] Tryd.results40 (res_tmp rfl) ⟨rfl, rfl, rfl⟩ (fun _ _ hφ => ask [] rfl hφ) rfl rfl (.inl rfl)
   ·
    replace hm := iteF hm hb16
    refine wc_keep [0, 1] (S' := [_,_]) rfl ?_
    refine wc_skip ?_
    refine we_then ?_
    refine wc_seq ?_
    refine wc_seq ?_
    refine wc_region ?_
    refine wl_pure rfl rfl rfl (freshS_eq rfl) rfl ?_
    refine wl_pure rfl rfl rfl (freshS_eq rfl) rfl ?_
    refine wl_pure rfl rfl rfl (freshS_eq rfl) rfl ?_
    refine wl_nil ?_
    refine we_then ?_
    refine wc_keep [19] (S' := [_]) rfl ?_
    refine wc_cond rfl (fun hb19 => ?_) (fun hb19 => ?_)
    ·
     replace hm := iteT hm hb19
     refine wc_keep [] (S' := []) rfl ?_
     refine wc_seq ?_
     refine wc_region ?_
     refine wl_pure rfl rfl rfl (freshS_eq rfl) rfl ?_
     refine wl_nil ?_
     refine we_then ?_
     refine wc_ret ?_
     refine we_then_ret ?_
     have hE := (Option.some.inj hm).symm
     replace hE := hE.symm
     subst hE
     refine ret_one (Hr := []) [] Tryd.results40 (res_tmp rfl) ⟨rfl, rfl, rfl⟩ (fun _ _ hφ => ask [] rfl hφ) rfl rfl (.inl rfl)
    ·
     replace hm := iteF hm hb19
     refine wc_keep [] (S' := []) rfl ?_
     refine wc_skip ?_
     refine we_then ?_
     refine wc_seq ?_
     refine wc_region ?_
     refine wl_pure rfl rfl rfl (freshS_eq rfl) rfl ?_
     refine wl_nil ?_
     refine we_then ?_
     refine wc_ret ?_
     have hE := (Option.some.inj hm).symm
     replace hE := hE.symm
     subst hE
     refine ret_one (Hr := []) [] Tryd.results40 (res_tmp rfl) ⟨rfl, rfl, rfl⟩ (fun _ _ hφ => ask [] rfl hφ) rfl rfl (.inl rfl)
set_option maxRecDepth 100000 in
set_option maxHeartbeats 4000000 in
theorem w_memory_row_at_1_s (N : Nat) (a0 : Int) (a1 : Int) (qp0 : Option Addr) (qc1 : Nat) (l2 : List V) (a3 : Int) (o0 : Int) (hm : m_memory_row_at_1 N a0 a1 l2 a3 = some o0) : Spec Tryd.prog 39 [.agg #[.int .i64 a0, .int .i64 a1, .slice qp0 l2.length qc1], .int .i64 a3] [.sli 3 R_V qp0 qc1 l2] [] (fun v Φr Hr => v = .int .i64 o0 ∧ Φr = [] ∧ Hr = []) := by
 unfold m_memory_row_at_1 at hm
 refine spec_of Tryd.func39 rfl Tryd.ntmps39 rfl (S := [_,_]) rfl (fun C => ?_)
 refine wc_seq ?_
 refine wc_region ?_
 refine wl_box rfl rfl rfl (freshS_eq rfl) rfl rfl rfl (fun g2 => ?_)
 refine wl_pure rfl rfl rfl (freshS_eq rfl) rfl ?_
 refine wl_nil ?_
 refine we_then ?_
 refine wc_keep [2, 1] (S' := [_,_]) rfl ?_
 refine wc_seq ?_
 refine wc_region ?_
 refine wl_fieldAddr rfl rfl rfl (freshS_eq rfl) rfl rfl tF_42_0 ?_
 refine wl_loadH 0 0 rfl rfl rfl (freshS_eq rfl) rfl rfl rfl (cs := [_]) rfl tS_3 tA_3 rfl rfl ?_
 refine wl_pure rfl rfl rfl (freshS_eq rfl) rfl ?_
 obtain ⟨v8, hc8, hm⟩ := bindO_some hm
 refine wl_call [] [0] rfl rfl rfl (freshS_eq rfl) rfl rfl fn_40 rfl (w_cmp_Compare_int_s N a0 a3 _ hc8) (fun _ _ hφ => ask [] rfl hφ) rfl (H' := [_]) rfl ?_
 rintro _ _ _ ⟨rfl, rfl, rfl⟩
 refine wl_pure rfl rfl rfl (freshS_eq rfl) rfl ?_
 refine wl_nil ?_
 refine we_then ?_
 refine wc_keep [4] (S' := [_]) rfl ?_
 refine wc_ret ?_
 have hE := (Option.some.inj hm).symm
 replace hE := hE.symm
 subst hE
 refine ret_one (Hr := []) [] Tryd.results39 (res_tmp rfl) ⟨rfl, rfl, rfl⟩ (fun _ _ hφ => ask [] rfl hφ) rfl rfl (.inl rfl)
set_option maxRecDepth 100000 in
set_option maxHeartbeats 4000000 in
theorem w_slices_BinarySearchFunc_int_s (N : Nat) (qp0 : Option Addr) (qn1 : Nat) (qc2 : Nat) (l0 : List FactD) (a1 : Int) (o0 : Int) (o1 : Bool) (hm : m_slices_BinarySearchFunc_int N l0 a1 = some (o0, o1)) : Spec Tryd.prog 38 [.slice qp0 qn1 qc2, .int .i64 a1, .func (.func 39) #[] #[]] [] [.own 42 3 R_FactD (.slice qp0 qn1 qc2) l0] (fun v Φr Hr => v = .tuple #[.int .i64 o0, .bool o1] ∧ Φr = [] ∧ Hr = [.own 42 3 R_FactD (.slice qp0 qn1 qc2) l0]) := by
 unfold m_slices_BinarySearchFunc_int at hm
 refine spec_of Tryd.func38 rfl Tryd.ntmps38 rfl (S := [_,_,_]) rfl (fun C => ?_)
 refine wc_seq ?_
 refine wc_region ?_
 refine wl_pure rfl rfl rfl (freshS_eq rfl) rfl ?_
 refine wl_pure rfl rfl rfl (freshS_eq rfl) rfl ?_
 refine wl_nil ?_
 refine we_then ?_
 refine wc_keep [0, 1, 2] (S' := [_,_,_]) rfl ?_
 refine wc_seq ?_
 refine wc_region ?_
 refine wl_pure rfl rfl rfl (freshS_eq rfl) rfl ?_
 refine wl_ownLen 0 rfl (fun hl13 _ => ?_)
 refine wl_len rfl rfl rfl (freshS_eq rfl) rfl rfl tE_35 ?_
 refine wl_as (d := 13) (v' := .int .i64 ((l0.length : Nat) : Int)) (S' := [_,_,_,_]) rfl rfl (len_is hl13) ?_
 refine wl_pure rfl rfl rfl (freshS_eq rfl) rfl ?_
 refine wl_nil ?_
 refine we_then ?_
 refine wc_keep [8, 0, 1, 2] (S' := [_,_,_,_]) rfl ?_
 refine wc_seq ?_
 refine wc_region ?_
 refine wl_pure rfl rfl rfl (freshS_eq rfl) rfl ?_
 refine wl_pure rfl rfl rfl (freshS_eq rfl) rfl ?_
 refine wl_pure rfl rfl rfl (freshS_eq rfl) rfl ?_
 refine wl_nil ?_
 refine we_then ?_
 refine wc_keep [10, 9, 8, 0, 1, 2] (S' := [_,_,_,_,_,_]) rfl ?_
 refine wc_seq ?_
 obtain ⟨bj_1, hm, hLj_1⟩ := bindO_some hm
 refine wc_cut (σ := Int) (fun j_1_9 => bj_1 = j_1_9) (fun j_1_9 => [(9, .int .i64 j_1_9), (8, .int .i64 ((l0.length : Nat) : Int)), (0, .slice qp0 qn1 qc2), (1, .int .i64 a1), (2, .func (.func 39) #[] #[])]) (fun j_1_9 => []) (fun j_1_9 => [.own 42 3 R_FactD (.slice qp0 qn1 qc2) l0]) ?_ ?_
 ·
  refine wc_block ?_
  refine wc_loop (σ := Nat × Int × Int) (fun (nu1, u1_10, u1_9) => iter (m_slices_BinarySearchFunc_int_L1 N l0 a1) nu1 (u1_10, u1_9) = some bj_1) (fun (nu1, u1_10, u1_9) => nu1) (fun (nu1, u1_10, u1_9) => [(10, .int .i64 u1_10), (9, .int .i64 u1_9), (8, .int .i64 ((l0.length : Nat) : Int)), (0, .slice qp0 qn1 qc2), (1, .int .i64 a1), (2, .func (.func 39) #[] #[])]) (fun (nu1, u1_10, u1_9) => []) (fun (nu1, u1_10, u1_9) => [.own 42 3 R_FactD (.slice qp0 qn1 qc2) l0]) (N, ((l0.length : Nat) : Int), 0) hm [10, 9, 8, 0, 1, 2] rfl (fun _ _ hφ => ask [] rfl hφ) rfl (fun s_ hm => ?_)
  obtain ⟨nu1, u1_10, u1_9⟩ := s_
  try dsimp only at hm ⊢
  obtain ⟨mu1, bu1, hnu1, hq, hLu1⟩ := iter_some hm
  clear hm
  subst hnu1
  replace hm := hq
  clear hq
  unfold m_slices_BinarySearchFunc_int_L1 at hm
  try dsimp only at hm
  refine wc_seq ?_
  refine wc_seq ?_
  refine wc_region ?_
  refine wl_pure rfl rfl rfl (freshS_eq rfl) rfl ?_
  refine wl_pure rfl rfl rfl (freshS_eq rfl) rfl ?_
  refine wl_pure rfl rfl rfl (freshS_eq rfl) rfl ?_
  refine wl_nil ?_
  refine we_then ?_
  refine wc_keep [17, 10, 9, 8, 0, 1, 2] (S' := [_,_,_,_,_,_,_]) rfl ?_
  refine wc_cond rfl (fun hb17 => ?_) (fun hb17 => ?_)
  ·
   replace hm := iteT hm hb17
   refine wc_keep [10, 9, 8, 0, 1, 2] (S' := [_,_,_,_,_,_]) rfl ?_
   refine wc_skip ?_
   refine we_then ?_
   refine wc_block ?_
   refine wc_seq ?_
   refine wc_region ?_
   refine wl_pure rfl rfl rfl (freshS_eq rfl) rfl ?_
   refine wl_pure rfl rfl rfl (freshS_eq rfl) rfl ?_
   refine wl_pure rfl rfl rfl (freshS_eq rfl) rfl ?_
   obtain ⟨hg20, hm⟩ := gd_some hm
   refine wl_as (d := 20) (v' := .int .i64 (u1_9 + u1_10)) (S' := [_,_,_,_,_,_,_,_]) rfl rfl (i64_in hg20) ?_
   refine wl_reck rfl rfl rfl (freshS_eq rfl) (rk_conv rfl rfl tI_3 tI_75) ?_
   refine wl_bin rfl rfl rfl (freshS_eq rfl) rfl rfl rfl (run_shr (by decide)) ?_
   refine wl_reck rfl rfl rfl (freshS_eq rfl) (rk_conv rfl rfl tI_75 tI_3) ?_
   refine wl_pure rfl rfl rfl (freshS_eq rfl) rfl ?_
   refine wl_nil ?_
   refine we_then ?_
   refine wc_keep [11, 10, 9, 8, 0, 1, 2] (S' := [_,_,_,_,_,_,_]) rfl ?_
   refine wc_seq ?_
   refine wc_region ?_
   refine wl_pure rfl rfl rfl (freshS_eq rfl) rfl ?_
   refine wl_pure rfl rfl rfl (freshS_eq rfl) rfl ?_
   refine wl_pure rfl rfl rfl (freshS_eq rfl) rfl ?_
   obtain ⟨hn27, hm⟩ := gd_some hm
   obtain ⟨x27, hx27, hm⟩ := bindO_some hm
   refine wl_indexH 0 ((IntKind.wrap .i64 (Int.fdiv (IntKind.wrap .u64 (u1_9 + u1_10)) (2 ^ (1)))).toNat) rfl rfl rfl (freshS_eq rfl) rfl rfl rfl rfl (toNat_eq hn27) (get_lt hx27) tE_35 tS_42 (fun g27 eg27 => ?_)
   subst eg27
   refine wl_loadRow R_FactD_opens 0 ((IntKind.wrap .i64 (Int.fdiv (IntKind.wrap .u64 (u1_9 + u1_10)) (2 ^ (1)))).toNat) 0 rfl rfl rfl (freshS_eq rfl) rfl rfl rfl hx27 tS_42 tA_42 (v := fun r28 => .agg #[.int .i64 (x27.id), .int .i64 (x27.ty), .slice r28.1 x27.args.length r28.2]) (fun _ => rfl) (fun _ => rfl) (fun r28 _ => ?_)
   refine wl_pure rfl rfl rfl (freshS_eq rfl) rfl ?_
   obtain ⟨v30, hc30, hm⟩ := bindO_some hm
   refine wl_callDyn [] [0] rfl rfl rfl (freshS_eq rfl) rfl rfl rfl fn_39 rfl rfl (w_memory_row_at_1_s N x27.id x27.ty r28.1 r28.2 x27.args a1 _ hc30) (fun _ _ hφ => ask [0] rfl hφ) rfl (H' := [_]) rfl ?_
   rintro _ _ _ ⟨rfl, rfl, rfl⟩
   refine wl_pure rfl rfl rfl (freshS_eq rfl) rfl ?_
   refine wl_nil ?_
   refine we_then ?_
   refine wc_keep [31, 11, 10, 9, 8, 0, 1, 2] (S' := [_,_,_,_,_,_,_,_]) rfl ?_
   refine wc_cond rfl (fun hb31 => ?_) (fun hb31 => ?_)
   ·
    replace hm := iteT hm hb31
    refine wc_keep [11, 10, 8, 0, 1, 2] (S' := [_,_,_,_,_,_]) rfl ?_
    refine wc_region ?_
    refine wl_pure rfl rfl rfl (freshS_eq rfl) rfl ?_
    refine wl_pure rfl rfl rfl (freshS_eq rfl) rfl ?_
    obtain ⟨hg33, hm⟩ := gd_some hm
    refine wl_as (d := 33) (v' := .int .i64 ((IntKind.wrap .i64 (Int.fdiv (IntKind.wrap .u64 (u1_9 + u1_10)) (2 ^ (1)))) + 1)) (S' := [_,_,_,_,_,_,_]) rfl rfl (i64_in hg33) ?_
    refine wl_pure rfl rfl rfl (freshS_eq rfl) rfl ?_
    refine wl_nil ?_
    refine we_block_normal ?_
    have hE := (Option.some.inj hm).symm
    replace hE := link_inl hLu1 hE
    refine we_roundK (_, u1_10, (IntKind.wrap .i64 (Int.fdiv (IntKind.wrap .u64 (u1_9 + u1_10)) (2 ^ (1)))) + 1) (Nat.lt_succ_self _) hE [10, 9, 8, 0, 1, 2] rfl (fun _ _ hφ => ask [] rfl hφ) rfl
   ·
    replace hm := iteF hm hb31
    refine wc_keep [11, 9, 8, 0, 1, 2] (S' := [_,_,_,_,_,_]) rfl ?_
    refine wc_region ?_
    refine wl_pure rfl rfl rfl (freshS_eq rfl) rfl ?_
    refine wl_pure rfl rfl rfl (freshS_eq rfl) rfl ?_
    refine wl_nil ?_
    refine we_block_normal ?_
    have hE := (Option.some.inj hm).symm
    replace hE := link_inl hLu1 hE
    refine we_roundK (_, IntKind.wrap .i64 (Int.fdiv (IntKind.wrap .u64 (u1_9 + u1_10)) (2 ^ (1))), u1_9) (Nat.lt_succ_self _) hE [10, 9, 8, 0, 1, 2] rfl (fun _ _ hφ => ask [] rfl hφ) rfl
  ·
   replace hm := iteF hm hb17
   refine wc_keep [9, 8, 0, 1, 2] (S' := [_,_,_,_,_]) rfl ?_
   refine wc_exit ?_
   refine we_then_exit ?_
   refine we_then_exit ?_
   refine we_block_hit ?_
   have hE := (Option.some.inj hm).symm
   replace hE := link_inr hLu1 hE
   refine we_join u1_9 hE [9, 8, 0, 1, 2] rfl (fun _ _ hφ => ask [] rfl hφ) rfl
 ·
  rintro j_1_9 hE
  try dsimp only
  have hm := hLj_1
  rw [hE] at hm
  refine wc_seq ?_
  refine wc_region ?_
  refine wl_pure rfl rfl rfl (freshS_eq rfl) rfl ?_
  refine wl_pure rfl rfl rfl (freshS_eq rfl) rfl ?_
  refine wl_pure rfl rfl rfl (freshS_eq rfl) rfl ?_
  refine wl_pure rfl rfl rfl (freshS_eq rfl) rfl ?_
  refine wl_pure rfl rfl rfl (freshS_eq rfl) rfl ?_
  refine wl_split (d := 39) (S' := [_,_,_,_,_,_,_,_,_]) rfl rfl (fun hs39 => ?_) (fun hs39 => ?_)
  ·
   replace hm := iteT hm hs39
   refine wl_pure rfl rfl rfl (freshS_eq rfl) rfl ?_
   refine wl_pure rfl rfl rfl (freshS_eq rfl) rfl ?_
   refine wl_pure rfl rfl rfl (freshS_eq rfl) rfl ?_
   obtain ⟨hn43, hm⟩ := gd_some hm
   obtain ⟨x43, hx43, hm⟩ := bindO_some hm
   refine wl_indexH 0 j_1_9.toNat rfl rfl rfl (freshS_eq rfl) rfl rfl rfl rfl (toNat_eq hn43) (get_lt hx43) tE_35 tS_42 (fun g43 eg43 => ?_)
   subst eg43
   refine wl_loadRow R_FactD_opens 0 j_1_9.toNat 0 rfl rfl rfl (freshS_eq rfl) rfl rfl rfl hx43 tS_42 tA_42 (v := fun r44 => .agg #[.int .i64 (x43.id), .int .i64 (x43.ty), .slice r44.1 x43.args.length r44.2]) (fun _ => rfl) (fun _ => rfl) (fun r44 _ => ?_)
   refine wl_pure rfl rfl rfl (freshS_eq rfl) rfl ?_
   obtain ⟨v46, hc46, hm⟩ := bindO_some hm
   refine wl_callDyn [] [0] rfl rfl rfl (freshS_eq rfl) rfl rfl rfl fn_39 rfl rfl (w_memory_row_at_1_s N x43.id x43.ty r44.1 r44.2 x43.args a1 _ hc46) (fun _ _ hφ => ask [0] rfl hφ) rfl (H' := [_]) rfl ?_
   rintro _ _ _ ⟨rfl, rfl, rfl⟩
   refine wl_pure rfl rfl rfl (freshS_eq rfl) rfl ?_
   refine wl_pure rfl rfl rfl (freshS_eq rfl) rfl ?_
   refine wl_pure rfl rfl rfl (freshS_eq rfl) rfl ?_
   refine wl_pure rfl rfl rfl (freshS_eq rfl) rfl ?_
   refine wl_nil ?_
   refine we_then ?_
   refine wc_keep [7, 6] (S' := [_,_]) rfl ?_
   refine wc_ret ?_
   have hE := (Option.some.inj hm).symm
   obtain ⟨hE0, hE1⟩ := Prod.mk.inj hE
   clear hE
   replace hE0 := hE0.symm
   subst hE0
   replace hE1 := hE1.symm
   subst hE1
   refine ret_two (Hr := [_]) [0] Tryd.results38 (res_tmp rfl) (res_tmp rfl) ⟨rfl, rfl, rfl⟩ (fun _ _ hφ => ask [] rfl hφ) rfl rfl (.inl rfl)
  ·
   replace hm := iteF hm hs39
   refine wl_off rfl rfl rfl (freshS_eq rfl) ?_
   refine wl_off rfl rfl rfl (freshS_eq rfl) ?_
   refine wl_off rfl rfl rfl (freshS_eq rfl) ?_
   refine wl_off rfl rfl rfl (freshS_eq rfl) ?_
   refine wl_off rfl rfl rfl (freshS_eq rfl) ?_
   refine wl_off rfl rfl rfl (freshS_eq rfl) ?_
   refine wl_off rfl rfl rfl (freshS_eq rfl) ?_
   refine wl_off rfl rfl rfl (freshS_eq rfl) ?_
   refine wl_pure rfl rfl rfl (freshS_eq rfl) rfl ?_
   refine wl_pure rfl rfl rfl (freshS_eq rfl) rfl ?_
   refine wl_pure rfl rfl rfl (freshS_eq rfl) rfl ?_
   refine wl_nil ?_
   refine we_then ?_
   refine wc_keep [7, 6] (S' := [_,_]) rfl ?_
   refine wc_ret ?_
   have hE := (Option.some.inj hm).symm
   obtain ⟨hE0, hE1⟩ := Prod.mk.inj hE
   clear hE
   replace hE0 := hE0.symm
   subst hE0
   replace hE1 := hE1.symm
   subst hE1
   refine ret_two (Hr := [_]) [0] Tryd.results38 (res_tmp rfl) (res_tmp rfl) ⟨rfl, rfl, rfl⟩ (fun _ _ hφ => ask [] rfl hφ) rfl rfl (.inl rfl)
set_option maxRecDepth 100000 in
set_option maxHeartbeats 4000000 in
theorem w_memory_row_at_s (N : Nat) (qg0 : Nat) (qp1 : Option Addr) (qn2 : Nat) (qc3 : Nat) (l0 : List FactD) (a1 : Int) (a2 : Int) (o0 : Int) (o1 : Bool) (hm : m_memory_row_at N l0 a1 a2 = some (o0, o1)) : Spec Tryd.prog 28 [.pointer (some ⟨qg0, 0, none⟩), .int .i64 a2] [] [.blk qg0 [.slice qp1 qn2 qc3, .int .i64 a1] 60, .own 42 3 R_FactD (.slice qp1 qn2 qc3) l0] (fun v Φr Hr => v = .tuple #[.int .i64 o0, .bool o1] ∧ Φr = [] ∧ Hr = [.blk qg0 [.slice qp1 qn2 qc3, .int .i64 a1] 60, .own 42 3 R_FactD (.slice qp1 qn2 qc3) l0]) := by
 unfold m_memory_row_at at hm
 refine spec_of Tryd.func28 rfl Tryd.ntmps28 rfl (S := [_,_]) rfl (fun C => ?_)
 refine wc_seq ?_
 refine wc_region ?_
 refine wl_pure rfl rfl rfl (freshS_eq rfl) rfl ?_
 refine wl_pure rfl rfl rfl (freshS_eq rfl) rfl ?_
 refine wl_nil ?_
 refine we_then ?_
 refine wc_keep [0, 1] (S' := [_,_]) rfl ?_
 refine wc_seq ?_
 refine wc_region ?_
 refine wl_pure rfl rfl rfl (freshS_eq rfl) rfl ?_
 refine wl_pure rfl rfl rfl (freshS_eq rfl) rfl ?_
 refine wl_fieldAddr rfl rfl rfl (freshS_eq rfl) rfl rfl tF_58_0 ?_
 refine wl_loadH 0 0 rfl rfl rfl (freshS_eq rfl) rfl rfl rfl (cs := [_]) rfl tS_35 tA_35 rfl rfl ?_
 refine wl_pure rfl rfl rfl (freshS_eq rfl) rfl ?_
 obtain ⟨⟨v11_0, v11_1⟩, hc11, hm⟩ := bindO_some hm
 try dsimp only at hm
 refine wl_call [1] [0] rfl rfl rfl (freshS_eq rfl) rfl rfl fn_38 rfl (w_slices_BinarySearchFunc_int_s N qp1 qn2 qc3 l0 a2 _ _ hc11) (fun _ _ hφ => ask [] rfl hφ) rfl (H' := [_]) rfl ?_
 rintro _ _ _ ⟨rfl, rfl, rfl⟩
 refine wl_pure rfl rfl rfl (freshS_eq rfl) rfl ?_
 refine wl_pure rfl rfl rfl (freshS_eq rfl) rfl ?_
 refine wl_pure rfl rfl rfl (freshS_eq rfl) rfl ?_
 refine wl_pure rfl rfl rfl (freshS_eq rfl) rfl ?_
 refine wl_nil ?_
 refine we_then ?_
 refine wc_keep [5, 4] (S' := [_,_]) rfl ?_
 refine wc_ret ?_
 have hE := (Option.some.inj hm).symm
 obtain ⟨hE0, hE1⟩ := Prod.mk.inj hE
 clear hE
 replace hE0 := hE0.symm
 subst hE0
 replace hE1 := hE1.symm
 subst hE1
 refine ret_two (Hr := [_, _]) [1, 0] Tryd.results28 (res_tmp rfl) (res_tmp rfl) ⟨rfl, rfl, rfl⟩ (fun _ _ hφ => ask [] rfl hφ) rfl rfl (.inl rfl)
set_option maxRecDepth 100000 in
set_option maxHeartbeats 4000000 in
theorem Delete29_n (p : Option Addr) (c k : Nat) (L : List FactD) (hk : k < L.length) : Spec Tryd.prog 29 [.slice p L.length c, .int .i64 ((k : Nat) : Int), .int .i64 ((k + 1 : Nat) : Int)] [] [.own 42 3 R_FactD (.slice p L.length c) L] (fun v Φr Hr => ∃ p' c', v = .slice p' (L.take k ++ L.drop (k + 1)).length c' ∧ Φr = [] ∧ Hr = [.own 42 3 R_FactD v (L.take k ++ L.drop (k + 1))]) := by
 refine spec_of Tryd.func29 rfl Tryd.ntmps29 rfl (S := [_,_,_]) rfl (fun C => ?_)
 refine wc_ownSome 0 rfl (by omega) (fun g0 e0 hc1 hc2 => ?_)
 subst e0
 refine wc_seq ?_
 refine wc_region ?_
 refine wl_pure rfl rfl rfl (freshS_eq rfl) rfl ?_
 refine wl_nil ?_
 refine we_then ?_
 refine wc_seq ?_
 refine wc_region ?_
 refine wl_pure rfl rfl rfl (freshS_eq rfl) rfl ?_
 refine wl_pure rfl rfl rfl (freshS_eq rfl) rfl ?_
 refine wl_pure rfl rfl rfl (freshS_eq rfl) rfl ?_
 refine wl_pure rfl rfl rfl (freshS_eq rfl) rfl ?_
 refine wl_len rfl rfl rfl (freshS_eq rfl) rfl rfl tE_35 ?_
 refine wl_slice3 rfl rfl rfl (freshS_eq rfl) rfl rfl rfl rfl rfl rfl rfl rfl tE_35 tS_42 (by omega) (by omega) (by omega) (fun a13 => ?_)
 refine wl_nil ?_
 refine we_then ?_
 refine wc_keep [6, 0, 1, 2] (S' := [_,_,_,_]) rfl ?_
 refine wc_seq ?_
 refine wc_seq ?_
 refine wc_region ?_
 refine wl_pure rfl rfl rfl (freshS_eq rfl) rfl ?_
 refine wl_pure rfl rfl rfl (freshS_eq rfl) rfl ?_
 refine wl_pure rfl rfl rfl (freshS_eq rfl) rfl ?_
 refine wl_nil ?_
 refine we_then ?_
 refine wc_keep [16, 6, 0, 1, 2] (S' := [_,_,_,_,_]) rfl ?_
 refine wc_cond rfl (fun h16 => ?_) (fun h16 => ?_)
 ·
  replace h16 := eq_of_beq h16
  exfalso
  omega
 ·
  replace h16 := ne_of_beq_false h16
  refine wc_skip ?_
  refine we_then ?_
  refine wc_seq ?_
  refine wc_region ?_
  refine wl_pure rfl rfl rfl (freshS_eq rfl) rfl ?_
  refine wl_len rfl rfl rfl (freshS_eq rfl) rfl rfl tE_35 ?_
  refine wl_pure rfl rfl rfl (freshS_eq rfl) rfl ?_
  refine wl_nil ?_
  refine we_then ?_
  refine wc_keep [7, 16, 6, 0, 1, 2] (S' := [_,_,_,_,_,_]) rfl ?_
  refine wc_seq ?_
  refine wc_cut (σ := Addr) (fun a25 => k + 1 < c → a25 = ⟨g0, (k + 1) * 3, none⟩) (fun a25 => [(0, .slice (some ⟨g0, 0, none⟩) ((L.take k ++ L.drop (k + 1)).length) c), (7, .int .i64 ((L.length : Nat) : Int)), (16, .bool (((k : Nat) : Int) == ((k + 1 : Nat) : Int))), (6, .slice none 0 0), (1, .int .i64 ((k : Nat) : Int)), (2, .int .i64 ((k + 1 : Nat) : Int))]) (fun a25 => []) (fun a25 => [.own 42 3 R_FactD (.slice (some ⟨g0, 0, none⟩) ((L.take k ++ L.drop (k + 1)).length) c) (L.take k ++ L.drop (k + 1))]) ?_ ?_
  ·
   refine wc_draw [0, 1, 3, 4] rfl rfl (fun hok => ?_)
   refine wx_pure hok 0 rfl rfl rfl (freshS_eq rfl) rfl rfl ?_
   refine wx_pure hok 1 rfl rfl rfl (freshS_eq rfl) rfl rfl ?_
   refine wx_pure hok 3 rfl rfl rfl (freshS_eq rfl) rfl rfl ?_
   refine wx_pure hok 4 rfl rfl rfl (freshS_eq rfl) rfl rfl ?_
   refine wx_step2 hok 2 5 rfl rfl rfl rfl rfl rfl ?_ ?_
   ·
    refine wl_sliceTo rfl rfl rfl (freshS_eq rfl) rfl rfl rfl rfl tE_35 tS_42 (by omega) (fun _ h => by cases h; rfl) ?_
    refine wl_nil ?_
    refine we_x [] [] rfl rfl ?_
    refine wx_step1 hok 5 rfl rfl rfl rfl ?_
    refine wl_sliceFrom rfl rfl rfl (freshS_eq rfl) rfl rfl rfl rfl tE_35 tS_42 (by omega) (by omega) (fun a25 ha25 => ?_)
    refine wl_nil ?_
    refine we_x [] [] rfl rfl ?_
    refine wx_step1 hok 6 rfl rfl rfl rfl ?_
    refine wl_appendSelf 0 k (k + 1) rfl rfl rfl (freshS_eq rfl) rfl rfl rfl rfl (by omega) (by omega) (fun h => ha25 (by omega)) tE_35 tR_42 (H2 := [.own 42 3 R_FactD (.slice (some ⟨g0, 0, none⟩) ((L.take k ++ L.drop (k + 1)).length) c) (L.take k ++ L.drop (k + 1))]) rfl (fun _ => ?_)
    refine wl_nil ?_
    refine we_x [] [] rfl rfl ?_
    refine wx_step1 hok 7 rfl rfl rfl rfl ?_
    refine wl_pure (S' := [_,_,_,_,_,_,_,_,_,_,_,_]) rfl rfl rfl rfl rfl ?_
    refine wl_nil ?_
    refine we_x [] [] rfl rfl ?_
    refine wx_done hok rfl ?_
    refine we_join (a25) ha25 [0, 7, 16, 6, 1, 2] rfl (fun _ _ hφ => ask [] rfl hφ) rfl
   ·
    refine wl_sliceFrom rfl rfl rfl (freshS_eq rfl) rfl rfl rfl rfl tE_35 tS_42 (by omega) (by omega) (fun a25 ha25 => ?_)
    refine wl_nil ?_
    refine we_x [] [] rfl rfl ?_
    refine wx_step1 hok 2 rfl rfl rfl rfl ?_
    refine wl_sliceTo rfl rfl rfl (freshS_eq rfl) rfl rfl rfl rfl tE_35 tS_42 (by omega) (fun _ h => by cases h; rfl) ?_
    refine wl_nil ?_
    refine we_x [] [] rfl rfl ?_
    refine wx_step1 hok 6 rfl rfl rfl rfl ?_
    refine wl_appendSelf 0 k (k + 1) rfl rfl rfl (freshS_eq rfl) rfl rfl rfl rfl (by omega) (by omega) (fun h => ha25 (by omega)) tE_35 tR_42 (H2 := [.own 42 3 R_FactD (.slice (some ⟨g0, 0, none⟩) ((L.take k ++ L.drop (k + 1)).length) c) (L.take k ++ L.drop (k + 1))]) rfl (fun _ => ?_)
    refine wl_nil ?_
    refine we_x [] [] rfl rfl ?_
    refine wx_step1 hok 7 rfl rfl rfl rfl ?_
    refine wl_pure (S' := [_,_,_,_,_,_,_,_,_,_,_,_]) rfl rfl rfl rfl rfl ?_
    refine wl_nil ?_
    refine we_x [] [] rfl rfl ?_
    refine wx_done hok rfl ?_
    refine we_join (a25) ha25 [0, 7, 16, 6, 1, 2] rfl (fun _ _ hφ => ask [] rfl hφ) rfl
  ·
   rintro a25 ha25
   try dsimp only
   refine wc_seq ?_
   refine wc_region ?_
   refine wl_pure rfl rfl rfl (freshS_eq rfl) rfl ?_
   refine wl_pure rfl rfl rfl (freshS_eq rfl) rfl ?_
   refine wl_len rfl rfl rfl (freshS_eq rfl) rfl rfl tE_35 ?_
   refine wl_pure rfl rfl rfl (freshS_eq rfl) rfl ?_
   refine wl_sliceMid rfl rfl rfl (freshS_eq rfl) rfl rfl rfl rfl rfl rfl tE_35 tS_42 (by simp; omega) (by omega) (fun a31 ha31 => ?_)
   refine wl_clearTail 0 rfl rfl rfl rfl rfl (fun h => ha31 (by simp at h ⊢; omega)) (by simp; omega) tE_35 tZ_42 rfl rfl rfl ?_
   refine wl_nil ?_
   refine we_then ?_
   refine wc_keep [0, 7, 16, 6, 1, 2] (S' := [_,_,_,_,_,_]) rfl ?_
   refine wc_seq ?_
   refine wc_region ?_
   refine wl_pure rfl rfl rfl (freshS_eq rfl) rfl ?_
   refine wl_pure (S' := [_,_,_,_,_,_]) rfl rfl rfl rfl rfl ?_
   refine wl_nil ?_
   refine we_then ?_
   refine wc_keep [6, 0, 7, 16, 1, 2] (S' := [_,_,_,_,_,_]) rfl ?_
   refine wc_ret ?_
   refine ret_one (Hr := [.own 42 3 R_FactD (.slice (some ⟨g0, 0, none⟩) ((L.take k ++ L.drop (k + 1)).length) c) (L.take k ++ L.drop (k + 1))]) [0] Tryd.results29 (res_tmp rfl) ?_ (fun _ _ hφ => ask [] rfl hφ) rfl rfl (.inl rfl)
   exact ⟨_, _, rfl, rfl, rfl⟩
theorem Delete29_s (p : Option Addr) (c : Nat) (i : Int) (L : List FactD) (h0 : 0 ≤ i) (hk : i.toNat < L.length) : Spec Tryd.prog 29 [.slice p L.length c, .int .i64 i, .int .i64 (i + 1)] [] [.own 42 3 R_FactD (.slice p L.length c) L] (fun v Φr Hr => ∃ p' c', v = .slice p' (L.take i.toNat ++ L.drop (i.toNat + 1)).length c' ∧ Φr = [] ∧ Hr = [.own 42 3 R_FactD v (L.take i.toNat ++ L.drop (i.toNat + 1))]) := by
  obtain ⟨k, rfl⟩ := Int.eq_ofNat_of_zero_le h0
  have e1 : ((k : Int) + 1) = ((k + 1 : Nat) : Int) := by omega
  rw [e1]
  exact Delete29_n p c k L hk

set_option maxRecDepth 100000 in
set_option maxHeartbeats 4000000 in
theorem w_memory_Memory_Drop_s (N : Nat) (qg0 : Nat) (qp1 : Option Addr) (qn2 : Nat) (qc3 : Nat) (l0 : List FactD) (a1 : Int) (a2 : Int) (o0 : Nat) (o3 : List FactD) (hm : m_memory_Memory_Drop N l0 a1 a2 = some (o0, o3)) : Spec Tryd.prog 13 [.pointer (some ⟨qg0, 0, none⟩), .int .i64 a2] [] [.blk qg0 [.slice qp1 qn2 qc3, .int .i64 a1] 60, .own 42 3 R_FactD (.slice qp1 qn2 qc3) l0] (fun v Φr Hr => ∃ (o1 : Option Addr) (o2 : Nat) (o4 : Nat), v = .int .i64 ((o0 : Nat) : Int) ∧ Φr = [] ∧ Hr = [.blk qg0 [.slice o1 o4 o2, .int .i64 a1] 60, .own 42 3 R_FactD (.slice o1 o4 o2) o3]) := by
 unfold m_memory_Memory_Drop at hm
 refine spec_of Tryd.func13 rfl Tryd.ntmps13 rfl (S := [_,_]) rfl (fun C => ?_)
 refine wc_seq ?_
 refine wc_region ?_
 refine wl_pure rfl rfl rfl (freshS_eq rfl) rfl ?_
 refine wl_nil ?_
 refine we_then ?_
 refine wc_keep [0, 1] (S' := [_,_]) rfl ?_
 refine wc_seq ?_
 refine wc_seq ?_
 refine wc_region ?_
 refine wl_pure rfl rfl rfl (freshS_eq rfl) rfl ?_
 obtain ⟨_, hc8, hm⟩ := bindO_some hm
 try dsimp only at hm
 refine wl_call [0, 1] [] rfl rfl rfl (freshS_eq rfl) rfl rfl fn_26 rfl (w_memory_Memory_known_s N qg0 qp1 qn2 qc3 l0 a1 hc8) (fun _ _ hφ => ask [] rfl hφ) rfl (H' := []) rfl ?_
 rintro _ _ _ ⟨rfl, rfl, rfl⟩
 refine wl_pure rfl rfl rfl (freshS_eq rfl) rfl ?_
 refine wl_nil ?_
 refine we_then ?_
 refine wc_keep [9, 0, 1] (S' := [_,_,_]) rfl ?_
 refine wc_cond rfl (fun hb9 => ?_) (fun hb9 => ?_)
 ·
  replace hm := iteT hm hb9
  refine wc_keep [] (S' := []) rfl ?_
  refine wc_seq ?_
  refine wc_region ?_
  refine wl_pure rfl rfl rfl (freshS_eq rfl) rfl ?_
  refine wl_nil ?_
  refine we_then ?_
  refine wc_ret ?_
  refine we_then_ret ?_
  have hE := (Option.some.inj hm).symm
  obtain ⟨hE0, hE1⟩ := Prod.mk.inj hE
  clear hE
  replace hE0 := hE0.symm
  subst hE0
  replace hE1 := hE1.symm
  subst hE1
  refine ret_one (Hr := [_, _]) [0, 1] Tryd.results13 (res_tmp rfl) ⟨qp1, qc3, qn2, rfl, rfl, rfl⟩ (fun _ _ hφ => ask [] rfl hφ) rfl rfl (.inl rfl)
 ·
  replace hm := iteF hm hb9
  refine wc_keep [0, 1] (S' := [_,_]) rfl ?_
  refine wc_skip ?_
  refine we_then ?_
  refine wc_seq ?_
  refine wc_region ?_
  refine wl_pure rfl rfl rfl (freshS_eq rfl) rfl ?_
  refine wl_pure rfl rfl rfl (freshS_eq rfl) rfl ?_
  refine wl_fieldAddr rfl rfl rfl (freshS_eq rfl) rfl rfl tF_60_0 ?_
  refine wl_pure rfl rfl rfl (freshS_eq rfl) rfl ?_
  obtain ⟨⟨v15_0, v15_1⟩, hc15, hm⟩ := bindO_some hm
  try dsimp only at hm
  refine wl_call [0, 1] [] rfl rfl rfl (freshS_eq rfl) rfl rfl fn_28 rfl (w_memory_row_at_s N qg0 qp1 qn2 qc3 l0 a1 a2 _ _ hc15) (fun _ _ hφ => ask [] rfl hφ) rfl (H' := []) rfl ?_
  rintro _ _ _ ⟨rfl, rfl, rfl⟩
  refine wl_pure rfl rfl rfl (freshS_eq rfl) rfl ?_
  refine wl_pure rfl rfl rfl (freshS_eq rfl) rfl ?_
  refine wl_pure rfl rfl rfl (freshS_eq rfl) rfl ?_
  refine wl_pure rfl rfl rfl (freshS_eq rfl) rfl ?_
  refine wl_pure rfl rfl rfl (freshS_eq rfl) rfl ?_
  refine wl_nil ?_
  refine we_then ?_
  refine wc_keep [6, 5, 0] (S' := [_,_,_]) rfl ?_
  refine wc_seq ?_
  refine wc_seq ?_
  refine wc_region ?_
  refine wl_pure rfl rfl rfl (freshS_eq rfl) rfl ?_
  refine wl_pure rfl rfl rfl (freshS_eq rfl) rfl ?_
  refine wl_nil ?_
  refine we_then ?_
  refine wc_keep [19, 5, 0] (S' := [_,_,_]) rfl ?_
  refine wc_cond rfl (fun hb19 => ?_) (fun hb19 => ?_)
  ·
   replace hm := iteT hm hb19
   refine wc_keep [] (S' := []) rfl ?_
   refine wc_seq ?_
   refine wc_region ?_
   refine wl_pure rfl rfl rfl (freshS_eq rfl) rfl ?_
   refine wl_nil ?_
   refine we_then ?_
   refine wc_ret ?_
   refine we_then_ret ?_
   have hE := (Option.some.inj hm).symm
   obtain ⟨hE0, hE1⟩ := Prod.mk.inj hE
   clear hE
   replace hE0 := hE0.symm
   subst hE0
   replace hE1 := hE1.symm
   subst hE1
   refine ret_one (Hr := [_, _]) [0, 1] Tryd.results13 (res_tmp rfl) ⟨qp1, qc3, qn2, rfl, rfl, rfl⟩ (fun _ _ hφ => ask [] rfl hφ) rfl rfl (.inl rfl)
  ·
   replace hm := iteF hm hb19
   refine wc_keep [5, 0] (S' := [_,_]) rfl ?_
   refine wc_skip ?_
   refine we_then ?_
   refine wc_seq ?_
   refine wc_region ?_
   refine wl_pure rfl rfl rfl (freshS_eq rfl) rfl ?_
   refine wl_pure rfl rfl rfl (freshS_eq rfl) rfl ?_
   refine wl_pure rfl rfl rfl (freshS_eq rfl) rfl ?_
   refine wl_fieldAddr rfl rfl rfl (freshS_eq rfl) rfl rfl tF_60_0 ?_
   refine wl_fieldAddr rfl rfl rfl (freshS_eq rfl) rfl rfl tF_58_0 ?_
   refine wl_loadH 0 0 rfl rfl rfl (freshS_eq rfl) rfl rfl rfl (cs := [_]) rfl tS_35 tA_35 rfl rfl ?_
   refine wl_pure rfl rfl rfl (freshS_eq rfl) rfl ?_
   refine wl_pure rfl rfl rfl (freshS_eq rfl) rfl ?_
   refine wl_pure rfl rfl rfl (freshS_eq rfl) rfl ?_
   obtain ⟨hg28, hm⟩ := gd_some hm
   refine wl_as (d := 28) (v' := .int .i64 (v15_0 + 1)) (S' := [_,_,_,_,_,_,_,_,_,_]) rfl rfl (i64_in hg28) ?_
   refine wl_ownLen 1 rfl (fun hzqn2 _ => ?_)
   subst hzqn2
   obtain ⟨hg29, hm⟩ := gd_some hm
   obtain ⟨hgk29, hm⟩ := gd_some hm
   refine wl_call [1] [0] rfl rfl rfl (freshS_eq rfl) rfl rfl fn_29 rfl (Delete29_s qp1 qc3 v15_0 l0 hg29 hgk29) (fun _ _ hφ => ask [] rfl hφ) rfl (H' := [_]) rfl ?_
   rintro _ _ _ ⟨p29, c29, rfl, rfl, rfl⟩
   refine wl_pure rfl rfl rfl (freshS_eq rfl) rfl ?_
   refine wl_fieldAddr rfl rfl rfl (freshS_eq rfl) rfl rfl tF_60_0 ?_
   refine wl_fieldAddr rfl rfl rfl (freshS_eq rfl) rfl rfl tF_58_0 ?_
   refine wl_store 1 0 rfl rfl rfl rfl rfl rfl rfl tS_35 rfl rfl rfl (all' := [_,_]) rfl (H' := [_,_]) rfl ?_
   refine wl_nil ?_
   refine we_then ?_
   refine wc_keep [] (S' := []) rfl ?_
   refine wc_seq ?_
   refine wc_region ?_
   refine wl_pure rfl rfl rfl (freshS_eq rfl) rfl ?_
   refine wl_nil ?_
   refine we_then ?_
   refine wc_ret ?_
   have hE := (Option.some.inj hm).symm
   obtain ⟨hE0, hE1⟩ := Prod.mk.inj hE
   clear hE
   replace hE0 := hE0.symm
   subst hE0
   replace hE1 := hE1.symm
   subst hE1
   refine ret_one (Hr := [_, _]) [1, 0] Tryd.results13 (res_tmp rfl) ⟨p29, c29, (l0.take v15_0.toNat ++ l0.drop (v15_0.toNat + 1)).length, rfl, rfl, rfl⟩ (fun _ _ hφ => ask [] rfl hφ) rfl rfl (.inl rfl)
set_option maxRecDepth 100000 in
set_option maxHeartbeats 4000000 in
theorem w_slices_IndexFunc_Value_v2_s (N : Nat) (qp0 : Option Addr) (qc1 : Nat) (l0 : List V) (o0 : Int) (hm : m_slices_IndexFunc_Value N l0 = some o0) : Spec Tryd.prog 41 [.slice qp0 l0.length qc1, .func (.func 32) #[] #[]] [.sli 3 R_V qp0 qc1 l0] [] (fun v Φr Hr => v = .int .i64 o0 ∧ Φr = [] ∧ Hr = []) := by
 unfold m_slices_IndexFunc_Value at hm
 refine spec_of Tryd.func41 rfl Tryd.ntmps41 rfl (S := [_,_]) rfl (fun C => ?_)
 refine wc_seq ?_
 refine wc_region ?_
 refine wl_pure rfl rfl rfl (freshS_eq rfl) rfl ?_
 refine wl_nil ?_
 refine we_then ?_
 refine wc_keep [0, 1] (S' := [_,_]) rfl ?_
 refine wc_seq ?_
 obtain ⟨bj_1, hm, hLj_1⟩ := bindS_some hm
 refine wc_cut (σ := Unit) (fun _ => bj_1 = .inl ()) (fun _ => []) (fun _ => []) (fun _ => []) ?_ ?_
 ·
  refine wc_seq ?_
  refine wc_region ?_
  refine wl_pure rfl rfl rfl (freshS_eq rfl) rfl ?_
  refine wl_len rfl rfl rfl (freshS_eq rfl) rfl rfl tE_26 ?_
  refine wl_pure rfl rfl rfl (freshS_eq rfl) rfl ?_
  refine wl_nil ?_
  refine we_then ?_
  refine wc_keep [8, 7, 0, 1] (S' := [_,_,_,_]) rfl ?_
  refine wc_block ?_
  refine wc_loop (σ := Nat × Nat) (fun (nu1, u1_8) => iter (m_slices_IndexFunc_Value_L1 N l0) nu1 u1_8 = some bj_1) (fun (nu1, u1_8) => nu1) (fun (nu1, u1_8) => [(8, .int .i64 ((u1_8 : Nat) : Int)), (7, .int .i64 ((l0.length : Nat) : Int)), (0, .slice qp0 l0.length qc1), (1, .func (.func 32) #[] #[])]) (fun (nu1, u1_8) => [.sli 3 R_V qp0 qc1 l0]) (fun (nu1, u1_8) => []) (N, 0) hm [8, 7, 0, 1] rfl (fun _ _ hφ => ask [0] rfl hφ) rfl (fun s_ hm => ?_)
  obtain ⟨nu1, u1_8⟩ := s_
  try dsimp only at hm ⊢
  obtain ⟨mu1, bu1, hnu1, hq, hLu1⟩ := iter_some hm
  clear hm
  subst hnu1
  replace hm := hq
  clear hq
  unfold m_slices_IndexFunc_Value_L1 at hm
  try dsimp only at hm
  refine wc_seq ?_
  refine wc_region ?_
  refine wl_pure rfl rfl rfl (freshS_eq rfl) rfl ?_
  refine wl_as (d := 9) (v' := .bool (decide (u1_8 < l0.length))) (S' := [_,_,_,_]) rfl rfl (natlt (a := u1_8) (b := l0.length)) ?_
  refine wl_nil ?_
  refine we_then ?_
  refine wc_seq ?_
  refine wc_cond rfl (fun hb9 => ?_) (fun hb9 => ?_)
  ·
   replace hm := iteT hm hb9
   refine wc_keep [8, 7, 0, 1] (S' := [_,_,_,_]) rfl ?_
   refine wc_skip ?_
   refine we_then ?_
   refine wc_seq ?_
   refine wc_block ?_
   refine wc_seq ?_
   refine wc_region ?_
   refine wl_pure rfl rfl rfl (freshS_eq rfl) rfl ?_
   refine wl_pure rfl rfl rfl (freshS_eq rfl) rfl ?_
   refine wl_nil ?_
   refine we_then ?_
   refine wc_keep [5, 8, 7, 0, 1] (S' := [_,_,_,_,_]) rfl ?_
   refine wc_seq ?_
   refine wc_region ?_
   refine wl_pure rfl rfl rfl (freshS_eq rfl) rfl ?_
   refine wl_pure rfl rfl rfl (freshS_eq rfl) rfl ?_
   refine wl_pure rfl rfl rfl (freshS_eq rfl) rfl ?_
   obtain ⟨x14, hx14, hm⟩ := bindO_some hm
   refine wl_indexA 0 u1_8 rfl rfl rfl (freshS_eq rfl) rfl rfl rfl rfl rfl hx14 tE_26 tS_55 (fun b14 q14 cs14 hlx14 => ?_)
   refine wl_open R_V_opens 1 rfl (fun r14 er14 _ => ?_)
   subst er14
   refine wl_load 0 0 rfl rfl rfl (freshS_eq rfl) rfl rfl rfl (cs := [_,_,_]) rfl tS_55 tA_55 rfl rfl ?_
   obtain ⟨v16, hc16, hm⟩ := bindO_some hm
   refine wl_callDyn [] [] rfl rfl rfl (freshS_eq rfl) rfl rfl rfl fn_32 rfl rfl (w_memory_may_1_s N x14.k x14.n x14.s _ hc16) (fun _ _ hφ => ask [] rfl hφ) rfl (H' := []) rfl ?_
   rintro _ _ _ ⟨rfl, rfl, rfl⟩
   refine wl_nil ?_
   refine we_then ?_
   refine wc_keep [16, 5, 8, 7, 0, 1] (S' := [_,_,_,_,_,_]) rfl ?_
   refine wc_cond rfl (fun hb16 => ?_) (fun hb16 => ?_)
   ·
    replace hm := iteT hm hb16
    refine wc_keep [5] (S' := [_]) rfl ?_
    refine wc_seq ?_
    refine wc_region ?_
    refine wl_pure rfl rfl rfl (freshS_eq rfl) rfl ?_
    refine wl_pure rfl rfl rfl (freshS_eq rfl) rfl ?_
    refine wl_nil ?_
    refine we_then ?_
    refine wc_keep [4] (S' := [_]) rfl ?_
    refine wc_ret ?_
    refine we_block_ret ?_
    refine we_then_ret ?_
    refine we_then_ret ?_
    refine we_block_ret ?_
    refine we_then_ret ?_
    have hE := (Option.some.inj hm).symm
    replace hE := link_inr hLu1 hE
    replace hE := link_inr hLj_1 hE
    replace hE := hE.symm
    subst hE
    refine ret_one (Hr := []) [] Tryd.results41 (res_tmp rfl) ⟨rfl, rfl, rfl⟩ (fun _ _ hφ => ask [] rfl hφ) rfl rfl (.inl rfl)
   ·
    replace hm := iteF hm hb16
    refine wc_keep [8, 7, 0, 1] (S' := [_,_,_,_]) rfl ?_
    refine wc_skip ?_
    refine we_block_normal ?_
    refine we_then ?_
    refine wc_region ?_
    refine wl_pure rfl rfl rfl (freshS_eq rfl) rfl ?_
    obtain ⟨hg18, hm⟩ := gd_some hm
    refine wl_as (d := 18) (v' := .int .i64 ((u1_8 + 1 : Nat) : Int)) (S' := [_,_,_,_]) rfl rfl (nat_add (a := u1_8) (b := 1) hg18) ?_
    refine wl_pure (S' := [_,_,_,_]) rfl rfl rfl rfl rfl ?_
    refine wl_nil ?_
    have hE := (Option.some.inj hm).symm
    replace hE := link_inl hLu1 hE
    refine we_roundK (_, u1_8 + 1) (Nat.lt_succ_self _) hE [8, 7, 0, 1] rfl (fun _ _ hφ => ask [2] rfl hφ) rfl
  ·
   replace hm := iteF hm hb9
   refine wc_keep [] (S' := []) rfl ?_
   refine wc_exit ?_
   refine we_then_exit ?_
   refine we_then_exit ?_
   refine we_block_hit ?_
   have hE := (Option.some.inj hm).symm
   replace hE := link_inr hLu1 hE
   refine we_join () hE [] rfl (fun _ _ hφ => ask [] rfl hφ) rfl
 ·
  rintro _ hE
  try dsimp only
  have hm := link_inl hLj_1 hE
  try dsimp only at hm
  refine wc_seq ?_
  refine wc_region ?_
  refine wl_pure rfl rfl rfl (freshS_eq rfl) rfl ?_
  refine wl_nil ?_
  refine we_then ?_
  refine wc_ret ?_
  have hE := (Option.some.inj hm).symm
  replace hE := hE.symm
  subst hE
  refine ret_one (Hr := []) [] Tryd.results41 (res_tmp rfl) ⟨rfl, rfl, rfl⟩ (fun _ _ hφ => ask [] rfl hφ) rfl rfl (.inl rfl)
set_option maxRecDepth 100000 in
set_option maxHeartbeats 4000000 in
theorem w_slices_ContainsFunc_Value_v2_s (N : Nat) (qp0 : Option Addr) (qc1 : Nat) (l0 : List V) (o0 : Bool) (hm : m_slices_ContainsFunc_Value N l0 = some o0) : Spec Tryd.prog 31 [.slice qp0 l0.length qc1, .func (.func 32) #[] #[]] [.sli 3 R_V qp0 qc1 l0] [] (fun v Φr Hr => v = .bool o0 ∧ Φr = [] ∧ Hr = []) := by
 unfold m_slices_ContainsFunc_Value at hm
 refine spec_of Tryd.func31 rfl Tryd.ntmps31 rfl (S := [_,_]) rfl (fun C => ?_)
 refine wc_seq ?_
 refine wc_region ?_
 refine wl_pure rfl rfl rfl (freshS_eq rfl) rfl ?_
 refine wl_nil ?_
 refine we_then ?_
 refine wc_keep [0, 1] (S' := [_,_]) rfl ?_
 refine wc_seq ?_
 refine wc_region ?_
 refine wl_pure rfl rfl rfl (freshS_eq rfl) rfl ?_
 refine wl_pure rfl rfl rfl (freshS_eq rfl) rfl ?_
 obtain ⟨v7, hc7, hm⟩ := bindO_some hm
 refine wl_call [] [] rfl rfl rfl (freshS_eq rfl) rfl rfl fn_41 rfl (w_slices_IndexFunc_Value_v2_s N qp0 qc1 l0 _ hc7) (fun _ _ hφ => ask [0] rfl hφ) rfl (H' := []) rfl ?_
 rintro _ _ _ ⟨rfl, rfl, rfl⟩
 refine wl_pure rfl rfl rfl (freshS_eq rfl) rfl ?_
 refine wl_pure rfl rfl rfl (freshS_eq rfl) rfl ?_
 refine wl_nil ?_
 refine we_then ?_
 refine wc_keep [4] (S' := [_]) rfl ?_
 refine wc_ret ?_
 have hE := (Option.some.inj hm).symm
 replace hE := hE.symm
 subst hE
 refine ret_one (Hr := []) [] Tryd.results31 (res_tmp rfl) ⟨rfl, rfl, rfl⟩ (fun _ _ hφ => ask [] rfl hφ) rfl rfl (.inl rfl)
set_option maxRecDepth 100000 in
set_option maxHeartbeats 4000000 in
theorem w_memory_may_v2_s (N : Nat) (a0 : Int) (qp0 : Option Addr) (qc1 : Nat) (l1 : List V) (o0 : Bool) (hm : m_memory_may N a0 l1 = some o0) : Spec Tryd.prog 23 [.int .i64 a0, .slice qp0 l1.length qc1] [.sli 3 R_V qp0 qc1 l1] [] (fun v Φr Hr => v = .bool o0 ∧ Φr = [] ∧ Hr = []) := by
 unfold m_memory_may at hm
 refine spec_of Tryd.func23 rfl Tryd.ntmps23 rfl (S := [_,_]) rfl (fun C => ?_)
 refine wc_seq ?_
 refine wc_region ?_
 refine wl_pure rfl rfl rfl (freshS_eq rfl) rfl ?_
 refine wl_nil ?_
 refine we_then ?_
 refine wc_keep [0, 1] (S' := [_,_]) rfl ?_
 refine wc_seq ?_
 obtain ⟨bj_1, hm, hLj_1⟩ := bindO_some hm
 unfold m_memory_may_C1 at hm
 refine wc_cut (σ := Bool) (fun j_1_4 => bj_1 = j_1_4) (fun j_1_4 => [(4, .bool j_1_4)]) (fun j_1_4 => []) (fun j_1_4 => []) ?_ ?_
 ·
  refine wc_region ?_
  refine wl_pure rfl rfl rfl (freshS_eq rfl) rfl ?_
  refine wl_pure rfl rfl rfl (freshS_eq rfl) rfl ?_
  refine wl_pure rfl rfl rfl (freshS_eq rfl) rfl ?_
  refine wl_split (d := 7) (S' := [_,_,_,_]) rfl rfl (fun hs7 => ?_) (fun hs7 => ?_)
  ·
   replace hm := iteT hm hs7
   refine wl_pure rfl rfl rfl (freshS_eq rfl) rfl ?_
   refine wl_pure rfl rfl rfl (freshS_eq rfl) rfl ?_
   refine wl_pure rfl rfl rfl (freshS_eq rfl) rfl ?_
   refine wl_pure rfl rfl rfl (freshS_eq rfl) rfl ?_
   refine wl_split (d := 11) (S' := [_,_,_,_,_,_,_,_]) rfl rfl (fun hs11 => ?_) (fun hs11 => ?_)
   ·
    replace hm := iteT hm hs11
    refine wl_pure rfl rfl rfl (freshS_eq rfl) rfl ?_
    refine wl_len rfl rfl rfl (freshS_eq rfl) rfl rfl tE_26 ?_
    refine wl_pure rfl rfl rfl (freshS_eq rfl) rfl ?_
    refine wl_as (d := 14) (v' := .bool (decide (l1.length ≤ 6))) (S' := [_,_,_,_,_,_,_,_,_,_,_]) rfl rfl (natle (a := l1.length) (b := 6)) ?_
    refine wl_pure rfl rfl rfl (freshS_eq rfl) rfl ?_
    refine wl_pure rfl rfl rfl (freshS_eq rfl) rfl ?_
    refine wl_split (d := 16) (S' := [_,_,_,_,_,_,_,_,_,_,_,_,_]) rfl rfl (fun hs16 => ?_) (fun hs16 => ?_)
    ·
     replace hm := iteT hm hs16
     refine wl_pure rfl rfl rfl (freshS_eq rfl) rfl ?_
     obtain ⟨v18, hc18, hm⟩ := bindO_some hm
     refine wl_call [] [] rfl rfl rfl (freshS_eq rfl) rfl rfl fn_31 rfl (w_slices_ContainsFunc_Value_v2_s N qp0 qc1 l1 _ hc18) (fun _ _ hφ => ask [0] rfl hφ) rfl (H' := []) rfl ?_
     rintro _ _ _ ⟨rfl, rfl, rfl⟩
     refine wl_pure rfl rfl rfl (freshS_eq rfl) rfl ?_
     refine wl_pure rfl rfl rfl (freshS_eq rfl) rfl ?_
     refine wl_pure rfl rfl rfl (freshS_eq rfl) rfl ?_
     refine wl_nil ?_
     have hE := (Option.some.inj hm).symm
     refine we_join (!v18) hE [4] rfl (fun _ _ hφ => ask [] rfl hφ) rfl
    ·
     replace hm := iteF hm hs16
     refine wl_off rfl rfl rfl (freshS_eq rfl) ?_
     refine wl_off rfl rfl rfl (freshS_eq rfl) ?_
     refine wl_off rfl rfl rfl (freshS_eq rfl) ?_
     refine wl_pure rfl rfl rfl (freshS_eq rfl) rfl ?_
     refine wl_pure rfl rfl rfl (freshS_eq rfl) rfl ?_
     refine wl_nil ?_
     have hE := (Option.some.inj hm).symm
     refine we_join false hE [4] rfl (fun _ _ hφ => ask [] rfl hφ) rfl
   ·
    replace hm := iteF hm hs11
    refine wl_off rfl rfl rfl (freshS_eq rfl) ?_
    refine wl_off rfl rfl rfl (freshS_eq rfl) ?_
    refine wl_off rfl rfl rfl (freshS_eq rfl) ?_
    refine wl_pure rfl rfl rfl (freshS_eq rfl) rfl ?_
    refine wl_pure rfl rfl rfl (freshS_eq rfl) rfl ?_
    refine wl_off rfl rfl rfl (freshS_eq rfl) ?_
    refine wl_off rfl rfl rfl (freshS_eq rfl) ?_
    refine wl_off rfl rfl rfl (freshS_eq rfl) ?_
    refine wl_pure rfl rfl rfl (freshS_eq rfl) rfl ?_
    refine wl_pure rfl rfl rfl (freshS_eq rfl) rfl ?_
    refine wl_nil ?_
    have hE := (Option.some.inj hm).symm
    refine we_join false hE [4] rfl (fun _ _ hφ => ask [] rfl hφ) rfl
  ·
   replace hm := iteF hm hs7
   refine wl_off rfl rfl rfl (freshS_eq rfl) ?_
   refine wl_off rfl rfl rfl (freshS_eq rfl) ?_
   refine wl_pure rfl rfl rfl (freshS_eq rfl) rfl ?_
   refine wl_pure rfl rfl rfl (freshS_eq rfl) rfl ?_
   refine wl_off rfl rfl rfl (freshS_eq rfl) ?_
   refine wl_off rfl rfl rfl (freshS_eq rfl) ?_
   refine wl_off rfl rfl rfl (freshS_eq rfl) ?_
   refine wl_pure rfl rfl rfl (freshS_eq rfl) rfl ?_
   refine wl_pure rfl rfl rfl (freshS_eq rfl) rfl ?_
   refine wl_off rfl rfl rfl (freshS_eq rfl) ?_
   refine wl_off rfl rfl rfl (freshS_eq rfl) ?_
   refine wl_off rfl rfl rfl (freshS_eq rfl) ?_
   refine wl_pure rfl rfl rfl (freshS_eq rfl) rfl ?_
   refine wl_pure rfl rfl rfl (freshS_eq rfl) rfl ?_
   refine wl_nil ?_
   have hE := (Option.some.inj hm).symm
   refine we_join false hE [4] rfl (fun _ _ hφ => ask [] rfl hφ) rfl
 ·
  rintro j_1_4 hE
  try dsimp only
  have hm := hLj_1
  rw [hE] at hm
  refine wc_ret ?_
  have hE := (Option.some.inj hm).symm
  replace hE := hE.symm
  subst hE
  refine ret_one (Hr := []) [] Tryd.results23 (res_tmp rfl) ⟨rfl, rfl, rfl⟩ (fun _ _ hφ => ask [] rfl hφ) rfl rfl (.inl rfl)
set_option maxRecDepth 100000 in
set_option maxHeartbeats 4000000 in
theorem w_memory_same_v2_s (N : Nat) (qp0 : Option Addr) (qc1 : Nat) (l0 : List V) (qp2 : Option Addr) (qc3 : Nat) (l1 : List V) (o0 : Bool) (hm : m_memory_same N l0 l1 = some o0) : Spec Tryd.prog 36 [.slice qp0 l0.length qc1, .slice qp2 l1.length qc3] [.sli 3 R_V qp0 qc1 l0, .sli 3 R_V qp2 qc3 l1] [] (fun v Φr Hr => v = .bool o0 ∧ Φr = [] ∧ Hr = []) := by
 unfold m_memory_same at hm
 refine spec_of Tryd.func36 rfl Tryd.ntmps36 rfl (S := [_,_]) rfl (fun C => ?_)
 refine wc_seq ?_
 refine wc_region ?_
 refine wl_pure rfl rfl rfl (freshS_eq rfl) rfl ?_
 refine wl_nil ?_
 refine we_then ?_
 refine wc_keep [0, 1] (S' := [_,_]) rfl ?_
 refine wc_seq ?_
 refine wc_seq ?_
 refine wc_region ?_
 refine wl_pure rfl rfl rfl (freshS_eq rfl) rfl ?_
 refine wl_len rfl rfl rfl (freshS_eq rfl) rfl rfl tE_26 ?_
 refine wl_pure rfl rfl rfl (freshS_eq rfl) rfl ?_
 refine wl_len rfl rfl rfl (freshS_eq rfl) rfl rfl tE_26 ?_
 refine wl_pure rfl rfl rfl (freshS_eq rfl) rfl ?_
 refine wl_as (d := 10) (v' := .bool (l0.length != l1.length)) (S' := [_,_,_,_,_,_]) rfl rfl (natne (a := l0.length) (b := l1.length)) ?_
 refine wl_nil ?_
 refine we_then ?_
 refine wc_keep [10, 0, 1] (S' := [_,_,_]) rfl ?_
 refine wc_cond rfl (fun hb10 => ?_) (fun hb10 => ?_)
 ·
  replace hm := iteT hm hb10
  refine wc_keep [] (S' := []) rfl ?_
  refine wc_seq ?_
  refine wc_region ?_
  refine wl_pure rfl rfl rfl (freshS_eq rfl) rfl ?_
  refine wl_nil ?_
  refine we_then ?_
  refine wc_ret ?_
  refine we_then_ret ?_
  have hE := (Option.some.inj hm).symm
  replace hE := hE.symm
  subst hE
  refine ret_one (Hr := []) [] Tryd.results36 (res_tmp rfl) ⟨rfl, rfl, rfl⟩ (fun _ _ hφ => ask [] rfl hφ) rfl rfl (.inl rfl)
 ·
  replace hm := iteF hm hb10
  refine wc_keep [0, 1] (S' := [_,_]) rfl ?_
  refine wc_skip ?_
  refine we_then ?_
  refine wc_seq ?_
  obtain ⟨bj_1, hm, hLj_1⟩ := bindS_some hm
  refine wc_cut (σ := Unit) (fun _ => bj_1 = .inl ()) (fun _ => []) (fun _ => []) (fun _ => []) ?_ ?_
  ·
   refine wc_seq ?_
   refine wc_region ?_
   refine wl_pure rfl rfl rfl (freshS_eq rfl) rfl ?_
   refine wl_len rfl rfl rfl (freshS_eq rfl) rfl rfl tE_26 ?_
   refine wl_pure rfl rfl rfl (freshS_eq rfl) rfl ?_
   refine wl_nil ?_
   refine we_then ?_
   refine wc_keep [13, 12, 0, 1] (S' := [_,_,_,_]) rfl ?_
   refine wc_block ?_
   refine wc_loop (σ := Nat × Nat) (fun (nu1, u1_13) => iter (m_memory_same_L1 N l0 l1) nu1 u1_13 = some bj_1) (fun (nu1, u1_13) => nu1) (fun (nu1, u1_13) => [(13, .int .i64 ((u1_13 : Nat) : Int)), (12, .int .i64 ((l0.length : Nat) : Int)), (0, .slice qp0 l0.length qc1), (1, .slice qp2 l1.length qc3)]) (fun (nu1, u1_13) => [.sli 3 R_V qp0 qc1 l0, .sli 3 R_V qp2 qc3 l1]) (fun (nu1, u1_13) => []) (N, 0) hm [13, 12, 0, 1] rfl (fun _ _ hφ => ask [0, 1] rfl hφ) rfl (fun s_ hm => ?_)
   obtain ⟨nu1, u1_13⟩ := s_
   try dsimp only at hm ⊢
   obtain ⟨mu1, bu1, hnu1, hq, hLu1⟩ := iter_some hm
   clear hm
   subst hnu1
   replace hm := hq
   clear hq
   unfold m_memory_same_L1 at hm
   try dsimp only at hm
   refine wc_seq ?_
   refine wc_region ?_
   refine wl_pure rfl rfl rfl (freshS_eq rfl) rfl ?_
   refine wl_as (d := 14) (v' := .bool (decide (u1_13 < l0.length))) (S' := [_,_,_,_]) rfl rfl (natlt (a := u1_13) (b := l0.length)) ?_
   refine wl_nil ?_
   refine we_then ?_
   refine wc_seq ?_
   refine wc_cond rfl (fun hb14 => ?_) (fun hb14 => ?_)
   ·
    replace hm := iteT hm hb14
    refine wc_keep [13, 12, 0, 1] (S' := [_,_,_,_]) rfl ?_
    refine wc_skip ?_
    refine we_then ?_
    refine wc_seq ?_
    refine wc_block ?_
    refine wc_seq ?_
    refine wc_region ?_
    refine wl_pure rfl rfl rfl (freshS_eq rfl) rfl ?_
    refine wl_pure rfl rfl rfl (freshS_eq rfl) rfl ?_
    refine wl_nil ?_
    refine we_then ?_
    refine wc_keep [5, 13, 12, 0, 1] (S' := [_,_,_,_,_]) rfl ?_
    refine wc_seq ?_
    obtain ⟨x18, hx18, hm⟩ := bindO_some hm
    obtain ⟨x22, hx22, hm⟩ := bindO_some hm
    refine wc_draw [0, 1, 2, 3, 4, 5, 6, 7, 8] rfl rfl (fun hok => ?_)
    refine wx_pure hok 0 rfl rfl rfl (freshS_eq rfl) rfl rfl ?_
    refine wx_pure hok 1 rfl rfl rfl (freshS_eq rfl) rfl rfl ?_
    refine wx_indexA hok 2 0 u1_13 rfl rfl rfl (freshS_eq rfl) rfl rfl rfl rfl rfl rfl hx18 tE_26 tS_55 (fun b18 q18 cs18 hlx18 => ?_)
    refine wx_openR R_V_opens 1 rfl (fun r18 er18 _ => ?_)
    subst er18
    refine wx_load hok 3 0 0 rfl rfl rfl (freshS_eq rfl) rfl rfl rfl rfl (cs := [_,_,_]) rfl tS_55 tA_55 rfl rfl ?_
    refine wx_pure hok 4 rfl rfl rfl (freshS_eq rfl) rfl rfl ?_
    refine wx_pure hok 5 rfl rfl rfl (freshS_eq rfl) rfl rfl ?_
    refine wx_indexA hok 6 3 u1_13 rfl rfl rfl (freshS_eq rfl) rfl rfl rfl rfl rfl rfl hx22 tE_26 tS_55 (fun b22 q22 cs22 hlx22 => ?_)
    refine wx_openR R_V_opens 1 rfl (fun r22 er22 _ => ?_)
    subst er22
    refine wx_load hok 7 0 0 rfl rfl rfl (freshS_eq rfl) rfl rfl rfl rfl (cs := [_,_,_]) rfl tS_55 tA_55 rfl rfl ?_
    refine wx_bin hok 8 rfl rfl rfl (freshS_eq rfl) rfl rfl rfl rfl (neqV _ _ x18 x22) ?_
    refine wx_done hok rfl ?_
    refine we_then ?_
    refine wc_keep [24, 13, 12, 0, 1] (S' := [_,_,_,_,_]) rfl ?_
    refine wc_cond rfl (fun hb24 => ?_) (fun hb24 => ?_)
    ·
     replace hm := iteT hm hb24
     refine wc_keep [] (S' := []) rfl ?_
     refine wc_seq ?_
     refine wc_region ?_
     refine wl_pure rfl rfl rfl (freshS_eq rfl) rfl ?_
     refine wl_nil ?_
     refine we_then ?_
     refine wc_ret ?_
     refine we_block_ret ?_
     refine we_then_ret ?_
     refine we_then_ret ?_
     refine we_block_ret ?_
     refine we_then_ret ?_
     have hE := (Option.some.inj hm).symm
     replace hE := link_inr hLu1 hE
     replace hE := link_inr hLj_1 hE
     replace hE := hE.symm
     subst hE
     refine ret_one (Hr := []) [] Tryd.results36 (res_tmp rfl) ⟨rfl, rfl, rfl⟩ (fun _ _ hφ => ask [] rfl hφ) rfl rfl (.inl rfl)
    ·
     replace hm := iteF hm hb24
     refine wc_keep [13, 12, 0, 1] (S' := [_,_,_,_]) rfl ?_
     refine wc_skip ?_
     refine we_block_normal ?_
     refine we_then ?_
     refine wc_region ?_
     refine wl_pure rfl rfl rfl (freshS_eq rfl) rfl ?_
     obtain ⟨hg25, hm⟩ := gd_some hm
     refine wl_as (d := 25) (v' := .int .i64 ((u1_13 + 1 : Nat) : Int)) (S' := [_,_,_,_]) rfl rfl (nat_add (a := u1_13) (b := 1) hg25) ?_
     refine wl_pure (S' := [_,_,_,_]) rfl rfl rfl rfl rfl ?_
     refine wl_nil ?_
     have hE := (Option.some.inj hm).symm
     replace hE := link_inl hLu1 hE
     refine we_roundK (_, u1_13 + 1) (Nat.lt_succ_self _) hE [13, 12, 0, 1] rfl (fun _ _ hφ => ask [4, 5] rfl hφ) rfl
   ·
    replace hm := iteF hm hb14
    refine wc_keep [] (S' := []) rfl ?_
    refine wc_exit ?_
    refine we_then_exit ?_
    refine we_then_exit ?_
    refine we_block_hit ?_
    have hE := (Option.some.inj hm).symm
    replace hE := link_inr hLu1 hE
    refine we_join () hE [] rfl (fun _ _ hφ => ask [] rfl hφ) rfl
  ·
   rintro _ hE
   try dsimp only
   have hm := link_inl hLj_1 hE
   try dsimp only at hm
   refine wc_seq ?_
   refine wc_region ?_
   refine wl_pure rfl rfl rfl (freshS_eq rfl) rfl ?_
   refine wl_nil ?_
   refine we_then ?_
   refine wc_ret ?_
   have hE := (Option.some.inj hm).symm
   replace hE := hE.symm
   subst hE
   refine ret_one (Hr := []) [] Tryd.results36 (res_tmp rfl) ⟨rfl, rfl, rfl⟩ (fun _ _ hφ => ask [] rfl hφ) rfl rfl (.inl rfl)
set_option maxRecDepth 100000 in
set_option maxHeartbeats 4000000 in
theorem w_memory_row_says_1_v2_s (N : Nat) (a0 : Int) (a1 : Int) (qp0 : Option Addr) (qc1 : Nat) (l2 : List V) (qg2 : Nat) (a3 : Int) (qg3 : Nat) (qp4 : Option Addr) (qc5 : Nat) (l4 : List V) (o0 : Bool) (hm : m_memory_row_says_1 N a0 a1 l2 a3 l4 = some o0) : Spec Tryd.prog 35 [.agg #[.int .i64 a0, .int .i64 a1, .slice qp0 l2.length qc1], .pointer (some ⟨qg2, 0, none⟩), .pointer (some ⟨qg3, 0, none⟩)] [.sli 3 R_V qp0 qc1 l2, .sli 3 R_V qp4 qc5 l4] [.blk qg2 [.int .i64 a3] 3, .blk qg3 [.slice qp4 l4.length qc5] 26] (fun v Φr Hr => v = .bool o0 ∧ Φr = [.sli 3 R_V qp4 qc5 l4] ∧ Hr = [.blk qg2 [.int .i64 a3] 3, .blk qg3 [.slice qp4 l4.length qc5] 26]) := by
 unfold m_memory_row_says_1 at hm
 refine spec_of Tryd.func35 rfl Tryd.ntmps35 rfl (S := [_,_,_]) rfl (fun C => ?_)
 refine wc_seq ?_
 refine wc_region ?_
 refine wl_box rfl rfl rfl (freshS_eq rfl) rfl rfl rfl (fun g3 => ?_)
 refine wl_pure rfl rfl rfl (freshS_eq rfl) rfl ?_
 refine wl_nil ?_
 refine we_then ?_
 refine wc_keep [3, 1, 2] (S' := [_,_,_]) rfl ?_
 refine wc_seq ?_
 refine wc_region ?_
 refine wl_fieldAddr rfl rfl rfl (freshS_eq rfl) rfl rfl tF_42_1 ?_
 refine wl_loadH 0 1 rfl rfl rfl (freshS_eq rfl) rfl rfl rfl (cs := [_]) rfl tS_3 tA_3 rfl rfl ?_
 refine wl_loadH 1 0 rfl rfl rfl (freshS_eq rfl) rfl rfl rfl (cs := [_]) rfl tS_3 tA_3 rfl rfl ?_
 refine wl_pure rfl rfl rfl (freshS_eq rfl) rfl ?_
 refine wl_pure rfl rfl rfl (freshS_eq rfl) rfl ?_
 refine wl_split (d := 9) (S' := [_,_,_,_,_,_,_]) rfl rfl (fun hs9 => ?_) (fun hs9 => ?_)
 ·
  replace hm := iteT hm hs9
  refine wl_fieldAddr rfl rfl rfl (freshS_eq rfl) rfl rfl tF_42_2 ?_
  refine wl_loadH 0 2 rfl rfl rfl (freshS_eq rfl) rfl rfl rfl (cs := [_]) rfl tS_26 tA_26 rfl rfl ?_
  refine wl_loadH 2 0 rfl rfl rfl (freshS_eq rfl) rfl rfl rfl (cs := [_]) rfl tS_26 tA_26 rfl rfl ?_
  obtain ⟨v13, hc13, hm⟩ := bindO_some hm
  refine wl_call [] [0, 1, 2] rfl rfl rfl (freshS_eq rfl) rfl rfl fn_36 rfl (w_memory_same_v2_s N qp0 qc1 l2 qp4 qc5 l4 _ hc13) (fun _ _ hφ => ask [0, 1] rfl hφ) rfl (H' := [_,_,_]) rfl ?_
  rintro _ _ _ ⟨rfl, rfl, rfl⟩
  refine wl_pure rfl rfl rfl (freshS_eq rfl) rfl ?_
  refine wl_pure rfl rfl rfl (freshS_eq rfl) rfl ?_
  refine wl_nil ?_
  refine we_then ?_
  refine wc_keep [4] (S' := [_]) rfl ?_
  refine wc_ret ?_
  have hE := (Option.some.inj hm).symm
  replace hE := hE.symm
  subst hE
  refine ret_one (Hr := [_, _]) [1, 2] Tryd.results35 (res_tmp rfl) ⟨rfl, rfl, rfl⟩ (fun _ _ hφ => ask [1] rfl hφ) rfl rfl (.inl rfl)
 ·
  replace hm := iteF hm hs9
  refine wl_off rfl rfl rfl (freshS_eq rfl) ?_
  refine wl_off rfl rfl rfl (freshS_eq rfl) ?_
  refine wl_off rfl rfl rfl (freshS_eq rfl) ?_
  refine wl_off rfl rfl rfl (freshS_eq rfl) ?_
  refine wl_pure rfl rfl rfl (freshS_eq rfl) rfl ?_
  refine wl_pure rfl rfl rfl (freshS_eq rfl) rfl ?_
  refine wl_nil ?_
  refine we_then ?_
  refine wc_keep [4] (S' := [_]) rfl ?_
  refine wc_ret ?_
  have hE := (Option.some.inj hm).symm
  replace hE := hE.symm
  subst hE
  refine ret_one (Hr := [_, _]) [1, 2] Tryd.results35 (res_tmp rfl) ⟨rfl, rfl, rfl⟩ (fun _ _ hφ => ask [1] rfl hφ) rfl rfl (.inl rfl)
set_option maxRecDepth 100000 in
set_option maxHeartbeats 4000000 in
theorem w_slices_IndexFunc_Fact_v2_s (N : Nat) (qp0 : Option Addr) (qn1 : Nat) (qc2 : Nat) (l0 : List FactD) (qg3 : Nat) (a1 : Int) (qg4 : Nat) (qp5 : Option Addr) (qc6 : Nat) (l2 : List V) (o0 : Int) (hm : m_slices_IndexFunc_Fact N l0 a1 l2 = some o0) : Spec Tryd.prog 34 [.slice qp0 qn1 qc2, .func (.func 35) #[] #[.pointer (some ⟨qg3, 0, none⟩), .pointer (some ⟨qg4, 0, none⟩)]] [.sli 3 R_V qp5 qc6 l2] [.own 42 3 R_FactD (.slice qp0 qn1 qc2) l0, .blk qg3 [.int .i64 a1] 3, .blk qg4 [.slice qp5 l2.length qc6] 26] (fun v Φr Hr => v = .int .i64 o0 ∧ Φr = [.sli 3 R_V qp5 qc6 l2] ∧ Hr = [.own 42 3 R_FactD (.slice qp0 qn1 qc2) l0, .blk qg3 [.int .i64 a1] 3, .blk qg4 [.slice qp5 l2.length qc6] 26]) := by
 unfold m_slices_IndexFunc_Fact at hm
 refine spec_of Tryd.func34 rfl Tryd.ntmps34 rfl (S := [_,_]) rfl (fun C => ?_)
 refine wc_seq ?_
 refine wc_region ?_
 refine wl_pure rfl rfl rfl (freshS_eq rfl) rfl ?_
 refine wl_nil ?_
 refine we_then ?_
 refine wc_keep [0, 1] (S' := [_,_]) rfl ?_
 refine wc_seq ?_
 obtain ⟨bj_1, hm, hLj_1⟩ := bindS_some hm
 refine wc_cut (σ := Unit) (fun _ => bj_1 = .inl ()) (fun _ => []) (fun _ => [.sli 3 R_V qp5 qc6 l2]) (fun _ => [.own 42 3 R_FactD (.slice qp0 qn1 qc2) l0, .blk qg3 [.int .i64 a1] 3, .blk qg4 [.slice qp5 l2.length qc6] 26]) ?_ ?_
 ·
  refine wc_seq ?_
  refine wc_region ?_
  refine wl_pure rfl rfl rfl (freshS_eq rfl) rfl ?_
  refine wl_ownLen 0 rfl (fun hl7 _ => ?_)
  refine wl_len rfl rfl rfl (freshS_eq rfl) rfl rfl tE_35 ?_
  refine wl_as (d := 7) (v' := .int .i64 ((l0.length : Nat) : Int)) (S' := [_,_,_]) rfl rfl (len_is hl7) ?_
  refine wl_pure rfl rfl rfl (freshS_eq rfl) rfl ?_
  refine wl_nil ?_
  refine we_then ?_
  refine wc_keep [8, 7, 0, 1] (S' := [_,_,_,_]) rfl ?_
  refine wc_block ?_
  refine wc_loop (σ := Nat × Nat) (fun (nu1, u1_8) => iter (m_slices_IndexFunc_Fact_L1 N l0 a1 l2) nu1 u1_8 = some bj_1) (fun (nu1, u1_8) => nu1) (fun (nu1, u1_8) => [(8, .int .i64 ((u1_8 : Nat) : Int)), (7, .int .i64 ((l0.length : Nat) : Int)), (0, .slice qp0 qn1 qc2), (1, .func (.func 35) #[] #[.pointer (some ⟨qg3, 0, none⟩), .pointer (some ⟨qg4, 0, none⟩)])]) (fun (nu1, u1_8) => [.sli 3 R_V qp5 qc6 l2]) (fun (nu1, u1_8) => [.own 42 3 R_FactD (.slice qp0 qn1 qc2) l0, .blk qg3 [.int .i64 a1] 3, .blk qg4 [.slice qp5 l2.length qc6] 26]) (N, 0) hm [8, 7, 0, 1] rfl (fun _ _ hφ => ask [0] rfl hφ) rfl (fun s_ hm => ?_)
  obtain ⟨nu1, u1_8⟩ := s_
  try dsimp only at hm ⊢
  obtain ⟨mu1, bu1, hnu1, hq, hLu1⟩ := iter_some hm
  clear hm
  subst hnu1
  replace hm := hq
  clear hq
  unfold m_slices_IndexFunc_Fact_L1 at hm
  try dsimp only at hm
  refine wc_seq ?_
  refine wc_region ?_
  refine wl_pure rfl rfl rfl (freshS_eq rfl) rfl ?_
  refine wl_as (d := 9) (v' := .bool (decide (u1_8 < l0.length))) (S' := [_,_,_,_]) rfl rfl (natlt (a := u1_8) (b := l0.length)) ?_
  refine wl_nil ?_
  refine we_then ?_
  refine wc_seq ?_
  refine wc_cond rfl (fun hb9 => ?_) (fun hb9 => ?_)
  ·
   replace hm := iteT hm hb9
   refine wc_keep [8, 7, 0, 1] (S' := [_,_,_,_]) rfl ?_
   refine wc_skip ?_
   refine we_then ?_
   refine wc_seq ?_
   refine wc_block ?_
   refine wc_seq ?_
   refine wc_region ?_
   refine wl_pure rfl rfl rfl (freshS_eq rfl) rfl ?_
   refine wl_pure rfl rfl rfl (freshS_eq rfl) rfl ?_
   refine wl_nil ?_
   refine we_then ?_
   refine wc_keep [5, 8, 7, 0, 1] (S' := [_,_,_,_,_]) rfl ?_
   refine wc_seq ?_
   refine wc_region ?_
   refine wl_pure rfl rfl rfl (freshS_eq rfl) rfl ?_
   refine wl_pure rfl rfl rfl (freshS_eq rfl) rfl ?_
   refine wl_pure rfl rfl rfl (freshS_eq rfl) rfl ?_
   obtain ⟨x14, hx14, hm⟩ := bindO_some hm
   refine wl_indexH 0 u1_8 rfl rfl rfl (freshS_eq rfl) rfl rfl rfl rfl rfl (get_lt hx14) tE_35 tS_42 (fun g14 eg14 => ?_)
   subst eg14
   refine wl_loadRow R_FactD_opens 0 u1_8 0 rfl rfl rfl (freshS_eq rfl) rfl rfl rfl hx14 tS_42 tA_42 (v := fun r15 => .agg #[.int .i64 (x14.id), .int .i64 (x14.ty), .slice r15.1 x14.args.length r15.2]) (fun _ => rfl) (fun _ => rfl) (fun r15 _ => ?_)
   obtain ⟨v16, hc16, hm⟩ := bindO_some hm
   refine wl_callDyn [1, 2] [0] rfl rfl rfl (freshS_eq rfl) rfl rfl rfl fn_35 rfl rfl (w_memory_row_says_1_v2_s N x14.id x14.ty r15.1 r15.2 x14.args qg3 a1 qg4 qp5 qc6 l2 _ hc16) (fun _ _ hφ => ask [0, 1] rfl hφ) rfl (H' := [_]) rfl ?_
   rintro _ _ _ ⟨rfl, rfl, rfl⟩
   refine wl_nil ?_
   refine we_then ?_
   refine wc_keep [16, 5, 8, 7, 0, 1] (S' := [_,_,_,_,_,_]) rfl ?_
   refine wc_cond rfl (fun hb16 => ?_) (fun hb16 => ?_)
   ·
    replace hm := iteT hm hb16
    refine wc_keep [5] (S' := [_]) rfl ?_
    refine wc_seq ?_
    refine wc_region ?_
    refine wl_pure rfl rfl rfl (freshS_eq rfl) rfl ?_
    refine wl_pure rfl rfl rfl (freshS_eq rfl) rfl ?_
    refine wl_nil ?_
    refine we_then ?_
    refine wc_keep [4] (S' := [_]) rfl ?_
    refine wc_ret ?_
    refine we_block_ret ?_
    refine we_then_ret ?_
    refine we_then_ret ?_
    refine we_block_ret ?_
    refine we_then_ret ?_
    have hE := (Option.some.inj hm).symm
    replace hE := link_inr hLu1 hE
    replace hE := link_inr hLj_1 hE
    replace hE := hE.symm
    subst hE
    refine ret_one (Hr := [_, _, _]) [2, 0, 1] Tryd.results34 (res_tmp rfl) ⟨rfl, rfl, rfl⟩ (fun _ _ hφ => ask [0] rfl hφ) rfl rfl (.inl rfl)
   ·
    replace hm := iteF hm hb16
    refine wc_keep [8, 7, 0, 1] (S' := [_,_,_,_]) rfl ?_
    refine wc_skip ?_
    refine we_block_normal ?_
    refine we_then ?_
    refine wc_region ?_
    refine wl_pure rfl rfl rfl (freshS_eq rfl) rfl ?_
    obtain ⟨hg18, hm⟩ := gd_some hm
    refine wl_as (d := 18) (v' := .int .i64 ((u1_8 + 1 : Nat) : Int)) (S' := [_,_,_,_]) rfl rfl (nat_add (a := u1_8) (b := 1) hg18) ?_
    refine wl_pure (S' := [_,_,_,_]) rfl rfl rfl rfl rfl ?_
    refine wl_nil ?_
    have hE := (Option.some.inj hm).symm
    replace hE := link_inl hLu1 hE
    refine we_pick [2, 0, 1] rfl (H' := [_,_,_]) rfl ?_
    refine we_roundK (_, u1_8 + 1) (Nat.lt_succ_self _) hE [8, 7, 0, 1] rfl (fun _ _ hφ => ask [0] rfl hφ) rfl
  ·
   replace hm := iteF hm hb9
   refine wc_keep [] (S' := []) rfl ?_
   refine wc_exit ?_
   refine we_then_exit ?_
   refine we_then_exit ?_
   refine we_block_hit ?_
   have hE := (Option.some.inj hm).symm
   replace hE := link_inr hLu1 hE
   refine we_join () hE [] rfl (fun _ _ hφ => ask [0] rfl hφ) rfl
 ·
  rintro _ hE
  try dsimp only
  have hm := link_inl hLj_1 hE
  try dsimp only at hm
  refine wc_seq ?_
  refine wc_region ?_
  refine wl_pure rfl rfl rfl (freshS_eq rfl) rfl ?_
  refine wl_nil ?_
  refine we_then ?_
  refine wc_ret ?_
  have hE := (Option.some.inj hm).symm
  replace hE := hE.symm
  subst hE
  refine ret_one (Hr := [_, _, _]) [0, 1, 2] Tryd.results34 (res_tmp rfl) ⟨rfl, rfl, rfl⟩ (fun _ _ hφ => ask [0] rfl hφ) rfl rfl (.inl rfl)
set_option maxRecDepth 100000 in
set_option maxHeartbeats 4000000 in
theorem w_memory_row_says_v2_s (N : Nat) (qg0 : Nat) (qp1 : Option Addr) (qn2 : Nat) (qc3 : Nat) (l0 : List FactD) (a1 : Int) (a2 : Int) (qp4 : Option Addr) (qc5 : Nat) (l3 : List V) (o0 : Int) (hm : m_memory_row_says N l0 a1 a2 l3 = some o0) : Spec Tryd.prog 24 [.pointer (some ⟨qg0, 0, none⟩), .int .i64 a2, .slice qp4 l3.length qc5] [.sli 3 R_V qp4 qc5 l3] [.blk qg0 [.slice qp1 qn2 qc3, .int .i64 a1] 60, .own 42 3 R_FactD (.slice qp1 qn2 qc3) l0] (fun v Φr Hr => v = .int .i64 o0 ∧ Φr = [] ∧ Hr = [.blk qg0 [.slice qp1 qn2 qc3, .int .i64 a1] 60, .own 42 3 R_FactD (.slice qp1 qn2 qc3) l0]) := by
 unfold m_memory_row_says at hm
 refine spec_of Tryd.func24 rfl Tryd.ntmps24 rfl (S := [_,_,_]) rfl (fun C => ?_)
 refine wc_seq ?_
 refine wc_region ?_
 refine wl_box rfl rfl rfl (freshS_eq rfl) rfl rfl rfl (fun g4 => ?_)
 refine wl_box rfl rfl rfl (freshS_eq rfl) rfl rfl rfl (fun g5 => ?_)
 refine wl_pure rfl rfl rfl (freshS_eq rfl) rfl ?_
 refine wl_nil ?_
 refine we_then ?_
 refine wc_keep [5, 4, 0] (S' := [_,_,_]) rfl ?_
 refine wc_seq ?_
 refine wc_region ?_
 refine wl_pure rfl rfl rfl (freshS_eq rfl) rfl ?_
 refine wl_pure rfl rfl rfl (freshS_eq rfl) rfl ?_
 refine wl_fieldAddr rfl rfl rfl (freshS_eq rfl) rfl rfl tF_58_0 ?_
 refine wl_loadH 2 0 rfl rfl rfl (freshS_eq rfl) rfl rfl rfl (cs := [_]) rfl tS_35 tA_35 rfl rfl ?_
 refine wl_makeFunc rfl rfl rfl (freshS_eq rfl) rfl rfl ?_
 obtain ⟨v12, hc12, hm⟩ := bindO_some hm
 refine wl_call [3, 1, 0] [2] rfl rfl rfl (freshS_eq rfl) rfl rfl fn_34 rfl (w_slices_IndexFunc_Fact_v2_s N qp1 qn2 qc3 l0 g4 a2 g5 qp4 qc5 l3 _ hc12) (fun _ _ hφ => ask [0] rfl hφ) rfl (H' := [_]) rfl ?_
 rintro _ _ _ ⟨rfl, rfl, rfl⟩
 refine wl_pure rfl rfl rfl (freshS_eq rfl) rfl ?_
 refine wl_nil ?_
 refine we_then ?_
 refine wc_keep [6] (S' := [_]) rfl ?_
 refine wc_ret ?_
 have hE := (Option.some.inj hm).symm
 replace hE := hE.symm
 subst hE
 refine ret_one (Hr := [_, _]) [3, 0] Tryd.results24 (res_tmp rfl) ⟨rfl, rfl, rfl⟩ (fun _ _ hφ => ask [] rfl hφ) rfl rfl (.inl rfl)
set_option maxRecDepth 100000 in
set_option maxHeartbeats 4000000 in
theorem Clone37f_s (p : Option Addr) (c : Nat) (l : List V) (hb : l.length ≤ 4398046511104) : Spec Tryd.prog 37 [.slice p l.length c] [.sli 3 R_V p c l] [] (fun v Φr Hr => ∃ p' c', v = .slice p' l.length c' ∧ Φr = [] ∧ Hr = [.own 55 3 R_V v l]) := by
 refine spec_of Tryd.func37 rfl Tryd.ntmps37 rfl (S := [_]) rfl (fun C => ?_)
 refine wc_know (fun F w h => sli_nil (h _ (mem_at (k := 0) rfl))) (fun isnil => ?_)
 refine wc_seq ?_
 refine wc_region ?_
 refine wl_pure rfl rfl rfl (freshS_eq rfl) rfl ?_
 refine wl_nil ?_
 refine we_then ?_
 refine wc_seq ?_
 refine wc_seq ?_
 refine wc_region ?_
 refine wl_pure rfl rfl rfl (freshS_eq rfl) rfl ?_
 refine wl_eqlNil rfl rfl rfl (freshS_eq rfl) rfl rfl rfl tE_26 ?_
 refine wl_nil ?_
 refine we_then ?_
 refine wc_keep [4, 2, 0] (S' := [_,_,_]) rfl ?_
 refine wc_cond rfl (fun h4 => ?_) (fun h4 => ?_)
 ·
  replace h4 := isNone_true h4
  obtain rfl := isnil h4
  subst h4
  refine wc_rowNil 55 3 R_V ?_
  refine wc_seq ?_
  refine wc_region ?_
  refine wl_pure (S' := [_,_]) rfl rfl rfl rfl rfl ?_
  refine wl_nil ?_
  refine we_then ?_
  refine wc_ret ?_
  refine we_then_ret ?_
  refine ret_one (Hr := [.own 55 3 R_V (.slice none 0 0) []]) [0] Tryd.results37 (res_tmp rfl) ?_ (fun _ _ hφ => ask [] rfl hφ) rfl rfl (.inl rfl)
  exact ⟨none, 0, rfl, rfl, rfl⟩
 ·
  replace h4 := isNone_false h4
  refine wc_skip ?_
  refine we_then ?_
  refine wc_seq ?_
  refine wc_region ?_
  refine wl_buildSlice rfl rfl rfl (freshS_eq rfl) rfl tE_26 tS_55 tZ_55 rfl (zs := []) (by kernel_rfl) rfl (out := []) rfl (fun g5 => ?_)
  refine wl_pure rfl rfl rfl (freshS_eq rfl) rfl ?_
  refine wl_row (sz := 3) (m := 0) R_V [] 0 rfl (fun F w hφ => rfl) rfl (by decide) (H' := [_]) rfl ?_
  refine wl_append 0 0 rfl rfl rfl (freshS_eq rfl) rfl rfl rfl rfl rfl tE_26 tR_55 rfl rfl (by simp; omega) (by simp; omega) (H2 := fun p7 c7 => [.own 55 3 R_V (.slice p7 (l).length c7) l]) (fun _ _ => rfl) (fun p7 c7 => ?_)
  refine wl_pure (S' := [_,_,_,_,_]) rfl rfl rfl rfl rfl ?_
  refine wl_nil ?_
  refine we_then ?_
  refine wc_keep [2, 4, 0] (S' := [_,_,_]) rfl ?_
  refine wc_ret ?_
  refine ret_one (Hr := [.own 55 3 R_V (.slice p7 (l).length c7) l]) [0] Tryd.results37 (res_tmp rfl) ?_ (fun _ _ hφ => ask [] rfl hφ) rfl rfl (.inl rfl)
  exact ⟨_, _, rfl, rfl, rfl⟩

set_option maxRecDepth 100000 in
set_option maxHeartbeats 4000000 in
theorem w_memory_own_v2_s (N : Nat) (a0 : Int) (a1 : Int) (qp0 : Option Addr) (qc1 : Nat) (l2 : List V)  (hm : m_memory_own N a0 a1 l2 = some ()) : Spec Tryd.prog 25 [.agg #[.int .i64 a0, .int .i64 a1, .slice qp0 l2.length qc1]] [.sli 3 R_V qp0 qc1 l2] [] (fun v Φr Hr => ∃ (o0 : Option Addr) (o1 : Nat), v = .agg #[.int .i64 a0, .int .i64 a1, .slice o0 l2.length o1] ∧ Φr = [] ∧ Hr = [.own 55 3 R_V (.slice o0 l2.length o1) l2]) := by
 unfold m_memory_own at hm
 refine spec_of Tryd.func25 rfl Tryd.ntmps25 rfl (S := [_]) rfl (fun C => ?_)
 refine wc_seq ?_
 refine wc_region ?_
 refine wl_box rfl rfl rfl (freshS_eq rfl) rfl rfl rfl (fun g1 => ?_)
 refine wl_alloc rfl rfl rfl (freshS_eq rfl) rfl tZ_42 rfl (fun g2 => ?_)
 refine wl_nil ?_
 refine we_then ?_
 refine wc_keep [2, 1] (S' := [_,_]) rfl ?_
 refine wc_seq ?_
 refine wc_region ?_
 refine wl_fieldAddr rfl rfl rfl (freshS_eq rfl) rfl rfl tF_42_2 ?_
 refine wl_loadH 1 2 rfl rfl rfl (freshS_eq rfl) rfl rfl rfl (cs := [_]) rfl tS_26 tA_26 rfl rfl ?_
 obtain ⟨hg5, hm⟩ := gd_some hm
 refine wl_call [] [0, 1] rfl rfl rfl (freshS_eq rfl) rfl rfl fn_37 rfl (Clone37f_s qp0 qc1 l2 hg5) (fun _ _ hφ => ask [0] rfl hφ) rfl (H' := [_,_]) rfl ?_
 rintro _ _ _ ⟨p5, c5, rfl, rfl, rfl⟩
 refine wl_fieldAddr rfl rfl rfl (freshS_eq rfl) rfl rfl tF_42_2 ?_
 refine wl_store 2 2 rfl rfl rfl rfl rfl rfl rfl tS_26 rfl rfl rfl (all' := [_,_,_]) rfl (H' := [_,_,_]) rfl ?_
 refine wl_nil ?_
 refine we_then ?_
 refine wc_keep [2, 1] (S' := [_,_]) rfl ?_
 refine wc_seq ?_
 refine wc_region ?_
 refine wl_loadH 2 0 rfl rfl rfl (freshS_eq rfl) rfl rfl rfl (cs := [_,_,_]) rfl tS_42 tA_42 rfl rfl ?_
 refine wl_store 1 0 rfl rfl rfl rfl rfl rfl rfl tS_42 rfl rfl rfl (all' := [_,_,_]) rfl (H' := [_,_,_]) rfl ?_
 refine wl_nil ?_
 refine we_then ?_
 refine wc_keep [2] (S' := [_]) rfl ?_
 refine wc_ret ?_
 have hE := (Option.some.inj hm).symm
 refine ret_one (Hr := [_]) [0] Tryd.results25 (res_cell 1 rfl rfl tS_42 tA_42 rfl rfl) ⟨p5, c5, rfl, rfl, rfl⟩ (fun _ _ hφ => ask [] rfl hφ) rfl rfl (.inl rfl)
end Go.Proofs.YtdnolbmbmncefaaDoor
