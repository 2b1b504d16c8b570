/- Walks, printed by a program out of the loaded code. -/
import Derived.Test.YtdkmibdiokmfbaaDoorXM
import Derived.Test.YtdkmibdiokmfbaaDoorTypesP
import Derived.Test.YtdkmibdiokmfbaaDoorEq
import Derived.Test.YtdkmibdiokmfbaaDoorMapK
import Derived.Test.YtdkmibdiokmfbaaDoorStr
import Derived.Test.YtdkmibdiokmfbaaDoorView
import Derived.Test.YtdkmibdiokmfbaaDoorMapE
import Derived.Test.YtdkmibdiokmfbaaDoorText
import Derived.Test.YtdkmibdiokmfbaaDoorSh
namespace Go.Proofs.YtdkmibdiokmfbaaDoor
open Go.RowKit
theorem tM_57 : Tryd.prog.underlying 57 = some (.map 22 53) := by kernel_rfl
theorem tM_71 : Tryd.prog.underlying 71 = some (.map 26 64) := by kernel_rfl
theorem tFT_25_1 : fldTy Tryd.prog 25 1 = some (2, 1) := by kernel_rfl
set_option maxRecDepth 100000 in
set_option maxHeartbeats 4000000 in
theorem w_ropewalklaw09_number_s (N : Nat) (a0 : Int)  (hm : m_ropewalklaw09_number N a0 = some ()) : Spec Tryd.prog 21 [.int .i64 a0] [] [] (fun v Φr Hr => v = .agg #[.int .u8 1, .int .u8 1, .int .i64 a0, .string ((⟨#[]⟩ : ByteArray)), .int .i64 0, .int .u8 0, .slice none 0 0] ∧ Φr = [] ∧ Hr = []) := by
 unfold m_ropewalklaw09_number at hm
 refine spec_of Tryd.func21 rfl Tryd.ntmps21 rfl (S := [_]) rfl (fun C => ?_)
 refine wc_seq ?_
 refine wc_region ?_
 refine wl_alloc rfl rfl rfl (freshS_eq rfl) rfl tZ_29 rfl (fun g2 => ?_)
 refine wl_nil ?_
 refine we_then ?_
 refine wc_seq ?_
 refine wc_region ?_
 refine wl_pure rfl rfl rfl (freshS_eq rfl) rfl ?_
 refine wl_build rfl rfl rfl (freshS_eq rfl) rfl tZ_25 tP_25 rfl (out := [_,_,_]) rfl ?_
 refine wl_build rfl rfl rfl (freshS_eq rfl) rfl tZ_29 tP_29 rfl (out := [_,_,_,_,_,_,_]) rfl ?_
 refine wl_store 0 0 rfl rfl rfl rfl rfl rfl rfl tS_29 rfl rfl rfl (all' := [_,_,_,_,_,_,_]) rfl (H' := [_]) rfl ?_
 refine wl_nil ?_
 refine we_then ?_
 refine wc_keep [2] (S' := [_]) rfl ?_
 refine wc_ret ?_
 have hE := (Option.some.inj hm).symm
 refine ret_one (Hr := []) [] Tryd.results21 (res_cell 0 rfl rfl tS_29 tA_29 rfl rfl) ⟨rfl, rfl, rfl⟩ (fun _ _ hφ => ask [] rfl hφ) rfl rfl (.inl rfl)
set_option maxRecDepth 100000 in
set_option maxHeartbeats 4000000 in
theorem w_ropewalklaw09_op_s (N : Nat) (a0 : Int) (a1 : Int) (a2 : Int) (a3 : Int) (a4 : ByteArray) (a5 : Int) (a6 : Int) (qp0 : Option Addr) (qc1 : Nat) (l7 : List Api_ExprD) (a8 : Int) (a9 : Int) (a10 : Int) (a11 : ByteArray) (a12 : Int) (a13 : Int) (qp2 : Option Addr) (qc3 : Nat) (l14 : List Api_ExprD)  (hm : m_ropewalklaw09_op N a0 a1 a2 a3 a4 a5 a6 l7 a8 a9 a10 a11 a12 a13 l14 = some ()) : Spec Tryd.prog 20 [.int .u8 a0, .agg #[.int .u8 a1, .int .u8 a2, .int .i64 a3, .string a4, .int .i64 a5, .int .u8 a6, .slice qp0 l7.length qc1], .agg #[.int .u8 a8, .int .u8 a9, .int .i64 a10, .string a11, .int .i64 a12, .int .u8 a13, .slice qp2 l14.length qc3]] [.sli 7 R_Api_ExprD qp0 qc1 l7, .sli 7 R_Api_ExprD qp2 qc3 l14] [] (fun v Φr Hr => ∃ (o0 : Nat), v = .agg #[.int .u8 3, .int .u8 0, .int .i64 0, .string ((⟨#[]⟩ : ByteArray)), .int .i64 0, .int .u8 a0, .slice (some ⟨o0, 0, none⟩) 2 2] ∧ Φr = [.sli 7 R_Api_ExprD qp0 qc1 l7, .sli 7 R_Api_ExprD qp2 qc3 l14] ∧ Hr = [.blk o0 [.int .u8 a1, .int .u8 a2, .int .i64 a3, .string a4, .int .i64 a5, .int .u8 a6, .slice qp0 l7.length qc1, .int .u8 a8, .int .u8 a9, .int .i64 a10, .string a11, .int .i64 a12, .int .u8 a13, .slice qp2 l14.length qc3] 29]) := by
 unfold m_ropewalklaw09_op at hm
 refine spec_of Tryd.func20 rfl Tryd.ntmps20 rfl (S := [_,_,_]) rfl (fun C => ?_)
 refine wc_seq ?_
 refine wc_region ?_
 refine wl_box rfl rfl rfl (freshS_eq rfl) rfl rfl rfl (fun g4 => ?_)
 refine wl_box rfl rfl rfl (freshS_eq rfl) rfl rfl rfl (fun g5 => ?_)
 refine wl_alloc rfl rfl rfl (freshS_eq rfl) rfl tZ_29 rfl (fun g6 => ?_)
 refine wl_nil ?_
 refine we_then ?_
 refine wc_keep [6, 5, 4, 0] (S' := [_,_,_,_]) rfl ?_
 refine wc_seq ?_
 refine wc_region ?_
 refine wl_pure rfl rfl rfl (freshS_eq rfl) rfl ?_
 refine wl_loadH 2 0 rfl rfl rfl (freshS_eq rfl) rfl rfl rfl (cs := [_,_,_,_,_,_,_]) rfl tS_29 tA_29 rfl rfl ?_
 refine wl_loadH 1 0 rfl rfl rfl (freshS_eq rfl) rfl rfl rfl (cs := [_,_,_,_,_,_,_]) rfl tS_29 tA_29 rfl rfl ?_
 refine wl_buildSlice rfl rfl rfl (freshS_eq rfl) rfl tE_27 tS_29 tZ_29 rfl (zs := [.int .u8 0, .int .u8 0, .int .i64 0, .string ((⟨#[]⟩ : ByteArray)), .int .i64 0, .int .u8 0, .slice none 0 0, .int .u8 0, .int .u8 0, .int .i64 0, .string ((⟨#[]⟩ : ByteArray)), .int .i64 0, .int .u8 0, .slice none 0 0]) (by kernel_rfl) rfl (out := [_,_,_,_,_,_,_,_,_,_,_,_,_,_]) rfl (fun g10 => ?_)
 refine wl_build rfl rfl rfl (freshS_eq rfl) rfl tZ_29 tP_29 rfl (out := [_,_,_,_,_,_,_]) rfl ?_
 refine wl_store 1 0 rfl rfl rfl rfl rfl rfl rfl tS_29 rfl rfl rfl (all' := [_,_,_,_,_,_,_]) rfl (H' := [_,_,_,_]) rfl ?_
 refine wl_nil ?_
 refine we_then ?_
 refine wc_keep [6] (S' := [_]) rfl ?_
 refine wc_ret ?_
 have hE := (Option.some.inj hm).symm
 refine ret_one (Hr := [_]) [0] Tryd.results20 (res_cell 1 rfl rfl tS_29 tA_29 rfl rfl) ⟨g10, rfl, rfl, rfl⟩ (fun _ _ hφ => ask [0, 1] rfl hφ) rfl rfl (.inl rfl)
set_option maxRecDepth 100000 in
set_option maxHeartbeats 4000000 in
theorem w_ropewalklaw09_op_v2_s (N : Nat) (a0 : Int) (a1 : Int) (a2 : Int) (a3 : Int) (a4 : ByteArray) (a5 : Int) (a6 : Int) (qp0 : Option Addr) (qn1 : Nat) (qc2 : Nat) (l7 : List Api_ExprD) (a8 : Int) (a9 : Int) (a10 : Int) (a11 : ByteArray) (a12 : Int) (a13 : Int) (qp3 : Option Addr) (qc4 : Nat) (l14 : List Api_ExprD)  (hm : m_ropewalklaw09_op N a0 a1 a2 a3 a4 a5 a6 l7 a8 a9 a10 a11 a12 a13 l14 = some ()) : Spec Tryd.prog 20 [.int .u8 a0, .agg #[.int .u8 a1, .int .u8 a2, .int .i64 a3, .string a4, .int .i64 a5, .int .u8 a6, .slice qp0 qn1 qc2], .agg #[.int .u8 a8, .int .u8 a9, .int .i64 a10, .string a11, .int .i64 a12, .int .u8 a13, .slice qp3 l14.length qc4]] [.sli 7 R_Api_ExprD qp3 qc4 l14] [.own 29 7 R_Api_ExprD (.slice qp0 qn1 qc2) l7] (fun v Φr Hr => ∃ (o0 : Nat), v = .agg #[.int .u8 3, .int .u8 0, .int .i64 0, .string ((⟨#[]⟩ : ByteArray)), .int .i64 0, .int .u8 a0, .slice (some ⟨o0, 0, none⟩) 2 2] ∧ Φr = [.sli 7 R_Api_ExprD qp3 qc4 l14] ∧ Hr = [.blk o0 [.int .u8 a1, .int .u8 a2, .int .i64 a3, .string a4, .int .i64 a5, .int .u8 a6, .slice qp0 qn1 qc2, .int .u8 a8, .int .u8 a9, .int .i64 a10, .string a11, .int .i64 a12, .int .u8 a13, .slice qp3 l14.length qc4] 29, .own 29 7 R_Api_ExprD (.slice qp0 qn1 qc2) l7]) := by
 unfold m_ropewalklaw09_op at hm
 refine spec_of Tryd.func20 rfl Tryd.ntmps20 rfl (S := [_,_,_]) rfl (fun C => ?_)
 refine wc_seq ?_
 refine wc_region ?_
 refine wl_box rfl rfl rfl (freshS_eq rfl) rfl rfl rfl (fun g4 => ?_)
 refine wl_box rfl rfl rfl (freshS_eq rfl) rfl rfl rfl (fun g5 => ?_)
 refine wl_alloc rfl rfl rfl (freshS_eq rfl) rfl tZ_29 rfl (fun g6 => ?_)
 refine wl_nil ?_
 refine we_then ?_
 refine wc_keep [6, 5, 4, 0] (S' := [_,_,_,_]) rfl ?_
 refine wc_seq ?_
 refine wc_region ?_
 refine wl_pure rfl rfl rfl (freshS_eq rfl) rfl ?_
 refine wl_loadH 2 0 rfl rfl rfl (freshS_eq rfl) rfl rfl rfl (cs := [_,_,_,_,_,_,_]) rfl tS_29 tA_29 rfl rfl ?_
 refine wl_loadH 1 0 rfl rfl rfl (freshS_eq rfl) rfl rfl rfl (cs := [_,_,_,_,_,_,_]) rfl tS_29 tA_29 rfl rfl ?_
 refine wl_buildSlice rfl rfl rfl (freshS_eq rfl) rfl tE_27 tS_29 tZ_29 rfl (zs := [.int .u8 0, .int .u8 0, .int .i64 0, .string ((⟨#[]⟩ : ByteArray)), .int .i64 0, .int .u8 0, .slice none 0 0, .int .u8 0, .int .u8 0, .int .i64 0, .string ((⟨#[]⟩ : ByteArray)), .int .i64 0, .int .u8 0, .slice none 0 0]) (by kernel_rfl) rfl (out := [_,_,_,_,_,_,_,_,_,_,_,_,_,_]) rfl (fun g10 => ?_)
 refine wl_build rfl rfl rfl (freshS_eq rfl) rfl tZ_29 tP_29 rfl (out := [_,_,_,_,_,_,_]) rfl ?_
 refine wl_store 1 0 rfl rfl rfl rfl rfl rfl rfl tS_29 rfl rfl rfl (all' := [_,_,_,_,_,_,_]) rfl (H' := [_,_,_,_,_]) rfl ?_
 refine wl_nil ?_
 refine we_then ?_
 refine wc_keep [6] (S' := [_]) rfl ?_
 refine wc_ret ?_
 have hE := (Option.some.inj hm).symm
 refine ret_one (Hr := [_, _]) [0, 4] Tryd.results20 (res_cell 1 rfl rfl tS_29 tA_29 rfl rfl) ⟨g10, rfl, rfl, rfl⟩ (fun _ _ hφ => ask [0] rfl hφ) rfl rfl (.inl rfl)
set_option maxRecDepth 100000 in
set_option maxHeartbeats 4000000 in
theorem w_value_named_s (N : Nat) (a0 : ByteArray) (o0 : Bool) (hm : m_value_named N a0 = some o0) : Spec Tryd.prog 34 [.string a0] [] [] (fun v Φr Hr => v = .bool o0 ∧ Φr = [] ∧ Hr = []) := by
 unfold m_value_named at hm
 refine spec_of Tryd.func34 rfl Tryd.ntmps34 rfl (S := [_]) rfl (fun C => ?_)
 refine wc_seq ?_
 refine wc_region ?_
 refine wl_pure rfl rfl rfl (freshS_eq rfl) rfl ?_
 refine wl_nil ?_
 refine we_then ?_
 refine wc_keep [0] (S' := [_]) rfl ?_
 refine wc_seq ?_
 obtain ⟨bj_1, hm, hLj_1⟩ := bindO_some hm
 unfold m_value_named_C1 at hm
 refine wc_cut (σ := Bool) (fun j_1_2 => bj_1 = j_1_2) (fun j_1_2 => [(2, .bool j_1_2)]) (fun j_1_2 => []) (fun j_1_2 => []) ?_ ?_
 ·
  refine wc_region ?_
  refine wl_pure rfl rfl rfl (freshS_eq rfl) rfl ?_
  refine wl_pure rfl rfl rfl (freshS_eq rfl) rfl ?_
  refine wl_pure rfl rfl rfl (freshS_eq rfl) rfl ?_
  refine wl_split (d := 5) (S' := [_,_,_]) rfl rfl (fun hs5 => ?_) (fun hs5 => ?_)
  ·
   replace hm := iteT hm hs5
   refine wl_pure rfl rfl rfl (freshS_eq rfl) rfl ?_
   refine wl_reck rfl rfl rfl (freshS_eq rfl) (rk_strLen rfl rfl tT_9) ?_
   refine wl_pure rfl rfl rfl (freshS_eq rfl) rfl ?_
   refine wl_as (d := 8) (v' := .bool (decide (a0.size ≤ 24))) (S' := [_,_,_,_,_,_]) rfl rfl (natle (a := a0.size) (b := 24)) ?_
   refine wl_pure rfl rfl rfl (freshS_eq rfl) rfl ?_
   refine wl_pure rfl rfl rfl (freshS_eq rfl) rfl ?_
   refine wl_split (d := 10) (S' := [_,_,_,_,_,_,_,_]) rfl rfl (fun hs10 => ?_) (fun hs10 => ?_)
   ·
    replace hm := iteT hm hs10
    refine wl_pure rfl rfl rfl (freshS_eq rfl) rfl ?_
    obtain ⟨x12, hx12, hm⟩ := bindO_some hm
    refine wl_reck rfl rfl rfl (freshS_eq rfl) (rk_strAt 0 rfl rfl rfl rfl hx12 tT_9) ?_
    refine wl_call [] [] rfl rfl rfl (freshS_eq rfl) rfl rfl fn_45 rfl (sh_IndexByte (⟨#[97, 98, 99, 100, 101, 102, 103, 104, 105, 106, 107, 108, 109, 110, 111, 112, 113, 114, 115, 116, 117, 118, 119, 120, 121, 122]⟩ : ByteArray) ((x12.toNat : Nat) : Int) ) (fun _ _ hφ => ask [] rfl hφ) rfl (H' := []) rfl ?_
    rintro _ _ _ ⟨rfl, rfl, rfl⟩
    refine wl_pure rfl rfl rfl (freshS_eq rfl) rfl ?_
    refine wl_pure rfl rfl rfl (freshS_eq rfl) rfl ?_
    refine wl_pure rfl rfl rfl (freshS_eq rfl) rfl ?_
    refine wl_split (d := 16) (S' := [_,_,_,_,_,_,_,_,_,_,_,_,_,_]) rfl rfl (fun hs16 => ?_) (fun hs16 => ?_)
    ·
     replace hm := iteT hm hs16
     refine wl_pure rfl rfl rfl (freshS_eq rfl) rfl ?_
     obtain ⟨hs18_0, hm⟩ := gd_some hm
     refine wl_call [] [] rfl rfl rfl (freshS_eq rfl) rfl rfl fn_46 rfl (sh_Trim a0 (⟨#[97, 98, 99, 100, 101, 102, 103, 104, 105, 106, 107, 108, 109, 110, 111, 112, 113, 114, 115, 116, 117, 118, 119, 120, 121, 122, 48, 49, 50, 51, 52, 53, 54, 55, 56, 57, 95]⟩ : ByteArray) (by decide) (ascii_of_all (by decide)) hs18_0) (fun _ _ hφ => ask [] rfl hφ) rfl (H' := []) rfl ?_
     rintro _ _ _ ⟨rfl, rfl, rfl⟩
     refine wl_pure rfl rfl rfl (freshS_eq rfl) rfl ?_
     refine wl_pure rfl rfl rfl (freshS_eq rfl) rfl ?_
     refine wl_pure rfl rfl rfl (freshS_eq rfl) rfl ?_
     refine wl_nil ?_
     have hE := (Option.some.inj hm).symm
     refine we_join ((⟨(Lib.trimS a0.data.toList (⟨#[97, 98, 99, 100, 101, 102, 103, 104, 105, 106, 107, 108, 109, 110, 111, 112, 113, 114, 115, 116, 117, 118, 119, 120, 121, 122, 48, 49, 50, 51, 52, 53, 54, 55, 56, 57, 95]⟩ : ByteArray).data.toList).toArray⟩ : ByteArray).toList == (⟨#[]⟩ : ByteArray).toList) hE [2] rfl (fun _ _ hφ => ask [] rfl hφ) rfl
    ·
     replace hm := iteF hm hs16
     refine wl_off rfl rfl rfl (freshS_eq rfl) ?_
     refine wl_off rfl rfl rfl (freshS_eq rfl) ?_
     refine wl_off rfl rfl rfl (freshS_eq rfl) ?_
     refine wl_pure rfl rfl rfl (freshS_eq rfl) rfl ?_
     refine wl_pure rfl rfl rfl (freshS_eq rfl) rfl ?_
     refine wl_nil ?_
     have hE := (Option.some.inj hm).symm
     refine we_join false hE [2] rfl (fun _ _ hφ => ask [] rfl hφ) rfl
   ·
    replace hm := iteF hm hs10
    refine wl_off rfl rfl rfl (freshS_eq rfl) ?_
    refine wl_off rfl rfl rfl (freshS_eq rfl) ?_
    refine wl_off rfl rfl rfl (freshS_eq rfl) ?_
    refine wl_off rfl rfl rfl (freshS_eq rfl) ?_
    refine wl_pure rfl rfl rfl (freshS_eq rfl) rfl ?_
    refine wl_pure rfl rfl rfl (freshS_eq rfl) rfl ?_
    refine wl_off rfl rfl rfl (freshS_eq rfl) ?_
    refine wl_off rfl rfl rfl (freshS_eq rfl) ?_
    refine wl_off rfl rfl rfl (freshS_eq rfl) ?_
    refine wl_pure rfl rfl rfl (freshS_eq rfl) rfl ?_
    refine wl_pure rfl rfl rfl (freshS_eq rfl) rfl ?_
    refine wl_nil ?_
    have hE := (Option.some.inj hm).symm
    refine we_join false hE [2] rfl (fun _ _ hφ => ask [] rfl hφ) rfl
  ·
   replace hm := iteF hm hs5
   refine wl_off rfl rfl rfl (freshS_eq rfl) ?_
   refine wl_off rfl rfl rfl (freshS_eq rfl) ?_
   refine wl_off rfl rfl rfl (freshS_eq rfl) ?_
   refine wl_pure rfl rfl rfl (freshS_eq rfl) rfl ?_
   refine wl_pure rfl rfl rfl (freshS_eq rfl) rfl ?_
   refine wl_off rfl rfl rfl (freshS_eq rfl) ?_
   refine wl_off rfl rfl rfl (freshS_eq rfl) ?_
   refine wl_off rfl rfl rfl (freshS_eq rfl) ?_
   refine wl_off rfl rfl rfl (freshS_eq rfl) ?_
   refine wl_pure rfl rfl rfl (freshS_eq rfl) rfl ?_
   refine wl_pure rfl rfl rfl (freshS_eq rfl) rfl ?_
   refine wl_off rfl rfl rfl (freshS_eq rfl) ?_
   refine wl_off rfl rfl rfl (freshS_eq rfl) ?_
   refine wl_off rfl rfl rfl (freshS_eq rfl) ?_
   refine wl_pure rfl rfl rfl (freshS_eq rfl) rfl ?_
   refine wl_pure rfl rfl rfl (freshS_eq rfl) rfl ?_
   refine wl_nil ?_
   have hE := (Option.some.inj hm).symm
   refine we_join false hE [2] rfl (fun _ _ hφ => ask [] rfl hφ) rfl
 ·
  rintro j_1_2 hE
  try dsimp only
  have hm := hLj_1
  rw [hE] at hm
  refine wc_ret ?_
  have hE := (Option.some.inj hm).symm
  replace hE := hE.symm
  subst hE
  refine ret_one (Hr := []) [] Tryd.results34 (res_tmp rfl) ⟨rfl, rfl, rfl⟩ (fun _ _ hφ => ask [] rfl hφ) rfl rfl (.inl rfl)
set_option maxRecDepth 100000 in
set_option maxHeartbeats 4000000 in
theorem w_value_Right_s (N : Nat) (a0 : Int) (a1 : Int) (a2 : ByteArray) (o0 : Bool) (hm : m_value_Right N a0 a1 a2 = some o0) : Spec Tryd.prog 17 [.agg #[.int .u8 a0, .int .i64 a1, .string a2]] [] [] (fun v Φr Hr => v = .bool o0 ∧ Φr = [] ∧ Hr = []) := by
 unfold m_value_Right at hm
 refine spec_of Tryd.func17 rfl Tryd.ntmps17 rfl (S := [_]) rfl (fun C => ?_)
 refine wc_seq ?_
 refine wc_region ?_
 refine wl_box rfl rfl rfl (freshS_eq rfl) rfl rfl rfl (fun g1 => ?_)
 refine wl_pure rfl rfl rfl (freshS_eq rfl) rfl ?_
 refine wl_nil ?_
 refine we_then ?_
 refine wc_keep [1] (S' := [_]) rfl ?_
 refine wc_seq ?_
 refine wc_seq ?_
 refine wc_region ?_
 refine wl_fieldAddr rfl rfl rfl (freshS_eq rfl) rfl rfl tF_25_0 ?_
 refine wl_loadH 0 0 rfl rfl rfl (freshS_eq rfl) rfl rfl rfl (cs := [_]) rfl tS_23 tA_23 rfl rfl ?_
 refine wl_nil ?_
 refine we_then ?_
 refine wc_keep [4, 1] (S' := [_,_]) rfl ?_
 refine wc_block ?_
 refine wc_seq ?_
 refine wc_region ?_
 refine wl_pure rfl rfl rfl (freshS_eq rfl) rfl ?_
 refine wl_pure rfl rfl rfl (freshS_eq rfl) rfl ?_
 refine wl_nil ?_
 refine we_then ?_
 refine wc_keep [5, 4, 1] (S' := [_,_,_]) rfl ?_
 refine wc_cond rfl (fun hb5 => ?_) (fun hb5 => ?_)
 ·
  replace hm := iteT hm hb5
  refine wc_keep [1] (S' := [_]) rfl ?_
  refine wc_seq ?_
  refine wc_region ?_
  refine wl_fieldAddr rfl rfl rfl (freshS_eq rfl) rfl rfl tF_25_2 ?_
  refine wl_loadH 0 2 rfl rfl rfl (freshS_eq rfl) rfl rfl rfl (cs := [_]) rfl tS_9 tA_9 rfl rfl ?_
  refine wl_pure rfl rfl rfl (freshS_eq rfl) rfl ?_
  refine wl_pure rfl rfl rfl (freshS_eq rfl) rfl ?_
  refine wl_nil ?_
  refine we_then ?_
  refine wc_keep [2] (S' := [_]) rfl ?_
  refine wc_ret ?_
  refine we_block_ret ?_
  refine we_then_ret ?_
  have hE := (Option.some.inj hm).symm
  replace hE := hE.symm
  subst hE
  refine ret_one (Hr := []) [] Tryd.results17 (res_tmp rfl) ⟨rfl, rfl, rfl⟩ (fun _ _ hφ => ask [] rfl hφ) rfl rfl (.inl rfl)
 ·
  replace hm := iteF hm hb5
  refine wc_keep [4, 1] (S' := [_,_]) rfl ?_
  refine wc_seq ?_
  refine wc_region ?_
  refine wl_pure rfl rfl rfl (freshS_eq rfl) rfl ?_
  refine wl_pure rfl rfl rfl (freshS_eq rfl) rfl ?_
  refine wl_nil ?_
  refine we_then ?_
  refine wc_keep [10, 1] (S' := [_,_]) rfl ?_
  refine wc_cond rfl (fun hb10 => ?_) (fun hb10 => ?_)
  ·
   replace hm := iteT hm hb10
   refine wc_keep [1] (S' := [_]) rfl ?_
   refine wc_seq ?_
   refine wc_region ?_
   refine wl_fieldAddr rfl rfl rfl (freshS_eq rfl) rfl rfl tF_25_1 ?_
   refine wl_loadH 0 1 rfl rfl rfl (freshS_eq rfl) rfl rfl rfl (cs := [_]) rfl tS_2 tA_2 rfl rfl ?_
   refine wl_pure rfl rfl rfl (freshS_eq rfl) rfl ?_
   refine wl_pure rfl rfl rfl (freshS_eq rfl) rfl ?_
   refine wl_split (d := 15) (S' := [_,_,_,_]) rfl rfl (fun hs15 => ?_) (fun hs15 => ?_)
   ·
    replace hm := iteT hm hs15
    refine wl_fieldAddr rfl rfl rfl (freshS_eq rfl) rfl rfl tF_25_2 ?_
    refine wl_loadH 0 2 rfl rfl rfl (freshS_eq rfl) rfl rfl rfl (cs := [_]) rfl tS_9 tA_9 rfl rfl ?_
    obtain ⟨v18, hc18, hm⟩ := bindO_some hm
    refine wl_call [] [0] rfl rfl rfl (freshS_eq rfl) rfl rfl fn_34 rfl (w_value_named_s N a2 _ hc18) (fun _ _ hφ => ask [] rfl hφ) rfl (H' := [_]) rfl ?_
    rintro _ _ _ ⟨rfl, rfl, rfl⟩
    refine wl_pure rfl rfl rfl (freshS_eq rfl) rfl ?_
    refine wl_pure rfl rfl rfl (freshS_eq rfl) rfl ?_
    refine wl_nil ?_
    refine we_then ?_
    refine wc_keep [2] (S' := [_]) rfl ?_
    refine wc_ret ?_
    refine we_block_ret ?_
    refine we_then_ret ?_
    have hE := (Option.some.inj hm).symm
    replace hE := hE.symm
    subst hE
    refine ret_one (Hr := []) [] Tryd.results17 (res_tmp rfl) ⟨rfl, rfl, rfl⟩ (fun _ _ hφ => ask [] rfl hφ) rfl rfl (.inl rfl)
   ·
    replace hm := iteF hm hs15
    refine wl_off rfl rfl rfl (freshS_eq rfl) ?_
    refine wl_off rfl rfl rfl (freshS_eq rfl) ?_
    refine wl_off rfl rfl rfl (freshS_eq rfl) ?_
    refine wl_pure rfl rfl rfl (freshS_eq rfl) rfl ?_
    refine wl_pure rfl rfl rfl (freshS_eq rfl) rfl ?_
    refine wl_nil ?_
    refine we_then ?_
    refine wc_keep [2] (S' := [_]) rfl ?_
    refine wc_ret ?_
    refine we_block_ret ?_
    refine we_then_ret ?_
    have hE := (Option.some.inj hm).symm
    replace hE := hE.symm
    subst hE
    refine ret_one (Hr := []) [] Tryd.results17 (res_tmp rfl) ⟨rfl, rfl, rfl⟩ (fun _ _ hφ => ask [] rfl hφ) rfl rfl (.inl rfl)
  ·
   replace hm := iteF hm hb10
   refine wc_keep [] (S' := []) rfl ?_
   refine wc_skip ?_
   refine we_block_normal ?_
   refine we_then ?_
   refine wc_seq ?_
   refine wc_region ?_
   refine wl_pure rfl rfl rfl (freshS_eq rfl) rfl ?_
   refine wl_nil ?_
   refine we_then ?_
   refine wc_ret ?_
   have hE := (Option.some.inj hm).symm
   replace hE := hE.symm
   subst hE
   refine ret_one (Hr := []) [] Tryd.results17 (res_tmp rfl) ⟨rfl, rfl, rfl⟩ (fun _ _ hφ => ask [] rfl hφ) rfl rfl (.inl rfl)
set_option maxRecDepth 100000 in
set_option maxHeartbeats 4000000 in
theorem w_expr_sure_s (N : Nat) (a0 : Int) (a1 : Int) (a2 : ByteArray) (o0 : Int) (o1 : Int) (o2 : ByteArray) (o3 : Nat) (hm : m_expr_sure N a0 a1 a2 = some (o0, o1, o2, o3)) : Spec Tryd.prog 26 [.agg #[.int .u8 a0, .int .i64 a1, .string a2]] [] [] (fun v Φr Hr => v = .tuple #[.agg #[.int .u8 o0, .int .i64 o1, .string o2], .int .i64 ((o3 : Nat) : Int)] ∧ Φr = [] ∧ Hr = []) := by
 unfold m_expr_sure at hm
 refine spec_of Tryd.func26 rfl Tryd.ntmps26 rfl (S := [_]) rfl (fun C => ?_)
 refine wc_seq ?_
 refine wc_region ?_
 refine wl_box rfl rfl rfl (freshS_eq rfl) rfl rfl rfl (fun g1 => ?_)
 refine wl_alloc rfl rfl rfl (freshS_eq rfl) rfl tZ_25 rfl (fun g2 => ?_)
 refine wl_pure rfl rfl rfl (freshS_eq rfl) rfl ?_
 refine wl_nil ?_
 refine we_then ?_
 refine wc_keep [2, 1] (S' := [_,_]) rfl ?_
 refine wc_seq ?_
 refine wc_seq ?_
 refine wc_region ?_
 refine wl_loadH 1 0 rfl rfl rfl (freshS_eq rfl) rfl rfl rfl (cs := [_,_,_]) rfl tS_25 tA_25 rfl rfl ?_
 obtain ⟨v5, hc5, hm⟩ := bindO_some hm
 refine wl_call [] [0, 1] rfl rfl rfl (freshS_eq rfl) rfl rfl fn_17 rfl (w_value_Right_s N a0 a1 a2 _ hc5) (fun _ _ hφ => ask [] rfl hφ) rfl (H' := [_,_]) rfl ?_
 rintro _ _ _ ⟨rfl, rfl, rfl⟩
 refine wl_pure rfl rfl rfl (freshS_eq rfl) rfl ?_
 refine wl_nil ?_
 refine we_then ?_
 refine wc_keep [6, 2, 1] (S' := [_,_,_]) rfl ?_
 refine wc_cond rfl (fun hb6 => ?_) (fun hb6 => ?_)
 ·
  replace hm := iteT hm hb6
  refine wc_keep [2] (S' := [_]) rfl ?_
  refine wc_seq ?_
  refine wc_region ?_
  refine wl_build rfl rfl rfl (freshS_eq rfl) rfl tZ_25 tP_25 rfl (out := [_,_,_]) rfl ?_
  refine wl_store 0 0 rfl rfl rfl rfl rfl rfl rfl tS_25 rfl rfl rfl (all' := [_,_,_]) rfl (H' := [_,_]) rfl ?_
  refine wl_pure rfl rfl rfl (freshS_eq rfl) rfl ?_
  refine wl_nil ?_
  refine we_then ?_
  refine wc_keep [3, 2] (S' := [_,_]) rfl ?_
  refine wc_ret ?_
  refine we_then_ret ?_
  have hE := (Option.some.inj hm).symm
  obtain ⟨hE0, hF1⟩ := Prod.mk.inj hE
  obtain ⟨hE1, hF2⟩ := Prod.mk.inj hF1
  obtain ⟨hE2, hE3⟩ := Prod.mk.inj hF2
  clear hE hF1 hF2
  replace hE0 := hE0.symm
  subst hE0
  replace hE1 := hE1.symm
  subst hE1
  replace hE2 := hE2.symm
  subst hE2
  replace hE3 := hE3.symm
  subst hE3
  refine ret_two (Hr := []) [] Tryd.results26 (res_cell 0 rfl rfl tS_25 tA_25 rfl rfl) (res_tmp rfl) ⟨rfl, rfl, rfl⟩ (fun _ _ hφ => ask [] rfl hφ) rfl rfl (.inl rfl)
 ·
  replace hm := iteF hm hb6
  refine wc_keep [2, 1] (S' := [_,_]) rfl ?_
  refine wc_skip ?_
  refine we_then ?_
  refine wc_seq ?_
  refine wc_region ?_
  refine wl_loadH 1 0 rfl rfl rfl (freshS_eq rfl) rfl rfl rfl (cs := [_,_,_]) rfl tS_25 tA_25 rfl rfl ?_
  refine wl_store 0 0 rfl rfl rfl rfl rfl rfl rfl tS_25 rfl rfl rfl (all' := [_,_,_]) rfl (H' := [_,_]) rfl ?_
  refine wl_pure rfl rfl rfl (freshS_eq rfl) rfl ?_
  refine wl_nil ?_
  refine we_then ?_
  refine wc_keep [3, 2] (S' := [_,_]) rfl ?_
  refine wc_ret ?_
  have hE := (Option.some.inj hm).symm
  obtain ⟨hE0, hF1⟩ := Prod.mk.inj hE
  obtain ⟨hE1, hF2⟩ := Prod.mk.inj hF1
  obtain ⟨hE2, hE3⟩ := Prod.mk.inj hF2
  clear hE hF1 hF2
  replace hE0 := hE0.symm
  subst hE0
  replace hE1 := hE1.symm
  subst hE1
  replace hE2 := hE2.symm
  subst hE2
  replace hE3 := hE3.symm
  subst hE3
  refine ret_two (Hr := []) [] Tryd.results26 (res_cell 0 rfl rfl tS_25 tA_25 rfl rfl) (res_tmp rfl) ⟨rfl, rfl, rfl⟩ (fun _ _ hφ => ask [] rfl hφ) rfl rfl (.inl rfl)
set_option maxRecDepth 100000 in
set_option maxHeartbeats 4000000 in
theorem w_expr_Eval_1_s (N : Nat) (qg0 : Nat) (a0 : Int) (a1 : Int) (a2 : Int) (a3 : ByteArray) (a4 : Int) (a5 : Int) (qp1 : Option Addr) (qc2 : Nat) (l6 : List Api_ExprD) (o0 : Int) (o1 : Int) (o2 : ByteArray) (o3 : Nat) (hm : m_expr_Eval_1 N a0 a1 a2 a3 a4 a5 l6 = some (o0, o1, o2, o3)) : Spec Tryd.prog 25 [.pointer (some ⟨qg0, 0, none⟩)] [.sli 7 R_Api_ExprD qp1 qc2 l6] [.blk qg0 [.int .u8 a0, .int .u8 a1, .int .i64 a2, .string a3, .int .i64 a4, .int .u8 a5, .slice qp1 l6.length qc2] 29] (fun v Φr Hr => v = .tuple #[.agg #[.int .u8 o0, .int .i64 o1, .string o2], .int .i64 ((o3 : Nat) : Int)] ∧ Φr = [.sli 7 R_Api_ExprD qp1 qc2 l6] ∧ Hr = [.blk qg0 [.int .u8 a0, .int .u8 a1, .int .i64 a2, .string a3, .int .i64 a4, .int .u8 a5, .slice qp1 l6.length qc2] 29]) := by
 unfold m_expr_Eval_1 at hm
 refine spec_of Tryd.func25 rfl Tryd.ntmps25 rfl (S := [_]) rfl (fun C => ?_)
 refine wc_seq ?_
 refine wc_region ?_
 refine wl_alloc rfl rfl rfl (freshS_eq rfl) rfl tZ_25 rfl (fun g1 => ?_)
 refine wl_pure rfl rfl rfl (freshS_eq rfl) rfl ?_
 refine wl_nil ?_
 refine we_then ?_
 refine wc_keep [1, 0] (S' := [_,_]) rfl ?_
 refine wc_seq ?_
 refine wc_region ?_
 refine wl_fieldAddr rfl rfl rfl (freshS_eq rfl) rfl rfl tF_29_1 ?_
 refine wl_loadH 1 1 rfl rfl rfl (freshS_eq rfl) rfl rfl rfl (cs := [_,_,_]) rfl tS_25 tA_25 rfl rfl ?_
 obtain ⟨⟨v5_0, v5_1, v5_2, v5_3⟩, hc5, hm⟩ := bindO_some hm
 try dsimp only at hm
 refine wl_call [] [0, 1] rfl rfl rfl (freshS_eq rfl) rfl rfl fn_26 rfl (w_expr_sure_s N a1 a2 a3 _ _ _ _ hc5) (fun _ _ hφ => ask [] rfl hφ) rfl (H' := [_,_]) rfl ?_
 rintro _ _ _ ⟨rfl, rfl, rfl⟩
 refine wl_pure rfl rfl rfl (freshS_eq rfl) rfl ?_
 refine wl_pure rfl rfl rfl (freshS_eq rfl) rfl ?_
 refine wl_store 0 0 rfl rfl rfl rfl rfl rfl rfl tS_25 rfl rfl rfl (all' := [_,_,_]) rfl (H' := [_,_]) rfl ?_
 refine wl_pure rfl rfl rfl (freshS_eq rfl) rfl ?_
 refine wl_nil ?_
 refine we_then ?_
 refine wc_keep [2, 1] (S' := [_,_]) rfl ?_
 refine wc_ret ?_
 have hE := (Option.some.inj hm).symm
 obtain ⟨hE0, hF1⟩ := Prod.mk.inj hE
 obtain ⟨hE1, hF2⟩ := Prod.mk.inj hF1
 obtain ⟨hE2, hE3⟩ := Prod.mk.inj hF2
 clear hE hF1 hF2
 replace hE0 := hE0.symm
 subst hE0
 replace hE1 := hE1.symm
 subst hE1
 replace hE2 := hE2.symm
 subst hE2
 replace hE3 := hE3.symm
 subst hE3
 refine ret_two (Hr := [_]) [1] Tryd.results25 (res_cell 0 rfl rfl tS_25 tA_25 rfl rfl) (res_tmp rfl) ⟨rfl, rfl, rfl⟩ (fun _ _ hφ => ask [0] rfl hφ) rfl rfl (.inl rfl)
set_option maxRecDepth 100000 in
set_option maxHeartbeats 4000000 in
theorem w_expr_Eval_2_s (N : Nat) (qg0 : Nat) (a0 : Int) (a1 : Int) (a2 : Int) (a3 : ByteArray) (a4 : Int) (a5 : Int) (qp1 : Option Addr) (qc2 : Nat) (l6 : List Api_ExprD) (qg3 : Nat) (qp4 : Option Addr) (qc5 : Nat) (l7 : List V) (o0 : Int) (o1 : Int) (o2 : ByteArray) (o3 : Nat) (hm : m_expr_Eval_2 N a0 a1 a2 a3 a4 a5 l6 l7 = some (o0, o1, o2, o3)) : Spec Tryd.prog 27 [.pointer (some ⟨qg0, 0, none⟩), .pointer (some ⟨qg3, 0, none⟩)] [.sli 7 R_Api_ExprD qp1 qc2 l6, .sli 3 R_V qp4 qc5 l7] [.blk qg0 [.int .u8 a0, .int .u8 a1, .int .i64 a2, .string a3, .int .i64 a4, .int .u8 a5, .slice qp1 l6.length qc2] 29, .blk qg3 [.slice qp4 l7.length qc5] 30] (fun v Φr Hr => v = .tuple #[.agg #[.int .u8 o0, .int .i64 o1, .string o2], .int .i64 ((o3 : Nat) : Int)] ∧ Φr = [.sli 7 R_Api_ExprD qp1 qc2 l6, .sli 3 R_V qp4 qc5 l7] ∧ Hr = [.blk qg0 [.int .u8 a0, .int .u8 a1, .int .i64 a2, .string a3, .int .i64 a4, .int .u8 a5, .slice qp1 l6.length qc2] 29, .blk qg3 [.slice qp4 l7.length qc5] 30]) := by
 unfold m_expr_Eval_2 at hm
 refine spec_of Tryd.func27 rfl Tryd.ntmps27 rfl (S := [_,_]) rfl (fun C => ?_)
 refine wc_seq ?_
 refine wc_region ?_
 refine wl_alloc rfl rfl rfl (freshS_eq rfl) rfl tZ_25 rfl (fun g2 => ?_)
 refine wl_pure rfl rfl rfl (freshS_eq rfl) rfl ?_
 refine wl_nil ?_
 refine we_then ?_
 refine wc_keep [2, 0, 1] (S' := [_,_,_]) rfl ?_
 refine wc_seq ?_
 refine wc_seq ?_
 obtain ⟨bj_1, hm, hLj_1⟩ := bindO_some hm
 refine wc_cut (σ := Bool) (fun j_1_13 => bj_1 = j_1_13) (fun j_1_13 => [(2, .pointer (some ⟨g2, 0, none⟩)), (0, .pointer (some ⟨qg0, 0, none⟩)), (1, .pointer (some ⟨qg3, 0, none⟩)), (13, .bool j_1_13)]) (fun j_1_13 => [.sli 7 R_Api_ExprD qp1 qc2 l6, .sli 3 R_V qp4 qc5 l7]) (fun j_1_13 => [.blk g2 [.int .u8 0, .int .i64 0, .string ((⟨#[]⟩ : ByteArray))] 25, .blk qg0 [.int .u8 a0, .int .u8 a1, .int .i64 a2, .string a3, .int .i64 a4, .int .u8 a5, .slice qp1 l6.length qc2] 29, .blk qg3 [.slice qp4 l7.length qc5] 30]) ?_ ?_
 ·
  refine wc_region ?_
  refine wl_fieldAddr rfl rfl rfl (freshS_eq rfl) rfl rfl tF_29_2 ?_
  refine wl_loadH 1 4 rfl rfl rfl (freshS_eq rfl) rfl rfl rfl (cs := [_]) rfl tS_3 tA_3 rfl rfl ?_
  refine wl_pure rfl rfl rfl (freshS_eq rfl) rfl ?_
  refine wl_pure rfl rfl rfl (freshS_eq rfl) rfl ?_
  refine wl_split (d := 7) (S' := [_,_,_,_,_,_]) rfl rfl (fun hs7 => ?_) (fun hs7 => ?_)
  ·
   replace hm := iteT hm hs7
   refine wl_off rfl rfl rfl (freshS_eq rfl) ?_
   refine wl_off rfl rfl rfl (freshS_eq rfl) ?_
   refine wl_off rfl rfl rfl (freshS_eq rfl) ?_
   refine wl_off rfl rfl rfl (freshS_eq rfl) ?_
   refine wl_off rfl rfl rfl (freshS_eq rfl) ?_
   refine wl_pure rfl rfl rfl (freshS_eq rfl) rfl ?_
   refine wl_nil ?_
   have hE := (Option.some.inj hm).symm
   refine we_join true hE [2, 0, 1, 13] rfl (fun _ _ hφ => ask [0, 1] rfl hφ) rfl
  ·
   replace hm := iteF hm hs7
   refine wl_fieldAddr rfl rfl rfl (freshS_eq rfl) rfl rfl tF_29_2 ?_
   refine wl_loadH 1 4 rfl rfl rfl (freshS_eq rfl) rfl rfl rfl (cs := [_]) rfl tS_3 tA_3 rfl rfl ?_
   refine wl_loadH 2 0 rfl rfl rfl (freshS_eq rfl) rfl rfl rfl (cs := [_]) rfl tS_30 tA_30 rfl rfl ?_
   refine wl_len rfl rfl rfl (freshS_eq rfl) rfl rfl tE_30 ?_
   refine wl_pure rfl rfl rfl (freshS_eq rfl) rfl ?_
   refine wl_pure rfl rfl rfl (freshS_eq rfl) rfl ?_
   refine wl_nil ?_
   have hE := (Option.some.inj hm).symm
   refine we_join (decide (a4 ≥ ((l7.length : Nat) : Int))) hE [2, 0, 1, 13] rfl (fun _ _ hφ => ask [0, 1] rfl hφ) rfl
 ·
  rintro j_1_13 hE
  try dsimp only
  have hm := hLj_1
  rw [hE] at hm
  refine wc_cond rfl (fun hb13 => ?_) (fun hb13 => ?_)
  ·
   replace hm := iteT hm hb13
   refine wc_keep [2] (S' := [_]) rfl ?_
   refine wc_seq ?_
   refine wc_region ?_
   refine wl_build rfl rfl rfl (freshS_eq rfl) rfl tZ_25 tP_25 rfl (out := [_,_,_]) rfl ?_
   refine wl_store 0 0 rfl rfl rfl rfl rfl rfl rfl tS_25 rfl rfl rfl (all' := [_,_,_]) rfl (H' := [_,_,_]) rfl ?_
   refine wl_pure rfl rfl rfl (freshS_eq rfl) rfl ?_
   refine wl_nil ?_
   refine we_then ?_
   refine wc_keep [3, 2] (S' := [_,_]) rfl ?_
   refine wc_ret ?_
   refine we_then_ret ?_
   have hE := (Option.some.inj hm).symm
   obtain ⟨hE0, hF1⟩ := Prod.mk.inj hE
   obtain ⟨hE1, hF2⟩ := Prod.mk.inj hF1
   obtain ⟨hE2, hE3⟩ := Prod.mk.inj hF2
   clear hE hF1 hF2
   replace hE0 := hE0.symm
   subst hE0
   replace hE1 := hE1.symm
   subst hE1
   replace hE2 := hE2.symm
   subst hE2
   replace hE3 := hE3.symm
   subst hE3
   refine ret_two (Hr := [_, _]) [1, 2] Tryd.results27 (res_cell 0 rfl rfl tS_25 tA_25 rfl rfl) (res_tmp rfl) ⟨rfl, rfl, rfl⟩ (fun _ _ hφ => ask [0, 1] rfl hφ) rfl rfl (.inl rfl)
  ·
   replace hm := iteF hm hb13
   refine wc_keep [2, 0, 1] (S' := [_,_,_]) rfl ?_
   refine wc_skip ?_
   refine we_then ?_
   refine wc_seq ?_
   refine wc_region ?_
   refine wl_loadH 2 0 rfl rfl rfl (freshS_eq rfl) rfl rfl rfl (cs := [_]) rfl tS_30 tA_30 rfl rfl ?_
   refine wl_fieldAddr rfl rfl rfl (freshS_eq rfl) rfl rfl tF_29_2 ?_
   refine wl_loadH 1 4 rfl rfl rfl (freshS_eq rfl) rfl rfl rfl (cs := [_]) rfl tS_3 tA_3 rfl rfl ?_
   obtain ⟨hn18, hm⟩ := gd_some hm
   obtain ⟨x18, hx18, hm⟩ := bindO_some hm
   refine wl_indexA 1 a4.toNat rfl rfl rfl (freshS_eq rfl) rfl rfl rfl rfl (toNat_eq hn18) hx18 tE_30 tS_25 (fun b18 q18 cs18 hlx18 => ?_)
   refine wl_open R_V_opens 1 rfl (fun r18 er18 _ => ?_)
   subst er18
   refine wl_load 0 0 rfl rfl rfl (freshS_eq rfl) rfl rfl rfl (cs := [_,_,_]) rfl tS_25 tA_25 rfl rfl ?_
   obtain ⟨⟨v20_0, v20_1, v20_2, v20_3⟩, hc20, hm⟩ := bindO_some hm
   try dsimp only at hm
   refine wl_call [] [0, 1, 2] rfl rfl rfl (freshS_eq rfl) rfl rfl fn_26 rfl (w_expr_sure_s N x18.k x18.n x18.s _ _ _ _ hc20) (fun _ _ hφ => ask [] rfl hφ) rfl (H' := [_,_,_]) rfl ?_
   rintro _ _ _ ⟨rfl, rfl, rfl⟩
   refine wl_pure rfl rfl rfl (freshS_eq rfl) rfl ?_
   refine wl_pure rfl rfl rfl (freshS_eq rfl) rfl ?_
   refine wl_store 0 0 rfl rfl rfl rfl rfl rfl rfl tS_25 rfl rfl rfl (all' := [_,_,_]) rfl (H' := [_,_,_]) rfl ?_
   refine wl_pure rfl rfl rfl (freshS_eq rfl) rfl ?_
   refine wl_nil ?_
   refine we_then ?_
   refine wc_keep [3, 2] (S' := [_,_]) rfl ?_
   refine wc_ret ?_
   have hE := (Option.some.inj hm).symm
   obtain ⟨hE0, hF1⟩ := Prod.mk.inj hE
   obtain ⟨hE1, hF2⟩ := Prod.mk.inj hF1
   obtain ⟨hE2, hE3⟩ := Prod.mk.inj hF2
   clear hE hF1 hF2
   replace hE0 := hE0.symm
   subst hE0
   replace hE1 := hE1.symm
   subst hE1
   replace hE2 := hE2.symm
   subst hE2
   replace hE3 := hE3.symm
   subst hE3
   refine ret_two (Hr := [_, _]) [1, 2] Tryd.results27 (res_cell 0 rfl rfl tS_25 tA_25 rfl rfl) (res_tmp rfl) ⟨rfl, rfl, rfl⟩ (fun _ _ hφ => ask [2, 3] rfl hφ) rfl rfl (.inl rfl)
set_option maxRecDepth 100000 in
set_option maxHeartbeats 4000000 in
theorem w_value_number_s (N : Nat) (a0 : Int)  (hm : m_value_number N a0 = some ()) : Spec Tryd.prog 39 [.int .i64 a0] [] [] (fun v Φr Hr => v = .agg #[.int .u8 1, .int .i64 a0, .string ((⟨#[]⟩ : ByteArray))] ∧ Φr = [] ∧ Hr = []) := by
 unfold m_value_number at hm
 refine spec_of Tryd.func39 rfl Tryd.ntmps39 rfl (S := [_]) rfl (fun C => ?_)
 refine wc_seq ?_
 refine wc_region ?_
 refine wl_alloc rfl rfl rfl (freshS_eq rfl) rfl tZ_25 rfl (fun g2 => ?_)
 refine wl_nil ?_
 refine we_then ?_
 refine wc_seq ?_
 refine wc_region ?_
 refine wl_pure rfl rfl rfl (freshS_eq rfl) rfl ?_
 refine wl_build rfl rfl rfl (freshS_eq rfl) rfl tZ_25 tP_25 rfl (out := [_,_,_]) rfl ?_
 refine wl_store 0 0 rfl rfl rfl rfl rfl rfl rfl tS_25 rfl rfl rfl (all' := [_,_,_]) rfl (H' := [_]) rfl ?_
 refine wl_nil ?_
 refine we_then ?_
 refine wc_keep [2] (S' := [_]) rfl ?_
 refine wc_ret ?_
 have hE := (Option.some.inj hm).symm
 refine ret_one (Hr := []) [] Tryd.results39 (res_cell 0 rfl rfl tS_25 tA_25 rfl rfl) ⟨rfl, rfl, rfl⟩ (fun _ _ hφ => ask [] rfl hφ) rfl rfl (.inl rfl)
set_option maxRecDepth 100000 in
set_option maxHeartbeats 4000000 in
theorem w_value_Truth_s (N : Nat) (a0 : Bool) (o0 : Int) (hm : m_value_Truth N a0 = some o0) : Spec Tryd.prog 37 [.bool a0] [] [] (fun v Φr Hr => v = .agg #[.int .u8 1, .int .i64 o0, .string ((⟨#[]⟩ : ByteArray))] ∧ Φr = [] ∧ Hr = []) := by
 unfold m_value_Truth at hm
 refine spec_of Tryd.func37 rfl Tryd.ntmps37 rfl (S := [_]) rfl (fun C => ?_)
 refine wc_seq ?_
 refine wc_region ?_
 refine wl_alloc rfl rfl rfl (freshS_eq rfl) rfl tZ_25 rfl (fun g2 => ?_)
 refine wl_nil ?_
 refine we_then ?_
 refine wc_seq ?_
 refine wc_seq ?_
 refine wc_region ?_
 refine wl_pure rfl rfl rfl (freshS_eq rfl) rfl ?_
 refine wl_nil ?_
 refine we_then ?_
 refine wc_keep [3, 2] (S' := [_,_]) rfl ?_
 refine wc_cond rfl (fun hb3 => ?_) (fun hb3 => ?_)
 ·
  replace hm := iteT hm hb3
  refine wc_keep [2] (S' := [_]) rfl ?_
  refine wc_seq ?_
  refine wc_region ?_
  obtain ⟨_, hc4, hm⟩ := bindO_some hm
  try dsimp only at hm
  refine wl_call [] [0] rfl rfl rfl (freshS_eq rfl) rfl rfl fn_39 rfl (w_value_number_s N 1 hc4) (fun _ _ hφ => ask [] rfl hφ) rfl (H' := [_]) rfl ?_
  rintro _ _ _ ⟨rfl, rfl, rfl⟩
  refine wl_store 0 0 rfl rfl rfl rfl rfl rfl rfl tS_25 rfl rfl rfl (all' := [_,_,_]) rfl (H' := [_]) rfl ?_
  refine wl_nil ?_
  refine we_then ?_
  refine wc_keep [2] (S' := [_]) rfl ?_
  refine wc_ret ?_
  refine we_then_ret ?_
  have hE := (Option.some.inj hm).symm
  replace hE := hE.symm
  subst hE
  refine ret_one (Hr := []) [] Tryd.results37 (res_cell 0 rfl rfl tS_25 tA_25 rfl rfl) ⟨rfl, rfl, rfl⟩ (fun _ _ hφ => ask [] rfl hφ) rfl rfl (.inl rfl)
 ·
  replace hm := iteF hm hb3
  refine wc_keep [2] (S' := [_]) rfl ?_
  refine wc_skip ?_
  refine we_then ?_
  refine wc_seq ?_
  refine wc_region ?_
  obtain ⟨_, hc5, hm⟩ := bindO_some hm
  try dsimp only at hm
  refine wl_call [] [0] rfl rfl rfl (freshS_eq rfl) rfl rfl fn_39 rfl (w_value_number_s N 0 hc5) (fun _ _ hφ => ask [] rfl hφ) rfl (H' := [_]) rfl ?_
  rintro _ _ _ ⟨rfl, rfl, rfl⟩
  refine wl_store 0 0 rfl rfl rfl rfl rfl rfl rfl tS_25 rfl rfl rfl (all' := [_,_,_]) rfl (H' := [_]) rfl ?_
  refine wl_nil ?_
  refine we_then ?_
  refine wc_keep [2] (S' := [_]) rfl ?_
  refine wc_ret ?_
  have hE := (Option.some.inj hm).symm
  replace hE := hE.symm
  subst hE
  refine ret_one (Hr := []) [] Tryd.results37 (res_cell 0 rfl rfl tS_25 tA_25 rfl rfl) ⟨rfl, rfl, rfl⟩ (fun _ _ hφ => ask [] rfl hφ) rfl rfl (.inl rfl)
set_option maxRecDepth 100000 in
set_option maxHeartbeats 4000000 in
theorem w_value_does_s0 (N : Nat) (a0 : Int)  (hm : m_value_does N a0 = some (.inl ())) : Spec Tryd.prog 38 [.int .u8 a0] [] [] (fun v Φr Hr => v = .func (.func 48) #[] #[] ∧ Φr = [] ∧ Hr = []) := by
 unfold m_value_does at hm
 refine spec_of Tryd.func38 rfl Tryd.ntmps38 rfl (S := [_]) rfl (fun C => ?_)
 refine wc_seq ?_
 refine wc_region ?_
 refine wl_pure rfl rfl rfl (freshS_eq rfl) rfl ?_
 refine wl_nil ?_
 refine we_then ?_
 refine wc_keep [0] (S' := [_]) rfl ?_
 refine wc_seq ?_
 refine wc_region ?_
 refine wl_alloc rfl rfl rfl (freshS_eq rfl) rfl tZ_70 rfl (fun g3 => ?_)
 refine wl_store 0 0 rfl rfl rfl rfl rfl rfl rfl tS_70 rfl rfl rfl (all' := [_]) rfl (H' := [_]) rfl ?_
 refine wl_nil ?_
 refine we_then ?_
 refine wc_seq ?_
 refine wc_region ?_
 refine wl_makeMapE (keyInt (tInt_run tI_26)) false valRep rfl rfl rfl (freshS_eq rfl) rfl (fun g4 => ?_)
 refine wl_mapPutE (i := 1) (u := .func (.func 48) #[] #[]) (cs := [.func (.func 48) #[] #[]]) 0 rfl rfl (.inr rfl) rfl rfl rfl rfl tM_71 trivial rfl (fun F w hφ => ⟨rfl, rfl⟩) (H' := [mapE (keyInt (tInt_run tI_26)) false valRep g4 ([(1, .func (.func 48) #[] #[])]), .blk g3 [.func (.func 47) #[] #[]] 70]) rfl ?_
 refine wl_mapPutE (i := 2) (u := .func (.func 49) #[] #[]) (cs := [.func (.func 49) #[] #[]]) 0 rfl rfl (.inr rfl) rfl rfl rfl rfl tM_71 trivial rfl (fun F w hφ => ⟨rfl, rfl⟩) (H' := [mapE (keyInt (tInt_run tI_26)) false valRep g4 ([(1, .func (.func 48) #[] #[]), (2, .func (.func 49) #[] #[])]), .blk g3 [.func (.func 47) #[] #[]] 70]) rfl ?_
 refine wl_mapPutE (i := 3) (u := .func (.func 50) #[] #[]) (cs := [.func (.func 50) #[] #[]]) 0 rfl rfl (.inr rfl) rfl rfl rfl rfl tM_71 trivial rfl (fun F w hφ => ⟨rfl, rfl⟩) (H' := [mapE (keyInt (tInt_run tI_26)) false valRep g4 ([(1, .func (.func 48) #[] #[]), (2, .func (.func 49) #[] #[]), (3, .func (.func 50) #[] #[])]), .blk g3 [.func (.func 47) #[] #[]] 70]) rfl ?_
 refine wl_mapPutE (i := 4) (u := .func (.func 51) #[] #[]) (cs := [.func (.func 51) #[] #[]]) 0 rfl rfl (.inr rfl) rfl rfl rfl rfl tM_71 trivial rfl (fun F w hφ => ⟨rfl, rfl⟩) (H' := [mapE (keyInt (tInt_run tI_26)) false valRep g4 ([(1, .func (.func 48) #[] #[]), (2, .func (.func 49) #[] #[]), (3, .func (.func 50) #[] #[]), (4, .func (.func 51) #[] #[])]), .blk g3 [.func (.func 47) #[] #[]] 70]) rfl ?_
 refine wl_makeFunc rfl rfl rfl (freshS_eq rfl) rfl rfl ?_
 refine wl_mapPutE (i := 7) (u := .func (.func 52) #[] #[.pointer (some ⟨g3, 0, none⟩)]) (cs := [.func (.func 52) #[] #[.pointer (some ⟨g3, 0, none⟩)]]) 0 rfl rfl (.inr rfl) rfl rfl rfl rfl tM_71 trivial rfl (fun F w hφ => ⟨rfl, rfl⟩) (H' := [mapE (keyInt (tInt_run tI_26)) false valRep g4 ([(1, .func (.func 48) #[] #[]), (2, .func (.func 49) #[] #[]), (3, .func (.func 50) #[] #[]), (4, .func (.func 51) #[] #[]), (7, .func (.func 52) #[] #[.pointer (some ⟨g3, 0, none⟩)])]), .blk g3 [.func (.func 47) #[] #[]] 70]) rfl ?_
 refine wl_makeFunc rfl rfl rfl (freshS_eq rfl) rfl rfl ?_
 refine wl_mapPutE (i := 8) (u := .func (.func 53) #[] #[.pointer (some ⟨g3, 0, none⟩)]) (cs := [.func (.func 53) #[] #[.pointer (some ⟨g3, 0, none⟩)]]) 0 rfl rfl (.inr rfl) rfl rfl rfl rfl tM_71 trivial rfl (fun F w hφ => ⟨rfl, rfl⟩) (H' := [mapE (keyInt (tInt_run tI_26)) false valRep g4 ([(1, .func (.func 48) #[] #[]), (2, .func (.func 49) #[] #[]), (3, .func (.func 50) #[] #[]), (4, .func (.func 51) #[] #[]), (7, .func (.func 52) #[] #[.pointer (some ⟨g3, 0, none⟩)]), (8, .func (.func 53) #[] #[.pointer (some ⟨g3, 0, none⟩)])]), .blk g3 [.func (.func 47) #[] #[]] 70]) rfl ?_
 refine wl_makeFunc rfl rfl rfl (freshS_eq rfl) rfl rfl ?_
 refine wl_mapPutE (i := 9) (u := .func (.func 54) #[] #[.pointer (some ⟨g3, 0, none⟩)]) (cs := [.func (.func 54) #[] #[.pointer (some ⟨g3, 0, none⟩)]]) 0 rfl rfl (.inr rfl) rfl rfl rfl rfl tM_71 trivial rfl (fun F w hφ => ⟨rfl, rfl⟩) (H' := [mapE (keyInt (tInt_run tI_26)) false valRep g4 ([(1, .func (.func 48) #[] #[]), (2, .func (.func 49) #[] #[]), (3, .func (.func 50) #[] #[]), (4, .func (.func 51) #[] #[]), (7, .func (.func 52) #[] #[.pointer (some ⟨g3, 0, none⟩)]), (8, .func (.func 53) #[] #[.pointer (some ⟨g3, 0, none⟩)]), (9, .func (.func 54) #[] #[.pointer (some ⟨g3, 0, none⟩)])]), .blk g3 [.func (.func 47) #[] #[]] 70]) rfl ?_
 refine wl_makeFunc rfl rfl rfl (freshS_eq rfl) rfl rfl ?_
 refine wl_mapPutE (i := 10) (u := .func (.func 55) #[] #[.pointer (some ⟨g3, 0, none⟩)]) (cs := [.func (.func 55) #[] #[.pointer (some ⟨g3, 0, none⟩)]]) 0 rfl rfl (.inr rfl) rfl rfl rfl rfl tM_71 trivial rfl (fun F w hφ => ⟨rfl, rfl⟩) (H' := [mapE (keyInt (tInt_run tI_26)) false valRep g4 ([(1, .func (.func 48) #[] #[]), (2, .func (.func 49) #[] #[]), (3, .func (.func 50) #[] #[]), (4, .func (.func 51) #[] #[]), (7, .func (.func 52) #[] #[.pointer (some ⟨g3, 0, none⟩)]), (8, .func (.func 53) #[] #[.pointer (some ⟨g3, 0, none⟩)]), (9, .func (.func 54) #[] #[.pointer (some ⟨g3, 0, none⟩)]), (10, .func (.func 55) #[] #[.pointer (some ⟨g3, 0, none⟩)])]), .blk g3 [.func (.func 47) #[] #[]] 70]) rfl ?_
 refine wl_makeFunc rfl rfl rfl (freshS_eq rfl) rfl rfl ?_
 refine wl_mapPutE (i := 11) (u := .func (.func 56) #[] #[.pointer (some ⟨g3, 0, none⟩)]) (cs := [.func (.func 56) #[] #[.pointer (some ⟨g3, 0, none⟩)]]) 0 rfl rfl (.inr rfl) rfl rfl rfl rfl tM_71 trivial rfl (fun F w hφ => ⟨rfl, rfl⟩) (H' := [mapE (keyInt (tInt_run tI_26)) false valRep g4 ([(1, .func (.func 48) #[] #[]), (2, .func (.func 49) #[] #[]), (3, .func (.func 50) #[] #[]), (4, .func (.func 51) #[] #[]), (7, .func (.func 52) #[] #[.pointer (some ⟨g3, 0, none⟩)]), (8, .func (.func 53) #[] #[.pointer (some ⟨g3, 0, none⟩)]), (9, .func (.func 54) #[] #[.pointer (some ⟨g3, 0, none⟩)]), (10, .func (.func 55) #[] #[.pointer (some ⟨g3, 0, none⟩)]), (11, .func (.func 56) #[] #[.pointer (some ⟨g3, 0, none⟩)])]), .blk g3 [.func (.func 47) #[] #[]] 70]) rfl ?_
 refine wl_pure rfl rfl rfl (freshS_eq rfl) rfl ?_
 refine wl_pure rfl rfl rfl (freshS_eq rfl) rfl ?_
 rcases ite_some hm with ⟨hq12_0, hm⟩ | ⟨hq12_0, hm⟩
 ·
  refine wl_lookYesE (i := a0) (a := (.func (.func 48) #[] #[])) valRep_opens 0 rfl rfl rfl (freshS_eq rfl) rfl rfl rfl rfl tM_71 trivial (by rw [eq_of_beq hq12_0]; rfl) (u := fun _ => .func (.func 48) #[] #[]) (fun _ => rfl) (v := fun _ => .func (.func 48) #[] #[]) (fun _ => rfl) (fun _ _ => ?_)
  refine wl_pure rfl rfl rfl (freshS_eq rfl) rfl ?_
  refine wl_nil ?_
  refine we_then ?_
  refine wc_keep [2] (S' := [_]) rfl ?_
  refine wc_ret ?_
  have hE := (Option.some.inj hm).symm
  replace hE := Sum.inl.inj hE
  refine ret_one (Hr := []) [] Tryd.results38 (res_tmp rfl) ⟨rfl, rfl, rfl⟩ (fun _ _ hφ => ask [] rfl hφ) rfl rfl (.inl rfl)
 rcases ite_some hm with ⟨hq12_1, hm⟩ | ⟨hq12_1, hm⟩
 ·
  refine wl_lookYesE (i := a0) (a := (.func (.func 49) #[] #[])) valRep_opens 0 rfl rfl rfl (freshS_eq rfl) rfl rfl rfl rfl tM_71 trivial (by rw [eq_of_beq hq12_1]; rfl) (u := fun _ => .func (.func 49) #[] #[]) (fun _ => rfl) (v := fun _ => .func (.func 49) #[] #[]) (fun _ => rfl) (fun _ _ => ?_)
  refine wl_pure rfl rfl rfl (freshS_eq rfl) rfl ?_
  refine wl_nil ?_
  refine we_then ?_
  refine wc_keep [2] (S' := [_]) rfl ?_
  refine wc_ret ?_
  have hE := (Option.some.inj hm).symm
  cases hE
 rcases ite_some hm with ⟨hq12_2, hm⟩ | ⟨hq12_2, hm⟩
 ·
  refine wl_lookYesE (i := a0) (a := (.func (.func 50) #[] #[])) valRep_opens 0 rfl rfl rfl (freshS_eq rfl) rfl rfl rfl rfl tM_71 trivial (by rw [eq_of_beq hq12_2]; rfl) (u := fun _ => .func (.func 50) #[] #[]) (fun _ => rfl) (v := fun _ => .func (.func 50) #[] #[]) (fun _ => rfl) (fun _ _ => ?_)
  refine wl_pure rfl rfl rfl (freshS_eq rfl) rfl ?_
  refine wl_nil ?_
  refine we_then ?_
  refine wc_keep [2] (S' := [_]) rfl ?_
  refine wc_ret ?_
  have hE := (Option.some.inj hm).symm
  cases hE
 rcases ite_some hm with ⟨hq12_3, hm⟩ | ⟨hq12_3, hm⟩
 ·
  refine wl_lookYesE (i := a0) (a := (.func (.func 51) #[] #[])) valRep_opens 0 rfl rfl rfl (freshS_eq rfl) rfl rfl rfl rfl tM_71 trivial (by rw [eq_of_beq hq12_3]; rfl) (u := fun _ => .func (.func 51) #[] #[]) (fun _ => rfl) (v := fun _ => .func (.func 51) #[] #[]) (fun _ => rfl) (fun _ _ => ?_)
  refine wl_pure rfl rfl rfl (freshS_eq rfl) rfl ?_
  refine wl_nil ?_
  refine we_then ?_
  refine wc_keep [2] (S' := [_]) rfl ?_
  refine wc_ret ?_
  have hE := (Option.some.inj hm).symm
  cases hE
 rcases ite_some hm with ⟨hq12_4, hm⟩ | ⟨hq12_4, hm⟩
 ·
  refine wl_lookYesE (i := a0) (a := (.func (.func 52) #[] #[.pointer (some ⟨g3, 0, none⟩)])) valRep_opens 0 rfl rfl rfl (freshS_eq rfl) rfl rfl rfl rfl tM_71 trivial (by rw [eq_of_beq hq12_4]; rfl) (u := fun _ => .func (.func 52) #[] #[.pointer (some ⟨g3, 0, none⟩)]) (fun _ => rfl) (v := fun _ => .func (.func 52) #[] #[.pointer (some ⟨g3, 0, none⟩)]) (fun _ => rfl) (fun _ _ => ?_)
  refine wl_pure rfl rfl rfl (freshS_eq rfl) rfl ?_
  refine wl_nil ?_
  refine we_then ?_
  refine wc_keep [2] (S' := [_]) rfl ?_
  refine wc_ret ?_
  have hE := (Option.some.inj hm).symm
  cases hE
 rcases ite_some hm with ⟨hq12_5, hm⟩ | ⟨hq12_5, hm⟩
 ·
  refine wl_lookYesE (i := a0) (a := (.func (.func 53) #[] #[.pointer (some ⟨g3, 0, none⟩)])) valRep_opens 0 rfl rfl rfl (freshS_eq rfl) rfl rfl rfl rfl tM_71 trivial (by rw [eq_of_beq hq12_5]; rfl) (u := fun _ => .func (.func 53) #[] #[.pointer (some ⟨g3, 0, none⟩)]) (fun _ => rfl) (v := fun _ => .func (.func 53) #[] #[.pointer (some ⟨g3, 0, none⟩)]) (fun _ => rfl) (fun _ _ => ?_)
  refine wl_pure rfl rfl rfl (freshS_eq rfl) rfl ?_
  refine wl_nil ?_
  refine we_then ?_
  refine wc_keep [2] (S' := [_]) rfl ?_
  refine wc_ret ?_
  have hE := (Option.some.inj hm).symm
  cases hE
 rcases ite_some hm with ⟨hq12_6, hm⟩ | ⟨hq12_6, hm⟩
 ·
  refine wl_lookYesE (i := a0) (a := (.func (.func 54) #[] #[.pointer (some ⟨g3, 0, none⟩)])) valRep_opens 0 rfl rfl rfl (freshS_eq rfl) rfl rfl rfl rfl tM_71 trivial (by rw [eq_of_beq hq12_6]; rfl) (u := fun _ => .func (.func 54) #[] #[.pointer (some ⟨g3, 0, none⟩)]) (fun _ => rfl) (v := fun _ => .func (.func 54) #[] #[.pointer (some ⟨g3, 0, none⟩)]) (fun _ => rfl) (fun _ _ => ?_)
  refine wl_pure rfl rfl rfl (freshS_eq rfl) rfl ?_
  refine wl_nil ?_
  refine we_then ?_
  refine wc_keep [2] (S' := [_]) rfl ?_
  refine wc_ret ?_
  have hE := (Option.some.inj hm).symm
  cases hE
 rcases ite_some hm with ⟨hq12_7, hm⟩ | ⟨hq12_7, hm⟩
 ·
  refine wl_lookYesE (i := a0) (a := (.func (.func 55) #[] #[.pointer (some ⟨g3, 0, none⟩)])) valRep_opens 0 rfl rfl rfl (freshS_eq rfl) rfl rfl rfl rfl tM_71 trivial (by rw [eq_of_beq hq12_7]; rfl) (u := fun _ => .func (.func 55) #[] #[.pointer (some ⟨g3, 0, none⟩)]) (fun _ => rfl) (v := fun _ => .func (.func 55) #[] #[.pointer (some ⟨g3, 0, none⟩)]) (fun _ => rfl) (fun _ _ => ?_)
  refine wl_pure rfl rfl rfl (freshS_eq rfl) rfl ?_
  refine wl_nil ?_
  refine we_then ?_
  refine wc_keep [2] (S' := [_]) rfl ?_
  refine wc_ret ?_
  have hE := (Option.some.inj hm).symm
  cases hE
 rcases ite_some hm with ⟨hq12_8, hm⟩ | ⟨hq12_8, hm⟩
 ·
  refine wl_lookYesE (i := a0) (a := (.func (.func 56) #[] #[.pointer (some ⟨g3, 0, none⟩)])) valRep_opens 0 rfl rfl rfl (freshS_eq rfl) rfl rfl rfl rfl tM_71 trivial (by rw [eq_of_beq hq12_8]; rfl) (u := fun _ => .func (.func 56) #[] #[.pointer (some ⟨g3, 0, none⟩)]) (fun _ => rfl) (v := fun _ => .func (.func 56) #[] #[.pointer (some ⟨g3, 0, none⟩)]) (fun _ => rfl) (fun _ _ => ?_)
  refine wl_pure rfl rfl rfl (freshS_eq rfl) rfl ?_
  refine wl_nil ?_
  refine we_then ?_
  refine wc_keep [2] (S' := [_]) rfl ?_
  refine wc_ret ?_
  have hE := (Option.some.inj hm).symm
  cases hE
 ·
  refine wl_lookNoE (i := a0) 0 rfl rfl rfl (freshS_eq rfl) rfl rfl rfl rfl tZ_64 tM_71 trivial (by simp [mlook, (ne_of_beq_false hq12_0).symm, (ne_of_beq_false hq12_1).symm, (ne_of_beq_false hq12_2).symm, (ne_of_beq_false hq12_3).symm, (ne_of_beq_false hq12_4).symm, (ne_of_beq_false hq12_5).symm, (ne_of_beq_false hq12_6).symm, (ne_of_beq_false hq12_7).symm, (ne_of_beq_false hq12_8).symm]) (v := .nilFunc) rfl ?_
  refine wl_pure rfl rfl rfl (freshS_eq rfl) rfl ?_
  refine wl_nil ?_
  refine we_then ?_
  refine wc_keep [2] (S' := [_]) rfl ?_
  refine wc_ret ?_
  have hE := (Option.some.inj hm).symm
  cases hE
set_option maxRecDepth 100000 in
set_option maxHeartbeats 4000000 in
theorem w_value_does_s1 (N : Nat) (a0 : Int)  (hm : m_value_does N a0 = some (.inr (.inl ()))) : Spec Tryd.prog 38 [.int .u8 a0] [] [] (fun v Φr Hr => v = .func (.func 49) #[] #[] ∧ Φr = [] ∧ Hr = []) := by
 unfold m_value_does at hm
 refine spec_of Tryd.func38 rfl Tryd.ntmps38 rfl (S := [_]) rfl (fun C => ?_)
 refine wc_seq ?_
 refine wc_region ?_
 refine wl_pure rfl rfl rfl (freshS_eq rfl) rfl ?_
 refine wl_nil ?_
 refine we_then ?_
 refine wc_keep [0] (S' := [_]) rfl ?_
 refine wc_seq ?_
 refine wc_region ?_
 refine wl_alloc rfl rfl rfl (freshS_eq rfl) rfl tZ_70 rfl (fun g3 => ?_)
 refine wl_store 0 0 rfl rfl rfl rfl rfl rfl rfl tS_70 rfl rfl rfl (all' := [_]) rfl (H' := [_]) rfl ?_
 refine wl_nil ?_
 refine we_then ?_
 refine wc_seq ?_
 refine wc_region ?_
 refine wl_makeMapE (keyInt (tInt_run tI_26)) false valRep rfl rfl rfl (freshS_eq rfl) rfl (fun g4 => ?_)
 refine wl_mapPutE (i := 1) (u := .func (.func 48) #[] #[]) (cs := [.func (.func 48) #[] #[]]) 0 rfl rfl (.inr rfl) rfl rfl rfl rfl tM_71 trivial rfl (fun F w hφ => ⟨rfl, rfl⟩) (H' := [mapE (keyInt (tInt_run tI_26)) false valRep g4 ([(1, .func (.func 48) #[] #[])]), .blk g3 [.func (.func 47) #[] #[]] 70]) rfl ?_
 refine wl_mapPutE (i := 2) (u := .func (.func 49) #[] #[]) (cs := [.func (.func 49) #[] #[]]) 0 rfl rfl (.inr rfl) rfl rfl rfl rfl tM_71 trivial rfl (fun F w hφ => ⟨rfl, rfl⟩) (H' := [mapE (keyInt (tInt_run tI_26)) false valRep g4 ([(1, .func (.func 48) #[] #[]), (2, .func (.func 49) #[] #[])]), .blk g3 [.func (.func 47) #[] #[]] 70]) rfl ?_
 refine wl_mapPutE (i := 3) (u := .func (.func 50) #[] #[]) (cs := [.func (.func 50) #[] #[]]) 0 rfl rfl (.inr rfl) rfl rfl rfl rfl tM_71 trivial rfl (fun F w hφ => ⟨rfl, rfl⟩) (H' := [mapE (keyInt (tInt_run tI_26)) false valRep g4 ([(1, .func (.func 48) #[] #[]), (2, .func (.func 49) #[] #[]), (3, .func (.func 50) #[] #[])]), .blk g3 [.func (.func 47) #[] #[]] 70]) rfl ?_
 refine wl_mapPutE (i := 4) (u := .func (.func 51) #[] #[]) (cs := [.func (.func 51) #[] #[]]) 0 rfl rfl (.inr rfl) rfl rfl rfl rfl tM_71 trivial rfl (fun F w hφ => ⟨rfl, rfl⟩) (H' := [mapE (keyInt (tInt_run tI_26)) false valRep g4 ([(1, .func (.func 48) #[] #[]), (2, .func (.func 49) #[] #[]), (3, .func (.func 50) #[] #[]), (4, .func (.func 51) #[] #[])]), .blk g3 [.func (.func 47) #[] #[]] 70]) rfl ?_
 refine wl_makeFunc rfl rfl rfl (freshS_eq rfl) rfl rfl ?_
 refine wl_mapPutE (i := 7) (u := .func (.func 52) #[] #[.pointer (some ⟨g3, 0, none⟩)]) (cs := [.func (.func 52) #[] #[.pointer (some ⟨g3, 0, none⟩)]]) 0 rfl rfl (.inr rfl) rfl rfl rfl rfl tM_71 trivial rfl (fun F w hφ => ⟨rfl, rfl⟩) (H' := [mapE (keyInt (tInt_run tI_26)) false valRep g4 ([(1, .func (.func 48) #[] #[]), (2, .func (.func 49) #[] #[]), (3, .func (.func 50) #[] #[]), (4, .func (.func 51) #[] #[]), (7, .func (.func 52) #[] #[.pointer (some ⟨g3, 0, none⟩)])]), .blk g3 [.func (.func 47) #[] #[]] 70]) rfl ?_
 refine wl_makeFunc rfl rfl rfl (freshS_eq rfl) rfl rfl ?_
 refine wl_mapPutE (i := 8) (u := .func (.func 53) #[] #[.pointer (some ⟨g3, 0, none⟩)]) (cs := [.func (.func 53) #[] #[.pointer (some ⟨g3, 0, none⟩)]]) 0 rfl rfl (.inr rfl) rfl rfl rfl rfl tM_71 trivial rfl (fun F w hφ => ⟨rfl, rfl⟩) (H' := [mapE (keyInt (tInt_run tI_26)) false valRep g4 ([(1, .func (.func 48) #[] #[]), (2, .func (.func 49) #[] #[]), (3, .func (.func 50) #[] #[]), (4, .func (.func 51) #[] #[]), (7, .func (.func 52) #[] #[.pointer (some ⟨g3, 0, none⟩)]), (8, .func (.func 53) #[] #[.pointer (some ⟨g3, 0, none⟩)])]), .blk g3 [.func (.func 47) #[] #[]] 70]) rfl ?_
 refine wl_makeFunc rfl rfl rfl (freshS_eq rfl) rfl rfl ?_
 refine wl_mapPutE (i := 9) (u := .func (.func 54) #[] #[.pointer (some ⟨g3, 0, none⟩)]) (cs := [.func (.func 54) #[] #[.pointer (some ⟨g3, 0, none⟩)]]) 0 rfl rfl (.inr rfl) rfl rfl rfl rfl tM_71 trivial rfl (fun F w hφ => ⟨rfl, rfl⟩) (H' := [mapE (keyInt (tInt_run tI_26)) false valRep g4 ([(1, .func (.func 48) #[] #[]), (2, .func (.func 49) #[] #[]), (3, .func (.func 50) #[] #[]), (4, .func (.func 51) #[] #[]), (7, .func (.func 52) #[] #[.pointer (some ⟨g3, 0, none⟩)]), (8, .func (.func 53) #[] #[.pointer (some ⟨g3, 0, none⟩)]), (9, .func (.func 54) #[] #[.pointer (some ⟨g3, 0, none⟩)])]), .blk g3 [.func (.func 47) #[] #[]] 70]) rfl ?_
 refine wl_makeFunc rfl rfl rfl (freshS_eq rfl) rfl rfl ?_
 refine wl_mapPutE (i := 10) (u := .func (.func 55) #[] #[.pointer (some ⟨g3, 0, none⟩)]) (cs := [.func (.func 55) #[] #[.pointer (some ⟨g3, 0, none⟩)]]) 0 rfl rfl (.inr rfl) rfl rfl rfl rfl tM_71 trivial rfl (fun F w hφ => ⟨rfl, rfl⟩) (H' := [mapE (keyInt (tInt_run tI_26)) false valRep g4 ([(1, .func (.func 48) #[] #[]), (2, .func (.func 49) #[] #[]), (3, .func (.func 50) #[] #[]), (4, .func (.func 51) #[] #[]), (7, .func (.func 52) #[] #[.pointer (some ⟨g3, 0, none⟩)]), (8, .func (.func 53) #[] #[.pointer (some ⟨g3, 0, none⟩)]), (9, .func (.func 54) #[] #[.pointer (some ⟨g3, 0, none⟩)]), (10, .func (.func 55) #[] #[.pointer (some ⟨g3, 0, none⟩)])]), .blk g3 [.func (.func 47) #[] #[]] 70]) rfl ?_
 refine wl_makeFunc rfl rfl rfl (freshS_eq rfl) rfl rfl ?_
 refine wl_mapPutE (i := 11) (u := .func (.func 56) #[] #[.pointer (some ⟨g3, 0, none⟩)]) (cs := [.func (.func 56) #[] #[.pointer (some ⟨g3, 0, none⟩)]]) 0 rfl rfl (.inr rfl) rfl rfl rfl rfl tM_71 trivial rfl (fun F w hφ => ⟨rfl, rfl⟩) (H' := [mapE (keyInt (tInt_run tI_26)) false valRep g4 ([(1, .func (.func 48) #[] #[]), (2, .func (.func 49) #[] #[]), (3, .func (.func 50) #[] #[]), (4, .func (.func 51) #[] #[]), (7, .func (.func 52) #[] #[.pointer (some ⟨g3, 0, none⟩)]), (8, .func (.func 53) #[] #[.pointer (some ⟨g3, 0, none⟩)]), (9, .func (.func 54) #[] #[.pointer (some ⟨g3, 0, none⟩)]), (10, .func (.func 55) #[] #[.pointer (some ⟨g3, 0, none⟩)]), (11, .func (.func 56) #[] #[.pointer (some ⟨g3, 0, none⟩)])]), .blk g3 [.func (.func 47) #[] #[]] 70]) rfl ?_
 refine wl_pure rfl rfl rfl (freshS_eq rfl) rfl ?_
 refine wl_pure rfl rfl rfl (freshS_eq rfl) rfl ?_
 rcases ite_some hm with ⟨hq12_0, hm⟩ | ⟨hq12_0, hm⟩
 ·
  refine wl_lookYesE (i := a0) (a := (.func (.func 48) #[] #[])) valRep_opens 0 rfl rfl rfl (freshS_eq rfl) rfl rfl rfl rfl tM_71 trivial (by rw [eq_of_beq hq12_0]; rfl) (u := fun _ => .func (.func 48) #[] #[]) (fun _ => rfl) (v := fun _ => .func (.func 48) #[] #[]) (fun _ => rfl) (fun _ _ => ?_)
  refine wl_pure rfl rfl rfl (freshS_eq rfl) rfl ?_
  refine wl_nil ?_
  refine we_then ?_
  refine wc_keep [2] (S' := [_]) rfl ?_
  refine wc_ret ?_
  have hE := (Option.some.inj hm).symm
  cases hE
 rcases ite_some hm with ⟨hq12_1, hm⟩ | ⟨hq12_1, hm⟩
 ·
  refine wl_lookYesE (i := a0) (a := (.func (.func 49) #[] #[])) valRep_opens 0 rfl rfl rfl (freshS_eq rfl) rfl rfl rfl rfl tM_71 trivial (by rw [eq_of_beq hq12_1]; rfl) (u := fun _ => .func (.func 49) #[] #[]) (fun _ => rfl) (v := fun _ => .func (.func 49) #[] #[]) (fun _ => rfl) (fun _ _ => ?_)
  refine wl_pure rfl rfl rfl (freshS_eq rfl) rfl ?_
  refine wl_nil ?_
  refine we_then ?_
  refine wc_keep [2] (S' := [_]) rfl ?_
  refine wc_ret ?_
  have hE := (Option.some.inj hm).symm
  replace hE := Sum.inr.inj hE
  replace hE := Sum.inl.inj hE
  refine ret_one (Hr := []) [] Tryd.results38 (res_tmp rfl) ⟨rfl, rfl, rfl⟩ (fun _ _ hφ => ask [] rfl hφ) rfl rfl (.inl rfl)
 rcases ite_some hm with ⟨hq12_2, hm⟩ | ⟨hq12_2, hm⟩
 ·
  refine wl_lookYesE (i := a0) (a := (.func (.func 50) #[] #[])) valRep_opens 0 rfl rfl rfl (freshS_eq rfl) rfl rfl rfl rfl tM_71 trivial (by rw [eq_of_beq hq12_2]; rfl) (u := fun _ => .func (.func 50) #[] #[]) (fun _ => rfl) (v := fun _ => .func (.func 50) #[] #[]) (fun _ => rfl) (fun _ _ => ?_)
  refine wl_pure rfl rfl rfl (freshS_eq rfl) rfl ?_
  refine wl_nil ?_
  refine we_then ?_
  refine wc_keep [2] (S' := [_]) rfl ?_
  refine wc_ret ?_
  have hE := (Option.some.inj hm).symm
  cases hE
 rcases ite_some hm with ⟨hq12_3, hm⟩ | ⟨hq12_3, hm⟩
 ·
  refine wl_lookYesE (i := a0) (a := (.func (.func 51) #[] #[])) valRep_opens 0 rfl rfl rfl (freshS_eq rfl) rfl rfl rfl rfl tM_71 trivial (by rw [eq_of_beq hq12_3]; rfl) (u := fun _ => .func (.func 51) #[] #[]) (fun _ => rfl) (v := fun _ => .func (.func 51) #[] #[]) (fun _ => rfl) (fun _ _ => ?_)
  refine wl_pure rfl rfl rfl (freshS_eq rfl) rfl ?_
  refine wl_nil ?_
  refine we_then ?_
  refine wc_keep [2] (S' := [_]) rfl ?_
  refine wc_ret ?_
  have hE := (Option.some.inj hm).symm
  cases hE
 rcases ite_some hm with ⟨hq12_4, hm⟩ | ⟨hq12_4, hm⟩
 ·
  refine wl_lookYesE (i := a0) (a := (.func (.func 52) #[] #[.pointer (some ⟨g3, 0, none⟩)])) valRep_opens 0 rfl rfl rfl (freshS_eq rfl) rfl rfl rfl rfl tM_71 trivial (by rw [eq_of_beq hq12_4]; rfl) (u := fun _ => .func (.func 52) #[] #[.pointer (some ⟨g3, 0, none⟩)]) (fun _ => rfl) (v := fun _ => .func (.func 52) #[] #[.pointer (some ⟨g3, 0, none⟩)]) (fun _ => rfl) (fun _ _ => ?_)
  refine wl_pure rfl rfl rfl (freshS_eq rfl) rfl ?_
  refine wl_nil ?_
  refine we_then ?_
  refine wc_keep [2] (S' := [_]) rfl ?_
  refine wc_ret ?_
  have hE := (Option.some.inj hm).symm
  cases hE
 rcases ite_some hm with ⟨hq12_5, hm⟩ | ⟨hq12_5, hm⟩
 ·
  refine wl_lookYesE (i := a0) (a := (.func (.func 53) #[] #[.pointer (some ⟨g3, 0, none⟩)])) valRep_opens 0 rfl rfl rfl (freshS_eq rfl) rfl rfl rfl rfl tM_71 trivial (by rw [eq_of_beq hq12_5]; rfl) (u := fun _ => .func (.func 53) #[] #[.pointer (some ⟨g3, 0, none⟩)]) (fun _ => rfl) (v := fun _ => .func (.func 53) #[] #[.pointer (some ⟨g3, 0, none⟩)]) (fun _ => rfl) (fun _ _ => ?_)
  refine wl_pure rfl rfl rfl (freshS_eq rfl) rfl ?_
  refine wl_nil ?_
  refine we_then ?_
  refine wc_keep [2] (S' := [_]) rfl ?_
  refine wc_ret ?_
  have hE := (Option.some.inj hm).symm
  cases hE
 rcases ite_some hm with ⟨hq12_6, hm⟩ | ⟨hq12_6, hm⟩
 ·
  refine wl_lookYesE (i := a0) (a := (.func (.func 54) #[] #[.pointer (some ⟨g3, 0, none⟩)])) valRep_opens 0 rfl rfl rfl (freshS_eq rfl) rfl rfl rfl rfl tM_71 trivial (by rw [eq_of_beq hq12_6]; rfl) (u := fun _ => .func (.func 54) #[] #[.pointer (some ⟨g3, 0, none⟩)]) (fun _ => rfl) (v := fun _ => .func (.func 54) #[] #[.pointer (some ⟨g3, 0, none⟩)]) (fun _ => rfl) (fun _ _ => ?_)
  refine wl_pure rfl rfl rfl (freshS_eq rfl) rfl ?_
  refine wl_nil ?_
  refine we_then ?_
  refine wc_keep [2] (S' := [_]) rfl ?_
  refine wc_ret ?_
  have hE := (Option.some.inj hm).symm
  cases hE
 rcases ite_some hm with ⟨hq12_7, hm⟩ | ⟨hq12_7, hm⟩
 ·
  refine wl_lookYesE (i := a0) (a := (.func (.func 55) #[] #[.pointer (some ⟨g3, 0, none⟩)])) valRep_opens 0 rfl rfl rfl (freshS_eq rfl) rfl rfl rfl rfl tM_71 trivial (by rw [eq_of_beq hq12_7]; rfl) (u := fun _ => .func (.func 55) #[] #[.pointer (some ⟨g3, 0, none⟩)]) (fun _ => rfl) (v := fun _ => .func (.func 55) #[] #[.pointer (some ⟨g3, 0, none⟩)]) (fun _ => rfl) (fun _ _ => ?_)
  refine wl_pure rfl rfl rfl (freshS_eq rfl) rfl ?_
  refine wl_nil ?_
  refine we_then ?_
  refine wc_keep [2] (S' := [_]) rfl ?_
  refine wc_ret ?_
  have hE := (Option.some.inj hm).symm
  cases hE
 rcases ite_some hm with ⟨hq12_8, hm⟩ | ⟨hq12_8, hm⟩
 ·
  refine wl_lookYesE (i := a0) (a := (.func (.func 56) #[] #[.pointer (some ⟨g3, 0, none⟩)])) valRep_opens 0 rfl rfl rfl (freshS_eq rfl) rfl rfl rfl rfl tM_71 trivial (by rw [eq_of_beq hq12_8]; rfl) (u := fun _ => .func (.func 56) #[] #[.pointer (some ⟨g3, 0, none⟩)]) (fun _ => rfl) (v := fun _ => .func (.func 56) #[] #[.pointer (some ⟨g3, 0, none⟩)]) (fun _ => rfl) (fun _ _ => ?_)
  refine wl_pure rfl rfl rfl (freshS_eq rfl) rfl ?_
  refine wl_nil ?_
  refine we_then ?_
  refine wc_keep [2] (S' := [_]) rfl ?_
  refine wc_ret ?_
  have hE := (Option.some.inj hm).symm
  cases hE
 ·
  refine wl_lookNoE (i := a0) 0 rfl rfl rfl (freshS_eq rfl) rfl rfl rfl rfl tZ_64 tM_71 trivial (by simp [mlook, (ne_of_beq_false hq12_0).symm, (ne_of_beq_false hq12_1).symm, (ne_of_beq_false hq12_2).symm, (ne_of_beq_false hq12_3).symm, (ne_of_beq_false hq12_4).symm, (ne_of_beq_false hq12_5).symm, (ne_of_beq_false hq12_6).symm, (ne_of_beq_false hq12_7).symm, (ne_of_beq_false hq12_8).symm]) (v := .nilFunc) rfl ?_
  refine wl_pure rfl rfl rfl (freshS_eq rfl) rfl ?_
  refine wl_nil ?_
  refine we_then ?_
  refine wc_keep [2] (S' := [_]) rfl ?_
  refine wc_ret ?_
  have hE := (Option.some.inj hm).symm
  cases hE
set_option maxRecDepth 100000 in
set_option maxHeartbeats 4000000 in
theorem w_value_does_s2 (N : Nat) (a0 : Int)  (hm : m_value_does N a0 = some (.inr (.inr (.inl ())))) : Spec Tryd.prog 38 [.int .u8 a0] [] [] (fun v Φr Hr => v = .func (.func 50) #[] #[] ∧ Φr = [] ∧ Hr = []) := by
 unfold m_value_does at hm
 refine spec_of Tryd.func38 rfl Tryd.ntmps38 rfl (S := [_]) rfl (fun C => ?_)
 refine wc_seq ?_
 refine wc_region ?_
 refine wl_pure rfl rfl rfl (freshS_eq rfl) rfl ?_
 refine wl_nil ?_
 refine we_then ?_
 refine wc_keep [0] (S' := [_]) rfl ?_
 refine wc_seq ?_
 refine wc_region ?_
 refine wl_alloc rfl rfl rfl (freshS_eq rfl) rfl tZ_70 rfl (fun g3 => ?_)
 refine wl_store 0 0 rfl rfl rfl rfl rfl rfl rfl tS_70 rfl rfl rfl (all' := [_]) rfl (H' := [_]) rfl ?_
 refine wl_nil ?_
 refine we_then ?_
 refine wc_seq ?_
 refine wc_region ?_
 refine wl_makeMapE (keyInt (tInt_run tI_26)) false valRep rfl rfl rfl (freshS_eq rfl) rfl (fun g4 => ?_)
 refine wl_mapPutE (i := 1) (u := .func (.func 48) #[] #[]) (cs := [.func (.func 48) #[] #[]]) 0 rfl rfl (.inr rfl) rfl rfl rfl rfl tM_71 trivial rfl (fun F w hφ => ⟨rfl, rfl⟩) (H' := [mapE (keyInt (tInt_run tI_26)) false valRep g4 ([(1, .func (.func 48) #[] #[])]), .blk g3 [.func (.func 47) #[] #[]] 70]) rfl ?_
 refine wl_mapPutE (i := 2) (u := .func (.func 49) #[] #[]) (cs := [.func (.func 49) #[] #[]]) 0 rfl rfl (.inr rfl) rfl rfl rfl rfl tM_71 trivial rfl (fun F w hφ => ⟨rfl, rfl⟩) (H' := [mapE (keyInt (tInt_run tI_26)) false valRep g4 ([(1, .func (.func 48) #[] #[]), (2, .func (.func 49) #[] #[])]), .blk g3 [.func (.func 47) #[] #[]] 70]) rfl ?_
 refine wl_mapPutE (i := 3) (u := .func (.func 50) #[] #[]) (cs := [.func (.func 50) #[] #[]]) 0 rfl rfl (.inr rfl) rfl rfl rfl rfl tM_71 trivial rfl (fun F w hφ => ⟨rfl, rfl⟩) (H' := [mapE (keyInt (tInt_run tI_26)) false valRep g4 ([(1, .func (.func 48) #[] #[]), (2, .func (.func 49) #[] #[]), (3, .func (.func 50) #[] #[])]), .blk g3 [.func (.func 47) #[] #[]] 70]) rfl ?_
 refine wl_mapPutE (i := 4) (u := .func (.func 51) #[] #[]) (cs := [.func (.func 51) #[] #[]]) 0 rfl rfl (.inr rfl) rfl rfl rfl rfl tM_71 trivial rfl (fun F w hφ => ⟨rfl, rfl⟩) (H' := [mapE (keyInt (tInt_run tI_26)) false valRep g4 ([(1, .func (.func 48) #[] #[]), (2, .func (.func 49) #[] #[]), (3, .func (.func 50) #[] #[]), (4, .func (.func 51) #[] #[])]), .blk g3 [.func (.func 47) #[] #[]] 70]) rfl ?_
 refine wl_makeFunc rfl rfl rfl (freshS_eq rfl) rfl rfl ?_
 refine wl_mapPutE (i := 7) (u := .func (.func 52) #[] #[.pointer (some ⟨g3, 0, none⟩)]) (cs := [.func (.func 52) #[] #[.pointer (some ⟨g3, 0, none⟩)]]) 0 rfl rfl (.inr rfl) rfl rfl rfl rfl tM_71 trivial rfl (fun F w hφ => ⟨rfl, rfl⟩) (H' := [mapE (keyInt (tInt_run tI_26)) false valRep g4 ([(1, .func (.func 48) #[] #[]), (2, .func (.func 49) #[] #[]), (3, .func (.func 50) #[] #[]), (4, .func (.func 51) #[] #[]), (7, .func (.func 52) #[] #[.pointer (some ⟨g3, 0, none⟩)])]), .blk g3 [.func (.func 47) #[] #[]] 70]) rfl ?_
 refine wl_makeFunc rfl rfl rfl (freshS_eq rfl) rfl rfl ?_
 refine wl_mapPutE (i := 8) (u := .func (.func 53) #[] #[.pointer (some ⟨g3, 0, none⟩)]) (cs := [.func (.func 53) #[] #[.pointer (some ⟨g3, 0, none⟩)]]) 0 rfl rfl (.inr rfl) rfl rfl rfl rfl tM_71 trivial rfl (fun F w hφ => ⟨rfl, rfl⟩) (H' := [mapE (keyInt (tInt_run tI_26)) false valRep g4 ([(1, .func (.func 48) #[] #[]), (2, .func (.func 49) #[] #[]), (3, .func (.func 50) #[] #[]), (4, .func (.func 51) #[] #[]), (7, .func (.func 52) #[] #[.pointer (some ⟨g3, 0, none⟩)]), (8, .func (.func 53) #[] #[.pointer (some ⟨g3, 0, none⟩)])]), .blk g3 [.func (.func 47) #[] #[]] 70]) rfl ?_
 refine wl_makeFunc rfl rfl rfl (freshS_eq rfl) rfl rfl ?_
 refine wl_mapPutE (i := 9) (u := .func (.func 54) #[] #[.pointer (some ⟨g3, 0, none⟩)]) (cs := [.func (.func 54) #[] #[.pointer (some ⟨g3, 0, none⟩)]]) 0 rfl rfl (.inr rfl) rfl rfl rfl rfl tM_71 trivial rfl (fun F w hφ => ⟨rfl, rfl⟩) (H' := [mapE (keyInt (tInt_run tI_26)) false valRep g4 ([(1, .func (.func 48) #[] #[]), (2, .func (.func 49) #[] #[]), (3, .func (.func 50) #[] #[]), (4, .func (.func 51) #[] #[]), (7, .func (.func 52) #[] #[.pointer (some ⟨g3, 0, none⟩)]), (8, .func (.func 53) #[] #[.pointer (some ⟨g3, 0, none⟩)]), (9, .func (.func 54) #[] #[.pointer (some ⟨g3, 0, none⟩)])]), .blk g3 [.func (.func 47) #[] #[]] 70]) rfl ?_
 refine wl_makeFunc rfl rfl rfl (freshS_eq rfl) rfl rfl ?_
 refine wl_mapPutE (i := 10) (u := .func (.func 55) #[] #[.pointer (some ⟨g3, 0, none⟩)]) (cs := [.func (.func 55) #[] #[.pointer (some ⟨g3, 0, none⟩)]]) 0 rfl rfl (.inr rfl) rfl rfl rfl rfl tM_71 trivial rfl (fun F w hφ => ⟨rfl, rfl⟩) (H' := [mapE (keyInt (tInt_run tI_26)) false valRep g4 ([(1, .func (.func 48) #[] #[]), (2, .func (.func 49) #[] #[]), (3, .func (.func 50) #[] #[]), (4, .func (.func 51) #[] #[]), (7, .func (.func 52) #[] #[.pointer (some ⟨g3, 0, none⟩)]), (8, .func (.func 53) #[] #[.pointer (some ⟨g3, 0, none⟩)]), (9, .func (.func 54) #[] #[.pointer (some ⟨g3, 0, none⟩)]), (10, .func (.func 55) #[] #[.pointer (some ⟨g3, 0, none⟩)])]), .blk g3 [.func (.func 47) #[] #[]] 70]) rfl ?_
 refine wl_makeFunc rfl rfl rfl (freshS_eq rfl) rfl rfl ?_
 refine wl_mapPutE (i := 11) (u := .func (.func 56) #[] #[.pointer (some ⟨g3, 0, none⟩)]) (cs := [.func (.func 56) #[] #[.pointer (some ⟨g3, 0, none⟩)]]) 0 rfl rfl (.inr rfl) rfl rfl rfl rfl tM_71 trivial rfl (fun F w hφ => ⟨rfl, rfl⟩) (H' := [mapE (keyInt (tInt_run tI_26)) false valRep g4 ([(1, .func (.func 48) #[] #[]), (2, .func (.func 49) #[] #[]), (3, .func (.func 50) #[] #[]), (4, .func (.func 51) #[] #[]), (7, .func (.func 52) #[] #[.pointer (some ⟨g3, 0, none⟩)]), (8, .func (.func 53) #[] #[.pointer (some ⟨g3, 0, none⟩)]), (9, .func (.func 54) #[] #[.pointer (some ⟨g3, 0, none⟩)]), (10, .func (.func 55) #[] #[.pointer (some ⟨g3, 0, none⟩)]), (11, .func (.func 56) #[] #[.pointer (some ⟨g3, 0, none⟩)])]), .blk g3 [.func (.func 47) #[] #[]] 70]) rfl ?_
 refine wl_pure rfl rfl rfl (freshS_eq rfl) rfl ?_
 refine wl_pure rfl rfl rfl (freshS_eq rfl) rfl ?_
 rcases ite_some hm with ⟨hq12_0, hm⟩ | ⟨hq12_0, hm⟩
 ·
  refine wl_lookYesE (i := a0) (a := (.func (.func 48) #[] #[])) valRep_opens 0 rfl rfl rfl (freshS_eq rfl) rfl rfl rfl rfl tM_71 trivial (by rw [eq_of_beq hq12_0]; rfl) (u := fun _ => .func (.func 48) #[] #[]) (fun _ => rfl) (v := fun _ => .func (.func 48) #[] #[]) (fun _ => rfl) (fun _ _ => ?_)
  refine wl_pure rfl rfl rfl (freshS_eq rfl) rfl ?_
  refine wl_nil ?_
  refine we_then ?_
  refine wc_keep [2] (S' := [_]) rfl ?_
  refine wc_ret ?_
  have hE := (Option.some.inj hm).symm
  cases hE
 rcases ite_some hm with ⟨hq12_1, hm⟩ | ⟨hq12_1, hm⟩
 ·
  refine wl_lookYesE (i := a0) (a := (.func (.func 49) #[] #[])) valRep_opens 0 rfl rfl rfl (freshS_eq rfl) rfl rfl rfl rfl tM_71 trivial (by rw [eq_of_beq hq12_1]; rfl) (u := fun _ => .func (.func 49) #[] #[]) (fun _ => rfl) (v := fun _ => .func (.func 49) #[] #[]) (fun _ => rfl) (fun _ _ => ?_)
  refine wl_pure rfl rfl rfl (freshS_eq rfl) rfl ?_
  refine wl_nil ?_
  refine we_then ?_
  refine wc_keep [2] (S' := [_]) rfl ?_
  refine wc_ret ?_
  have hE := (Option.some.inj hm).symm
  cases hE
 rcases ite_some hm with ⟨hq12_2, hm⟩ | ⟨hq12_2, hm⟩
 ·
  refine wl_lookYesE (i := a0) (a := (.func (.func 50) #[] #[])) valRep_opens 0 rfl rfl rfl (freshS_eq rfl) rfl rfl rfl rfl tM_71 trivial (by rw [eq_of_beq hq12_2]; rfl) (u := fun _ => .func (.func 50) #[] #[]) (fun _ => rfl) (v := fun _ => .func (.func 50) #[] #[]) (fun _ => rfl) (fun _ _ => ?_)
  refine wl_pure rfl rfl rfl (freshS_eq rfl) rfl ?_
  refine wl_nil ?_
  refine we_then ?_
  refine wc_keep [2] (S' := [_]) rfl ?_
  refine wc_ret ?_
  have hE := (Option.some.inj hm).symm
  replace hE := Sum.inr.inj hE
  replace hE := Sum.inr.inj hE
  replace hE := Sum.inl.inj hE
  refine ret_one (Hr := []) [] Tryd.results38 (res_tmp rfl) ⟨rfl, rfl, rfl⟩ (fun _ _ hφ => ask [] rfl hφ) rfl rfl (.inl rfl)
 rcases ite_some hm with ⟨hq12_3, hm⟩ | ⟨hq12_3, hm⟩
 ·
  refine wl_lookYesE (i := a0) (a := (.func (.func 51) #[] #[])) valRep_opens 0 rfl rfl rfl (freshS_eq rfl) rfl rfl rfl rfl tM_71 trivial (by rw [eq_of_beq hq12_3]; rfl) (u := fun _ => .func (.func 51) #[] #[]) (fun _ => rfl) (v := fun _ => .func (.func 51) #[] #[]) (fun _ => rfl) (fun _ _ => ?_)
  refine wl_pure rfl rfl rfl (freshS_eq rfl) rfl ?_
  refine wl_nil ?_
  refine we_then ?_
  refine wc_keep [2] (S' := [_]) rfl ?_
  refine wc_ret ?_
  have hE := (Option.some.inj hm).symm
  cases hE
 rcases ite_some hm with ⟨hq12_4, hm⟩ | ⟨hq12_4, hm⟩
 ·
  refine wl_lookYesE (i := a0) (a := (.func (.func 52) #[] #[.pointer (some ⟨g3, 0, none⟩)])) valRep_opens 0 rfl rfl rfl (freshS_eq rfl) rfl rfl rfl rfl tM_71 trivial (by rw [eq_of_beq hq12_4]; rfl) (u := fun _ => .func (.func 52) #[] #[.pointer (some ⟨g3, 0, none⟩)]) (fun _ => rfl) (v := fun _ => .func (.func 52) #[] #[.pointer (some ⟨g3, 0, none⟩)]) (fun _ => rfl) (fun _ _ => ?_)
  refine wl_pure rfl rfl rfl (freshS_eq rfl) rfl ?_
  refine wl_nil ?_
  refine we_then ?_
  refine wc_keep [2] (S' := [_]) rfl ?_
  refine wc_ret ?_
  have hE := (Option.some.inj hm).symm
  cases hE
 rcases ite_some hm with ⟨hq12_5, hm⟩ | ⟨hq12_5, hm⟩
 ·
  refine wl_lookYesE (i := a0) (a := (.func (.func 53) #[] #[.pointer (some ⟨g3, 0, none⟩)])) valRep_opens 0 rfl rfl rfl (freshS_eq rfl) rfl rfl rfl rfl tM_71 trivial (by rw [eq_of_beq hq12_5]; rfl) (u := fun _ => .func (.func 53) #[] #[.pointer (some ⟨g3, 0, none⟩)]) (fun _ => rfl) (v := fun _ => .func (.func 53) #[] #[.pointer (some ⟨g3, 0, none⟩)]) (fun _ => rfl) (fun _ _ => ?_)
  refine wl_pure rfl rfl rfl (freshS_eq rfl) rfl ?_
  refine wl_nil ?_
  refine we_then ?_
  refine wc_keep [2] (S' := [_]) rfl ?_
  refine wc_ret ?_
  have hE := (Option.some.inj hm).symm
  cases hE
 rcases ite_some hm with ⟨hq12_6, hm⟩ | ⟨hq12_6, hm⟩
 ·
  refine wl_lookYesE (i := a0) (a := (.func (.func 54) #[] #[.pointer (some ⟨g3, 0, none⟩)])) valRep_opens 0 rfl rfl rfl (freshS_eq rfl) rfl rfl rfl rfl tM_71 trivial (by rw [eq_of_beq hq12_6]; rfl) (u := fun _ => .func (.func 54) #[] #[.pointer (some ⟨g3, 0, none⟩)]) (fun _ => rfl) (v := fun _ => .func (.func 54) #[] #[.pointer (some ⟨g3, 0, none⟩)]) (fun _ => rfl) (fun _ _ => ?_)
  refine wl_pure rfl rfl rfl (freshS_eq rfl) rfl ?_
  refine wl_nil ?_
  refine we_then ?_
  refine wc_keep [2] (S' := [_]) rfl ?_
  refine wc_ret ?_
  have hE := (Option.some.inj hm).symm
  cases hE
 rcases ite_some hm with ⟨hq12_7, hm⟩ | ⟨hq12_7, hm⟩
 ·
  refine wl_lookYesE (i := a0) (a := (.func (.func 55) #[] #[.pointer (some ⟨g3, 0, none⟩)])) valRep_opens 0 rfl rfl rfl (freshS_eq rfl) rfl rfl rfl rfl tM_71 trivial (by rw [eq_of_beq hq12_7]; rfl) (u := fun _ => .func (.func 55) #[] #[.pointer (some ⟨g3, 0, none⟩)]) (fun _ => rfl) (v := fun _ => .func (.func 55) #[] #[.pointer (some ⟨g3, 0, none⟩)]) (fun _ => rfl) (fun _ _ => ?_)
  refine wl_pure rfl rfl rfl (freshS_eq rfl) rfl ?_
  refine wl_nil ?_
  refine we_then ?_
  refine wc_keep [2] (S' := [_]) rfl ?_
  refine wc_ret ?_
  have hE := (Option.some.inj hm).symm
  cases hE
 rcases ite_some hm with ⟨hq12_8, hm⟩ | ⟨hq12_8, hm⟩
 ·
  refine wl_lookYesE (i := a0) (a := (.func (.func 56) #[] #[.pointer (some ⟨g3, 0, none⟩)])) valRep_opens 0 rfl rfl rfl (freshS_eq rfl) rfl rfl rfl rfl tM_71 trivial (by rw [eq_of_beq hq12_8]; rfl) (u := fun _ => .func (.func 56) #[] #[.pointer (some ⟨g3, 0, none⟩)]) (fun _ => rfl) (v := fun _ => .func (.func 56) #[] #[.pointer (some ⟨g3, 0, none⟩)]) (fun _ => rfl) (fun _ _ => ?_)
  refine wl_pure rfl rfl rfl (freshS_eq rfl) rfl ?_
  refine wl_nil ?_
  refine we_then ?_
  refine wc_keep [2] (S' := [_]) rfl ?_
  refine wc_ret ?_
  have hE := (Option.some.inj hm).symm
  cases hE
 ·
  refine wl_lookNoE (i := a0) 0 rfl rfl rfl (freshS_eq rfl) rfl rfl rfl rfl tZ_64 tM_71 trivial (by simp [mlook, (ne_of_beq_false hq12_0).symm, (ne_of_beq_false hq12_1).symm, (ne_of_beq_false hq12_2).symm, (ne_of_beq_false hq12_3).symm, (ne_of_beq_false hq12_4).symm, (ne_of_beq_false hq12_5).symm, (ne_of_beq_false hq12_6).symm, (ne_of_beq_false hq12_7).symm, (ne_of_beq_false hq12_8).symm]) (v := .nilFunc) rfl ?_
  refine wl_pure rfl rfl rfl (freshS_eq rfl) rfl ?_
  refine wl_nil ?_
  refine we_then ?_
  refine wc_keep [2] (S' := [_]) rfl ?_
  refine wc_ret ?_
  have hE := (Option.some.inj hm).symm
  cases hE
set_option maxRecDepth 100000 in
set_option maxHeartbeats 4000000 in
theorem w_value_does_s3 (N : Nat) (a0 : Int)  (hm : m_value_does N a0 = some (.inr (.inr (.inr (.inl ()))))) : Spec Tryd.prog 38 [.int .u8 a0] [] [] (fun v Φr Hr => v = .func (.func 51) #[] #[] ∧ Φr = [] ∧ Hr = []) := by
 unfold m_value_does at hm
 refine spec_of Tryd.func38 rfl Tryd.ntmps38 rfl (S := [_]) rfl (fun C => ?_)
 refine wc_seq ?_
 refine wc_region ?_
 refine wl_pure rfl rfl rfl (freshS_eq rfl) rfl ?_
 refine wl_nil ?_
 refine we_then ?_
 refine wc_keep [0] (S' := [_]) rfl ?_
 refine wc_seq ?_
 refine wc_region ?_
 refine wl_alloc rfl rfl rfl (freshS_eq rfl) rfl tZ_70 rfl (fun g3 => ?_)
 refine wl_store 0 0 rfl rfl rfl rfl rfl rfl rfl tS_70 rfl rfl rfl (all' := [_]) rfl (H' := [_]) rfl ?_
 refine wl_nil ?_
 refine we_then ?_
 refine wc_seq ?_
 refine wc_region ?_
 refine wl_makeMapE (keyInt (tInt_run tI_26)) false valRep rfl rfl rfl (freshS_eq rfl) rfl (fun g4 => ?_)
 refine wl_mapPutE (i := 1) (u := .func (.func 48) #[] #[]) (cs := [.func (.func 48) #[] #[]]) 0 rfl rfl (.inr rfl) rfl rfl rfl rfl tM_71 trivial rfl (fun F w hφ => ⟨rfl, rfl⟩) (H' := [mapE (keyInt (tInt_run tI_26)) false valRep g4 ([(1, .func (.func 48) #[] #[])]), .blk g3 [.func (.func 47) #[] #[]] 70]) rfl ?_
 refine wl_mapPutE (i := 2) (u := .func (.func 49) #[] #[]) (cs := [.func (.func 49) #[] #[]]) 0 rfl rfl (.inr rfl) rfl rfl rfl rfl tM_71 trivial rfl (fun F w hφ => ⟨rfl, rfl⟩) (H' := [mapE (keyInt (tInt_run tI_26)) false valRep g4 ([(1, .func (.func 48) #[] #[]), (2, .func (.func 49) #[] #[])]), .blk g3 [.func (.func 47) #[] #[]] 70]) rfl ?_
 refine wl_mapPutE (i := 3) (u := .func (.func 50) #[] #[]) (cs := [.func (.func 50) #[] #[]]) 0 rfl rfl (.inr rfl) rfl rfl rfl rfl tM_71 trivial rfl (fun F w hφ => ⟨rfl, rfl⟩) (H' := [mapE (keyInt (tInt_run tI_26)) false valRep g4 ([(1, .func (.func 48) #[] #[]), (2, .func (.func 49) #[] #[]), (3, .func (.func 50) #[] #[])]), .blk g3 [.func (.func 47) #[] #[]] 70]) rfl ?_
 refine wl_mapPutE (i := 4) (u := .func (.func 51) #[] #[]) (cs := [.func (.func 51) #[] #[]]) 0 rfl rfl (.inr rfl) rfl rfl rfl rfl tM_71 trivial rfl (fun F w hφ => ⟨rfl, rfl⟩) (H' := [mapE (keyInt (tInt_run tI_26)) false valRep g4 ([(1, .func (.func 48) #[] #[]), (2, .func (.func 49) #[] #[]), (3, .func (.func 50) #[] #[]), (4, .func (.func 51) #[] #[])]), .blk g3 [.func (.func 47) #[] #[]] 70]) rfl ?_
 refine wl_makeFunc rfl rfl rfl (freshS_eq rfl) rfl rfl ?_
 refine wl_mapPutE (i := 7) (u := .func (.func 52) #[] #[.pointer (some ⟨g3, 0, none⟩)]) (cs := [.func (.func 52) #[] #[.pointer (some ⟨g3, 0, none⟩)]]) 0 rfl rfl (.inr rfl) rfl rfl rfl rfl tM_71 trivial rfl (fun F w hφ => ⟨rfl, rfl⟩) (H' := [mapE (keyInt (tInt_run tI_26)) false valRep g4 ([(1, .func (.func 48) #[] #[]), (2, .func (.func 49) #[] #[]), (3, .func (.func 50) #[] #[]), (4, .func (.func 51) #[] #[]), (7, .func (.func 52) #[] #[.pointer (some ⟨g3, 0, none⟩)])]), .blk g3 [.func (.func 47) #[] #[]] 70]) rfl ?_
 refine wl_makeFunc rfl rfl rfl (freshS_eq rfl) rfl rfl ?_
 refine wl_mapPutE (i := 8) (u := .func (.func 53) #[] #[.pointer (some ⟨g3, 0, none⟩)]) (cs := [.func (.func 53) #[] #[.pointer (some ⟨g3, 0, none⟩)]]) 0 rfl rfl (.inr rfl) rfl rfl rfl rfl tM_71 trivial rfl (fun F w hφ => ⟨rfl, rfl⟩) (H' := [mapE (keyInt (tInt_run tI_26)) false valRep g4 ([(1, .func (.func 48) #[] #[]), (2, .func (.func 49) #[] #[]), (3, .func (.func 50) #[] #[]), (4, .func (.func 51) #[] #[]), (7, .func (.func 52) #[] #[.pointer (some ⟨g3, 0, none⟩)]), (8, .func (.func 53) #[] #[.pointer (some ⟨g3, 0, none⟩)])]), .blk g3 [.func (.func 47) #[] #[]] 70]) rfl ?_
 refine wl_makeFunc rfl rfl rfl (freshS_eq rfl) rfl rfl ?_
 refine wl_mapPutE (i := 9) (u := .func (.func 54) #[] #[.pointer (some ⟨g3, 0, none⟩)]) (cs := [.func (.func 54) #[] #[.pointer (some ⟨g3, 0, none⟩)]]) 0 rfl rfl (.inr rfl) rfl rfl rfl rfl tM_71 trivial rfl (fun F w hφ => ⟨rfl, rfl⟩) (H' := [mapE (keyInt (tInt_run tI_26)) false valRep g4 ([(1, .func (.func 48) #[] #[]), (2, .func (.func 49) #[] #[]), (3, .func (.func 50) #[] #[]), (4, .func (.func 51) #[] #[]), (7, .func (.func 52) #[] #[.pointer (some ⟨g3, 0, none⟩)]), (8, .func (.func 53) #[] #[.pointer (some ⟨g3, 0, none⟩)]), (9, .func (.func 54) #[] #[.pointer (some ⟨g3, 0, none⟩)])]), .blk g3 [.func (.func 47) #[] #[]] 70]) rfl ?_
 refine wl_makeFunc rfl rfl rfl (freshS_eq rfl) rfl rfl ?_
 refine wl_mapPutE (i := 10) (u := .func (.func 55) #[] #[.pointer (some ⟨g3, 0, none⟩)]) (cs := [.func (.func 55) #[] #[.pointer (some ⟨g3, 0, none⟩)]]) 0 rfl rfl (.inr rfl) rfl rfl rfl rfl tM_71 trivial rfl (fun F w hφ => ⟨rfl, rfl⟩) (H' := [mapE (keyInt (tInt_run tI_26)) false valRep g4 ([(1, .func (.func 48) #[] #[]), (2, .func (.func 49) #[] #[]), (3, .func (.func 50) #[] #[]), (4, .func (.func 51) #[] #[]), (7, .func (.func 52) #[] #[.pointer (some ⟨g3, 0, none⟩)]), (8, .func (.func 53) #[] #[.pointer (some ⟨g3, 0, none⟩)]), (9, .func (.func 54) #[] #[.pointer (some ⟨g3, 0, none⟩)]), (10, .func (.func 55) #[] #[.pointer (some ⟨g3, 0, none⟩)])]), .blk g3 [.func (.func 47) #[] #[]] 70]) rfl ?_
 refine wl_makeFunc rfl rfl rfl (freshS_eq rfl) rfl rfl ?_
 refine wl_mapPutE (i := 11) (u := .func (.func 56) #[] #[.pointer (some ⟨g3, 0, none⟩)]) (cs := [.func (.func 56) #[] #[.pointer (some ⟨g3, 0, none⟩)]]) 0 rfl rfl (.inr rfl) rfl rfl rfl rfl tM_71 trivial rfl (fun F w hφ => ⟨rfl, rfl⟩) (H' := [mapE (keyInt (tInt_run tI_26)) false valRep g4 ([(1, .func (.func 48) #[] #[]), (2, .func (.func 49) #[] #[]), (3, .func (.func 50) #[] #[]), (4, .func (.func 51) #[] #[]), (7, .func (.func 52) #[] #[.pointer (some ⟨g3, 0, none⟩)]), (8, .func (.func 53) #[] #[.pointer (some ⟨g3, 0, none⟩)]), (9, .func (.func 54) #[] #[.pointer (some ⟨g3, 0, none⟩)]), (10, .func (.func 55) #[] #[.pointer (some ⟨g3, 0, none⟩)]), (11, .func (.func 56) #[] #[.pointer (some ⟨g3, 0, none⟩)])]), .blk g3 [.func (.func 47) #[] #[]] 70]) rfl ?_
 refine wl_pure rfl rfl rfl (freshS_eq rfl) rfl ?_
 refine wl_pure rfl rfl rfl (freshS_eq rfl) rfl ?_
 rcases ite_some hm with ⟨hq12_0, hm⟩ | ⟨hq12_0, hm⟩
 ·
  refine wl_lookYesE (i := a0) (a := (.func (.func 48) #[] #[])) valRep_opens 0 rfl rfl rfl (freshS_eq rfl) rfl rfl rfl rfl tM_71 trivial (by rw [eq_of_beq hq12_0]; rfl) (u := fun _ => .func (.func 48) #[] #[]) (fun _ => rfl) (v := fun _ => .func (.func 48) #[] #[]) (fun _ => rfl) (fun _ _ => ?_)
  refine wl_pure rfl rfl rfl (freshS_eq rfl) rfl ?_
  refine wl_nil ?_
  refine we_then ?_
  refine wc_keep [2] (S' := [_]) rfl ?_
  refine wc_ret ?_
  have hE := (Option.some.inj hm).symm
  cases hE
 rcases ite_some hm with ⟨hq12_1, hm⟩ | ⟨hq12_1, hm⟩
 ·
  refine wl_lookYesE (i := a0) (a := (.func (.func 49) #[] #[])) valRep_opens 0 rfl rfl rfl (freshS_eq rfl) rfl rfl rfl rfl tM_71 trivial (by rw [eq_of_beq hq12_1]; rfl) (u := fun _ => .func (.func 49) #[] #[]) (fun _ => rfl) (v := fun _ => .func (.func 49) #[] #[]) (fun _ => rfl) (fun _ _ => ?_)
  refine wl_pure rfl rfl rfl (freshS_eq rfl) rfl ?_
  refine wl_nil ?_
  refine we_then ?_
  refine wc_keep [2] (S' := [_]) rfl ?_
  refine wc_ret ?_
  have hE := (Option.some.inj hm).symm
  cases hE
 rcases ite_some hm with ⟨hq12_2, hm⟩ | ⟨hq12_2, hm⟩
 ·
  refine wl_lookYesE (i := a0) (a := (.func (.func 50) #[] #[])) valRep_opens 0 rfl rfl rfl (freshS_eq rfl) rfl rfl rfl rfl tM_71 trivial (by rw [eq_of_beq hq12_2]; rfl) (u := fun _ => .func (.func 50) #[] #[]) (fun _ => rfl) (v := fun _ => .func (.func 50) #[] #[]) (fun _ => rfl) (fun _ _ => ?_)
  refine wl_pure rfl rfl rfl (freshS_eq rfl) rfl ?_
  refine wl_nil ?_
  refine we_then ?_
  refine wc_keep [2] (S' := [_]) rfl ?_
  refine wc_ret ?_
  have hE := (Option.some.inj hm).symm
  cases hE
 rcases ite_some hm with ⟨hq12_3, hm⟩ | ⟨hq12_3, hm⟩
 ·
  refine wl_lookYesE (i := a0) (a := (.func (.func 51) #[] #[])) valRep_opens 0 rfl rfl rfl (freshS_eq rfl) rfl rfl rfl rfl tM_71 trivial (by rw [eq_of_beq hq12_3]; rfl) (u := fun _ => .func (.func 51) #[] #[]) (fun _ => rfl) (v := fun _ => .func (.func 51) #[] #[]) (fun _ => rfl) (fun _ _ => ?_)
  refine wl_pure rfl rfl rfl (freshS_eq rfl) rfl ?_
  refine wl_nil ?_
  refine we_then ?_
  refine wc_keep [2] (S' := [_]) rfl ?_
  refine wc_ret ?_
  have hE := (Option.some.inj hm).symm
  replace hE := Sum.inr.inj hE
  replace hE := Sum.inr.inj hE
  replace hE := Sum.inr.inj hE
  replace hE := Sum.inl.inj hE
  refine ret_one (Hr := []) [] Tryd.results38 (res_tmp rfl) ⟨rfl, rfl, rfl⟩ (fun _ _ hφ => ask [] rfl hφ) rfl rfl (.inl rfl)
 rcases ite_some hm with ⟨hq12_4, hm⟩ | ⟨hq12_4, hm⟩
 ·
  refine wl_lookYesE (i := a0) (a := (.func (.func 52) #[] #[.pointer (some ⟨g3, 0, none⟩)])) valRep_opens 0 rfl rfl rfl (freshS_eq rfl) rfl rfl rfl rfl tM_71 trivial (by rw [eq_of_beq hq12_4]; rfl) (u := fun _ => .func (.func 52) #[] #[.pointer (some ⟨g3, 0, none⟩)]) (fun _ => rfl) (v := fun _ => .func (.func 52) #[] #[.pointer (some ⟨g3, 0, none⟩)]) (fun _ => rfl) (fun _ _ => ?_)
  refine wl_pure rfl rfl rfl (freshS_eq rfl) rfl ?_
  refine wl_nil ?_
  refine we_then ?_
  refine wc_keep [2] (S' := [_]) rfl ?_
  refine wc_ret ?_
  have hE := (Option.some.inj hm).symm
  cases hE
 rcases ite_some hm with ⟨hq12_5, hm⟩ | ⟨hq12_5, hm⟩
 ·
  refine wl_lookYesE (i := a0) (a := (.func (.func 53) #[] #[.pointer (some ⟨g3, 0, none⟩)])) valRep_opens 0 rfl rfl rfl (freshS_eq rfl) rfl rfl rfl rfl tM_71 trivial (by rw [eq_of_beq hq12_5]; rfl) (u := fun _ => .func (.func 53) #[] #[.pointer (some ⟨g3, 0, none⟩)]) (fun _ => rfl) (v := fun _ => .func (.func 53) #[] #[.pointer (some ⟨g3, 0, none⟩)]) (fun _ => rfl) (fun _ _ => ?_)
  refine wl_pure rfl rfl rfl (freshS_eq rfl) rfl ?_
  refine wl_nil ?_
  refine we_then ?_
  refine wc_keep [2] (S' := [_]) rfl ?_
  refine wc_ret ?_
  have hE := (Option.some.inj hm).symm
  cases hE
 rcases ite_some hm with ⟨hq12_6, hm⟩ | ⟨hq12_6, hm⟩
 ·
  refine wl_lookYesE (i := a0) (a := (.func (.func 54) #[] #[.pointer (some ⟨g3, 0, none⟩)])) valRep_opens 0 rfl rfl rfl (freshS_eq rfl) rfl rfl rfl rfl tM_71 trivial (by rw [eq_of_beq hq12_6]; rfl) (u := fun _ => .func (.func 54) #[] #[.pointer (some ⟨g3, 0, none⟩)]) (fun _ => rfl) (v := fun _ => .func (.func 54) #[] #[.pointer (some ⟨g3, 0, none⟩)]) (fun _ => rfl) (fun _ _ => ?_)
  refine wl_pure rfl rfl rfl (freshS_eq rfl) rfl ?_
  refine wl_nil ?_
  refine we_then ?_
  refine wc_keep [2] (S' := [_]) rfl ?_
  refine wc_ret ?_
  have hE := (Option.some.inj hm).symm
  cases hE
 rcases ite_some hm with ⟨hq12_7, hm⟩ | ⟨hq12_7, hm⟩
 ·
  refine wl_lookYesE (i := a0) (a := (.func (.func 55) #[] #[.pointer (some ⟨g3, 0, none⟩)])) valRep_opens 0 rfl rfl rfl (freshS_eq rfl) rfl rfl rfl rfl tM_71 trivial (by rw [eq_of_beq hq12_7]; rfl) (u := fun _ => .func (.func 55) #[] #[.pointer (some ⟨g3, 0, none⟩)]) (fun _ => rfl) (v := fun _ => .func (.func 55) #[] #[.pointer (some ⟨g3, 0, none⟩)]) (fun _ => rfl) (fun _ _ => ?_)
  refine wl_pure rfl rfl rfl (freshS_eq rfl) rfl ?_
  refine wl_nil ?_
  refine we_then ?_
  refine wc_keep [2] (S' := [_]) rfl ?_
  refine wc_ret ?_
  have hE := (Option.some.inj hm).symm
  cases hE
 rcases ite_some hm with ⟨hq12_8, hm⟩ | ⟨hq12_8, hm⟩
 ·
  refine wl_lookYesE (i := a0) (a := (.func (.func 56) #[] #[.pointer (some ⟨g3, 0, none⟩)])) valRep_opens 0 rfl rfl rfl (freshS_eq rfl) rfl rfl rfl rfl tM_71 trivial (by rw [eq_of_beq hq12_8]; rfl) (u := fun _ => .func (.func 56) #[] #[.pointer (some ⟨g3, 0, none⟩)]) (fun _ => rfl) (v := fun _ => .func (.func 56) #[] #[.pointer (some ⟨g3, 0, none⟩)]) (fun _ => rfl) (fun _ _ => ?_)
  refine wl_pure rfl rfl rfl (freshS_eq rfl) rfl ?_
  refine wl_nil ?_
  refine we_then ?_
  refine wc_keep [2] (S' := [_]) rfl ?_
  refine wc_ret ?_
  have hE := (Option.some.inj hm).symm
  cases hE
 ·
  refine wl_lookNoE (i := a0) 0 rfl rfl rfl (freshS_eq rfl) rfl rfl rfl rfl tZ_64 tM_71 trivial (by simp [mlook, (ne_of_beq_false hq12_0).symm, (ne_of_beq_false hq12_1).symm, (ne_of_beq_false hq12_2).symm, (ne_of_beq_false hq12_3).symm, (ne_of_beq_false hq12_4).symm, (ne_of_beq_false hq12_5).symm, (ne_of_beq_false hq12_6).symm, (ne_of_beq_false hq12_7).symm, (ne_of_beq_false hq12_8).symm]) (v := .nilFunc) rfl ?_
  refine wl_pure rfl rfl rfl (freshS_eq rfl) rfl ?_
  refine wl_nil ?_
  refine we_then ?_
  refine wc_keep [2] (S' := [_]) rfl ?_
  refine wc_ret ?_
  have hE := (Option.some.inj hm).symm
  cases hE
set_option maxRecDepth 100000 in
set_option maxHeartbeats 4000000 in
theorem w_value_does_s4 (N : Nat) (a0 : Int)  (hm : m_value_does N a0 = some (.inr (.inr (.inr (.inr (.inl ())))))) : Spec Tryd.prog 38 [.int .u8 a0] [] [] (fun v Φr Hr => ∃ (o0 : Nat), v = .func (.func 52) #[] #[.pointer (some ⟨o0, 0, none⟩)] ∧ Φr = [] ∧ Hr = [.blk o0 [.func (.func 47) #[] #[]] 70]) := by
 unfold m_value_does at hm
 refine spec_of Tryd.func38 rfl Tryd.ntmps38 rfl (S := [_]) rfl (fun C => ?_)
 refine wc_seq ?_
 refine wc_region ?_
 refine wl_pure rfl rfl rfl (freshS_eq rfl) rfl ?_
 refine wl_nil ?_
 refine we_then ?_
 refine wc_keep [0] (S' := [_]) rfl ?_
 refine wc_seq ?_
 refine wc_region ?_
 refine wl_alloc rfl rfl rfl (freshS_eq rfl) rfl tZ_70 rfl (fun g3 => ?_)
 refine wl_store 0 0 rfl rfl rfl rfl rfl rfl rfl tS_70 rfl rfl rfl (all' := [_]) rfl (H' := [_]) rfl ?_
 refine wl_nil ?_
 refine we_then ?_
 refine wc_seq ?_
 refine wc_region ?_
 refine wl_makeMapE (keyInt (tInt_run tI_26)) false valRep rfl rfl rfl (freshS_eq rfl) rfl (fun g4 => ?_)
 refine wl_mapPutE (i := 1) (u := .func (.func 48) #[] #[]) (cs := [.func (.func 48) #[] #[]]) 0 rfl rfl (.inr rfl) rfl rfl rfl rfl tM_71 trivial rfl (fun F w hφ => ⟨rfl, rfl⟩) (H' := [mapE (keyInt (tInt_run tI_26)) false valRep g4 ([(1, .func (.func 48) #[] #[])]), .blk g3 [.func (.func 47) #[] #[]] 70]) rfl ?_
 refine wl_mapPutE (i := 2) (u := .func (.func 49) #[] #[]) (cs := [.func (.func 49) #[] #[]]) 0 rfl rfl (.inr rfl) rfl rfl rfl rfl tM_71 trivial rfl (fun F w hφ => ⟨rfl, rfl⟩) (H' := [mapE (keyInt (tInt_run tI_26)) false valRep g4 ([(1, .func (.func 48) #[] #[]), (2, .func (.func 49) #[] #[])]), .blk g3 [.func (.func 47) #[] #[]] 70]) rfl ?_
 refine wl_mapPutE (i := 3) (u := .func (.func 50) #[] #[]) (cs := [.func (.func 50) #[] #[]]) 0 rfl rfl (.inr rfl) rfl rfl rfl rfl tM_71 trivial rfl (fun F w hφ => ⟨rfl, rfl⟩) (H' := [mapE (keyInt (tInt_run tI_26)) false valRep g4 ([(1, .func (.func 48) #[] #[]), (2, .func (.func 49) #[] #[]), (3, .func (.func 50) #[] #[])]), .blk g3 [.func (.func 47) #[] #[]] 70]) rfl ?_
 refine wl_mapPutE (i := 4) (u := .func (.func 51) #[] #[]) (cs := [.func (.func 51) #[] #[]]) 0 rfl rfl (.inr rfl) rfl rfl rfl rfl tM_71 trivial rfl (fun F w hφ => ⟨rfl, rfl⟩) (H' := [mapE (keyInt (tInt_run tI_26)) false valRep g4 ([(1, .func (.func 48) #[] #[]), (2, .func (.func 49) #[] #[]), (3, .func (.func 50) #[] #[]), (4, .func (.func 51) #[] #[])]), .blk g3 [.func (.func 47) #[] #[]] 70]) rfl ?_
 refine wl_makeFunc rfl rfl rfl (freshS_eq rfl) rfl rfl ?_
 refine wl_mapPutE (i := 7) (u := .func (.func 52) #[] #[.pointer (some ⟨g3, 0, none⟩)]) (cs := [.func (.func 52) #[] #[.pointer (some ⟨g3, 0, none⟩)]]) 0 rfl rfl (.inr rfl) rfl rfl rfl rfl tM_71 trivial rfl (fun F w hφ => ⟨rfl, rfl⟩) (H' := [mapE (keyInt (tInt_run tI_26)) false valRep g4 ([(1, .func (.func 48) #[] #[]), (2, .func (.func 49) #[] #[]), (3, .func (.func 50) #[] #[]), (4, .func (.func 51) #[] #[]), (7, .func (.func 52) #[] #[.pointer (some ⟨g3, 0, none⟩)])]), .blk g3 [.func (.func 47) #[] #[]] 70]) rfl ?_
 refine wl_makeFunc rfl rfl rfl (freshS_eq rfl) rfl rfl ?_
 refine wl_mapPutE (i := 8) (u := .func (.func 53) #[] #[.pointer (some ⟨g3, 0, none⟩)]) (cs := [.func (.func 53) #[] #[.pointer (some ⟨g3, 0, none⟩)]]) 0 rfl rfl (.inr rfl) rfl rfl rfl rfl tM_71 trivial rfl (fun F w hφ => ⟨rfl, rfl⟩) (H' := [mapE (keyInt (tInt_run tI_26)) false valRep g4 ([(1, .func (.func 48) #[] #[]), (2, .func (.func 49) #[] #[]), (3, .func (.func 50) #[] #[]), (4, .func (.func 51) #[] #[]), (7, .func (.func 52) #[] #[.pointer (some ⟨g3, 0, none⟩)]), (8, .func (.func 53) #[] #[.pointer (some ⟨g3, 0, none⟩)])]), .blk g3 [.func (.func 47) #[] #[]] 70]) rfl ?_
 refine wl_makeFunc rfl rfl rfl (freshS_eq rfl) rfl rfl ?_
 refine wl_mapPutE (i := 9) (u := .func (.func 54) #[] #[.pointer (some ⟨g3, 0, none⟩)]) (cs := [.func (.func 54) #[] #[.pointer (some ⟨g3, 0, none⟩)]]) 0 rfl rfl (.inr rfl) rfl rfl rfl rfl tM_71 trivial rfl (fun F w hφ => ⟨rfl, rfl⟩) (H' := [mapE (keyInt (tInt_run tI_26)) false valRep g4 ([(1, .func (.func 48) #[] #[]), (2, .func (.func 49) #[] #[]), (3, .func (.func 50) #[] #[]), (4, .func (.func 51) #[] #[]), (7, .func (.func 52) #[] #[.pointer (some ⟨g3, 0, none⟩)]), (8, .func (.func 53) #[] #[.pointer (some ⟨g3, 0, none⟩)]), (9, .func (.func 54) #[] #[.pointer (some ⟨g3, 0, none⟩)])]), .blk g3 [.func (.func 47) #[] #[]] 70]) rfl ?_
 refine wl_makeFunc rfl rfl rfl (freshS_eq rfl) rfl rfl ?_
 refine wl_mapPutE (i := 10) (u := .func (.func 55) #[] #[.pointer (some ⟨g3, 0, none⟩)]) (cs := [.func (.func 55) #[] #[.pointer (some ⟨g3, 0, none⟩)]]) 0 rfl rfl (.inr rfl) rfl rfl rfl rfl tM_71 trivial rfl (fun F w hφ => ⟨rfl, rfl⟩) (H' := [mapE (keyInt (tInt_run tI_26)) false valRep g4 ([(1, .func (.func 48) #[] #[]), (2, .func (.func 49) #[] #[]), (3, .func (.func 50) #[] #[]), (4, .func (.func 51) #[] #[]), (7, .func (.func 52) #[] #[.pointer (some ⟨g3, 0, none⟩)]), (8, .func (.func 53) #[] #[.pointer (some ⟨g3, 0, none⟩)]), (9, .func (.func 54) #[] #[.pointer (some ⟨g3, 0, none⟩)]), (10, .func (.func 55) #[] #[.pointer (some ⟨g3, 0, none⟩)])]), .blk g3 [.func (.func 47) #[] #[]] 70]) rfl ?_
 refine wl_makeFunc rfl rfl rfl (freshS_eq rfl) rfl rfl ?_
 refine wl_mapPutE (i := 11) (u := .func (.func 56) #[] #[.pointer (some ⟨g3, 0, none⟩)]) (cs := [.func (.func 56) #[] #[.pointer (some ⟨g3, 0, none⟩)]]) 0 rfl rfl (.inr rfl) rfl rfl rfl rfl tM_71 trivial rfl (fun F w hφ => ⟨rfl, rfl⟩) (H' := [mapE (keyInt (tInt_run tI_26)) false valRep g4 ([(1, .func (.func 48) #[] #[]), (2, .func (.func 49) #[] #[]), (3, .func (.func 50) #[] #[]), (4, .func (.func 51) #[] #[]), (7, .func (.func 52) #[] #[.pointer (some ⟨g3, 0, none⟩)]), (8, .func (.func 53) #[] #[.pointer (some ⟨g3, 0, none⟩)]), (9, .func (.func 54) #[] #[.pointer (some ⟨g3, 0, none⟩)]), (10, .func (.func 55) #[] #[.pointer (some ⟨g3, 0, none⟩)]), (11, .func (.func 56) #[] #[.pointer (some ⟨g3, 0, none⟩)])]), .blk g3 [.func (.func 47) #[] #[]] 70]) rfl ?_
 refine wl_pure rfl rfl rfl (freshS_eq rfl) rfl ?_
 refine wl_pure rfl rfl rfl (freshS_eq rfl) rfl ?_
 rcases ite_some hm with ⟨hq12_0, hm⟩ | ⟨hq12_0, hm⟩
 ·
  refine wl_lookYesE (i := a0) (a := (.func (.func 48) #[] #[])) valRep_opens 0 rfl rfl rfl (freshS_eq rfl) rfl rfl rfl rfl tM_71 trivial (by rw [eq_of_beq hq12_0]; rfl) (u := fun _ => .func (.func 48) #[] #[]) (fun _ => rfl) (v := fun _ => .func (.func 48) #[] #[]) (fun _ => rfl) (fun _ _ => ?_)
  refine wl_pure rfl rfl rfl (freshS_eq rfl) rfl ?_
  refine wl_nil ?_
  refine we_then ?_
  refine wc_keep [2] (S' := [_]) rfl ?_
  refine wc_ret ?_
  have hE := (Option.some.inj hm).symm
  cases hE
 rcases ite_some hm with ⟨hq12_1, hm⟩ | ⟨hq12_1, hm⟩
 ·
  refine wl_lookYesE (i := a0) (a := (.func (.func 49) #[] #[])) valRep_opens 0 rfl rfl rfl (freshS_eq rfl) rfl rfl rfl rfl tM_71 trivial (by rw [eq_of_beq hq12_1]; rfl) (u := fun _ => .func (.func 49) #[] #[]) (fun _ => rfl) (v := fun _ => .func (.func 49) #[] #[]) (fun _ => rfl) (fun _ _ => ?_)
  refine wl_pure rfl rfl rfl (freshS_eq rfl) rfl ?_
  refine wl_nil ?_
  refine we_then ?_
  refine wc_keep [2] (S' := [_]) rfl ?_
  refine wc_ret ?_
  have hE := (Option.some.inj hm).symm
  cases hE
 rcases ite_some hm with ⟨hq12_2, hm⟩ | ⟨hq12_2, hm⟩
 ·
  refine wl_lookYesE (i := a0) (a := (.func (.func 50) #[] #[])) valRep_opens 0 rfl rfl rfl (freshS_eq rfl) rfl rfl rfl rfl tM_71 trivial (by rw [eq_of_beq hq12_2]; rfl) (u := fun _ => .func (.func 50) #[] #[]) (fun _ => rfl) (v := fun _ => .func (.func 50) #[] #[]) (fun _ => rfl) (fun _ _ => ?_)
  refine wl_pure rfl rfl rfl (freshS_eq rfl) rfl ?_
  refine wl_nil ?_
  refine we_then ?_
  refine wc_keep [2] (S' := [_]) rfl ?_
  refine wc_ret ?_
  have hE := (Option.some.inj hm).symm
  cases hE
 rcases ite_some hm with ⟨hq12_3, hm⟩ | ⟨hq12_3, hm⟩
 ·
  refine wl_lookYesE (i := a0) (a := (.func (.func 51) #[] #[])) valRep_opens 0 rfl rfl rfl (freshS_eq rfl) rfl rfl rfl rfl tM_71 trivial (by rw [eq_of_beq hq12_3]; rfl) (u := fun _ => .func (.func 51) #[] #[]) (fun _ => rfl) (v := fun _ => .func (.func 51) #[] #[]) (fun _ => rfl) (fun _ _ => ?_)
  refine wl_pure rfl rfl rfl (freshS_eq rfl) rfl ?_
  refine wl_nil ?_
  refine we_then ?_
  refine wc_keep [2] (S' := [_]) rfl ?_
  refine wc_ret ?_
  have hE := (Option.some.inj hm).symm
  cases hE
 rcases ite_some hm with ⟨hq12_4, hm⟩ | ⟨hq12_4, hm⟩
 ·
  refine wl_lookYesE (i := a0) (a := (.func (.func 52) #[] #[.pointer (some ⟨g3, 0, none⟩)])) valRep_opens 0 rfl rfl rfl (freshS_eq rfl) rfl rfl rfl rfl tM_71 trivial (by rw [eq_of_beq hq12_4]; rfl) (u := fun _ => .func (.func 52) #[] #[.pointer (some ⟨g3, 0, none⟩)]) (fun _ => rfl) (v := fun _ => .func (.func 52) #[] #[.pointer (some ⟨g3, 0, none⟩)]) (fun _ => rfl) (fun _ _ => ?_)
  refine wl_pure rfl rfl rfl (freshS_eq rfl) rfl ?_
  refine wl_nil ?_
  refine we_then ?_
  refine wc_keep [2] (S' := [_]) rfl ?_
  refine wc_ret ?_
  have hE := (Option.some.inj hm).symm
  replace hE := Sum.inr.inj hE
  replace hE := Sum.inr.inj hE
  replace hE := Sum.inr.inj hE
  replace hE := Sum.inr.inj hE
  replace hE := Sum.inl.inj hE
  refine ret_one (Hr := [_]) [1] Tryd.results38 (res_tmp rfl) ⟨g3, rfl, rfl, rfl⟩ (fun _ _ hφ => ask [] rfl hφ) rfl rfl (.inl rfl)
 rcases ite_some hm with ⟨hq12_5, hm⟩ | ⟨hq12_5, hm⟩
 ·
  refine wl_lookYesE (i := a0) (a := (.func (.func 53) #[] #[.pointer (some ⟨g3, 0, none⟩)])) valRep_opens 0 rfl rfl rfl (freshS_eq rfl) rfl rfl rfl rfl tM_71 trivial (by rw [eq_of_beq hq12_5]; rfl) (u := fun _ => .func (.func 53) #[] #[.pointer (some ⟨g3, 0, none⟩)]) (fun _ => rfl) (v := fun _ => .func (.func 53) #[] #[.pointer (some ⟨g3, 0, none⟩)]) (fun _ => rfl) (fun _ _ => ?_)
  refine wl_pure rfl rfl rfl (freshS_eq rfl) rfl ?_
  refine wl_nil ?_
  refine we_then ?_
  refine wc_keep [2] (S' := [_]) rfl ?_
  refine wc_ret ?_
  have hE := (Option.some.inj hm).symm
  cases hE
 rcases ite_some hm with ⟨hq12_6, hm⟩ | ⟨hq12_6, hm⟩
 ·
  refine wl_lookYesE (i := a0) (a := (.func (.func 54) #[] #[.pointer (some ⟨g3, 0, none⟩)])) valRep_opens 0 rfl rfl rfl (freshS_eq rfl) rfl rfl rfl rfl tM_71 trivial (by rw [eq_of_beq hq12_6]; rfl) (u := fun _ => .func (.func 54) #[] #[.pointer (some ⟨g3, 0, none⟩)]) (fun _ => rfl) (v := fun _ => .func (.func 54) #[] #[.pointer (some ⟨g3, 0, none⟩)]) (fun _ => rfl) (fun _ _ => ?_)
  refine wl_pure rfl rfl rfl (freshS_eq rfl) rfl ?_
  refine wl_nil ?_
  refine we_then ?_
  refine wc_keep [2] (S' := [_]) rfl ?_
  refine wc_ret ?_
  have hE := (Option.some.inj hm).symm
  cases hE
 rcases ite_some hm with ⟨hq12_7, hm⟩ | ⟨hq12_7, hm⟩
 ·
  refine wl_lookYesE (i := a0) (a := (.func (.func 55) #[] #[.pointer (some ⟨g3, 0, none⟩)])) valRep_opens 0 rfl rfl rfl (freshS_eq rfl) rfl rfl rfl rfl tM_71 trivial (by rw [eq_of_beq hq12_7]; rfl) (u := fun _ => .func (.func 55) #[] #[.pointer (some ⟨g3, 0, none⟩)]) (fun _ => rfl) (v := fun _ => .func (.func 55) #[] #[.pointer (some ⟨g3, 0, none⟩)]) (fun _ => rfl) (fun _ _ => ?_)
  refine wl_pure rfl rfl rfl (freshS_eq rfl) rfl ?_
  refine wl_nil ?_
  refine we_then ?_
  refine wc_keep [2] (S' := [_]) rfl ?_
  refine wc_ret ?_
  have hE := (Option.some.inj hm).symm
  cases hE
 rcases ite_some hm with ⟨hq12_8, hm⟩ | ⟨hq12_8, hm⟩
 ·
  refine wl_lookYesE (i := a0) (a := (.func (.func 56) #[] #[.pointer (some ⟨g3, 0, none⟩)])) valRep_opens 0 rfl rfl rfl (freshS_eq rfl) rfl rfl rfl rfl tM_71 trivial (by rw [eq_of_beq hq12_8]; rfl) (u := fun _ => .func (.func 56) #[] #[.pointer (some ⟨g3, 0, none⟩)]) (fun _ => rfl) (v := fun _ => .func (.func 56) #[] #[.pointer (some ⟨g3, 0, none⟩)]) (fun _ => rfl) (fun _ _ => ?_)
  refine wl_pure rfl rfl rfl (freshS_eq rfl) rfl ?_
  refine wl_nil ?_
  refine we_then ?_
  refine wc_keep [2] (S' := [_]) rfl ?_
  refine wc_ret ?_
  have hE := (Option.some.inj hm).symm
  cases hE
 ·
  refine wl_lookNoE (i := a0) 0 rfl rfl rfl (freshS_eq rfl) rfl rfl rfl rfl tZ_64 tM_71 trivial (by simp [mlook, (ne_of_beq_false hq12_0).symm, (ne_of_beq_false hq12_1).symm, (ne_of_beq_false hq12_2).symm, (ne_of_beq_false hq12_3).symm, (ne_of_beq_false hq12_4).symm, (ne_of_beq_false hq12_5).symm, (ne_of_beq_false hq12_6).symm, (ne_of_beq_false hq12_7).symm, (ne_of_beq_false hq12_8).symm]) (v := .nilFunc) rfl ?_
  refine wl_pure rfl rfl rfl (freshS_eq rfl) rfl ?_
  refine wl_nil ?_
  refine we_then ?_
  refine wc_keep [2] (S' := [_]) rfl ?_
  refine wc_ret ?_
  have hE := (Option.some.inj hm).symm
  cases hE
set_option maxRecDepth 100000 in
set_option maxHeartbeats 4000000 in
theorem w_value_does_s5 (N : Nat) (a0 : Int)  (hm : m_value_does N a0 = some (.inr (.inr (.inr (.inr (.inr (.inl ()))))))) : Spec Tryd.prog 38 [.int .u8 a0] [] [] (fun v Φr Hr => ∃ (o0 : Nat), v = .func (.func 53) #[] #[.pointer (some ⟨o0, 0, none⟩)] ∧ Φr = [] ∧ Hr = [.blk o0 [.func (.func 47) #[] #[]] 70]) := by
 unfold m_value_does at hm
 refine spec_of Tryd.func38 rfl Tryd.ntmps38 rfl (S := [_]) rfl (fun C => ?_)
 refine wc_seq ?_
 refine wc_region ?_
 refine wl_pure rfl rfl rfl (freshS_eq rfl) rfl ?_
 refine wl_nil ?_
 refine we_then ?_
 refine wc_keep [0] (S' := [_]) rfl ?_
 refine wc_seq ?_
 refine wc_region ?_
 refine wl_alloc rfl rfl rfl (freshS_eq rfl) rfl tZ_70 rfl (fun g3 => ?_)
 refine wl_store 0 0 rfl rfl rfl rfl rfl rfl rfl tS_70 rfl rfl rfl (all' := [_]) rfl (H' := [_]) rfl ?_
 refine wl_nil ?_
 refine we_then ?_
 refine wc_seq ?_
 refine wc_region ?_
 refine wl_makeMapE (keyInt (tInt_run tI_26)) false valRep rfl rfl rfl (freshS_eq rfl) rfl (fun g4 => ?_)
 refine wl_mapPutE (i := 1) (u := .func (.func 48) #[] #[]) (cs := [.func (.func 48) #[] #[]]) 0 rfl rfl (.inr rfl) rfl rfl rfl rfl tM_71 trivial rfl (fun F w hφ => ⟨rfl, rfl⟩) (H' := [mapE (keyInt (tInt_run tI_26)) false valRep g4 ([(1, .func (.func 48) #[] #[])]), .blk g3 [.func (.func 47) #[] #[]] 70]) rfl ?_
 refine wl_mapPutE (i := 2) (u := .func (.func 49) #[] #[]) (cs := [.func (.func 49) #[] #[]]) 0 rfl rfl (.inr rfl) rfl rfl rfl rfl tM_71 trivial rfl (fun F w hφ => ⟨rfl, rfl⟩) (H' := [mapE (keyInt (tInt_run tI_26)) false valRep g4 ([(1, .func (.func 48) #[] #[]), (2, .func (.func 49) #[] #[])]), .blk g3 [.func (.func 47) #[] #[]] 70]) rfl ?_
 refine wl_mapPutE (i := 3) (u := .func (.func 50) #[] #[]) (cs := [.func (.func 50) #[] #[]]) 0 rfl rfl (.inr rfl) rfl rfl rfl rfl tM_71 trivial rfl (fun F w hφ => ⟨rfl, rfl⟩) (H' := [mapE (keyInt (tInt_run tI_26)) false valRep g4 ([(1, .func (.func 48) #[] #[]), (2, .func (.func 49) #[] #[]), (3, .func (.func 50) #[] #[])]), .blk g3 [.func (.func 47) #[] #[]] 70]) rfl ?_
 refine wl_mapPutE (i := 4) (u := .func (.func 51) #[] #[]) (cs := [.func (.func 51) #[] #[]]) 0 rfl rfl (.inr rfl) rfl rfl rfl rfl tM_71 trivial rfl (fun F w hφ => ⟨rfl, rfl⟩) (H' := [mapE (keyInt (tInt_run tI_26)) false valRep g4 ([(1, .func (.func 48) #[] #[]), (2, .func (.func 49) #[] #[]), (3, .func (.func 50) #[] #[]), (4, .func (.func 51) #[] #[])]), .blk g3 [.func (.func 47) #[] #[]] 70]) rfl ?_
 refine wl_makeFunc rfl rfl rfl (freshS_eq rfl) rfl rfl ?_
 refine wl_mapPutE (i := 7) (u := .func (.func 52) #[] #[.pointer (some ⟨g3, 0, none⟩)]) (cs := [.func (.func 52) #[] #[.pointer (some ⟨g3, 0, none⟩)]]) 0 rfl rfl (.inr rfl) rfl rfl rfl rfl tM_71 trivial rfl (fun F w hφ => ⟨rfl, rfl⟩) (H' := [mapE (keyInt (tInt_run tI_26)) false valRep g4 ([(1, .func (.func 48) #[] #[]), (2, .func (.func 49) #[] #[]), (3, .func (.func 50) #[] #[]), (4, .func (.func 51) #[] #[]), (7, .func (.func 52) #[] #[.pointer (some ⟨g3, 0, none⟩)])]), .blk g3 [.func (.func 47) #[] #[]] 70]) rfl ?_
 refine wl_makeFunc rfl rfl rfl (freshS_eq rfl) rfl rfl ?_
 refine wl_mapPutE (i := 8) (u := .func (.func 53) #[] #[.pointer (some ⟨g3, 0, none⟩)]) (cs := [.func (.func 53) #[] #[.pointer (some ⟨g3, 0, none⟩)]]) 0 rfl rfl (.inr rfl) rfl rfl rfl rfl tM_71 trivial rfl (fun F w hφ => ⟨rfl, rfl⟩) (H' := [mapE (keyInt (tInt_run tI_26)) false valRep g4 ([(1, .func (.func 48) #[] #[]), (2, .func (.func 49) #[] #[]), (3, .func (.func 50) #[] #[]), (4, .func (.func 51) #[] #[]), (7, .func (.func 52) #[] #[.pointer (some ⟨g3, 0, none⟩)]), (8, .func (.func 53) #[] #[.pointer (some ⟨g3, 0, none⟩)])]), .blk g3 [.func (.func 47) #[] #[]] 70]) rfl ?_
 refine wl_makeFunc rfl rfl rfl (freshS_eq rfl) rfl rfl ?_
 refine wl_mapPutE (i := 9) (u := .func (.func 54) #[] #[.pointer (some ⟨g3, 0, none⟩)]) (cs := [.func (.func 54) #[] #[.pointer (some ⟨g3, 0, none⟩)]]) 0 rfl rfl (.inr rfl) rfl rfl rfl rfl tM_71 trivial rfl (fun F w hφ => ⟨rfl, rfl⟩) (H' := [mapE (keyInt (tInt_run tI_26)) false valRep g4 ([(1, .func (.func 48) #[] #[]), (2, .func (.func 49) #[] #[]), (3, .func (.func 50) #[] #[]), (4, .func (.func 51) #[] #[]), (7, .func (.func 52) #[] #[.pointer (some ⟨g3, 0, none⟩)]), (8, .func (.func 53) #[] #[.pointer (some ⟨g3, 0, none⟩)]), (9, .func (.func 54) #[] #[.pointer (some ⟨g3, 0, none⟩)])]), .blk g3 [.func (.func 47) #[] #[]] 70]) rfl ?_
 refine wl_makeFunc rfl rfl rfl (freshS_eq rfl) rfl rfl ?_
 refine wl_mapPutE (i := 10) (u := .func (.func 55) #[] #[.pointer (some ⟨g3, 0, none⟩)]) (cs := [.func (.func 55) #[] #[.pointer (some ⟨g3, 0, none⟩)]]) 0 rfl rfl (.inr rfl) rfl rfl rfl rfl tM_71 trivial rfl (fun F w hφ => ⟨rfl, rfl⟩) (H' := [mapE (keyInt (tInt_run tI_26)) false valRep g4 ([(1, .func (.func 48) #[] #[]), (2, .func (.func 49) #[] #[]), (3, .func (.func 50) #[] #[]), (4, .func (.func 51) #[] #[]), (7, .func (.func 52) #[] #[.pointer (some ⟨g3, 0, none⟩)]), (8, .func (.func 53) #[] #[.pointer (some ⟨g3, 0, none⟩)]), (9, .func (.func 54) #[] #[.pointer (some ⟨g3, 0, none⟩)]), (10, .func (.func 55) #[] #[.pointer (some ⟨g3, 0, none⟩)])]), .blk g3 [.func (.func 47) #[] #[]] 70]) rfl ?_
 refine wl_makeFunc rfl rfl rfl (freshS_eq rfl) rfl rfl ?_
 refine wl_mapPutE (i := 11) (u := .func (.func 56) #[] #[.pointer (some ⟨g3, 0, none⟩)]) (cs := [.func (.func 56) #[] #[.pointer (some ⟨g3, 0, none⟩)]]) 0 rfl rfl (.inr rfl) rfl rfl rfl rfl tM_71 trivial rfl (fun F w hφ => ⟨rfl, rfl⟩) (H' := [mapE (keyInt (tInt_run tI_26)) false valRep g4 ([(1, .func (.func 48) #[] #[]), (2, .func (.func 49) #[] #[]), (3, .func (.func 50) #[] #[]), (4, .func (.func 51) #[] #[]), (7, .func (.func 52) #[] #[.pointer (some ⟨g3, 0, none⟩)]), (8, .func (.func 53) #[] #[.pointer (some ⟨g3, 0, none⟩)]), (9, .func (.func 54) #[] #[.pointer (some ⟨g3, 0, none⟩)]), (10, .func (.func 55) #[] #[.pointer (some ⟨g3, 0, none⟩)]), (11, .func (.func 56) #[] #[.pointer (some ⟨g3, 0, none⟩)])]), .blk g3 [.func (.func 47) #[] #[]] 70]) rfl ?_
 refine wl_pure rfl rfl rfl (freshS_eq rfl) rfl ?_
 refine wl_pure rfl rfl rfl (freshS_eq rfl) rfl ?_
 rcases ite_some hm with ⟨hq12_0, hm⟩ | ⟨hq12_0, hm⟩
 ·
  refine wl_lookYesE (i := a0) (a := (.func (.func 48) #[] #[])) valRep_opens 0 rfl rfl rfl (freshS_eq rfl) rfl rfl rfl rfl tM_71 trivial (by rw [eq_of_beq hq12_0]; rfl) (u := fun _ => .func (.func 48) #[] #[]) (fun _ => rfl) (v := fun _ => .func (.func 48) #[] #[]) (fun _ => rfl) (fun _ _ => ?_)
  refine wl_pure rfl rfl rfl (freshS_eq rfl) rfl ?_
  refine wl_nil ?_
  refine we_then ?_
  refine wc_keep [2] (S' := [_]) rfl ?_
  refine wc_ret ?_
  have hE := (Option.some.inj hm).symm
  cases hE
 rcases ite_some hm with ⟨hq12_1, hm⟩ | ⟨hq12_1, hm⟩
 ·
  refine wl_lookYesE (i := a0) (a := (.func (.func 49) #[] #[])) valRep_opens 0 rfl rfl rfl (freshS_eq rfl) rfl rfl rfl rfl tM_71 trivial (by rw [eq_of_beq hq12_1]; rfl) (u := fun _ => .func (.func 49) #[] #[]) (fun _ => rfl) (v := fun _ => .func (.func 49) #[] #[]) (fun _ => rfl) (fun _ _ => ?_)
  refine wl_pure rfl rfl rfl (freshS_eq rfl) rfl ?_
  refine wl_nil ?_
  refine we_then ?_
  refine wc_keep [2] (S' := [_]) rfl ?_
  refine wc_ret ?_
  have hE := (Option.some.inj hm).symm
  cases hE
 rcases ite_some hm with ⟨hq12_2, hm⟩ | ⟨hq12_2, hm⟩
 ·
  refine wl_lookYesE (i := a0) (a := (.func (.func 50) #[] #[])) valRep_opens 0 rfl rfl rfl (freshS_eq rfl) rfl rfl rfl rfl tM_71 trivial (by rw [eq_of_beq hq12_2]; rfl) (u := fun _ => .func (.func 50) #[] #[]) (fun _ => rfl) (v := fun _ => .func (.func 50) #[] #[]) (fun _ => rfl) (fun _ _ => ?_)
  refine wl_pure rfl rfl rfl (freshS_eq rfl) rfl ?_
  refine wl_nil ?_
  refine we_then ?_
  refine wc_keep [2] (S' := [_]) rfl ?_
  refine wc_ret ?_
  have hE := (Option.some.inj hm).symm
  cases hE
 rcases ite_some hm with ⟨hq12_3, hm⟩ | ⟨hq12_3, hm⟩
 ·
  refine wl_lookYesE (i := a0) (a := (.func (.func 51) #[] #[])) valRep_opens 0 rfl rfl rfl (freshS_eq rfl) rfl rfl rfl rfl tM_71 trivial (by rw [eq_of_beq hq12_3]; rfl) (u := fun _ => .func (.func 51) #[] #[]) (fun _ => rfl) (v := fun _ => .func (.func 51) #[] #[]) (fun _ => rfl) (fun _ _ => ?_)
  refine wl_pure rfl rfl rfl (freshS_eq rfl) rfl ?_
  refine wl_nil ?_
  refine we_then ?_
  refine wc_keep [2] (S' := [_]) rfl ?_
  refine wc_ret ?_
  have hE := (Option.some.inj hm).symm
  cases hE
 rcases ite_some hm with ⟨hq12_4, hm⟩ | ⟨hq12_4, hm⟩
 ·
  refine wl_lookYesE (i := a0) (a := (.func (.func 52) #[] #[.pointer (some ⟨g3, 0, none⟩)])) valRep_opens 0 rfl rfl rfl (freshS_eq rfl) rfl rfl rfl rfl tM_71 trivial (by rw [eq_of_beq hq12_4]; rfl) (u := fun _ => .func (.func 52) #[] #[.pointer (some ⟨g3, 0, none⟩)]) (fun _ => rfl) (v := fun _ => .func (.func 52) #[] #[.pointer (some ⟨g3, 0, none⟩)]) (fun _ => rfl) (fun _ _ => ?_)
  refine wl_pure rfl rfl rfl (freshS_eq rfl) rfl ?_
  refine wl_nil ?_
  refine we_then ?_
  refine wc_keep [2] (S' := [_]) rfl ?_
  refine wc_ret ?_
  have hE := (Option.some.inj hm).symm
  cases hE
 rcases ite_some hm with ⟨hq12_5, hm⟩ | ⟨hq12_5, hm⟩
 ·
  refine wl_lookYesE (i := a0) (a := (.func (.func 53) #[] #[.pointer (some ⟨g3, 0, none⟩)])) valRep_opens 0 rfl rfl rfl (freshS_eq rfl) rfl rfl rfl rfl tM_71 trivial (by rw [eq_of_beq hq12_5]; rfl) (u := fun _ => .func (.func 53) #[] #[.pointer (some ⟨g3, 0, none⟩)]) (fun _ => rfl) (v := fun _ => .func (.func 53) #[] #[.pointer (some ⟨g3, 0, none⟩)]) (fun _ => rfl) (fun _ _ => ?_)
  refine wl_pure rfl rfl rfl (freshS_eq rfl) rfl ?_
  refine wl_nil ?_
  refine we_then ?_
  refine wc_keep [2] (S' := [_]) rfl ?_
  refine wc_ret ?_
  have hE := (Option.some.inj hm).symm
  replace hE := Sum.inr.inj hE
  replace hE := Sum.inr.inj hE
  replace hE := Sum.inr.inj hE
  replace hE := Sum.inr.inj hE
  replace hE := Sum.inr.inj hE
  replace hE := Sum.inl.inj hE
  refine ret_one (Hr := [_]) [1] Tryd.results38 (res_tmp rfl) ⟨g3, rfl, rfl, rfl⟩ (fun _ _ hφ => ask [] rfl hφ) rfl rfl (.inl rfl)
 rcases ite_some hm with ⟨hq12_6, hm⟩ | ⟨hq12_6, hm⟩
 ·
  refine wl_lookYesE (i := a0) (a := (.func (.func 54) #[] #[.pointer (some ⟨g3, 0, none⟩)])) valRep_opens 0 rfl rfl rfl (freshS_eq rfl) rfl rfl rfl rfl tM_71 trivial (by rw [eq_of_beq hq12_6]; rfl) (u := fun _ => .func (.func 54) #[] #[.pointer (some ⟨g3, 0, none⟩)]) (fun _ => rfl) (v := fun _ => .func (.func 54) #[] #[.pointer (some ⟨g3, 0, none⟩)]) (fun _ => rfl) (fun _ _ => ?_)
  refine wl_pure rfl rfl rfl (freshS_eq rfl) rfl ?_
  refine wl_nil ?_
  refine we_then ?_
  refine wc_keep [2] (S' := [_]) rfl ?_
  refine wc_ret ?_
  have hE := (Option.some.inj hm).symm
  cases hE
 rcases ite_some hm with ⟨hq12_7, hm⟩ | ⟨hq12_7, hm⟩
 ·
  refine wl_lookYesE (i := a0) (a := (.func (.func 55) #[] #[.pointer (some ⟨g3, 0, none⟩)])) valRep_opens 0 rfl rfl rfl (freshS_eq rfl) rfl rfl rfl rfl tM_71 trivial (by rw [eq_of_beq hq12_7]; rfl) (u := fun _ => .func (.func 55) #[] #[.pointer (some ⟨g3, 0, none⟩)]) (fun _ => rfl) (v := fun _ => .func (.func 55) #[] #[.pointer (some ⟨g3, 0, none⟩)]) (fun _ => rfl) (fun _ _ => ?_)
  refine wl_pure rfl rfl rfl (freshS_eq rfl) rfl ?_
  refine wl_nil ?_
  refine we_then ?_
  refine wc_keep [2] (S' := [_]) rfl ?_
  refine wc_ret ?_
  have hE := (Option.some.inj hm).symm
  cases hE
 rcases ite_some hm with ⟨hq12_8, hm⟩ | ⟨hq12_8, hm⟩
 ·
  refine wl_lookYesE (i := a0) (a := (.func (.func 56) #[] #[.pointer (some ⟨g3, 0, none⟩)])) valRep_opens 0 rfl rfl rfl (freshS_eq rfl) rfl rfl rfl rfl tM_71 trivial (by rw [eq_of_beq hq12_8]; rfl) (u := fun _ => .func (.func 56) #[] #[.pointer (some ⟨g3, 0, none⟩)]) (fun _ => rfl) (v := fun _ => .func (.func 56) #[] #[.pointer (some ⟨g3, 0, none⟩)]) (fun _ => rfl) (fun _ _ => ?_)
  refine wl_pure rfl rfl rfl (freshS_eq rfl) rfl ?_
  refine wl_nil ?_
  refine we_then ?_
  refine wc_keep [2] (S' := [_]) rfl ?_
  refine wc_ret ?_
  have hE := (Option.some.inj hm).symm
  cases hE
 ·
  refine wl_lookNoE (i := a0) 0 rfl rfl rfl (freshS_eq rfl) rfl rfl rfl rfl tZ_64 tM_71 trivial (by simp [mlook, (ne_of_beq_false hq12_0).symm, (ne_of_beq_false hq12_1).symm, (ne_of_beq_false hq12_2).symm, (ne_of_beq_false hq12_3).symm, (ne_of_beq_false hq12_4).symm, (ne_of_beq_false hq12_5).symm, (ne_of_beq_false hq12_6).symm, (ne_of_beq_false hq12_7).symm, (ne_of_beq_false hq12_8).symm]) (v := .nilFunc) rfl ?_
  refine wl_pure rfl rfl rfl (freshS_eq rfl) rfl ?_
  refine wl_nil ?_
  refine we_then ?_
  refine wc_keep [2] (S' := [_]) rfl ?_
  refine wc_ret ?_
  have hE := (Option.some.inj hm).symm
  cases hE
set_option maxRecDepth 100000 in
set_option maxHeartbeats 4000000 in
theorem w_value_does_s6 (N : Nat) (a0 : Int)  (hm : m_value_does N a0 = some (.inr (.inr (.inr (.inr (.inr (.inr (.inl ())))))))) : Spec Tryd.prog 38 [.int .u8 a0] [] [] (fun v Φr Hr => ∃ (o0 : Nat), v = .func (.func 54) #[] #[.pointer (some ⟨o0, 0, none⟩)] ∧ Φr = [] ∧ Hr = [.blk o0 [.func (.func 47) #[] #[]] 70]) := by
 unfold m_value_does at hm
 refine spec_of Tryd.func38 rfl Tryd.ntmps38 rfl (S := [_]) rfl (fun C => ?_)
 refine wc_seq ?_
 refine wc_region ?_
 refine wl_pure rfl rfl rfl (freshS_eq rfl) rfl ?_
 refine wl_nil ?_
 refine we_then ?_
 refine wc_keep [0] (S' := [_]) rfl ?_
 refine wc_seq ?_
 refine wc_region ?_
 refine wl_alloc rfl rfl rfl (freshS_eq rfl) rfl tZ_70 rfl (fun g3 => ?_)
 refine wl_store 0 0 rfl rfl rfl rfl rfl rfl rfl tS_70 rfl rfl rfl (all' := [_]) rfl (H' := [_]) rfl ?_
 refine wl_nil ?_
 refine we_then ?_
 refine wc_seq ?_
 refine wc_region ?_
 refine wl_makeMapE (keyInt (tInt_run tI_26)) false valRep rfl rfl rfl (freshS_eq rfl) rfl (fun g4 => ?_)
 refine wl_mapPutE (i := 1) (u := .func (.func 48) #[] #[]) (cs := [.func (.func 48) #[] #[]]) 0 rfl rfl (.inr rfl) rfl rfl rfl rfl tM_71 trivial rfl (fun F w hφ => ⟨rfl, rfl⟩) (H' := [mapE (keyInt (tInt_run tI_26)) false valRep g4 ([(1, .func (.func 48) #[] #[])]), .blk g3 [.func (.func 47) #[] #[]] 70]) rfl ?_
 refine wl_mapPutE (i := 2) (u := .func (.func 49) #[] #[]) (cs := [.func (.func 49) #[] #[]]) 0 rfl rfl (.inr rfl) rfl rfl rfl rfl tM_71 trivial rfl (fun F w hφ => ⟨rfl, rfl⟩) (H' := [mapE (keyInt (tInt_run tI_26)) false valRep g4 ([(1, .func (.func 48) #[] #[]), (2, .func (.func 49) #[] #[])]), .blk g3 [.func (.func 47) #[] #[]] 70]) rfl ?_
 refine wl_mapPutE (i := 3) (u := .func (.func 50) #[] #[]) (cs := [.func (.func 50) #[] #[]]) 0 rfl rfl (.inr rfl) rfl rfl rfl rfl tM_71 trivial rfl (fun F w hφ => ⟨rfl, rfl⟩) (H' := [mapE (keyInt (tInt_run tI_26)) false valRep g4 ([(1, .func (.func 48) #[] #[]), (2, .func (.func 49) #[] #[]), (3, .func (.func 50) #[] #[])]), .blk g3 [.func (.func 47) #[] #[]] 70]) rfl ?_
 refine wl_mapPutE (i := 4) (u := .func (.func 51) #[] #[]) (cs := [.func (.func 51) #[] #[]]) 0 rfl rfl (.inr rfl) rfl rfl rfl rfl tM_71 trivial rfl (fun F w hφ => ⟨rfl, rfl⟩) (H' := [mapE (keyInt (tInt_run tI_26)) false valRep g4 ([(1, .func (.func 48) #[] #[]), (2, .func (.func 49) #[] #[]), (3, .func (.func 50) #[] #[]), (4, .func (.func 51) #[] #[])]), .blk g3 [.func (.func 47) #[] #[]] 70]) rfl ?_
 refine wl_makeFunc rfl rfl rfl (freshS_eq rfl) rfl rfl ?_
 refine wl_mapPutE (i := 7) (u := .func (.func 52) #[] #[.pointer (some ⟨g3, 0, none⟩)]) (cs := [.func (.func 52) #[] #[.pointer (some ⟨g3, 0, none⟩)]]) 0 rfl rfl (.inr rfl) rfl rfl rfl rfl tM_71 trivial rfl (fun F w hφ => ⟨rfl, rfl⟩) (H' := [mapE (keyInt (tInt_run tI_26)) false valRep g4 ([(1, .func (.func 48) #[] #[]), (2, .func (.func 49) #[] #[]), (3, .func (.func 50) #[] #[]), (4, .func (.func 51) #[] #[]), (7, .func (.func 52) #[] #[.pointer (some ⟨g3, 0, none⟩)])]), .blk g3 [.func (.func 47) #[] #[]] 70]) rfl ?_
 refine wl_makeFunc rfl rfl rfl (freshS_eq rfl) rfl rfl ?_
 refine wl_mapPutE (i := 8) (u := .func (.func 53) #[] #[.pointer (some ⟨g3, 0, none⟩)]) (cs := [.func (.func 53) #[] #[.pointer (some ⟨g3, 0, none⟩)]]) 0 rfl rfl (.inr rfl) rfl rfl rfl rfl tM_71 trivial rfl (fun F w hφ => ⟨rfl, rfl⟩) (H' := [mapE (keyInt (tInt_run tI_26)) false valRep g4 ([(1, .func (.func 48) #[] #[]), (2, .func (.func 49) #[] #[]), (3, .func (.func 50) #[] #[]), (4, .func (.func 51) #[] #[]), (7, .func (.func 52) #[] #[.pointer (some ⟨g3, 0, none⟩)]), (8, .func (.func 53) #[] #[.pointer (some ⟨g3, 0, none⟩)])]), .blk g3 [.func (.func 47) #[] #[]] 70]) rfl ?_
 refine wl_makeFunc rfl rfl rfl (freshS_eq rfl) rfl rfl ?_
 refine wl_mapPutE (i := 9) (u := .func (.func 54) #[] #[.pointer (some ⟨g3, 0, none⟩)]) (cs := [.func (.func 54) #[] #[.pointer (some ⟨g3, 0, none⟩)]]) 0 rfl rfl (.inr rfl) rfl rfl rfl rfl tM_71 trivial rfl (fun F w hφ => ⟨rfl, rfl⟩) (H' := [mapE (keyInt (tInt_run tI_26)) false valRep g4 ([(1, .func (.func 48) #[] #[]), (2, .func (.func 49) #[] #[]), (3, .func (.func 50) #[] #[]), (4, .func (.func 51) #[] #[]), (7, .func (.func 52) #[] #[.pointer (some ⟨g3, 0, none⟩)]), (8, .func (.func 53) #[] #[.pointer (some ⟨g3, 0, none⟩)]), (9, .func (.func 54) #[] #[.pointer (some ⟨g3, 0, none⟩)])]), .blk g3 [.func (.func 47) #[] #[]] 70]) rfl ?_
 refine wl_makeFunc rfl rfl rfl (freshS_eq rfl) rfl rfl ?_
 refine wl_mapPutE (i := 10) (u := .func (.func 55) #[] #[.pointer (some ⟨g3, 0, none⟩)]) (cs := [.func (.func 55) #[] #[.pointer (some ⟨g3, 0, none⟩)]]) 0 rfl rfl (.inr rfl) rfl rfl rfl rfl tM_71 trivial rfl (fun F w hφ => ⟨rfl, rfl⟩) (H' := [mapE (keyInt (tInt_run tI_26)) false valRep g4 ([(1, .func (.func 48) #[] #[]), (2, .func (.func 49) #[] #[]), (3, .func (.func 50) #[] #[]), (4, .func (.func 51) #[] #[]), (7, .func (.func 52) #[] #[.pointer (some ⟨g3, 0, none⟩)]), (8, .func (.func 53) #[] #[.pointer (some ⟨g3, 0, none⟩)]), (9, .func (.func 54) #[] #[.pointer (some ⟨g3, 0, none⟩)]), (10, .func (.func 55) #[] #[.pointer (some ⟨g3, 0, none⟩)])]), .blk g3 [.func (.func 47) #[] #[]] 70]) rfl ?_
 refine wl_makeFunc rfl rfl rfl (freshS_eq rfl) rfl rfl ?_
 refine wl_mapPutE (i := 11) (u := .func (.func 56) #[] #[.pointer (some ⟨g3, 0, none⟩)]) (cs := [.func (.func 56) #[] #[.pointer (some ⟨g3, 0, none⟩)]]) 0 rfl rfl (.inr rfl) rfl rfl rfl rfl tM_71 trivial rfl (fun F w hφ => ⟨rfl, rfl⟩) (H' := [mapE (keyInt (tInt_run tI_26)) false valRep g4 ([(1, .func (.func 48) #[] #[]), (2, .func (.func 49) #[] #[]), (3, .func (.func 50) #[] #[]), (4, .func (.func 51) #[] #[]), (7, .func (.func 52) #[] #[.pointer (some ⟨g3, 0, none⟩)]), (8, .func (.func 53) #[] #[.pointer (some ⟨g3, 0, none⟩)]), (9, .func (.func 54) #[] #[.pointer (some ⟨g3, 0, none⟩)]), (10, .func (.func 55) #[] #[.pointer (some ⟨g3, 0, none⟩)]), (11, .func (.func 56) #[] #[.pointer (some ⟨g3, 0, none⟩)])]), .blk g3 [.func (.func 47) #[] #[]] 70]) rfl ?_
 refine wl_pure rfl rfl rfl (freshS_eq rfl) rfl ?_
 refine wl_pure rfl rfl rfl (freshS_eq rfl) rfl ?_
 rcases ite_some hm with ⟨hq12_0, hm⟩ | ⟨hq12_0, hm⟩
 ·
  refine wl_lookYesE (i := a0) (a := (.func (.func 48) #[] #[])) valRep_opens 0 rfl rfl rfl (freshS_eq rfl) rfl rfl rfl rfl tM_71 trivial (by rw [eq_of_beq hq12_0]; rfl) (u := fun _ => .func (.func 48) #[] #[]) (fun _ => rfl) (v := fun _ => .func (.func 48) #[] #[]) (fun _ => rfl) (fun _ _ => ?_)
  refine wl_pure rfl rfl rfl (freshS_eq rfl) rfl ?_
  refine wl_nil ?_
  refine we_then ?_
  refine wc_keep [2] (S' := [_]) rfl ?_
  refine wc_ret ?_
  have hE := (Option.some.inj hm).symm
  cases hE
 rcases ite_some hm with ⟨hq12_1, hm⟩ | ⟨hq12_1, hm⟩
 ·
  refine wl_lookYesE (i := a0) (a := (.func (.func 49) #[] #[])) valRep_opens 0 rfl rfl rfl (freshS_eq rfl) rfl rfl rfl rfl tM_71 trivial (by rw [eq_of_beq hq12_1]; rfl) (u := fun _ => .func (.func 49) #[] #[]) (fun _ => rfl) (v := fun _ => .func (.func 49) #[] #[]) (fun _ => rfl) (fun _ _ => ?_)
  refine wl_pure rfl rfl rfl (freshS_eq rfl) rfl ?_
  refine wl_nil ?_
  refine we_then ?_
  refine wc_keep [2] (S' := [_]) rfl ?_
  refine wc_ret ?_
  have hE := (Option.some.inj hm).symm
  cases hE
 rcases ite_some hm with ⟨hq12_2, hm⟩ | ⟨hq12_2, hm⟩
 ·
  refine wl_lookYesE (i := a0) (a := (.func (.func 50) #[] #[])) valRep_opens 0 rfl rfl rfl (freshS_eq rfl) rfl rfl rfl rfl tM_71 trivial (by rw [eq_of_beq hq12_2]; rfl) (u := fun _ => .func (.func 50) #[] #[]) (fun _ => rfl) (v := fun _ => .func (.func 50) #[] #[]) (fun _ => rfl) (fun _ _ => ?_)
  refine wl_pure rfl rfl rfl (freshS_eq rfl) rfl ?_
  refine wl_nil ?_
  refine we_then ?_
  refine wc_keep [2] (S' := [_]) rfl ?_
  refine wc_ret ?_
  have hE := (Option.some.inj hm).symm
  cases hE
 rcases ite_some hm with ⟨hq12_3, hm⟩ | ⟨hq12_3, hm⟩
 ·
  refine wl_lookYesE (i := a0) (a := (.func (.func 51) #[] #[])) valRep_opens 0 rfl rfl rfl (freshS_eq rfl) rfl rfl rfl rfl tM_71 trivial (by rw [eq_of_beq hq12_3]; rfl) (u := fun _ => .func (.func 51) #[] #[]) (fun _ => rfl) (v := fun _ => .func (.func 51) #[] #[]) (fun _ => rfl) (fun _ _ => ?_)
  refine wl_pure rfl rfl rfl (freshS_eq rfl) rfl ?_
  refine wl_nil ?_
  refine we_then ?_
  refine wc_keep [2] (S' := [_]) rfl ?_
  refine wc_ret ?_
  have hE := (Option.some.inj hm).symm
  cases hE
 rcases ite_some hm with ⟨hq12_4, hm⟩ | ⟨hq12_4, hm⟩
 ·
  refine wl_lookYesE (i := a0) (a := (.func (.func 52) #[] #[.pointer (some ⟨g3, 0, none⟩)])) valRep_opens 0 rfl rfl rfl (freshS_eq rfl) rfl rfl rfl rfl tM_71 trivial (by rw [eq_of_beq hq12_4]; rfl) (u := fun _ => .func (.func 52) #[] #[.pointer (some ⟨g3, 0, none⟩)]) (fun _ => rfl) (v := fun _ => .func (.func 52) #[] #[.pointer (some ⟨g3, 0, none⟩)]) (fun _ => rfl) (fun _ _ => ?_)
  refine wl_pure rfl rfl rfl (freshS_eq rfl) rfl ?_
  refine wl_nil ?_
  refine we_then ?_
  refine wc_keep [2] (S' := [_]) rfl ?_
  refine wc_ret ?_
  have hE := (Option.some.inj hm).symm
  cases hE
 rcases ite_some hm with ⟨hq12_5, hm⟩ | ⟨hq12_5, hm⟩
 ·
  refine wl_lookYesE (i := a0) (a := (.func (.func 53) #[] #[.pointer (some ⟨g3, 0, none⟩)])) valRep_opens 0 rfl rfl rfl (freshS_eq rfl) rfl rfl rfl rfl tM_71 trivial (by rw [eq_of_beq hq12_5]; rfl) (u := fun _ => .func (.func 53) #[] #[.pointer (some ⟨g3, 0, none⟩)]) (fun _ => rfl) (v := fun _ => .func (.func 53) #[] #[.pointer (some ⟨g3, 0, none⟩)]) (fun _ => rfl) (fun _ _ => ?_)
  refine wl_pure rfl rfl rfl (freshS_eq rfl) rfl ?_
  refine wl_nil ?_
  refine we_then ?_
  refine wc_keep [2] (S' := [_]) rfl ?_
  refine wc_ret ?_
  have hE := (Option.some.inj hm).symm
  cases hE
 rcases ite_some hm with ⟨hq12_6, hm⟩ | ⟨hq12_6, hm⟩
 ·
  refine wl_lookYesE (i := a0) (a := (.func (.func 54) #[] #[.pointer (some ⟨g3, 0, none⟩)])) valRep_opens 0 rfl rfl rfl (freshS_eq rfl) rfl rfl rfl rfl tM_71 trivial (by rw [eq_of_beq hq12_6]; rfl) (u := fun _ => .func (.func 54) #[] #[.pointer (some ⟨g3, 0, none⟩)]) (fun _ => rfl) (v := fun _ => .func (.func 54) #[] #[.pointer (some ⟨g3, 0, none⟩)]) (fun _ => rfl) (fun _ _ => ?_)
  refine wl_pure rfl rfl rfl (freshS_eq rfl) rfl ?_
  refine wl_nil ?_
  refine we_then ?_
  refine wc_keep [2] (S' := [_]) rfl ?_
  refine wc_ret ?_
  have hE := (Option.some.inj hm).symm
  replace hE := Sum.inr.inj hE
  replace hE := Sum.inr.inj hE
  replace hE := Sum.inr.inj hE
  replace hE := Sum.inr.inj hE
  replace hE := Sum.inr.inj hE
  replace hE := Sum.inr.inj hE
  replace hE := Sum.inl.inj hE
  refine ret_one (Hr := [_]) [1] Tryd.results38 (res_tmp rfl) ⟨g3, rfl, rfl, rfl⟩ (fun _ _ hφ => ask [] rfl hφ) rfl rfl (.inl rfl)
 rcases ite_some hm with ⟨hq12_7, hm⟩ | ⟨hq12_7, hm⟩
 ·
  refine wl_lookYesE (i := a0) (a := (.func (.func 55) #[] #[.pointer (some ⟨g3, 0, none⟩)])) valRep_opens 0 rfl rfl rfl (freshS_eq rfl) rfl rfl rfl rfl tM_71 trivial (by rw [eq_of_beq hq12_7]; rfl) (u := fun _ => .func (.func 55) #[] #[.pointer (some ⟨g3, 0, none⟩)]) (fun _ => rfl) (v := fun _ => .func (.func 55) #[] #[.pointer (some ⟨g3, 0, none⟩)]) (fun _ => rfl) (fun _ _ => ?_)
  refine wl_pure rfl rfl rfl (freshS_eq rfl) rfl ?_
  refine wl_nil ?_
  refine we_then ?_
  refine wc_keep [2] (S' := [_]) rfl ?_
  refine wc_ret ?_
  have hE := (Option.some.inj hm).symm
  cases hE
 rcases ite_some hm with ⟨hq12_8, hm⟩ | ⟨hq12_8, hm⟩
 ·
  refine wl_lookYesE (i := a0) (a := (.func (.func 56) #[] #[.pointer (some ⟨g3, 0, none⟩)])) valRep_opens 0 rfl rfl rfl (freshS_eq rfl) rfl rfl rfl rfl tM_71 trivial (by rw [eq_of_beq hq12_8]; rfl) (u := fun _ => .func (.func 56) #[] #[.pointer (some ⟨g3, 0, none⟩)]) (fun _ => rfl) (v := fun _ => .func (.func 56) #[] #[.pointer (some ⟨g3, 0, none⟩)]) (fun _ => rfl) (fun _ _ => ?_)
  refine wl_pure rfl rfl rfl (freshS_eq rfl) rfl ?_
  refine wl_nil ?_
  refine we_then ?_
  refine wc_keep [2] (S' := [_]) rfl ?_
  refine wc_ret ?_
  have hE := (Option.some.inj hm).symm
  cases hE
 ·
  refine wl_lookNoE (i := a0) 0 rfl rfl rfl (freshS_eq rfl) rfl rfl rfl rfl tZ_64 tM_71 trivial (by simp [mlook, (ne_of_beq_false hq12_0).symm, (ne_of_beq_false hq12_1).symm, (ne_of_beq_false hq12_2).symm, (ne_of_beq_false hq12_3).symm, (ne_of_beq_false hq12_4).symm, (ne_of_beq_false hq12_5).symm, (ne_of_beq_false hq12_6).symm, (ne_of_beq_false hq12_7).symm, (ne_of_beq_false hq12_8).symm]) (v := .nilFunc) rfl ?_
  refine wl_pure rfl rfl rfl (freshS_eq rfl) rfl ?_
  refine wl_nil ?_
  refine we_then ?_
  refine wc_keep [2] (S' := [_]) rfl ?_
  refine wc_ret ?_
  have hE := (Option.some.inj hm).symm
  cases hE
set_option maxRecDepth 100000 in
set_option maxHeartbeats 4000000 in
theorem w_value_does_s7 (N : Nat) (a0 : Int)  (hm : m_value_does N a0 = some (.inr (.inr (.inr (.inr (.inr (.inr (.inr (.inl ()))))))))) : Spec Tryd.prog 38 [.int .u8 a0] [] [] (fun v Φr Hr => ∃ (o0 : Nat), v = .func (.func 55) #[] #[.pointer (some ⟨o0, 0, none⟩)] ∧ Φr = [] ∧ Hr = [.blk o0 [.func (.func 47) #[] #[]] 70]) := by
 unfold m_value_does at hm
 refine spec_of Tryd.func38 rfl Tryd.ntmps38 rfl (S := [_]) rfl (fun C => ?_)
 refine wc_seq ?_
 refine wc_region ?_
 refine wl_pure rfl rfl rfl (freshS_eq rfl) rfl ?_
 refine wl_nil ?_
 refine we_then ?_
 refine wc_keep [0] (S' := [_]) rfl ?_
 refine wc_seq ?_
 refine wc_region ?_
 refine wl_alloc rfl rfl rfl (freshS_eq rfl) rfl tZ_70 rfl (fun g3 => ?_)
 refine wl_store 0 0 rfl rfl rfl rfl rfl rfl rfl tS_70 rfl rfl rfl (all' := [_]) rfl (H' := [_]) rfl ?_
 refine wl_nil ?_
 refine we_then ?_
 refine wc_seq ?_
 refine wc_region ?_
 refine wl_makeMapE (keyInt (tInt_run tI_26)) false valRep rfl rfl rfl (freshS_eq rfl) rfl (fun g4 => ?_)
 refine wl_mapPutE (i := 1) (u := .func (.func 48) #[] #[]) (cs := [.func (.func 48) #[] #[]]) 0 rfl rfl (.inr rfl) rfl rfl rfl rfl tM_71 trivial rfl (fun F w hφ => ⟨rfl, rfl⟩) (H' := [mapE (keyInt (tInt_run tI_26)) false valRep g4 ([(1, .func (.func 48) #[] #[])]), .blk g3 [.func (.func 47) #[] #[]] 70]) rfl ?_
 refine wl_mapPutE (i := 2) (u := .func (.func 49) #[] #[]) (cs := [.func (.func 49) #[] #[]]) 0 rfl rfl (.inr rfl) rfl rfl rfl rfl tM_71 trivial rfl (fun F w hφ => ⟨rfl, rfl⟩) (H' := [mapE (keyInt (tInt_run tI_26)) false valRep g4 ([(1, .func (.func 48) #[] #[]), (2, .func (.func 49) #[] #[])]), .blk g3 [.func (.func 47) #[] #[]] 70]) rfl ?_
 refine wl_mapPutE (i := 3) (u := .func (.func 50) #[] #[]) (cs := [.func (.func 50) #[] #[]]) 0 rfl rfl (.inr rfl) rfl rfl rfl rfl tM_71 trivial rfl (fun F w hφ => ⟨rfl, rfl⟩) (H' := [mapE (keyInt (tInt_run tI_26)) false valRep g4 ([(1, .func (.func 48) #[] #[]), (2, .func (.func 49) #[] #[]), (3, .func (.func 50) #[] #[])]), .blk g3 [.func (.func 47) #[] #[]] 70]) rfl ?_
 refine wl_mapPutE (i := 4) (u := .func (.func 51) #[] #[]) (cs := [.func (.func 51) #[] #[]]) 0 rfl rfl (.inr rfl) rfl rfl rfl rfl tM_71 trivial rfl (fun F w hφ => ⟨rfl, rfl⟩) (H' := [mapE (keyInt (tInt_run tI_26)) false valRep g4 ([(1, .func (.func 48) #[] #[]), (2, .func (.func 49) #[] #[]), (3, .func (.func 50) #[] #[]), (4, .func (.func 51) #[] #[])]), .blk g3 [.func (.func 47) #[] #[]] 70]) rfl ?_
 refine wl_makeFunc rfl rfl rfl (freshS_eq rfl) rfl rfl ?_
 refine wl_mapPutE (i := 7) (u := .func (.func 52) #[] #[.pointer (some ⟨g3, 0, none⟩)]) (cs := [.func (.func 52) #[] #[.pointer (some ⟨g3, 0, none⟩)]]) 0 rfl rfl (.inr rfl) rfl rfl rfl rfl tM_71 trivial rfl (fun F w hφ => ⟨rfl, rfl⟩) (H' := [mapE (keyInt (tInt_run tI_26)) false valRep g4 ([(1, .func (.func 48) #[] #[]), (2, .func (.func 49) #[] #[]), (3, .func (.func 50) #[] #[]), (4, .func (.func 51) #[] #[]), (7, .func (.func 52) #[] #[.pointer (some ⟨g3, 0, none⟩)])]), .blk g3 [.func (.func 47) #[] #[]] 70]) rfl ?_
 refine wl_makeFunc rfl rfl rfl (freshS_eq rfl) rfl rfl ?_
 refine wl_mapPutE (i := 8) (u := .func (.func 53) #[] #[.pointer (some ⟨g3, 0, none⟩)]) (cs := [.func (.func 53) #[] #[.pointer (some ⟨g3, 0, none⟩)]]) 0 rfl rfl (.inr rfl) rfl rfl rfl rfl tM_71 trivial rfl (fun F w hφ => ⟨rfl, rfl⟩) (H' := [mapE (keyInt (tInt_run tI_26)) false valRep g4 ([(1, .func (.func 48) #[] #[]), (2, .func (.func 49) #[] #[]), (3, .func (.func 50) #[] #[]), (4, .func (.func 51) #[] #[]), (7, .func (.func 52) #[] #[.pointer (some ⟨g3, 0, none⟩)]), (8, .func (.func 53) #[] #[.pointer (some ⟨g3, 0, none⟩)])]), .blk g3 [.func (.func 47) #[] #[]] 70]) rfl ?_
 refine wl_makeFunc rfl rfl rfl (freshS_eq rfl) rfl rfl ?_
 refine wl_mapPutE (i := 9) (u := .func (.func 54) #[] #[.pointer (some ⟨g3, 0, none⟩)]) (cs := [.func (.func 54) #[] #[.pointer (some ⟨g3, 0, none⟩)]]) 0 rfl rfl (.inr rfl) rfl rfl rfl rfl tM_71 trivial rfl (fun F w hφ => ⟨rfl, rfl⟩) (H' := [mapE (keyInt (tInt_run tI_26)) false valRep g4 ([(1, .func (.func 48) #[] #[]), (2, .func (.func 49) #[] #[]), (3, .func (.func 50) #[] #[]), (4, .func (.func 51) #[] #[]), (7, .func (.func 52) #[] #[.pointer (some ⟨g3, 0, none⟩)]), (8, .func (.func 53) #[] #[.pointer (some ⟨g3, 0, none⟩)]), (9, .func (.func 54) #[] #[.pointer (some ⟨g3, 0, none⟩)])]), .blk g3 [.func (.func 47) #[] #[]] 70]) rfl ?_
 refine wl_makeFunc rfl rfl rfl (freshS_eq rfl) rfl rfl ?_
 refine wl_mapPutE (i := 10) (u := .func (.func 55) #[] #[.pointer (some ⟨g3, 0, none⟩)]) (cs := [.func (.func 55) #[] #[.pointer (some ⟨g3, 0, none⟩)]]) 0 rfl rfl (.inr rfl) rfl rfl rfl rfl tM_71 trivial rfl (fun F w hφ => ⟨rfl, rfl⟩) (H' := [mapE (keyInt (tInt_run tI_26)) false valRep g4 ([(1, .func (.func 48) #[] #[]), (2, .func (.func 49) #[] #[]), (3, .func (.func 50) #[] #[]), (4, .func (.func 51) #[] #[]), (7, .func (.func 52) #[] #[.pointer (some ⟨g3, 0, none⟩)]), (8, .func (.func 53) #[] #[.pointer (some ⟨g3, 0, none⟩)]), (9, .func (.func 54) #[] #[.pointer (some ⟨g3, 0, none⟩)]), (10, .func (.func 55) #[] #[.pointer (some ⟨g3, 0, none⟩)])]), .blk g3 [.func (.func 47) #[] #[]] 70]) rfl ?_
 refine wl_makeFunc rfl rfl rfl (freshS_eq rfl) rfl rfl ?_
 refine wl_mapPutE (i := 11) (u := .func (.func 56) #[] #[.pointer (some ⟨g3, 0, none⟩)]) (cs := [.func (.func 56) #[] #[.pointer (some ⟨g3, 0, none⟩)]]) 0 rfl rfl (.inr rfl) rfl rfl rfl rfl tM_71 trivial rfl (fun F w hφ => ⟨rfl, rfl⟩) (H' := [mapE (keyInt (tInt_run tI_26)) false valRep g4 ([(1, .func (.func 48) #[] #[]), (2, .func (.func 49) #[] #[]), (3, .func (.func 50) #[] #[]), (4, .func (.func 51) #[] #[]), (7, .func (.func 52) #[] #[.pointer (some ⟨g3, 0, none⟩)]), (8, .func (.func 53) #[] #[.pointer (some ⟨g3, 0, none⟩)]), (9, .func (.func 54) #[] #[.pointer (some ⟨g3, 0, none⟩)]), (10, .func (.func 55) #[] #[.pointer (some ⟨g3, 0, none⟩)]), (11, .func (.func 56) #[] #[.pointer (some ⟨g3, 0, none⟩)])]), .blk g3 [.func (.func 47) #[] #[]] 70]) rfl ?_
 refine wl_pure rfl rfl rfl (freshS_eq rfl) rfl ?_
 refine wl_pure rfl rfl rfl (freshS_eq rfl) rfl ?_
 rcases ite_some hm with ⟨hq12_0, hm⟩ | ⟨hq12_0, hm⟩
 ·
  refine wl_lookYesE (i := a0) (a := (.func (.func 48) #[] #[])) valRep_opens 0 rfl rfl rfl (freshS_eq rfl) rfl rfl rfl rfl tM_71 trivial (by rw [eq_of_beq hq12_0]; rfl) (u := fun _ => .func (.func 48) #[] #[]) (fun _ => rfl) (v := fun _ => .func (.func 48) #[] #[]) (fun _ => rfl) (fun _ _ => ?_)
  refine wl_pure rfl rfl rfl (freshS_eq rfl) rfl ?_
  refine wl_nil ?_
  refine we_then ?_
  refine wc_keep [2] (S' := [_]) rfl ?_
  refine wc_ret ?_
  have hE := (Option.some.inj hm).symm
  cases hE
 rcases ite_some hm with ⟨hq12_1, hm⟩ | ⟨hq12_1, hm⟩
 ·
  refine wl_lookYesE (i := a0) (a := (.func (.func 49) #[] #[])) valRep_opens 0 rfl rfl rfl (freshS_eq rfl) rfl rfl rfl rfl tM_71 trivial (by rw [eq_of_beq hq12_1]; rfl) (u := fun _ => .func (.func 49) #[] #[]) (fun _ => rfl) (v := fun _ => .func (.func 49) #[] #[]) (fun _ => rfl) (fun _ _ => ?_)
  refine wl_pure rfl rfl rfl (freshS_eq rfl) rfl ?_
  refine wl_nil ?_
  refine we_then ?_
  refine wc_keep [2] (S' := [_]) rfl ?_
  refine wc_ret ?_
  have hE := (Option.some.inj hm).symm
  cases hE
 rcases ite_some hm with ⟨hq12_2, hm⟩ | ⟨hq12_2, hm⟩
 ·
  refine wl_lookYesE (i := a0) (a := (.func (.func 50) #[] #[])) valRep_opens 0 rfl rfl rfl (freshS_eq rfl) rfl rfl rfl rfl tM_71 trivial (by rw [eq_of_beq hq12_2]; rfl) (u := fun _ => .func (.func 50) #[] #[]) (fun _ => rfl) (v := fun _ => .func (.func 50) #[] #[]) (fun _ => rfl) (fun _ _ => ?_)
  refine wl_pure rfl rfl rfl (freshS_eq rfl) rfl ?_
  refine wl_nil ?_
  refine we_then ?_
  refine wc_keep [2] (S' := [_]) rfl ?_
  refine wc_ret ?_
  have hE := (Option.some.inj hm).symm
  cases hE
 rcases ite_some hm with ⟨hq12_3, hm⟩ | ⟨hq12_3, hm⟩
 ·
  refine wl_lookYesE (i := a0) (a := (.func (.func 51) #[] #[])) valRep_opens 0 rfl rfl rfl (freshS_eq rfl) rfl rfl rfl rfl tM_71 trivial (by rw [eq_of_beq hq12_3]; rfl) (u := fun _ => .func (.func 51) #[] #[]) (fun _ => rfl) (v := fun _ => .func (.func 51) #[] #[]) (fun _ => rfl) (fun _ _ => ?_)
  refine wl_pure rfl rfl rfl (freshS_eq rfl) rfl ?_
  refine wl_nil ?_
  refine we_then ?_
  refine wc_keep [2] (S' := [_]) rfl ?_
  refine wc_ret ?_
  have hE := (Option.some.inj hm).symm
  cases hE
 rcases ite_some hm with ⟨hq12_4, hm⟩ | ⟨hq12_4, hm⟩
 ·
  refine wl_lookYesE (i := a0) (a := (.func (.func 52) #[] #[.pointer (some ⟨g3, 0, none⟩)])) valRep_opens 0 rfl rfl rfl (freshS_eq rfl) rfl rfl rfl rfl tM_71 trivial (by rw [eq_of_beq hq12_4]; rfl) (u := fun _ => .func (.func 52) #[] #[.pointer (some ⟨g3, 0, none⟩)]) (fun _ => rfl) (v := fun _ => .func (.func 52) #[] #[.pointer (some ⟨g3, 0, none⟩)]) (fun _ => rfl) (fun _ _ => ?_)
  refine wl_pure rfl rfl rfl (freshS_eq rfl) rfl ?_
  refine wl_nil ?_
  refine we_then ?_
  refine wc_keep [2] (S' := [_]) rfl ?_
  refine wc_ret ?_
  have hE := (Option.some.inj hm).symm
  cases hE
 rcases ite_some hm with ⟨hq12_5, hm⟩ | ⟨hq12_5, hm⟩
 ·
  refine wl_lookYesE (i := a0) (a := (.func (.func 53) #[] #[.pointer (some ⟨g3, 0, none⟩)])) valRep_opens 0 rfl rfl rfl (freshS_eq rfl) rfl rfl rfl rfl tM_71 trivial (by rw [eq_of_beq hq12_5]; rfl) (u := fun _ => .func (.func 53) #[] #[.pointer (some ⟨g3, 0, none⟩)]) (fun _ => rfl) (v := fun _ => .func (.func 53) #[] #[.pointer (some ⟨g3, 0, none⟩)]) (fun _ => rfl) (fun _ _ => ?_)
  refine wl_pure rfl rfl rfl (freshS_eq rfl) rfl ?_
  refine wl_nil ?_
  refine we_then ?_
  refine wc_keep [2] (S' := [_]) rfl ?_
  refine wc_ret ?_
  have hE := (Option.some.inj hm).symm
  cases hE
 rcases ite_some hm with ⟨hq12_6, hm⟩ | ⟨hq12_6, hm⟩
 ·
  refine wl_lookYesE (i := a0) (a := (.func (.func 54) #[] #[.pointer (some ⟨g3, 0, none⟩)])) valRep_opens 0 rfl rfl rfl (freshS_eq rfl) rfl rfl rfl rfl tM_71 trivial (by rw [eq_of_beq hq12_6]; rfl) (u := fun _ => .func (.func 54) #[] #[.pointer (some ⟨g3, 0, none⟩)]) (fun _ => rfl) (v := fun _ => .func (.func 54) #[] #[.pointer (some ⟨g3, 0, none⟩)]) (fun _ => rfl) (fun _ _ => ?_)
  refine wl_pure rfl rfl rfl (freshS_eq rfl) rfl ?_
  refine wl_nil ?_
  refine we_then ?_
  refine wc_keep [2] (S' := [_]) rfl ?_
  refine wc_ret ?_
  have hE := (Option.some.inj hm).symm
  cases hE
 rcases ite_some hm with ⟨hq12_7, hm⟩ | ⟨hq12_7, hm⟩
 ·
  refine wl_lookYesE (i := a0) (a := (.func (.func 55) #[] #[.pointer (some ⟨g3, 0, none⟩)])) valRep_opens 0 rfl rfl rfl (freshS_eq rfl) rfl rfl rfl rfl tM_71 trivial (by rw [eq_of_beq hq12_7]; rfl) (u := fun _ => .func (.func 55) #[] #[.pointer (some ⟨g3, 0, none⟩)]) (fun _ => rfl) (v := fun _ => .func (.func 55) #[] #[.pointer (some ⟨g3, 0, none⟩)]) (fun _ => rfl) (fun _ _ => ?_)
  refine wl_pure rfl rfl rfl (freshS_eq rfl) rfl ?_
  refine wl_nil ?_
  refine we_then ?_
  refine wc_keep [2] (S' := [_]) rfl ?_
  refine wc_ret ?_
  have hE := (Option.some.inj hm).symm
  replace hE := Sum.inr.inj hE
  replace hE := Sum.inr.inj hE
  replace hE := Sum.inr.inj hE
  replace hE := Sum.inr.inj hE
  replace hE := Sum.inr.inj hE
  replace hE := Sum.inr.inj hE
  replace hE := Sum.inr.inj hE
  replace hE := Sum.inl.inj hE
  refine ret_one (Hr := [_]) [1] Tryd.results38 (res_tmp rfl) ⟨g3, rfl, rfl, rfl⟩ (fun _ _ hφ => ask [] rfl hφ) rfl rfl (.inl rfl)
 rcases ite_some hm with ⟨hq12_8, hm⟩ | ⟨hq12_8, hm⟩
 ·
  refine wl_lookYesE (i := a0) (a := (.func (.func 56) #[] #[.pointer (some ⟨g3, 0, none⟩)])) valRep_opens 0 rfl rfl rfl (freshS_eq rfl) rfl rfl rfl rfl tM_71 trivial (by rw [eq_of_beq hq12_8]; rfl) (u := fun _ => .func (.func 56) #[] #[.pointer (some ⟨g3, 0, none⟩)]) (fun _ => rfl) (v := fun _ => .func (.func 56) #[] #[.pointer (some ⟨g3, 0, none⟩)]) (fun _ => rfl) (fun _ _ => ?_)
  refine wl_pure rfl rfl rfl (freshS_eq rfl) rfl ?_
  refine wl_nil ?_
  refine we_then ?_
  refine wc_keep [2] (S' := [_]) rfl ?_
  refine wc_ret ?_
  have hE := (Option.some.inj hm).symm
  cases hE
 ·
  refine wl_lookNoE (i := a0) 0 rfl rfl rfl (freshS_eq rfl) rfl rfl rfl rfl tZ_64 tM_71 trivial (by simp [mlook, (ne_of_beq_false hq12_0).symm, (ne_of_beq_false hq12_1).symm, (ne_of_beq_false hq12_2).symm, (ne_of_beq_false hq12_3).symm, (ne_of_beq_false hq12_4).symm, (ne_of_beq_false hq12_5).symm, (ne_of_beq_false hq12_6).symm, (ne_of_beq_false hq12_7).symm, (ne_of_beq_false hq12_8).symm]) (v := .nilFunc) rfl ?_
  refine wl_pure rfl rfl rfl (freshS_eq rfl) rfl ?_
  refine wl_nil ?_
  refine we_then ?_
  refine wc_keep [2] (S' := [_]) rfl ?_
  refine wc_ret ?_
  have hE := (Option.some.inj hm).symm
  cases hE
set_option maxRecDepth 100000 in
set_option maxHeartbeats 4000000 in
theorem w_value_does_s8 (N : Nat) (a0 : Int)  (hm : m_value_does N a0 = some (.inr (.inr (.inr (.inr (.inr (.inr (.inr (.inr (.inl ())))))))))) : Spec Tryd.prog 38 [.int .u8 a0] [] [] (fun v Φr Hr => ∃ (o0 : Nat), v = .func (.func 56) #[] #[.pointer (some ⟨o0, 0, none⟩)] ∧ Φr = [] ∧ Hr = [.blk o0 [.func (.func 47) #[] #[]] 70]) := by
 unfold m_value_does at hm
 refine spec_of Tryd.func38 rfl Tryd.ntmps38 rfl (S := [_]) rfl (fun C => ?_)
 refine wc_seq ?_
 refine wc_region ?_
 refine wl_pure rfl rfl rfl (freshS_eq rfl) rfl ?_
 refine wl_nil ?_
 refine we_then ?_
 refine wc_keep [0] (S' := [_]) rfl ?_
 refine wc_seq ?_
 refine wc_region ?_
 refine wl_alloc rfl rfl rfl (freshS_eq rfl) rfl tZ_70 rfl (fun g3 => ?_)
 refine wl_store 0 0 rfl rfl rfl rfl rfl rfl rfl tS_70 rfl rfl rfl (all' := [_]) rfl (H' := [_]) rfl ?_
 refine wl_nil ?_
 refine we_then ?_
 refine wc_seq ?_
 refine wc_region ?_
 refine wl_makeMapE (keyInt (tInt_run tI_26)) false valRep rfl rfl rfl (freshS_eq rfl) rfl (fun g4 => ?_)
 refine wl_mapPutE (i := 1) (u := .func (.func 48) #[] #[]) (cs := [.func (.func 48) #[] #[]]) 0 rfl rfl (.inr rfl) rfl rfl rfl rfl tM_71 trivial rfl (fun F w hφ => ⟨rfl, rfl⟩) (H' := [mapE (keyInt (tInt_run tI_26)) false valRep g4 ([(1, .func (.func 48) #[] #[])]), .blk g3 [.func (.func 47) #[] #[]] 70]) rfl ?_
 refine wl_mapPutE (i := 2) (u := .func (.func 49) #[] #[]) (cs := [.func (.func 49) #[] #[]]) 0 rfl rfl (.inr rfl) rfl rfl rfl rfl tM_71 trivial rfl (fun F w hφ => ⟨rfl, rfl⟩) (H' := [mapE (keyInt (tInt_run tI_26)) false valRep g4 ([(1, .func (.func 48) #[] #[]), (2, .func (.func 49) #[] #[])]), .blk g3 [.func (.func 47) #[] #[]] 70]) rfl ?_
 refine wl_mapPutE (i := 3) (u := .func (.func 50) #[] #[]) (cs := [.func (.func 50) #[] #[]]) 0 rfl rfl (.inr rfl) rfl rfl rfl rfl tM_71 trivial rfl (fun F w hφ => ⟨rfl, rfl⟩) (H' := [mapE (keyInt (tInt_run tI_26)) false valRep g4 ([(1, .func (.func 48) #[] #[]), (2, .func (.func 49) #[] #[]), (3, .func (.func 50) #[] #[])]), .blk g3 [.func (.func 47) #[] #[]] 70]) rfl ?_
 refine wl_mapPutE (i := 4) (u := .func (.func 51) #[] #[]) (cs := [.func (.func 51) #[] #[]]) 0 rfl rfl (.inr rfl) rfl rfl rfl rfl tM_71 trivial rfl (fun F w hφ => ⟨rfl, rfl⟩) (H' := [mapE (keyInt (tInt_run tI_26)) false valRep g4 ([(1, .func (.func 48) #[] #[]), (2, .func (.func 49) #[] #[]), (3, .func (.func 50) #[] #[]), (4, .func (.func 51) #[] #[])]), .blk g3 [.func (.func 47) #[] #[]] 70]) rfl ?_
 refine wl_makeFunc rfl rfl rfl (freshS_eq rfl) rfl rfl ?_
 refine wl_mapPutE (i := 7) (u := .func (.func 52) #[] #[.pointer (some ⟨g3, 0, none⟩)]) (cs := [.func (.func 52) #[] #[.pointer (some ⟨g3, 0, none⟩)]]) 0 rfl rfl (.inr rfl) rfl rfl rfl rfl tM_71 trivial rfl (fun F w hφ => ⟨rfl, rfl⟩) (H' := [mapE (keyInt (tInt_run tI_26)) false valRep g4 ([(1, .func (.func 48) #[] #[]), (2, .func (.func 49) #[] #[]), (3, .func (.func 50) #[] #[]), (4, .func (.func 51) #[] #[]), (7, .func (.func 52) #[] #[.pointer (some ⟨g3, 0, none⟩)])]), .blk g3 [.func (.func 47) #[] #[]] 70]) rfl ?_
 refine wl_makeFunc rfl rfl rfl (freshS_eq rfl) rfl rfl ?_
 refine wl_mapPutE (i := 8) (u := .func (.func 53) #[] #[.pointer (some ⟨g3, 0, none⟩)]) (cs := [.func (.func 53) #[] #[.pointer (some ⟨g3, 0, none⟩)]]) 0 rfl rfl (.inr rfl) rfl rfl rfl rfl tM_71 trivial rfl (fun F w hφ => ⟨rfl, rfl⟩) (H' := [mapE (keyInt (tInt_run tI_26)) false valRep g4 ([(1, .func (.func 48) #[] #[]), (2, .func (.func 49) #[] #[]), (3, .func (.func 50) #[] #[]), (4, .func (.func 51) #[] #[]), (7, .func (.func 52) #[] #[.pointer (some ⟨g3, 0, none⟩)]), (8, .func (.func 53) #[] #[.pointer (some ⟨g3, 0, none⟩)])]), .blk g3 [.func (.func 47) #[] #[]] 70]) rfl ?_
 refine wl_makeFunc rfl rfl rfl (freshS_eq rfl) rfl rfl ?_
 refine wl_mapPutE (i := 9) (u := .func (.func 54) #[] #[.pointer (some ⟨g3, 0, none⟩)]) (cs := [.func (.func 54) #[] #[.pointer (some ⟨g3, 0, none⟩)]]) 0 rfl rfl (.inr rfl) rfl rfl rfl rfl tM_71 trivial rfl (fun F w hφ => ⟨rfl, rfl⟩) (H' := [mapE (keyInt (tInt_run tI_26)) false valRep g4 ([(1, .func (.func 48) #[] #[]), (2, .func (.func 49) #[] #[]), (3, .func (.func 50) #[] #[]), (4, .func (.func 51) #[] #[]), (7, .func (.func 52) #[] #[.pointer (some ⟨g3, 0, none⟩)]), (8, .func (.func 53) #[] #[.pointer (some ⟨g3, 0, none⟩)]), (9, .func (.func 54) #[] #[.pointer (some ⟨g3, 0, none⟩)])]), .blk g3 [.func (.func 47) #[] #[]] 70]) rfl ?_
 refine wl_makeFunc rfl rfl rfl (freshS_eq rfl) rfl rfl ?_
 refine wl_mapPutE (i := 10) (u := .func (.func 55) #[] #[.pointer (some ⟨g3, 0, none⟩)]) (cs := [.func (.func 55) #[] #[.pointer (some ⟨g3, 0, none⟩)]]) 0 rfl rfl (.inr rfl) rfl rfl rfl rfl tM_71 trivial rfl (fun F w hφ => ⟨rfl, rfl⟩) (H' := [mapE (keyInt (tInt_run tI_26)) false valRep g4 ([(1, .func (.func 48) #[] #[]), (2, .func (.func 49) #[] #[]), (3, .func (.func 50) #[] #[]), (4, .func (.func 51) #[] #[]), (7, .func (.func 52) #[] #[.pointer (some ⟨g3, 0, none⟩)]), (8, .func (.func 53) #[] #[.pointer (some ⟨g3, 0, none⟩)]), (9, .func (.func 54) #[] #[.pointer (some ⟨g3, 0, none⟩)]), (10, .func (.func 55) #[] #[.pointer (some ⟨g3, 0, none⟩)])]), .blk g3 [.func (.func 47) #[] #[]] 70]) rfl ?_
 refine wl_makeFunc rfl rfl rfl (freshS_eq rfl) rfl rfl ?_
 refine wl_mapPutE (i := 11) (u := .func (.func 56) #[] #[.pointer (some ⟨g3, 0, none⟩)]) (cs := [.func (.func 56) #[] #[.pointer (some ⟨g3, 0, none⟩)]]) 0 rfl rfl (.inr rfl) rfl rfl rfl rfl tM_71 trivial rfl (fun F w hφ => ⟨rfl, rfl⟩) (H' := [mapE (keyInt (tInt_run tI_26)) false valRep g4 ([(1, .func (.func 48) #[] #[]), (2, .func (.func 49) #[] #[]), (3, .func (.func 50) #[] #[]), (4, .func (.func 51) #[] #[]), (7, .func (.func 52) #[] #[.pointer (some ⟨g3, 0, none⟩)]), (8, .func (.func 53) #[] #[.pointer (some ⟨g3, 0, none⟩)]), (9, .func (.func 54) #[] #[.pointer (some ⟨g3, 0, none⟩)]), (10, .func (.func 55) #[] #[.pointer (some ⟨g3, 0, none⟩)]), (11, .func (.func 56) #[] #[.pointer (some ⟨g3, 0, none⟩)])]), .blk g3 [.func (.func 47) #[] #[]] 70]) rfl ?_
 refine wl_pure rfl rfl rfl (freshS_eq rfl) rfl ?_
 refine wl_pure rfl rfl rfl (freshS_eq rfl) rfl ?_
 rcases ite_some hm with ⟨hq12_0, hm⟩ | ⟨hq12_0, hm⟩
 ·
  refine wl_lookYesE (i := a0) (a := (.func (.func 48) #[] #[])) valRep_opens 0 rfl rfl rfl (freshS_eq rfl) rfl rfl rfl rfl tM_71 trivial (by rw [eq_of_beq hq12_0]; rfl) (u := fun _ => .func (.func 48) #[] #[]) (fun _ => rfl) (v := fun _ => .func (.func 48) #[] #[]) (fun _ => rfl) (fun _ _ => ?_)
  refine wl_pure rfl rfl rfl (freshS_eq rfl) rfl ?_
  refine wl_nil ?_
  refine we_then ?_
  refine wc_keep [2] (S' := [_]) rfl ?_
  refine wc_ret ?_
  have hE := (Option.some.inj hm).symm
  cases hE
 rcases ite_some hm with ⟨hq12_1, hm⟩ | ⟨hq12_1, hm⟩
 ·
  refine wl_lookYesE (i := a0) (a := (.func (.func 49) #[] #[])) valRep_opens 0 rfl rfl rfl (freshS_eq rfl) rfl rfl rfl rfl tM_71 trivial (by rw [eq_of_beq hq12_1]; rfl) (u := fun _ => .func (.func 49) #[] #[]) (fun _ => rfl) (v := fun _ => .func (.func 49) #[] #[]) (fun _ => rfl) (fun _ _ => ?_)
  refine wl_pure rfl rfl rfl (freshS_eq rfl) rfl ?_
  refine wl_nil ?_
  refine we_then ?_
  refine wc_keep [2] (S' := [_]) rfl ?_
  refine wc_ret ?_
  have hE := (Option.some.inj hm).symm
  cases hE
 rcases ite_some hm with ⟨hq12_2, hm⟩ | ⟨hq12_2, hm⟩
 ·
  refine wl_lookYesE (i := a0) (a := (.func (.func 50) #[] #[])) valRep_opens 0 rfl rfl rfl (freshS_eq rfl) rfl rfl rfl rfl tM_71 trivial (by rw [eq_of_beq hq12_2]; rfl) (u := fun _ => .func (.func 50) #[] #[]) (fun _ => rfl) (v := fun _ => .func (.func 50) #[] #[]) (fun _ => rfl) (fun _ _ => ?_)
  refine wl_pure rfl rfl rfl (freshS_eq rfl) rfl ?_
  refine wl_nil ?_
  refine we_then ?_
  refine wc_keep [2] (S' := [_]) rfl ?_
  refine wc_ret ?_
  have hE := (Option.some.inj hm).symm
  cases hE
 rcases ite_some hm with ⟨hq12_3, hm⟩ | ⟨hq12_3, hm⟩
 ·
  refine wl_lookYesE (i := a0) (a := (.func (.func 51) #[] #[])) valRep_opens 0 rfl rfl rfl (freshS_eq rfl) rfl rfl rfl rfl tM_71 trivial (by rw [eq_of_beq hq12_3]; rfl) (u := fun _ => .func (.func 51) #[] #[]) (fun _ => rfl) (v := fun _ => .func (.func 51) #[] #[]) (fun _ => rfl) (fun _ _ => ?_)
  refine wl_pure rfl rfl rfl (freshS_eq rfl) rfl ?_
  refine wl_nil ?_
  refine we_then ?_
  refine wc_keep [2] (S' := [_]) rfl ?_
  refine wc_ret ?_
  have hE := (Option.some.inj hm).symm
  cases hE
 rcases ite_some hm with ⟨hq12_4, hm⟩ | ⟨hq12_4, hm⟩
 ·
  refine wl_lookYesE (i := a0) (a := (.func (.func 52) #[] #[.pointer (some ⟨g3, 0, none⟩)])) valRep_opens 0 rfl rfl rfl (freshS_eq rfl) rfl rfl rfl rfl tM_71 trivial (by rw [eq_of_beq hq12_4]; rfl) (u := fun _ => .func (.func 52) #[] #[.pointer (some ⟨g3, 0, none⟩)]) (fun _ => rfl) (v := fun _ => .func (.func 52) #[] #[.pointer (some ⟨g3, 0, none⟩)]) (fun _ => rfl) (fun _ _ => ?_)
  refine wl_pure rfl rfl rfl (freshS_eq rfl) rfl ?_
  refine wl_nil ?_
  refine we_then ?_
  refine wc_keep [2] (S' := [_]) rfl ?_
  refine wc_ret ?_
  have hE := (Option.some.inj hm).symm
  cases hE
 rcases ite_some hm with ⟨hq12_5, hm⟩ | ⟨hq12_5, hm⟩
 ·
  refine wl_lookYesE (i := a0) (a := (.func (.func 53) #[] #[.pointer (some ⟨g3, 0, none⟩)])) valRep_opens 0 rfl rfl rfl (freshS_eq rfl) rfl rfl rfl rfl tM_71 trivial (by rw [eq_of_beq hq12_5]; rfl) (u := fun _ => .func (.func 53) #[] #[.pointer (some ⟨g3, 0, none⟩)]) (fun _ => rfl) (v := fun _ => .func (.func 53) #[] #[.pointer (some ⟨g3, 0, none⟩)]) (fun _ => rfl) (fun _ _ => ?_)
  refine wl_pure rfl rfl rfl (freshS_eq rfl) rfl ?_
  refine wl_nil ?_
  refine we_then ?_
  refine wc_keep [2] (S' := [_]) rfl ?_
  refine wc_ret ?_
  have hE := (Option.some.inj hm).symm
  cases hE
 rcases ite_some hm with ⟨hq12_6, hm⟩ | ⟨hq12_6, hm⟩
 ·
  refine wl_lookYesE (i := a0) (a := (.func (.func 54) #[] #[.pointer (some ⟨g3, 0, none⟩)])) valRep_opens 0 rfl rfl rfl (freshS_eq rfl) rfl rfl rfl rfl tM_71 trivial (by rw [eq_of_beq hq12_6]; rfl) (u := fun _ => .func (.func 54) #[] #[.pointer (some ⟨g3, 0, none⟩)]) (fun _ => rfl) (v := fun _ => .func (.func 54) #[] #[.pointer (some ⟨g3, 0, none⟩)]) (fun _ => rfl) (fun _ _ => ?_)
  refine wl_pure rfl rfl rfl (freshS_eq rfl) rfl ?_
  refine wl_nil ?_
  refine we_then ?_
  refine wc_keep [2] (S' := [_]) rfl ?_
  refine wc_ret ?_
  have hE := (Option.some.inj hm).symm
  cases hE
 rcases ite_some hm with ⟨hq12_7, hm⟩ | ⟨hq12_7, hm⟩
 ·
  refine wl_lookYesE (i := a0) (a := (.func (.func 55) #[] #[.pointer (some ⟨g3, 0, none⟩)])) valRep_opens 0 rfl rfl rfl (freshS_eq rfl) rfl rfl rfl rfl tM_71 trivial (by rw [eq_of_beq hq12_7]; rfl) (u := fun _ => .func (.func 55) #[] #[.pointer (some ⟨g3, 0, none⟩)]) (fun _ => rfl) (v := fun _ => .func (.func 55) #[] #[.pointer (some ⟨g3, 0, none⟩)]) (fun _ => rfl) (fun _ _ => ?_)
  refine wl_pure rfl rfl rfl (freshS_eq rfl) rfl ?_
  refine wl_nil ?_
  refine we_then ?_
  refine wc_keep [2] (S' := [_]) rfl ?_
  refine wc_ret ?_
  have hE := (Option.some.inj hm).symm
  cases hE
 rcases ite_some hm with ⟨hq12_8, hm⟩ | ⟨hq12_8, hm⟩
 ·
  refine wl_lookYesE (i := a0) (a := (.func (.func 56) #[] #[.pointer (some ⟨g3, 0, none⟩)])) valRep_opens 0 rfl rfl rfl (freshS_eq rfl) rfl rfl rfl rfl tM_71 trivial (by rw [eq_of_beq hq12_8]; rfl) (u := fun _ => .func (.func 56) #[] #[.pointer (some ⟨g3, 0, none⟩)]) (fun _ => rfl) (v := fun _ => .func (.func 56) #[] #[.pointer (some ⟨g3, 0, none⟩)]) (fun _ => rfl) (fun _ _ => ?_)
  refine wl_pure rfl rfl rfl (freshS_eq rfl) rfl ?_
  refine wl_nil ?_
  refine we_then ?_
  refine wc_keep [2] (S' := [_]) rfl ?_
  refine wc_ret ?_
  have hE := (Option.some.inj hm).symm
  replace hE := Sum.inr.inj hE
  replace hE := Sum.inr.inj hE
  replace hE := Sum.inr.inj hE
  replace hE := Sum.inr.inj hE
  replace hE := Sum.inr.inj hE
  replace hE := Sum.inr.inj hE
  replace hE := Sum.inr.inj hE
  replace hE := Sum.inr.inj hE
  replace hE := Sum.inl.inj hE
  refine ret_one (Hr := [_]) [1] Tryd.results38 (res_tmp rfl) ⟨g3, rfl, rfl, rfl⟩ (fun _ _ hφ => ask [] rfl hφ) rfl rfl (.inl rfl)
 ·
  refine wl_lookNoE (i := a0) 0 rfl rfl rfl (freshS_eq rfl) rfl rfl rfl rfl tZ_64 tM_71 trivial (by simp [mlook, (ne_of_beq_false hq12_0).symm, (ne_of_beq_false hq12_1).symm, (ne_of_beq_false hq12_2).symm, (ne_of_beq_false hq12_3).symm, (ne_of_beq_false hq12_4).symm, (ne_of_beq_false hq12_5).symm, (ne_of_beq_false hq12_6).symm, (ne_of_beq_false hq12_7).symm, (ne_of_beq_false hq12_8).symm]) (v := .nilFunc) rfl ?_
  refine wl_pure rfl rfl rfl (freshS_eq rfl) rfl ?_
  refine wl_nil ?_
  refine we_then ?_
  refine wc_keep [2] (S' := [_]) rfl ?_
  refine wc_ret ?_
  have hE := (Option.some.inj hm).symm
  cases hE
end Go.Proofs.YtdkmibdiokmfbaaDoor
