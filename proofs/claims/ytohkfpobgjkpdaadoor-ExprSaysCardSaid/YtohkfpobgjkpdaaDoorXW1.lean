import Derived.Test.YtohkfpobgjkpdaaDoorXM
import Derived.Test.YtohkfpobgjkpdaaDoorEq
import Derived.Test.YtohkfpobgjkpdaaDoorMapK
import Derived.Test.YtohkfpobgjkpdaaDoorStr
import Derived.Test.YtohkfpobgjkpdaaDoorView
import Derived.Test.YtohkfpobgjkpdaaDoorMapE
import Derived.Test.YtohkfpobgjkpdaaDoorShA
import Derived.Laws.BytesArg
import Derived.Laws.BytesString
import Derived.Laws.IdiomStrings
import Derived.Lib.LaidTab
import Derived.Lib.ItoaNum
import Derived.LaidSub
import Derived.Test.YtohkfpobgjkpdaaDoorFlat
import Derived.Test.YtohkfpobgjkpdaaDoorShort
import Derived.Test.YtohkfpobgjkpdaaDoorSh
import Derived.Test.YtohkfpobgjkpdaaDoorAb
namespace Go.Proofs.YtohkfpobgjkpdaaDoor
open Go.RowKit
set_option maxRecDepth 100000
set_option maxHeartbeats 4000000
theorem tM_52 : Tryd.prog.underlying 52 = some (.map 22 46) := by kernel_rfl
theorem tM_66 : Tryd.prog.underlying 66 = some (.map 26 60) := by kernel_rfl
theorem tFT_25_1 : fldTy Tryd.prog 25 1 = some (2, 1) := by kernel_rfl
theorem w_ropewalklaw09_number_s (N : Nat) (a0 : Int)  (hm : m_ropewalklaw09_number N a0 = some ()) : Spec Tryd.prog 13 [.int .i64 a0] [] [] (fun v Φr Hr => v = .agg #[.int .u8 1, .int .u8 1, .int .i64 a0, .string ((⟨#[]⟩ : ByteArray)), .int .i64 0, .int .u8 0, .slice none 0 0] ∧ Φr = [] ∧ Hr = []) := by
 unfold m_ropewalklaw09_number at hm
 refine spec_of Tryd.func13 rfl Tryd.ntmps13 rfl (S := [_]) rfl (fun C => (wc_seq (wc_region (wl_alloc rfl rfl rfl (freshS_eq rfl) rfl tZ_29 rfl (fun g2 => (wl_nil (we_then (wc_seq (wc_region (wP rfl (wl_build rfl rfl rfl (freshS_eq rfl) rfl tZ_25 tP_25 rfl (out := [_,_,_]) rfl (wl_build rfl rfl rfl (freshS_eq rfl) rfl tZ_29 tP_29 rfl (out := [_,_,_,_,_,_,_]) rfl (wS 0 0 rfl tS_29 (all' := [_,_,_,_,_,_,_]) rfl (H' := [_]) rfl (wl_nil (we_then ?_)))))))))))))))
 refine wc_keep [2] (S' := [_]) rfl (wc_ret ?_)
 have hE := (Option.some.inj hm).symm
 refine ret_one (Hr := []) [] Tryd.results13 (res_cell 0 rfl rfl tS_29 tA_29 rfl rfl) ⟨rfl, rfl, rfl⟩ (asK [] rfl) rfl rfl (.inl rfl)
theorem w_ropewalklaw09_op_s (N : Nat) (a0 : Int) (a1 : Int) (a2 : Int) (a3 : Int) (a4 : ByteArray) (a5 : Int) (a6 : Int) (qp0 : Option Addr) (qc1 : Nat) (l7 : List Api_ExprD) (a8 : Int) (a9 : Int) (a10 : Int) (a11 : ByteArray) (a12 : Int) (a13 : Int) (qp2 : Option Addr) (qc3 : Nat) (l14 : List Api_ExprD)  (hm : m_ropewalklaw09_op N a0 a1 a2 a3 a4 a5 a6 l7 a8 a9 a10 a11 a12 a13 l14 = some ()) : Spec Tryd.prog 12 [.int .u8 a0, .agg #[.int .u8 a1, .int .u8 a2, .int .i64 a3, .string a4, .int .i64 a5, .int .u8 a6, .slice qp0 l7.length qc1], .agg #[.int .u8 a8, .int .u8 a9, .int .i64 a10, .string a11, .int .i64 a12, .int .u8 a13, .slice qp2 l14.length qc3]] [.sli 7 R_Api_ExprD qp0 qc1 l7, .sli 7 R_Api_ExprD qp2 qc3 l14] [] (fun v Φr Hr => ∃ (o0 : Nat), v = .agg #[.int .u8 3, .int .u8 0, .int .i64 0, .string ((⟨#[]⟩ : ByteArray)), .int .i64 0, .int .u8 a0, .slice (some ⟨o0,0, none⟩) 2 2] ∧ Φr = [.sli 7 R_Api_ExprD qp0 qc1 l7, .sli 7 R_Api_ExprD qp2 qc3 l14] ∧ Hr = [.blk o0 [.int .u8 a1, .int .u8 a2, .int .i64 a3, .string a4, .int .i64 a5, .int .u8 a6, .slice qp0 l7.length qc1, .int .u8 a8, .int .u8 a9, .int .i64 a10, .string a11, .int .i64 a12, .int .u8 a13, .slice qp2 l14.length qc3] 29]) := by
 unfold m_ropewalklaw09_op at hm
 refine spec_of Tryd.func12 rfl Tryd.ntmps12 rfl (S := [_,_,_]) rfl (fun C => (wc_seq (wc_region (wB rfl (fun g4 => (wB rfl (fun g5 => (wl_alloc rfl rfl rfl (freshS_eq rfl) rfl tZ_29 rfl (fun g6 => (wl_nil (we_then (wc_keep [6,5,4,0] (S' := [_,_,_,_]) rfl (wc_seq (wc_region (wP rfl (wl_loadH 2 0 rfl rfl rfl (freshS_eq rfl) rfl rfl rfl (cs := [_,_,_,_,_,_,_]) rfl tS_29 tA_29 rfl rfl (wl_loadH 1 0 rfl rfl rfl (freshS_eq rfl) rfl rfl rfl (cs := [_,_,_,_,_,_,_]) rfl tS_29 tA_29 rfl rfl ?_)))))))))))))))))
 refine wl_buildSlice rfl rfl rfl (freshS_eq rfl) rfl tE_27 tS_29 tZ_29 rfl (zs := [.int .u8 0, .int .u8 0, .int .i64 0, .string ((⟨#[]⟩ : ByteArray)), .int .i64 0, .int .u8 0, .slice none 0 0, .int .u8 0, .int .u8 0, .int .i64 0, .string ((⟨#[]⟩ : ByteArray)), .int .i64 0, .int .u8 0, .slice none 0 0]) (by kernel_rfl) rfl (out := [_,_,_,_,_,_,_,_,_,_,_,_,_,_]) rfl (fun g10 => (wl_build rfl rfl rfl (freshS_eq rfl) rfl tZ_29 tP_29 rfl (out := [_,_,_,_,_,_,_]) rfl (wS 1 0 rfl tS_29 (all' := [_,_,_,_,_,_,_]) rfl (H' := [_,_,_,_]) rfl (wl_nil (we_then (wc_keep [6] (S' := [_]) rfl (wc_ret ?_)))))))
 have hE := (Option.some.inj hm).symm
 refine ret_one (Hr := [_]) [0] Tryd.results12 (res_cell 1 rfl rfl tS_29 tA_29 rfl rfl) ⟨g10, rfl, rfl, rfl⟩ (asK [0,1] rfl) rfl rfl (.inl rfl)
theorem w_ropewalklaw09_op_v2_s (N : Nat) (a0 : Int) (a1 : Int) (a2 : Int) (a3 : Int) (a4 : ByteArray) (a5 : Int) (a6 : Int) (qp0 : Option Addr) (qn1 : Nat) (qc2 : Nat) (l7 : List Api_ExprD) (a8 : Int) (a9 : Int) (a10 : Int) (a11 : ByteArray) (a12 : Int) (a13 : Int) (qp3 : Option Addr) (qc4 : Nat) (l14 : List Api_ExprD)  (hm : m_ropewalklaw09_op N a0 a1 a2 a3 a4 a5 a6 l7 a8 a9 a10 a11 a12 a13 l14 = some ()) : Spec Tryd.prog 12 [.int .u8 a0, .agg #[.int .u8 a1, .int .u8 a2, .int .i64 a3, .string a4, .int .i64 a5, .int .u8 a6, .slice qp0 qn1 qc2], .agg #[.int .u8 a8, .int .u8 a9, .int .i64 a10, .string a11, .int .i64 a12, .int .u8 a13, .slice qp3 l14.length qc4]] [.sli 7 R_Api_ExprD qp3 qc4 l14] [.own 29 7 R_Api_ExprD (.slice qp0 qn1 qc2) l7] (fun v Φr Hr => ∃ (o0 : Nat), v = .agg #[.int .u8 3, .int .u8 0, .int .i64 0, .string ((⟨#[]⟩ : ByteArray)), .int .i64 0, .int .u8 a0, .slice (some ⟨o0,0, none⟩) 2 2] ∧ Φr = [.sli 7 R_Api_ExprD qp3 qc4 l14] ∧ Hr = [.blk o0 [.int .u8 a1, .int .u8 a2, .int .i64 a3, .string a4, .int .i64 a5, .int .u8 a6, .slice qp0 qn1 qc2, .int .u8 a8, .int .u8 a9, .int .i64 a10, .string a11, .int .i64 a12, .int .u8 a13, .slice qp3 l14.length qc4] 29, .own 29 7 R_Api_ExprD (.slice qp0 qn1 qc2) l7]) := by
 unfold m_ropewalklaw09_op at hm
 refine spec_of Tryd.func12 rfl Tryd.ntmps12 rfl (S := [_,_,_]) rfl (fun C => (wc_seq (wc_region (wB rfl (fun g4 => (wB rfl (fun g5 => (wl_alloc rfl rfl rfl (freshS_eq rfl) rfl tZ_29 rfl (fun g6 => (wl_nil (we_then (wc_keep [6,5,4,0] (S' := [_,_,_,_]) rfl (wc_seq (wc_region (wP rfl (wl_loadH 2 0 rfl rfl rfl (freshS_eq rfl) rfl rfl rfl (cs := [_,_,_,_,_,_,_]) rfl tS_29 tA_29 rfl rfl (wl_loadH 1 0 rfl rfl rfl (freshS_eq rfl) rfl rfl rfl (cs := [_,_,_,_,_,_,_]) rfl tS_29 tA_29 rfl rfl ?_)))))))))))))))))
 refine wl_buildSlice rfl rfl rfl (freshS_eq rfl) rfl tE_27 tS_29 tZ_29 rfl (zs := [.int .u8 0, .int .u8 0, .int .i64 0, .string ((⟨#[]⟩ : ByteArray)), .int .i64 0, .int .u8 0, .slice none 0 0, .int .u8 0, .int .u8 0, .int .i64 0, .string ((⟨#[]⟩ : ByteArray)), .int .i64 0, .int .u8 0, .slice none 0 0]) (by kernel_rfl) rfl (out := [_,_,_,_,_,_,_,_,_,_,_,_,_,_]) rfl (fun g10 => (wl_build rfl rfl rfl (freshS_eq rfl) rfl tZ_29 tP_29 rfl (out := [_,_,_,_,_,_,_]) rfl (wS 1 0 rfl tS_29 (all' := [_,_,_,_,_,_,_]) rfl (H' := [_,_,_,_,_]) rfl (wl_nil (we_then (wc_keep [6] (S' := [_]) rfl (wc_ret ?_)))))))
 have hE := (Option.some.inj hm).symm
 refine ret_one (Hr := [_,_]) [0,4] Tryd.results12 (res_cell 1 rfl rfl tS_29 tA_29 rfl rfl) ⟨g10, rfl, rfl, rfl⟩ (asK [0] rfl) rfl rfl (.inl rfl)
theorem w_value_named_s (N : Nat) (a0 : ByteArray) (o0 : Bool) (hm : m_value_named N a0 = some o0) : Spec Tryd.prog 38 [.string a0] [] [] (fun v Φr Hr => v = .bool o0 ∧ Φr = [] ∧ Hr = []) := by
 unfold m_value_named at hm
 refine spec_of Tryd.func38 rfl Tryd.ntmps38 rfl (S := [_]) rfl (fun C => (wc_seq (wc_region (wP rfl (wl_nil (we_then (wc_keep [0] (S' := [_]) rfl (wc_seq ?_))))))))
 obtain ⟨bj_1, hm, hLj_1⟩ := bindO_some hm
 unfold m_value_named_C1 at hm
 refine wc_cut (σ := Bool) (fun j_1_2 => bj_1 = j_1_2) (fun j_1_2 => [(2, .bool j_1_2)]) (fun j_1_2 => []) (fun j_1_2 => []) ?_ ?_
 ·
  refine wc_region (wP rfl (wP rfl (wP rfl ?_)))
  refine wl_split (d := 5) (S' := [_,_,_]) rfl rfl (fun hs5 => ?_) (fun hs5 => ?_)
  ·
   replace hm := iteT hm hs5
   refine wP rfl (wl_reck rfl rfl rfl (freshS_eq rfl) (rk_strLen rfl rfl tT_9) (wP rfl (wl_as (d := 8) (v' := .bool (decide (a0.size ≤ 24))) (S' := [_,_,_,_,_,_]) rfl rfl (natle (a := a0.size) (b := 24)) (wP rfl (wP rfl ?_)))))
   refine wl_split (d := 10) (S' := [_,_,_,_,_,_,_,_]) rfl rfl (fun hs10 => ?_) (fun hs10 => ?_)
   ·
    replace hm := iteT hm hs10
    refine wP rfl ?_
    obtain ⟨x12, hx12, hm⟩ := bindO_some hm
    refine wl_reck rfl rfl rfl (freshS_eq rfl) (rk_strAt 0 rfl rfl rfl rfl hx12 tT_9) (wC [] [] rfl fn_51 rfl (sh_IndexByte (⟨#[97,98,99,100,101,102,103,104,105,106,107,108,109,110,111,112,113,114,115,116,117,118,119,120,121,122]⟩ : ByteArray) ((x12.toNat : Nat) : Int) ) (asK [] rfl) rfl (H' := []) rfl ?_)
    rintro _ _ _ ⟨rfl, rfl, rfl⟩
    refine wP rfl (wP rfl (wP rfl ?_))
    refine wl_split (d := 16) (S' := [_,_,_,_,_,_,_,_,_,_,_,_,_,_]) rfl rfl (fun hs16 => ?_) (fun hs16 => ?_)
    ·
     replace hm := iteT hm hs16
     refine wP rfl ?_
     obtain ⟨hs18_0, hm⟩ := gd_some hm
     refine wC [] [] rfl fn_52 rfl (sh_Trim a0 (⟨#[97,98,99,100,101,102,103,104,105,106,107,108,109,110,111,112,113,114,115,116,117,118,119,120,121,122,48,49,50,51,52,53,54,55,56,57,95]⟩ : ByteArray) (by decide) (ascii_of_all (by decide)) hs18_0) (asK [] rfl) rfl (H' := []) rfl ?_
     rintro _ _ _ ⟨rfl, rfl, rfl⟩
     refine wP rfl (wP rfl (wP rfl (wl_nil ?_)))
     have hE := (Option.some.inj hm).symm
     refine we_join ((⟨(Lib.trimS a0.data.toList (⟨#[97,98,99,100,101,102,103,104,105,106,107,108,109,110,111,112,113,114,115,116,117,118,119,120,121,122,48,49,50,51,52,53,54,55,56,57,95]⟩ : ByteArray).data.toList).toArray⟩ : ByteArray).toList == (⟨#[]⟩ : ByteArray).toList) hE [2] rfl (asK [] rfl) rfl
    ·
     replace hm := iteF hm hs16
     refine wO rfl (wO rfl (wO rfl (wP rfl (wP rfl (wl_nil ?_)))))
     have hE := (Option.some.inj hm).symm
     refine we_join false hE [2] rfl (asK [] rfl) rfl
   ·
    replace hm := iteF hm hs10
    refine wO rfl (wO rfl (wO rfl (wO rfl (wP rfl (wP rfl (wO rfl (wO rfl (wO rfl (wP rfl (wP rfl (wl_nil ?_)))))))))))
    have hE := (Option.some.inj hm).symm
    refine we_join false hE [2] rfl (asK [] rfl) rfl
  ·
   replace hm := iteF hm hs5
   refine wO rfl (wO rfl (wO rfl (wP rfl (wP rfl (wO rfl (wO rfl (wO rfl (wO rfl (wP rfl (wP rfl (wO rfl (wO rfl (wO rfl ?_)))))))))))))
   refine wP rfl (wP rfl (wl_nil ?_))
   have hE := (Option.some.inj hm).symm
   refine we_join false hE [2] rfl (asK [] rfl) rfl
 ·
  rintro j_1_2 hE
  try dsimp only
  have hm := hLj_1
  rw [hE] at hm
  refine wc_ret ?_
  have hE := (Option.some.inj hm).symm
  replace hE := hE.symm
  subst hE
  refine ret_one (Hr := []) [] Tryd.results38 (res_tmp rfl) ⟨rfl, rfl, rfl⟩ (asK [] rfl) rfl rfl (.inl rfl)
theorem w_value_Right_s (N : Nat) (a0 : Int) (a1 : Int) (a2 : ByteArray) (o0 : Bool) (hm : m_value_Right N a0 a1 a2 = some o0) : Spec Tryd.prog 29 [.agg #[.int .u8 a0, .int .i64 a1, .string a2]] [] [] (fun v Φr Hr => v = .bool o0 ∧ Φr = [] ∧ Hr = []) := by
 unfold m_value_Right at hm
 refine spec_of Tryd.func29 rfl Tryd.ntmps29 rfl (S := [_]) rfl (fun C => (wc_seq (wc_region (wB rfl (fun g1 => (wP rfl (wl_nil (we_then (wc_keep [1] (S' := [_]) rfl (wc_seq (wc_seq (wc_region (wF rfl tF_25_0 (wD 0 0 rfl tS_23 tA_23 rfl (wl_nil ?_)))))))))))))))
 refine we_then (wc_keep [4,1] (S' := [_,_]) rfl (wc_block (wc_seq (wc_region (wP rfl (wP rfl (wl_nil (we_then (wc_keep [5,4,1] (S' := [_,_,_]) rfl ?_)))))))))
 refine wc_cond rfl (fun hb5 => ?_) (fun hb5 => ?_)
 ·
  replace hm := iteT hm hb5
  refine wc_keep [1] (S' := [_]) rfl (wc_seq (wc_region (wF rfl tF_25_2 (wD 0 2 rfl tS_9 tA_9 rfl (wP rfl (wP rfl (wl_nil (we_then (wc_keep [2] (S' := [_]) rfl (wc_ret (we_block_ret (we_then_ret ?_))))))))))))
  have hE := (Option.some.inj hm).symm
  replace hE := hE.symm
  subst hE
  refine ret_one (Hr := []) [] Tryd.results29 (res_tmp rfl) ⟨rfl, rfl, rfl⟩ (asK [] rfl) rfl rfl (.inl rfl)
 ·
  replace hm := iteF hm hb5
  refine wc_keep [4,1] (S' := [_,_]) rfl (wc_seq (wc_region (wP rfl (wP rfl (wl_nil (we_then (wc_keep [10,1] (S' := [_,_]) rfl ?_)))))))
  refine wc_cond rfl (fun hb10 => ?_) (fun hb10 => ?_)
  ·
   replace hm := iteT hm hb10
   refine wc_keep [1] (S' := [_]) rfl (wc_seq (wc_region (wF rfl tF_25_1 (wD 0 1 rfl tS_2 tA_2 rfl (wP rfl (wP rfl ?_))))))
   refine wl_split (d := 15) (S' := [_,_,_,_]) rfl rfl (fun hs15 => ?_) (fun hs15 => ?_)
   ·
    replace hm := iteT hm hs15
    refine wF rfl tF_25_2 (wD 0 2 rfl tS_9 tA_9 rfl ?_)
    obtain ⟨v18, hc18, hm⟩ := bindO_some hm
    refine wC [] [0] rfl fn_38 rfl (w_value_named_s N a2 _ hc18) (asK [] rfl) rfl (H' := [_]) rfl ?_
    rintro _ _ _ ⟨rfl, rfl, rfl⟩
    refine wP rfl (wP rfl (wl_nil (we_then (wc_keep [2] (S' := [_]) rfl (wc_ret (we_block_ret (we_then_ret ?_)))))))
    have hE := (Option.some.inj hm).symm
    replace hE := hE.symm
    subst hE
    refine ret_one (Hr := []) [] Tryd.results29 (res_tmp rfl) ⟨rfl, rfl, rfl⟩ (asK [] rfl) rfl rfl (.inl rfl)
   ·
    replace hm := iteF hm hs15
    refine wO rfl (wO rfl (wO rfl (wP rfl (wP rfl (wl_nil (we_then (wc_keep [2] (S' := [_]) rfl (wc_ret (we_block_ret (we_then_ret ?_))))))))))
    have hE := (Option.some.inj hm).symm
    replace hE := hE.symm
    subst hE
    refine ret_one (Hr := []) [] Tryd.results29 (res_tmp rfl) ⟨rfl, rfl, rfl⟩ (asK [] rfl) rfl rfl (.inl rfl)
  ·
   replace hm := iteF hm hb10
   refine wc_keep [] (S' := []) rfl (wc_skip (we_block_normal (we_then (wc_seq (wc_region (wP rfl (wl_nil (we_then (wc_ret ?_)))))))))
   have hE := (Option.some.inj hm).symm
   replace hE := hE.symm
   subst hE
   refine ret_one (Hr := []) [] Tryd.results29 (res_tmp rfl) ⟨rfl, rfl, rfl⟩ (asK [] rfl) rfl rfl (.inl rfl)
theorem w_expr_sure_s (N : Nat) (a0 : Int) (a1 : Int) (a2 : ByteArray) (o0 : Int) (o1 : Int) (o2 : ByteArray) (o3 : Nat) (hm : m_expr_sure N a0 a1 a2 = some (o0, o1, o2, o3)) : Spec Tryd.prog 18 [.agg #[.int .u8 a0, .int .i64 a1, .string a2]] [] [] (fun v Φr Hr => v = .tuple #[.agg #[.int .u8 o0, .int .i64 o1, .string o2], .int .i64 ((o3 : Nat) : Int)] ∧ Φr = [] ∧ Hr = []) := by
 unfold m_expr_sure at hm
 refine spec_of Tryd.func18 rfl Tryd.ntmps18 rfl (S := [_]) rfl (fun C => (wc_seq (wc_region (wB rfl (fun g1 => (wl_alloc rfl rfl rfl (freshS_eq rfl) rfl tZ_25 rfl (fun g2 => (wP rfl (wl_nil (we_then (wc_keep [2,1] (S' := [_,_]) rfl (wc_seq (wc_seq (wc_region (wl_loadH 1 0 rfl rfl rfl (freshS_eq rfl) rfl rfl rfl (cs := [_,_,_]) rfl tS_25 tA_25 rfl rfl ?_)))))))))))))))
 obtain ⟨v5, hc5, hm⟩ := bindO_some hm
 refine wC [] [0,1] rfl fn_29 rfl (w_value_Right_s N a0 a1 a2 _ hc5) (asK [] rfl) rfl (H' := [_,_]) rfl ?_
 rintro _ _ _ ⟨rfl, rfl, rfl⟩
 refine wP rfl (wl_nil (we_then (wc_keep [6,2,1] (S' := [_,_,_]) rfl ?_)))
 refine wc_cond rfl (fun hb6 => ?_) (fun hb6 => ?_)
 ·
  replace hm := iteT hm hb6
  refine wc_keep [2] (S' := [_]) rfl (wc_seq (wc_region (wl_build rfl rfl rfl (freshS_eq rfl) rfl tZ_25 tP_25 rfl (out := [_,_,_]) rfl (wS 0 0 rfl tS_25 (all' := [_,_,_]) rfl (H' := [_,_]) rfl (wP rfl (wl_nil (we_then (wc_keep [3,2] (S' := [_,_]) rfl (wc_ret (we_then_ret ?_))))))))))
  have hE := (Option.some.inj hm).symm
  obtain ⟨hE0, hF1⟩ := Prod.mk.inj hE
  obtain ⟨hE1, hF2⟩ := Prod.mk.inj hF1
  obtain ⟨hE2, hE3⟩ := Prod.mk.inj hF2
  clear hE hF1 hF2
  replace hE0 := hE0.symm
  subst hE0
  replace hE1 := hE1.symm
  subst hE1
  replace hE2 := hE2.symm
  subst hE2
  replace hE3 := hE3.symm
  subst hE3
  refine ret_two (Hr := []) [] Tryd.results18 (res_cell 0 rfl rfl tS_25 tA_25 rfl rfl) (res_tmp rfl) ⟨rfl, rfl, rfl⟩ (asK [] rfl) rfl rfl (.inl rfl)
 ·
  replace hm := iteF hm hb6
  refine wc_keep [2,1] (S' := [_,_]) rfl (wc_skip (we_then (wc_seq (wc_region (wl_loadH 1 0 rfl rfl rfl (freshS_eq rfl) rfl rfl rfl (cs := [_,_,_]) rfl tS_25 tA_25 rfl rfl (wS 0 0 rfl tS_25 (all' := [_,_,_]) rfl (H' := [_,_]) rfl (wP rfl (wl_nil (we_then (wc_keep [3,2] (S' := [_,_]) rfl (wc_ret ?_)))))))))))
  have hE := (Option.some.inj hm).symm
  obtain ⟨hE0, hF1⟩ := Prod.mk.inj hE
  obtain ⟨hE1, hF2⟩ := Prod.mk.inj hF1
  obtain ⟨hE2, hE3⟩ := Prod.mk.inj hF2
  clear hE hF1 hF2
  replace hE0 := hE0.symm
  subst hE0
  replace hE1 := hE1.symm
  subst hE1
  replace hE2 := hE2.symm
  subst hE2
  replace hE3 := hE3.symm
  subst hE3
  refine ret_two (Hr := []) [] Tryd.results18 (res_cell 0 rfl rfl tS_25 tA_25 rfl rfl) (res_tmp rfl) ⟨rfl, rfl, rfl⟩ (asK [] rfl) rfl rfl (.inl rfl)
theorem w_expr_Eval_1_s (N : Nat) (qg0 : Nat) (a0 : Int) (a1 : Int) (a2 : Int) (a3 : ByteArray) (a4 : Int) (a5 : Int) (qp1 : Option Addr) (qc2 : Nat) (l6 : List Api_ExprD) (o0 : Int) (o1 : Int) (o2 : ByteArray) (o3 : Nat) (hm : m_expr_Eval_1 N a0 a1 a2 a3 a4 a5 l6 = some (o0, o1, o2, o3)) : Spec Tryd.prog 17 [.pointer (some ⟨qg0,0, none⟩)] [.sli 7 R_Api_ExprD qp1 qc2 l6] [.blk qg0 [.int .u8 a0, .int .u8 a1, .int .i64 a2, .string a3, .int .i64 a4, .int .u8 a5, .slice qp1 l6.length qc2] 29] (fun v Φr Hr => v = .tuple #[.agg #[.int .u8 o0, .int .i64 o1, .string o2], .int .i64 ((o3 : Nat) : Int)] ∧ Φr = [.sli 7 R_Api_ExprD qp1 qc2 l6] ∧ Hr = [.blk qg0 [.int .u8 a0, .int .u8 a1, .int .i64 a2, .string a3, .int .i64 a4, .int .u8 a5, .slice qp1 l6.length qc2] 29]) := by
 unfold m_expr_Eval_1 at hm
 refine spec_of Tryd.func17 rfl Tryd.ntmps17 rfl (S := [_]) rfl (fun C => (wc_seq (wc_region (wl_alloc rfl rfl rfl (freshS_eq rfl) rfl tZ_25 rfl (fun g1 => (wP rfl (wl_nil (we_then (wc_keep [1,0] (S' := [_,_]) rfl (wc_seq (wc_region (wF rfl tF_29_1 (wl_loadH 1 1 rfl rfl rfl (freshS_eq rfl) rfl rfl rfl (cs := [_,_,_]) rfl tS_25 tA_25 rfl rfl ?_)))))))))))))
 obtain ⟨⟨v5_0, v5_1, v5_2, v5_3⟩, hc5, hm⟩ := bindO_some hm
 try dsimp only at hm
 refine wC [] [0,1] rfl fn_18 rfl (w_expr_sure_s N a1 a2 a3 _ _ _ _ hc5) (asK [] rfl) rfl (H' := [_,_]) rfl ?_
 rintro _ _ _ ⟨rfl, rfl, rfl⟩
 refine wP rfl (wP rfl (wS 0 0 rfl tS_25 (all' := [_,_,_]) rfl (H' := [_,_]) rfl (wP rfl (wl_nil (we_then (wc_keep [2,1] (S' := [_,_]) rfl (wc_ret ?_)))))))
 have hE := (Option.some.inj hm).symm
 obtain ⟨hE0, hF1⟩ := Prod.mk.inj hE
 obtain ⟨hE1, hF2⟩ := Prod.mk.inj hF1
 obtain ⟨hE2, hE3⟩ := Prod.mk.inj hF2
 clear hE hF1 hF2
 replace hE0 := hE0.symm
 subst hE0
 replace hE1 := hE1.symm
 subst hE1
 replace hE2 := hE2.symm
 subst hE2
 replace hE3 := hE3.symm
 subst hE3
 refine ret_two (Hr := [_]) [1] Tryd.results17 (res_cell 0 rfl rfl tS_25 tA_25 rfl rfl) (res_tmp rfl) ⟨rfl, rfl, rfl⟩ (asK [0] rfl) rfl rfl (.inl rfl)
theorem w_expr_Eval_2_s (N : Nat) (qg0 : Nat) (a0 : Int) (a1 : Int) (a2 : Int) (a3 : ByteArray) (a4 : Int) (a5 : Int) (qp1 : Option Addr) (qc2 : Nat) (l6 : List Api_ExprD) (qg3 : Nat) (qp4 : Option Addr) (qc5 : Nat) (l7 : List V) (o0 : Int) (o1 : Int) (o2 : ByteArray) (o3 : Nat) (hm : m_expr_Eval_2 N a0 a1 a2 a3 a4 a5 l6 l7 = some (o0, o1, o2, o3)) : Spec Tryd.prog 19 [.pointer (some ⟨qg0,0, none⟩), .pointer (some ⟨qg3,0, none⟩)] [.sli 7 R_Api_ExprD qp1 qc2 l6, .sli 3 R_V qp4 qc5 l7] [.blk qg0 [.int .u8 a0, .int .u8 a1, .int .i64 a2, .string a3, .int .i64 a4, .int .u8 a5, .slice qp1 l6.length qc2] 29, .blk qg3 [.slice qp4 l7.length qc5] 30] (fun v Φr Hr => v = .tuple #[.agg #[.int .u8 o0, .int .i64 o1, .string o2], .int .i64 ((o3 : Nat) : Int)] ∧ Φr = [.sli 7 R_Api_ExprD qp1 qc2 l6, .sli 3 R_V qp4 qc5 l7] ∧ Hr = [.blk qg0 [.int .u8 a0, .int .u8 a1, .int .i64 a2, .string a3, .int .i64 a4, .int .u8 a5, .slice qp1 l6.length qc2] 29, .blk qg3 [.slice qp4 l7.length qc5] 30]) := by
 unfold m_expr_Eval_2 at hm
 refine spec_of Tryd.func19 rfl Tryd.ntmps19 rfl (S := [_,_]) rfl (fun C => (wc_seq (wc_region (wl_alloc rfl rfl rfl (freshS_eq rfl) rfl tZ_25 rfl (fun g2 => (wP rfl (wl_nil (we_then (wc_keep [2,0,1] (S' := [_,_,_]) rfl (wc_seq (wc_seq ?_)))))))))))
 obtain ⟨bj_1, hm, hLj_1⟩ := bindO_some hm
 refine wc_cut (σ := Bool) (fun j_1_13 => bj_1 = j_1_13) (fun j_1_13 => [(2, .pointer (some ⟨g2,0, none⟩)), (0, .pointer (some ⟨qg0,0, none⟩)), (1, .pointer (some ⟨qg3,0, none⟩)), (13, .bool j_1_13)]) (fun j_1_13 => [.sli 7 R_Api_ExprD qp1 qc2 l6, .sli 3 R_V qp4 qc5 l7]) (fun j_1_13 => [.blk g2 [.int .u8 0, .int .i64 0, .string ((⟨#[]⟩ : ByteArray))] 25, .blk qg0 [.int .u8 a0, .int .u8 a1, .int .i64 a2, .string a3, .int .i64 a4, .int .u8 a5, .slice qp1 l6.length qc2] 29, .blk qg3 [.slice qp4 l7.length qc5] 30]) ?_ ?_
 ·
  refine wc_region (wF rfl tF_29_2 (wD 1 4 rfl tS_3 tA_3 rfl (wP rfl (wP rfl ?_))))
  refine wl_split (d := 7) (S' := [_,_,_,_,_,_]) rfl rfl (fun hs7 => ?_) (fun hs7 => ?_)
  ·
   replace hm := iteT hm hs7
   refine wO rfl (wO rfl (wO rfl (wO rfl (wO rfl (wP rfl (wl_nil ?_))))))
   have hE := (Option.some.inj hm).symm
   refine we_join true hE [2,0,1,13] rfl (asK [0,1] rfl) rfl
  ·
   replace hm := iteF hm hs7
   refine wF rfl tF_29_2 (wD 1 4 rfl tS_3 tA_3 rfl (wD 2 0 rfl tS_30 tA_30 rfl (wN rfl tE_30 (wP rfl (wP rfl (wl_nil ?_))))))
   have hE := (Option.some.inj hm).symm
   refine we_join (decide (a4 ≥ ((l7.length : Nat) : Int))) hE [2,0,1,13] rfl (asK [0,1] rfl) rfl
 ·
  rintro j_1_13 hE
  try dsimp only
  have hm := hLj_1
  rw [hE] at hm
  refine wc_cond rfl (fun hb13 => ?_) (fun hb13 => ?_)
  ·
   replace hm := iteT hm hb13
   refine wc_keep [2] (S' := [_]) rfl (wc_seq (wc_region (wl_build rfl rfl rfl (freshS_eq rfl) rfl tZ_25 tP_25 rfl (out := [_,_,_]) rfl (wS 0 0 rfl tS_25 (all' := [_,_,_]) rfl (H' := [_,_,_]) rfl (wP rfl (wl_nil (we_then (wc_keep [3,2] (S' := [_,_]) rfl (wc_ret (we_then_ret ?_))))))))))
   have hE := (Option.some.inj hm).symm
   obtain ⟨hE0, hF1⟩ := Prod.mk.inj hE
   obtain ⟨hE1, hF2⟩ := Prod.mk.inj hF1
   obtain ⟨hE2, hE3⟩ := Prod.mk.inj hF2
   clear hE hF1 hF2
   replace hE0 := hE0.symm
   subst hE0
   replace hE1 := hE1.symm
   subst hE1
   replace hE2 := hE2.symm
   subst hE2
   replace hE3 := hE3.symm
   subst hE3
   refine ret_two (Hr := [_,_]) [1,2] Tryd.results19 (res_cell 0 rfl rfl tS_25 tA_25 rfl rfl) (res_tmp rfl) ⟨rfl, rfl, rfl⟩ (asK [0,1] rfl) rfl rfl (.inl rfl)
  ·
   replace hm := iteF hm hb13
   refine wc_keep [2,0,1] (S' := [_,_,_]) rfl (wc_skip (we_then (wc_seq (wc_region (wD 2 0 rfl tS_30 tA_30 rfl (wF rfl tF_29_2 (wD 1 4 rfl tS_3 tA_3 rfl ?_)))))))
   obtain ⟨hn18, hm⟩ := gd_some hm
   obtain ⟨x18, hx18, hm⟩ := bindO_some hm
   refine wl_indexA 1 a4.toNat rfl rfl rfl (freshS_eq rfl) rfl rfl rfl rfl (toNat_eq hn18) hx18 tE_30 tS_25 (fun b18 q18 cs18 hlx18 => (wl_open R_V_opens 1 rfl (fun r18 er18 _ => ?_)))
   subst er18
   refine wl_load 0 0 rfl rfl rfl (freshS_eq rfl) rfl rfl rfl (cs := [_,_,_]) rfl tS_25 tA_25 rfl rfl ?_
   obtain ⟨⟨v20_0, v20_1, v20_2, v20_3⟩, hc20, hm⟩ := bindO_some hm
   try dsimp only at hm
   refine wC [] [0,1,2] rfl fn_18 rfl (w_expr_sure_s N x18.k x18.n x18.s _ _ _ _ hc20) (asK [] rfl) rfl (H' := [_,_,_]) rfl ?_
   rintro _ _ _ ⟨rfl, rfl, rfl⟩
   refine wP rfl (wP rfl (wS 0 0 rfl tS_25 (all' := [_,_,_]) rfl (H' := [_,_,_]) rfl (wP rfl (wl_nil (we_then (wc_keep [3,2] (S' := [_,_]) rfl (wc_ret ?_)))))))
   have hE := (Option.some.inj hm).symm
   obtain ⟨hE0, hF1⟩ := Prod.mk.inj hE
   obtain ⟨hE1, hF2⟩ := Prod.mk.inj hF1
   obtain ⟨hE2, hE3⟩ := Prod.mk.inj hF2
   clear hE hF1 hF2
   replace hE0 := hE0.symm
   subst hE0
   replace hE1 := hE1.symm
   subst hE1
   replace hE2 := hE2.symm
   subst hE2
   replace hE3 := hE3.symm
   subst hE3
   refine ret_two (Hr := [_,_]) [1,2] Tryd.results19 (res_cell 0 rfl rfl tS_25 tA_25 rfl rfl) (res_tmp rfl) ⟨rfl, rfl, rfl⟩ (asK [2,3] rfl) rfl rfl (.inl rfl)
theorem w_value_number_s (N : Nat) (a0 : Int)  (hm : m_value_number N a0 = some ()) : Spec Tryd.prog 32 [.int .i64 a0] [] [] (fun v Φr Hr => v = .agg #[.int .u8 1, .int .i64 a0, .string ((⟨#[]⟩ : ByteArray))] ∧ Φr = [] ∧ Hr = []) := by
 unfold m_value_number at hm
 refine spec_of Tryd.func32 rfl Tryd.ntmps32 rfl (S := [_]) rfl (fun C => (wc_seq (wc_region (wl_alloc rfl rfl rfl (freshS_eq rfl) rfl tZ_25 rfl (fun g2 => (wl_nil (we_then (wc_seq (wc_region (wP rfl (wl_build rfl rfl rfl (freshS_eq rfl) rfl tZ_25 tP_25 rfl (out := [_,_,_]) rfl (wS 0 0 rfl tS_25 (all' := [_,_,_]) rfl (H' := [_]) rfl (wl_nil (we_then (wc_keep [2] (S' := [_]) rfl ?_)))))))))))))))
 refine wc_ret ?_
 have hE := (Option.some.inj hm).symm
 refine ret_one (Hr := []) [] Tryd.results32 (res_cell 0 rfl rfl tS_25 tA_25 rfl rfl) ⟨rfl, rfl, rfl⟩ (asK [] rfl) rfl rfl (.inl rfl)
theorem w_value_Truth_s (N : Nat) (a0 : Bool) (o0 : Int) (hm : m_value_Truth N a0 = some o0) : Spec Tryd.prog 30 [.bool a0] [] [] (fun v Φr Hr => v = .agg #[.int .u8 1, .int .i64 o0, .string ((⟨#[]⟩ : ByteArray))] ∧ Φr = [] ∧ Hr = []) := by
 unfold m_value_Truth at hm
 refine spec_of Tryd.func30 rfl Tryd.ntmps30 rfl (S := [_]) rfl (fun C => (wc_seq (wc_region (wl_alloc rfl rfl rfl (freshS_eq rfl) rfl tZ_25 rfl (fun g2 => (wl_nil (we_then (wc_seq (wc_seq (wc_region (wP rfl (wl_nil (we_then (wc_keep [3,2] (S' := [_,_]) rfl ?_))))))))))))))
 refine wc_cond rfl (fun hb3 => ?_) (fun hb3 => ?_)
 ·
  replace hm := iteT hm hb3
  refine wc_keep [2] (S' := [_]) rfl (wc_seq (wc_region ?_))
  obtain ⟨_, hc4, hm⟩ := bindO_some hm
  try dsimp only at hm
  refine wC [] [0] rfl fn_32 rfl (w_value_number_s N 1 hc4) (asK [] rfl) rfl (H' := [_]) rfl ?_
  rintro _ _ _ ⟨rfl, rfl, rfl⟩
  refine wS 0 0 rfl tS_25 (all' := [_,_,_]) rfl (H' := [_]) rfl (wl_nil (we_then (wc_keep [2] (S' := [_]) rfl (wc_ret (we_then_ret ?_)))))
  have hE := (Option.some.inj hm).symm
  replace hE := hE.symm
  subst hE
  refine ret_one (Hr := []) [] Tryd.results30 (res_cell 0 rfl rfl tS_25 tA_25 rfl rfl) ⟨rfl, rfl, rfl⟩ (asK [] rfl) rfl rfl (.inl rfl)
 ·
  replace hm := iteF hm hb3
  refine wc_keep [2] (S' := [_]) rfl (wc_skip (we_then (wc_seq (wc_region ?_))))
  obtain ⟨_, hc5, hm⟩ := bindO_some hm
  try dsimp only at hm
  refine wC [] [0] rfl fn_32 rfl (w_value_number_s N 0 hc5) (asK [] rfl) rfl (H' := [_]) rfl ?_
  rintro _ _ _ ⟨rfl, rfl, rfl⟩
  refine wS 0 0 rfl tS_25 (all' := [_,_,_]) rfl (H' := [_]) rfl (wl_nil (we_then (wc_keep [2] (S' := [_]) rfl (wc_ret ?_))))
  have hE := (Option.some.inj hm).symm
  replace hE := hE.symm
  subst hE
  refine ret_one (Hr := []) [] Tryd.results30 (res_cell 0 rfl rfl tS_25 tA_25 rfl rfl) ⟨rfl, rfl, rfl⟩ (asK [] rfl) rfl rfl (.inl rfl)
theorem w_value_does_s0 (N : Nat) (a0 : Int)  (hm : m_value_does N a0 = some (.inl ())) : Spec Tryd.prog 31 [.int .u8 a0] [] [] (fun v Φr Hr => v = .func (.func 40) #[] #[] ∧ Φr = [] ∧ Hr = []) := by
 unfold m_value_does at hm
 refine spec_of Tryd.func31 rfl Tryd.ntmps31 rfl (S := [_]) rfl (fun C => (wc_seq (wc_region (wP rfl (wl_nil (we_then (wc_keep [0] (S' := [_]) rfl (wc_seq (wc_region (wl_alloc rfl rfl rfl (freshS_eq rfl) rfl tZ_65 rfl (fun g3 => (wS 0 0 rfl tS_65 (all' := [_]) rfl (H' := [_]) rfl (wl_nil (we_then (wc_seq ?_)))))))))))))))
 refine wc_region (wl_makeMapE (keyInt (tInt_run tI_26)) false valRep rfl rfl rfl (freshS_eq rfl) rfl (fun g4 => (wl_mapPutE (i := 1) (u := .func (.func 40) #[] #[]) (cs := [.func (.func 40) #[] #[]]) 0 rfl rfl (.inr rfl) rfl rfl rfl rfl tM_66 trivial rfl (fun F w hφ => ⟨rfl, rfl⟩) (H' := [mapE (keyInt (tInt_run tI_26)) false valRep g4 ([(1, .func (.func 40) #[] #[])]), .blk g3 [.func (.func 39) #[] #[]] 65]) rfl (wl_mapPutE (i := 2) (u := .func (.func 41) #[] #[]) (cs := [.func (.func 41) #[] #[]]) 0 rfl rfl (.inr rfl) rfl rfl rfl rfl tM_66 trivial rfl (fun F w hφ => ⟨rfl, rfl⟩) (H' := [mapE (keyInt (tInt_run tI_26)) false valRep g4 ([(1, .func (.func 40) #[] #[]), (2, .func (.func 41) #[] #[])]), .blk g3 [.func (.func 39) #[] #[]] 65]) rfl (wl_mapPutE (i := 3) (u := .func (.func 42) #[] #[]) (cs := [.func (.func 42) #[] #[]]) 0 rfl rfl (.inr rfl) rfl rfl rfl rfl tM_66 trivial rfl (fun F w hφ => ⟨rfl, rfl⟩) (H' := [mapE (keyInt (tInt_run tI_26)) false valRep g4 ([(1, .func (.func 40) #[] #[]), (2, .func (.func 41) #[] #[]), (3, .func (.func 42) #[] #[])]), .blk g3 [.func (.func 39) #[] #[]] 65]) rfl (wl_mapPutE (i := 4) (u := .func (.func 43) #[] #[]) (cs := [.func (.func 43) #[] #[]]) 0 rfl rfl (.inr rfl) rfl rfl rfl rfl tM_66 trivial rfl (fun F w hφ => ⟨rfl, rfl⟩) (H' := [mapE (keyInt (tInt_run tI_26)) false valRep g4 ([(1, .func (.func 40) #[] #[]), (2, .func (.func 41) #[] #[]), (3, .func (.func 42) #[] #[]), (4, .func (.func 43) #[] #[])]), .blk g3 [.func (.func 39) #[] #[]] 65]) rfl (wl_makeFunc rfl rfl rfl (freshS_eq rfl) rfl rfl (wl_mapPutE (i := 7) (u := .func (.func 44) #[] #[.pointer (some ⟨g3,0, none⟩)]) (cs := [.func (.func 44) #[] #[.pointer (some ⟨g3,0, none⟩)]]) 0 rfl rfl (.inr rfl) rfl rfl rfl rfl tM_66 trivial rfl (fun F w hφ => ⟨rfl, rfl⟩) (H' := [mapE (keyInt (tInt_run tI_26)) false valRep g4 ([(1, .func (.func 40) #[] #[]), (2, .func (.func 41) #[] #[]), (3, .func (.func 42) #[] #[]), (4, .func (.func 43) #[] #[]), (7, .func (.func 44) #[] #[.pointer (some ⟨g3,0, none⟩)])]), .blk g3 [.func (.func 39) #[] #[]] 65]) rfl (wl_makeFunc rfl rfl rfl (freshS_eq rfl) rfl rfl (wl_mapPutE (i := 8) (u := .func (.func 45) #[] #[.pointer (some ⟨g3,0, none⟩)]) (cs := [.func (.func 45) #[] #[.pointer (some ⟨g3,0, none⟩)]]) 0 rfl rfl (.inr rfl) rfl rfl rfl rfl tM_66 trivial rfl (fun F w hφ => ⟨rfl, rfl⟩) (H' := [mapE (keyInt (tInt_run tI_26)) false valRep g4 ([(1, .func (.func 40) #[] #[]), (2, .func (.func 41) #[] #[]), (3, .func (.func 42) #[] #[]), (4, .func (.func 43) #[] #[]), (7, .func (.func 44) #[] #[.pointer (some ⟨g3,0, none⟩)]), (8, .func (.func 45) #[] #[.pointer (some ⟨g3,0, none⟩)])]), .blk g3 [.func (.func 39) #[] #[]] 65]) rfl (wl_makeFunc rfl rfl rfl (freshS_eq rfl) rfl rfl (wl_mapPutE (i := 9) (u := .func (.func 46) #[] #[.pointer (some ⟨g3,0, none⟩)]) (cs := [.func (.func 46) #[] #[.pointer (some ⟨g3,0, none⟩)]]) 0 rfl rfl (.inr rfl) rfl rfl rfl rfl tM_66 trivial rfl (fun F w hφ => ⟨rfl, rfl⟩) (H' := [mapE (keyInt (tInt_run tI_26)) false valRep g4 ([(1, .func (.func 40) #[] #[]), (2, .func (.func 41) #[] #[]), (3, .func (.func 42) #[] #[]), (4, .func (.func 43) #[] #[]), (7, .func (.func 44) #[] #[.pointer (some ⟨g3,0, none⟩)]), (8, .func (.func 45) #[] #[.pointer (some ⟨g3,0, none⟩)]), (9, .func (.func 46) #[] #[.pointer (some ⟨g3,0, none⟩)])]), .blk g3 [.func (.func 39) #[] #[]] 65]) rfl (wl_makeFunc rfl rfl rfl (freshS_eq rfl) rfl rfl (wl_mapPutE (i := 10) (u := .func (.func 47) #[] #[.pointer (some ⟨g3,0, none⟩)]) (cs := [.func (.func 47) #[] #[.pointer (some ⟨g3,0, none⟩)]]) 0 rfl rfl (.inr rfl) rfl rfl rfl rfl tM_66 trivial rfl (fun F w hφ => ⟨rfl, rfl⟩) (H' := [mapE (keyInt (tInt_run tI_26)) false valRep g4 ([(1, .func (.func 40) #[] #[]), (2, .func (.func 41) #[] #[]), (3, .func (.func 42) #[] #[]), (4, .func (.func 43) #[] #[]), (7, .func (.func 44) #[] #[.pointer (some ⟨g3,0, none⟩)]), (8, .func (.func 45) #[] #[.pointer (some ⟨g3,0, none⟩)]), (9, .func (.func 46) #[] #[.pointer (some ⟨g3,0, none⟩)]), (10, .func (.func 47) #[] #[.pointer (some ⟨g3,0, none⟩)])]), .blk g3 [.func (.func 39) #[] #[]] 65]) rfl ?_))))))))))))))
 refine wl_makeFunc rfl rfl rfl (freshS_eq rfl) rfl rfl (wl_mapPutE (i := 11) (u := .func (.func 48) #[] #[.pointer (some ⟨g3,0, none⟩)]) (cs := [.func (.func 48) #[] #[.pointer (some ⟨g3,0, none⟩)]]) 0 rfl rfl (.inr rfl) rfl rfl rfl rfl tM_66 trivial rfl (fun F w hφ => ⟨rfl, rfl⟩) (H' := [mapE (keyInt (tInt_run tI_26)) false valRep g4 ([(1, .func (.func 40) #[] #[]), (2, .func (.func 41) #[] #[]), (3, .func (.func 42) #[] #[]), (4, .func (.func 43) #[] #[]), (7, .func (.func 44) #[] #[.pointer (some ⟨g3,0, none⟩)]), (8, .func (.func 45) #[] #[.pointer (some ⟨g3,0, none⟩)]), (9, .func (.func 46) #[] #[.pointer (some ⟨g3,0, none⟩)]), (10, .func (.func 47) #[] #[.pointer (some ⟨g3,0, none⟩)]), (11, .func (.func 48) #[] #[.pointer (some ⟨g3,0, none⟩)])]), .blk g3 [.func (.func 39) #[] #[]] 65]) rfl (wP rfl (wP rfl ?_)))
 rcases ite_some hm with ⟨hq12_0, hm⟩ | ⟨hq12_0, hm⟩
 ·
  refine wl_lookYesE (i := a0) (a := (.func (.func 40) #[] #[])) valRep_opens 0 rfl rfl rfl (freshS_eq rfl) rfl rfl rfl rfl tM_66 trivial (by rw [eq_of_beq hq12_0]; rfl) (u := fun _ => .func (.func 40) #[] #[]) (fun _ => rfl) (v := fun _ => .func (.func 40) #[] #[]) (fun _ => rfl) (fun _ _ => (wP rfl (wl_nil (we_then (wc_keep [2] (S' := [_]) rfl (wc_ret ?_))))))
  have hE := (Option.some.inj hm).symm
  replace hE := Sum.inl.inj hE
  refine ret_one (Hr := []) [] Tryd.results31 (res_tmp rfl) ⟨rfl, rfl, rfl⟩ (asK [] rfl) rfl rfl (.inl rfl)
 rcases ite_some hm with ⟨hq12_1, hm⟩ | ⟨hq12_1, hm⟩
 ·
  refine wl_lookYesE (i := a0) (a := (.func (.func 41) #[] #[])) valRep_opens 0 rfl rfl rfl (freshS_eq rfl) rfl rfl rfl rfl tM_66 trivial (by rw [eq_of_beq hq12_1]; rfl) (u := fun _ => .func (.func 41) #[] #[]) (fun _ => rfl) (v := fun _ => .func (.func 41) #[] #[]) (fun _ => rfl) (fun _ _ => (wP rfl (wl_nil (we_then (wc_keep [2] (S' := [_]) rfl (wc_ret ?_))))))
  have hE := (Option.some.inj hm).symm
  cases hE
 rcases ite_some hm with ⟨hq12_2, hm⟩ | ⟨hq12_2, hm⟩
 ·
  refine wl_lookYesE (i := a0) (a := (.func (.func 42) #[] #[])) valRep_opens 0 rfl rfl rfl (freshS_eq rfl) rfl rfl rfl rfl tM_66 trivial (by rw [eq_of_beq hq12_2]; rfl) (u := fun _ => .func (.func 42) #[] #[]) (fun _ => rfl) (v := fun _ => .func (.func 42) #[] #[]) (fun _ => rfl) (fun _ _ => (wP rfl (wl_nil (we_then (wc_keep [2] (S' := [_]) rfl (wc_ret ?_))))))
  have hE := (Option.some.inj hm).symm
  cases hE
 rcases ite_some hm with ⟨hq12_3, hm⟩ | ⟨hq12_3, hm⟩
 ·
  refine wl_lookYesE (i := a0) (a := (.func (.func 43) #[] #[])) valRep_opens 0 rfl rfl rfl (freshS_eq rfl) rfl rfl rfl rfl tM_66 trivial (by rw [eq_of_beq hq12_3]; rfl) (u := fun _ => .func (.func 43) #[] #[]) (fun _ => rfl) (v := fun _ => .func (.func 43) #[] #[]) (fun _ => rfl) (fun _ _ => (wP rfl (wl_nil (we_then (wc_keep [2] (S' := [_]) rfl (wc_ret ?_))))))
  have hE := (Option.some.inj hm).symm
  cases hE
 rcases ite_some hm with ⟨hq12_4, hm⟩ | ⟨hq12_4, hm⟩
 ·
  refine wl_lookYesE (i := a0) (a := (.func (.func 44) #[] #[.pointer (some ⟨g3,0, none⟩)])) valRep_opens 0 rfl rfl rfl (freshS_eq rfl) rfl rfl rfl rfl tM_66 trivial (by rw [eq_of_beq hq12_4]; rfl) (u := fun _ => .func (.func 44) #[] #[.pointer (some ⟨g3,0, none⟩)]) (fun _ => rfl) (v := fun _ => .func (.func 44) #[] #[.pointer (some ⟨g3,0, none⟩)]) (fun _ => rfl) (fun _ _ => (wP rfl (wl_nil (we_then (wc_keep [2] (S' := [_]) rfl (wc_ret ?_))))))
  have hE := (Option.some.inj hm).symm
  cases hE
 rcases ite_some hm with ⟨hq12_5, hm⟩ | ⟨hq12_5, hm⟩
 ·
  refine wl_lookYesE (i := a0) (a := (.func (.func 45) #[] #[.pointer (some ⟨g3,0, none⟩)])) valRep_opens 0 rfl rfl rfl (freshS_eq rfl) rfl rfl rfl rfl tM_66 trivial (by rw [eq_of_beq hq12_5]; rfl) (u := fun _ => .func (.func 45) #[] #[.pointer (some ⟨g3,0, none⟩)]) (fun _ => rfl) (v := fun _ => .func (.func 45) #[] #[.pointer (some ⟨g3,0, none⟩)]) (fun _ => rfl) (fun _ _ => (wP rfl (wl_nil (we_then (wc_keep [2] (S' := [_]) rfl (wc_ret ?_))))))
  have hE := (Option.some.inj hm).symm
  cases hE
 rcases ite_some hm with ⟨hq12_6, hm⟩ | ⟨hq12_6, hm⟩
 ·
  refine wl_lookYesE (i := a0) (a := (.func (.func 46) #[] #[.pointer (some ⟨g3,0, none⟩)])) valRep_opens 0 rfl rfl rfl (freshS_eq rfl) rfl rfl rfl rfl tM_66 trivial (by rw [eq_of_beq hq12_6]; rfl) (u := fun _ => .func (.func 46) #[] #[.pointer (some ⟨g3,0, none⟩)]) (fun _ => rfl) (v := fun _ => .func (.func 46) #[] #[.pointer (some ⟨g3,0, none⟩)]) (fun _ => rfl) (fun _ _ => (wP rfl (wl_nil (we_then (wc_keep [2] (S' := [_]) rfl (wc_ret ?_))))))
  have hE := (Option.some.inj hm).symm
  cases hE
 rcases ite_some hm with ⟨hq12_7, hm⟩ | ⟨hq12_7, hm⟩
 ·
  refine wl_lookYesE (i := a0) (a := (.func (.func 47) #[] #[.pointer (some ⟨g3,0, none⟩)])) valRep_opens 0 rfl rfl rfl (freshS_eq rfl) rfl rfl rfl rfl tM_66 trivial (by rw [eq_of_beq hq12_7]; rfl) (u := fun _ => .func (.func 47) #[] #[.pointer (some ⟨g3,0, none⟩)]) (fun _ => rfl) (v := fun _ => .func (.func 47) #[] #[.pointer (some ⟨g3,0, none⟩)]) (fun _ => rfl) (fun _ _ => (wP rfl (wl_nil (we_then (wc_keep [2] (S' := [_]) rfl (wc_ret ?_))))))
  have hE := (Option.some.inj hm).symm
  cases hE
 rcases ite_some hm with ⟨hq12_8, hm⟩ | ⟨hq12_8, hm⟩
 ·
  refine wl_lookYesE (i := a0) (a := (.func (.func 48) #[] #[.pointer (some ⟨g3,0, none⟩)])) valRep_opens 0 rfl rfl rfl (freshS_eq rfl) rfl rfl rfl rfl tM_66 trivial (by rw [eq_of_beq hq12_8]; rfl) (u := fun _ => .func (.func 48) #[] #[.pointer (some ⟨g3,0, none⟩)]) (fun _ => rfl) (v := fun _ => .func (.func 48) #[] #[.pointer (some ⟨g3,0, none⟩)]) (fun _ => rfl) (fun _ _ => (wP rfl (wl_nil (we_then (wc_keep [2] (S' := [_]) rfl (wc_ret ?_))))))
  have hE := (Option.some.inj hm).symm
  cases hE
 ·
  refine wl_lookNoE (i := a0) 0 rfl rfl rfl (freshS_eq rfl) rfl rfl rfl rfl tZ_60 tM_66 trivial (by simp [mlook, (ne_of_beq_false hq12_0).symm, (ne_of_beq_false hq12_1).symm, (ne_of_beq_false hq12_2).symm, (ne_of_beq_false hq12_3).symm, (ne_of_beq_false hq12_4).symm, (ne_of_beq_false hq12_5).symm, (ne_of_beq_false hq12_6).symm, (ne_of_beq_false hq12_7).symm, (ne_of_beq_false hq12_8).symm]) (v := .nilFunc) rfl (wP rfl (wl_nil (we_then (wc_keep [2] (S' := [_]) rfl (wc_ret ?_)))))
  have hE := (Option.some.inj hm).symm
  cases hE
theorem w_value_does_s1 (N : Nat) (a0 : Int)  (hm : m_value_does N a0 = some (.inr (.inl ()))) : Spec Tryd.prog 31 [.int .u8 a0] [] [] (fun v Φr Hr => v = .func (.func 41) #[] #[] ∧ Φr = [] ∧ Hr = []) := by
 unfold m_value_does at hm
 refine spec_of Tryd.func31 rfl Tryd.ntmps31 rfl (S := [_]) rfl (fun C => (wc_seq (wc_region (wP rfl (wl_nil (we_then (wc_keep [0] (S' := [_]) rfl (wc_seq (wc_region (wl_alloc rfl rfl rfl (freshS_eq rfl) rfl tZ_65 rfl (fun g3 => (wS 0 0 rfl tS_65 (all' := [_]) rfl (H' := [_]) rfl (wl_nil (we_then (wc_seq ?_)))))))))))))))
 refine wc_region (wl_makeMapE (keyInt (tInt_run tI_26)) false valRep rfl rfl rfl (freshS_eq rfl) rfl (fun g4 => (wl_mapPutE (i := 1) (u := .func (.func 40) #[] #[]) (cs := [.func (.func 40) #[] #[]]) 0 rfl rfl (.inr rfl) rfl rfl rfl rfl tM_66 trivial rfl (fun F w hφ => ⟨rfl, rfl⟩) (H' := [mapE (keyInt (tInt_run tI_26)) false valRep g4 ([(1, .func (.func 40) #[] #[])]), .blk g3 [.func (.func 39) #[] #[]] 65]) rfl (wl_mapPutE (i := 2) (u := .func (.func 41) #[] #[]) (cs := [.func (.func 41) #[] #[]]) 0 rfl rfl (.inr rfl) rfl rfl rfl rfl tM_66 trivial rfl (fun F w hφ => ⟨rfl, rfl⟩) (H' := [mapE (keyInt (tInt_run tI_26)) false valRep g4 ([(1, .func (.func 40) #[] #[]), (2, .func (.func 41) #[] #[])]), .blk g3 [.func (.func 39) #[] #[]] 65]) rfl (wl_mapPutE (i := 3) (u := .func (.func 42) #[] #[]) (cs := [.func (.func 42) #[] #[]]) 0 rfl rfl (.inr rfl) rfl rfl rfl rfl tM_66 trivial rfl (fun F w hφ => ⟨rfl, rfl⟩) (H' := [mapE (keyInt (tInt_run tI_26)) false valRep g4 ([(1, .func (.func 40) #[] #[]), (2, .func (.func 41) #[] #[]), (3, .func (.func 42) #[] #[])]), .blk g3 [.func (.func 39) #[] #[]] 65]) rfl (wl_mapPutE (i := 4) (u := .func (.func 43) #[] #[]) (cs := [.func (.func 43) #[] #[]]) 0 rfl rfl (.inr rfl) rfl rfl rfl rfl tM_66 trivial rfl (fun F w hφ => ⟨rfl, rfl⟩) (H' := [mapE (keyInt (tInt_run tI_26)) false valRep g4 ([(1, .func (.func 40) #[] #[]), (2, .func (.func 41) #[] #[]), (3, .func (.func 42) #[] #[]), (4, .func (.func 43) #[] #[])]), .blk g3 [.func (.func 39) #[] #[]] 65]) rfl (wl_makeFunc rfl rfl rfl (freshS_eq rfl) rfl rfl (wl_mapPutE (i := 7) (u := .func (.func 44) #[] #[.pointer (some ⟨g3,0, none⟩)]) (cs := [.func (.func 44) #[] #[.pointer (some ⟨g3,0, none⟩)]]) 0 rfl rfl (.inr rfl) rfl rfl rfl rfl tM_66 trivial rfl (fun F w hφ => ⟨rfl, rfl⟩) (H' := [mapE (keyInt (tInt_run tI_26)) false valRep g4 ([(1, .func (.func 40) #[] #[]), (2, .func (.func 41) #[] #[]), (3, .func (.func 42) #[] #[]), (4, .func (.func 43) #[] #[]), (7, .func (.func 44) #[] #[.pointer (some ⟨g3,0, none⟩)])]), .blk g3 [.func (.func 39) #[] #[]] 65]) rfl (wl_makeFunc rfl rfl rfl (freshS_eq rfl) rfl rfl (wl_mapPutE (i := 8) (u := .func (.func 45) #[] #[.pointer (some ⟨g3,0, none⟩)]) (cs := [.func (.func 45) #[] #[.pointer (some ⟨g3,0, none⟩)]]) 0 rfl rfl (.inr rfl) rfl rfl rfl rfl tM_66 trivial rfl (fun F w hφ => ⟨rfl, rfl⟩) (H' := [mapE (keyInt (tInt_run tI_26)) false valRep g4 ([(1, .func (.func 40) #[] #[]), (2, .func (.func 41) #[] #[]), (3, .func (.func 42) #[] #[]), (4, .func (.func 43) #[] #[]), (7, .func (.func 44) #[] #[.pointer (some ⟨g3,0, none⟩)]), (8, .func (.func 45) #[] #[.pointer (some ⟨g3,0, none⟩)])]), .blk g3 [.func (.func 39) #[] #[]] 65]) rfl (wl_makeFunc rfl rfl rfl (freshS_eq rfl) rfl rfl (wl_mapPutE (i := 9) (u := .func (.func 46) #[] #[.pointer (some ⟨g3,0, none⟩)]) (cs := [.func (.func 46) #[] #[.pointer (some ⟨g3,0, none⟩)]]) 0 rfl rfl (.inr rfl) rfl rfl rfl rfl tM_66 trivial rfl (fun F w hφ => ⟨rfl, rfl⟩) (H' := [mapE (keyInt (tInt_run tI_26)) false valRep g4 ([(1, .func (.func 40) #[] #[]), (2, .func (.func 41) #[] #[]), (3, .func (.func 42) #[] #[]), (4, .func (.func 43) #[] #[]), (7, .func (.func 44) #[] #[.pointer (some ⟨g3,0, none⟩)]), (8, .func (.func 45) #[] #[.pointer (some ⟨g3,0, none⟩)]), (9, .func (.func 46) #[] #[.pointer (some ⟨g3,0, none⟩)])]), .blk g3 [.func (.func 39) #[] #[]] 65]) rfl (wl_makeFunc rfl rfl rfl (freshS_eq rfl) rfl rfl (wl_mapPutE (i := 10) (u := .func (.func 47) #[] #[.pointer (some ⟨g3,0, none⟩)]) (cs := [.func (.func 47) #[] #[.pointer (some ⟨g3,0, none⟩)]]) 0 rfl rfl (.inr rfl) rfl rfl rfl rfl tM_66 trivial rfl (fun F w hφ => ⟨rfl, rfl⟩) (H' := [mapE (keyInt (tInt_run tI_26)) false valRep g4 ([(1, .func (.func 40) #[] #[]), (2, .func (.func 41) #[] #[]), (3, .func (.func 42) #[] #[]), (4, .func (.func 43) #[] #[]), (7, .func (.func 44) #[] #[.pointer (some ⟨g3,0, none⟩)]), (8, .func (.func 45) #[] #[.pointer (some ⟨g3,0, none⟩)]), (9, .func (.func 46) #[] #[.pointer (some ⟨g3,0, none⟩)]), (10, .func (.func 47) #[] #[.pointer (some ⟨g3,0, none⟩)])]), .blk g3 [.func (.func 39) #[] #[]] 65]) rfl ?_))))))))))))))
 refine wl_makeFunc rfl rfl rfl (freshS_eq rfl) rfl rfl (wl_mapPutE (i := 11) (u := .func (.func 48) #[] #[.pointer (some ⟨g3,0, none⟩)]) (cs := [.func (.func 48) #[] #[.pointer (some ⟨g3,0, none⟩)]]) 0 rfl rfl (.inr rfl) rfl rfl rfl rfl tM_66 trivial rfl (fun F w hφ => ⟨rfl, rfl⟩) (H' := [mapE (keyInt (tInt_run tI_26)) false valRep g4 ([(1, .func (.func 40) #[] #[]), (2, .func (.func 41) #[] #[]), (3, .func (.func 42) #[] #[]), (4, .func (.func 43) #[] #[]), (7, .func (.func 44) #[] #[.pointer (some ⟨g3,0, none⟩)]), (8, .func (.func 45) #[] #[.pointer (some ⟨g3,0, none⟩)]), (9, .func (.func 46) #[] #[.pointer (some ⟨g3,0, none⟩)]), (10, .func (.func 47) #[] #[.pointer (some ⟨g3,0, none⟩)]), (11, .func (.func 48) #[] #[.pointer (some ⟨g3,0, none⟩)])]), .blk g3 [.func (.func 39) #[] #[]] 65]) rfl (wP rfl (wP rfl ?_)))
 rcases ite_some hm with ⟨hq12_0, hm⟩ | ⟨hq12_0, hm⟩
 ·
  refine wl_lookYesE (i := a0) (a := (.func (.func 40) #[] #[])) valRep_opens 0 rfl rfl rfl (freshS_eq rfl) rfl rfl rfl rfl tM_66 trivial (by rw [eq_of_beq hq12_0]; rfl) (u := fun _ => .func (.func 40) #[] #[]) (fun _ => rfl) (v := fun _ => .func (.func 40) #[] #[]) (fun _ => rfl) (fun _ _ => (wP rfl (wl_nil (we_then (wc_keep [2] (S' := [_]) rfl (wc_ret ?_))))))
  have hE := (Option.some.inj hm).symm
  cases hE
 rcases ite_some hm with ⟨hq12_1, hm⟩ | ⟨hq12_1, hm⟩
 ·
  refine wl_lookYesE (i := a0) (a := (.func (.func 41) #[] #[])) valRep_opens 0 rfl rfl rfl (freshS_eq rfl) rfl rfl rfl rfl tM_66 trivial (by rw [eq_of_beq hq12_1]; rfl) (u := fun _ => .func (.func 41) #[] #[]) (fun _ => rfl) (v := fun _ => .func (.func 41) #[] #[]) (fun _ => rfl) (fun _ _ => (wP rfl (wl_nil (we_then (wc_keep [2] (S' := [_]) rfl (wc_ret ?_))))))
  have hE := (Option.some.inj hm).symm
  replace hE := Sum.inr.inj hE
  replace hE := Sum.inl.inj hE
  refine ret_one (Hr := []) [] Tryd.results31 (res_tmp rfl) ⟨rfl, rfl, rfl⟩ (asK [] rfl) rfl rfl (.inl rfl)
 rcases ite_some hm with ⟨hq12_2, hm⟩ | ⟨hq12_2, hm⟩
 ·
  refine wl_lookYesE (i := a0) (a := (.func (.func 42) #[] #[])) valRep_opens 0 rfl rfl rfl (freshS_eq rfl) rfl rfl rfl rfl tM_66 trivial (by rw [eq_of_beq hq12_2]; rfl) (u := fun _ => .func (.func 42) #[] #[]) (fun _ => rfl) (v := fun _ => .func (.func 42) #[] #[]) (fun _ => rfl) (fun _ _ => (wP rfl (wl_nil (we_then (wc_keep [2] (S' := [_]) rfl (wc_ret ?_))))))
  have hE := (Option.some.inj hm).symm
  cases hE
 rcases ite_some hm with ⟨hq12_3, hm⟩ | ⟨hq12_3, hm⟩
 ·
  refine wl_lookYesE (i := a0) (a := (.func (.func 43) #[] #[])) valRep_opens 0 rfl rfl rfl (freshS_eq rfl) rfl rfl rfl rfl tM_66 trivial (by rw [eq_of_beq hq12_3]; rfl) (u := fun _ => .func (.func 43) #[] #[]) (fun _ => rfl) (v := fun _ => .func (.func 43) #[] #[]) (fun _ => rfl) (fun _ _ => (wP rfl (wl_nil (we_then (wc_keep [2] (S' := [_]) rfl (wc_ret ?_))))))
  have hE := (Option.some.inj hm).symm
  cases hE
 rcases ite_some hm with ⟨hq12_4, hm⟩ | ⟨hq12_4, hm⟩
 ·
  refine wl_lookYesE (i := a0) (a := (.func (.func 44) #[] #[.pointer (some ⟨g3,0, none⟩)])) valRep_opens 0 rfl rfl rfl (freshS_eq rfl) rfl rfl rfl rfl tM_66 trivial (by rw [eq_of_beq hq12_4]; rfl) (u := fun _ => .func (.func 44) #[] #[.pointer (some ⟨g3,0, none⟩)]) (fun _ => rfl) (v := fun _ => .func (.func 44) #[] #[.pointer (some ⟨g3,0, none⟩)]) (fun _ => rfl) (fun _ _ => (wP rfl (wl_nil (we_then (wc_keep [2] (S' := [_]) rfl (wc_ret ?_))))))
  have hE := (Option.some.inj hm).symm
  cases hE
 rcases ite_some hm with ⟨hq12_5, hm⟩ | ⟨hq12_5, hm⟩
 ·
  refine wl_lookYesE (i := a0) (a := (.func (.func 45) #[] #[.pointer (some ⟨g3,0, none⟩)])) valRep_opens 0 rfl rfl rfl (freshS_eq rfl) rfl rfl rfl rfl tM_66 trivial (by rw [eq_of_beq hq12_5]; rfl) (u := fun _ => .func (.func 45) #[] #[.pointer (some ⟨g3,0, none⟩)]) (fun _ => rfl) (v := fun _ => .func (.func 45) #[] #[.pointer (some ⟨g3,0, none⟩)]) (fun _ => rfl) (fun _ _ => (wP rfl (wl_nil (we_then (wc_keep [2] (S' := [_]) rfl (wc_ret ?_))))))
  have hE := (Option.some.inj hm).symm
  cases hE
 rcases ite_some hm with ⟨hq12_6, hm⟩ | ⟨hq12_6, hm⟩
 ·
  refine wl_lookYesE (i := a0) (a := (.func (.func 46) #[] #[.pointer (some ⟨g3,0, none⟩)])) valRep_opens 0 rfl rfl rfl (freshS_eq rfl) rfl rfl rfl rfl tM_66 trivial (by rw [eq_of_beq hq12_6]; rfl) (u := fun _ => .func (.func 46) #[] #[.pointer (some ⟨g3,0, none⟩)]) (fun _ => rfl) (v := fun _ => .func (.func 46) #[] #[.pointer (some ⟨g3,0, none⟩)]) (fun _ => rfl) (fun _ _ => (wP rfl (wl_nil (we_then (wc_keep [2] (S' := [_]) rfl (wc_ret ?_))))))
  have hE := (Option.some.inj hm).symm
  cases hE
 rcases ite_some hm with ⟨hq12_7, hm⟩ | ⟨hq12_7, hm⟩
 ·
  refine wl_lookYesE (i := a0) (a := (.func (.func 47) #[] #[.pointer (some ⟨g3,0, none⟩)])) valRep_opens 0 rfl rfl rfl (freshS_eq rfl) rfl rfl rfl rfl tM_66 trivial (by rw [eq_of_beq hq12_7]; rfl) (u := fun _ => .func (.func 47) #[] #[.pointer (some ⟨g3,0, none⟩)]) (fun _ => rfl) (v := fun _ => .func (.func 47) #[] #[.pointer (some ⟨g3,0, none⟩)]) (fun _ => rfl) (fun _ _ => (wP rfl (wl_nil (we_then (wc_keep [2] (S' := [_]) rfl (wc_ret ?_))))))
  have hE := (Option.some.inj hm).symm
  cases hE
 rcases ite_some hm with ⟨hq12_8, hm⟩ | ⟨hq12_8, hm⟩
 ·
  refine wl_lookYesE (i := a0) (a := (.func (.func 48) #[] #[.pointer (some ⟨g3,0, none⟩)])) valRep_opens 0 rfl rfl rfl (freshS_eq rfl) rfl rfl rfl rfl tM_66 trivial (by rw [eq_of_beq hq12_8]; rfl) (u := fun _ => .func (.func 48) #[] #[.pointer (some ⟨g3,0, none⟩)]) (fun _ => rfl) (v := fun _ => .func (.func 48) #[] #[.pointer (some ⟨g3,0, none⟩)]) (fun _ => rfl) (fun _ _ => (wP rfl (wl_nil (we_then (wc_keep [2] (S' := [_]) rfl (wc_ret ?_))))))
  have hE := (Option.some.inj hm).symm
  cases hE
 ·
  refine wl_lookNoE (i := a0) 0 rfl rfl rfl (freshS_eq rfl) rfl rfl rfl rfl tZ_60 tM_66 trivial (by simp [mlook, (ne_of_beq_false hq12_0).symm, (ne_of_beq_false hq12_1).symm, (ne_of_beq_false hq12_2).symm, (ne_of_beq_false hq12_3).symm, (ne_of_beq_false hq12_4).symm, (ne_of_beq_false hq12_5).symm, (ne_of_beq_false hq12_6).symm, (ne_of_beq_false hq12_7).symm, (ne_of_beq_false hq12_8).symm]) (v := .nilFunc) rfl (wP rfl (wl_nil (we_then (wc_keep [2] (S' := [_]) rfl (wc_ret ?_)))))
  have hE := (Option.some.inj hm).symm
  cases hE
theorem w_value_does_s2 (N : Nat) (a0 : Int)  (hm : m_value_does N a0 = some (.inr (.inr (.inl ())))) : Spec Tryd.prog 31 [.int .u8 a0] [] [] (fun v Φr Hr => v = .func (.func 42) #[] #[] ∧ Φr = [] ∧ Hr = []) := by
 unfold m_value_does at hm
 refine spec_of Tryd.func31 rfl Tryd.ntmps31 rfl (S := [_]) rfl (fun C => (wc_seq (wc_region (wP rfl (wl_nil (we_then (wc_keep [0] (S' := [_]) rfl (wc_seq (wc_region (wl_alloc rfl rfl rfl (freshS_eq rfl) rfl tZ_65 rfl (fun g3 => (wS 0 0 rfl tS_65 (all' := [_]) rfl (H' := [_]) rfl (wl_nil (we_then (wc_seq ?_)))))))))))))))
 refine wc_region (wl_makeMapE (keyInt (tInt_run tI_26)) false valRep rfl rfl rfl (freshS_eq rfl) rfl (fun g4 => (wl_mapPutE (i := 1) (u := .func (.func 40) #[] #[]) (cs := [.func (.func 40) #[] #[]]) 0 rfl rfl (.inr rfl) rfl rfl rfl rfl tM_66 trivial rfl (fun F w hφ => ⟨rfl, rfl⟩) (H' := [mapE (keyInt (tInt_run tI_26)) false valRep g4 ([(1, .func (.func 40) #[] #[])]), .blk g3 [.func (.func 39) #[] #[]] 65]) rfl (wl_mapPutE (i := 2) (u := .func (.func 41) #[] #[]) (cs := [.func (.func 41) #[] #[]]) 0 rfl rfl (.inr rfl) rfl rfl rfl rfl tM_66 trivial rfl (fun F w hφ => ⟨rfl, rfl⟩) (H' := [mapE (keyInt (tInt_run tI_26)) false valRep g4 ([(1, .func (.func 40) #[] #[]), (2, .func (.func 41) #[] #[])]), .blk g3 [.func (.func 39) #[] #[]] 65]) rfl (wl_mapPutE (i := 3) (u := .func (.func 42) #[] #[]) (cs := [.func (.func 42) #[] #[]]) 0 rfl rfl (.inr rfl) rfl rfl rfl rfl tM_66 trivial rfl (fun F w hφ => ⟨rfl, rfl⟩) (H' := [mapE (keyInt (tInt_run tI_26)) false valRep g4 ([(1, .func (.func 40) #[] #[]), (2, .func (.func 41) #[] #[]), (3, .func (.func 42) #[] #[])]), .blk g3 [.func (.func 39) #[] #[]] 65]) rfl (wl_mapPutE (i := 4) (u := .func (.func 43) #[] #[]) (cs := [.func (.func 43) #[] #[]]) 0 rfl rfl (.inr rfl) rfl rfl rfl rfl tM_66 trivial rfl (fun F w hφ => ⟨rfl, rfl⟩) (H' := [mapE (keyInt (tInt_run tI_26)) false valRep g4 ([(1, .func (.func 40) #[] #[]), (2, .func (.func 41) #[] #[]), (3, .func (.func 42) #[] #[]), (4, .func (.func 43) #[] #[])]), .blk g3 [.func (.func 39) #[] #[]] 65]) rfl (wl_makeFunc rfl rfl rfl (freshS_eq rfl) rfl rfl (wl_mapPutE (i := 7) (u := .func (.func 44) #[] #[.pointer (some ⟨g3,0, none⟩)]) (cs := [.func (.func 44) #[] #[.pointer (some ⟨g3,0, none⟩)]]) 0 rfl rfl (.inr rfl) rfl rfl rfl rfl tM_66 trivial rfl (fun F w hφ => ⟨rfl, rfl⟩) (H' := [mapE (keyInt (tInt_run tI_26)) false valRep g4 ([(1, .func (.func 40) #[] #[]), (2, .func (.func 41) #[] #[]), (3, .func (.func 42) #[] #[]), (4, .func (.func 43) #[] #[]), (7, .func (.func 44) #[] #[.pointer (some ⟨g3,0, none⟩)])]), .blk g3 [.func (.func 39) #[] #[]] 65]) rfl (wl_makeFunc rfl rfl rfl (freshS_eq rfl) rfl rfl (wl_mapPutE (i := 8) (u := .func (.func 45) #[] #[.pointer (some ⟨g3,0, none⟩)]) (cs := [.func (.func 45) #[] #[.pointer (some ⟨g3,0, none⟩)]]) 0 rfl rfl (.inr rfl) rfl rfl rfl rfl tM_66 trivial rfl (fun F w hφ => ⟨rfl, rfl⟩) (H' := [mapE (keyInt (tInt_run tI_26)) false valRep g4 ([(1, .func (.func 40) #[] #[]), (2, .func (.func 41) #[] #[]), (3, .func (.func 42) #[] #[]), (4, .func (.func 43) #[] #[]), (7, .func (.func 44) #[] #[.pointer (some ⟨g3,0, none⟩)]), (8, .func (.func 45) #[] #[.pointer (some ⟨g3,0, none⟩)])]), .blk g3 [.func (.func 39) #[] #[]] 65]) rfl (wl_makeFunc rfl rfl rfl (freshS_eq rfl) rfl rfl (wl_mapPutE (i := 9) (u := .func (.func 46) #[] #[.pointer (some ⟨g3,0, none⟩)]) (cs := [.func (.func 46) #[] #[.pointer (some ⟨g3,0, none⟩)]]) 0 rfl rfl (.inr rfl) rfl rfl rfl rfl tM_66 trivial rfl (fun F w hφ => ⟨rfl, rfl⟩) (H' := [mapE (keyInt (tInt_run tI_26)) false valRep g4 ([(1, .func (.func 40) #[] #[]), (2, .func (.func 41) #[] #[]), (3, .func (.func 42) #[] #[]), (4, .func (.func 43) #[] #[]), (7, .func (.func 44) #[] #[.pointer (some ⟨g3,0, none⟩)]), (8, .func (.func 45) #[] #[.pointer (some ⟨g3,0, none⟩)]), (9, .func (.func 46) #[] #[.pointer (some ⟨g3,0, none⟩)])]), .blk g3 [.func (.func 39) #[] #[]] 65]) rfl (wl_makeFunc rfl rfl rfl (freshS_eq rfl) rfl rfl (wl_mapPutE (i := 10) (u := .func (.func 47) #[] #[.pointer (some ⟨g3,0, none⟩)]) (cs := [.func (.func 47) #[] #[.pointer (some ⟨g3,0, none⟩)]]) 0 rfl rfl (.inr rfl) rfl rfl rfl rfl tM_66 trivial rfl (fun F w hφ => ⟨rfl, rfl⟩) (H' := [mapE (keyInt (tInt_run tI_26)) false valRep g4 ([(1, .func (.func 40) #[] #[]), (2, .func (.func 41) #[] #[]), (3, .func (.func 42) #[] #[]), (4, .func (.func 43) #[] #[]), (7, .func (.func 44) #[] #[.pointer (some ⟨g3,0, none⟩)]), (8, .func (.func 45) #[] #[.pointer (some ⟨g3,0, none⟩)]), (9, .func (.func 46) #[] #[.pointer (some ⟨g3,0, none⟩)]), (10, .func (.func 47) #[] #[.pointer (some ⟨g3,0, none⟩)])]), .blk g3 [.func (.func 39) #[] #[]] 65]) rfl ?_))))))))))))))
 refine wl_makeFunc rfl rfl rfl (freshS_eq rfl) rfl rfl (wl_mapPutE (i := 11) (u := .func (.func 48) #[] #[.pointer (some ⟨g3,0, none⟩)]) (cs := [.func (.func 48) #[] #[.pointer (some ⟨g3,0, none⟩)]]) 0 rfl rfl (.inr rfl) rfl rfl rfl rfl tM_66 trivial rfl (fun F w hφ => ⟨rfl, rfl⟩) (H' := [mapE (keyInt (tInt_run tI_26)) false valRep g4 ([(1, .func (.func 40) #[] #[]), (2, .func (.func 41) #[] #[]), (3, .func (.func 42) #[] #[]), (4, .func (.func 43) #[] #[]), (7, .func (.func 44) #[] #[.pointer (some ⟨g3,0, none⟩)]), (8, .func (.func 45) #[] #[.pointer (some ⟨g3,0, none⟩)]), (9, .func (.func 46) #[] #[.pointer (some ⟨g3,0, none⟩)]), (10, .func (.func 47) #[] #[.pointer (some ⟨g3,0, none⟩)]), (11, .func (.func 48) #[] #[.pointer (some ⟨g3,0, none⟩)])]), .blk g3 [.func (.func 39) #[] #[]] 65]) rfl (wP rfl (wP rfl ?_)))
 rcases ite_some hm with ⟨hq12_0, hm⟩ | ⟨hq12_0, hm⟩
 ·
  refine wl_lookYesE (i := a0) (a := (.func (.func 40) #[] #[])) valRep_opens 0 rfl rfl rfl (freshS_eq rfl) rfl rfl rfl rfl tM_66 trivial (by rw [eq_of_beq hq12_0]; rfl) (u := fun _ => .func (.func 40) #[] #[]) (fun _ => rfl) (v := fun _ => .func (.func 40) #[] #[]) (fun _ => rfl) (fun _ _ => (wP rfl (wl_nil (we_then (wc_keep [2] (S' := [_]) rfl (wc_ret ?_))))))
  have hE := (Option.some.inj hm).symm
  cases hE
 rcases ite_some hm with ⟨hq12_1, hm⟩ | ⟨hq12_1, hm⟩
 ·
  refine wl_lookYesE (i := a0) (a := (.func (.func 41) #[] #[])) valRep_opens 0 rfl rfl rfl (freshS_eq rfl) rfl rfl rfl rfl tM_66 trivial (by rw [eq_of_beq hq12_1]; rfl) (u := fun _ => .func (.func 41) #[] #[]) (fun _ => rfl) (v := fun _ => .func (.func 41) #[] #[]) (fun _ => rfl) (fun _ _ => (wP rfl (wl_nil (we_then (wc_keep [2] (S' := [_]) rfl (wc_ret ?_))))))
  have hE := (Option.some.inj hm).symm
  cases hE
 rcases ite_some hm with ⟨hq12_2, hm⟩ | ⟨hq12_2, hm⟩
 ·
  refine wl_lookYesE (i := a0) (a := (.func (.func 42) #[] #[])) valRep_opens 0 rfl rfl rfl (freshS_eq rfl) rfl rfl rfl rfl tM_66 trivial (by rw [eq_of_beq hq12_2]; rfl) (u := fun _ => .func (.func 42) #[] #[]) (fun _ => rfl) (v := fun _ => .func (.func 42) #[] #[]) (fun _ => rfl) (fun _ _ => (wP rfl (wl_nil (we_then (wc_keep [2] (S' := [_]) rfl (wc_ret ?_))))))
  have hE := (Option.some.inj hm).symm
  replace hE := Sum.inr.inj hE
  replace hE := Sum.inr.inj hE
  replace hE := Sum.inl.inj hE
  refine ret_one (Hr := []) [] Tryd.results31 (res_tmp rfl) ⟨rfl, rfl, rfl⟩ (asK [] rfl) rfl rfl (.inl rfl)
 rcases ite_some hm with ⟨hq12_3, hm⟩ | ⟨hq12_3, hm⟩
 ·
  refine wl_lookYesE (i := a0) (a := (.func (.func 43) #[] #[])) valRep_opens 0 rfl rfl rfl (freshS_eq rfl) rfl rfl rfl rfl tM_66 trivial (by rw [eq_of_beq hq12_3]; rfl) (u := fun _ => .func (.func 43) #[] #[]) (fun _ => rfl) (v := fun _ => .func (.func 43) #[] #[]) (fun _ => rfl) (fun _ _ => (wP rfl (wl_nil (we_then (wc_keep [2] (S' := [_]) rfl (wc_ret ?_))))))
  have hE := (Option.some.inj hm).symm
  cases hE
 rcases ite_some hm with ⟨hq12_4, hm⟩ | ⟨hq12_4, hm⟩
 ·
  refine wl_lookYesE (i := a0) (a := (.func (.func 44) #[] #[.pointer (some ⟨g3,0, none⟩)])) valRep_opens 0 rfl rfl rfl (freshS_eq rfl) rfl rfl rfl rfl tM_66 trivial (by rw [eq_of_beq hq12_4]; rfl) (u := fun _ => .func (.func 44) #[] #[.pointer (some ⟨g3,0, none⟩)]) (fun _ => rfl) (v := fun _ => .func (.func 44) #[] #[.pointer (some ⟨g3,0, none⟩)]) (fun _ => rfl) (fun _ _ => (wP rfl (wl_nil (we_then (wc_keep [2] (S' := [_]) rfl (wc_ret ?_))))))
  have hE := (Option.some.inj hm).symm
  cases hE
 rcases ite_some hm with ⟨hq12_5, hm⟩ | ⟨hq12_5, hm⟩
 ·
  refine wl_lookYesE (i := a0) (a := (.func (.func 45) #[] #[.pointer (some ⟨g3,0, none⟩)])) valRep_opens 0 rfl rfl rfl (freshS_eq rfl) rfl rfl rfl rfl tM_66 trivial (by rw [eq_of_beq hq12_5]; rfl) (u := fun _ => .func (.func 45) #[] #[.pointer (some ⟨g3,0, none⟩)]) (fun _ => rfl) (v := fun _ => .func (.func 45) #[] #[.pointer (some ⟨g3,0, none⟩)]) (fun _ => rfl) (fun _ _ => (wP rfl (wl_nil (we_then (wc_keep [2] (S' := [_]) rfl (wc_ret ?_))))))
  have hE := (Option.some.inj hm).symm
  cases hE
 rcases ite_some hm with ⟨hq12_6, hm⟩ | ⟨hq12_6, hm⟩
 ·
  refine wl_lookYesE (i := a0) (a := (.func (.func 46) #[] #[.pointer (some ⟨g3,0, none⟩)])) valRep_opens 0 rfl rfl rfl (freshS_eq rfl) rfl rfl rfl rfl tM_66 trivial (by rw [eq_of_beq hq12_6]; rfl) (u := fun _ => .func (.func 46) #[] #[.pointer (some ⟨g3,0, none⟩)]) (fun _ => rfl) (v := fun _ => .func (.func 46) #[] #[.pointer (some ⟨g3,0, none⟩)]) (fun _ => rfl) (fun _ _ => (wP rfl (wl_nil (we_then (wc_keep [2] (S' := [_]) rfl (wc_ret ?_))))))
  have hE := (Option.some.inj hm).symm
  cases hE
 rcases ite_some hm with ⟨hq12_7, hm⟩ | ⟨hq12_7, hm⟩
 ·
  refine wl_lookYesE (i := a0) (a := (.func (.func 47) #[] #[.pointer (some ⟨g3,0, none⟩)])) valRep_opens 0 rfl rfl rfl (freshS_eq rfl) rfl rfl rfl rfl tM_66 trivial (by rw [eq_of_beq hq12_7]; rfl) (u := fun _ => .func (.func 47) #[] #[.pointer (some ⟨g3,0, none⟩)]) (fun _ => rfl) (v := fun _ => .func (.func 47) #[] #[.pointer (some ⟨g3,0, none⟩)]) (fun _ => rfl) (fun _ _ => (wP rfl (wl_nil (we_then (wc_keep [2] (S' := [_]) rfl (wc_ret ?_))))))
  have hE := (Option.some.inj hm).symm
  cases hE
 rcases ite_some hm with ⟨hq12_8, hm⟩ | ⟨hq12_8, hm⟩
 ·
  refine wl_lookYesE (i := a0) (a := (.func (.func 48) #[] #[.pointer (some ⟨g3,0, none⟩)])) valRep_opens 0 rfl rfl rfl (freshS_eq rfl) rfl rfl rfl rfl tM_66 trivial (by rw [eq_of_beq hq12_8]; rfl) (u := fun _ => .func (.func 48) #[] #[.pointer (some ⟨g3,0, none⟩)]) (fun _ => rfl) (v := fun _ => .func (.func 48) #[] #[.pointer (some ⟨g3,0, none⟩)]) (fun _ => rfl) (fun _ _ => (wP rfl (wl_nil (we_then (wc_keep [2] (S' := [_]) rfl (wc_ret ?_))))))
  have hE := (Option.some.inj hm).symm
  cases hE
 ·
  refine wl_lookNoE (i := a0) 0 rfl rfl rfl (freshS_eq rfl) rfl rfl rfl rfl tZ_60 tM_66 trivial (by simp [mlook, (ne_of_beq_false hq12_0).symm, (ne_of_beq_false hq12_1).symm, (ne_of_beq_false hq12_2).symm, (ne_of_beq_false hq12_3).symm, (ne_of_beq_false hq12_4).symm, (ne_of_beq_false hq12_5).symm, (ne_of_beq_false hq12_6).symm, (ne_of_beq_false hq12_7).symm, (ne_of_beq_false hq12_8).symm]) (v := .nilFunc) rfl (wP rfl (wl_nil (we_then (wc_keep [2] (S' := [_]) rfl (wc_ret ?_)))))
  have hE := (Option.some.inj hm).symm
  cases hE
theorem w_value_does_s3 (N : Nat) (a0 : Int)  (hm : m_value_does N a0 = some (.inr (.inr (.inr (.inl ()))))) : Spec Tryd.prog 31 [.int .u8 a0] [] [] (fun v Φr Hr => v = .func (.func 43) #[] #[] ∧ Φr = [] ∧ Hr = []) := by
 unfold m_value_does at hm
 refine spec_of Tryd.func31 rfl Tryd.ntmps31 rfl (S := [_]) rfl (fun C => (wc_seq (wc_region (wP rfl (wl_nil (we_then (wc_keep [0] (S' := [_]) rfl (wc_seq (wc_region (wl_alloc rfl rfl rfl (freshS_eq rfl) rfl tZ_65 rfl (fun g3 => (wS 0 0 rfl tS_65 (all' := [_]) rfl (H' := [_]) rfl (wl_nil (we_then (wc_seq ?_)))))))))))))))
 refine wc_region (wl_makeMapE (keyInt (tInt_run tI_26)) false valRep rfl rfl rfl (freshS_eq rfl) rfl (fun g4 => (wl_mapPutE (i := 1) (u := .func (.func 40) #[] #[]) (cs := [.func (.func 40) #[] #[]]) 0 rfl rfl (.inr rfl) rfl rfl rfl rfl tM_66 trivial rfl (fun F w hφ => ⟨rfl, rfl⟩) (H' := [mapE (keyInt (tInt_run tI_26)) false valRep g4 ([(1, .func (.func 40) #[] #[])]), .blk g3 [.func (.func 39) #[] #[]] 65]) rfl (wl_mapPutE (i := 2) (u := .func (.func 41) #[] #[]) (cs := [.func (.func 41) #[] #[]]) 0 rfl rfl (.inr rfl) rfl rfl rfl rfl tM_66 trivial rfl (fun F w hφ => ⟨rfl, rfl⟩) (H' := [mapE (keyInt (tInt_run tI_26)) false valRep g4 ([(1, .func (.func 40) #[] #[]), (2, .func (.func 41) #[] #[])]), .blk g3 [.func (.func 39) #[] #[]] 65]) rfl (wl_mapPutE (i := 3) (u := .func (.func 42) #[] #[]) (cs := [.func (.func 42) #[] #[]]) 0 rfl rfl (.inr rfl) rfl rfl rfl rfl tM_66 trivial rfl (fun F w hφ => ⟨rfl, rfl⟩) (H' := [mapE (keyInt (tInt_run tI_26)) false valRep g4 ([(1, .func (.func 40) #[] #[]), (2, .func (.func 41) #[] #[]), (3, .func (.func 42) #[] #[])]), .blk g3 [.func (.func 39) #[] #[]] 65]) rfl (wl_mapPutE (i := 4) (u := .func (.func 43) #[] #[]) (cs := [.func (.func 43) #[] #[]]) 0 rfl rfl (.inr rfl) rfl rfl rfl rfl tM_66 trivial rfl (fun F w hφ => ⟨rfl, rfl⟩) (H' := [mapE (keyInt (tInt_run tI_26)) false valRep g4 ([(1, .func (.func 40) #[] #[]), (2, .func (.func 41) #[] #[]), (3, .func (.func 42) #[] #[]), (4, .func (.func 43) #[] #[])]), .blk g3 [.func (.func 39) #[] #[]] 65]) rfl (wl_makeFunc rfl rfl rfl (freshS_eq rfl) rfl rfl (wl_mapPutE (i := 7) (u := .func (.func 44) #[] #[.pointer (some ⟨g3,0, none⟩)]) (cs := [.func (.func 44) #[] #[.pointer (some ⟨g3,0, none⟩)]]) 0 rfl rfl (.inr rfl) rfl rfl rfl rfl tM_66 trivial rfl (fun F w hφ => ⟨rfl, rfl⟩) (H' := [mapE (keyInt (tInt_run tI_26)) false valRep g4 ([(1, .func (.func 40) #[] #[]), (2, .func (.func 41) #[] #[]), (3, .func (.func 42) #[] #[]), (4, .func (.func 43) #[] #[]), (7, .func (.func 44) #[] #[.pointer (some ⟨g3,0, none⟩)])]), .blk g3 [.func (.func 39) #[] #[]] 65]) rfl (wl_makeFunc rfl rfl rfl (freshS_eq rfl) rfl rfl (wl_mapPutE (i := 8) (u := .func (.func 45) #[] #[.pointer (some ⟨g3,0, none⟩)]) (cs := [.func (.func 45) #[] #[.pointer (some ⟨g3,0, none⟩)]]) 0 rfl rfl (.inr rfl) rfl rfl rfl rfl tM_66 trivial rfl (fun F w hφ => ⟨rfl, rfl⟩) (H' := [mapE (keyInt (tInt_run tI_26)) false valRep g4 ([(1, .func (.func 40) #[] #[]), (2, .func (.func 41) #[] #[]), (3, .func (.func 42) #[] #[]), (4, .func (.func 43) #[] #[]), (7, .func (.func 44) #[] #[.pointer (some ⟨g3,0, none⟩)]), (8, .func (.func 45) #[] #[.pointer (some ⟨g3,0, none⟩)])]), .blk g3 [.func (.func 39) #[] #[]] 65]) rfl (wl_makeFunc rfl rfl rfl (freshS_eq rfl) rfl rfl (wl_mapPutE (i := 9) (u := .func (.func 46) #[] #[.pointer (some ⟨g3,0, none⟩)]) (cs := [.func (.func 46) #[] #[.pointer (some ⟨g3,0, none⟩)]]) 0 rfl rfl (.inr rfl) rfl rfl rfl rfl tM_66 trivial rfl (fun F w hφ => ⟨rfl, rfl⟩) (H' := [mapE (keyInt (tInt_run tI_26)) false valRep g4 ([(1, .func (.func 40) #[] #[]), (2, .func (.func 41) #[] #[]), (3, .func (.func 42) #[] #[]), (4, .func (.func 43) #[] #[]), (7, .func (.func 44) #[] #[.pointer (some ⟨g3,0, none⟩)]), (8, .func (.func 45) #[] #[.pointer (some ⟨g3,0, none⟩)]), (9, .func (.func 46) #[] #[.pointer (some ⟨g3,0, none⟩)])]), .blk g3 [.func (.func 39) #[] #[]] 65]) rfl (wl_makeFunc rfl rfl rfl (freshS_eq rfl) rfl rfl (wl_mapPutE (i := 10) (u := .func (.func 47) #[] #[.pointer (some ⟨g3,0, none⟩)]) (cs := [.func (.func 47) #[] #[.pointer (some ⟨g3,0, none⟩)]]) 0 rfl rfl (.inr rfl) rfl rfl rfl rfl tM_66 trivial rfl (fun F w hφ => ⟨rfl, rfl⟩) (H' := [mapE (keyInt (tInt_run tI_26)) false valRep g4 ([(1, .func (.func 40) #[] #[]), (2, .func (.func 41) #[] #[]), (3, .func (.func 42) #[] #[]), (4, .func (.func 43) #[] #[]), (7, .func (.func 44) #[] #[.pointer (some ⟨g3,0, none⟩)]), (8, .func (.func 45) #[] #[.pointer (some ⟨g3,0, none⟩)]), (9, .func (.func 46) #[] #[.pointer (some ⟨g3,0, none⟩)]), (10, .func (.func 47) #[] #[.pointer (some ⟨g3,0, none⟩)])]), .blk g3 [.func (.func 39) #[] #[]] 65]) rfl ?_))))))))))))))
 refine wl_makeFunc rfl rfl rfl (freshS_eq rfl) rfl rfl (wl_mapPutE (i := 11) (u := .func (.func 48) #[] #[.pointer (some ⟨g3,0, none⟩)]) (cs := [.func (.func 48) #[] #[.pointer (some ⟨g3,0, none⟩)]]) 0 rfl rfl (.inr rfl) rfl rfl rfl rfl tM_66 trivial rfl (fun F w hφ => ⟨rfl, rfl⟩) (H' := [mapE (keyInt (tInt_run tI_26)) false valRep g4 ([(1, .func (.func 40) #[] #[]), (2, .func (.func 41) #[] #[]), (3, .func (.func 42) #[] #[]), (4, .func (.func 43) #[] #[]), (7, .func (.func 44) #[] #[.pointer (some ⟨g3,0, none⟩)]), (8, .func (.func 45) #[] #[.pointer (some ⟨g3,0, none⟩)]), (9, .func (.func 46) #[] #[.pointer (some ⟨g3,0, none⟩)]), (10, .func (.func 47) #[] #[.pointer (some ⟨g3,0, none⟩)]), (11, .func (.func 48) #[] #[.pointer (some ⟨g3,0, none⟩)])]), .blk g3 [.func (.func 39) #[] #[]] 65]) rfl (wP rfl (wP rfl ?_)))
 rcases ite_some hm with ⟨hq12_0, hm⟩ | ⟨hq12_0, hm⟩
 ·
  refine wl_lookYesE (i := a0) (a := (.func (.func 40) #[] #[])) valRep_opens 0 rfl rfl rfl (freshS_eq rfl) rfl rfl rfl rfl tM_66 trivial (by rw [eq_of_beq hq12_0]; rfl) (u := fun _ => .func (.func 40) #[] #[]) (fun _ => rfl) (v := fun _ => .func (.func 40) #[] #[]) (fun _ => rfl) (fun _ _ => (wP rfl (wl_nil (we_then (wc_keep [2] (S' := [_]) rfl (wc_ret ?_))))))
  have hE := (Option.some.inj hm).symm
  cases hE
 rcases ite_some hm with ⟨hq12_1, hm⟩ | ⟨hq12_1, hm⟩
 ·
  refine wl_lookYesE (i := a0) (a := (.func (.func 41) #[] #[])) valRep_opens 0 rfl rfl rfl (freshS_eq rfl) rfl rfl rfl rfl tM_66 trivial (by rw [eq_of_beq hq12_1]; rfl) (u := fun _ => .func (.func 41) #[] #[]) (fun _ => rfl) (v := fun _ => .func (.func 41) #[] #[]) (fun _ => rfl) (fun _ _ => (wP rfl (wl_nil (we_then (wc_keep [2] (S' := [_]) rfl (wc_ret ?_))))))
  have hE := (Option.some.inj hm).symm
  cases hE
 rcases ite_some hm with ⟨hq12_2, hm⟩ | ⟨hq12_2, hm⟩
 ·
  refine wl_lookYesE (i := a0) (a := (.func (.func 42) #[] #[])) valRep_opens 0 rfl rfl rfl (freshS_eq rfl) rfl rfl rfl rfl tM_66 trivial (by rw [eq_of_beq hq12_2]; rfl) (u := fun _ => .func (.func 42) #[] #[]) (fun _ => rfl) (v := fun _ => .func (.func 42) #[] #[]) (fun _ => rfl) (fun _ _ => (wP rfl (wl_nil (we_then (wc_keep [2] (S' := [_]) rfl (wc_ret ?_))))))
  have hE := (Option.some.inj hm).symm
  cases hE
 rcases ite_some hm with ⟨hq12_3, hm⟩ | ⟨hq12_3, hm⟩
 ·
  refine wl_lookYesE (i := a0) (a := (.func (.func 43) #[] #[])) valRep_opens 0 rfl rfl rfl (freshS_eq rfl) rfl rfl rfl rfl tM_66 trivial (by rw [eq_of_beq hq12_3]; rfl) (u := fun _ => .func (.func 43) #[] #[]) (fun _ => rfl) (v := fun _ => .func (.func 43) #[] #[]) (fun _ => rfl) (fun _ _ => (wP rfl (wl_nil (we_then (wc_keep [2] (S' := [_]) rfl (wc_ret ?_))))))
  have hE := (Option.some.inj hm).symm
  replace hE := Sum.inr.inj hE
  replace hE := Sum.inr.inj hE
  replace hE := Sum.inr.inj hE
  replace hE := Sum.inl.inj hE
  refine ret_one (Hr := []) [] Tryd.results31 (res_tmp rfl) ⟨rfl, rfl, rfl⟩ (asK [] rfl) rfl rfl (.inl rfl)
 rcases ite_some hm with ⟨hq12_4, hm⟩ | ⟨hq12_4, hm⟩
 ·
  refine wl_lookYesE (i := a0) (a := (.func (.func 44) #[] #[.pointer (some ⟨g3,0, none⟩)])) valRep_opens 0 rfl rfl rfl (freshS_eq rfl) rfl rfl rfl rfl tM_66 trivial (by rw [eq_of_beq hq12_4]; rfl) (u := fun _ => .func (.func 44) #[] #[.pointer (some ⟨g3,0, none⟩)]) (fun _ => rfl) (v := fun _ => .func (.func 44) #[] #[.pointer (some ⟨g3,0, none⟩)]) (fun _ => rfl) (fun _ _ => (wP rfl (wl_nil (we_then (wc_keep [2] (S' := [_]) rfl (wc_ret ?_))))))
  have hE := (Option.some.inj hm).symm
  cases hE
 rcases ite_some hm with ⟨hq12_5, hm⟩ | ⟨hq12_5, hm⟩
 ·
  refine wl_lookYesE (i := a0) (a := (.func (.func 45) #[] #[.pointer (some ⟨g3,0, none⟩)])) valRep_opens 0 rfl rfl rfl (freshS_eq rfl) rfl rfl rfl rfl tM_66 trivial (by rw [eq_of_beq hq12_5]; rfl) (u := fun _ => .func (.func 45) #[] #[.pointer (some ⟨g3,0, none⟩)]) (fun _ => rfl) (v := fun _ => .func (.func 45) #[] #[.pointer (some ⟨g3,0, none⟩)]) (fun _ => rfl) (fun _ _ => (wP rfl (wl_nil (we_then (wc_keep [2] (S' := [_]) rfl (wc_ret ?_))))))
  have hE := (Option.some.inj hm).symm
  cases hE
 rcases ite_some hm with ⟨hq12_6, hm⟩ | ⟨hq12_6, hm⟩
 ·
  refine wl_lookYesE (i := a0) (a := (.func (.func 46) #[] #[.pointer (some ⟨g3,0, none⟩)])) valRep_opens 0 rfl rfl rfl (freshS_eq rfl) rfl rfl rfl rfl tM_66 trivial (by rw [eq_of_beq hq12_6]; rfl) (u := fun _ => .func (.func 46) #[] #[.pointer (some ⟨g3,0, none⟩)]) (fun _ => rfl) (v := fun _ => .func (.func 46) #[] #[.pointer (some ⟨g3,0, none⟩)]) (fun _ => rfl) (fun _ _ => (wP rfl (wl_nil (we_then (wc_keep [2] (S' := [_]) rfl (wc_ret ?_))))))
  have hE := (Option.some.inj hm).symm
  cases hE
 rcases ite_some hm with ⟨hq12_7, hm⟩ | ⟨hq12_7, hm⟩
 ·
  refine wl_lookYesE (i := a0) (a := (.func (.func 47) #[] #[.pointer (some ⟨g3,0, none⟩)])) valRep_opens 0 rfl rfl rfl (freshS_eq rfl) rfl rfl rfl rfl tM_66 trivial (by rw [eq_of_beq hq12_7]; rfl) (u := fun _ => .func (.func 47) #[] #[.pointer (some ⟨g3,0, none⟩)]) (fun _ => rfl) (v := fun _ => .func (.func 47) #[] #[.pointer (some ⟨g3,0, none⟩)]) (fun _ => rfl) (fun _ _ => (wP rfl (wl_nil (we_then (wc_keep [2] (S' := [_]) rfl (wc_ret ?_))))))
  have hE := (Option.some.inj hm).symm
  cases hE
 rcases ite_some hm with ⟨hq12_8, hm⟩ | ⟨hq12_8, hm⟩
 ·
  refine wl_lookYesE (i := a0) (a := (.func (.func 48) #[] #[.pointer (some ⟨g3,0, none⟩)])) valRep_opens 0 rfl rfl rfl (freshS_eq rfl) rfl rfl rfl rfl tM_66 trivial (by rw [eq_of_beq hq12_8]; rfl) (u := fun _ => .func (.func 48) #[] #[.pointer (some ⟨g3,0, none⟩)]) (fun _ => rfl) (v := fun _ => .func (.func 48) #[] #[.pointer (some ⟨g3,0, none⟩)]) (fun _ => rfl) (fun _ _ => (wP rfl (wl_nil (we_then (wc_keep [2] (S' := [_]) rfl (wc_ret ?_))))))
  have hE := (Option.some.inj hm).symm
  cases hE
 ·
  refine wl_lookNoE (i := a0) 0 rfl rfl rfl (freshS_eq rfl) rfl rfl rfl rfl tZ_60 tM_66 trivial (by simp [mlook, (ne_of_beq_false hq12_0).symm, (ne_of_beq_false hq12_1).symm, (ne_of_beq_false hq12_2).symm, (ne_of_beq_false hq12_3).symm, (ne_of_beq_false hq12_4).symm, (ne_of_beq_false hq12_5).symm, (ne_of_beq_false hq12_6).symm, (ne_of_beq_false hq12_7).symm, (ne_of_beq_false hq12_8).symm]) (v := .nilFunc) rfl (wP rfl (wl_nil (we_then (wc_keep [2] (S' := [_]) rfl (wc_ret ?_)))))
  have hE := (Option.some.inj hm).symm
  cases hE
theorem w_value_does_s4 (N : Nat) (a0 : Int)  (hm : m_value_does N a0 = some (.inr (.inr (.inr (.inr (.inl ())))))) : Spec Tryd.prog 31 [.int .u8 a0] [] [] (fun v Φr Hr => ∃ (o0 : Nat), v = .func (.func 44) #[] #[.pointer (some ⟨o0,0, none⟩)] ∧ Φr = [] ∧ Hr = [.blk o0 [.func (.func 39) #[] #[]] 65]) := by
 unfold m_value_does at hm
 refine spec_of Tryd.func31 rfl Tryd.ntmps31 rfl (S := [_]) rfl (fun C => (wc_seq (wc_region (wP rfl (wl_nil (we_then (wc_keep [0] (S' := [_]) rfl (wc_seq (wc_region (wl_alloc rfl rfl rfl (freshS_eq rfl) rfl tZ_65 rfl (fun g3 => (wS 0 0 rfl tS_65 (all' := [_]) rfl (H' := [_]) rfl (wl_nil (we_then (wc_seq ?_)))))))))))))))
 refine wc_region (wl_makeMapE (keyInt (tInt_run tI_26)) false valRep rfl rfl rfl (freshS_eq rfl) rfl (fun g4 => (wl_mapPutE (i := 1) (u := .func (.func 40) #[] #[]) (cs := [.func (.func 40) #[] #[]]) 0 rfl rfl (.inr rfl) rfl rfl rfl rfl tM_66 trivial rfl (fun F w hφ => ⟨rfl, rfl⟩) (H' := [mapE (keyInt (tInt_run tI_26)) false valRep g4 ([(1, .func (.func 40) #[] #[])]), .blk g3 [.func (.func 39) #[] #[]] 65]) rfl (wl_mapPutE (i := 2) (u := .func (.func 41) #[] #[]) (cs := [.func (.func 41) #[] #[]]) 0 rfl rfl (.inr rfl) rfl rfl rfl rfl tM_66 trivial rfl (fun F w hφ => ⟨rfl, rfl⟩) (H' := [mapE (keyInt (tInt_run tI_26)) false valRep g4 ([(1, .func (.func 40) #[] #[]), (2, .func (.func 41) #[] #[])]), .blk g3 [.func (.func 39) #[] #[]] 65]) rfl (wl_mapPutE (i := 3) (u := .func (.func 42) #[] #[]) (cs := [.func (.func 42) #[] #[]]) 0 rfl rfl (.inr rfl) rfl rfl rfl rfl tM_66 trivial rfl (fun F w hφ => ⟨rfl, rfl⟩) (H' := [mapE (keyInt (tInt_run tI_26)) false valRep g4 ([(1, .func (.func 40) #[] #[]), (2, .func (.func 41) #[] #[]), (3, .func (.func 42) #[] #[])]), .blk g3 [.func (.func 39) #[] #[]] 65]) rfl (wl_mapPutE (i := 4) (u := .func (.func 43) #[] #[]) (cs := [.func (.func 43) #[] #[]]) 0 rfl rfl (.inr rfl) rfl rfl rfl rfl tM_66 trivial rfl (fun F w hφ => ⟨rfl, rfl⟩) (H' := [mapE (keyInt (tInt_run tI_26)) false valRep g4 ([(1, .func (.func 40) #[] #[]), (2, .func (.func 41) #[] #[]), (3, .func (.func 42) #[] #[]), (4, .func (.func 43) #[] #[])]), .blk g3 [.func (.func 39) #[] #[]] 65]) rfl (wl_makeFunc rfl rfl rfl (freshS_eq rfl) rfl rfl (wl_mapPutE (i := 7) (u := .func (.func 44) #[] #[.pointer (some ⟨g3,0, none⟩)]) (cs := [.func (.func 44) #[] #[.pointer (some ⟨g3,0, none⟩)]]) 0 rfl rfl (.inr rfl) rfl rfl rfl rfl tM_66 trivial rfl (fun F w hφ => ⟨rfl, rfl⟩) (H' := [mapE (keyInt (tInt_run tI_26)) false valRep g4 ([(1, .func (.func 40) #[] #[]), (2, .func (.func 41) #[] #[]), (3, .func (.func 42) #[] #[]), (4, .func (.func 43) #[] #[]), (7, .func (.func 44) #[] #[.pointer (some ⟨g3,0, none⟩)])]), .blk g3 [.func (.func 39) #[] #[]] 65]) rfl (wl_makeFunc rfl rfl rfl (freshS_eq rfl) rfl rfl (wl_mapPutE (i := 8) (u := .func (.func 45) #[] #[.pointer (some ⟨g3,0, none⟩)]) (cs := [.func (.func 45) #[] #[.pointer (some ⟨g3,0, none⟩)]]) 0 rfl rfl (.inr rfl) rfl rfl rfl rfl tM_66 trivial rfl (fun F w hφ => ⟨rfl, rfl⟩) (H' := [mapE (keyInt (tInt_run tI_26)) false valRep g4 ([(1, .func (.func 40) #[] #[]), (2, .func (.func 41) #[] #[]), (3, .func (.func 42) #[] #[]), (4, .func (.func 43) #[] #[]), (7, .func (.func 44) #[] #[.pointer (some ⟨g3,0, none⟩)]), (8, .func (.func 45) #[] #[.pointer (some ⟨g3,0, none⟩)])]), .blk g3 [.func (.func 39) #[] #[]] 65]) rfl (wl_makeFunc rfl rfl rfl (freshS_eq rfl) rfl rfl (wl_mapPutE (i := 9) (u := .func (.func 46) #[] #[.pointer (some ⟨g3,0, none⟩)]) (cs := [.func (.func 46) #[] #[.pointer (some ⟨g3,0, none⟩)]]) 0 rfl rfl (.inr rfl) rfl rfl rfl rfl tM_66 trivial rfl (fun F w hφ => ⟨rfl, rfl⟩) (H' := [mapE (keyInt (tInt_run tI_26)) false valRep g4 ([(1, .func (.func 40) #[] #[]), (2, .func (.func 41) #[] #[]), (3, .func (.func 42) #[] #[]), (4, .func (.func 43) #[] #[]), (7, .func (.func 44) #[] #[.pointer (some ⟨g3,0, none⟩)]), (8, .func (.func 45) #[] #[.pointer (some ⟨g3,0, none⟩)]), (9, .func (.func 46) #[] #[.pointer (some ⟨g3,0, none⟩)])]), .blk g3 [.func (.func 39) #[] #[]] 65]) rfl (wl_makeFunc rfl rfl rfl (freshS_eq rfl) rfl rfl (wl_mapPutE (i := 10) (u := .func (.func 47) #[] #[.pointer (some ⟨g3,0, none⟩)]) (cs := [.func (.func 47) #[] #[.pointer (some ⟨g3,0, none⟩)]]) 0 rfl rfl (.inr rfl) rfl rfl rfl rfl tM_66 trivial rfl (fun F w hφ => ⟨rfl, rfl⟩) (H' := [mapE (keyInt (tInt_run tI_26)) false valRep g4 ([(1, .func (.func 40) #[] #[]), (2, .func (.func 41) #[] #[]), (3, .func (.func 42) #[] #[]), (4, .func (.func 43) #[] #[]), (7, .func (.func 44) #[] #[.pointer (some ⟨g3,0, none⟩)]), (8, .func (.func 45) #[] #[.pointer (some ⟨g3,0, none⟩)]), (9, .func (.func 46) #[] #[.pointer (some ⟨g3,0, none⟩)]), (10, .func (.func 47) #[] #[.pointer (some ⟨g3,0, none⟩)])]), .blk g3 [.func (.func 39) #[] #[]] 65]) rfl ?_))))))))))))))
 refine wl_makeFunc rfl rfl rfl (freshS_eq rfl) rfl rfl (wl_mapPutE (i := 11) (u := .func (.func 48) #[] #[.pointer (some ⟨g3,0, none⟩)]) (cs := [.func (.func 48) #[] #[.pointer (some ⟨g3,0, none⟩)]]) 0 rfl rfl (.inr rfl) rfl rfl rfl rfl tM_66 trivial rfl (fun F w hφ => ⟨rfl, rfl⟩) (H' := [mapE (keyInt (tInt_run tI_26)) false valRep g4 ([(1, .func (.func 40) #[] #[]), (2, .func (.func 41) #[] #[]), (3, .func (.func 42) #[] #[]), (4, .func (.func 43) #[] #[]), (7, .func (.func 44) #[] #[.pointer (some ⟨g3,0, none⟩)]), (8, .func (.func 45) #[] #[.pointer (some ⟨g3,0, none⟩)]), (9, .func (.func 46) #[] #[.pointer (some ⟨g3,0, none⟩)]), (10, .func (.func 47) #[] #[.pointer (some ⟨g3,0, none⟩)]), (11, .func (.func 48) #[] #[.pointer (some ⟨g3,0, none⟩)])]), .blk g3 [.func (.func 39) #[] #[]] 65]) rfl (wP rfl (wP rfl ?_)))
 rcases ite_some hm with ⟨hq12_0, hm⟩ | ⟨hq12_0, hm⟩
 ·
  refine wl_lookYesE (i := a0) (a := (.func (.func 40) #[] #[])) valRep_opens 0 rfl rfl rfl (freshS_eq rfl) rfl rfl rfl rfl tM_66 trivial (by rw [eq_of_beq hq12_0]; rfl) (u := fun _ => .func (.func 40) #[] #[]) (fun _ => rfl) (v := fun _ => .func (.func 40) #[] #[]) (fun _ => rfl) (fun _ _ => (wP rfl (wl_nil (we_then (wc_keep [2] (S' := [_]) rfl (wc_ret ?_))))))
  have hE := (Option.some.inj hm).symm
  cases hE
 rcases ite_some hm with ⟨hq12_1, hm⟩ | ⟨hq12_1, hm⟩
 ·
  refine wl_lookYesE (i := a0) (a := (.func (.func 41) #[] #[])) valRep_opens 0 rfl rfl rfl (freshS_eq rfl) rfl rfl rfl rfl tM_66 trivial (by rw [eq_of_beq hq12_1]; rfl) (u := fun _ => .func (.func 41) #[] #[]) (fun _ => rfl) (v := fun _ => .func (.func 41) #[] #[]) (fun _ => rfl) (fun _ _ => (wP rfl (wl_nil (we_then (wc_keep [2] (S' := [_]) rfl (wc_ret ?_))))))
  have hE := (Option.some.inj hm).symm
  cases hE
 rcases ite_some hm with ⟨hq12_2, hm⟩ | ⟨hq12_2, hm⟩
 ·
  refine wl_lookYesE (i := a0) (a := (.func (.func 42) #[] #[])) valRep_opens 0 rfl rfl rfl (freshS_eq rfl) rfl rfl rfl rfl tM_66 trivial (by rw [eq_of_beq hq12_2]; rfl) (u := fun _ => .func (.func 42) #[] #[]) (fun _ => rfl) (v := fun _ => .func (.func 42) #[] #[]) (fun _ => rfl) (fun _ _ => (wP rfl (wl_nil (we_then (wc_keep [2] (S' := [_]) rfl (wc_ret ?_))))))
  have hE := (Option.some.inj hm).symm
  cases hE
 rcases ite_some hm with ⟨hq12_3, hm⟩ | ⟨hq12_3, hm⟩
 ·
  refine wl_lookYesE (i := a0) (a := (.func (.func 43) #[] #[])) valRep_opens 0 rfl rfl rfl (freshS_eq rfl) rfl rfl rfl rfl tM_66 trivial (by rw [eq_of_beq hq12_3]; rfl) (u := fun _ => .func (.func 43) #[] #[]) (fun _ => rfl) (v := fun _ => .func (.func 43) #[] #[]) (fun _ => rfl) (fun _ _ => (wP rfl (wl_nil (we_then (wc_keep [2] (S' := [_]) rfl (wc_ret ?_))))))
  have hE := (Option.some.inj hm).symm
  cases hE
 rcases ite_some hm with ⟨hq12_4, hm⟩ | ⟨hq12_4, hm⟩
 ·
  refine wl_lookYesE (i := a0) (a := (.func (.func 44) #[] #[.pointer (some ⟨g3,0, none⟩)])) valRep_opens 0 rfl rfl rfl (freshS_eq rfl) rfl rfl rfl rfl tM_66 trivial (by rw [eq_of_beq hq12_4]; rfl) (u := fun _ => .func (.func 44) #[] #[.pointer (some ⟨g3,0, none⟩)]) (fun _ => rfl) (v := fun _ => .func (.func 44) #[] #[.pointer (some ⟨g3,0, none⟩)]) (fun _ => rfl) (fun _ _ => (wP rfl (wl_nil (we_then (wc_keep [2] (S' := [_]) rfl (wc_ret ?_))))))
  have hE := (Option.some.inj hm).symm
  replace hE := Sum.inr.inj hE
  replace hE := Sum.inr.inj hE
  replace hE := Sum.inr.inj hE
  replace hE := Sum.inr.inj hE
  replace hE := Sum.inl.inj hE
  refine ret_one (Hr := [_]) [1] Tryd.results31 (res_tmp rfl) ⟨g3, rfl, rfl, rfl⟩ (asK [] rfl) rfl rfl (.inl rfl)
 rcases ite_some hm with ⟨hq12_5, hm⟩ | ⟨hq12_5, hm⟩
 ·
  refine wl_lookYesE (i := a0) (a := (.func (.func 45) #[] #[.pointer (some ⟨g3,0, none⟩)])) valRep_opens 0 rfl rfl rfl (freshS_eq rfl) rfl rfl rfl rfl tM_66 trivial (by rw [eq_of_beq hq12_5]; rfl) (u := fun _ => .func (.func 45) #[] #[.pointer (some ⟨g3,0, none⟩)]) (fun _ => rfl) (v := fun _ => .func (.func 45) #[] #[.pointer (some ⟨g3,0, none⟩)]) (fun _ => rfl) (fun _ _ => (wP rfl (wl_nil (we_then (wc_keep [2] (S' := [_]) rfl (wc_ret ?_))))))
  have hE := (Option.some.inj hm).symm
  cases hE
 rcases ite_some hm with ⟨hq12_6, hm⟩ | ⟨hq12_6, hm⟩
 ·
  refine wl_lookYesE (i := a0) (a := (.func (.func 46) #[] #[.pointer (some ⟨g3,0, none⟩)])) valRep_opens 0 rfl rfl rfl (freshS_eq rfl) rfl rfl rfl rfl tM_66 trivial (by rw [eq_of_beq hq12_6]; rfl) (u := fun _ => .func (.func 46) #[] #[.pointer (some ⟨g3,0, none⟩)]) (fun _ => rfl) (v := fun _ => .func (.func 46) #[] #[.pointer (some ⟨g3,0, none⟩)]) (fun _ => rfl) (fun _ _ => (wP rfl (wl_nil (we_then (wc_keep [2] (S' := [_]) rfl (wc_ret ?_))))))
  have hE := (Option.some.inj hm).symm
  cases hE
 rcases ite_some hm with ⟨hq12_7, hm⟩ | ⟨hq12_7, hm⟩
 ·
  refine wl_lookYesE (i := a0) (a := (.func (.func 47) #[] #[.pointer (some ⟨g3,0, none⟩)])) valRep_opens 0 rfl rfl rfl (freshS_eq rfl) rfl rfl rfl rfl tM_66 trivial (by rw [eq_of_beq hq12_7]; rfl) (u := fun _ => .func (.func 47) #[] #[.pointer (some ⟨g3,0, none⟩)]) (fun _ => rfl) (v := fun _ => .func (.func 47) #[] #[.pointer (some ⟨g3,0, none⟩)]) (fun _ => rfl) (fun _ _ => (wP rfl (wl_nil (we_then (wc_keep [2] (S' := [_]) rfl (wc_ret ?_))))))
  have hE := (Option.some.inj hm).symm
  cases hE
 rcases ite_some hm with ⟨hq12_8, hm⟩ | ⟨hq12_8, hm⟩
 ·
  refine wl_lookYesE (i := a0) (a := (.func (.func 48) #[] #[.pointer (some ⟨g3,0, none⟩)])) valRep_opens 0 rfl rfl rfl (freshS_eq rfl) rfl rfl rfl rfl tM_66 trivial (by rw [eq_of_beq hq12_8]; rfl) (u := fun _ => .func (.func 48) #[] #[.pointer (some ⟨g3,0, none⟩)]) (fun _ => rfl) (v := fun _ => .func (.func 48) #[] #[.pointer (some ⟨g3,0, none⟩)]) (fun _ => rfl) (fun _ _ => (wP rfl (wl_nil (we_then (wc_keep [2] (S' := [_]) rfl (wc_ret ?_))))))
  have hE := (Option.some.inj hm).symm
  cases hE
 ·
  refine wl_lookNoE (i := a0) 0 rfl rfl rfl (freshS_eq rfl) rfl rfl rfl rfl tZ_60 tM_66 trivial (by simp [mlook, (ne_of_beq_false hq12_0).symm, (ne_of_beq_false hq12_1).symm, (ne_of_beq_false hq12_2).symm, (ne_of_beq_false hq12_3).symm, (ne_of_beq_false hq12_4).symm, (ne_of_beq_false hq12_5).symm, (ne_of_beq_false hq12_6).symm, (ne_of_beq_false hq12_7).symm, (ne_of_beq_false hq12_8).symm]) (v := .nilFunc) rfl (wP rfl (wl_nil (we_then (wc_keep [2] (S' := [_]) rfl (wc_ret ?_)))))
  have hE := (Option.some.inj hm).symm
  cases hE
theorem w_value_does_s5 (N : Nat) (a0 : Int)  (hm : m_value_does N a0 = some (.inr (.inr (.inr (.inr (.inr (.inl ()))))))) : Spec Tryd.prog 31 [.int .u8 a0] [] [] (fun v Φr Hr => ∃ (o0 : Nat), v = .func (.func 45) #[] #[.pointer (some ⟨o0,0, none⟩)] ∧ Φr = [] ∧ Hr = [.blk o0 [.func (.func 39) #[] #[]] 65]) := by
 unfold m_value_does at hm
 refine spec_of Tryd.func31 rfl Tryd.ntmps31 rfl (S := [_]) rfl (fun C => (wc_seq (wc_region (wP rfl (wl_nil (we_then (wc_keep [0] (S' := [_]) rfl (wc_seq (wc_region (wl_alloc rfl rfl rfl (freshS_eq rfl) rfl tZ_65 rfl (fun g3 => (wS 0 0 rfl tS_65 (all' := [_]) rfl (H' := [_]) rfl (wl_nil (we_then (wc_seq ?_)))))))))))))))
 refine wc_region (wl_makeMapE (keyInt (tInt_run tI_26)) false valRep rfl rfl rfl (freshS_eq rfl) rfl (fun g4 => (wl_mapPutE (i := 1) (u := .func (.func 40) #[] #[]) (cs := [.func (.func 40) #[] #[]]) 0 rfl rfl (.inr rfl) rfl rfl rfl rfl tM_66 trivial rfl (fun F w hφ => ⟨rfl, rfl⟩) (H' := [mapE (keyInt (tInt_run tI_26)) false valRep g4 ([(1, .func (.func 40) #[] #[])]), .blk g3 [.func (.func 39) #[] #[]] 65]) rfl (wl_mapPutE (i := 2) (u := .func (.func 41) #[] #[]) (cs := [.func (.func 41) #[] #[]]) 0 rfl rfl (.inr rfl) rfl rfl rfl rfl tM_66 trivial rfl (fun F w hφ => ⟨rfl, rfl⟩) (H' := [mapE (keyInt (tInt_run tI_26)) false valRep g4 ([(1, .func (.func 40) #[] #[]), (2, .func (.func 41) #[] #[])]), .blk g3 [.func (.func 39) #[] #[]] 65]) rfl (wl_mapPutE (i := 3) (u := .func (.func 42) #[] #[]) (cs := [.func (.func 42) #[] #[]]) 0 rfl rfl (.inr rfl) rfl rfl rfl rfl tM_66 trivial rfl (fun F w hφ => ⟨rfl, rfl⟩) (H' := [mapE (keyInt (tInt_run tI_26)) false valRep g4 ([(1, .func (.func 40) #[] #[]), (2, .func (.func 41) #[] #[]), (3, .func (.func 42) #[] #[])]), .blk g3 [.func (.func 39) #[] #[]] 65]) rfl (wl_mapPutE (i := 4) (u := .func (.func 43) #[] #[]) (cs := [.func (.func 43) #[] #[]]) 0 rfl rfl (.inr rfl) rfl rfl rfl rfl tM_66 trivial rfl (fun F w hφ => ⟨rfl, rfl⟩) (H' := [mapE (keyInt (tInt_run tI_26)) false valRep g4 ([(1, .func (.func 40) #[] #[]), (2, .func (.func 41) #[] #[]), (3, .func (.func 42) #[] #[]), (4, .func (.func 43) #[] #[])]), .blk g3 [.func (.func 39) #[] #[]] 65]) rfl (wl_makeFunc rfl rfl rfl (freshS_eq rfl) rfl rfl (wl_mapPutE (i := 7) (u := .func (.func 44) #[] #[.pointer (some ⟨g3,0, none⟩)]) (cs := [.func (.func 44) #[] #[.pointer (some ⟨g3,0, none⟩)]]) 0 rfl rfl (.inr rfl) rfl rfl rfl rfl tM_66 trivial rfl (fun F w hφ => ⟨rfl, rfl⟩) (H' := [mapE (keyInt (tInt_run tI_26)) false valRep g4 ([(1, .func (.func 40) #[] #[]), (2, .func (.func 41) #[] #[]), (3, .func (.func 42) #[] #[]), (4, .func (.func 43) #[] #[]), (7, .func (.func 44) #[] #[.pointer (some ⟨g3,0, none⟩)])]), .blk g3 [.func (.func 39) #[] #[]] 65]) rfl (wl_makeFunc rfl rfl rfl (freshS_eq rfl) rfl rfl (wl_mapPutE (i := 8) (u := .func (.func 45) #[] #[.pointer (some ⟨g3,0, none⟩)]) (cs := [.func (.func 45) #[] #[.pointer (some ⟨g3,0, none⟩)]]) 0 rfl rfl (.inr rfl) rfl rfl rfl rfl tM_66 trivial rfl (fun F w hφ => ⟨rfl, rfl⟩) (H' := [mapE (keyInt (tInt_run tI_26)) false valRep g4 ([(1, .func (.func 40) #[] #[]), (2, .func (.func 41) #[] #[]), (3, .func (.func 42) #[] #[]), (4, .func (.func 43) #[] #[]), (7, .func (.func 44) #[] #[.pointer (some ⟨g3,0, none⟩)]), (8, .func (.func 45) #[] #[.pointer (some ⟨g3,0, none⟩)])]), .blk g3 [.func (.func 39) #[] #[]] 65]) rfl (wl_makeFunc rfl rfl rfl (freshS_eq rfl) rfl rfl (wl_mapPutE (i := 9) (u := .func (.func 46) #[] #[.pointer (some ⟨g3,0, none⟩)]) (cs := [.func (.func 46) #[] #[.pointer (some ⟨g3,0, none⟩)]]) 0 rfl rfl (.inr rfl) rfl rfl rfl rfl tM_66 trivial rfl (fun F w hφ => ⟨rfl, rfl⟩) (H' := [mapE (keyInt (tInt_run tI_26)) false valRep g4 ([(1, .func (.func 40) #[] #[]), (2, .func (.func 41) #[] #[]), (3, .func (.func 42) #[] #[]), (4, .func (.func 43) #[] #[]), (7, .func (.func 44) #[] #[.pointer (some ⟨g3,0, none⟩)]), (8, .func (.func 45) #[] #[.pointer (some ⟨g3,0, none⟩)]), (9, .func (.func 46) #[] #[.pointer (some ⟨g3,0, none⟩)])]), .blk g3 [.func (.func 39) #[] #[]] 65]) rfl (wl_makeFunc rfl rfl rfl (freshS_eq rfl) rfl rfl (wl_mapPutE (i := 10) (u := .func (.func 47) #[] #[.pointer (some ⟨g3,0, none⟩)]) (cs := [.func (.func 47) #[] #[.pointer (some ⟨g3,0, none⟩)]]) 0 rfl rfl (.inr rfl) rfl rfl rfl rfl tM_66 trivial rfl (fun F w hφ => ⟨rfl, rfl⟩) (H' := [mapE (keyInt (tInt_run tI_26)) false valRep g4 ([(1, .func (.func 40) #[] #[]), (2, .func (.func 41) #[] #[]), (3, .func (.func 42) #[] #[]), (4, .func (.func 43) #[] #[]), (7, .func (.func 44) #[] #[.pointer (some ⟨g3,0, none⟩)]), (8, .func (.func 45) #[] #[.pointer (some ⟨g3,0, none⟩)]), (9, .func (.func 46) #[] #[.pointer (some ⟨g3,0, none⟩)]), (10, .func (.func 47) #[] #[.pointer (some ⟨g3,0, none⟩)])]), .blk g3 [.func (.func 39) #[] #[]] 65]) rfl ?_))))))))))))))
 refine wl_makeFunc rfl rfl rfl (freshS_eq rfl) rfl rfl (wl_mapPutE (i := 11) (u := .func (.func 48) #[] #[.pointer (some ⟨g3,0, none⟩)]) (cs := [.func (.func 48) #[] #[.pointer (some ⟨g3,0, none⟩)]]) 0 rfl rfl (.inr rfl) rfl rfl rfl rfl tM_66 trivial rfl (fun F w hφ => ⟨rfl, rfl⟩) (H' := [mapE (keyInt (tInt_run tI_26)) false valRep g4 ([(1, .func (.func 40) #[] #[]), (2, .func (.func 41) #[] #[]), (3, .func (.func 42) #[] #[]), (4, .func (.func 43) #[] #[]), (7, .func (.func 44) #[] #[.pointer (some ⟨g3,0, none⟩)]), (8, .func (.func 45) #[] #[.pointer (some ⟨g3,0, none⟩)]), (9, .func (.func 46) #[] #[.pointer (some ⟨g3,0, none⟩)]), (10, .func (.func 47) #[] #[.pointer (some ⟨g3,0, none⟩)]), (11, .func (.func 48) #[] #[.pointer (some ⟨g3,0, none⟩)])]), .blk g3 [.func (.func 39) #[] #[]] 65]) rfl (wP rfl (wP rfl ?_)))
 rcases ite_some hm with ⟨hq12_0, hm⟩ | ⟨hq12_0, hm⟩
 ·
  refine wl_lookYesE (i := a0) (a := (.func (.func 40) #[] #[])) valRep_opens 0 rfl rfl rfl (freshS_eq rfl) rfl rfl rfl rfl tM_66 trivial (by rw [eq_of_beq hq12_0]; rfl) (u := fun _ => .func (.func 40) #[] #[]) (fun _ => rfl) (v := fun _ => .func (.func 40) #[] #[]) (fun _ => rfl) (fun _ _ => (wP rfl (wl_nil (we_then (wc_keep [2] (S' := [_]) rfl (wc_ret ?_))))))
  have hE := (Option.some.inj hm).symm
  cases hE
 rcases ite_some hm with ⟨hq12_1, hm⟩ | ⟨hq12_1, hm⟩
 ·
  refine wl_lookYesE (i := a0) (a := (.func (.func 41) #[] #[])) valRep_opens 0 rfl rfl rfl (freshS_eq rfl) rfl rfl rfl rfl tM_66 trivial (by rw [eq_of_beq hq12_1]; rfl) (u := fun _ => .func (.func 41) #[] #[]) (fun _ => rfl) (v := fun _ => .func (.func 41) #[] #[]) (fun _ => rfl) (fun _ _ => (wP rfl (wl_nil (we_then (wc_keep [2] (S' := [_]) rfl (wc_ret ?_))))))
  have hE := (Option.some.inj hm).symm
  cases hE
 rcases ite_some hm with ⟨hq12_2, hm⟩ | ⟨hq12_2, hm⟩
 ·
  refine wl_lookYesE (i := a0) (a := (.func (.func 42) #[] #[])) valRep_opens 0 rfl rfl rfl (freshS_eq rfl) rfl rfl rfl rfl tM_66 trivial (by rw [eq_of_beq hq12_2]; rfl) (u := fun _ => .func (.func 42) #[] #[]) (fun _ => rfl) (v := fun _ => .func (.func 42) #[] #[]) (fun _ => rfl) (fun _ _ => (wP rfl (wl_nil (we_then (wc_keep [2] (S' := [_]) rfl (wc_ret ?_))))))
  have hE := (Option.some.inj hm).symm
  cases hE
 rcases ite_some hm with ⟨hq12_3, hm⟩ | ⟨hq12_3, hm⟩
 ·
  refine wl_lookYesE (i := a0) (a := (.func (.func 43) #[] #[])) valRep_opens 0 rfl rfl rfl (freshS_eq rfl) rfl rfl rfl rfl tM_66 trivial (by rw [eq_of_beq hq12_3]; rfl) (u := fun _ => .func (.func 43) #[] #[]) (fun _ => rfl) (v := fun _ => .func (.func 43) #[] #[]) (fun _ => rfl) (fun _ _ => (wP rfl (wl_nil (we_then (wc_keep [2] (S' := [_]) rfl (wc_ret ?_))))))
  have hE := (Option.some.inj hm).symm
  cases hE
 rcases ite_some hm with ⟨hq12_4, hm⟩ | ⟨hq12_4, hm⟩
 ·
  refine wl_lookYesE (i := a0) (a := (.func (.func 44) #[] #[.pointer (some ⟨g3,0, none⟩)])) valRep_opens 0 rfl rfl rfl (freshS_eq rfl) rfl rfl rfl rfl tM_66 trivial (by rw [eq_of_beq hq12_4]; rfl) (u := fun _ => .func (.func 44) #[] #[.pointer (some ⟨g3,0, none⟩)]) (fun _ => rfl) (v := fun _ => .func (.func 44) #[] #[.pointer (some ⟨g3,0, none⟩)]) (fun _ => rfl) (fun _ _ => (wP rfl (wl_nil (we_then (wc_keep [2] (S' := [_]) rfl (wc_ret ?_))))))
  have hE := (Option.some.inj hm).symm
  cases hE
 rcases ite_some hm with ⟨hq12_5, hm⟩ | ⟨hq12_5, hm⟩
 ·
  refine wl_lookYesE (i := a0) (a := (.func (.func 45) #[] #[.pointer (some ⟨g3,0, none⟩)])) valRep_opens 0 rfl rfl rfl (freshS_eq rfl) rfl rfl rfl rfl tM_66 trivial (by rw [eq_of_beq hq12_5]; rfl) (u := fun _ => .func (.func 45) #[] #[.pointer (some ⟨g3,0, none⟩)]) (fun _ => rfl) (v := fun _ => .func (.func 45) #[] #[.pointer (some ⟨g3,0, none⟩)]) (fun _ => rfl) (fun _ _ => (wP rfl (wl_nil (we_then (wc_keep [2] (S' := [_]) rfl (wc_ret ?_))))))
  have hE := (Option.some.inj hm).symm
  replace hE := Sum.inr.inj hE
  replace hE := Sum.inr.inj hE
  replace hE := Sum.inr.inj hE
  replace hE := Sum.inr.inj hE
  replace hE := Sum.inr.inj hE
  replace hE := Sum.inl.inj hE
  refine ret_one (Hr := [_]) [1] Tryd.results31 (res_tmp rfl) ⟨g3, rfl, rfl, rfl⟩ (asK [] rfl) rfl rfl (.inl rfl)
 rcases ite_some hm with ⟨hq12_6, hm⟩ | ⟨hq12_6, hm⟩
 ·
  refine wl_lookYesE (i := a0) (a := (.func (.func 46) #[] #[.pointer (some ⟨g3,0, none⟩)])) valRep_opens 0 rfl rfl rfl (freshS_eq rfl) rfl rfl rfl rfl tM_66 trivial (by rw [eq_of_beq hq12_6]; rfl) (u := fun _ => .func (.func 46) #[] #[.pointer (some ⟨g3,0, none⟩)]) (fun _ => rfl) (v := fun _ => .func (.func 46) #[] #[.pointer (some ⟨g3,0, none⟩)]) (fun _ => rfl) (fun _ _ => (wP rfl (wl_nil (we_then (wc_keep [2] (S' := [_]) rfl (wc_ret ?_))))))
  have hE := (Option.some.inj hm).symm
  cases hE
 rcases ite_some hm with ⟨hq12_7, hm⟩ | ⟨hq12_7, hm⟩
 ·
  refine wl_lookYesE (i := a0) (a := (.func (.func 47) #[] #[.pointer (some ⟨g3,0, none⟩)])) valRep_opens 0 rfl rfl rfl (freshS_eq rfl) rfl rfl rfl rfl tM_66 trivial (by rw [eq_of_beq hq12_7]; rfl) (u := fun _ => .func (.func 47) #[] #[.pointer (some ⟨g3,0, none⟩)]) (fun _ => rfl) (v := fun _ => .func (.func 47) #[] #[.pointer (some ⟨g3,0, none⟩)]) (fun _ => rfl) (fun _ _ => (wP rfl (wl_nil (we_then (wc_keep [2] (S' := [_]) rfl (wc_ret ?_))))))
  have hE := (Option.some.inj hm).symm
  cases hE
 rcases ite_some hm with ⟨hq12_8, hm⟩ | ⟨hq12_8, hm⟩
 ·
  refine wl_lookYesE (i := a0) (a := (.func (.func 48) #[] #[.pointer (some ⟨g3,0, none⟩)])) valRep_opens 0 rfl rfl rfl (freshS_eq rfl) rfl rfl rfl rfl tM_66 trivial (by rw [eq_of_beq hq12_8]; rfl) (u := fun _ => .func (.func 48) #[] #[.pointer (some ⟨g3,0, none⟩)]) (fun _ => rfl) (v := fun _ => .func (.func 48) #[] #[.pointer (some ⟨g3,0, none⟩)]) (fun _ => rfl) (fun _ _ => (wP rfl (wl_nil (we_then (wc_keep [2] (S' := [_]) rfl (wc_ret ?_))))))
  have hE := (Option.some.inj hm).symm
  cases hE
 ·
  refine wl_lookNoE (i := a0) 0 rfl rfl rfl (freshS_eq rfl) rfl rfl rfl rfl tZ_60 tM_66 trivial (by simp [mlook, (ne_of_beq_false hq12_0).symm, (ne_of_beq_false hq12_1).symm, (ne_of_beq_false hq12_2).symm, (ne_of_beq_false hq12_3).symm, (ne_of_beq_false hq12_4).symm, (ne_of_beq_false hq12_5).symm, (ne_of_beq_false hq12_6).symm, (ne_of_beq_false hq12_7).symm, (ne_of_beq_false hq12_8).symm]) (v := .nilFunc) rfl (wP rfl (wl_nil (we_then (wc_keep [2] (S' := [_]) rfl (wc_ret ?_)))))
  have hE := (Option.some.inj hm).symm
  cases hE
theorem w_value_does_s6 (N : Nat) (a0 : Int)  (hm : m_value_does N a0 = some (.inr (.inr (.inr (.inr (.inr (.inr (.inl ())))))))) : Spec Tryd.prog 31 [.int .u8 a0] [] [] (fun v Φr Hr => ∃ (o0 : Nat), v = .func (.func 46) #[] #[.pointer (some ⟨o0,0, none⟩)] ∧ Φr = [] ∧ Hr = [.blk o0 [.func (.func 39) #[] #[]] 65]) := by
 unfold m_value_does at hm
 refine spec_of Tryd.func31 rfl Tryd.ntmps31 rfl (S := [_]) rfl (fun C => (wc_seq (wc_region (wP rfl (wl_nil (we_then (wc_keep [0] (S' := [_]) rfl (wc_seq (wc_region (wl_alloc rfl rfl rfl (freshS_eq rfl) rfl tZ_65 rfl (fun g3 => (wS 0 0 rfl tS_65 (all' := [_]) rfl (H' := [_]) rfl (wl_nil (we_then (wc_seq ?_)))))))))))))))
 refine wc_region (wl_makeMapE (keyInt (tInt_run tI_26)) false valRep rfl rfl rfl (freshS_eq rfl) rfl (fun g4 => (wl_mapPutE (i := 1) (u := .func (.func 40) #[] #[]) (cs := [.func (.func 40) #[] #[]]) 0 rfl rfl (.inr rfl) rfl rfl rfl rfl tM_66 trivial rfl (fun F w hφ => ⟨rfl, rfl⟩) (H' := [mapE (keyInt (tInt_run tI_26)) false valRep g4 ([(1, .func (.func 40) #[] #[])]), .blk g3 [.func (.func 39) #[] #[]] 65]) rfl (wl_mapPutE (i := 2) (u := .func (.func 41) #[] #[]) (cs := [.func (.func 41) #[] #[]]) 0 rfl rfl (.inr rfl) rfl rfl rfl rfl tM_66 trivial rfl (fun F w hφ => ⟨rfl, rfl⟩) (H' := [mapE (keyInt (tInt_run tI_26)) false valRep g4 ([(1, .func (.func 40) #[] #[]), (2, .func (.func 41) #[] #[])]), .blk g3 [.func (.func 39) #[] #[]] 65]) rfl (wl_mapPutE (i := 3) (u := .func (.func 42) #[] #[]) (cs := [.func (.func 42) #[] #[]]) 0 rfl rfl (.inr rfl) rfl rfl rfl rfl tM_66 trivial rfl (fun F w hφ => ⟨rfl, rfl⟩) (H' := [mapE (keyInt (tInt_run tI_26)) false valRep g4 ([(1, .func (.func 40) #[] #[]), (2, .func (.func 41) #[] #[]), (3, .func (.func 42) #[] #[])]), .blk g3 [.func (.func 39) #[] #[]] 65]) rfl (wl_mapPutE (i := 4) (u := .func (.func 43) #[] #[]) (cs := [.func (.func 43) #[] #[]]) 0 rfl rfl (.inr rfl) rfl rfl rfl rfl tM_66 trivial rfl (fun F w hφ => ⟨rfl, rfl⟩) (H' := [mapE (keyInt (tInt_run tI_26)) false valRep g4 ([(1, .func (.func 40) #[] #[]), (2, .func (.func 41) #[] #[]), (3, .func (.func 42) #[] #[]), (4, .func (.func 43) #[] #[])]), .blk g3 [.func (.func 39) #[] #[]] 65]) rfl (wl_makeFunc rfl rfl rfl (freshS_eq rfl) rfl rfl (wl_mapPutE (i := 7) (u := .func (.func 44) #[] #[.pointer (some ⟨g3,0, none⟩)]) (cs := [.func (.func 44) #[] #[.pointer (some ⟨g3,0, none⟩)]]) 0 rfl rfl (.inr rfl) rfl rfl rfl rfl tM_66 trivial rfl (fun F w hφ => ⟨rfl, rfl⟩) (H' := [mapE (keyInt (tInt_run tI_26)) false valRep g4 ([(1, .func (.func 40) #[] #[]), (2, .func (.func 41) #[] #[]), (3, .func (.func 42) #[] #[]), (4, .func (.func 43) #[] #[]), (7, .func (.func 44) #[] #[.pointer (some ⟨g3,0, none⟩)])]), .blk g3 [.func (.func 39) #[] #[]] 65]) rfl (wl_makeFunc rfl rfl rfl (freshS_eq rfl) rfl rfl (wl_mapPutE (i := 8) (u := .func (.func 45) #[] #[.pointer (some ⟨g3,0, none⟩)]) (cs := [.func (.func 45) #[] #[.pointer (some ⟨g3,0, none⟩)]]) 0 rfl rfl (.inr rfl) rfl rfl rfl rfl tM_66 trivial rfl (fun F w hφ => ⟨rfl, rfl⟩) (H' := [mapE (keyInt (tInt_run tI_26)) false valRep g4 ([(1, .func (.func 40) #[] #[]), (2, .func (.func 41) #[] #[]), (3, .func (.func 42) #[] #[]), (4, .func (.func 43) #[] #[]), (7, .func (.func 44) #[] #[.pointer (some ⟨g3,0, none⟩)]), (8, .func (.func 45) #[] #[.pointer (some ⟨g3,0, none⟩)])]), .blk g3 [.func (.func 39) #[] #[]] 65]) rfl (wl_makeFunc rfl rfl rfl (freshS_eq rfl) rfl rfl (wl_mapPutE (i := 9) (u := .func (.func 46) #[] #[.pointer (some ⟨g3,0, none⟩)]) (cs := [.func (.func 46) #[] #[.pointer (some ⟨g3,0, none⟩)]]) 0 rfl rfl (.inr rfl) rfl rfl rfl rfl tM_66 trivial rfl (fun F w hφ => ⟨rfl, rfl⟩) (H' := [mapE (keyInt (tInt_run tI_26)) false valRep g4 ([(1, .func (.func 40) #[] #[]), (2, .func (.func 41) #[] #[]), (3, .func (.func 42) #[] #[]), (4, .func (.func 43) #[] #[]), (7, .func (.func 44) #[] #[.pointer (some ⟨g3,0, none⟩)]), (8, .func (.func 45) #[] #[.pointer (some ⟨g3,0, none⟩)]), (9, .func (.func 46) #[] #[.pointer (some ⟨g3,0, none⟩)])]), .blk g3 [.func (.func 39) #[] #[]] 65]) rfl (wl_makeFunc rfl rfl rfl (freshS_eq rfl) rfl rfl (wl_mapPutE (i := 10) (u := .func (.func 47) #[] #[.pointer (some ⟨g3,0, none⟩)]) (cs := [.func (.func 47) #[] #[.pointer (some ⟨g3,0, none⟩)]]) 0 rfl rfl (.inr rfl) rfl rfl rfl rfl tM_66 trivial rfl (fun F w hφ => ⟨rfl, rfl⟩) (H' := [mapE (keyInt (tInt_run tI_26)) false valRep g4 ([(1, .func (.func 40) #[] #[]), (2, .func (.func 41) #[] #[]), (3, .func (.func 42) #[] #[]), (4, .func (.func 43) #[] #[]), (7, .func (.func 44) #[] #[.pointer (some ⟨g3,0, none⟩)]), (8, .func (.func 45) #[] #[.pointer (some ⟨g3,0, none⟩)]), (9, .func (.func 46) #[] #[.pointer (some ⟨g3,0, none⟩)]), (10, .func (.func 47) #[] #[.pointer (some ⟨g3,0, none⟩)])]), .blk g3 [.func (.func 39) #[] #[]] 65]) rfl ?_))))))))))))))
 refine wl_makeFunc rfl rfl rfl (freshS_eq rfl) rfl rfl (wl_mapPutE (i := 11) (u := .func (.func 48) #[] #[.pointer (some ⟨g3,0, none⟩)]) (cs := [.func (.func 48) #[] #[.pointer (some ⟨g3,0, none⟩)]]) 0 rfl rfl (.inr rfl) rfl rfl rfl rfl tM_66 trivial rfl (fun F w hφ => ⟨rfl, rfl⟩) (H' := [mapE (keyInt (tInt_run tI_26)) false valRep g4 ([(1, .func (.func 40) #[] #[]), (2, .func (.func 41) #[] #[]), (3, .func (.func 42) #[] #[]), (4, .func (.func 43) #[] #[]), (7, .func (.func 44) #[] #[.pointer (some ⟨g3,0, none⟩)]), (8, .func (.func 45) #[] #[.pointer (some ⟨g3,0, none⟩)]), (9, .func (.func 46) #[] #[.pointer (some ⟨g3,0, none⟩)]), (10, .func (.func 47) #[] #[.pointer (some ⟨g3,0, none⟩)]), (11, .func (.func 48) #[] #[.pointer (some ⟨g3,0, none⟩)])]), .blk g3 [.func (.func 39) #[] #[]] 65]) rfl (wP rfl (wP rfl ?_)))
 rcases ite_some hm with ⟨hq12_0, hm⟩ | ⟨hq12_0, hm⟩
 ·
  refine wl_lookYesE (i := a0) (a := (.func (.func 40) #[] #[])) valRep_opens 0 rfl rfl rfl (freshS_eq rfl) rfl rfl rfl rfl tM_66 trivial (by rw [eq_of_beq hq12_0]; rfl) (u := fun _ => .func (.func 40) #[] #[]) (fun _ => rfl) (v := fun _ => .func (.func 40) #[] #[]) (fun _ => rfl) (fun _ _ => (wP rfl (wl_nil (we_then (wc_keep [2] (S' := [_]) rfl (wc_ret ?_))))))
  have hE := (Option.some.inj hm).symm
  cases hE
 rcases ite_some hm with ⟨hq12_1, hm⟩ | ⟨hq12_1, hm⟩
 ·
  refine wl_lookYesE (i := a0) (a := (.func (.func 41) #[] #[])) valRep_opens 0 rfl rfl rfl (freshS_eq rfl) rfl rfl rfl rfl tM_66 trivial (by rw [eq_of_beq hq12_1]; rfl) (u := fun _ => .func (.func 41) #[] #[]) (fun _ => rfl) (v := fun _ => .func (.func 41) #[] #[]) (fun _ => rfl) (fun _ _ => (wP rfl (wl_nil (we_then (wc_keep [2] (S' := [_]) rfl (wc_ret ?_))))))
  have hE := (Option.some.inj hm).symm
  cases hE
 rcases ite_some hm with ⟨hq12_2, hm⟩ | ⟨hq12_2, hm⟩
 ·
  refine wl_lookYesE (i := a0) (a := (.func (.func 42) #[] #[])) valRep_opens 0 rfl rfl rfl (freshS_eq rfl) rfl rfl rfl rfl tM_66 trivial (by rw [eq_of_beq hq12_2]; rfl) (u := fun _ => .func (.func 42) #[] #[]) (fun _ => rfl) (v := fun _ => .func (.func 42) #[] #[]) (fun _ => rfl) (fun _ _ => (wP rfl (wl_nil (we_then (wc_keep [2] (S' := [_]) rfl (wc_ret ?_))))))
  have hE := (Option.some.inj hm).symm
  cases hE
 rcases ite_some hm with ⟨hq12_3, hm⟩ | ⟨hq12_3, hm⟩
 ·
  refine wl_lookYesE (i := a0) (a := (.func (.func 43) #[] #[])) valRep_opens 0 rfl rfl rfl (freshS_eq rfl) rfl rfl rfl rfl tM_66 trivial (by rw [eq_of_beq hq12_3]; rfl) (u := fun _ => .func (.func 43) #[] #[]) (fun _ => rfl) (v := fun _ => .func (.func 43) #[] #[]) (fun _ => rfl) (fun _ _ => (wP rfl (wl_nil (we_then (wc_keep [2] (S' := [_]) rfl (wc_ret ?_))))))
  have hE := (Option.some.inj hm).symm
  cases hE
 rcases ite_some hm with ⟨hq12_4, hm⟩ | ⟨hq12_4, hm⟩
 ·
  refine wl_lookYesE (i := a0) (a := (.func (.func 44) #[] #[.pointer (some ⟨g3,0, none⟩)])) valRep_opens 0 rfl rfl rfl (freshS_eq rfl) rfl rfl rfl rfl tM_66 trivial (by rw [eq_of_beq hq12_4]; rfl) (u := fun _ => .func (.func 44) #[] #[.pointer (some ⟨g3,0, none⟩)]) (fun _ => rfl) (v := fun _ => .func (.func 44) #[] #[.pointer (some ⟨g3,0, none⟩)]) (fun _ => rfl) (fun _ _ => (wP rfl (wl_nil (we_then (wc_keep [2] (S' := [_]) rfl (wc_ret ?_))))))
  have hE := (Option.some.inj hm).symm
  cases hE
 rcases ite_some hm with ⟨hq12_5, hm⟩ | ⟨hq12_5, hm⟩
 ·
  refine wl_lookYesE (i := a0) (a := (.func (.func 45) #[] #[.pointer (some ⟨g3,0, none⟩)])) valRep_opens 0 rfl rfl rfl (freshS_eq rfl) rfl rfl rfl rfl tM_66 trivial (by rw [eq_of_beq hq12_5]; rfl) (u := fun _ => .func (.func 45) #[] #[.pointer (some ⟨g3,0, none⟩)]) (fun _ => rfl) (v := fun _ => .func (.func 45) #[] #[.pointer (some ⟨g3,0, none⟩)]) (fun _ => rfl) (fun _ _ => (wP rfl (wl_nil (we_then (wc_keep [2] (S' := [_]) rfl (wc_ret ?_))))))
  have hE := (Option.some.inj hm).symm
  cases hE
 rcases ite_some hm with ⟨hq12_6, hm⟩ | ⟨hq12_6, hm⟩
 ·
  refine wl_lookYesE (i := a0) (a := (.func (.func 46) #[] #[.pointer (some ⟨g3,0, none⟩)])) valRep_opens 0 rfl rfl rfl (freshS_eq rfl) rfl rfl rfl rfl tM_66 trivial (by rw [eq_of_beq hq12_6]; rfl) (u := fun _ => .func (.func 46) #[] #[.pointer (some ⟨g3,0, none⟩)]) (fun _ => rfl) (v := fun _ => .func (.func 46) #[] #[.pointer (some ⟨g3,0, none⟩)]) (fun _ => rfl) (fun _ _ => (wP rfl (wl_nil (we_then (wc_keep [2] (S' := [_]) rfl (wc_ret ?_))))))
  have hE := (Option.some.inj hm).symm
  replace hE := Sum.inr.inj hE
  replace hE := Sum.inr.inj hE
  replace hE := Sum.inr.inj hE
  replace hE := Sum.inr.inj hE
  replace hE := Sum.inr.inj hE
  replace hE := Sum.inr.inj hE
  replace hE := Sum.inl.inj hE
  refine ret_one (Hr := [_]) [1] Tryd.results31 (res_tmp rfl) ⟨g3, rfl, rfl, rfl⟩ (asK [] rfl) rfl rfl (.inl rfl)
 rcases ite_some hm with ⟨hq12_7, hm⟩ | ⟨hq12_7, hm⟩
 ·
  refine wl_lookYesE (i := a0) (a := (.func (.func 47) #[] #[.pointer (some ⟨g3,0, none⟩)])) valRep_opens 0 rfl rfl rfl (freshS_eq rfl) rfl rfl rfl rfl tM_66 trivial (by rw [eq_of_beq hq12_7]; rfl) (u := fun _ => .func (.func 47) #[] #[.pointer (some ⟨g3,0, none⟩)]) (fun _ => rfl) (v := fun _ => .func (.func 47) #[] #[.pointer (some ⟨g3,0, none⟩)]) (fun _ => rfl) (fun _ _ => (wP rfl (wl_nil (we_then (wc_keep [2] (S' := [_]) rfl (wc_ret ?_))))))
  have hE := (Option.some.inj hm).symm
  cases hE
 rcases ite_some hm with ⟨hq12_8, hm⟩ | ⟨hq12_8, hm⟩
 ·
  refine wl_lookYesE (i := a0) (a := (.func (.func 48) #[] #[.pointer (some ⟨g3,0, none⟩)])) valRep_opens 0 rfl rfl rfl (freshS_eq rfl) rfl rfl rfl rfl tM_66 trivial (by rw [eq_of_beq hq12_8]; rfl) (u := fun _ => .func (.func 48) #[] #[.pointer (some ⟨g3,0, none⟩)]) (fun _ => rfl) (v := fun _ => .func (.func 48) #[] #[.pointer (some ⟨g3,0, none⟩)]) (fun _ => rfl) (fun _ _ => (wP rfl (wl_nil (we_then (wc_keep [2] (S' := [_]) rfl (wc_ret ?_))))))
  have hE := (Option.some.inj hm).symm
  cases hE
 ·
  refine wl_lookNoE (i := a0) 0 rfl rfl rfl (freshS_eq rfl) rfl rfl rfl rfl tZ_60 tM_66 trivial (by simp [mlook, (ne_of_beq_false hq12_0).symm, (ne_of_beq_false hq12_1).symm, (ne_of_beq_false hq12_2).symm, (ne_of_beq_false hq12_3).symm, (ne_of_beq_false hq12_4).symm, (ne_of_beq_false hq12_5).symm, (ne_of_beq_false hq12_6).symm, (ne_of_beq_false hq12_7).symm, (ne_of_beq_false hq12_8).symm]) (v := .nilFunc) rfl (wP rfl (wl_nil (we_then (wc_keep [2] (S' := [_]) rfl (wc_ret ?_)))))
  have hE := (Option.some.inj hm).symm
  cases hE
theorem w_value_does_s7 (N : Nat) (a0 : Int)  (hm : m_value_does N a0 = some (.inr (.inr (.inr (.inr (.inr (.inr (.inr (.inl ()))))))))) : Spec Tryd.prog 31 [.int .u8 a0] [] [] (fun v Φr Hr => ∃ (o0 : Nat), v = .func (.func 47) #[] #[.pointer (some ⟨o0,0, none⟩)] ∧ Φr = [] ∧ Hr = [.blk o0 [.func (.func 39) #[] #[]] 65]) := by
 unfold m_value_does at hm
 refine spec_of Tryd.func31 rfl Tryd.ntmps31 rfl (S := [_]) rfl (fun C => (wc_seq (wc_region (wP rfl (wl_nil (we_then (wc_keep [0] (S' := [_]) rfl (wc_seq (wc_region (wl_alloc rfl rfl rfl (freshS_eq rfl) rfl tZ_65 rfl (fun g3 => (wS 0 0 rfl tS_65 (all' := [_]) rfl (H' := [_]) rfl (wl_nil (we_then (wc_seq ?_)))))))))))))))
 refine wc_region (wl_makeMapE (keyInt (tInt_run tI_26)) false valRep rfl rfl rfl (freshS_eq rfl) rfl (fun g4 => (wl_mapPutE (i := 1) (u := .func (.func 40) #[] #[]) (cs := [.func (.func 40) #[] #[]]) 0 rfl rfl (.inr rfl) rfl rfl rfl rfl tM_66 trivial rfl (fun F w hφ => ⟨rfl, rfl⟩) (H' := [mapE (keyInt (tInt_run tI_26)) false valRep g4 ([(1, .func (.func 40) #[] #[])]), .blk g3 [.func (.func 39) #[] #[]] 65]) rfl (wl_mapPutE (i := 2) (u := .func (.func 41) #[] #[]) (cs := [.func (.func 41) #[] #[]]) 0 rfl rfl (.inr rfl) rfl rfl rfl rfl tM_66 trivial rfl (fun F w hφ => ⟨rfl, rfl⟩) (H' := [mapE (keyInt (tInt_run tI_26)) false valRep g4 ([(1, .func (.func 40) #[] #[]), (2, .func (.func 41) #[] #[])]), .blk g3 [.func (.func 39) #[] #[]] 65]) rfl (wl_mapPutE (i := 3) (u := .func (.func 42) #[] #[]) (cs := [.func (.func 42) #[] #[]]) 0 rfl rfl (.inr rfl) rfl rfl rfl rfl tM_66 trivial rfl (fun F w hφ => ⟨rfl, rfl⟩) (H' := [mapE (keyInt (tInt_run tI_26)) false valRep g4 ([(1, .func (.func 40) #[] #[]), (2, .func (.func 41) #[] #[]), (3, .func (.func 42) #[] #[])]), .blk g3 [.func (.func 39) #[] #[]] 65]) rfl (wl_mapPutE (i := 4) (u := .func (.func 43) #[] #[]) (cs := [.func (.func 43) #[] #[]]) 0 rfl rfl (.inr rfl) rfl rfl rfl rfl tM_66 trivial rfl (fun F w hφ => ⟨rfl, rfl⟩) (H' := [mapE (keyInt (tInt_run tI_26)) false valRep g4 ([(1, .func (.func 40) #[] #[]), (2, .func (.func 41) #[] #[]), (3, .func (.func 42) #[] #[]), (4, .func (.func 43) #[] #[])]), .blk g3 [.func (.func 39) #[] #[]] 65]) rfl (wl_makeFunc rfl rfl rfl (freshS_eq rfl) rfl rfl (wl_mapPutE (i := 7) (u := .func (.func 44) #[] #[.pointer (some ⟨g3,0, none⟩)]) (cs := [.func (.func 44) #[] #[.pointer (some ⟨g3,0, none⟩)]]) 0 rfl rfl (.inr rfl) rfl rfl rfl rfl tM_66 trivial rfl (fun F w hφ => ⟨rfl, rfl⟩) (H' := [mapE (keyInt (tInt_run tI_26)) false valRep g4 ([(1, .func (.func 40) #[] #[]), (2, .func (.func 41) #[] #[]), (3, .func (.func 42) #[] #[]), (4, .func (.func 43) #[] #[]), (7, .func (.func 44) #[] #[.pointer (some ⟨g3,0, none⟩)])]), .blk g3 [.func (.func 39) #[] #[]] 65]) rfl (wl_makeFunc rfl rfl rfl (freshS_eq rfl) rfl rfl (wl_mapPutE (i := 8) (u := .func (.func 45) #[] #[.pointer (some ⟨g3,0, none⟩)]) (cs := [.func (.func 45) #[] #[.pointer (some ⟨g3,0, none⟩)]]) 0 rfl rfl (.inr rfl) rfl rfl rfl rfl tM_66 trivial rfl (fun F w hφ => ⟨rfl, rfl⟩) (H' := [mapE (keyInt (tInt_run tI_26)) false valRep g4 ([(1, .func (.func 40) #[] #[]), (2, .func (.func 41) #[] #[]), (3, .func (.func 42) #[] #[]), (4, .func (.func 43) #[] #[]), (7, .func (.func 44) #[] #[.pointer (some ⟨g3,0, none⟩)]), (8, .func (.func 45) #[] #[.pointer (some ⟨g3,0, none⟩)])]), .blk g3 [.func (.func 39) #[] #[]] 65]) rfl (wl_makeFunc rfl rfl rfl (freshS_eq rfl) rfl rfl (wl_mapPutE (i := 9) (u := .func (.func 46) #[] #[.pointer (some ⟨g3,0, none⟩)]) (cs := [.func (.func 46) #[] #[.pointer (some ⟨g3,0, none⟩)]]) 0 rfl rfl (.inr rfl) rfl rfl rfl rfl tM_66 trivial rfl (fun F w hφ => ⟨rfl, rfl⟩) (H' := [mapE (keyInt (tInt_run tI_26)) false valRep g4 ([(1, .func (.func 40) #[] #[]), (2, .func (.func 41) #[] #[]), (3, .func (.func 42) #[] #[]), (4, .func (.func 43) #[] #[]), (7, .func (.func 44) #[] #[.pointer (some ⟨g3,0, none⟩)]), (8, .func (.func 45) #[] #[.pointer (some ⟨g3,0, none⟩)]), (9, .func (.func 46) #[] #[.pointer (some ⟨g3,0, none⟩)])]), .blk g3 [.func (.func 39) #[] #[]] 65]) rfl (wl_makeFunc rfl rfl rfl (freshS_eq rfl) rfl rfl (wl_mapPutE (i := 10) (u := .func (.func 47) #[] #[.pointer (some ⟨g3,0, none⟩)]) (cs := [.func (.func 47) #[] #[.pointer (some ⟨g3,0, none⟩)]]) 0 rfl rfl (.inr rfl) rfl rfl rfl rfl tM_66 trivial rfl (fun F w hφ => ⟨rfl, rfl⟩) (H' := [mapE (keyInt (tInt_run tI_26)) false valRep g4 ([(1, .func (.func 40) #[] #[]), (2, .func (.func 41) #[] #[]), (3, .func (.func 42) #[] #[]), (4, .func (.func 43) #[] #[]), (7, .func (.func 44) #[] #[.pointer (some ⟨g3,0, none⟩)]), (8, .func (.func 45) #[] #[.pointer (some ⟨g3,0, none⟩)]), (9, .func (.func 46) #[] #[.pointer (some ⟨g3,0, none⟩)]), (10, .func (.func 47) #[] #[.pointer (some ⟨g3,0, none⟩)])]), .blk g3 [.func (.func 39) #[] #[]] 65]) rfl ?_))))))))))))))
 refine wl_makeFunc rfl rfl rfl (freshS_eq rfl) rfl rfl (wl_mapPutE (i := 11) (u := .func (.func 48) #[] #[.pointer (some ⟨g3,0, none⟩)]) (cs := [.func (.func 48) #[] #[.pointer (some ⟨g3,0, none⟩)]]) 0 rfl rfl (.inr rfl) rfl rfl rfl rfl tM_66 trivial rfl (fun F w hφ => ⟨rfl, rfl⟩) (H' := [mapE (keyInt (tInt_run tI_26)) false valRep g4 ([(1, .func (.func 40) #[] #[]), (2, .func (.func 41) #[] #[]), (3, .func (.func 42) #[] #[]), (4, .func (.func 43) #[] #[]), (7, .func (.func 44) #[] #[.pointer (some ⟨g3,0, none⟩)]), (8, .func (.func 45) #[] #[.pointer (some ⟨g3,0, none⟩)]), (9, .func (.func 46) #[] #[.pointer (some ⟨g3,0, none⟩)]), (10, .func (.func 47) #[] #[.pointer (some ⟨g3,0, none⟩)]), (11, .func (.func 48) #[] #[.pointer (some ⟨g3,0, none⟩)])]), .blk g3 [.func (.func 39) #[] #[]] 65]) rfl (wP rfl (wP rfl ?_)))
 rcases ite_some hm with ⟨hq12_0, hm⟩ | ⟨hq12_0, hm⟩
 ·
  refine wl_lookYesE (i := a0) (a := (.func (.func 40) #[] #[])) valRep_opens 0 rfl rfl rfl (freshS_eq rfl) rfl rfl rfl rfl tM_66 trivial (by rw [eq_of_beq hq12_0]; rfl) (u := fun _ => .func (.func 40) #[] #[]) (fun _ => rfl) (v := fun _ => .func (.func 40) #[] #[]) (fun _ => rfl) (fun _ _ => (wP rfl (wl_nil (we_then (wc_keep [2] (S' := [_]) rfl (wc_ret ?_))))))
  have hE := (Option.some.inj hm).symm
  cases hE
 rcases ite_some hm with ⟨hq12_1, hm⟩ | ⟨hq12_1, hm⟩
 ·
  refine wl_lookYesE (i := a0) (a := (.func (.func 41) #[] #[])) valRep_opens 0 rfl rfl rfl (freshS_eq rfl) rfl rfl rfl rfl tM_66 trivial (by rw [eq_of_beq hq12_1]; rfl) (u := fun _ => .func (.func 41) #[] #[]) (fun _ => rfl) (v := fun _ => .func (.func 41) #[] #[]) (fun _ => rfl) (fun _ _ => (wP rfl (wl_nil (we_then (wc_keep [2] (S' := [_]) rfl (wc_ret ?_))))))
  have hE := (Option.some.inj hm).symm
  cases hE
 rcases ite_some hm with ⟨hq12_2, hm⟩ | ⟨hq12_2, hm⟩
 ·
  refine wl_lookYesE (i := a0) (a := (.func (.func 42) #[] #[])) valRep_opens 0 rfl rfl rfl (freshS_eq rfl) rfl rfl rfl rfl tM_66 trivial (by rw [eq_of_beq hq12_2]; rfl) (u := fun _ => .func (.func 42) #[] #[]) (fun _ => rfl) (v := fun _ => .func (.func 42) #[] #[]) (fun _ => rfl) (fun _ _ => (wP rfl (wl_nil (we_then (wc_keep [2] (S' := [_]) rfl (wc_ret ?_))))))
  have hE := (Option.some.inj hm).symm
  cases hE
 rcases ite_some hm with ⟨hq12_3, hm⟩ | ⟨hq12_3, hm⟩
 ·
  refine wl_lookYesE (i := a0) (a := (.func (.func 43) #[] #[])) valRep_opens 0 rfl rfl rfl (freshS_eq rfl) rfl rfl rfl rfl tM_66 trivial (by rw [eq_of_beq hq12_3]; rfl) (u := fun _ => .func (.func 43) #[] #[]) (fun _ => rfl) (v := fun _ => .func (.func 43) #[] #[]) (fun _ => rfl) (fun _ _ => (wP rfl (wl_nil (we_then (wc_keep [2] (S' := [_]) rfl (wc_ret ?_))))))
  have hE := (Option.some.inj hm).symm
  cases hE
 rcases ite_some hm with ⟨hq12_4, hm⟩ | ⟨hq12_4, hm⟩
 ·
  refine wl_lookYesE (i := a0) (a := (.func (.func 44) #[] #[.pointer (some ⟨g3,0, none⟩)])) valRep_opens 0 rfl rfl rfl (freshS_eq rfl) rfl rfl rfl rfl tM_66 trivial (by rw [eq_of_beq hq12_4]; rfl) (u := fun _ => .func (.func 44) #[] #[.pointer (some ⟨g3,0, none⟩)]) (fun _ => rfl) (v := fun _ => .func (.func 44) #[] #[.pointer (some ⟨g3,0, none⟩)]) (fun _ => rfl) (fun _ _ => (wP rfl (wl_nil (we_then (wc_keep [2] (S' := [_]) rfl (wc_ret ?_))))))
  have hE := (Option.some.inj hm).symm
  cases hE
 rcases ite_some hm with ⟨hq12_5, hm⟩ | ⟨hq12_5, hm⟩
 ·
  refine wl_lookYesE (i := a0) (a := (.func (.func 45) #[] #[.pointer (some ⟨g3,0, none⟩)])) valRep_opens 0 rfl rfl rfl (freshS_eq rfl) rfl rfl rfl rfl tM_66 trivial (by rw [eq_of_beq hq12_5]; rfl) (u := fun _ => .func (.func 45) #[] #[.pointer (some ⟨g3,0, none⟩)]) (fun _ => rfl) (v := fun _ => .func (.func 45) #[] #[.pointer (some ⟨g3,0, none⟩)]) (fun _ => rfl) (fun _ _ => (wP rfl (wl_nil (we_then (wc_keep [2] (S' := [_]) rfl (wc_ret ?_))))))
  have hE := (Option.some.inj hm).symm
  cases hE
 rcases ite_some hm with ⟨hq12_6, hm⟩ | ⟨hq12_6, hm⟩
 ·
  refine wl_lookYesE (i := a0) (a := (.func (.func 46) #[] #[.pointer (some ⟨g3,0, none⟩)])) valRep_opens 0 rfl rfl rfl (freshS_eq rfl) rfl rfl rfl rfl tM_66 trivial (by rw [eq_of_beq hq12_6]; rfl) (u := fun _ => .func (.func 46) #[] #[.pointer (some ⟨g3,0, none⟩)]) (fun _ => rfl) (v := fun _ => .func (.func 46) #[] #[.pointer (some ⟨g3,0, none⟩)]) (fun _ => rfl) (fun _ _ => (wP rfl (wl_nil (we_then (wc_keep [2] (S' := [_]) rfl (wc_ret ?_))))))
  have hE := (Option.some.inj hm).symm
  cases hE
 rcases ite_some hm with ⟨hq12_7, hm⟩ | ⟨hq12_7, hm⟩
 ·
  refine wl_lookYesE (i := a0) (a := (.func (.func 47) #[] #[.pointer (some ⟨g3,0, none⟩)])) valRep_opens 0 rfl rfl rfl (freshS_eq rfl) rfl rfl rfl rfl tM_66 trivial (by rw [eq_of_beq hq12_7]; rfl) (u := fun _ => .func (.func 47) #[] #[.pointer (some ⟨g3,0, none⟩)]) (fun _ => rfl) (v := fun _ => .func (.func 47) #[] #[.pointer (some ⟨g3,0, none⟩)]) (fun _ => rfl) (fun _ _ => (wP rfl (wl_nil (we_then (wc_keep [2] (S' := [_]) rfl (wc_ret ?_))))))
  have hE := (Option.some.inj hm).symm
  replace hE := Sum.inr.inj hE
  replace hE := Sum.inr.inj hE
  replace hE := Sum.inr.inj hE
  replace hE := Sum.inr.inj hE
  replace hE := Sum.inr.inj hE
  replace hE := Sum.inr.inj hE
  replace hE := Sum.inr.inj hE
  replace hE := Sum.inl.inj hE
  refine ret_one (Hr := [_]) [1] Tryd.results31 (res_tmp rfl) ⟨g3, rfl, rfl, rfl⟩ (asK [] rfl) rfl rfl (.inl rfl)
 rcases ite_some hm with ⟨hq12_8, hm⟩ | ⟨hq12_8, hm⟩
 ·
  refine wl_lookYesE (i := a0) (a := (.func (.func 48) #[] #[.pointer (some ⟨g3,0, none⟩)])) valRep_opens 0 rfl rfl rfl (freshS_eq rfl) rfl rfl rfl rfl tM_66 trivial (by rw [eq_of_beq hq12_8]; rfl) (u := fun _ => .func (.func 48) #[] #[.pointer (some ⟨g3,0, none⟩)]) (fun _ => rfl) (v := fun _ => .func (.func 48) #[] #[.pointer (some ⟨g3,0, none⟩)]) (fun _ => rfl) (fun _ _ => (wP rfl (wl_nil (we_then (wc_keep [2] (S' := [_]) rfl (wc_ret ?_))))))
  have hE := (Option.some.inj hm).symm
  cases hE
 ·
  refine wl_lookNoE (i := a0) 0 rfl rfl rfl (freshS_eq rfl) rfl rfl rfl rfl tZ_60 tM_66 trivial (by simp [mlook, (ne_of_beq_false hq12_0).symm, (ne_of_beq_false hq12_1).symm, (ne_of_beq_false hq12_2).symm, (ne_of_beq_false hq12_3).symm, (ne_of_beq_false hq12_4).symm, (ne_of_beq_false hq12_5).symm, (ne_of_beq_false hq12_6).symm, (ne_of_beq_false hq12_7).symm, (ne_of_beq_false hq12_8).symm]) (v := .nilFunc) rfl (wP rfl (wl_nil (we_then (wc_keep [2] (S' := [_]) rfl (wc_ret ?_)))))
  have hE := (Option.some.inj hm).symm
  cases hE
theorem w_value_does_s8 (N : Nat) (a0 : Int)  (hm : m_value_does N a0 = some (.inr (.inr (.inr (.inr (.inr (.inr (.inr (.inr (.inl ())))))))))) : Spec Tryd.prog 31 [.int .u8 a0] [] [] (fun v Φr Hr => ∃ (o0 : Nat), v = .func (.func 48) #[] #[.pointer (some ⟨o0,0, none⟩)] ∧ Φr = [] ∧ Hr = [.blk o0 [.func (.func 39) #[] #[]] 65]) := by
 unfold m_value_does at hm
 refine spec_of Tryd.func31 rfl Tryd.ntmps31 rfl (S := [_]) rfl (fun C => (wc_seq (wc_region (wP rfl (wl_nil (we_then (wc_keep [0] (S' := [_]) rfl (wc_seq (wc_region (wl_alloc rfl rfl rfl (freshS_eq rfl) rfl tZ_65 rfl (fun g3 => (wS 0 0 rfl tS_65 (all' := [_]) rfl (H' := [_]) rfl (wl_nil (we_then (wc_seq ?_)))))))))))))))
 refine wc_region (wl_makeMapE (keyInt (tInt_run tI_26)) false valRep rfl rfl rfl (freshS_eq rfl) rfl (fun g4 => (wl_mapPutE (i := 1) (u := .func (.func 40) #[] #[]) (cs := [.func (.func 40) #[] #[]]) 0 rfl rfl (.inr rfl) rfl rfl rfl rfl tM_66 trivial rfl (fun F w hφ => ⟨rfl, rfl⟩) (H' := [mapE (keyInt (tInt_run tI_26)) false valRep g4 ([(1, .func (.func 40) #[] #[])]), .blk g3 [.func (.func 39) #[] #[]] 65]) rfl (wl_mapPutE (i := 2) (u := .func (.func 41) #[] #[]) (cs := [.func (.func 41) #[] #[]]) 0 rfl rfl (.inr rfl) rfl rfl rfl rfl tM_66 trivial rfl (fun F w hφ => ⟨rfl, rfl⟩) (H' := [mapE (keyInt (tInt_run tI_26)) false valRep g4 ([(1, .func (.func 40) #[] #[]), (2, .func (.func 41) #[] #[])]), .blk g3 [.func (.func 39) #[] #[]] 65]) rfl (wl_mapPutE (i := 3) (u := .func (.func 42) #[] #[]) (cs := [.func (.func 42) #[] #[]]) 0 rfl rfl (.inr rfl) rfl rfl rfl rfl tM_66 trivial rfl (fun F w hφ => ⟨rfl, rfl⟩) (H' := [mapE (keyInt (tInt_run tI_26)) false valRep g4 ([(1, .func (.func 40) #[] #[]), (2, .func (.func 41) #[] #[]), (3, .func (.func 42) #[] #[])]), .blk g3 [.func (.func 39) #[] #[]] 65]) rfl (wl_mapPutE (i := 4) (u := .func (.func 43) #[] #[]) (cs := [.func (.func 43) #[] #[]]) 0 rfl rfl (.inr rfl) rfl rfl rfl rfl tM_66 trivial rfl (fun F w hφ => ⟨rfl, rfl⟩) (H' := [mapE (keyInt (tInt_run tI_26)) false valRep g4 ([(1, .func (.func 40) #[] #[]), (2, .func (.func 41) #[] #[]), (3, .func (.func 42) #[] #[]), (4, .func (.func 43) #[] #[])]), .blk g3 [.func (.func 39) #[] #[]] 65]) rfl (wl_makeFunc rfl rfl rfl (freshS_eq rfl) rfl rfl (wl_mapPutE (i := 7) (u := .func (.func 44) #[] #[.pointer (some ⟨g3,0, none⟩)]) (cs := [.func (.func 44) #[] #[.pointer (some ⟨g3,0, none⟩)]]) 0 rfl rfl (.inr rfl) rfl rfl rfl rfl tM_66 trivial rfl (fun F w hφ => ⟨rfl, rfl⟩) (H' := [mapE (keyInt (tInt_run tI_26)) false valRep g4 ([(1, .func (.func 40) #[] #[]), (2, .func (.func 41) #[] #[]), (3, .func (.func 42) #[] #[]), (4, .func (.func 43) #[] #[]), (7, .func (.func 44) #[] #[.pointer (some ⟨g3,0, none⟩)])]), .blk g3 [.func (.func 39) #[] #[]] 65]) rfl (wl_makeFunc rfl rfl rfl (freshS_eq rfl) rfl rfl (wl_mapPutE (i := 8) (u := .func (.func 45) #[] #[.pointer (some ⟨g3,0, none⟩)]) (cs := [.func (.func 45) #[] #[.pointer (some ⟨g3,0, none⟩)]]) 0 rfl rfl (.inr rfl) rfl rfl rfl rfl tM_66 trivial rfl (fun F w hφ => ⟨rfl, rfl⟩) (H' := [mapE (keyInt (tInt_run tI_26)) false valRep g4 ([(1, .func (.func 40) #[] #[]), (2, .func (.func 41) #[] #[]), (3, .func (.func 42) #[] #[]), (4, .func (.func 43) #[] #[]), (7, .func (.func 44) #[] #[.pointer (some ⟨g3,0, none⟩)]), (8, .func (.func 45) #[] #[.pointer (some ⟨g3,0, none⟩)])]), .blk g3 [.func (.func 39) #[] #[]] 65]) rfl (wl_makeFunc rfl rfl rfl (freshS_eq rfl) rfl rfl (wl_mapPutE (i := 9) (u := .func (.func 46) #[] #[.pointer (some ⟨g3,0, none⟩)]) (cs := [.func (.func 46) #[] #[.pointer (some ⟨g3,0, none⟩)]]) 0 rfl rfl (.inr rfl) rfl rfl rfl rfl tM_66 trivial rfl (fun F w hφ => ⟨rfl, rfl⟩) (H' := [mapE (keyInt (tInt_run tI_26)) false valRep g4 ([(1, .func (.func 40) #[] #[]), (2, .func (.func 41) #[] #[]), (3, .func (.func 42) #[] #[]), (4, .func (.func 43) #[] #[]), (7, .func (.func 44) #[] #[.pointer (some ⟨g3,0, none⟩)]), (8, .func (.func 45) #[] #[.pointer (some ⟨g3,0, none⟩)]), (9, .func (.func 46) #[] #[.pointer (some ⟨g3,0, none⟩)])]), .blk g3 [.func (.func 39) #[] #[]] 65]) rfl (wl_makeFunc rfl rfl rfl (freshS_eq rfl) rfl rfl (wl_mapPutE (i := 10) (u := .func (.func 47) #[] #[.pointer (some ⟨g3,0, none⟩)]) (cs := [.func (.func 47) #[] #[.pointer (some ⟨g3,0, none⟩)]]) 0 rfl rfl (.inr rfl) rfl rfl rfl rfl tM_66 trivial rfl (fun F w hφ => ⟨rfl, rfl⟩) (H' := [mapE (keyInt (tInt_run tI_26)) false valRep g4 ([(1, .func (.func 40) #[] #[]), (2, .func (.func 41) #[] #[]), (3, .func (.func 42) #[] #[]), (4, .func (.func 43) #[] #[]), (7, .func (.func 44) #[] #[.pointer (some ⟨g3,0, none⟩)]), (8, .func (.func 45) #[] #[.pointer (some ⟨g3,0, none⟩)]), (9, .func (.func 46) #[] #[.pointer (some ⟨g3,0, none⟩)]), (10, .func (.func 47) #[] #[.pointer (some ⟨g3,0, none⟩)])]), .blk g3 [.func (.func 39) #[] #[]] 65]) rfl ?_))))))))))))))
 refine wl_makeFunc rfl rfl rfl (freshS_eq rfl) rfl rfl (wl_mapPutE (i := 11) (u := .func (.func 48) #[] #[.pointer (some ⟨g3,0, none⟩)]) (cs := [.func (.func 48) #[] #[.pointer (some ⟨g3,0, none⟩)]]) 0 rfl rfl (.inr rfl) rfl rfl rfl rfl tM_66 trivial rfl (fun F w hφ => ⟨rfl, rfl⟩) (H' := [mapE (keyInt (tInt_run tI_26)) false valRep g4 ([(1, .func (.func 40) #[] #[]), (2, .func (.func 41) #[] #[]), (3, .func (.func 42) #[] #[]), (4, .func (.func 43) #[] #[]), (7, .func (.func 44) #[] #[.pointer (some ⟨g3,0, none⟩)]), (8, .func (.func 45) #[] #[.pointer (some ⟨g3,0, none⟩)]), (9, .func (.func 46) #[] #[.pointer (some ⟨g3,0, none⟩)]), (10, .func (.func 47) #[] #[.pointer (some ⟨g3,0, none⟩)]), (11, .func (.func 48) #[] #[.pointer (some ⟨g3,0, none⟩)])]), .blk g3 [.func (.func 39) #[] #[]] 65]) rfl (wP rfl (wP rfl ?_)))
 rcases ite_some hm with ⟨hq12_0, hm⟩ | ⟨hq12_0, hm⟩
 ·
  refine wl_lookYesE (i := a0) (a := (.func (.func 40) #[] #[])) valRep_opens 0 rfl rfl rfl (freshS_eq rfl) rfl rfl rfl rfl tM_66 trivial (by rw [eq_of_beq hq12_0]; rfl) (u := fun _ => .func (.func 40) #[] #[]) (fun _ => rfl) (v := fun _ => .func (.func 40) #[] #[]) (fun _ => rfl) (fun _ _ => (wP rfl (wl_nil (we_then (wc_keep [2] (S' := [_]) rfl (wc_ret ?_))))))
  have hE := (Option.some.inj hm).symm
  cases hE
 rcases ite_some hm with ⟨hq12_1, hm⟩ | ⟨hq12_1, hm⟩
 ·
  refine wl_lookYesE (i := a0) (a := (.func (.func 41) #[] #[])) valRep_opens 0 rfl rfl rfl (freshS_eq rfl) rfl rfl rfl rfl tM_66 trivial (by rw [eq_of_beq hq12_1]; rfl) (u := fun _ => .func (.func 41) #[] #[]) (fun _ => rfl) (v := fun _ => .func (.func 41) #[] #[]) (fun _ => rfl) (fun _ _ => (wP rfl (wl_nil (we_then (wc_keep [2] (S' := [_]) rfl (wc_ret ?_))))))
  have hE := (Option.some.inj hm).symm
  cases hE
 rcases ite_some hm with ⟨hq12_2, hm⟩ | ⟨hq12_2, hm⟩
 ·
  refine wl_lookYesE (i := a0) (a := (.func (.func 42) #[] #[])) valRep_opens 0 rfl rfl rfl (freshS_eq rfl) rfl rfl rfl rfl tM_66 trivial (by rw [eq_of_beq hq12_2]; rfl) (u := fun _ => .func (.func 42) #[] #[]) (fun _ => rfl) (v := fun _ => .func (.func 42) #[] #[]) (fun _ => rfl) (fun _ _ => (wP rfl (wl_nil (we_then (wc_keep [2] (S' := [_]) rfl (wc_ret ?_))))))
  have hE := (Option.some.inj hm).symm
  cases hE
 rcases ite_some hm with ⟨hq12_3, hm⟩ | ⟨hq12_3, hm⟩
 ·
  refine wl_lookYesE (i := a0) (a := (.func (.func 43) #[] #[])) valRep_opens 0 rfl rfl rfl (freshS_eq rfl) rfl rfl rfl rfl tM_66 trivial (by rw [eq_of_beq hq12_3]; rfl) (u := fun _ => .func (.func 43) #[] #[]) (fun _ => rfl) (v := fun _ => .func (.func 43) #[] #[]) (fun _ => rfl) (fun _ _ => (wP rfl (wl_nil (we_then (wc_keep [2] (S' := [_]) rfl (wc_ret ?_))))))
  have hE := (Option.some.inj hm).symm
  cases hE
 rcases ite_some hm with ⟨hq12_4, hm⟩ | ⟨hq12_4, hm⟩
 ·
  refine wl_lookYesE (i := a0) (a := (.func (.func 44) #[] #[.pointer (some ⟨g3,0, none⟩)])) valRep_opens 0 rfl rfl rfl (freshS_eq rfl) rfl rfl rfl rfl tM_66 trivial (by rw [eq_of_beq hq12_4]; rfl) (u := fun _ => .func (.func 44) #[] #[.pointer (some ⟨g3,0, none⟩)]) (fun _ => rfl) (v := fun _ => .func (.func 44) #[] #[.pointer (some ⟨g3,0, none⟩)]) (fun _ => rfl) (fun _ _ => (wP rfl (wl_nil (we_then (wc_keep [2] (S' := [_]) rfl (wc_ret ?_))))))
  have hE := (Option.some.inj hm).symm
  cases hE
 rcases ite_some hm with ⟨hq12_5, hm⟩ | ⟨hq12_5, hm⟩
 ·
  refine wl_lookYesE (i := a0) (a := (.func (.func 45) #[] #[.pointer (some ⟨g3,0, none⟩)])) valRep_opens 0 rfl rfl rfl (freshS_eq rfl) rfl rfl rfl rfl tM_66 trivial (by rw [eq_of_beq hq12_5]; rfl) (u := fun _ => .func (.func 45) #[] #[.pointer (some ⟨g3,0, none⟩)]) (fun _ => rfl) (v := fun _ => .func (.func 45) #[] #[.pointer (some ⟨g3,0, none⟩)]) (fun _ => rfl) (fun _ _ => (wP rfl (wl_nil (we_then (wc_keep [2] (S' := [_]) rfl (wc_ret ?_))))))
  have hE := (Option.some.inj hm).symm
  cases hE
 rcases ite_some hm with ⟨hq12_6, hm⟩ | ⟨hq12_6, hm⟩
 ·
  refine wl_lookYesE (i := a0) (a := (.func (.func 46) #[] #[.pointer (some ⟨g3,0, none⟩)])) valRep_opens 0 rfl rfl rfl (freshS_eq rfl) rfl rfl rfl rfl tM_66 trivial (by rw [eq_of_beq hq12_6]; rfl) (u := fun _ => .func (.func 46) #[] #[.pointer (some ⟨g3,0, none⟩)]) (fun _ => rfl) (v := fun _ => .func (.func 46) #[] #[.pointer (some ⟨g3,0, none⟩)]) (fun _ => rfl) (fun _ _ => (wP rfl (wl_nil (we_then (wc_keep [2] (S' := [_]) rfl (wc_ret ?_))))))
  have hE := (Option.some.inj hm).symm
  cases hE
 rcases ite_some hm with ⟨hq12_7, hm⟩ | ⟨hq12_7, hm⟩
 ·
  refine wl_lookYesE (i := a0) (a := (.func (.func 47) #[] #[.pointer (some ⟨g3,0, none⟩)])) valRep_opens 0 rfl rfl rfl (freshS_eq rfl) rfl rfl rfl rfl tM_66 trivial (by rw [eq_of_beq hq12_7]; rfl) (u := fun _ => .func (.func 47) #[] #[.pointer (some ⟨g3,0, none⟩)]) (fun _ => rfl) (v := fun _ => .func (.func 47) #[] #[.pointer (some ⟨g3,0, none⟩)]) (fun _ => rfl) (fun _ _ => (wP rfl (wl_nil (we_then (wc_keep [2] (S' := [_]) rfl (wc_ret ?_))))))
  have hE := (Option.some.inj hm).symm
  cases hE
 rcases ite_some hm with ⟨hq12_8, hm⟩ | ⟨hq12_8, hm⟩
 ·
  refine wl_lookYesE (i := a0) (a := (.func (.func 48) #[] #[.pointer (some ⟨g3,0, none⟩)])) valRep_opens 0 rfl rfl rfl (freshS_eq rfl) rfl rfl rfl rfl tM_66 trivial (by rw [eq_of_beq hq12_8]; rfl) (u := fun _ => .func (.func 48) #[] #[.pointer (some ⟨g3,0, none⟩)]) (fun _ => rfl) (v := fun _ => .func (.func 48) #[] #[.pointer (some ⟨g3,0, none⟩)]) (fun _ => rfl) (fun _ _ => (wP rfl (wl_nil (we_then (wc_keep [2] (S' := [_]) rfl (wc_ret ?_))))))
  have hE := (Option.some.inj hm).symm
  replace hE := Sum.inr.inj hE
  replace hE := Sum.inr.inj hE
  replace hE := Sum.inr.inj hE
  replace hE := Sum.inr.inj hE
  replace hE := Sum.inr.inj hE
  replace hE := Sum.inr.inj hE
  replace hE := Sum.inr.inj hE
  replace hE := Sum.inr.inj hE
  replace hE := Sum.inl.inj hE
  refine ret_one (Hr := [_]) [1] Tryd.results31 (res_tmp rfl) ⟨g3, rfl, rfl, rfl⟩ (asK [] rfl) rfl rfl (.inl rfl)
 ·
  refine wl_lookNoE (i := a0) 0 rfl rfl rfl (freshS_eq rfl) rfl rfl rfl rfl tZ_60 tM_66 trivial (by simp [mlook, (ne_of_beq_false hq12_0).symm, (ne_of_beq_false hq12_1).symm, (ne_of_beq_false hq12_2).symm, (ne_of_beq_false hq12_3).symm, (ne_of_beq_false hq12_4).symm, (ne_of_beq_false hq12_5).symm, (ne_of_beq_false hq12_6).symm, (ne_of_beq_false hq12_7).symm, (ne_of_beq_false hq12_8).symm]) (v := .nilFunc) rfl (wP rfl (wl_nil (we_then (wc_keep [2] (S' := [_]) rfl (wc_ret ?_)))))
  have hE := (Option.some.inj hm).symm
  cases hE
theorem w_value_does_2_s (N : Nat) (a0 : Int) (a1 : Int)  (hm : m_value_does_2 N a0 a1 = some ()) : Spec Tryd.prog 40 [.int .i64 a0, .int .i64 a1] [] [] (fun v Φr Hr => v = .tuple #[.int .i64 (IntKind.wrap .i64 (a0 + a1)), .bool ((decide ((IntKind.wrap .i64 (a0 + a1)) < a0)) == (decide (a1 < 0)))] ∧ Φr = [] ∧ Hr = []) := by
 unfold m_value_does_2 at hm
 refine spec_of Tryd.func40 rfl Tryd.ntmps40 rfl (S := [_,_]) rfl (fun C => (wc_seq (wc_region (wP rfl (wP rfl (wl_nil (we_then (wc_keep [0,1] (S' := [_,_]) rfl (wc_seq (wc_region (wP rfl (wP rfl (wP rfl (wP rfl ?_))))))))))))))
 refine wP rfl (wP rfl (wP rfl (wP rfl (wP rfl (wP rfl (wl_bin rfl rfl rfl (freshS_eq rfl) rfl rfl rfl (eqlB _ _ (decide ((IntKind.wrap .i64 (a0 + a1)) < a0)) (decide (a1 < 0))) (wP rfl (wP rfl (wl_nil (we_then (wc_keep [5,4] (S' := [_,_]) rfl (wc_ret ?_))))))))))))
 have hE := (Option.some.inj hm).symm
 refine ret_two (Hr := []) [] Tryd.results40 (res_tmp rfl) (res_tmp rfl) ⟨rfl, rfl, rfl⟩ (asK [] rfl) rfl rfl (.inl rfl)
theorem w_value_does_3_s (N : Nat) (a0 : Int) (a1 : Int)  (hm : m_value_does_3 N a0 a1 = some ()) : Spec Tryd.prog 41 [.int .i64 a0, .int .i64 a1] [] [] (fun v Φr Hr => v = .tuple #[.int .i64 (IntKind.wrap .i64 (a0 - a1)), .bool ((decide ((IntKind.wrap .i64 (a0 - a1)) > a0)) == (decide (a1 < 0)))] ∧ Φr = [] ∧ Hr = []) := by
 unfold m_value_does_3 at hm
 refine spec_of Tryd.func41 rfl Tryd.ntmps41 rfl (S := [_,_]) rfl (fun C => (wc_seq (wc_region (wP rfl (wP rfl (wl_nil (we_then (wc_keep [0,1] (S' := [_,_]) rfl (wc_seq (wc_region (wP rfl (wP rfl (wP rfl (wP rfl ?_))))))))))))))
 refine wP rfl (wP rfl (wP rfl (wP rfl (wP rfl (wP rfl (wl_bin rfl rfl rfl (freshS_eq rfl) rfl rfl rfl (eqlB _ _ (decide ((IntKind.wrap .i64 (a0 - a1)) > a0)) (decide (a1 < 0))) (wP rfl (wP rfl (wl_nil (we_then (wc_keep [5,4] (S' := [_,_]) rfl (wc_ret ?_))))))))))))
 have hE := (Option.some.inj hm).symm
 refine ret_two (Hr := []) [] Tryd.results41 (res_tmp rfl) (res_tmp rfl) ⟨rfl, rfl, rfl⟩ (asK [] rfl) rfl rfl (.inl rfl)
theorem w_value_product_s (N : Nat) (a0 : Int) (a1 : Int) (o0 : Int) (o1 : Bool) (hm : m_value_product N a0 a1 = some (o0, o1)) : Spec Tryd.prog 42 [.int .i64 a0, .int .i64 a1] [] [] (fun v Φr Hr => v = .tuple #[.int .i64 o0, .bool o1] ∧ Φr = [] ∧ Hr = []) := by
 unfold m_value_product at hm
 refine spec_of Tryd.func42 rfl Tryd.ntmps42 rfl (S := [_,_]) rfl (fun C => (wc_seq (wc_region (wP rfl (wP rfl (wl_nil (we_then (wc_keep [0,1] (S' := [_,_]) rfl (wc_seq (wc_region (wP rfl (wl_reck rfl rfl rfl (freshS_eq rfl) (rk_conv rfl rfl tI_2 tI_69) (wP rfl (wl_reck rfl rfl rfl (freshS_eq rfl) (rk_conv rfl rfl tI_2 tI_69) ?_))))))))))))))
 refine wP rfl (wP rfl (wl_nil (we_then (wc_keep [7,6,0,1] (S' := [_,_,_,_]) rfl (wc_seq ?_)))))
 obtain ⟨bj_1, hm, hLj_1⟩ := bindO_some hm
 refine wc_cut (σ := Int) (fun j_1_6 => bj_1 = j_1_6) (fun j_1_6 => [(7, .int .u64 (IntKind.wrap .u64 a1)), (6, .int .u64 j_1_6), (0, .int .i64 a0), (1, .int .i64 a1)]) (fun j_1_6 => []) (fun j_1_6 => []) ?_ ?_
 ·
  refine wc_seq (wc_region (wP rfl (wP rfl (wl_nil (we_then (wc_keep [15,7,6,0,1] (S' := [_,_,_,_,_]) rfl ?_))))))
  refine wc_cond rfl (fun hb15 => ?_) (fun hb15 => ?_)
  ·
   replace hm := iteT hm hb15
   refine wc_keep [7,6,0,1] (S' := [_,_,_,_]) rfl (wc_region (wP rfl (wl_reck rfl rfl rfl (freshS_eq rfl) (rk_neg rfl rfl) (wl_pure (S' := [_,_,_,_,_]) rfl rfl rfl rfl rfl (wl_nil ?_)))))
   have hE := (Option.some.inj hm).symm
   refine we_join (IntKind.wrap .u64 (0 - (IntKind.wrap .u64 a0))) hE [7,6,0,1] rfl (asK [] rfl) rfl
  ·
   replace hm := iteF hm hb15
   refine wc_keep [7,6,0,1] (S' := [_,_,_,_]) rfl (wc_skip ?_)
   have hE := (Option.some.inj hm).symm
   refine we_join (IntKind.wrap .u64 a0) hE [7,6,0,1] rfl (asK [] rfl) rfl
 ·
  rintro j_1_6 hE
  try dsimp only
  have hm := hLj_1
  rw [hE] at hm
  refine wc_seq ?_
  obtain ⟨bj_2, hm, hLj_2⟩ := bindO_some hm
  refine wc_cut (σ := Int) (fun j_2_7 => bj_2 = j_2_7) (fun j_2_7 => [(7, .int .u64 j_2_7), (6, .int .u64 j_1_6), (0, .int .i64 a0), (1, .int .i64 a1)]) (fun j_2_7 => []) (fun j_2_7 => []) ?_ ?_
  ·
   refine wc_seq (wc_region (wP rfl (wP rfl (wl_nil (we_then (wc_keep [19,7,6,0,1] (S' := [_,_,_,_,_]) rfl ?_))))))
   refine wc_cond rfl (fun hb19 => ?_) (fun hb19 => ?_)
   ·
    replace hm := iteT hm hb19
    refine wc_keep [7,6,0,1] (S' := [_,_,_,_]) rfl (wc_region (wP rfl (wl_reck rfl rfl rfl (freshS_eq rfl) (rk_neg rfl rfl) (wl_pure (S' := [_,_,_,_,_]) rfl rfl rfl rfl rfl (wl_nil ?_)))))
    have hE := (Option.some.inj hm).symm
    refine we_join (IntKind.wrap .u64 (0 - (IntKind.wrap .u64 a1))) hE [7,6,0,1] rfl (asK [] rfl) rfl
   ·
    replace hm := iteF hm hb19
    refine wc_keep [7,6,0,1] (S' := [_,_,_,_]) rfl (wc_skip ?_)
    have hE := (Option.some.inj hm).symm
    refine we_join (IntKind.wrap .u64 a1) hE [7,6,0,1] rfl (asK [] rfl) rfl
  ·
   rintro j_2_7 hE
   try dsimp only
   have hm := hLj_2
   rw [hE] at hm
   refine wc_seq (wc_region (wP rfl (wP rfl ?_)))
   obtain ⟨hs25_0, hm⟩ := gd_some hm
   obtain ⟨hs25_1, hm⟩ := gd_some hm
   refine wC [] [] rfl fn_53 rfl (sh_Mul64 j_1_6 j_2_7 hs25_0 hs25_1) (asK [] rfl) rfl (H' := []) rfl ?_
   rintro _ _ _ ⟨rfl, rfl, rfl⟩
   refine wP rfl (wP rfl (wP rfl (wP rfl (wP rfl (wl_nil (we_then (wc_keep [9,8,0,1] (S' := [_,_,_,_]) rfl (wc_seq (wc_seq (wc_region (wP rfl (wP rfl (wP rfl ?_)))))))))))))
   refine wP rfl (wl_bin rfl rfl rfl (freshS_eq rfl) rfl rfl rfl (neqB _ _ (decide (a0 < 0)) (decide (a1 < 0))) (wl_nil (we_then (wc_keep [32,9,8] (S' := [_,_,_]) rfl ?_))))
   refine wc_cond rfl (fun hb32 => ?_) (fun hb32 => ?_)
   ·
    replace hm := iteT hm hb32
    refine wc_keep [9,8] (S' := [_,_]) rfl (wc_seq (wc_region (wP rfl (wl_reck rfl rfl rfl (freshS_eq rfl) (rk_neg rfl rfl) (wl_reck rfl rfl rfl (freshS_eq rfl) (rk_conv rfl rfl tI_69 tI_2) (wP rfl (wP rfl (wP rfl ?_))))))))
    refine wl_split (d := 38) (S' := [_,_,_,_,_,_,_]) rfl rfl (fun hs38 => ?_) (fun hs38 => ?_)
    ·
     replace hm := iteT hm hs38
     refine wP rfl (wP rfl (wP rfl (wP rfl (wP rfl (wl_nil (we_then (wc_keep [5,4] (S' := [_,_]) rfl (wc_ret (we_then_ret ?_)))))))))
     have hE := (Option.some.inj hm).symm
     obtain ⟨hE0, hE1⟩ := Prod.mk.inj hE
     clear hE
     replace hE0 := hE0.symm
     subst hE0
     replace hE1 := hE1.symm
     subst hE1
     refine ret_two (Hr := []) [] Tryd.results42 (res_tmp rfl) (res_tmp rfl) ⟨rfl, rfl, rfl⟩ (asK [] rfl) rfl rfl (.inl rfl)
    ·
     replace hm := iteF hm hs38
     refine wO rfl (wO rfl (wP rfl (wP rfl (wP rfl (wl_nil (we_then (wc_keep [5,4] (S' := [_,_]) rfl (wc_ret (we_then_ret ?_)))))))))
     have hE := (Option.some.inj hm).symm
     obtain ⟨hE0, hE1⟩ := Prod.mk.inj hE
     clear hE
     replace hE0 := hE0.symm
     subst hE0
     replace hE1 := hE1.symm
     subst hE1
     refine ret_two (Hr := []) [] Tryd.results42 (res_tmp rfl) (res_tmp rfl) ⟨rfl, rfl, rfl⟩ (asK [] rfl) rfl rfl (.inl rfl)
   ·
    replace hm := iteF hm hb32
    refine wc_keep [9,8] (S' := [_,_]) rfl (wc_skip (we_then (wc_seq (wc_region (wP rfl (wl_reck rfl rfl rfl (freshS_eq rfl) (rk_conv rfl rfl tI_69 tI_2) (wP rfl (wP rfl (wP rfl ?_)))))))))
    refine wl_split (d := 46) (S' := [_,_,_,_,_,_]) rfl rfl (fun hs46 => ?_) (fun hs46 => ?_)
    ·
     replace hm := iteT hm hs46
     refine wP rfl (wP rfl (wP rfl (wP rfl (wP rfl (wl_nil (we_then (wc_keep [5,4] (S' := [_,_]) rfl (wc_ret ?_))))))))
     have hE := (Option.some.inj hm).symm
     obtain ⟨hE0, hE1⟩ := Prod.mk.inj hE
     clear hE
     replace hE0 := hE0.symm
     subst hE0
     replace hE1 := hE1.symm
     subst hE1
     refine ret_two (Hr := []) [] Tryd.results42 (res_tmp rfl) (res_tmp rfl) ⟨rfl, rfl, rfl⟩ (asK [] rfl) rfl rfl (.inl rfl)
    ·
     replace hm := iteF hm hs46
     refine wO rfl (wO rfl (wP rfl (wP rfl (wP rfl (wl_nil (we_then (wc_keep [5,4] (S' := [_,_]) rfl (wc_ret ?_))))))))
     have hE := (Option.some.inj hm).symm
     obtain ⟨hE0, hE1⟩ := Prod.mk.inj hE
     clear hE
     replace hE0 := hE0.symm
     subst hE0
     replace hE1 := hE1.symm
     subst hE1
     refine ret_two (Hr := []) [] Tryd.results42 (res_tmp rfl) (res_tmp rfl) ⟨rfl, rfl, rfl⟩ (asK [] rfl) rfl rfl (.inl rfl)
theorem w_value_does_4_s (N : Nat) (a0 : Int) (a1 : Int)  (hm : m_value_does_4 N a0 a1 = some ()) : Spec Tryd.prog 43 [.int .i64 a0, .int .i64 a1] [] [] (fun v Φr Hr => v = .tuple #[.int .i64 (IntKind.wrap .i64 (0 - a0)), .bool (a0 != -9223372036854775808)] ∧ Φr = [] ∧ Hr = []) := by
 unfold m_value_does_4 at hm
 refine spec_of Tryd.func43 rfl Tryd.ntmps43 rfl (S := [_,_]) rfl (fun C => (wc_seq (wc_region (wP rfl (wP rfl (wl_nil (we_then (wc_keep [0] (S' := [_]) rfl (wc_seq (wc_region (wP rfl (wl_reck rfl rfl rfl (freshS_eq rfl) (rk_neg rfl rfl) (wP rfl (wP rfl ?_))))))))))))))
 refine wP rfl (wP rfl (wl_nil (we_then (wc_keep [5,4] (S' := [_,_]) rfl (wc_ret ?_)))))
 have hE := (Option.some.inj hm).symm
 refine ret_two (Hr := []) [] Tryd.results43 (res_tmp rfl) (res_tmp rfl) ⟨rfl, rfl, rfl⟩ (asK [] rfl) rfl rfl (.inl rfl)
theorem w_value_does_1_s (N : Nat) (a0 : Bool) (o0 : Int) (hm : m_value_does_1 N a0 = some o0) : Spec Tryd.prog 39 [.bool a0] [] [] (fun v Φr Hr => v = .tuple #[.int .i64 o0, .bool true] ∧ Φr = [] ∧ Hr = []) := by
 unfold m_value_does_1 at hm
 refine spec_of Tryd.func39 rfl Tryd.ntmps39 rfl (S := [_]) rfl (fun C => (wc_seq (wc_region (wP rfl (wP rfl (wl_nil (we_then (wc_keep [0] (S' := [_]) rfl (wc_seq (wc_region (wP rfl ?_)))))))))))
 obtain ⟨v5, hc5, hm⟩ := bindO_some hm
 refine wC [] [] rfl fn_30 rfl (w_value_Truth_s N a0 _ hc5) (asK [] rfl) rfl (H' := []) rfl ?_
 rintro _ _ _ ⟨rfl, rfl, rfl⟩
 refine wl_reck rfl rfl rfl (freshS_eq rfl) (rk_field rfl rfl tFT_25_1 tA_2 tS_2 (v := .int .i64 v5) rfl) (wP rfl (wP rfl (wl_nil (we_then (wc_keep [3,2] (S' := [_,_]) rfl (wc_ret ?_))))))
 have hE := (Option.some.inj hm).symm
 replace hE := hE.symm
 subst hE
 refine ret_two (Hr := []) [] Tryd.results39 (res_tmp rfl) (res_tmp rfl) ⟨rfl, rfl, rfl⟩ (asK [] rfl) rfl rfl (.inl rfl)
end Go.Proofs.YtohkfpobgjkpdaaDoor
