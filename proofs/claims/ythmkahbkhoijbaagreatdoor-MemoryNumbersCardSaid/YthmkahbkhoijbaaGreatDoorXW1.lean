import Derived.Test.YthmkahbkhoijbaaGreatDoorXM
import Derived.Test.YthmkahbkhoijbaaGreatDoorEq
import Derived.Test.YthmkahbkhoijbaaGreatDoorMapK
import Derived.Test.YthmkahbkhoijbaaGreatDoorStr
import Derived.Test.YthmkahbkhoijbaaGreatDoorView
import Derived.Test.YthmkahbkhoijbaaGreatDoorMapE
import Derived.Test.YthmkahbkhoijbaaGreatDoorFlat
import Derived.Test.YthmkahbkhoijbaaGreatDoorApart
import Derived.Test.YthmkahbkhoijbaaGreatDoorRun
import Derived.Test.YthmkahbkhoijbaaGreatDoorShort
import Derived.Test.YthmkahbkhoijbaaGreatDoorSh
import Derived.Test.YthmkahbkhoijbaaGreatDoorAb
namespace Go.Proofs.YthmkahbkhoijbaaGreatDoor
open Go.RowKit
set_option maxRecDepth 100000
set_option maxHeartbeats 4000000
theorem w_memory_New_s (N : Nat)   (hm : m_memory_New N = some ()) : Spec Tryz.prog 6 [] [] [] (fun v Φr Hr => ∃ (o0 : Nat), v = .pointer (some ⟨o0,0, none⟩) ∧ Φr = [] ∧ Hr = [.blk o0 [.slice none 0 0, .int .i64 1] 61]) := by
 unfold m_memory_New at hm
 refine spec_of Tryz.func6 rfl Tryz.ntmps6 rfl (S := []) rfl (fun C => (wc_seq (wc_region (wP rfl (wl_nil (we_then (wc_keep [] (S' := []) rfl (wc_seq (wc_region (wl_build rfl rfl rfl (freshS_eq rfl) rfl tZ_61 tP_61 rfl (out := [_,_]) rfl (wB rfl (fun g2 => (wP rfl (wl_nil (we_then ?_)))))))))))))))
 refine wc_keep [0] (S' := [_]) rfl (wc_ret ?_)
 have hE := (Option.some.inj hm).symm
 refine ret_one (Hr := [_]) [0] Tryz.results6 (res_tmp rfl) ⟨g2, rfl, rfl, rfl⟩ (asK [] rfl) rfl rfl (.inl rfl)
theorem w_ropewalklaw11_num_s (N : Nat) (a0 : Int)  (hm : m_ropewalklaw11_num N a0 = some ()) : Spec Tryz.prog 17 [.int .i64 a0] [] [] (fun v Φr Hr => v = .agg #[.int .u8 1, .int .i64 a0, .string ((⟨#[]⟩ : ByteArray))] ∧ Φr = [] ∧ Hr = []) := by
 unfold m_ropewalklaw11_num at hm
 refine spec_of Tryz.func17 rfl Tryz.ntmps17 rfl (S := [_]) rfl (fun C => (wc_seq (wc_region (wl_alloc rfl rfl rfl (freshS_eq rfl) rfl tZ_51 rfl (fun g2 => (wl_nil (we_then (wc_seq (wc_region (wP rfl (wl_build rfl rfl rfl (freshS_eq rfl) rfl tZ_51 tP_51 rfl (out := [_,_,_]) rfl (wS 0 0 rfl tS_51 (all' := [_,_,_]) rfl (H' := [_]) rfl (wl_nil (we_then (wc_keep [2] (S' := [_]) rfl ?_)))))))))))))))
 refine wc_ret ?_
 have hE := (Option.some.inj hm).symm
 refine ret_one (Hr := []) [] Tryz.results17 (res_cell 0 rfl rfl tS_51 tA_51 rfl rfl) ⟨rfl, rfl, rfl⟩ (asK [] rfl) rfl rfl (.inl rfl)
theorem w_memory_Memory_known_s (N : Nat) (qg0 : Nat) (qp1 : Option Addr) (qn2 : Nat) (qc3 : Nat) (l0 : List FactD) (a1 : Int)  (hm : m_memory_Memory_known N l0 a1 = some ()) : Spec Tryz.prog 45 [.pointer (some ⟨qg0,0, none⟩)] [] [.blk qg0 [.slice qp1 qn2 qc3, .int .i64 a1] 61, .own 27 3 R_FactD (.slice qp1 qn2 qc3) l0] (fun v Φr Hr => v = .bool (decide (a1 > 0)) ∧ Φr = [] ∧ Hr = [.blk qg0 [.slice qp1 qn2 qc3, .int .i64 a1] 61, .own 27 3 R_FactD (.slice qp1 qn2 qc3) l0]) := by
 unfold m_memory_Memory_known at hm
 refine spec_of Tryz.func45 rfl Tryz.ntmps45 rfl (S := [_]) rfl (fun C => (wc_seq (wc_region (wP rfl (wl_nil (we_then (wc_keep [0] (S' := [_]) rfl (wc_seq (wc_region (wP rfl (wl_bin rfl rfl rfl (freshS_eq rfl) rfl rfl rfl (neqP tQ_28 _ _ _) (wP rfl (wP rfl (wP rfl ?_))))))))))))))
 refine wF rfl tF_61_1 (wD 0 1 rfl tS_3 tA_3 rfl (wP rfl (wP rfl (wP rfl (wl_nil (we_then (wc_keep [2] (S' := [_]) rfl (wc_ret ?_))))))))
 have hE := (Option.some.inj hm).symm
 refine ret_one (Hr := [_,_]) [0,1] Tryz.results45 (res_tmp rfl) ⟨rfl, rfl, rfl⟩ (asK [] rfl) rfl rfl (.inl rfl)
theorem w_value_named_s (N : Nat) (a0 : ByteArray) (o0 : Bool) (hm : m_value_named N a0 = some o0) : Spec Tryz.prog 99 [.string a0] [] [] (fun v Φr Hr => v = .bool o0 ∧ Φr = [] ∧ Hr = []) := by
 unfold m_value_named at hm
 refine spec_of Tryz.func99 rfl Tryz.ntmps99 rfl (S := [_]) rfl (fun C => (wc_seq (wc_region (wP rfl (wl_nil (we_then (wc_keep [0] (S' := [_]) rfl (wc_seq ?_))))))))
 obtain ⟨bj_1, hm, hLj_1⟩ := bindO_some hm
 unfold m_value_named_C1 at hm
 refine wc_cut (σ := Bool) (fun j_1_2 => bj_1 = j_1_2) (fun j_1_2 => [(2, .bool j_1_2)]) (fun j_1_2 => []) (fun j_1_2 => []) ?_ ?_
 ·
  refine wc_region (wP rfl (wP rfl (wP rfl ?_)))
  refine wl_split (d := 5) (S' := [_,_,_]) rfl rfl (fun hs5 => ?_) (fun hs5 => ?_)
  ·
   replace hm := iteT hm hs5
   refine wP rfl (wl_reck rfl rfl rfl (freshS_eq rfl) (rk_strLen rfl rfl tT_9) (wP rfl (wl_as (d := 8) (v' := .bool (decide (a0.size ≤ 24))) (S' := [_,_,_,_,_,_]) rfl rfl (natle (a := a0.size) (b := 24)) (wP rfl (wP rfl ?_)))))
   refine wl_split (d := 10) (S' := [_,_,_,_,_,_,_,_]) rfl rfl (fun hs10 => ?_) (fun hs10 => ?_)
   ·
    replace hm := iteT hm hs10
    refine wP rfl ?_
    obtain ⟨x12, hx12, hm⟩ := bindO_some hm
    refine wl_reck rfl rfl rfl (freshS_eq rfl) (rk_strAt 0 rfl rfl rfl rfl hx12 tT_9) (wC [] [] rfl fn_144 rfl (sh_IndexByte (⟨#[97,98,99,100,101,102,103,104,105,106,107,108,109,110,111,112,113,114,115,116,117,118,119,120,121,122]⟩ : ByteArray) ((x12.toNat : Nat) : Int) ) (asK [] rfl) rfl (H' := []) rfl ?_)
    rintro _ _ _ ⟨rfl, rfl, rfl⟩
    refine wP rfl (wP rfl (wP rfl ?_))
    refine wl_split (d := 16) (S' := [_,_,_,_,_,_,_,_,_,_,_,_,_,_]) rfl rfl (fun hs16 => ?_) (fun hs16 => ?_)
    ·
     replace hm := iteT hm hs16
     refine wP rfl ?_
     obtain ⟨hs18_0, hm⟩ := gd_some hm
     refine wC [] [] rfl fn_145 rfl (sh_Trim a0 (⟨#[97,98,99,100,101,102,103,104,105,106,107,108,109,110,111,112,113,114,115,116,117,118,119,120,121,122,48,49,50,51,52,53,54,55,56,57,95]⟩ : ByteArray) (by decide) (ascii_of_all (by decide)) hs18_0) (asK [] rfl) rfl (H' := []) rfl ?_
     rintro _ _ _ ⟨rfl, rfl, rfl⟩
     refine wP rfl (wP rfl (wP rfl (wl_nil ?_)))
     have hE := (Option.some.inj hm).symm
     refine we_join ((⟨(Lib.trimS a0.data.toList (⟨#[97,98,99,100,101,102,103,104,105,106,107,108,109,110,111,112,113,114,115,116,117,118,119,120,121,122,48,49,50,51,52,53,54,55,56,57,95]⟩ : ByteArray).data.toList).toArray⟩ : ByteArray).toList == (⟨#[]⟩ : ByteArray).toList) hE [2] rfl (asK [] rfl) rfl
    ·
     replace hm := iteF hm hs16
     refine wO rfl (wO rfl (wO rfl (wP rfl (wP rfl (wl_nil ?_)))))
     have hE := (Option.some.inj hm).symm
     refine we_join false hE [2] rfl (asK [] rfl) rfl
   ·
    replace hm := iteF hm hs10
    refine wO rfl (wO rfl (wO rfl (wO rfl (wP rfl (wP rfl (wO rfl (wO rfl (wO rfl (wP rfl (wP rfl (wl_nil ?_)))))))))))
    have hE := (Option.some.inj hm).symm
    refine we_join false hE [2] rfl (asK [] rfl) rfl
  ·
   replace hm := iteF hm hs5
   refine wO rfl (wO rfl (wO rfl (wP rfl (wP rfl (wO rfl (wO rfl (wO rfl (wO rfl (wP rfl (wP rfl (wO rfl (wO rfl (wO rfl ?_)))))))))))))
   refine wP rfl (wP rfl (wl_nil ?_))
   have hE := (Option.some.inj hm).symm
   refine we_join false hE [2] rfl (asK [] rfl) rfl
 ·
  rintro j_1_2 hE
  try dsimp only
  have hm := hLj_1
  rw [hE] at hm
  refine wc_ret ?_
  have hE := (Option.some.inj hm).symm
  replace hE := hE.symm
  subst hE
  refine ret_one (Hr := []) [] Tryz.results99 (res_tmp rfl) ⟨rfl, rfl, rfl⟩ (asK [] rfl) rfl rfl (.inl rfl)
theorem w_value_Right_s (N : Nat) (a0 : Int) (a1 : Int) (a2 : ByteArray) (o0 : Bool) (hm : m_value_Right N a0 a1 a2 = some o0) : Spec Tryz.prog 55 [.agg #[.int .u8 a0, .int .i64 a1, .string a2]] [] [] (fun v Φr Hr => v = .bool o0 ∧ Φr = [] ∧ Hr = []) := by
 unfold m_value_Right at hm
 refine spec_of Tryz.func55 rfl Tryz.ntmps55 rfl (S := [_]) rfl (fun C => (wc_seq (wc_region (wB rfl (fun g1 => (wP rfl (wl_nil (we_then (wc_keep [1] (S' := [_]) rfl (wc_seq (wc_seq (wc_region (wF rfl tF_51_0 (wD 0 0 rfl tS_49 tA_49 rfl (wl_nil ?_)))))))))))))))
 refine we_then (wc_keep [4,1] (S' := [_,_]) rfl (wc_block (wc_seq (wc_region (wP rfl (wP rfl (wl_nil (we_then (wc_keep [5,4,1] (S' := [_,_,_]) rfl ?_)))))))))
 refine wc_cond rfl (fun hb5 => ?_) (fun hb5 => ?_)
 ·
  replace hm := iteT hm hb5
  refine wc_keep [1] (S' := [_]) rfl (wc_seq (wc_region (wF rfl tF_51_2 (wD 0 2 rfl tS_9 tA_9 rfl (wP rfl (wP rfl (wl_nil (we_then (wc_keep [2] (S' := [_]) rfl (wc_ret (we_block_ret (we_then_ret ?_))))))))))))
  have hE := (Option.some.inj hm).symm
  replace hE := hE.symm
  subst hE
  refine ret_one (Hr := []) [] Tryz.results55 (res_tmp rfl) ⟨rfl, rfl, rfl⟩ (asK [] rfl) rfl rfl (.inl rfl)
 ·
  replace hm := iteF hm hb5
  refine wc_keep [4,1] (S' := [_,_]) rfl (wc_seq (wc_region (wP rfl (wP rfl (wl_nil (we_then (wc_keep [10,1] (S' := [_,_]) rfl ?_)))))))
  refine wc_cond rfl (fun hb10 => ?_) (fun hb10 => ?_)
  ·
   replace hm := iteT hm hb10
   refine wc_keep [1] (S' := [_]) rfl (wc_seq (wc_region (wF rfl tF_51_1 (wD 0 1 rfl tS_2 tA_2 rfl (wP rfl (wP rfl ?_))))))
   refine wl_split (d := 15) (S' := [_,_,_,_]) rfl rfl (fun hs15 => ?_) (fun hs15 => ?_)
   ·
    replace hm := iteT hm hs15
    refine wF rfl tF_51_2 (wD 0 2 rfl tS_9 tA_9 rfl ?_)
    obtain ⟨v18, hc18, hm⟩ := bindO_some hm
    refine wC [] [0] rfl fn_99 rfl (w_value_named_s N a2 _ hc18) (asK [] rfl) rfl (H' := [_]) rfl ?_
    rintro _ _ _ ⟨rfl, rfl, rfl⟩
    refine wP rfl (wP rfl (wl_nil (we_then (wc_keep [2] (S' := [_]) rfl (wc_ret (we_block_ret (we_then_ret ?_)))))))
    have hE := (Option.some.inj hm).symm
    replace hE := hE.symm
    subst hE
    refine ret_one (Hr := []) [] Tryz.results55 (res_tmp rfl) ⟨rfl, rfl, rfl⟩ (asK [] rfl) rfl rfl (.inl rfl)
   ·
    replace hm := iteF hm hs15
    refine wO rfl (wO rfl (wO rfl (wP rfl (wP rfl (wl_nil (we_then (wc_keep [2] (S' := [_]) rfl (wc_ret (we_block_ret (we_then_ret ?_))))))))))
    have hE := (Option.some.inj hm).symm
    replace hE := hE.symm
    subst hE
    refine ret_one (Hr := []) [] Tryz.results55 (res_tmp rfl) ⟨rfl, rfl, rfl⟩ (asK [] rfl) rfl rfl (.inl rfl)
  ·
   replace hm := iteF hm hb10
   refine wc_keep [] (S' := []) rfl (wc_skip (we_block_normal (we_then (wc_seq (wc_region (wP rfl (wl_nil (we_then (wc_ret ?_)))))))))
   have hE := (Option.some.inj hm).symm
   replace hE := hE.symm
   subst hE
   refine ret_one (Hr := []) [] Tryz.results55 (res_tmp rfl) ⟨rfl, rfl, rfl⟩ (asK [] rfl) rfl rfl (.inl rfl)
theorem w_memory_may_1_s (N : Nat) (a0 : Int) (a1 : Int) (a2 : ByteArray) (o0 : Bool) (hm : m_memory_may_1 N a0 a1 a2 = some o0) : Spec Tryz.prog 54 [.agg #[.int .u8 a0, .int .i64 a1, .string a2]] [] [] (fun v Φr Hr => v = .bool o0 ∧ Φr = [] ∧ Hr = []) := by
 unfold m_memory_may_1 at hm
 refine spec_of Tryz.func54 rfl Tryz.ntmps54 rfl (S := [_]) rfl (fun C => (wc_seq (wc_region (wB rfl (fun g1 => (wP rfl (wl_nil (we_then (wc_keep [1] (S' := [_]) rfl (wc_seq (wc_region (wl_loadH 0 0 rfl rfl rfl (freshS_eq rfl) rfl rfl rfl (cs := [_,_,_]) rfl tS_51 tA_51 rfl rfl ?_))))))))))))
 obtain ⟨v4, hc4, hm⟩ := bindO_some hm
 refine wC [] [0] rfl fn_55 rfl (w_value_Right_s N a0 a1 a2 _ hc4) (asK [] rfl) rfl (H' := [_]) rfl ?_
 rintro _ _ _ ⟨rfl, rfl, rfl⟩
 refine wP rfl (wP rfl (wl_nil (we_then (wc_keep [2] (S' := [_]) rfl (wc_ret ?_)))))
 have hE := (Option.some.inj hm).symm
 replace hE := hE.symm
 subst hE
 refine ret_one (Hr := []) [] Tryz.results54 (res_tmp rfl) ⟨rfl, rfl, rfl⟩ (asK [] rfl) rfl rfl (.inl rfl)
theorem w_slices_IndexFunc_Value_s (N : Nat) (qp0 : Option Addr) (qc1 : Nat) (l0 : List V) (o0 : Int) (hm : m_slices_IndexFunc_Value N l0 = some o0) : Spec Tryz.prog 98 [.slice qp0 l0.length qc1, .func (.func 54) #[] #[]] [.sli 3 R_V qp0 qc1 l0] [] (fun v Φr Hr => v = .int .i64 o0 ∧ Φr = [] ∧ Hr = []) := by
 unfold m_slices_IndexFunc_Value at hm
 refine spec_of Tryz.func98 rfl Tryz.ntmps98 rfl (S := [_,_]) rfl (fun C => (wc_seq (wc_region (wP rfl (wl_nil (we_then (wc_keep [0,1] (S' := [_,_]) rfl (wc_seq ?_))))))))
 obtain ⟨bj_1, hm, hLj_1⟩ := bindS_some hm
 refine wc_cut (σ := Unit) (fun _ => bj_1 = .inl ()) (fun _ => []) (fun _ => []) (fun _ => []) ?_ ?_
 ·
  refine wc_seq (wc_region (wP rfl (wN rfl tE_25 (wP rfl (wl_nil (we_then (wc_keep [8,7,0,1] (S' := [_,_,_,_]) rfl (wc_block (wc_loop (σ := Nat × Nat) (fun (nu1, u1_8) => iter (m_slices_IndexFunc_Value_L1 N l0) nu1 u1_8 = some bj_1) (fun (nu1, u1_8) => nu1) (fun (nu1, u1_8) => [(8, .int .i64 ((u1_8 : Nat) : Int)), (7, .int .i64 ((l0.length : Nat) : Int)), (0, .slice qp0 l0.length qc1), (1, .func (.func 54) #[] #[])]) (fun (nu1, u1_8) => [.sli 3 R_V qp0 qc1 l0]) (fun (nu1, u1_8) => []) (N, 0) hm [8,7,0,1] rfl (asK [0] rfl) rfl (fun s_ hm => ?_))))))))))
  obtain ⟨nu1, u1_8⟩ := s_
  try dsimp only at hm ⊢
  obtain ⟨mu1, bu1, hnu1, hq, hLu1⟩ := iter_some hm
  clear hm
  subst hnu1
  replace hm := hq
  clear hq
  unfold m_slices_IndexFunc_Value_L1 at hm
  try dsimp only at hm
  refine wc_seq (wc_region (wP rfl (wl_as (d := 9) (v' := .bool (decide (u1_8 < l0.length))) (S' := [_,_,_,_]) rfl rfl (natlt (a := u1_8) (b := l0.length)) (wl_nil (we_then (wc_seq ?_))))))
  refine wc_cond rfl (fun hb9 => ?_) (fun hb9 => ?_)
  ·
   replace hm := iteT hm hb9
   refine wc_keep [8,7,0,1] (S' := [_,_,_,_]) rfl (wc_skip (we_then (wc_seq (wc_block (wc_seq (wc_region (wP rfl (wP rfl (wl_nil (we_then (wc_keep [5,8,7,0,1] (S' := [_,_,_,_,_]) rfl (wc_seq (wc_region ?_)))))))))))))
   refine wP rfl (wP rfl (wP rfl ?_))
   obtain ⟨x14, hx14, hm⟩ := bindO_some hm
   refine wl_indexA 0 u1_8 rfl rfl rfl (freshS_eq rfl) rfl rfl rfl rfl rfl hx14 tE_25 tS_51 (fun b14 q14 cs14 hlx14 => (wl_open R_V_opens 1 rfl (fun r14 er14 _ => ?_)))
   subst er14
   refine wl_load 0 0 rfl rfl rfl (freshS_eq rfl) rfl rfl rfl (cs := [_,_,_]) rfl tS_51 tA_51 rfl rfl ?_
   obtain ⟨v16, hc16, hm⟩ := bindO_some hm
   refine wl_callDyn [] [] rfl rfl rfl (freshS_eq rfl) rfl rfl rfl fn_54 rfl rfl (w_memory_may_1_s N x14.k x14.n x14.s _ hc16) (asK [] rfl) rfl (H' := []) rfl ?_
   rintro _ _ _ ⟨rfl, rfl, rfl⟩
   refine wl_nil (we_then (wc_keep [16,5,8,7,0,1] (S' := [_,_,_,_,_,_]) rfl ?_))
   refine wc_cond rfl (fun hb16 => ?_) (fun hb16 => ?_)
   ·
    replace hm := iteT hm hb16
    refine wc_keep [5] (S' := [_]) rfl (wc_seq (wc_region (wP rfl (wP rfl (wl_nil (we_then (wc_keep [4] (S' := [_]) rfl (wc_ret (we_block_ret (we_then_ret (we_then_ret (we_block_ret (we_then_ret ?_)))))))))))))
    have hE := (Option.some.inj hm).symm
    replace hE := link_inr hLu1 hE
    replace hE := link_inr hLj_1 hE
    replace hE := hE.symm
    subst hE
    refine ret_one (Hr := []) [] Tryz.results98 (res_tmp rfl) ⟨rfl, rfl, rfl⟩ (asK [] rfl) rfl rfl (.inl rfl)
   ·
    replace hm := iteF hm hb16
    refine wc_keep [8,7,0,1] (S' := [_,_,_,_]) rfl (wc_skip (we_block_normal (we_then (wc_region (wP rfl ?_)))))
    obtain ⟨hg18, hm⟩ := gd_some hm
    refine wl_as (d := 18) (v' := .int .i64 ((u1_8 + 1 : Nat) : Int)) (S' := [_,_,_,_]) rfl rfl (nat_add (a := u1_8) (b := 1) hg18) (wl_pure (S' := [_,_,_,_]) rfl rfl rfl rfl rfl (wl_nil ?_))
    have hE := (Option.some.inj hm).symm
    replace hE := link_inl hLu1 hE
    refine we_roundK (_, u1_8 + 1) (Nat.lt_succ_self _) hE [8,7,0,1] rfl (asK [2] rfl) rfl
  ·
   replace hm := iteF hm hb9
   refine wc_keep [] (S' := []) rfl (wc_exit (we_then_exit (we_then_exit (we_block_hit ?_))))
   have hE := (Option.some.inj hm).symm
   replace hE := link_inr hLu1 hE
   refine we_join () hE [] rfl (asK [] rfl) rfl
 ·
  rintro _ hE
  try dsimp only
  have hm := link_inl hLj_1 hE
  try dsimp only at hm
  refine wc_seq (wc_region (wP rfl (wl_nil (we_then (wc_ret ?_)))))
  have hE := (Option.some.inj hm).symm
  replace hE := hE.symm
  subst hE
  refine ret_one (Hr := []) [] Tryz.results98 (res_tmp rfl) ⟨rfl, rfl, rfl⟩ (asK [] rfl) rfl rfl (.inl rfl)
theorem w_slices_ContainsFunc_Value_s (N : Nat) (qp0 : Option Addr) (qc1 : Nat) (l0 : List V) (o0 : Bool) (hm : m_slices_ContainsFunc_Value N l0 = some o0) : Spec Tryz.prog 53 [.slice qp0 l0.length qc1, .func (.func 54) #[] #[]] [.sli 3 R_V qp0 qc1 l0] [] (fun v Φr Hr => v = .bool o0 ∧ Φr = [] ∧ Hr = []) := by
 unfold m_slices_ContainsFunc_Value at hm
 refine spec_of Tryz.func53 rfl Tryz.ntmps53 rfl (S := [_,_]) rfl (fun C => (wc_seq (wc_region (wP rfl (wl_nil (we_then (wc_keep [0,1] (S' := [_,_]) rfl (wc_seq (wc_region (wP rfl (wP rfl ?_)))))))))))
 obtain ⟨v7, hc7, hm⟩ := bindO_some hm
 refine wC [] [] rfl fn_98 rfl (w_slices_IndexFunc_Value_s N qp0 qc1 l0 _ hc7) (asK [0] rfl) rfl (H' := []) rfl ?_
 rintro _ _ _ ⟨rfl, rfl, rfl⟩
 refine wP rfl (wP rfl (wl_nil (we_then (wc_keep [4] (S' := [_]) rfl (wc_ret ?_)))))
 have hE := (Option.some.inj hm).symm
 replace hE := hE.symm
 subst hE
 refine ret_one (Hr := []) [] Tryz.results53 (res_tmp rfl) ⟨rfl, rfl, rfl⟩ (asK [] rfl) rfl rfl (.inl rfl)
theorem w_memory_may_s (N : Nat) (a0 : Int) (qp0 : Option Addr) (qc1 : Nat) (l1 : List V) (o0 : Bool) (hm : m_memory_may N a0 l1 = some o0) : Spec Tryz.prog 26 [.int .i64 a0, .slice qp0 l1.length qc1] [.sli 3 R_V qp0 qc1 l1] [] (fun v Φr Hr => v = .bool o0 ∧ Φr = [] ∧ Hr = []) := by
 unfold m_memory_may at hm
 refine spec_of Tryz.func26 rfl Tryz.ntmps26 rfl (S := [_,_]) rfl (fun C => (wc_seq (wc_region (wP rfl (wl_nil (we_then (wc_keep [0,1] (S' := [_,_]) rfl (wc_seq ?_))))))))
 obtain ⟨bj_1, hm, hLj_1⟩ := bindO_some hm
 unfold m_memory_may_C1 at hm
 refine wc_cut (σ := Bool) (fun j_1_4 => bj_1 = j_1_4) (fun j_1_4 => [(4, .bool j_1_4)]) (fun j_1_4 => []) (fun j_1_4 => []) ?_ ?_
 ·
  refine wc_region (wP rfl (wP rfl (wP rfl ?_)))
  refine wl_split (d := 7) (S' := [_,_,_,_]) rfl rfl (fun hs7 => ?_) (fun hs7 => ?_)
  ·
   replace hm := iteT hm hs7
   refine wP rfl (wP rfl (wP rfl (wP rfl ?_)))
   refine wl_split (d := 11) (S' := [_,_,_,_,_,_,_,_]) rfl rfl (fun hs11 => ?_) (fun hs11 => ?_)
   ·
    replace hm := iteT hm hs11
    refine wP rfl (wN rfl tE_25 (wP rfl (wl_as (d := 14) (v' := .bool (decide (l1.length ≤ 6))) (S' := [_,_,_,_,_,_,_,_,_,_,_]) rfl rfl (natle (a := l1.length) (b := 6)) (wP rfl (wP rfl ?_)))))
    refine wl_split (d := 16) (S' := [_,_,_,_,_,_,_,_,_,_,_,_,_]) rfl rfl (fun hs16 => ?_) (fun hs16 => ?_)
    ·
     replace hm := iteT hm hs16
     refine wP rfl ?_
     obtain ⟨v18, hc18, hm⟩ := bindO_some hm
     refine wC [] [] rfl fn_53 rfl (w_slices_ContainsFunc_Value_s N qp0 qc1 l1 _ hc18) (asK [0] rfl) rfl (H' := []) rfl ?_
     rintro _ _ _ ⟨rfl, rfl, rfl⟩
     refine wP rfl (wP rfl (wP rfl (wl_nil ?_)))
     have hE := (Option.some.inj hm).symm
     refine we_join (!v18) hE [4] rfl (asK [] rfl) rfl
    ·
     replace hm := iteF hm hs16
     refine wO rfl (wO rfl (wO rfl (wP rfl (wP rfl (wl_nil ?_)))))
     have hE := (Option.some.inj hm).symm
     refine we_join false hE [4] rfl (asK [] rfl) rfl
   ·
    replace hm := iteF hm hs11
    refine wO rfl (wO rfl (wO rfl (wP rfl (wP rfl (wO rfl (wO rfl (wO rfl (wP rfl (wP rfl (wl_nil ?_))))))))))
    have hE := (Option.some.inj hm).symm
    refine we_join false hE [4] rfl (asK [] rfl) rfl
  ·
   replace hm := iteF hm hs7
   refine wO rfl (wO rfl (wP rfl (wP rfl (wO rfl (wO rfl (wO rfl (wP rfl (wP rfl (wO rfl (wO rfl (wO rfl (wP rfl (wP rfl ?_)))))))))))))
   refine wl_nil ?_
   have hE := (Option.some.inj hm).symm
   refine we_join false hE [4] rfl (asK [] rfl) rfl
 ·
  rintro j_1_4 hE
  try dsimp only
  have hm := hLj_1
  rw [hE] at hm
  refine wc_ret ?_
  have hE := (Option.some.inj hm).symm
  replace hE := hE.symm
  subst hE
  refine ret_one (Hr := []) [] Tryz.results26 (res_tmp rfl) ⟨rfl, rfl, rfl⟩ (asK [] rfl) rfl rfl (.inl rfl)
theorem w_memory_same_s (N : Nat) (qp0 : Option Addr) (qc1 : Nat) (l0 : List V) (qp2 : Option Addr) (qc3 : Nat) (l1 : List V) (o0 : Bool) (hm : m_memory_same N l0 l1 = some o0) : Spec Tryz.prog 58 [.slice qp0 l0.length qc1, .slice qp2 l1.length qc3] [.sli 3 R_V qp0 qc1 l0, .sli 3 R_V qp2 qc3 l1] [] (fun v Φr Hr => v = .bool o0 ∧ Φr = [] ∧ Hr = []) := by
 unfold m_memory_same at hm
 refine spec_of Tryz.func58 rfl Tryz.ntmps58 rfl (S := [_,_]) rfl (fun C => (wc_seq (wc_region (wP rfl (wl_nil (we_then (wc_keep [0,1] (S' := [_,_]) rfl (wc_seq (wc_seq (wc_region (wP rfl (wN rfl tE_25 (wP rfl (wN rfl tE_25 ?_))))))))))))))
 refine wP rfl (wl_as (d := 10) (v' := .bool (l0.length != l1.length)) (S' := [_,_,_,_,_,_]) rfl rfl (natne (a := l0.length) (b := l1.length)) (wl_nil (we_then (wc_keep [10,0,1] (S' := [_,_,_]) rfl ?_))))
 refine wc_cond rfl (fun hb10 => ?_) (fun hb10 => ?_)
 ·
  replace hm := iteT hm hb10
  refine wc_keep [] (S' := []) rfl (wc_seq (wc_region (wP rfl (wl_nil (we_then (wc_ret (we_then_ret ?_)))))))
  have hE := (Option.some.inj hm).symm
  replace hE := hE.symm
  subst hE
  refine ret_one (Hr := []) [] Tryz.results58 (res_tmp rfl) ⟨rfl, rfl, rfl⟩ (asK [] rfl) rfl rfl (.inl rfl)
 ·
  replace hm := iteF hm hb10
  refine wc_keep [0,1] (S' := [_,_]) rfl (wc_skip (we_then (wc_seq ?_)))
  obtain ⟨bj_1, hm, hLj_1⟩ := bindS_some hm
  refine wc_cut (σ := Unit) (fun _ => bj_1 = .inl ()) (fun _ => []) (fun _ => []) (fun _ => []) ?_ ?_
  ·
   refine wc_seq (wc_region (wP rfl (wN rfl tE_25 (wP rfl (wl_nil (we_then (wc_keep [13,12,0,1] (S' := [_,_,_,_]) rfl (wc_block (wc_loop (σ := Nat × Nat) (fun (nu1, u1_13) => iter (m_memory_same_L1 N l0 l1) nu1 u1_13 = some bj_1) (fun (nu1, u1_13) => nu1) (fun (nu1, u1_13) => [(13, .int .i64 ((u1_13 : Nat) : Int)), (12, .int .i64 ((l0.length : Nat) : Int)), (0, .slice qp0 l0.length qc1), (1, .slice qp2 l1.length qc3)]) (fun (nu1, u1_13) => [.sli 3 R_V qp0 qc1 l0, .sli 3 R_V qp2 qc3 l1]) (fun (nu1, u1_13) => []) (N, 0) hm [13,12,0,1] rfl (asK [0,1] rfl) rfl (fun s_ hm => ?_))))))))))
   obtain ⟨nu1, u1_13⟩ := s_
   try dsimp only at hm ⊢
   obtain ⟨mu1, bu1, hnu1, hq, hLu1⟩ := iter_some hm
   clear hm
   subst hnu1
   replace hm := hq
   clear hq
   unfold m_memory_same_L1 at hm
   try dsimp only at hm
   refine wc_seq (wc_region (wP rfl (wl_as (d := 14) (v' := .bool (decide (u1_13 < l0.length))) (S' := [_,_,_,_]) rfl rfl (natlt (a := u1_13) (b := l0.length)) (wl_nil (we_then (wc_seq ?_))))))
   refine wc_cond rfl (fun hb14 => ?_) (fun hb14 => ?_)
   ·
    replace hm := iteT hm hb14
    refine wc_keep [13,12,0,1] (S' := [_,_,_,_]) rfl (wc_skip (we_then (wc_seq (wc_block (wc_seq (wc_region (wP rfl (wP rfl (wl_nil (we_then (wc_keep [5,13,12,0,1] (S' := [_,_,_,_,_]) rfl (wc_seq ?_))))))))))))
    obtain ⟨x18, hx18, hm⟩ := bindO_some hm
    obtain ⟨x22, hx22, hm⟩ := bindO_some hm
    refine wc_draw [0,1,2,3,4,5,6,7,8] rfl rfl (fun hok => (xP hok 0 rfl (xP hok 1 rfl (wx_indexA hok 2 0 u1_13 rfl rfl rfl (freshS_eq rfl) rfl rfl rfl rfl rfl rfl hx18 tE_25 tS_51 (fun b18 q18 cs18 hlx18 => (wx_openR R_V_opens 1 rfl (fun r18 er18 _ => ?_)))))))
    subst er18
    refine wx_load hok 3 0 0 rfl rfl rfl (freshS_eq rfl) rfl rfl rfl rfl (cs := [_,_,_]) rfl tS_51 tA_51 rfl rfl (xP hok 4 rfl (xP hok 5 rfl (wx_indexA hok 6 3 u1_13 rfl rfl rfl (freshS_eq rfl) rfl rfl rfl rfl rfl rfl hx22 tE_25 tS_51 (fun b22 q22 cs22 hlx22 => (wx_openR R_V_opens 1 rfl (fun r22 er22 _ => ?_))))))
    subst er22
    refine wx_load hok 7 0 0 rfl rfl rfl (freshS_eq rfl) rfl rfl rfl rfl (cs := [_,_,_]) rfl tS_51 tA_51 rfl rfl (wx_bin hok 8 rfl rfl rfl (freshS_eq rfl) rfl rfl rfl rfl (neqV _ _ x18 x22) (wx_done hok rfl (we_then (wc_keep [24,13,12,0,1] (S' := [_,_,_,_,_]) rfl ?_))))
    refine wc_cond rfl (fun hb24 => ?_) (fun hb24 => ?_)
    ·
     replace hm := iteT hm hb24
     refine wc_keep [] (S' := []) rfl (wc_seq (wc_region (wP rfl (wl_nil (we_then (wc_ret (we_block_ret (we_then_ret (we_then_ret (we_block_ret (we_then_ret ?_)))))))))))
     have hE := (Option.some.inj hm).symm
     replace hE := link_inr hLu1 hE
     replace hE := link_inr hLj_1 hE
     replace hE := hE.symm
     subst hE
     refine ret_one (Hr := []) [] Tryz.results58 (res_tmp rfl) ⟨rfl, rfl, rfl⟩ (asK [] rfl) rfl rfl (.inl rfl)
    ·
     replace hm := iteF hm hb24
     refine wc_keep [13,12,0,1] (S' := [_,_,_,_]) rfl (wc_skip (we_block_normal (we_then (wc_region (wP rfl ?_)))))
     obtain ⟨hg25, hm⟩ := gd_some hm
     refine wl_as (d := 25) (v' := .int .i64 ((u1_13 + 1 : Nat) : Int)) (S' := [_,_,_,_]) rfl rfl (nat_add (a := u1_13) (b := 1) hg25) (wl_pure (S' := [_,_,_,_]) rfl rfl rfl rfl rfl (wl_nil ?_))
     have hE := (Option.some.inj hm).symm
     replace hE := link_inl hLu1 hE
     refine we_roundK (_, u1_13 + 1) (Nat.lt_succ_self _) hE [13,12,0,1] rfl (asK [4,5] rfl) rfl
   ·
    replace hm := iteF hm hb14
    refine wc_keep [] (S' := []) rfl (wc_exit (we_then_exit (we_then_exit (we_block_hit ?_))))
    have hE := (Option.some.inj hm).symm
    replace hE := link_inr hLu1 hE
    refine we_join () hE [] rfl (asK [] rfl) rfl
  ·
   rintro _ hE
   try dsimp only
   have hm := link_inl hLj_1 hE
   try dsimp only at hm
   refine wc_seq (wc_region (wP rfl (wl_nil (we_then (wc_ret ?_)))))
   have hE := (Option.some.inj hm).symm
   replace hE := hE.symm
   subst hE
   refine ret_one (Hr := []) [] Tryz.results58 (res_tmp rfl) ⟨rfl, rfl, rfl⟩ (asK [] rfl) rfl rfl (.inl rfl)
theorem w_memory_row_says_1_s (N : Nat) (a0 : Int) (a1 : Int) (qp0 : Option Addr) (qc1 : Nat) (l2 : List V) (qg2 : Nat) (a3 : Int) (qg3 : Nat) (qp4 : Option Addr) (qc5 : Nat) (l4 : List V) (o0 : Bool) (hm : m_memory_row_says_1 N a0 a1 l2 a3 l4 = some o0) : Spec Tryz.prog 57 [.agg #[.int .i64 a0, .int .i64 a1, .slice qp0 l2.length qc1], .pointer (some ⟨qg2,0, none⟩), .pointer (some ⟨qg3,0, none⟩)] [.sli 3 R_V qp0 qc1 l2, .sli 3 R_V qp4 qc5 l4] [.blk qg2 [.int .i64 a3] 3, .blk qg3 [.slice qp4 l4.length qc5] 25] (fun v Φr Hr => v = .bool o0 ∧ Φr = [.sli 3 R_V qp4 qc5 l4] ∧ Hr = [.blk qg2 [.int .i64 a3] 3, .blk qg3 [.slice qp4 l4.length qc5] 25]) := by
 unfold m_memory_row_says_1 at hm
 refine spec_of Tryz.func57 rfl Tryz.ntmps57 rfl (S := [_,_,_]) rfl (fun C => (wc_seq (wc_region (wB rfl (fun g3 => (wP rfl (wl_nil (we_then (wc_keep [3,1,2] (S' := [_,_,_]) rfl (wc_seq (wc_region (wF rfl tF_27_1 (wD 0 1 rfl tS_3 tA_3 rfl (wD 1 0 rfl tS_3 tA_3 rfl (wP rfl ?_)))))))))))))))
 refine wP rfl ?_
 refine wl_split (d := 9) (S' := [_,_,_,_,_,_,_]) rfl rfl (fun hs9 => ?_) (fun hs9 => ?_)
 ·
  replace hm := iteT hm hs9
  refine wF rfl tF_27_2 (wD 0 2 rfl tS_25 tA_25 rfl (wD 2 0 rfl tS_25 tA_25 rfl ?_))
  obtain ⟨v13, hc13, hm⟩ := bindO_some hm
  refine wC [] [0,1,2] rfl fn_58 rfl (w_memory_same_s N qp0 qc1 l2 qp4 qc5 l4 _ hc13) (asK [0,1] rfl) rfl (H' := [_,_,_]) rfl ?_
  rintro _ _ _ ⟨rfl, rfl, rfl⟩
  refine wP rfl (wP rfl (wl_nil (we_then (wc_keep [4] (S' := [_]) rfl (wc_ret ?_)))))
  have hE := (Option.some.inj hm).symm
  replace hE := hE.symm
  subst hE
  refine ret_one (Hr := [_,_]) [1,2] Tryz.results57 (res_tmp rfl) ⟨rfl, rfl, rfl⟩ (asK [1] rfl) rfl rfl (.inl rfl)
 ·
  replace hm := iteF hm hs9
  refine wO rfl (wO rfl (wO rfl (wO rfl (wP rfl (wP rfl (wl_nil (we_then (wc_keep [4] (S' := [_]) rfl (wc_ret ?_)))))))))
  have hE := (Option.some.inj hm).symm
  replace hE := hE.symm
  subst hE
  refine ret_one (Hr := [_,_]) [1,2] Tryz.results57 (res_tmp rfl) ⟨rfl, rfl, rfl⟩ (asK [1] rfl) rfl rfl (.inl rfl)
theorem w_slices_IndexFunc_Fact_v2_s (N : Nat) (qp0 : Option Addr) (qn1 : Nat) (qc2 : Nat) (l0 : List FactD) (qg3 : Nat) (a1 : Int) (qg4 : Nat) (qp5 : Option Addr) (qc6 : Nat) (l2 : List V) (o0 : Int) (hm : m_slices_IndexFunc_Fact N l0 a1 l2 = some o0) : Spec Tryz.prog 56 [.slice qp0 qn1 qc2, .func (.func 57) #[] #[.pointer (some ⟨qg3,0, none⟩), .pointer (some ⟨qg4,0, none⟩)]] [.sli 3 R_V qp5 qc6 l2] [.own 27 3 R_FactD (.slice qp0 qn1 qc2) l0, .blk qg3 [.int .i64 a1] 3, .blk qg4 [.slice qp5 l2.length qc6] 25] (fun v Φr Hr => v = .int .i64 o0 ∧ Φr = [.sli 3 R_V qp5 qc6 l2] ∧ Hr = [.own 27 3 R_FactD (.slice qp0 qn1 qc2) l0, .blk qg3 [.int .i64 a1] 3, .blk qg4 [.slice qp5 l2.length qc6] 25]) := by
 unfold m_slices_IndexFunc_Fact at hm
 refine spec_of Tryz.func56 rfl Tryz.ntmps56 rfl (S := [_,_]) rfl (fun C => (wc_seq (wc_region (wP rfl (wl_nil (we_then (wc_keep [0,1] (S' := [_,_]) rfl (wc_seq ?_))))))))
 obtain ⟨bj_1, hm, hLj_1⟩ := bindS_some hm
 refine wc_cut (σ := Unit) (fun _ => bj_1 = .inl ()) (fun _ => []) (fun _ => [.sli 3 R_V qp5 qc6 l2]) (fun _ => [.own 27 3 R_FactD (.slice qp0 qn1 qc2) l0, .blk qg3 [.int .i64 a1] 3, .blk qg4 [.slice qp5 l2.length qc6] 25]) ?_ ?_
 ·
  refine wc_seq (wc_region (wP rfl (wl_ownLen 0 rfl (fun hl7 _ => (wN rfl tE_22 (wl_as (d := 7) (v' := .int .i64 ((l0.length : Nat) : Int)) (S' := [_,_,_]) rfl rfl (len_is hl7) (wP rfl (wl_nil (we_then (wc_keep [8,7,0,1] (S' := [_,_,_,_]) rfl (wc_block (wc_loop (σ := Nat × Nat) (fun (nu1, u1_8) => iter (m_slices_IndexFunc_Fact_L1 N l0 a1 l2) nu1 u1_8 = some bj_1) (fun (nu1, u1_8) => nu1) (fun (nu1, u1_8) => [(8, .int .i64 ((u1_8 : Nat) : Int)), (7, .int .i64 ((l0.length : Nat) : Int)), (0, .slice qp0 qn1 qc2), (1, .func (.func 57) #[] #[.pointer (some ⟨qg3,0, none⟩), .pointer (some ⟨qg4,0, none⟩)])]) (fun (nu1, u1_8) => [.sli 3 R_V qp5 qc6 l2]) (fun (nu1, u1_8) => [.own 27 3 R_FactD (.slice qp0 qn1 qc2) l0, .blk qg3 [.int .i64 a1] 3, .blk qg4 [.slice qp5 l2.length qc6] 25]) (N, 0) hm [8,7,0,1] rfl (asK [0] rfl) rfl (fun s_ hm => ?_)))))))))))))
  obtain ⟨nu1, u1_8⟩ := s_
  try dsimp only at hm ⊢
  obtain ⟨mu1, bu1, hnu1, hq, hLu1⟩ := iter_some hm
  clear hm
  subst hnu1
  replace hm := hq
  clear hq
  unfold m_slices_IndexFunc_Fact_L1 at hm
  try dsimp only at hm
  refine wc_seq (wc_region (wP rfl (wl_as (d := 9) (v' := .bool (decide (u1_8 < l0.length))) (S' := [_,_,_,_]) rfl rfl (natlt (a := u1_8) (b := l0.length)) (wl_nil (we_then (wc_seq ?_))))))
  refine wc_cond rfl (fun hb9 => ?_) (fun hb9 => ?_)
  ·
   replace hm := iteT hm hb9
   refine wc_keep [8,7,0,1] (S' := [_,_,_,_]) rfl (wc_skip (we_then (wc_seq (wc_block (wc_seq (wc_region (wP rfl (wP rfl (wl_nil (we_then (wc_keep [5,8,7,0,1] (S' := [_,_,_,_,_]) rfl (wc_seq (wc_region ?_)))))))))))))
   refine wP rfl (wP rfl (wP rfl ?_))
   obtain ⟨x14, hx14, hm⟩ := bindO_some hm
   refine wl_indexH 0 u1_8 rfl rfl rfl (freshS_eq rfl) rfl rfl rfl rfl rfl (get_lt hx14) tE_22 tS_27 (fun g14 eg14 => ?_)
   subst eg14
   refine wl_loadRow R_FactD_opens 0 u1_8 0 rfl rfl rfl (freshS_eq rfl) rfl rfl rfl hx14 tS_27 tA_27 (v := fun r15 => .agg #[.int .i64 (x14.id), .int .i64 (x14.ty), .slice r15.1 x14.args.length r15.2]) (fun _ => rfl) (fun _ => rfl) (fun r15 _ => ?_)
   obtain ⟨v16, hc16, hm⟩ := bindO_some hm
   refine wl_callDyn [1,2] [0] rfl rfl rfl (freshS_eq rfl) rfl rfl rfl fn_57 rfl rfl (w_memory_row_says_1_s N x14.id x14.ty r15.1 r15.2 x14.args qg3 a1 qg4 qp5 qc6 l2 _ hc16) (asK [0,1] rfl) rfl (H' := [_]) rfl ?_
   rintro _ _ _ ⟨rfl, rfl, rfl⟩
   refine wl_nil (we_then (wc_keep [16,5,8,7,0,1] (S' := [_,_,_,_,_,_]) rfl ?_))
   refine wc_cond rfl (fun hb16 => ?_) (fun hb16 => ?_)
   ·
    replace hm := iteT hm hb16
    refine wc_keep [5] (S' := [_]) rfl (wc_seq (wc_region (wP rfl (wP rfl (wl_nil (we_then (wc_keep [4] (S' := [_]) rfl (wc_ret (we_block_ret (we_then_ret (we_then_ret (we_block_ret (we_then_ret ?_)))))))))))))
    have hE := (Option.some.inj hm).symm
    replace hE := link_inr hLu1 hE
    replace hE := link_inr hLj_1 hE
    replace hE := hE.symm
    subst hE
    refine ret_one (Hr := [_,_,_]) [2,0,1] Tryz.results56 (res_tmp rfl) ⟨rfl, rfl, rfl⟩ (asK [0] rfl) rfl rfl (.inl rfl)
   ·
    replace hm := iteF hm hb16
    refine wc_keep [8,7,0,1] (S' := [_,_,_,_]) rfl (wc_skip (we_block_normal (we_then (wc_region (wP rfl ?_)))))
    obtain ⟨hg18, hm⟩ := gd_some hm
    refine wl_as (d := 18) (v' := .int .i64 ((u1_8 + 1 : Nat) : Int)) (S' := [_,_,_,_]) rfl rfl (nat_add (a := u1_8) (b := 1) hg18) (wl_pure (S' := [_,_,_,_]) rfl rfl rfl rfl rfl (wl_nil ?_))
    have hE := (Option.some.inj hm).symm
    replace hE := link_inl hLu1 hE
    refine we_pick [2,0,1] rfl (H' := [_,_,_]) rfl ?_
    refine we_roundK (_, u1_8 + 1) (Nat.lt_succ_self _) hE [8,7,0,1] rfl (asK [0] rfl) rfl
  ·
   replace hm := iteF hm hb9
   refine wc_keep [] (S' := []) rfl (wc_exit (we_then_exit (we_then_exit (we_block_hit ?_))))
   have hE := (Option.some.inj hm).symm
   replace hE := link_inr hLu1 hE
   refine we_join () hE [] rfl (asK [0] rfl) rfl
 ·
  rintro _ hE
  try dsimp only
  have hm := link_inl hLj_1 hE
  try dsimp only at hm
  refine wc_seq (wc_region (wP rfl (wl_nil (we_then (wc_ret ?_)))))
  have hE := (Option.some.inj hm).symm
  replace hE := hE.symm
  subst hE
  refine ret_one (Hr := [_,_,_]) [0,1,2] Tryz.results56 (res_tmp rfl) ⟨rfl, rfl, rfl⟩ (asK [0] rfl) rfl rfl (.inl rfl)
theorem w_memory_row_says_s (N : Nat) (qg0 : Nat) (qp1 : Option Addr) (qn2 : Nat) (qc3 : Nat) (l0 : List FactD) (a1 : Int) (a2 : Int) (qp4 : Option Addr) (qc5 : Nat) (l3 : List V) (o0 : Int) (hm : m_memory_row_says N l0 a1 a2 l3 = some o0) : Spec Tryz.prog 27 [.pointer (some ⟨qg0,0, none⟩), .int .i64 a2, .slice qp4 l3.length qc5] [.sli 3 R_V qp4 qc5 l3] [.blk qg0 [.slice qp1 qn2 qc3, .int .i64 a1] 61, .own 27 3 R_FactD (.slice qp1 qn2 qc3) l0] (fun v Φr Hr => v = .int .i64 o0 ∧ Φr = [] ∧ Hr = [.blk qg0 [.slice qp1 qn2 qc3, .int .i64 a1] 61, .own 27 3 R_FactD (.slice qp1 qn2 qc3) l0]) := by
 unfold m_memory_row_says at hm
 refine spec_of Tryz.func27 rfl Tryz.ntmps27 rfl (S := [_,_,_]) rfl (fun C => (wc_seq (wc_region (wB rfl (fun g4 => (wB rfl (fun g5 => (wP rfl (wl_nil (we_then (wc_keep [5,4,0] (S' := [_,_,_]) rfl (wc_seq (wc_region (wP rfl (wP rfl (wF rfl tF_59_0 ?_))))))))))))))))
 refine wD 2 0 rfl tS_22 tA_22 rfl (wl_makeFunc rfl rfl rfl (freshS_eq rfl) rfl rfl (wl_ownLen 3 rfl (fun hzqn2 _ => ?_)))
 subst hzqn2
 obtain ⟨v12, hc12, hm⟩ := bindO_some hm
 refine wC [3,1,0] [2] rfl fn_56 rfl (w_slices_IndexFunc_Fact_v2_s N qp1 l0.length qc3 l0 g4 a2 g5 qp4 qc5 l3 _ hc12) (asK [0] rfl) rfl (H' := [_]) rfl ?_
 rintro _ _ _ ⟨rfl, rfl, rfl⟩
 refine wP rfl (wl_nil (we_then (wc_keep [6] (S' := [_]) rfl (wc_ret ?_))))
 have hE := (Option.some.inj hm).symm
 replace hE := hE.symm
 subst hE
 refine ret_one (Hr := [_,_]) [3,0] Tryz.results27 (res_tmp rfl) ⟨rfl, rfl, rfl⟩ (asK [] rfl) rfl rfl (.inl rfl)
theorem Clone59f_s (p : Option Addr) (c : Nat) (l : List V) (hb : l.length ≤ 4398046511104) : Spec Tryz.prog 59 [.slice p l.length c] [.sli 3 R_V p c l] [] (fun v Φr Hr => ∃ p' c', v = .slice p' l.length c' ∧ Φr = [] ∧ Hr = [.own 51 3 R_V v l]) := by
 refine spec_of Tryz.func59 rfl Tryz.ntmps59 rfl (S := [_]) rfl (fun C => (wc_know (fun F w h => sli_nil (h _ (mem_at (k := 0) rfl))) (fun isnil => (wc_seq (wc_region (wP rfl (wl_nil (we_then (wc_seq (wc_seq (wc_region (wP rfl (wl_eqlNil rfl rfl rfl (freshS_eq rfl) rfl rfl rfl tE_25 (wl_nil (we_then ?_)))))))))))))))
 refine wc_keep [4,2,0] (S' := [_,_,_]) rfl ?_
 refine wc_cond rfl (fun h4 => ?_) (fun h4 => ?_)
 ·
  replace h4 := isNone_true h4
  obtain rfl := isnil h4
  subst h4
  refine wc_rowNil 51 3 R_V (wc_seq (wc_region (wl_pure (S' := [_,_]) rfl rfl rfl rfl rfl (wl_nil (we_then (wc_ret (we_then_ret (ret_one (Hr := [.own 51 3 R_V (.slice none 0 0) []]) [0] Tryz.results59 (res_tmp rfl) ?_ (asK [] rfl) rfl rfl (.inl rfl)))))))))
  exact ⟨none, 0, rfl, rfl, rfl⟩
 ·
  replace h4 := isNone_false h4
  refine wc_skip (we_then (wc_seq (wc_region (wl_buildSlice rfl rfl rfl (freshS_eq rfl) rfl tE_25 tS_51 tZ_51 rfl (zs := []) (by kernel_rfl) rfl (out := []) rfl (fun g5 => (wP rfl (wl_row (sz := 3) (m := 0) R_V [] 0 rfl (fun F w hφ => rfl) rfl (by decide) (H' := [_]) rfl (wl_append 0 0 rfl rfl rfl (freshS_eq rfl) rfl rfl rfl rfl rfl tE_25 tR_51 rfl rfl (by simp; omega) (by simp; omega) (H2 := fun p7 c7 => [.own 51 3 R_V (.slice p7 (l).length c7) l]) (fun _ _ => rfl) (fun p7 c7 => (wl_pure (S' := [_,_,_,_,_]) rfl rfl rfl rfl rfl (wl_nil (we_then (wc_keep [2,4,0] (S' := [_,_,_]) rfl (wc_ret (ret_one (Hr := [.own 51 3 R_V (.slice p7 (l).length c7) l]) [0] Tryz.results59 (res_tmp rfl) ?_ (asK [] rfl) rfl rfl (.inl rfl))))))))))))))))
  exact ⟨_,_, rfl, rfl, rfl⟩
theorem w_memory_own_s (N : Nat) (a0 : Int) (a1 : Int) (qp0 : Option Addr) (qc1 : Nat) (l2 : List V)  (hm : m_memory_own N a0 a1 l2 = some ()) : Spec Tryz.prog 28 [.agg #[.int .i64 a0, .int .i64 a1, .slice qp0 l2.length qc1]] [.sli 3 R_V qp0 qc1 l2] [] (fun v Φr Hr => ∃ (o0 : Option Addr) (o1 : Nat), v = .agg #[.int .i64 a0, .int .i64 a1, .slice o0 l2.length o1] ∧ Φr = [] ∧ Hr = [.own 51 3 R_V (.slice o0 l2.length o1) l2]) := by
 unfold m_memory_own at hm
 refine spec_of Tryz.func28 rfl Tryz.ntmps28 rfl (S := [_]) rfl (fun C => (wc_seq (wc_region (wB rfl (fun g1 => (wl_alloc rfl rfl rfl (freshS_eq rfl) rfl tZ_27 rfl (fun g2 => (wl_nil (we_then (wc_keep [2,1] (S' := [_,_]) rfl (wc_seq (wc_region (wF rfl tF_27_2 (wD 1 2 rfl tS_25 tA_25 rfl ?_))))))))))))))
 obtain ⟨hg5, hm⟩ := gd_some hm
 refine wC [] [0,1] rfl fn_59 rfl (Clone59f_s qp0 qc1 l2 hg5) (asK [0] rfl) rfl (H' := [_,_]) rfl ?_
 rintro _ _ _ ⟨p5, c5, rfl, rfl, rfl⟩
 refine wF rfl tF_27_2 (wS 2 2 rfl tS_25 (all' := [_,_,_]) rfl (H' := [_,_,_]) rfl (wl_nil (we_then (wc_keep [2,1] (S' := [_,_]) rfl (wc_seq (wc_region (wl_loadH 2 0 rfl rfl rfl (freshS_eq rfl) rfl rfl rfl (cs := [_,_,_]) rfl tS_27 tA_27 rfl rfl (wS 1 0 rfl tS_27 (all' := [_,_,_]) rfl (H' := [_,_,_]) rfl (wl_nil (we_then (wc_keep [2] (S' := [_]) rfl (wc_ret ?_))))))))))))
 have hE := (Option.some.inj hm).symm
 refine ret_one (Hr := [_]) [0] Tryz.results28 (res_cell 1 rfl rfl tS_27 tA_27 rfl rfl) ⟨p5, c5, rfl, rfl, rfl⟩ (asK [] rfl) rfl rfl (.inl rfl)
theorem w_memory_Memory_Add_s (N : Nat) (qg0 : Nat) (qp1 : Option Addr) (qn2 : Nat) (qc3 : Nat) (l0 : List FactD) (a1 : Int) (a2 : Int) (qp4 : Option Addr) (qc5 : Nat) (l3 : List V) (o0 : Int) (o1 : Nat) (o4 : List FactD) (o6 : Int) (hm : m_memory_Memory_Add N l0 a1 a2 l3 = some (o0, o1, o4, o6)) : Spec Tryz.prog 20 [.pointer (some ⟨qg0,0, none⟩), .int .i64 a2, .slice qp4 l3.length qc5] [.sli 3 R_V qp4 qc5 l3] [.blk qg0 [.slice qp1 qn2 qc3, .int .i64 a1] 61, .own 27 3 R_FactD (.slice qp1 qn2 qc3) l0] (fun v Φr Hr => ∃ (o2 : Option Addr) (o3 : Nat) (o5 : Nat), v = .tuple #[.int .i64 o0, .int .i64 ((o1 : Nat) : Int)] ∧ Φr = [] ∧ Hr = [.blk qg0 [.slice o2 o5 o3, .int .i64 o6] 61, .own 27 3 R_FactD (.slice o2 o5 o3) o4]) := by
 unfold m_memory_Memory_Add at hm
 refine spec_of Tryz.func20 rfl Tryz.ntmps20 rfl (S := [_,_,_]) rfl (fun C => (wc_seq (wc_region (wP rfl (wP rfl (wl_nil (we_then (wc_keep [0,1,2] (S' := [_,_,_]) rfl (wc_seq (wc_block (wc_seq (wc_region (wP rfl ?_)))))))))))))
 obtain ⟨_, hc11, hm⟩ := bindO_some hm
 try dsimp only at hm
 refine wC [0,1] [] rfl fn_45 rfl (w_memory_Memory_known_s N qg0 qp1 qn2 qc3 l0 a1 hc11) (asK [] rfl) rfl (H' := []) rfl ?_
 rintro _ _ _ ⟨rfl, rfl, rfl⟩
 refine wP rfl (wP rfl (wl_nil (we_then (wc_keep [9,0,1,2] (S' := [_,_,_,_]) rfl ?_))))
 refine wc_cond rfl (fun hb9 => ?_) (fun hb9 => ?_)
 ·
  replace hm := iteT hm hb9
  refine wc_keep [] (S' := []) rfl (wc_seq (wc_region (wP rfl (wP rfl (wl_nil (we_then (wc_ret (we_block_ret (we_then_ret ?_)))))))))
  have hE := (Option.some.inj hm).symm
  obtain ⟨hE0, hF1⟩ := Prod.mk.inj hE
  obtain ⟨hE1, hF2⟩ := Prod.mk.inj hF1
  obtain ⟨hE2, hE3⟩ := Prod.mk.inj hF2
  clear hE hF1 hF2
  replace hE0 := hE0.symm
  subst hE0
  replace hE1 := hE1.symm
  subst hE1
  replace hE2 := hE2.symm
  subst hE2
  replace hE3 := hE3.symm
  subst hE3
  refine ret_two (Hr := [_,_]) [0,1] Tryz.results20 (res_tmp rfl) (res_tmp rfl) ⟨qp1, qc3, qn2, rfl, rfl, rfl⟩ (asK [] rfl) rfl rfl (.inl rfl)
 ·
  replace hm := iteF hm hb9
  refine wc_keep [0,1,2] (S' := [_,_,_]) rfl (wc_seq (wc_region (wP rfl (wP rfl ?_))))
  obtain ⟨v16, hc16, hm⟩ := bindO_some hm
  refine wC [] [0,1] rfl fn_26 rfl (w_memory_may_s N a2 qp4 qc5 l3 _ hc16) (asK [0] rfl) rfl (H' := [_,_]) rfl ?_
  rintro _ _ _ ⟨rfl, rfl, rfl⟩
  refine wP rfl (wP rfl (wl_nil (we_then (wc_keep [13,0,1,2] (S' := [_,_,_,_]) rfl ?_))))
  refine wc_cond rfl (fun hb13 => ?_) (fun hb13 => ?_)
  ·
   replace hm := iteT hm hb13
   refine wc_keep [] (S' := []) rfl (wc_seq (wc_region (wP rfl (wP rfl (wl_nil (we_then (wc_ret (we_block_ret (we_then_ret ?_)))))))))
   have hE := (Option.some.inj hm).symm
   obtain ⟨hE0, hF1⟩ := Prod.mk.inj hE
   obtain ⟨hE1, hF2⟩ := Prod.mk.inj hF1
   obtain ⟨hE2, hE3⟩ := Prod.mk.inj hF2
   clear hE hF1 hF2
   replace hE0 := hE0.symm
   subst hE0
   replace hE1 := hE1.symm
   subst hE1
   replace hE2 := hE2.symm
   subst hE2
   replace hE3 := hE3.symm
   subst hE3
   refine ret_two (Hr := [_,_]) [0,1] Tryz.results20 (res_tmp rfl) (res_tmp rfl) ⟨qp1, qc3, qn2, rfl, rfl, rfl⟩ (asK [] rfl) rfl rfl (.inl rfl)
  ·
   replace hm := iteF hm hb13
   refine wc_keep [0,1,2] (S' := [_,_,_]) rfl (wc_skip (we_block_normal (we_then (wc_seq (wc_seq (wc_region (wP rfl (wP rfl (wF rfl tF_61_0 (wP rfl (wP rfl ?_)))))))))))
   obtain ⟨v23, hc23, hm⟩ := bindO_some hm
   refine wC [0,1] [] rfl fn_27 rfl (w_memory_row_says_s N qg0 qp1 qn2 qc3 l0 a1 a2 qp4 qc5 l3 _ hc23) (asK [0] rfl) rfl (H' := []) rfl ?_
   rintro _ _ _ ⟨rfl, rfl, rfl⟩
   refine wP rfl (wl_nil (we_then (wc_keep [8,0,1,2] (S' := [_,_,_,_]) rfl (wc_seq (wc_region (wP rfl (wP rfl (wl_nil (we_then (wc_keep [25,8,0,1,2] (S' := [_,_,_,_,_]) rfl ?_))))))))))
   refine wc_cond rfl (fun hb25 => ?_) (fun hb25 => ?_)
   ·
    replace hm := iteT hm hb25
    refine wc_keep [8,0] (S' := [_,_]) rfl (wc_seq (wc_region (wP rfl (wP rfl (wF rfl tF_61_0 (wF rfl tF_59_0 (wD 0 0 rfl tS_22 tA_22 rfl (wP rfl ?_))))))))
    obtain ⟨hn32, hm⟩ := gd_some hm
    obtain ⟨x32, hx32, hm⟩ := bindO_some hm
    refine wl_indexH 1 v23.toNat rfl rfl rfl (freshS_eq rfl) rfl rfl rfl rfl (toNat_eq hn32) (get_lt hx32) tE_22 tS_27 (fun g32 eg32 => ?_)
    subst eg32
    refine wF rfl tF_27_0 (wl_loadRow R_FactD_opens 1 v23.toNat 0 rfl rfl rfl (freshS_eq rfl) rfl rfl rfl hx32 tS_3 tA_3 (v := fun r34 => .int .i64 (x32.id)) (fun _ => rfl) (fun _ => rfl) (fun r34 _ => (wP rfl (wP rfl (wl_nil (we_then (wc_keep [7,6] (S' := [_,_]) rfl (wc_ret (we_then_ret ?_)))))))))
    have hE := (Option.some.inj hm).symm
    obtain ⟨hE0, hF1⟩ := Prod.mk.inj hE
    obtain ⟨hE1, hF2⟩ := Prod.mk.inj hF1
    obtain ⟨hE2, hE3⟩ := Prod.mk.inj hF2
    clear hE hF1 hF2
    replace hE0 := hE0.symm
    subst hE0
    replace hE1 := hE1.symm
    subst hE1
    replace hE2 := hE2.symm
    subst hE2
    replace hE3 := hE3.symm
    subst hE3
    refine ret_two (Hr := [_,_]) [0,1] Tryz.results20 (res_tmp rfl) (res_tmp rfl) ⟨some ⟨g32,0, none⟩, qc3, qn2, rfl, rfl, rfl⟩ (asK [] rfl) rfl rfl (.inl rfl)
   ·
    replace hm := iteF hm hb25
    refine wc_keep [0,1,2] (S' := [_,_,_]) rfl (wc_skip (we_then (wc_seq (wc_seq ?_))))
    obtain ⟨bj_1, hm, hLj_1⟩ := bindO_some hm
    refine wc_cut (σ := Bool) (fun j_1_48 => bj_1 = j_1_48) (fun j_1_48 => [(0, .pointer (some ⟨qg0,0, none⟩)), (1, .int .i64 a2), (2, .slice qp4 l3.length qc5), (48, .bool j_1_48)]) (fun j_1_48 => [.sli 3 R_V qp4 qc5 l3]) (fun j_1_48 => [.blk qg0 [.slice qp1 qn2 qc3, .int .i64 a1] 61, .own 27 3 R_FactD (.slice qp1 qn2 qc3) l0]) ?_ ?_
    ·
     refine wc_region (wP rfl (wP rfl (wF rfl tF_61_0 (wF rfl tF_59_0 (wD 0 0 rfl tS_22 tA_22 rfl (wl_ownLen 1 rfl (fun hl40 _ => (wN rfl tE_22 (wl_as (d := 40) (v' := .int .i64 ((l0.length : Nat) : Int)) (S' := [_,_,_,_,_,_,_,_]) rfl rfl (len_is hl40) (wP rfl (wl_as (d := 41) (v' := .bool (decide (256 ≤ l0.length))) (S' := [_,_,_,_,_,_,_,_,_]) rfl rfl (natge (a := l0.length) (b := 256)) (wP rfl ?_))))))))))))
     refine wl_split (d := 42) (S' := [_,_,_,_,_,_,_,_,_,_]) rfl rfl (fun hs42 => ?_) (fun hs42 => ?_)
     ·
      replace hm := iteT hm hs42
      refine wO rfl (wO rfl (wO rfl (wO rfl (wO rfl (wP rfl (wl_nil ?_))))))
      have hE := (Option.some.inj hm).symm
      refine we_join true hE [0,1,2,48] rfl (asK [0] rfl) rfl
     ·
      replace hm := iteF hm hs42
      refine wP rfl (wP rfl (wF rfl tF_61_1 (wD 0 1 rfl tS_3 tA_3 rfl (wP rfl (wP rfl (wl_nil ?_))))))
      have hE := (Option.some.inj hm).symm
      refine we_join (decide (a1 > 1099511627776)) hE [0,1,2,48] rfl (asK [0] rfl) rfl
    ·
     rintro j_1_48 hE
     try dsimp only
     have hm := hLj_1
     rw [hE] at hm
     refine wc_cond rfl (fun hb48 => ?_) (fun hb48 => ?_)
     ·
      replace hm := iteT hm hb48
      refine wc_keep [] (S' := []) rfl (wc_seq (wc_region (wP rfl (wP rfl (wl_nil (we_then (wc_ret (we_then_ret ?_))))))))
      have hE := (Option.some.inj hm).symm
      obtain ⟨hE0, hF1⟩ := Prod.mk.inj hE
      obtain ⟨hE1, hF2⟩ := Prod.mk.inj hF1
      obtain ⟨hE2, hE3⟩ := Prod.mk.inj hF2
      clear hE hF1 hF2
      replace hE0 := hE0.symm
      subst hE0
      replace hE1 := hE1.symm
      subst hE1
      replace hE2 := hE2.symm
      subst hE2
      replace hE3 := hE3.symm
      subst hE3
      refine ret_two (Hr := [_,_]) [0,1] Tryz.results20 (res_tmp rfl) (res_tmp rfl) ⟨qp1, qc3, qn2, rfl, rfl, rfl⟩ (asK [] rfl) rfl rfl (.inl rfl)
     ·
      replace hm := iteF hm hb48
      refine wc_keep [0,1,2] (S' := [_,_,_]) rfl (wc_skip (we_then (wc_seq ?_)))
      obtain ⟨_, hc62, hm⟩ := bindO_some hm
      try dsimp only at hm
      obtain ⟨hg64, hm⟩ := gd_some hm
      refine wc_draw [0,1,2,3,4,5,6,7,8,9,10,11,12,16,17,18] rfl rfl (fun hok => (xP hok 0 rfl (xP hok 1 rfl (xP hok 2 rfl (wx_fieldAddr hok 3 rfl rfl rfl (freshS_eq rfl) rfl rfl rfl tF_61_0 (wx_fieldAddr hok 4 rfl rfl rfl (freshS_eq rfl) rfl rfl rfl tF_59_0 (wx_loadH hok 5 0 0 rfl rfl rfl (freshS_eq rfl) rfl rfl rfl rfl (cs := [_]) rfl tS_22 tA_22 rfl rfl (xP hok 6 rfl (xP hok 7 rfl (wx_fieldAddr hok 8 rfl rfl rfl (freshS_eq rfl) rfl rfl rfl tF_61_1 (wx_loadH hok 9 0 1 rfl rfl rfl (freshS_eq rfl) rfl rfl rfl rfl (cs := [_]) rfl tS_3 tA_3 rfl rfl (xP hok 10 rfl (xP hok 11 rfl (wx_build hok 12 rfl rfl rfl (freshS_eq rfl) rfl rfl tZ_27 tP_27 rfl (out := [_,_,_]) rfl ?_))))))))))))))
      refine xS hok 13 rfl (wC [] [0,1] rfl fn_28 rfl (w_memory_own_s N a1 a2 qp4 qc5 l3 hc62) (asK [0] rfl) rfl (H' := [_,_]) rfl ?_)
      rintro _ _ _ ⟨p62_0, c62_1, rfl, rfl, rfl⟩
      refine wl_nil (we_x [0] [1,1] rfl rfl (xS hok 14 rfl (wl_buildSlice rfl rfl rfl (freshS_eq rfl) rfl tE_22 tS_27 tZ_27 rfl (zs := [.int .i64 0, .int .i64 0, .slice none 0 0]) (by kernel_rfl) rfl (out := [_,_,_]) rfl (fun g63 => (wl_nil (we_x [0] [2,2] rfl rfl (xS hok 15 rfl (wl_freeze 1 rfl (H' := [_,_,_]) rfl (wl_fact (.sli 3 R_V p62_0 c62_1 l3) (fun F w hφ => own_sli (hφ _ (mem_at (k := 0) rfl))) (wl_appendH ([(⟨a1, a2, l3⟩ : FactD)]) 2 0 rfl rfl rfl (freshS_eq rfl) rfl rfl rfl rfl rfl (fun F w hφ => ⟨[.int .i64 a1, .int .i64 a2, .slice p62_0 l3.length c62_1],[], rfl, rfl, ⟨(p62_0, c62_1), rfl, (ask_cons (hφ _ (mem_at (k := 0) rfl)) ask_nil)⟩, rfl⟩) tE_22 tR_27 rfl rfl (Nat.le_trans hg64 (by decide)) (Nat.le_trans (Nat.mul_le_mul_right _ hg64) (by decide)) (H2 := fun p64 c64 => [_,_, .own 27 3 R_FactD (.slice p64 ((l0 ++ ([(⟨a1, a2, l3⟩ : FactD)])).length) c64) (l0 ++ ([(⟨a1, a2, l3⟩ : FactD)]))]) (fun _ _ => rfl) (fun p64 c64 => (wl_drop 0 rfl (H' := [_,_]) rfl (wl_nil (we_x [2] [0] rfl rfl (xP hok 16 rfl ?_)))))))))))))))
      refine wx_fieldAddr hok 17 rfl rfl rfl (freshS_eq rfl) rfl rfl rfl tF_61_0 (wx_fieldAddr hok 18 rfl rfl rfl (freshS_eq rfl) rfl rfl rfl tF_59_0 (xS hok 19 rfl (wS 0 0 rfl tS_22 (all' := [_,_]) rfl (H' := [_,_]) rfl (wl_nil (we_x [0,1,2] [] rfl rfl (wx_done hok rfl (we_then (wc_keep [0] (S' := [_]) rfl (wc_seq (wc_region (wP rfl (wP rfl (wF rfl tF_61_1 ?_)))))))))))))
      refine wD 0 1 rfl tS_3 tA_3 rfl (wP rfl ?_)
      obtain ⟨hg72, hm⟩ := gd_some hm
      refine wl_as (d := 72) (v' := .int .i64 (a1 + 1)) (S' := [_,_,_,_,_]) rfl rfl (i64_in hg72) (wP rfl (wF rfl tF_61_1 (wS 0 1 rfl tS_3 (all' := [_,_]) rfl (H' := [_,_]) rfl (wl_nil (we_then (wc_keep [0] (S' := [_]) rfl (wc_seq (wc_region (wP rfl (wP rfl (wF rfl tF_61_1 (wD 0 1 rfl tS_3 tA_3 rfl (wP rfl ?_)))))))))))))
      obtain ⟨hg79, hm⟩ := gd_some hm
      refine wl_as (d := 79) (v' := .int .i64 ((a1 + 1) - 1)) (S' := [_,_,_,_,_]) rfl rfl (i64_in hg79) (wP rfl (wP rfl (wl_nil (we_then (wc_keep [7,6] (S' := [_,_]) rfl (wc_ret ?_))))))
      have hE := (Option.some.inj hm).symm
      obtain ⟨hE0, hF1⟩ := Prod.mk.inj hE
      obtain ⟨hE1, hF2⟩ := Prod.mk.inj hF1
      obtain ⟨hE2, hE3⟩ := Prod.mk.inj hF2
      clear hE hF1 hF2
      replace hE0 := hE0.symm
      subst hE0
      replace hE1 := hE1.symm
      subst hE1
      replace hE2 := hE2.symm
      subst hE2
      replace hE3 := hE3.symm
      subst hE3
      refine ret_two (Hr := [_,_]) [0,1] Tryz.results20 (res_tmp rfl) (res_tmp rfl) ⟨p64, c64, (l0 ++ ([(⟨a1, a2, l3⟩ : FactD)])).length, rfl, rfl, rfl⟩ (asK [] rfl) rfl rfl (.inl rfl)
theorem w_memory_row_says_1_v2_s (N : Nat) (a0 : Int) (a1 : Int) (qp0 : Option Addr) (qc1 : Nat) (l2 : List V) (qg2 : Nat) (a3 : Int) (qg3 : Nat) (qp4 : Option Addr) (qn5 : Nat) (qc6 : Nat) (l4 : List V) (o0 : Bool) (hm : m_memory_row_says_1 N a0 a1 l2 a3 l4 = some o0) : Spec Tryz.prog 57 [.agg #[.int .i64 a0, .int .i64 a1, .slice qp0 l2.length qc1], .pointer (some ⟨qg2,0, none⟩), .pointer (some ⟨qg3,0, none⟩)] [.sli 3 R_V qp0 qc1 l2] [.blk qg2 [.int .i64 a3] 3, .blk qg3 [.slice qp4 qn5 qc6] 25, .own 51 3 R_V (.slice qp4 qn5 qc6) l4] (fun v Φr Hr => v = .bool o0 ∧ Φr = [] ∧ Hr = [.blk qg2 [.int .i64 a3] 3, .blk qg3 [.slice qp4 qn5 qc6] 25, .own 51 3 R_V (.slice qp4 qn5 qc6) l4]) := by
 unfold m_memory_row_says_1 at hm
 refine spec_of Tryz.func57 rfl Tryz.ntmps57 rfl (S := [_,_,_]) rfl (fun C => (wc_seq (wc_region (wB rfl (fun g3 => (wP rfl (wl_nil (we_then (wc_keep [3,1,2] (S' := [_,_,_]) rfl (wc_seq (wc_region (wF rfl tF_27_1 (wD 0 1 rfl tS_3 tA_3 rfl (wD 1 0 rfl tS_3 tA_3 rfl (wP rfl ?_)))))))))))))))
 refine wP rfl ?_
 refine wl_split (d := 9) (S' := [_,_,_,_,_,_,_]) rfl rfl (fun hs9 => ?_) (fun hs9 => ?_)
 ·
  replace hm := iteT hm hs9
  refine wF rfl tF_27_2 (wD 0 2 rfl tS_25 tA_25 rfl (wD 2 0 rfl tS_25 tA_25 rfl (wl_ownLen 3 rfl (fun hzqn5 _ => ?_))))
  subst hzqn5
  obtain ⟨v13, hc13, hm⟩ := bindO_some hm
  refine wl_lend [] [0,1,2,3] [3] rfl rfl rfl (freshS_eq rfl) rfl rfl fn_58 rfl (w_memory_same_s N qp0 qc1 l2 qp4 qc6 l4 _ hc13) (fun F w hφ hh => (ask_cons (hφ _ (mem_at (k := 0) rfl)) (ask_cons (own_sli (hh _ (mem_at (k := 0) rfl))) ask_nil))) (fun _ _ _ hR => by obtain ⟨rfl, rfl, rfl⟩ := hR; exact ⟨rfl, (fun _ h => free_nil h)⟩) rfl rfl (H' := [_,_,_,_]) rfl ?_
  rintro _ _ _ ⟨rfl, rfl, rfl⟩
  refine wP rfl (wP rfl (wl_nil (we_then (wc_keep [4] (S' := [_]) rfl (wc_ret ?_)))))
  have hE := (Option.some.inj hm).symm
  replace hE := hE.symm
  subst hE
  refine ret_one (Hr := [_,_,_]) [1,2,3] Tryz.results57 (res_tmp rfl) ⟨rfl, rfl, rfl⟩ (asK [] rfl) rfl rfl (.inl rfl)
 ·
  replace hm := iteF hm hs9
  refine wO rfl (wO rfl (wO rfl (wO rfl (wP rfl (wP rfl (wl_nil (we_then (wc_keep [4] (S' := [_]) rfl (wc_ret ?_)))))))))
  have hE := (Option.some.inj hm).symm
  replace hE := hE.symm
  subst hE
  refine ret_one (Hr := [_,_,_]) [1,2,3] Tryz.results57 (res_tmp rfl) ⟨rfl, rfl, rfl⟩ (asK [] rfl) rfl rfl (.inl rfl)
theorem w_slices_IndexFunc_Fact_v3_s (N : Nat) (qp0 : Option Addr) (qc1 : Nat) (l0 : List FactD) (qg2 : Nat) (a1 : Int) (qg3 : Nat) (qp4 : Option Addr) (qn5 : Nat) (qc6 : Nat) (l2 : List V) (o0 : Int) (hm : m_slices_IndexFunc_Fact N l0 a1 l2 = some o0) : Spec Tryz.prog 56 [.slice qp0 l0.length qc1, .func (.func 57) #[] #[.pointer (some ⟨qg2,0, none⟩), .pointer (some ⟨qg3,0, none⟩)]] [.sli 3 R_FactD qp0 qc1 l0] [.blk qg2 [.int .i64 a1] 3, .blk qg3 [.slice qp4 qn5 qc6] 25, .own 51 3 R_V (.slice qp4 qn5 qc6) l2] (fun v Φr Hr => v = .int .i64 o0 ∧ Φr = [] ∧ Hr = [.blk qg2 [.int .i64 a1] 3, .blk qg3 [.slice qp4 qn5 qc6] 25, .own 51 3 R_V (.slice qp4 qn5 qc6) l2]) := by
 unfold m_slices_IndexFunc_Fact at hm
 refine spec_of Tryz.func56 rfl Tryz.ntmps56 rfl (S := [_,_]) rfl (fun C => (wc_seq (wc_region (wP rfl (wl_nil (we_then (wc_keep [0,1] (S' := [_,_]) rfl (wc_seq ?_))))))))
 obtain ⟨bj_1, hm, hLj_1⟩ := bindS_some hm
 refine wc_cut (σ := Unit) (fun _ => bj_1 = .inl ()) (fun _ => []) (fun _ => []) (fun _ => [.blk qg2 [.int .i64 a1] 3, .blk qg3 [.slice qp4 qn5 qc6] 25, .own 51 3 R_V (.slice qp4 qn5 qc6) l2]) ?_ ?_
 ·
  refine wc_seq (wc_region (wP rfl (wN rfl tE_22 (wP rfl (wl_nil (we_then (wc_keep [8,7,0,1] (S' := [_,_,_,_]) rfl (wc_block (wc_loop (σ := Nat × Nat) (fun (nu1, u1_8) => iter (m_slices_IndexFunc_Fact_L1 N l0 a1 l2) nu1 u1_8 = some bj_1) (fun (nu1, u1_8) => nu1) (fun (nu1, u1_8) => [(8, .int .i64 ((u1_8 : Nat) : Int)), (7, .int .i64 ((l0.length : Nat) : Int)), (0, .slice qp0 l0.length qc1), (1, .func (.func 57) #[] #[.pointer (some ⟨qg2,0, none⟩), .pointer (some ⟨qg3,0, none⟩)])]) (fun (nu1, u1_8) => [.sli 3 R_FactD qp0 qc1 l0]) (fun (nu1, u1_8) => [.blk qg2 [.int .i64 a1] 3, .blk qg3 [.slice qp4 qn5 qc6] 25, .own 51 3 R_V (.slice qp4 qn5 qc6) l2]) (N, 0) hm [8,7,0,1] rfl (asK [0] rfl) rfl (fun s_ hm => ?_))))))))))
  obtain ⟨nu1, u1_8⟩ := s_
  try dsimp only at hm ⊢
  obtain ⟨mu1, bu1, hnu1, hq, hLu1⟩ := iter_some hm
  clear hm
  subst hnu1
  replace hm := hq
  clear hq
  unfold m_slices_IndexFunc_Fact_L1 at hm
  try dsimp only at hm
  refine wc_seq (wc_region (wP rfl (wl_as (d := 9) (v' := .bool (decide (u1_8 < l0.length))) (S' := [_,_,_,_]) rfl rfl (natlt (a := u1_8) (b := l0.length)) (wl_nil (we_then (wc_seq ?_))))))
  refine wc_cond rfl (fun hb9 => ?_) (fun hb9 => ?_)
  ·
   replace hm := iteT hm hb9
   refine wc_keep [8,7,0,1] (S' := [_,_,_,_]) rfl (wc_skip (we_then (wc_seq (wc_block (wc_seq (wc_region (wP rfl (wP rfl (wl_nil (we_then (wc_keep [5,8,7,0,1] (S' := [_,_,_,_,_]) rfl (wc_seq (wc_region ?_)))))))))))))
   refine wP rfl (wP rfl (wP rfl ?_))
   obtain ⟨x14, hx14, hm⟩ := bindO_some hm
   refine wl_indexA 0 u1_8 rfl rfl rfl (freshS_eq rfl) rfl rfl rfl rfl rfl hx14 tE_22 tS_27 (fun b14 q14 cs14 hlx14 => (wl_open R_FactD_opens 1 rfl (fun r14 er14 _ => ?_)))
   subst er14
   refine wl_load 1 0 rfl rfl rfl (freshS_eq rfl) rfl rfl rfl (cs := [_,_,_]) rfl tS_27 tA_27 rfl rfl ?_
   obtain ⟨v16, hc16, hm⟩ := bindO_some hm
   refine wl_callDyn [0,1,2] [] rfl rfl rfl (freshS_eq rfl) rfl rfl rfl fn_57 rfl rfl (w_memory_row_says_1_v2_s N x14.id x14.ty r14.1 r14.2 x14.args qg2 a1 qg3 qp4 qn5 qc6 l2 _ hc16) (asK [0] rfl) rfl (H' := []) rfl ?_
   rintro _ _ _ ⟨rfl, rfl, rfl⟩
   refine wl_nil (we_then (wc_keep [16,5,8,7,0,1] (S' := [_,_,_,_,_,_]) rfl ?_))
   refine wc_cond rfl (fun hb16 => ?_) (fun hb16 => ?_)
   ·
    replace hm := iteT hm hb16
    refine wc_keep [5] (S' := [_]) rfl (wc_seq (wc_region (wP rfl (wP rfl (wl_nil (we_then (wc_keep [4] (S' := [_]) rfl (wc_ret (we_block_ret (we_then_ret (we_then_ret (we_block_ret (we_then_ret ?_)))))))))))))
    have hE := (Option.some.inj hm).symm
    replace hE := link_inr hLu1 hE
    replace hE := link_inr hLj_1 hE
    replace hE := hE.symm
    subst hE
    refine ret_one (Hr := [_,_,_]) [0,1,2] Tryz.results56 (res_tmp rfl) ⟨rfl, rfl, rfl⟩ (asK [] rfl) rfl rfl (.inl rfl)
   ·
    replace hm := iteF hm hb16
    refine wc_keep [8,7,0,1] (S' := [_,_,_,_]) rfl (wc_skip (we_block_normal (we_then (wc_region (wP rfl ?_)))))
    obtain ⟨hg18, hm⟩ := gd_some hm
    refine wl_as (d := 18) (v' := .int .i64 ((u1_8 + 1 : Nat) : Int)) (S' := [_,_,_,_]) rfl rfl (nat_add (a := u1_8) (b := 1) hg18) (wl_pure (S' := [_,_,_,_]) rfl rfl rfl rfl rfl (wl_nil ?_))
    have hE := (Option.some.inj hm).symm
    replace hE := link_inl hLu1 hE
    refine we_roundK (_, u1_8 + 1) (Nat.lt_succ_self _) hE [8,7,0,1] rfl (asK [3] rfl) rfl
  ·
   replace hm := iteF hm hb9
   refine wc_keep [] (S' := []) rfl (wc_exit (we_then_exit (we_then_exit (we_block_hit ?_))))
   have hE := (Option.some.inj hm).symm
   replace hE := link_inr hLu1 hE
   refine we_join () hE [] rfl (asK [] rfl) rfl
 ·
  rintro _ hE
  try dsimp only
  have hm := link_inl hLj_1 hE
  try dsimp only at hm
  refine wc_seq (wc_region (wP rfl (wl_nil (we_then (wc_ret ?_)))))
  have hE := (Option.some.inj hm).symm
  replace hE := hE.symm
  subst hE
  refine ret_one (Hr := [_,_,_]) [0,1,2] Tryz.results56 (res_tmp rfl) ⟨rfl, rfl, rfl⟩ (asK [] rfl) rfl rfl (.inl rfl)
theorem w_memory_row_says_v2_s (N : Nat) (qg0 : Nat) (qp1 : Option Addr) (qn2 : Nat) (qc3 : Nat) (l0 : List FactD) (a1 : Int) (a2 : Int) (qp4 : Option Addr) (qn5 : Nat) (qc6 : Nat) (l3 : List V) (o0 : Int) (hm : m_memory_row_says N l0 a1 a2 l3 = some o0) : Spec Tryz.prog 27 [.pointer (some ⟨qg0,0, none⟩), .int .i64 a2, .slice qp4 qn5 qc6] [] [.blk qg0 [.slice qp1 qn2 qc3, .int .i64 a1] 61, .own 27 3 R_FactD (.slice qp1 qn2 qc3) l0, .own 51 3 R_V (.slice qp4 qn5 qc6) l3] (fun v Φr Hr => v = .int .i64 o0 ∧ Φr = [] ∧ Hr = [.blk qg0 [.slice qp1 qn2 qc3, .int .i64 a1] 61, .own 27 3 R_FactD (.slice qp1 qn2 qc3) l0, .own 51 3 R_V (.slice qp4 qn5 qc6) l3]) := by
 unfold m_memory_row_says at hm
 refine spec_of Tryz.func27 rfl Tryz.ntmps27 rfl (S := [_,_,_]) rfl (fun C => (wc_seq (wc_region (wB rfl (fun g4 => (wB rfl (fun g5 => (wP rfl (wl_nil (we_then (wc_keep [5,4,0] (S' := [_,_,_]) rfl (wc_seq (wc_region (wP rfl (wP rfl (wF rfl tF_59_0 ?_))))))))))))))))
 refine wD 2 0 rfl tS_22 tA_22 rfl (wl_makeFunc rfl rfl rfl (freshS_eq rfl) rfl rfl (wl_ownLen 3 rfl (fun hzqn2 _ => ?_)))
 subst hzqn2
 obtain ⟨v12, hc12, hm⟩ := bindO_some hm
 refine wl_lend [1,0,4] [2,3] [3] rfl rfl rfl (freshS_eq rfl) rfl rfl fn_56 rfl (w_slices_IndexFunc_Fact_v3_s N qp1 qc3 l0 g4 a2 g5 qp4 qn5 qc6 l3 _ hc12) (fun F w hφ hh => (ask_cons (own_sli (hh _ (mem_at (k := 0) rfl))) ask_nil)) (fun _ _ _ hR => by obtain ⟨rfl, rfl, rfl⟩ := hR; exact ⟨rfl, (free_cons (blk_free) (free_cons (blk_free) (free_cons (own_free mkRep_free) (fun _ h => free_nil h))))⟩) rfl rfl (H' := [_,_]) rfl ?_
 rintro _ _ _ ⟨rfl, rfl, rfl⟩
 refine wP rfl (wl_nil (we_then (wc_keep [6] (S' := [_]) rfl (wc_ret ?_))))
 have hE := (Option.some.inj hm).symm
 replace hE := hE.symm
 subst hE
 refine ret_one (Hr := [_,_,_]) [3,4,2] Tryz.results27 (res_tmp rfl) ⟨rfl, rfl, rfl⟩ (asK [] rfl) rfl rfl (.inl rfl)
theorem w_memory_Memory_Add_v2_s (N : Nat) (qg0 : Nat) (qp1 : Option Addr) (qn2 : Nat) (qc3 : Nat) (l0 : List FactD) (a1 : Int) (a2 : Int) (qp4 : Option Addr) (qn5 : Nat) (qc6 : Nat) (l3 : List V) (o0 : Int) (o1 : Nat) (o4 : List FactD) (o6 : Int) (hm : m_memory_Memory_Add N l0 a1 a2 l3 = some (o0, o1, o4, o6)) : Spec Tryz.prog 20 [.pointer (some ⟨qg0,0, none⟩), .int .i64 a2, .slice qp4 qn5 qc6] [] [.blk qg0 [.slice qp1 qn2 qc3, .int .i64 a1] 61, .own 27 3 R_FactD (.slice qp1 qn2 qc3) l0, .own 51 3 R_V (.slice qp4 qn5 qc6) l3] (fun v Φr Hr => ∃ (o2 : Option Addr) (o3 : Nat) (o5 : Nat), v = .tuple #[.int .i64 o0, .int .i64 ((o1 : Nat) : Int)] ∧ Φr = [] ∧ Hr = [.blk qg0 [.slice o2 o5 o3, .int .i64 o6] 61, .own 27 3 R_FactD (.slice o2 o5 o3) o4, .own 51 3 R_V (.slice qp4 qn5 qc6) l3]) := by
 unfold m_memory_Memory_Add at hm
 refine spec_of Tryz.func20 rfl Tryz.ntmps20 rfl (S := [_,_,_]) rfl (fun C => (wc_seq (wc_region (wP rfl (wP rfl (wl_nil (we_then (wc_keep [0,1,2] (S' := [_,_,_]) rfl (wc_seq (wc_block (wc_seq (wc_region (wP rfl ?_)))))))))))))
 obtain ⟨_, hc11, hm⟩ := bindO_some hm
 try dsimp only at hm
 refine wC [0,1] [2] rfl fn_45 rfl (w_memory_Memory_known_s N qg0 qp1 qn2 qc3 l0 a1 hc11) (asK [] rfl) rfl (H' := [_]) rfl ?_
 rintro _ _ _ ⟨rfl, rfl, rfl⟩
 refine wP rfl (wP rfl (wl_nil (we_then (wc_keep [9,0,1,2] (S' := [_,_,_,_]) rfl ?_))))
 refine wc_cond rfl (fun hb9 => ?_) (fun hb9 => ?_)
 ·
  replace hm := iteT hm hb9
  refine wc_keep [] (S' := []) rfl (wc_seq (wc_region (wP rfl (wP rfl (wl_nil (we_then (wc_ret (we_block_ret (we_then_ret ?_)))))))))
  have hE := (Option.some.inj hm).symm
  obtain ⟨hE0, hF1⟩ := Prod.mk.inj hE
  obtain ⟨hE1, hF2⟩ := Prod.mk.inj hF1
  obtain ⟨hE2, hE3⟩ := Prod.mk.inj hF2
  clear hE hF1 hF2
  replace hE0 := hE0.symm
  subst hE0
  replace hE1 := hE1.symm
  subst hE1
  replace hE2 := hE2.symm
  subst hE2
  replace hE3 := hE3.symm
  subst hE3
  refine ret_two (Hr := [_,_,_]) [0,1,2] Tryz.results20 (res_tmp rfl) (res_tmp rfl) ⟨qp1, qc3, qn2, rfl, rfl, rfl⟩ (asK [] rfl) rfl rfl (.inl rfl)
 ·
  replace hm := iteF hm hb9
  refine wc_keep [0,1,2] (S' := [_,_,_]) rfl (wc_seq (wc_region (wP rfl (wP rfl (wl_ownLen 2 rfl (fun hzqn5 _ => ?_))))))
  subst hzqn5
  obtain ⟨v16, hc16, hm⟩ := bindO_some hm
  refine wl_lend [] [0,1,2] [2] rfl rfl rfl (freshS_eq rfl) rfl rfl fn_26 rfl (w_memory_may_s N a2 qp4 qc6 l3 _ hc16) (fun F w hφ hh => (ask_cons (own_sli (hh _ (mem_at (k := 0) rfl))) ask_nil)) (fun _ _ _ hR => by obtain ⟨rfl, rfl, rfl⟩ := hR; exact ⟨rfl, (fun _ h => free_nil h)⟩) rfl rfl (H' := [_,_,_]) rfl ?_
  rintro _ _ _ ⟨rfl, rfl, rfl⟩
  refine wP rfl (wP rfl (wl_nil (we_then (wc_keep [13,0,1,2] (S' := [_,_,_,_]) rfl ?_))))
  refine wc_cond rfl (fun hb13 => ?_) (fun hb13 => ?_)
  ·
   replace hm := iteT hm hb13
   refine wc_keep [] (S' := []) rfl (wc_seq (wc_region (wP rfl (wP rfl (wl_nil (we_then (wc_ret (we_block_ret (we_then_ret ?_)))))))))
   have hE := (Option.some.inj hm).symm
   obtain ⟨hE0, hF1⟩ := Prod.mk.inj hE
   obtain ⟨hE1, hF2⟩ := Prod.mk.inj hF1
   obtain ⟨hE2, hE3⟩ := Prod.mk.inj hF2
   clear hE hF1 hF2
   replace hE0 := hE0.symm
   subst hE0
   replace hE1 := hE1.symm
   subst hE1
   replace hE2 := hE2.symm
   subst hE2
   replace hE3 := hE3.symm
   subst hE3
   refine ret_two (Hr := [_,_,_]) [0,1,2] Tryz.results20 (res_tmp rfl) (res_tmp rfl) ⟨qp1, qc3, qn2, rfl, rfl, rfl⟩ (asK [] rfl) rfl rfl (.inl rfl)
  ·
   replace hm := iteF hm hb13
   refine wc_keep [0,1,2] (S' := [_,_,_]) rfl (wc_skip (we_block_normal (we_then (wc_seq (wc_seq (wc_region (wP rfl (wP rfl (wF rfl tF_61_0 (wP rfl (wP rfl ?_)))))))))))
   obtain ⟨v23, hc23, hm⟩ := bindO_some hm
   refine wC [0,1,2] [] rfl fn_27 rfl (w_memory_row_says_v2_s N qg0 qp1 qn2 qc3 l0 a1 a2 qp4 l3.length qc6 l3 _ hc23) (asK [] rfl) rfl (H' := []) rfl ?_
   rintro _ _ _ ⟨rfl, rfl, rfl⟩
   refine wP rfl (wl_nil (we_then (wc_keep [8,0,1,2] (S' := [_,_,_,_]) rfl (wc_seq (wc_region (wP rfl (wP rfl (wl_nil (we_then (wc_keep [25,8,0,1,2] (S' := [_,_,_,_,_]) rfl ?_))))))))))
   refine wc_cond rfl (fun hb25 => ?_) (fun hb25 => ?_)
   ·
    replace hm := iteT hm hb25
    refine wc_keep [8,0] (S' := [_,_]) rfl (wc_seq (wc_region (wP rfl (wP rfl (wF rfl tF_61_0 (wF rfl tF_59_0 (wD 0 0 rfl tS_22 tA_22 rfl (wP rfl ?_))))))))
    obtain ⟨hn32, hm⟩ := gd_some hm
    obtain ⟨x32, hx32, hm⟩ := bindO_some hm
    refine wl_indexH 1 v23.toNat rfl rfl rfl (freshS_eq rfl) rfl rfl rfl rfl (toNat_eq hn32) (get_lt hx32) tE_22 tS_27 (fun g32 eg32 => ?_)
    subst eg32
    refine wF rfl tF_27_0 (wl_loadRow R_FactD_opens 1 v23.toNat 0 rfl rfl rfl (freshS_eq rfl) rfl rfl rfl hx32 tS_3 tA_3 (v := fun r34 => .int .i64 (x32.id)) (fun _ => rfl) (fun _ => rfl) (fun r34 _ => (wP rfl (wP rfl (wl_nil (we_then (wc_keep [7,6] (S' := [_,_]) rfl (wc_ret (we_then_ret ?_)))))))))
    have hE := (Option.some.inj hm).symm
    obtain ⟨hE0, hF1⟩ := Prod.mk.inj hE
    obtain ⟨hE1, hF2⟩ := Prod.mk.inj hF1
    obtain ⟨hE2, hE3⟩ := Prod.mk.inj hF2
    clear hE hF1 hF2
    replace hE0 := hE0.symm
    subst hE0
    replace hE1 := hE1.symm
    subst hE1
    replace hE2 := hE2.symm
    subst hE2
    replace hE3 := hE3.symm
    subst hE3
    refine ret_two (Hr := [_,_,_]) [0,1,2] Tryz.results20 (res_tmp rfl) (res_tmp rfl) ⟨some ⟨g32,0, none⟩, qc3, qn2, rfl, rfl, rfl⟩ (asK [] rfl) rfl rfl (.inl rfl)
   ·
    replace hm := iteF hm hb25
    refine wc_keep [0,1,2] (S' := [_,_,_]) rfl (wc_skip (we_then (wc_seq (wc_seq ?_))))
    obtain ⟨bj_1, hm, hLj_1⟩ := bindO_some hm
    refine wc_cut (σ := Bool) (fun j_1_48 => bj_1 = j_1_48) (fun j_1_48 => [(0, .pointer (some ⟨qg0,0, none⟩)), (1, .int .i64 a2), (2, .slice qp4 l3.length qc6), (48, .bool j_1_48)]) (fun j_1_48 => []) (fun j_1_48 => [.blk qg0 [.slice qp1 qn2 qc3, .int .i64 a1] 61, .own 27 3 R_FactD (.slice qp1 qn2 qc3) l0, .own 51 3 R_V (.slice qp4 l3.length qc6) l3]) ?_ ?_
    ·
     refine wc_region (wP rfl (wP rfl (wF rfl tF_61_0 (wF rfl tF_59_0 (wD 0 0 rfl tS_22 tA_22 rfl (wl_ownLen 1 rfl (fun hl40 _ => (wN rfl tE_22 (wl_as (d := 40) (v' := .int .i64 ((l0.length : Nat) : Int)) (S' := [_,_,_,_,_,_,_,_]) rfl rfl (len_is hl40) (wP rfl (wl_as (d := 41) (v' := .bool (decide (256 ≤ l0.length))) (S' := [_,_,_,_,_,_,_,_,_]) rfl rfl (natge (a := l0.length) (b := 256)) (wP rfl ?_))))))))))))
     refine wl_split (d := 42) (S' := [_,_,_,_,_,_,_,_,_,_]) rfl rfl (fun hs42 => ?_) (fun hs42 => ?_)
     ·
      replace hm := iteT hm hs42
      refine wO rfl (wO rfl (wO rfl (wO rfl (wO rfl (wP rfl (wl_nil ?_))))))
      have hE := (Option.some.inj hm).symm
      refine we_join true hE [0,1,2,48] rfl (asK [] rfl) rfl
     ·
      replace hm := iteF hm hs42
      refine wP rfl (wP rfl (wF rfl tF_61_1 (wD 0 1 rfl tS_3 tA_3 rfl (wP rfl (wP rfl (wl_nil ?_))))))
      have hE := (Option.some.inj hm).symm
      refine we_join (decide (a1 > 1099511627776)) hE [0,1,2,48] rfl (asK [] rfl) rfl
    ·
     rintro j_1_48 hE
     try dsimp only
     have hm := hLj_1
     rw [hE] at hm
     refine wc_cond rfl (fun hb48 => ?_) (fun hb48 => ?_)
     ·
      replace hm := iteT hm hb48
      refine wc_keep [] (S' := []) rfl (wc_seq (wc_region (wP rfl (wP rfl (wl_nil (we_then (wc_ret (we_then_ret ?_))))))))
      have hE := (Option.some.inj hm).symm
      obtain ⟨hE0, hF1⟩ := Prod.mk.inj hE
      obtain ⟨hE1, hF2⟩ := Prod.mk.inj hF1
      obtain ⟨hE2, hE3⟩ := Prod.mk.inj hF2
      clear hE hF1 hF2
      replace hE0 := hE0.symm
      subst hE0
      replace hE1 := hE1.symm
      subst hE1
      replace hE2 := hE2.symm
      subst hE2
      replace hE3 := hE3.symm
      subst hE3
      refine ret_two (Hr := [_,_,_]) [0,1,2] Tryz.results20 (res_tmp rfl) (res_tmp rfl) ⟨qp1, qc3, qn2, rfl, rfl, rfl⟩ (asK [] rfl) rfl rfl (.inl rfl)
     ·
      replace hm := iteF hm hb48
      refine wc_keep [0,1,2] (S' := [_,_,_]) rfl (wc_skip (we_then (wc_seq ?_)))
      obtain ⟨_, hc62, hm⟩ := bindO_some hm
      try dsimp only at hm
      obtain ⟨hg64, hm⟩ := gd_some hm
      refine wc_draw [0,1,2,3,4,5,6,7,8,9,10,11,12,16,17,18] rfl rfl (fun hok => (xP hok 0 rfl (xP hok 1 rfl (xP hok 2 rfl (wx_fieldAddr hok 3 rfl rfl rfl (freshS_eq rfl) rfl rfl rfl tF_61_0 (wx_fieldAddr hok 4 rfl rfl rfl (freshS_eq rfl) rfl rfl rfl tF_59_0 (wx_loadH hok 5 0 0 rfl rfl rfl (freshS_eq rfl) rfl rfl rfl rfl (cs := [_]) rfl tS_22 tA_22 rfl rfl (xP hok 6 rfl (xP hok 7 rfl (wx_fieldAddr hok 8 rfl rfl rfl (freshS_eq rfl) rfl rfl rfl tF_61_1 (wx_loadH hok 9 0 1 rfl rfl rfl (freshS_eq rfl) rfl rfl rfl rfl (cs := [_]) rfl tS_3 tA_3 rfl rfl (xP hok 10 rfl (xP hok 11 rfl (wx_build hok 12 rfl rfl rfl (freshS_eq rfl) rfl rfl tZ_27 tP_27 rfl (out := [_,_,_]) rfl ?_))))))))))))))
      refine xS hok 13 rfl (wl_lend [] [0,1,2] [2] rfl rfl rfl (freshS_eq rfl) rfl rfl fn_28 rfl (w_memory_own_s N a1 a2 qp4 qc6 l3 hc62) (fun F w hφ hh => (ask_cons (own_sli (hh _ (mem_at (k := 0) rfl))) ask_nil)) (fun _ _ _ hR => by obtain ⟨_,_, rfl, rfl, rfl⟩ := hR; exact ⟨rfl, (free_cons (own_free mkRep_free) (fun _ h => free_nil h))⟩) rfl rfl (H' := [_,_,_]) rfl ?_)
      rintro _ _ _ ⟨p62_0, c62_1, rfl, rfl, rfl⟩
      refine wl_nil (we_x [] [1,1] rfl rfl (xS hok 14 rfl (wl_buildSlice rfl rfl rfl (freshS_eq rfl) rfl tE_22 tS_27 tZ_27 rfl (zs := [.int .i64 0, .int .i64 0, .slice none 0 0]) (by kernel_rfl) rfl (out := [_,_,_]) rfl (fun g63 => (wl_nil (we_x [] [2,2] rfl rfl (xS hok 15 rfl (wl_freeze 1 rfl (H' := [_,_,_,_]) rfl (wl_fact (.sli 3 R_V p62_0 c62_1 l3) (fun F w hφ => own_sli (hφ _ (mem_at (k := 0) rfl))) (wl_appendH ([(⟨a1, a2, l3⟩ : FactD)]) 2 0 rfl rfl rfl (freshS_eq rfl) rfl rfl rfl rfl rfl (fun F w hφ => ⟨[.int .i64 a1, .int .i64 a2, .slice p62_0 l3.length c62_1],[], rfl, rfl, ⟨(p62_0, c62_1), rfl, (ask_cons (hφ _ (mem_at (k := 0) rfl)) ask_nil)⟩, rfl⟩) tE_22 tR_27 rfl rfl (Nat.le_trans hg64 (by decide)) (Nat.le_trans (Nat.mul_le_mul_right _ hg64) (by decide)) (H2 := fun p64 c64 => [_,_, .own 27 3 R_FactD (.slice p64 ((l0 ++ ([(⟨a1, a2, l3⟩ : FactD)])).length) c64) (l0 ++ ([(⟨a1, a2, l3⟩ : FactD)])), _]) (fun _ _ => rfl) (fun p64 c64 => (wl_drop 0 rfl (H' := [_,_,_]) rfl (wl_nil (we_x [] [0] rfl rfl (xP hok 16 rfl ?_)))))))))))))))
      refine wx_fieldAddr hok 17 rfl rfl rfl (freshS_eq rfl) rfl rfl rfl tF_61_0 (wx_fieldAddr hok 18 rfl rfl rfl (freshS_eq rfl) rfl rfl rfl tF_59_0 (xS hok 19 rfl (wS 0 0 rfl tS_22 (all' := [_,_]) rfl (H' := [_,_,_]) rfl (wl_nil (we_x [0,1] [] rfl rfl (wx_done hok rfl (we_then (wc_keep [0] (S' := [_]) rfl (wc_seq (wc_region (wP rfl (wP rfl (wF rfl tF_61_1 ?_)))))))))))))
      refine wD 0 1 rfl tS_3 tA_3 rfl (wP rfl ?_)
      obtain ⟨hg72, hm⟩ := gd_some hm
      refine wl_as (d := 72) (v' := .int .i64 (a1 + 1)) (S' := [_,_,_,_,_]) rfl rfl (i64_in hg72) (wP rfl (wF rfl tF_61_1 (wS 0 1 rfl tS_3 (all' := [_,_]) rfl (H' := [_,_,_]) rfl (wl_nil (we_then (wc_keep [0] (S' := [_]) rfl (wc_seq (wc_region (wP rfl (wP rfl (wF rfl tF_61_1 (wD 0 1 rfl tS_3 tA_3 rfl (wP rfl ?_)))))))))))))
      obtain ⟨hg79, hm⟩ := gd_some hm
      refine wl_as (d := 79) (v' := .int .i64 ((a1 + 1) - 1)) (S' := [_,_,_,_,_]) rfl rfl (i64_in hg79) (wP rfl (wP rfl (wl_nil (we_then (wc_keep [7,6] (S' := [_,_]) rfl (wc_ret ?_))))))
      have hE := (Option.some.inj hm).symm
      obtain ⟨hE0, hF1⟩ := Prod.mk.inj hE
      obtain ⟨hE1, hF2⟩ := Prod.mk.inj hF1
      obtain ⟨hE2, hE3⟩ := Prod.mk.inj hF2
      clear hE hF1 hF2
      replace hE0 := hE0.symm
      subst hE0
      replace hE1 := hE1.symm
      subst hE1
      replace hE2 := hE2.symm
      subst hE2
      replace hE3 := hE3.symm
      subst hE3
      refine ret_two (Hr := [_,_,_]) [0,1,2] Tryz.results20 (res_tmp rfl) (res_tmp rfl) ⟨p64, c64, (l0 ++ ([(⟨a1, a2, l3⟩ : FactD)])).length, rfl, rfl, rfl⟩ (asK [] rfl) rfl rfl (.inl rfl)
theorem w_cmp_isNaN_int_s (N : Nat) (a0 : Int)  (hm : m_cmp_isNaN_int N a0 = some ()) : Spec Tryz.prog 143 [.int .i64 a0] [] [] (fun v Φr Hr => v = .bool (a0 != a0) ∧ Φr = [] ∧ Hr = []) := by
 unfold m_cmp_isNaN_int at hm
 refine spec_of Tryz.func143 rfl Tryz.ntmps143 rfl (S := [_]) rfl (fun C => (wc_seq (wc_region (wP rfl (wl_nil (we_then (wc_keep [0] (S' := [_]) rfl (wc_seq (wc_region (wP rfl (wP rfl (wP rfl (wP rfl (wl_nil ?_))))))))))))))
 refine we_then (wc_keep [2] (S' := [_]) rfl (wc_ret ?_))
 have hE := (Option.some.inj hm).symm
 refine ret_one (Hr := []) [] Tryz.results143 (res_tmp rfl) ⟨rfl, rfl, rfl⟩ (asK [] rfl) rfl rfl (.inl rfl)
theorem w_cmp_Compare_int_s (N : Nat) (a0 : Int) (a1 : Int) (o0 : Int) (hm : m_cmp_Compare_int N a0 a1 = some o0) : Spec Tryz.prog 97 [.int .i64 a0, .int .i64 a1] [] [] (fun v Φr Hr => v = .int .i64 o0 ∧ Φr = [] ∧ Hr = []) := by
 unfold m_cmp_Compare_int at hm
 refine spec_of Tryz.func97 rfl Tryz.ntmps97 rfl (S := [_,_]) rfl (fun C => (wc_seq (wc_region (wP rfl (wl_nil (we_then (wc_keep [0,1] (S' := [_,_]) rfl (wc_seq (wc_region (wP rfl ?_))))))))))
 obtain ⟨_, hc8, hm⟩ := bindO_some hm
 try dsimp only at hm
 refine wC [] [] rfl fn_143 rfl (w_cmp_isNaN_int_s N a0 hc8) (asK [] rfl) rfl (H' := []) rfl ?_
 rintro _ _ _ ⟨rfl, rfl, rfl⟩
 refine wP rfl (wl_nil (we_then (wc_keep [5,0,1] (S' := [_,_,_]) rfl (wc_seq (wc_region (wP rfl ?_))))))
 obtain ⟨_, hc10, hm⟩ := bindO_some hm
 try dsimp only at hm
 refine wC [] [] rfl fn_143 rfl (w_cmp_isNaN_int_s N a1 hc10) (asK [] rfl) rfl (H' := []) rfl ?_
 rintro _ _ _ ⟨rfl, rfl, rfl⟩
 refine wP rfl (wl_nil (we_then (wc_keep [6,5,0,1] (S' := [_,_,_,_]) rfl (wc_seq (wc_seq (wc_region (wP rfl (wl_nil (we_then (wc_keep [11,6,0,1] (S' := [_,_,_,_]) rfl ?_))))))))))
 refine wc_cond rfl (fun hb11 => ?_) (fun hb11 => ?_)
 ·
  replace hm := iteT hm hb11
  refine wc_keep [6] (S' := [_]) rfl (wc_seq (wc_seq (wc_region (wP rfl (wl_nil (we_then (wc_keep [12] (S' := [_]) rfl ?_)))))))
  refine wc_cond rfl (fun hb12 => ?_) (fun hb12 => ?_)
  ·
   replace hm := iteT hm hb12
   refine wc_keep [] (S' := []) rfl (wc_seq (wc_region (wP rfl (wl_nil (we_then (wc_ret (we_then_ret (we_then_ret ?_))))))))
   have hE := (Option.some.inj hm).symm
   replace hE := hE.symm
   subst hE
   refine ret_one (Hr := []) [] Tryz.results97 (res_tmp rfl) ⟨rfl, rfl, rfl⟩ (asK [] rfl) rfl rfl (.inl rfl)
  ·
   replace hm := iteF hm hb12
   refine wc_keep [] (S' := []) rfl (wc_skip (we_then (wc_seq (wc_region (wP rfl (wl_nil (we_then (wc_ret (we_then_ret ?_)))))))))
   have hE := (Option.some.inj hm).symm
   replace hE := hE.symm
   subst hE
   refine ret_one (Hr := []) [] Tryz.results97 (res_tmp rfl) ⟨rfl, rfl, rfl⟩ (asK [] rfl) rfl rfl (.inl rfl)
 ·
  replace hm := iteF hm hb11
  refine wc_keep [6,0,1] (S' := [_,_,_]) rfl (wc_skip (we_then (wc_seq (wc_seq (wc_region (wP rfl (wl_nil (we_then (wc_keep [13,0,1] (S' := [_,_,_]) rfl ?_)))))))))
  refine wc_cond rfl (fun hb13 => ?_) (fun hb13 => ?_)
  ·
   replace hm := iteT hm hb13
   refine wc_keep [] (S' := []) rfl (wc_seq (wc_region (wP rfl (wl_nil (we_then (wc_ret (we_then_ret ?_)))))))
   have hE := (Option.some.inj hm).symm
   replace hE := hE.symm
   subst hE
   refine ret_one (Hr := []) [] Tryz.results97 (res_tmp rfl) ⟨rfl, rfl, rfl⟩ (asK [] rfl) rfl rfl (.inl rfl)
  ·
   replace hm := iteF hm hb13
   refine wc_keep [0,1] (S' := [_,_]) rfl (wc_skip (we_then (wc_seq (wc_seq (wc_region (wP rfl (wP rfl (wP rfl (wl_nil (we_then (wc_keep [16,0,1] (S' := [_,_,_]) rfl ?_)))))))))))
   refine wc_cond rfl (fun hb16 => ?_) (fun hb16 => ?_)
   ·
    replace hm := iteT hm hb16
    refine wc_keep [] (S' := []) rfl (wc_seq (wc_region (wP rfl (wl_nil (we_then (wc_ret (we_then_ret ?_)))))))
    have hE := (Option.some.inj hm).symm
    replace hE := hE.symm
    subst hE
    refine ret_one (Hr := []) [] Tryz.results97 (res_tmp rfl) ⟨rfl, rfl, rfl⟩ (asK [] rfl) rfl rfl (.inl rfl)
   ·
    replace hm := iteF hm hb16
    refine wc_keep [0,1] (S' := [_,_]) rfl (wc_skip (we_then (wc_seq (wc_seq (wc_region (wP rfl (wP rfl (wP rfl (wl_nil (we_then (wc_keep [19] (S' := [_]) rfl ?_)))))))))))
    refine wc_cond rfl (fun hb19 => ?_) (fun hb19 => ?_)
    ·
     replace hm := iteT hm hb19
     refine wc_keep [] (S' := []) rfl (wc_seq (wc_region (wP rfl (wl_nil (we_then (wc_ret (we_then_ret ?_)))))))
     have hE := (Option.some.inj hm).symm
     replace hE := hE.symm
     subst hE
     refine ret_one (Hr := []) [] Tryz.results97 (res_tmp rfl) ⟨rfl, rfl, rfl⟩ (asK [] rfl) rfl rfl (.inl rfl)
    ·
     replace hm := iteF hm hb19
     refine wc_keep [] (S' := []) rfl (wc_skip (we_then (wc_seq (wc_region (wP rfl (wl_nil (we_then (wc_ret ?_))))))))
     have hE := (Option.some.inj hm).symm
     replace hE := hE.symm
     subst hE
     refine ret_one (Hr := []) [] Tryz.results97 (res_tmp rfl) ⟨rfl, rfl, rfl⟩ (asK [] rfl) rfl rfl (.inl rfl)
theorem w_memory_row_at_1_s (N : Nat) (a0 : Int) (a1 : Int) (qp0 : Option Addr) (qc1 : Nat) (l2 : List V) (a3 : Int) (o0 : Int) (hm : m_memory_row_at_1 N a0 a1 l2 a3 = some o0) : Spec Tryz.prog 96 [.agg #[.int .i64 a0, .int .i64 a1, .slice qp0 l2.length qc1], .int .i64 a3] [.sli 3 R_V qp0 qc1 l2] [] (fun v Φr Hr => v = .int .i64 o0 ∧ Φr = [] ∧ Hr = []) := by
 unfold m_memory_row_at_1 at hm
 refine spec_of Tryz.func96 rfl Tryz.ntmps96 rfl (S := [_,_]) rfl (fun C => (wc_seq (wc_region (wB rfl (fun g2 => (wP rfl (wl_nil (we_then (wc_keep [2,1] (S' := [_,_]) rfl (wc_seq (wc_region (wF rfl tF_27_0 (wD 0 0 rfl tS_3 tA_3 rfl (wP rfl ?_))))))))))))))
 obtain ⟨v8, hc8, hm⟩ := bindO_some hm
 refine wC [] [0] rfl fn_97 rfl (w_cmp_Compare_int_s N a0 a3 _ hc8) (asK [] rfl) rfl (H' := [_]) rfl ?_
 rintro _ _ _ ⟨rfl, rfl, rfl⟩
 refine wP rfl (wl_nil (we_then (wc_keep [4] (S' := [_]) rfl (wc_ret ?_))))
 have hE := (Option.some.inj hm).symm
 replace hE := hE.symm
 subst hE
 refine ret_one (Hr := []) [] Tryz.results96 (res_tmp rfl) ⟨rfl, rfl, rfl⟩ (asK [] rfl) rfl rfl (.inl rfl)
theorem w_slices_BinarySearchFunc_int_s (N : Nat) (qp0 : Option Addr) (qc1 : Nat) (l0 : List FactD) (a1 : Int) (o0 : Int) (o1 : Bool) (hm : m_slices_BinarySearchFunc_int N l0 a1 = some (o0, o1)) : Spec Tryz.prog 95 [.slice qp0 l0.length qc1, .int .i64 a1, .func (.func 96) #[] #[]] [.sli 3 R_FactD qp0 qc1 l0] [] (fun v Φr Hr => v = .tuple #[.int .i64 o0, .bool o1] ∧ Φr = [] ∧ Hr = []) := by
 unfold m_slices_BinarySearchFunc_int at hm
 refine spec_of Tryz.func95 rfl Tryz.ntmps95 rfl (S := [_,_,_]) rfl (fun C => (wc_seq (wc_region (wP rfl (wP rfl (wl_nil (we_then (wc_keep [0,1,2] (S' := [_,_,_]) rfl (wc_seq (wc_region (wP rfl (wN rfl tE_22 (wP rfl (wl_nil ?_))))))))))))))
 refine we_then (wc_keep [8,0,1,2] (S' := [_,_,_,_]) rfl (wc_seq (wc_region (wP rfl (wP rfl (wP rfl (wl_nil (we_then (wc_keep [10,9,8,0,1,2] (S' := [_,_,_,_,_,_]) rfl (wc_seq ?_))))))))))
 obtain ⟨bj_1, hm, hLj_1⟩ := bindO_some hm
 refine wc_cut (σ := Int) (fun j_1_9 => bj_1 = j_1_9) (fun j_1_9 => [(9, .int .i64 j_1_9), (8, .int .i64 ((l0.length : Nat) : Int)), (0, .slice qp0 l0.length qc1), (1, .int .i64 a1), (2, .func (.func 96) #[] #[])]) (fun j_1_9 => [.sli 3 R_FactD qp0 qc1 l0]) (fun j_1_9 => []) ?_ ?_
 ·
  refine wc_block (wc_loop (σ := Nat × Int × Int) (fun (nu1, u1_10, u1_9) => iter (m_slices_BinarySearchFunc_int_L1 N l0 a1) nu1 (u1_10, u1_9) = some bj_1) (fun (nu1, u1_10, u1_9) => nu1) (fun (nu1, u1_10, u1_9) => [(10, .int .i64 u1_10), (9, .int .i64 u1_9), (8, .int .i64 ((l0.length : Nat) : Int)), (0, .slice qp0 l0.length qc1), (1, .int .i64 a1), (2, .func (.func 96) #[] #[])]) (fun (nu1, u1_10, u1_9) => [.sli 3 R_FactD qp0 qc1 l0]) (fun (nu1, u1_10, u1_9) => []) (N, ((l0.length : Nat) : Int), 0) hm [10,9,8,0,1,2] rfl (asK [0] rfl) rfl (fun s_ hm => ?_))
  obtain ⟨nu1, u1_10, u1_9⟩ := s_
  try dsimp only at hm ⊢
  obtain ⟨mu1, bu1, hnu1, hq, hLu1⟩ := iter_some hm
  clear hm
  subst hnu1
  replace hm := hq
  clear hq
  unfold m_slices_BinarySearchFunc_int_L1 at hm
  try dsimp only at hm
  refine wc_seq (wc_seq (wc_region (wP rfl (wP rfl (wP rfl (wl_nil (we_then (wc_keep [17,10,9,8,0,1,2] (S' := [_,_,_,_,_,_,_]) rfl ?_))))))))
  refine wc_cond rfl (fun hb17 => ?_) (fun hb17 => ?_)
  ·
   replace hm := iteT hm hb17
   refine wc_keep [10,9,8,0,1,2] (S' := [_,_,_,_,_,_]) rfl (wc_skip (we_then (wc_block (wc_seq (wc_region (wP rfl (wP rfl (wP rfl ?_))))))))
   obtain ⟨hg20, hm⟩ := gd_some hm
   refine wl_as (d := 20) (v' := .int .i64 (u1_9 + u1_10)) (S' := [_,_,_,_,_,_,_,_]) rfl rfl (i64_in hg20) (wl_reck rfl rfl rfl (freshS_eq rfl) (rk_conv rfl rfl tI_3 tI_277) (wl_bin rfl rfl rfl (freshS_eq rfl) rfl rfl rfl (run_shr (by decide)) (wl_reck rfl rfl rfl (freshS_eq rfl) (rk_conv rfl rfl tI_277 tI_3) (wP rfl (wl_nil (we_then (wc_keep [11,10,9,8,0,1,2] (S' := [_,_,_,_,_,_,_]) rfl (wc_seq (wc_region (wP rfl (wP rfl (wP rfl ?_))))))))))))
   obtain ⟨hn27, hm⟩ := gd_some hm
   obtain ⟨x27, hx27, hm⟩ := bindO_some hm
   refine wl_indexA 0 ((IntKind.wrap .i64 (Int.fdiv (IntKind.wrap .u64 (u1_9 + u1_10)) (2 ^ (1)))).toNat) rfl rfl rfl (freshS_eq rfl) rfl rfl rfl rfl (toNat_eq hn27) hx27 tE_22 tS_27 (fun b27 q27 cs27 hlx27 => (wl_open R_FactD_opens 1 rfl (fun r27 er27 _ => ?_)))
   subst er27
   refine wl_load 1 0 rfl rfl rfl (freshS_eq rfl) rfl rfl rfl (cs := [_,_,_]) rfl tS_27 tA_27 rfl rfl (wP rfl ?_)
   obtain ⟨v30, hc30, hm⟩ := bindO_some hm
   refine wl_callDyn [] [] rfl rfl rfl (freshS_eq rfl) rfl rfl rfl fn_96 rfl rfl (w_memory_row_at_1_s N x27.id x27.ty r27.1 r27.2 x27.args a1 _ hc30) (asK [0] rfl) rfl (H' := []) rfl ?_
   rintro _ _ _ ⟨rfl, rfl, rfl⟩
   refine wP rfl (wl_nil (we_then (wc_keep [31,11,10,9,8,0,1,2] (S' := [_,_,_,_,_,_,_,_]) rfl ?_)))
   refine wc_cond rfl (fun hb31 => ?_) (fun hb31 => ?_)
   ·
    replace hm := iteT hm hb31
    refine wc_keep [11,10,8,0,1,2] (S' := [_,_,_,_,_,_]) rfl (wc_region (wP rfl (wP rfl ?_)))
    obtain ⟨hg33, hm⟩ := gd_some hm
    refine wl_as (d := 33) (v' := .int .i64 ((IntKind.wrap .i64 (Int.fdiv (IntKind.wrap .u64 (u1_9 + u1_10)) (2 ^ (1)))) + 1)) (S' := [_,_,_,_,_,_,_]) rfl rfl (i64_in hg33) (wP rfl (wl_nil (we_block_normal ?_)))
    have hE := (Option.some.inj hm).symm
    replace hE := link_inl hLu1 hE
    refine we_roundK (_, u1_10, (IntKind.wrap .i64 (Int.fdiv (IntKind.wrap .u64 (u1_9 + u1_10)) (2 ^ (1)))) + 1) (Nat.lt_succ_self _) hE [10,9,8,0,1,2] rfl (asK [3] rfl) rfl
   ·
    replace hm := iteF hm hb31
    refine wc_keep [11,9,8,0,1,2] (S' := [_,_,_,_,_,_]) rfl (wc_region (wP rfl (wP rfl (wl_nil (we_block_normal ?_)))))
    have hE := (Option.some.inj hm).symm
    replace hE := link_inl hLu1 hE
    refine we_roundK (_, IntKind.wrap .i64 (Int.fdiv (IntKind.wrap .u64 (u1_9 + u1_10)) (2 ^ (1))), u1_9) (Nat.lt_succ_self _) hE [10,9,8,0,1,2] rfl (asK [3] rfl) rfl
  ·
   replace hm := iteF hm hb17
   refine wc_keep [9,8,0,1,2] (S' := [_,_,_,_,_]) rfl (wc_exit (we_then_exit (we_then_exit (we_block_hit ?_))))
   have hE := (Option.some.inj hm).symm
   replace hE := link_inr hLu1 hE
   refine we_join u1_9 hE [9,8,0,1,2] rfl (asK [0] rfl) rfl
 ·
  rintro j_1_9 hE
  try dsimp only
  have hm := hLj_1
  rw [hE] at hm
  refine wc_seq (wc_region (wP rfl (wP rfl (wP rfl (wP rfl (wP rfl ?_))))))
  refine wl_split (d := 39) (S' := [_,_,_,_,_,_,_,_,_]) rfl rfl (fun hs39 => ?_) (fun hs39 => ?_)
  ·
   replace hm := iteT hm hs39
   refine wP rfl (wP rfl (wP rfl ?_))
   obtain ⟨hn43, hm⟩ := gd_some hm
   obtain ⟨x43, hx43, hm⟩ := bindO_some hm
   refine wl_indexA 0 j_1_9.toNat rfl rfl rfl (freshS_eq rfl) rfl rfl rfl rfl (toNat_eq hn43) hx43 tE_22 tS_27 (fun b43 q43 cs43 hlx43 => (wl_open R_FactD_opens 1 rfl (fun r43 er43 _ => ?_)))
   subst er43
   refine wl_load 1 0 rfl rfl rfl (freshS_eq rfl) rfl rfl rfl (cs := [_,_,_]) rfl tS_27 tA_27 rfl rfl (wP rfl ?_)
   obtain ⟨v46, hc46, hm⟩ := bindO_some hm
   refine wl_callDyn [] [] rfl rfl rfl (freshS_eq rfl) rfl rfl rfl fn_96 rfl rfl (w_memory_row_at_1_s N x43.id x43.ty r43.1 r43.2 x43.args a1 _ hc46) (asK [0] rfl) rfl (H' := []) rfl ?_
   rintro _ _ _ ⟨rfl, rfl, rfl⟩
   refine wP rfl (wP rfl (wP rfl (wP rfl (wl_nil (we_then (wc_keep [7,6] (S' := [_,_]) rfl (wc_ret ?_)))))))
   have hE := (Option.some.inj hm).symm
   obtain ⟨hE0, hE1⟩ := Prod.mk.inj hE
   clear hE
   replace hE0 := hE0.symm
   subst hE0
   replace hE1 := hE1.symm
   subst hE1
   refine ret_two (Hr := []) [] Tryz.results95 (res_tmp rfl) (res_tmp rfl) ⟨rfl, rfl, rfl⟩ (asK [] rfl) rfl rfl (.inl rfl)
  ·
   replace hm := iteF hm hs39
   refine wO rfl (wO rfl (wO rfl (wO rfl (wO rfl (wO rfl (wO rfl (wO rfl (wP rfl (wP rfl (wP rfl (wl_nil (we_then (wc_keep [7,6] (S' := [_,_]) rfl ?_)))))))))))))
   refine wc_ret ?_
   have hE := (Option.some.inj hm).symm
   obtain ⟨hE0, hE1⟩ := Prod.mk.inj hE
   clear hE
   replace hE0 := hE0.symm
   subst hE0
   replace hE1 := hE1.symm
   subst hE1
   refine ret_two (Hr := []) [] Tryz.results95 (res_tmp rfl) (res_tmp rfl) ⟨rfl, rfl, rfl⟩ (asK [] rfl) rfl rfl (.inl rfl)
theorem w_memory_row_at_s (N : Nat) (qg0 : Nat) (qp1 : Option Addr) (qn2 : Nat) (qc3 : Nat) (l0 : List FactD) (a1 : Int) (a2 : Int) (o0 : Int) (o1 : Bool) (hm : m_memory_row_at N l0 a1 a2 = some (o0, o1)) : Spec Tryz.prog 50 [.pointer (some ⟨qg0,0, none⟩), .int .i64 a2] [] [.blk qg0 [.slice qp1 qn2 qc3, .int .i64 a1] 61, .own 27 3 R_FactD (.slice qp1 qn2 qc3) l0] (fun v Φr Hr => v = .tuple #[.int .i64 o0, .bool o1] ∧ Φr = [] ∧ Hr = [.blk qg0 [.slice qp1 qn2 qc3, .int .i64 a1] 61, .own 27 3 R_FactD (.slice qp1 qn2 qc3) l0]) := by
 unfold m_memory_row_at at hm
 refine spec_of Tryz.func50 rfl Tryz.ntmps50 rfl (S := [_,_]) rfl (fun C => (wc_seq (wc_region (wP rfl (wP rfl (wl_nil (we_then (wc_keep [0,1] (S' := [_,_]) rfl (wc_seq (wc_region (wP rfl (wP rfl (wF rfl tF_59_0 (wD 0 0 rfl tS_22 tA_22 rfl ?_))))))))))))))
 refine wP rfl (wl_ownLen 1 rfl (fun hzqn2 _ => ?_))
 subst hzqn2
 obtain ⟨⟨v11_0, v11_1⟩, hc11, hm⟩ := bindO_some hm
 try dsimp only at hm
 refine wl_lend [] [0,1] [1] rfl rfl rfl (freshS_eq rfl) rfl rfl fn_95 rfl (w_slices_BinarySearchFunc_int_s N qp1 qc3 l0 a2 _ _ hc11) (fun F w hφ hh => (ask_cons (own_sli (hh _ (mem_at (k := 0) rfl))) ask_nil)) (fun _ _ _ hR => by obtain ⟨rfl, rfl, rfl⟩ := hR; exact ⟨rfl, (fun _ h => free_nil h)⟩) rfl rfl (H' := [_,_]) rfl ?_
 rintro _ _ _ ⟨rfl, rfl, rfl⟩
 refine wP rfl (wP rfl (wP rfl (wP rfl (wl_nil (we_then (wc_keep [5,4] (S' := [_,_]) rfl (wc_ret ?_)))))))
 have hE := (Option.some.inj hm).symm
 obtain ⟨hE0, hE1⟩ := Prod.mk.inj hE
 clear hE
 replace hE0 := hE0.symm
 subst hE0
 replace hE1 := hE1.symm
 subst hE1
 refine ret_two (Hr := [_,_]) [0,1] Tryz.results50 (res_tmp rfl) (res_tmp rfl) ⟨rfl, rfl, rfl⟩ (asK [] rfl) rfl rfl (.inl rfl)
theorem Delete51_n (p : Option Addr) (c k : Nat) (L : List FactD) (hk : k < L.length) : Spec Tryz.prog 51 [.slice p L.length c, .int .i64 ((k : Nat) : Int), .int .i64 ((k + 1 : Nat) : Int)] [] [.own 27 3 R_FactD (.slice p L.length c) L] (fun v Φr Hr => ∃ p' c', v = .slice p' (L.take k ++ L.drop (k + 1)).length c' ∧ Φr = [] ∧ Hr = [.own 27 3 R_FactD v (L.take k ++ L.drop (k + 1))]) := by
 refine spec_of Tryz.func51 rfl Tryz.ntmps51 rfl (S := [_,_,_]) rfl (fun C => (wc_ownSome 0 rfl (by omega) (fun g0 e0 hc1 hc2 => ?_)))
 subst e0
 refine wc_seq (wc_region (wP rfl (wl_nil (we_then (wc_seq (wc_region (wP rfl (wP rfl (wP rfl (wP rfl (wN rfl tE_22 (wl_slice3 rfl rfl rfl (freshS_eq rfl) rfl rfl rfl rfl rfl rfl rfl rfl tE_22 tS_27 (by omega) (by omega) (by omega) (fun a13 => (wl_nil ?_))))))))))))))
 refine we_then (wc_keep [6,0,1,2] (S' := [_,_,_,_]) rfl (wc_seq (wc_seq (wc_region (wP rfl (wP rfl (wP rfl (wl_nil (we_then (wc_keep [16,6,0,1,2] (S' := [_,_,_,_,_]) rfl ?_))))))))))
 refine wc_cond rfl (fun h16 => ?_) (fun h16 => ?_)
 ·
  replace h16 := eq_of_beq h16
  exfalso
  omega
 ·
  replace h16 := ne_of_beq_false h16
  refine wc_skip (we_then (wc_seq (wc_region (wP rfl (wN rfl tE_22 (wP rfl (wl_nil (we_then (wc_keep [7,16,6,0,1,2] (S' := [_,_,_,_,_,_]) rfl (wc_seq ?_))))))))))
  refine wc_cut (σ := Addr) (fun a25 => k + 1 < c → a25 = ⟨g0, (k + 1) * 3, none⟩) (fun a25 => [(0, .slice (some ⟨g0,0, none⟩) ((L.take k ++ L.drop (k + 1)).length) c), (7, .int .i64 ((L.length : Nat) : Int)), (16, .bool (((k : Nat) : Int) == ((k + 1 : Nat) : Int))), (6, .slice none 0 0), (1, .int .i64 ((k : Nat) : Int)), (2, .int .i64 ((k + 1 : Nat) : Int))]) (fun a25 => []) (fun a25 => [.own 27 3 R_FactD (.slice (some ⟨g0,0, none⟩) ((L.take k ++ L.drop (k + 1)).length) c) (L.take k ++ L.drop (k + 1))]) ?_ ?_
  ·
   refine wc_draw [0,1,3,4] rfl rfl (fun hok => (xP hok 0 rfl (xP hok 1 rfl (xP hok 3 rfl (xP hok 4 rfl ?_)))))
   refine wx_step2 hok 2 5 rfl rfl rfl rfl rfl rfl ?_ ?_
   ·
    refine wl_sliceTo rfl rfl rfl (freshS_eq rfl) rfl rfl rfl rfl tE_22 tS_27 (by omega) (fun _ h => by cases h; rfl) (wl_nil (we_x [] [] rfl rfl (xS hok 5 rfl (wl_sliceFrom rfl rfl rfl (freshS_eq rfl) rfl rfl rfl rfl tE_22 tS_27 (by omega) (by omega) (fun a25 ha25 => (wl_nil (we_x [] [] rfl rfl (xS hok 6 rfl (wl_appendSelf 0 k (k + 1) rfl rfl rfl (freshS_eq rfl) rfl rfl rfl rfl (by omega) (by omega) (fun h => ha25 (by omega)) tE_22 tR_27 (H2 := [.own 27 3 R_FactD (.slice (some ⟨g0,0, none⟩) ((L.take k ++ L.drop (k + 1)).length) c) (L.take k ++ L.drop (k + 1))]) rfl (fun _ => (wl_nil (we_x [] [] rfl rfl (xS hok 7 rfl (wl_pure (S' := [_,_,_,_,_,_,_,_,_,_,_,_]) rfl rfl rfl rfl rfl (wl_nil ?_)))))))))))))))
    refine we_x [] [] rfl rfl (wx_done hok rfl ?_)
    refine we_join (a25) ha25 [0,7,16,6,1,2] rfl (asK [] rfl) rfl
   ·
    refine wl_sliceFrom rfl rfl rfl (freshS_eq rfl) rfl rfl rfl rfl tE_22 tS_27 (by omega) (by omega) (fun a25 ha25 => (wl_nil (we_x [] [] rfl rfl (xS hok 2 rfl (wl_sliceTo rfl rfl rfl (freshS_eq rfl) rfl rfl rfl rfl tE_22 tS_27 (by omega) (fun _ h => by cases h; rfl) (wl_nil (we_x [] [] rfl rfl (xS hok 6 rfl (wl_appendSelf 0 k (k + 1) rfl rfl rfl (freshS_eq rfl) rfl rfl rfl rfl (by omega) (by omega) (fun h => ha25 (by omega)) tE_22 tR_27 (H2 := [.own 27 3 R_FactD (.slice (some ⟨g0,0, none⟩) ((L.take k ++ L.drop (k + 1)).length) c) (L.take k ++ L.drop (k + 1))]) rfl (fun _ => (wl_nil (we_x [] [] rfl rfl (xS hok 7 rfl (wl_pure (S' := [_,_,_,_,_,_,_,_,_,_,_,_]) rfl rfl rfl rfl rfl (wl_nil ?_)))))))))))))))
    refine we_x [] [] rfl rfl (wx_done hok rfl ?_)
    refine we_join (a25) ha25 [0,7,16,6,1,2] rfl (asK [] rfl) rfl
  ·
   rintro a25 ha25
   try dsimp only
   refine wc_seq (wc_region (wP rfl (wP rfl (wN rfl tE_22 (wP rfl (wl_sliceMid rfl rfl rfl (freshS_eq rfl) rfl rfl rfl rfl rfl rfl tE_22 tS_27 (by simp; omega) (by omega) (fun a31 ha31 => (wl_clearTail 0 rfl rfl rfl rfl rfl (fun h => ha31 (by simp at h ⊢; omega)) (by simp; omega) tE_22 tZ_27 rfl rfl rfl (wl_nil (we_then (wc_keep [0,7,16,6,1,2] (S' := [_,_,_,_,_,_]) rfl (wc_seq (wc_region (wP rfl ?_))))))))))))))
   refine wl_pure (S' := [_,_,_,_,_,_]) rfl rfl rfl rfl rfl (wl_nil (we_then (wc_keep [6,0,7,16,1,2] (S' := [_,_,_,_,_,_]) rfl (wc_ret (ret_one (Hr := [.own 27 3 R_FactD (.slice (some ⟨g0,0, none⟩) ((L.take k ++ L.drop (k + 1)).length) c) (L.take k ++ L.drop (k + 1))]) [0] Tryz.results51 (res_tmp rfl) ?_ (asK [] rfl) rfl rfl (.inl rfl))))))
   exact ⟨_,_, rfl, rfl, rfl⟩
theorem Delete51_s (p : Option Addr) (c : Nat) (i : Int) (L : List FactD) (h0 : 0 ≤ i) (hk : i.toNat < L.length) : Spec Tryz.prog 51 [.slice p L.length c, .int .i64 i, .int .i64 (i + 1)] [] [.own 27 3 R_FactD (.slice p L.length c) L] (fun v Φr Hr => ∃ p' c', v = .slice p' (L.take i.toNat ++ L.drop (i.toNat + 1)).length c' ∧ Φr = [] ∧ Hr = [.own 27 3 R_FactD v (L.take i.toNat ++ L.drop (i.toNat + 1))]) := by
  obtain ⟨k, rfl⟩ := Int.eq_ofNat_of_zero_le h0
  have e1 : ((k : Int) + 1) = ((k + 1 : Nat) : Int) := by omega
  rw [e1]
  exact Delete51_n p c k L hk
theorem w_memory_Memory_Drop_s (N : Nat) (qg0 : Nat) (qp1 : Option Addr) (qn2 : Nat) (qc3 : Nat) (l0 : List FactD) (a1 : Int) (a2 : Int) (o0 : Nat) (o3 : List FactD) (hm : m_memory_Memory_Drop N l0 a1 a2 = some (o0, o3)) : Spec Tryz.prog 21 [.pointer (some ⟨qg0,0, none⟩), .int .i64 a2] [] [.blk qg0 [.slice qp1 qn2 qc3, .int .i64 a1] 61, .own 27 3 R_FactD (.slice qp1 qn2 qc3) l0] (fun v Φr Hr => ∃ (o1 : Option Addr) (o2 : Nat) (o4 : Nat), v = .int .i64 ((o0 : Nat) : Int) ∧ Φr = [] ∧ Hr = [.blk qg0 [.slice o1 o4 o2, .int .i64 a1] 61, .own 27 3 R_FactD (.slice o1 o4 o2) o3]) := by
 unfold m_memory_Memory_Drop at hm
 refine spec_of Tryz.func21 rfl Tryz.ntmps21 rfl (S := [_,_]) rfl (fun C => (wc_seq (wc_region (wP rfl (wl_nil (we_then (wc_keep [0,1] (S' := [_,_]) rfl (wc_seq (wc_seq (wc_region (wP rfl ?_)))))))))))
 obtain ⟨_, hc8, hm⟩ := bindO_some hm
 try dsimp only at hm
 refine wC [0,1] [] rfl fn_45 rfl (w_memory_Memory_known_s N qg0 qp1 qn2 qc3 l0 a1 hc8) (asK [] rfl) rfl (H' := []) rfl ?_
 rintro _ _ _ ⟨rfl, rfl, rfl⟩
 refine wP rfl (wl_nil (we_then (wc_keep [9,0,1] (S' := [_,_,_]) rfl ?_)))
 refine wc_cond rfl (fun hb9 => ?_) (fun hb9 => ?_)
 ·
  replace hm := iteT hm hb9
  refine wc_keep [] (S' := []) rfl (wc_seq (wc_region (wP rfl (wl_nil (we_then (wc_ret (we_then_ret ?_)))))))
  have hE := (Option.some.inj hm).symm
  obtain ⟨hE0, hE1⟩ := Prod.mk.inj hE
  clear hE
  replace hE0 := hE0.symm
  subst hE0
  replace hE1 := hE1.symm
  subst hE1
  refine ret_one (Hr := [_,_]) [0,1] Tryz.results21 (res_tmp rfl) ⟨qp1, qc3, qn2, rfl, rfl, rfl⟩ (asK [] rfl) rfl rfl (.inl rfl)
 ·
  replace hm := iteF hm hb9
  refine wc_keep [0,1] (S' := [_,_]) rfl (wc_skip (we_then (wc_seq (wc_region (wP rfl (wP rfl (wF rfl tF_61_0 (wP rfl ?_))))))))
  obtain ⟨⟨v15_0, v15_1⟩, hc15, hm⟩ := bindO_some hm
  try dsimp only at hm
  refine wC [0,1] [] rfl fn_50 rfl (w_memory_row_at_s N qg0 qp1 qn2 qc3 l0 a1 a2 _ _ hc15) (asK [] rfl) rfl (H' := []) rfl ?_
  rintro _ _ _ ⟨rfl, rfl, rfl⟩
  refine wP rfl (wP rfl (wP rfl (wP rfl (wP rfl (wl_nil (we_then (wc_keep [6,5,0] (S' := [_,_,_]) rfl (wc_seq (wc_seq (wc_region (wP rfl (wP rfl (wl_nil ?_)))))))))))))
  refine we_then (wc_keep [19,5,0] (S' := [_,_,_]) rfl ?_)
  refine wc_cond rfl (fun hb19 => ?_) (fun hb19 => ?_)
  ·
   replace hm := iteT hm hb19
   refine wc_keep [] (S' := []) rfl (wc_seq (wc_region (wP rfl (wl_nil (we_then (wc_ret (we_then_ret ?_)))))))
   have hE := (Option.some.inj hm).symm
   obtain ⟨hE0, hE1⟩ := Prod.mk.inj hE
   clear hE
   replace hE0 := hE0.symm
   subst hE0
   replace hE1 := hE1.symm
   subst hE1
   refine ret_one (Hr := [_,_]) [0,1] Tryz.results21 (res_tmp rfl) ⟨qp1, qc3, qn2, rfl, rfl, rfl⟩ (asK [] rfl) rfl rfl (.inl rfl)
  ·
   replace hm := iteF hm hb19
   refine wc_keep [5,0] (S' := [_,_]) rfl (wc_skip (we_then (wc_seq (wc_region (wP rfl (wP rfl (wP rfl (wF rfl tF_61_0 (wF rfl tF_59_0 (wD 0 0 rfl tS_22 tA_22 rfl (wP rfl (wP rfl (wP rfl ?_)))))))))))))
   obtain ⟨hg28, hm⟩ := gd_some hm
   refine wl_as (d := 28) (v' := .int .i64 (v15_0 + 1)) (S' := [_,_,_,_,_,_,_,_,_,_]) rfl rfl (i64_in hg28) (wl_ownLen 1 rfl (fun hzqn2 _ => ?_))
   subst hzqn2
   obtain ⟨hg29, hm⟩ := gd_some hm
   obtain ⟨hgk29, hm⟩ := gd_some hm
   refine wC [1] [0] rfl fn_51 rfl (Delete51_s qp1 qc3 v15_0 l0 hg29 hgk29) (asK [] rfl) rfl (H' := [_]) rfl ?_
   rintro _ _ _ ⟨p29, c29, rfl, rfl, rfl⟩
   refine wP rfl (wF rfl tF_61_0 (wF rfl tF_59_0 (wS 1 0 rfl tS_22 (all' := [_,_]) rfl (H' := [_,_]) rfl (wl_nil (we_then (wc_keep [] (S' := []) rfl (wc_seq (wc_region (wP rfl (wl_nil (we_then (wc_ret ?_))))))))))))
   have hE := (Option.some.inj hm).symm
   obtain ⟨hE0, hE1⟩ := Prod.mk.inj hE
   clear hE
   replace hE0 := hE0.symm
   subst hE0
   replace hE1 := hE1.symm
   subst hE1
   refine ret_one (Hr := [_,_]) [1,0] Tryz.results21 (res_tmp rfl) ⟨p29, c29, (l0.take v15_0.toNat ++ l0.drop (v15_0.toNat + 1)).length, rfl, rfl, rfl⟩ (asK [] rfl) rfl rfl (.inl rfl)
theorem w_memory_row_all_s (N : Nat) (qg0 : Nat) (qp1 : Option Addr) (qn2 : Nat) (qc3 : Nat) (l0 : List FactD) (a1 : Int) (o2 : List FactD) (hm : m_memory_row_all N l0 a1 = some o2) : Spec Tryz.prog 46 [.pointer (some ⟨qg0,0, none⟩)] [] [.blk qg0 [.slice qp1 qn2 qc3, .int .i64 a1] 61, .own 27 3 R_FactD (.slice qp1 qn2 qc3) l0] (fun v Φr Hr => ∃ (o0 : Option Addr) (o1 : Nat) (o3 : Nat), v = .slice o0 o3 o1 ∧ Φr = [] ∧ Hr = [treeF T_FactD 27 3 (.slice o0 o3 o1) o2, .blk qg0 [.slice qp1 qn2 qc3, .int .i64 a1] 61, .own 27 3 R_FactD (.slice qp1 qn2 qc3) l0]) := by
 unfold m_memory_row_all at hm
 refine spec_of Tryz.func46 rfl Tryz.ntmps46 rfl (S := [_]) rfl (fun C => (wc_seq (wc_region (wP rfl (wl_nil (we_then (wc_keep [0] (S' := [_]) rfl (wc_seq (wc_region (wP rfl (wl_nil (we_then (wc_seq ?_)))))))))))))
 obtain ⟨bj_1, hm, hLj_1⟩ := bindO_some hm
 refine wc_cut (σ := (List FactD) × (Option Addr) × Nat × Nat) (fun (j_1_3_l, j_1_3_p, j_1_3_c, j_1_3_n) => bj_1 = j_1_3_l) (fun (j_1_3_l, j_1_3_p, j_1_3_c, j_1_3_n) => [(3, .slice j_1_3_p j_1_3_n j_1_3_c)]) (fun (j_1_3_l, j_1_3_p, j_1_3_c, j_1_3_n) => []) (fun (j_1_3_l, j_1_3_p, j_1_3_c, j_1_3_n) => [treeF T_FactD 27 3 (.slice j_1_3_p j_1_3_n j_1_3_c) j_1_3_l, .blk qg0 [.slice qp1 qn2 qc3, .int .i64 a1] 61, .own 27 3 R_FactD (.slice qp1 qn2 qc3) l0]) ?_ ?_
 ·
  refine wc_seq (wc_region (wP rfl (wP rfl (wF rfl tF_59_0 (wD 0 0 rfl tS_22 tA_22 rfl (wl_ownLen 1 rfl (fun hl10 _ => (wN rfl tE_22 (wl_as (d := 10) (v' := .int .i64 ((l0.length : Nat) : Int)) (S' := [_,_,_,_,_,_]) rfl rfl (len_is hl10) (wP rfl (wl_nil (we_then (wc_keep [11,10,9,3] (S' := [_,_,_,_]) rfl (wc_block ?_))))))))))))))
  refine wc_sh [treeF T_FactD 27 3 (.slice none 0 0) [],_,_] (fun _ h => h.treeNil T_FactD 27 3) (wc_pick [2,0,1] rfl (H' := [_,_,_]) rfl (wc_loop (σ := Nat × Nat × (List FactD) × (Option Addr) × Nat × Nat) (fun (nu1, u1_11, u1_3_l, u1_3_p, u1_3_c, u1_3_n) => iter (m_memory_row_all_L1 N l0) nu1 (u1_11, u1_3_l) = some bj_1) (fun (nu1, u1_11, u1_3_l, u1_3_p, u1_3_c, u1_3_n) => nu1) (fun (nu1, u1_11, u1_3_l, u1_3_p, u1_3_c, u1_3_n) => [(11, .int .i64 ((u1_11 : Nat) : Int)), (10, .int .i64 ((l0.length : Nat) : Int)), (9, .slice qp1 qn2 qc3), (3, .slice u1_3_p u1_3_n u1_3_c)]) (fun (nu1, u1_11, u1_3_l, u1_3_p, u1_3_c, u1_3_n) => []) (fun (nu1, u1_11, u1_3_l, u1_3_p, u1_3_c, u1_3_n) => [.own 27 3 R_FactD (.slice qp1 qn2 qc3) l0, treeF T_FactD 27 3 (.slice u1_3_p u1_3_n u1_3_c) u1_3_l, .blk qg0 [.slice qp1 qn2 qc3, .int .i64 a1] 61]) (N, 0,[], none, 0,0) hm [11,10,9,3] rfl (asK [] rfl) rfl (fun s_ hm => ?_)))
  obtain ⟨nu1, u1_11, u1_3_l, u1_3_p, u1_3_c, u1_3_n⟩ := s_
  try dsimp only at hm ⊢
  obtain ⟨mu1, bu1, hnu1, hq, hLu1⟩ := iter_some hm
  clear hm
  subst hnu1
  replace hm := hq
  clear hq
  unfold m_memory_row_all_L1 at hm
  try dsimp only at hm
  refine wc_seq (wc_region (wP rfl (wl_as (d := 12) (v' := .bool (decide (u1_11 < l0.length))) (S' := [_,_,_,_]) rfl rfl (natlt (a := u1_11) (b := l0.length)) (wl_nil (we_then (wc_seq ?_))))))
  refine wc_cond rfl (fun hb12 => ?_) (fun hb12 => ?_)
  ·
   replace hm := iteT hm hb12
   refine wc_keep [11,10,9,3] (S' := [_,_,_,_]) rfl (wc_skip (we_then (wc_seq (wc_block (wc_seq (wc_region ?_))))))
   obtain ⟨x13, hx13, hm⟩ := bindO_some hm
   refine wl_indexH 0 u1_11 rfl rfl rfl (freshS_eq rfl) rfl rfl rfl rfl rfl (get_lt hx13) tE_22 tS_27 (fun g13 eg13 => ?_)
   subst eg13
   refine wl_loadRow R_FactD_opens 0 u1_11 0 rfl rfl rfl (freshS_eq rfl) rfl rfl rfl hx13 tS_27 tA_27 (v := fun r14 => .agg #[.int .i64 (x13.id), .int .i64 (x13.ty), .slice r14.1 x13.args.length r14.2]) (fun _ => rfl) (fun _ => rfl) (fun r14 _ => (wl_alloc rfl rfl rfl (freshS_eq rfl) rfl tZ_27 rfl (fun g5 => (wS 0 0 rfl tS_27 (all' := [_,_,_]) rfl (H' := [_,_,_,_]) rfl (wl_nil (we_then (wc_keep [5,11,10,9,3] (S' := [_,_,_,_,_]) rfl (wc_region (wP rfl (wl_loadH 0 0 rfl rfl rfl (freshS_eq rfl) rfl rfl rfl (cs := [_,_,_]) rfl tS_27 tA_27 rfl rfl ?_))))))))))
   obtain ⟨_, hc17, hm⟩ := bindO_some hm
   try dsimp only at hm
   refine wC [] [0,1,2,3] rfl fn_28 rfl (w_memory_own_s N x13.id x13.ty r14.1 r14.2 x13.args hc17) (asK [0] rfl) rfl (H' := [_,_,_,_]) rfl ?_
   rintro _ _ _ ⟨p17_0, c17_1, rfl, rfl, rfl⟩
   refine wl_buildSlice rfl rfl rfl (freshS_eq rfl) rfl tE_22 tS_27 tZ_27 rfl (zs := [.int .i64 0, .int .i64 0, .slice none 0 0]) (by kernel_rfl) rfl (out := [_,_,_]) rfl (fun g18 => (wl_treeLen 4 rfl (fun hzt8 _ => ?_)))
   subst hzt8
   refine wl_treeOut 4 rfl (fun zz19 hzz19 => ?_)
   obtain ⟨hg19, hm⟩ := gd_some hm
   have hzs12 : List.map (fun x : FactD × (Option Addr × Nat) => x.1) (zz19 ++ [(x13, (p17_0, c17_1))]) = u1_3_l ++ [x13] := pair_app hzz19 (us := [x13]) rfl
   have hgl19 : zz19.length + ([(x13, (p17_0, c17_1))] : List (FactD × (Option Addr × Nat))).length ≤ 3518437208883 := by rw [pair_len hzz19]; exact hg19
   refine wl_appendH (R := T_FactD.pair) ([(x13, (p17_0, c17_1))]) 5 1 rfl rfl rfl (freshS_eq rfl) rfl rfl rfl rfl rfl (fun F w hφ => ⟨[.int .i64 (x13.id), .int .i64 (x13.ty), .slice p17_0 x13.args.length c17_1],[], rfl, rfl, rfl, rfl⟩) tE_22 tR_27 rfl rfl (Nat.le_trans hgl19 (by decide)) (Nat.le_trans (Nat.mul_le_mul_right _ hgl19) (by decide)) (H2 := fun p19 c19 => [_,_,_,_,_, .own 27 3 T_FactD.pair (.slice p19 ((zz19 ++ [(x13, (p17_0, c17_1))]).length) c19) (zz19 ++ [(x13, (p17_0, c17_1))]), _]) (fun _ _ => rfl) (fun p19 c19 => (wl_drop 1 rfl (H' := [_,_,_,_,_,_]) rfl (wl_as (d := 19) (v' := .slice p19 ((u1_3_l ++ [x13]).length) c19) (S' := [_,_,_,_,_,_,_,_,_]) rfl rfl (by rw [pair_len hzs12]) (wl_hAs 4 (φ' := .own 27 3 T_FactD.pair (.slice p19 ((u1_3_l ++ [x13]).length) c19) (zz19 ++ [(x13, (p17_0, c17_1))])) rfl (by rw [pair_len hzs12]) (H' := [_,_,_,_,_,_]) rfl (wl_pick [1,0,2,3,4,5] rfl (H' := [_,_,_,_,_,_]) rfl (wl_sh [bagF T_FactD (zz19 ++ [(x13, (p17_0, c17_1))]) none, _,_,_,_] (fun _ h => Holds.bagPush (T := T_FactD) (x := x13) (r := (p17_0, c17_1)) (zs := zz19) (H := [_,_,_,_,_]) h 0 rfl) (wl_sh [_,_, treeF T_FactD 27 3 (.slice p19 ((u1_3_l ++ [x13]).length) c19) (u1_3_l ++ [x13]), _] (fun _ h => h.treeIn 3 0 rfl rfl rfl hzs12) (wl_pure (S' := [_,_,_,_,_,_,_,_,_]) rfl rfl rfl rfl rfl (wl_nil (we_block_normal (we_then (wc_keep [3,11,10,9] (S' := [_,_,_,_]) rfl (wc_region (wP rfl ?_))))))))))))))
   obtain ⟨hg20, hm⟩ := gd_some hm
   refine wl_as (d := 20) (v' := .int .i64 ((u1_11 + 1 : Nat) : Int)) (S' := [_,_,_,_]) rfl rfl (nat_add (a := u1_11) (b := 1) hg20) (wl_pure (S' := [_,_,_,_]) rfl rfl rfl rfl rfl (wl_nil ?_))
   have hE := (Option.some.inj hm).symm
   replace hE := link_inl hLu1 hE
   refine we_pick [1,2,3] rfl (H' := [_,_,_]) rfl ?_
   refine we_roundK (_, u1_11 + 1, u1_3_l ++ [x13], p19, c19, (u1_3_l ++ [x13]).length) (Nat.lt_succ_self _) hE [11,10,9,3] rfl (asK [] rfl) rfl
  ·
   replace hm := iteF hm hb12
   refine wc_keep [3] (S' := [_]) rfl (wc_exit (we_then_exit (we_then_exit (we_block_hit ?_))))
   have hE := (Option.some.inj hm).symm
   replace hE := link_inr hLu1 hE
   refine we_pick [1,2,0] rfl (H' := [_,_,_]) rfl ?_
   refine we_join (u1_3_l, u1_3_p, u1_3_c, u1_3_n) hE [3] rfl (asK [] rfl) rfl
 ·
  rintro ⟨j_1_3_l, j_1_3_p, j_1_3_c, j_1_3_n⟩ hE
  try dsimp only
  have hm := hLj_1
  rw [hE] at hm
  refine wc_seq (wc_region (wP rfl (wP rfl (wl_nil (we_then (wc_keep [2] (S' := [_]) rfl (wc_ret ?_)))))))
  have hE := (Option.some.inj hm).symm
  replace hE := hE.symm
  subst hE
  refine ret_one (Hr := [_,_,_]) [0,1,2] Tryz.results46 (res_tmp rfl) ⟨j_1_3_p, j_1_3_c, j_1_3_n, rfl, rfl, rfl⟩ (asK [] rfl) rfl rfl (.inl rfl)
theorem w_memory_Memory_All_s (N : Nat) (qg0 : Nat) (qp1 : Option Addr) (qn2 : Nat) (qc3 : Nat) (l0 : List FactD) (a1 : Int) (o2 : List FactD) (hm : m_memory_Memory_All N l0 a1 = some o2) : Spec Tryz.prog 15 [.pointer (some ⟨qg0,0, none⟩)] [] [.blk qg0 [.slice qp1 qn2 qc3, .int .i64 a1] 61, .own 27 3 R_FactD (.slice qp1 qn2 qc3) l0] (fun v Φr Hr => ∃ (o0 : Option Addr) (o1 : Nat) (o3 : Nat), v = .slice o0 o3 o1 ∧ Φr = [] ∧ Hr = [treeF T_FactD 27 3 (.slice o0 o3 o1) o2, .blk qg0 [.slice qp1 qn2 qc3, .int .i64 a1] 61, .own 27 3 R_FactD (.slice qp1 qn2 qc3) l0]) := by
 unfold m_memory_Memory_All at hm
 refine spec_of Tryz.func15 rfl Tryz.ntmps15 rfl (S := [_]) rfl (fun C => (wc_seq (wc_region (wP rfl (wl_nil (we_then (wc_keep [0] (S' := [_]) rfl (wc_seq (wc_seq (wc_region (wP rfl ?_)))))))))))
 obtain ⟨_, hc4, hm⟩ := bindO_some hm
 try dsimp only at hm
 refine wC [0,1] [] rfl fn_45 rfl (w_memory_Memory_known_s N qg0 qp1 qn2 qc3 l0 a1 hc4) (asK [] rfl) rfl (H' := []) rfl ?_
 rintro _ _ _ ⟨rfl, rfl, rfl⟩
 refine wP rfl (wl_nil (we_then (wc_keep [5,0] (S' := [_,_]) rfl ?_)))
 refine wc_cond rfl (fun hb5 => ?_) (fun hb5 => ?_)
 ·
  replace hm := iteT hm hb5
  refine wc_keep [] (S' := []) rfl (wc_seq (wc_region (wP rfl (wl_nil (we_then (wc_ret (we_then_ret ?_)))))))
  have hE := (Option.some.inj hm).symm
  replace hE := hE.symm
  subst hE
  refine we_sh [treeF T_FactD 27 3 (.slice none 0 0) [],_,_] (fun _ h => h.treeNil T_FactD 27 3) ?_
  refine ret_one (Hr := [_,_,_]) [0,1,2] Tryz.results15 (res_tmp rfl) ⟨none, 0,0, rfl, rfl, rfl⟩ (asK [] rfl) rfl rfl (.inl rfl)
 ·
  replace hm := iteF hm hb5
  refine wc_keep [0] (S' := [_]) rfl (wc_skip (we_then (wc_seq (wc_region (wP rfl (wP rfl (wF rfl tF_61_0 ?_)))))))
  obtain ⟨v9, hc9, hm⟩ := bindO_some hm
  refine wC [0,1] [] rfl fn_46 rfl (w_memory_row_all_s N qg0 qp1 qn2 qc3 l0 a1 _ hc9) (asK [] rfl) rfl (H' := []) rfl ?_
  rintro _ _ _ ⟨p9_0, c9_1, c9_2, rfl, rfl, rfl⟩
  refine wP rfl (wl_nil (we_then (wc_keep [2] (S' := [_]) rfl (wc_ret ?_))))
  have hE := (Option.some.inj hm).symm
  replace hE := hE.symm
  subst hE
  refine ret_one (Hr := [_,_,_]) [0,1,2] Tryz.results15 (res_tmp rfl) ⟨p9_0, c9_1, c9_2, rfl, rfl, rfl⟩ (asK [] rfl) rfl rfl (.inl rfl)
theorem w_memory_Memory_Len_s (N : Nat) (qg0 : Nat) (qp1 : Option Addr) (qn2 : Nat) (qc3 : Nat) (l0 : List FactD) (a1 : Int) (o0 : Nat) (hm : m_memory_Memory_Len N l0 a1 = some o0) : Spec Tryz.prog 22 [.pointer (some ⟨qg0,0, none⟩)] [] [.blk qg0 [.slice qp1 qn2 qc3, .int .i64 a1] 61, .own 27 3 R_FactD (.slice qp1 qn2 qc3) l0] (fun v Φr Hr => v = .int .i64 ((o0 : Nat) : Int) ∧ Φr = [] ∧ Hr = [.blk qg0 [.slice qp1 qn2 qc3, .int .i64 a1] 61, .own 27 3 R_FactD (.slice qp1 qn2 qc3) l0]) := by
 unfold m_memory_Memory_Len at hm
 refine spec_of Tryz.func22 rfl Tryz.ntmps22 rfl (S := [_]) rfl (fun C => (wc_seq (wc_region (wP rfl (wl_nil (we_then (wc_keep [0] (S' := [_]) rfl (wc_seq (wc_seq (wc_region (wP rfl ?_)))))))))))
 obtain ⟨_, hc4, hm⟩ := bindO_some hm
 try dsimp only at hm
 refine wC [0,1] [] rfl fn_45 rfl (w_memory_Memory_known_s N qg0 qp1 qn2 qc3 l0 a1 hc4) (asK [] rfl) rfl (H' := []) rfl ?_
 rintro _ _ _ ⟨rfl, rfl, rfl⟩
 refine wP rfl (wl_nil (we_then (wc_keep [5,0] (S' := [_,_]) rfl ?_)))
 refine wc_cond rfl (fun hb5 => ?_) (fun hb5 => ?_)
 ·
  replace hm := iteT hm hb5
  refine wc_keep [] (S' := []) rfl (wc_seq (wc_region (wP rfl (wl_nil (we_then (wc_ret (we_then_ret ?_)))))))
  have hE := (Option.some.inj hm).symm
  replace hE := hE.symm
  subst hE
  refine ret_one (Hr := [_,_]) [0,1] Tryz.results22 (res_tmp rfl) ⟨rfl, rfl, rfl⟩ (asK [] rfl) rfl rfl (.inl rfl)
 ·
  replace hm := iteF hm hb5
  refine wc_keep [0] (S' := [_]) rfl (wc_skip (we_then (wc_seq (wc_region (wP rfl (wP rfl (wF rfl tF_61_0 (wF rfl tF_59_0 (wD 0 0 rfl tS_22 tA_22 rfl (wl_ownLen 1 rfl (fun hl11 _ => (wN rfl tE_22 (wl_as (d := 11) (v' := .int .i64 ((l0.length : Nat) : Int)) (S' := [_,_,_,_,_,_]) rfl rfl (len_is hl11) (wP rfl ?_))))))))))))))
  refine wl_nil (we_then (wc_keep [2] (S' := [_]) rfl (wc_ret ?_)))
  have hE := (Option.some.inj hm).symm
  replace hE := hE.symm
  subst hE
  refine ret_one (Hr := [_,_]) [0,1] Tryz.results22 (res_tmp rfl) ⟨rfl, rfl, rfl⟩ (asK [] rfl) rfl rfl (.inl rfl)
theorem w_memory_Memory_Next_s (N : Nat) (qg0 : Nat) (qp1 : Option Addr) (qn2 : Nat) (qc3 : Nat) (l0 : List FactD) (a1 : Int) (o0 : Int) (hm : m_memory_Memory_Next N l0 a1 = some o0) : Spec Tryz.prog 23 [.pointer (some ⟨qg0,0, none⟩)] [] [.blk qg0 [.slice qp1 qn2 qc3, .int .i64 a1] 61, .own 27 3 R_FactD (.slice qp1 qn2 qc3) l0] (fun v Φr Hr => v = .int .i64 o0 ∧ Φr = [] ∧ Hr = [.blk qg0 [.slice qp1 qn2 qc3, .int .i64 a1] 61, .own 27 3 R_FactD (.slice qp1 qn2 qc3) l0]) := by
 unfold m_memory_Memory_Next at hm
 refine spec_of Tryz.func23 rfl Tryz.ntmps23 rfl (S := [_]) rfl (fun C => (wc_seq (wc_region (wP rfl (wl_nil (we_then (wc_keep [0] (S' := [_]) rfl (wc_seq (wc_seq (wc_region (wP rfl ?_)))))))))))
 obtain ⟨_, hc4, hm⟩ := bindO_some hm
 try dsimp only at hm
 refine wC [0,1] [] rfl fn_45 rfl (w_memory_Memory_known_s N qg0 qp1 qn2 qc3 l0 a1 hc4) (asK [] rfl) rfl (H' := []) rfl ?_
 rintro _ _ _ ⟨rfl, rfl, rfl⟩
 refine wP rfl (wl_nil (we_then (wc_keep [5,0] (S' := [_,_]) rfl ?_)))
 refine wc_cond rfl (fun hb5 => ?_) (fun hb5 => ?_)
 ·
  replace hm := iteT hm hb5
  refine wc_keep [] (S' := []) rfl (wc_seq (wc_region (wP rfl (wl_nil (we_then (wc_ret (we_then_ret ?_)))))))
  have hE := (Option.some.inj hm).symm
  replace hE := hE.symm
  subst hE
  refine ret_one (Hr := [_,_]) [0,1] Tryz.results23 (res_tmp rfl) ⟨rfl, rfl, rfl⟩ (asK [] rfl) rfl rfl (.inl rfl)
 ·
  replace hm := iteF hm hb5
  refine wc_keep [0] (S' := [_]) rfl (wc_skip (we_then (wc_seq (wc_region (wP rfl (wP rfl (wF rfl tF_61_1 (wD 0 1 rfl tS_3 tA_3 rfl (wP rfl (wl_nil (we_then (wc_keep [2] (S' := [_]) rfl (wc_ret ?_)))))))))))))
  have hE := (Option.some.inj hm).symm
  replace hE := hE.symm
  subst hE
  refine ret_one (Hr := [_,_]) [0,1] Tryz.results23 (res_tmp rfl) ⟨rfl, rfl, rfl⟩ (asK [] rfl) rfl rfl (.inl rfl)
theorem w_ropewalklaw11_awake_s (N : Nat)  (o0 : Bool) (hm : m_ropewalklaw11_awake N = some o0) : Spec Tryz.prog 5 [] [] [] (fun v Φr Hr => v = .bool o0 ∧ Φr = [] ∧ Hr = []) := by
 unfold m_ropewalklaw11_awake at hm
 refine spec_of Tryz.func5 rfl Tryz.ntmps5 rfl (S := []) rfl (fun C => (wc_seq (wc_region (wP rfl (wl_nil (we_then (wc_keep [] (S' := []) rfl (wc_seq (wc_region ?_)))))))))
 obtain ⟨_, hc14, hm⟩ := bindO_some hm
 try dsimp only at hm
 refine wC [] [] rfl fn_6 rfl (w_memory_New_s N  hc14) (asK [] rfl) rfl (H' := []) rfl ?_
 rintro _ _ _ ⟨c14_0, rfl, rfl, rfl⟩
 refine wP rfl (wl_nil (we_then (wc_keep [1] (S' := [_]) rfl (wc_seq (wc_region (wP rfl ?_))))))
 obtain ⟨_, hc17, hm⟩ := bindO_some hm
 try dsimp only at hm
 refine wC [] [0] rfl fn_17 rfl (w_ropewalklaw11_num_s N 5 hc17) (asK [] rfl) rfl (H' := [_]) rfl ?_
 rintro _ _ _ ⟨rfl, rfl, rfl⟩
 refine wl_buildSlice rfl rfl rfl (freshS_eq rfl) rfl tE_25 tS_51 tZ_51 rfl (zs := [.int .u8 0, .int .i64 0, .string ((⟨#[]⟩ : ByteArray))]) (by kernel_rfl) rfl (out := [_,_,_]) rfl (fun g18 => (wl_rowNil 27 3 R_FactD (wl_row (sz := 3) (m := 1) R_V ([(⟨1,5, (⟨#[]⟩ : ByteArray)⟩ : V)]) 1 rfl (fun F w hφ => ⟨[.int .u8 1, .int .i64 5, .string ((⟨#[]⟩ : ByteArray))],[], rfl, rfl, ⟨(), rfl, ask_nil⟩, rfl⟩) rfl (by decide) (H' := [_,_,_]) rfl ?_)))
 obtain ⟨⟨v19_0, v19_1, v19_2, v19_3⟩, hc19, hm⟩ := bindO_some hm
 try dsimp only at hm
 refine wC [2,0,1] [] rfl fn_20 rfl (w_memory_Memory_Add_v2_s N c14_0 none 0 0 [] 1 0 (some ⟨g18,0, none⟩) ([(⟨1,5, (⟨#[]⟩ : ByteArray)⟩ : V)].length) 1 [(⟨1,5, (⟨#[]⟩ : ByteArray)⟩ : V)] _ _ _ _ hc19) (asK [] rfl) rfl (H' := []) rfl ?_
 rintro _ _ _ ⟨p19_0, c19_1, c19_2, rfl, rfl, rfl⟩
 refine wP rfl (wP rfl (wP rfl (wP rfl (wP rfl (wl_nil (we_then (wc_keep [3,2,1] (S' := [_,_,_]) rfl (wc_seq (wc_region (wP rfl (wl_build rfl rfl rfl (freshS_eq rfl) rfl tZ_51 tP_51 rfl (out := [_,_,_]) rfl (wl_buildSlice rfl rfl rfl (freshS_eq rfl) rfl tE_25 tS_51 tZ_51 rfl (zs := [.int .u8 0, .int .i64 0, .string ((⟨#[]⟩ : ByteArray))]) (by kernel_rfl) rfl (out := [_,_,_]) rfl (fun g25 => (wl_row (sz := 3) (m := 1) R_V ([(⟨2,0, (⟨#[97]⟩ : ByteArray)⟩ : V)]) 0 rfl (fun F w hφ => ⟨[.int .u8 2, .int .i64 0, .string ((⟨#[97]⟩ : ByteArray))],[], rfl, rfl, ⟨(), rfl, ask_nil⟩, rfl⟩) rfl (by decide) (H' := [_,_,_,_]) rfl ?_))))))))))))))
 obtain ⟨⟨v26_0, v26_1, v26_2, v26_3⟩, hc26, hm⟩ := bindO_some hm
 try dsimp only at hm
 refine wC [1,2,0] [3] rfl fn_20 rfl (w_memory_Memory_Add_v2_s N c14_0 p19_0 c19_2 c19_1 v19_2 v19_3 0 (some ⟨g25,0, none⟩) ([(⟨2,0, (⟨#[97]⟩ : ByteArray)⟩ : V)].length) 1 [(⟨2,0, (⟨#[97]⟩ : ByteArray)⟩ : V)] _ _ _ _ hc26) (asK [] rfl) rfl (H' := [_]) rfl ?_
 rintro _ _ _ ⟨p26_0, c26_1, c26_2, rfl, rfl, rfl⟩
 refine wP rfl (wP rfl (wP rfl (wP rfl (wP rfl (wl_nil (we_then (wc_keep [5,4,3,2,1] (S' := [_,_,_,_,_]) rfl (wc_seq (wc_region (wP rfl ?_))))))))))
 obtain ⟨_, hc31, hm⟩ := bindO_some hm
 try dsimp only at hm
 refine wC [] [0,1,2,3] rfl fn_17 rfl (w_ropewalklaw11_num_s N 5 hc31) (asK [] rfl) rfl (H' := [_,_,_,_]) rfl ?_
 rintro _ _ _ ⟨rfl, rfl, rfl⟩
 refine wl_buildSlice rfl rfl rfl (freshS_eq rfl) rfl tE_25 tS_51 tZ_51 rfl (zs := [.int .u8 0, .int .i64 0, .string ((⟨#[]⟩ : ByteArray))]) (by kernel_rfl) rfl (out := [_,_,_]) rfl (fun g32 => (wl_row (sz := 3) (m := 1) R_V ([(⟨1,5, (⟨#[]⟩ : ByteArray)⟩ : V)]) 0 rfl (fun F w hφ => ⟨[.int .u8 1, .int .i64 5, .string ((⟨#[]⟩ : ByteArray))],[], rfl, rfl, ⟨(), rfl, ask_nil⟩, rfl⟩) rfl (by decide) (H' := [_,_,_,_,_]) rfl ?_))
 obtain ⟨⟨v33_0, v33_1, v33_2, v33_3⟩, hc33, hm⟩ := bindO_some hm
 try dsimp only at hm
 refine wC [1,2,0] [3,4] rfl fn_20 rfl (w_memory_Memory_Add_v2_s N c14_0 p26_0 c26_2 c26_1 v26_2 v26_3 0 (some ⟨g32,0, none⟩) ([(⟨1,5, (⟨#[]⟩ : ByteArray)⟩ : V)].length) 1 [(⟨1,5, (⟨#[]⟩ : ByteArray)⟩ : V)] _ _ _ _ hc33) (asK [] rfl) rfl (H' := [_,_]) rfl ?_
 rintro _ _ _ ⟨p33_0, c33_1, c33_2, rfl, rfl, rfl⟩
 refine wP rfl (wP rfl (wP rfl (wP rfl (wP rfl (wl_nil (we_then (wc_keep [7,6,5,4,3,2,1] (S' := [_,_,_,_,_,_,_]) rfl (wc_seq (wc_region (wP rfl ?_))))))))))
 obtain ⟨⟨v37_0, v37_1⟩, hc37, hm⟩ := bindO_some hm
 try dsimp only at hm
 refine wC [0,1] [2,3,4] rfl fn_21 rfl (w_memory_Memory_Drop_s N c14_0 p33_0 c33_2 c33_1 v33_2 v33_3 1 _ _ hc37) (asK [] rfl) rfl (H' := [_,_,_]) rfl ?_
 rintro _ _ _ ⟨p37_0, c37_1, c37_2, rfl, rfl, rfl⟩
 refine wP rfl (wl_nil (we_then (wc_keep [8,7,6,5,4,3,2,1] (S' := [_,_,_,_,_,_,_,_]) rfl (wc_seq (wc_region (wP rfl ?_))))))
 obtain ⟨_, hc40, hm⟩ := bindO_some hm
 try dsimp only at hm
 refine wC [] [0,1,2,3,4] rfl fn_17 rfl (w_ropewalklaw11_num_s N 5 hc40) (asK [] rfl) rfl (H' := [_,_,_,_,_]) rfl ?_
 rintro _ _ _ ⟨rfl, rfl, rfl⟩
 refine wl_buildSlice rfl rfl rfl (freshS_eq rfl) rfl tE_25 tS_51 tZ_51 rfl (zs := [.int .u8 0, .int .i64 0, .string ((⟨#[]⟩ : ByteArray))]) (by kernel_rfl) rfl (out := [_,_,_]) rfl (fun g41 => (wl_row (sz := 3) (m := 1) R_V ([(⟨1,5, (⟨#[]⟩ : ByteArray)⟩ : V)]) 0 rfl (fun F w hφ => ⟨[.int .u8 1, .int .i64 5, .string ((⟨#[]⟩ : ByteArray))],[], rfl, rfl, ⟨(), rfl, ask_nil⟩, rfl⟩) rfl (by decide) (H' := [_,_,_,_,_,_]) rfl ?_))
 obtain ⟨⟨v42_0, v42_1, v42_2, v42_3⟩, hc42, hm⟩ := bindO_some hm
 try dsimp only at hm
 refine wC [1,2,0] [3,4,5] rfl fn_20 rfl (w_memory_Memory_Add_v2_s N c14_0 p37_0 c37_2 c37_1 v37_1 v33_3 0 (some ⟨g41,0, none⟩) ([(⟨1,5, (⟨#[]⟩ : ByteArray)⟩ : V)].length) 1 [(⟨1,5, (⟨#[]⟩ : ByteArray)⟩ : V)] _ _ _ _ hc42) (asK [] rfl) rfl (H' := [_,_,_]) rfl ?_
 rintro _ _ _ ⟨p42_0, c42_1, c42_2, rfl, rfl, rfl⟩
 refine wP rfl (wP rfl (wP rfl (wP rfl (wP rfl (wl_nil (we_then (wc_keep [10,9,8,7,6,5,4,3,2,1] (S' := [_,_,_,_,_,_,_,_,_,_]) rfl (wc_seq (wc_region (wP rfl (wl_fact (.sli 3 R_V none 0 ([] : List V)) (fun _ _ _ => sli_none) ?_)))))))))))
 obtain ⟨⟨v47_0, v47_1, v47_2, v47_3⟩, hc47, hm⟩ := bindO_some hm
 try dsimp only at hm
 refine wC [0,1] [2,3,4,5] rfl fn_20 rfl (w_memory_Memory_Add_s N c14_0 p42_0 c42_2 c42_1 v42_2 v42_3 32 none 0 ([] : List V) _ _ _ _ hc47) (asK [0] rfl) rfl (H' := [_,_,_,_]) rfl ?_
 rintro _ _ _ ⟨p47_0, c47_1, c47_2, rfl, rfl, rfl⟩
 refine wP rfl (wP rfl (wP rfl (wP rfl (wP rfl (wl_nil (we_then (wc_keep [12,10,9,8,7,6,5,4,3,2,1] (S' := [_,_,_,_,_,_,_,_,_,_,_]) rfl (wc_seq (wc_region (wP rfl ?_))))))))))
 obtain ⟨v51, hc51, hm⟩ := bindO_some hm
 refine wC [0,1] [2,3,4,5] rfl fn_15 rfl (w_memory_Memory_All_s N c14_0 p47_0 c47_2 c47_1 v47_2 v47_3 _ hc51) (asK [] rfl) rfl (H' := [_,_,_,_]) rfl ?_
 rintro _ _ _ ⟨p51_0, c51_1, c51_2, rfl, rfl, rfl⟩
 refine wP rfl (wl_nil (we_then (wc_keep [13,12,10,9,8,7,6,5,4,3,2,1] (S' := [_,_,_,_,_,_,_,_,_,_,_,_]) rfl (wc_seq ?_))))
 obtain ⟨bj_1, hm, hLj_1⟩ := bindO_some hm
 unfold m_ropewalklaw11_awake_C1 at hm
 refine wc_cut (σ := Bool) (fun j_1_0 => bj_1 = j_1_0) (fun j_1_0 => [(0, .bool j_1_0)]) (fun j_1_0 => []) (fun j_1_0 => []) ?_ ?_
 ·
  refine wc_region (wP rfl (wP rfl (wP rfl ?_)))
  refine wl_split (d := 54) (S' := [_,_,_,_,_,_,_,_,_,_,_,_,_,_]) rfl rfl (fun hs54 => ?_) (fun hs54 => ?_)
  ·
   replace hm := iteT hm hs54
   refine wP rfl (wP rfl (wl_as (d := 56) (v' := .bool (v19_1 == 0)) (S' := [_,_,_,_,_,_,_,_,_,_,_,_,_,_,_,_]) rfl rfl (nateq (a := v19_1) (b := 0)) (wP rfl (wP rfl ?_))))
   refine wl_split (d := 58) (S' := [_,_,_,_,_,_,_,_,_,_,_,_,_,_,_,_,_,_]) rfl rfl (fun hs58 => ?_) (fun hs58 => ?_)
   ·
    replace hm := iteT hm hs58
    refine wP rfl (wP rfl (wP rfl (wP rfl ?_)))
    refine wl_split (d := 62) (S' := [_,_,_,_,_,_,_,_,_,_,_,_,_,_,_,_,_,_,_,_,_,_]) rfl rfl (fun hs62 => ?_) (fun hs62 => ?_)
    ·
     replace hm := iteT hm hs62
     refine wP rfl (wP rfl (wl_as (d := 64) (v' := .bool (v26_1 == 0)) (S' := [_,_,_,_,_,_,_,_,_,_,_,_,_,_,_,_,_,_,_,_,_,_,_,_]) rfl rfl (nateq (a := v26_1) (b := 0)) (wP rfl (wP rfl ?_))))
     refine wl_split (d := 66) (S' := [_,_,_,_,_,_,_,_,_,_,_,_,_,_,_,_,_,_,_,_,_,_,_,_,_,_]) rfl rfl (fun hs66 => ?_) (fun hs66 => ?_)
     ·
      replace hm := iteT hm hs66
      refine wP rfl (wP rfl (wP rfl (wP rfl ?_)))
      refine wl_split (d := 70) (S' := [_,_,_,_,_,_,_,_,_,_,_,_,_,_,_,_,_,_,_,_,_,_,_,_,_,_,_,_,_,_]) rfl rfl (fun hs70 => ?_) (fun hs70 => ?_)
      ·
       replace hm := iteT hm hs70
       refine wP rfl (wP rfl (wl_as (d := 72) (v' := .bool (v33_1 == 7)) (S' := [_,_,_,_,_,_,_,_,_,_,_,_,_,_,_,_,_,_,_,_,_,_,_,_,_,_,_,_,_,_,_,_]) rfl rfl (nateq (a := v33_1) (b := 7)) (wP rfl (wP rfl ?_))))
       refine wl_split (d := 74) (S' := [_,_,_,_,_,_,_,_,_,_,_,_,_,_,_,_,_,_,_,_,_,_,_,_,_,_,_,_,_,_,_,_,_,_]) rfl rfl (fun hs74 => ?_) (fun hs74 => ?_)
       ·
        replace hm := iteT hm hs74
        refine wP rfl (wP rfl (wl_as (d := 76) (v' := .bool (v37_0 == 0)) (S' := [_,_,_,_,_,_,_,_,_,_,_,_,_,_,_,_,_,_,_,_,_,_,_,_,_,_,_,_,_,_,_,_,_,_,_,_]) rfl rfl (nateq (a := v37_0) (b := 0)) (wP rfl (wP rfl ?_))))
        refine wl_split (d := 78) (S' := [_,_,_,_,_,_,_,_,_,_,_,_,_,_,_,_,_,_,_,_,_,_,_,_,_,_,_,_,_,_,_,_,_,_,_,_,_,_]) rfl rfl (fun hs78 => ?_) (fun hs78 => ?_)
        ·
         replace hm := iteT hm hs78
         refine wP rfl (wP rfl (wP rfl (wP rfl ?_)))
         refine wl_split (d := 82) (S' := [_,_,_,_,_,_,_,_,_,_,_,_,_,_,_,_,_,_,_,_,_,_,_,_,_,_,_,_,_,_,_,_,_,_,_,_,_,_,_,_,_,_]) rfl rfl (fun hs82 => ?_) (fun hs82 => ?_)
         ·
          replace hm := iteT hm hs82
          refine wP rfl (wP rfl (wl_as (d := 84) (v' := .bool (v42_1 == 0)) (S' := [_,_,_,_,_,_,_,_,_,_,_,_,_,_,_,_,_,_,_,_,_,_,_,_,_,_,_,_,_,_,_,_,_,_,_,_,_,_,_,_,_,_,_,_]) rfl rfl (nateq (a := v42_1) (b := 0)) (wP rfl (wP rfl ?_))))
          refine wl_split (d := 86) (S' := [_,_,_,_,_,_,_,_,_,_,_,_,_,_,_,_,_,_,_,_,_,_,_,_,_,_,_,_,_,_,_,_,_,_,_,_,_,_,_,_,_,_,_,_,_,_]) rfl rfl (fun hs86 => ?_) (fun hs86 => ?_)
          ·
           replace hm := iteT hm hs86
           refine wP rfl (wP rfl (wl_as (d := 88) (v' := .bool (v47_1 == 2)) (S' := [_,_,_,_,_,_,_,_,_,_,_,_,_,_,_,_,_,_,_,_,_,_,_,_,_,_,_,_,_,_,_,_,_,_,_,_,_,_,_,_,_,_,_,_,_,_,_,_]) rfl rfl (nateq (a := v47_1) (b := 2)) (wP rfl (wP rfl ?_))))
           refine wl_split (d := 90) (S' := [_,_,_,_,_,_,_,_,_,_,_,_,_,_,_,_,_,_,_,_,_,_,_,_,_,_,_,_,_,_,_,_,_,_,_,_,_,_,_,_,_,_,_,_,_,_,_,_,_,_]) rfl rfl (fun hs90 => ?_) (fun hs90 => ?_)
           ·
            replace hm := iteT hm hs90
            refine wP rfl ?_
            obtain ⟨⟨v92_0, v92_1⟩, hc92, hm⟩ := bindO_some hm
            try dsimp only at hm
            refine wC [1,2] [0,3,4,5,6] rfl fn_21 rfl (w_memory_Memory_Drop_s N c14_0 p47_0 c47_2 c47_1 v47_2 v47_3 1 _ _ hc92) (asK [] rfl) rfl (H' := [_,_,_,_,_]) rfl ?_
            rintro _ _ _ ⟨p92_0, c92_1, c92_2, rfl, rfl, rfl⟩
            refine wP rfl (wl_as (d := 93) (v' := .bool (v92_0 == 6)) (S' := [_,_,_,_,_,_,_,_,_,_,_,_,_,_,_,_,_,_,_,_,_,_,_,_,_,_,_,_,_,_,_,_,_,_,_,_,_,_,_,_,_,_,_,_,_,_,_,_,_,_,_,_,_]) rfl rfl (nateq (a := v92_0) (b := 6)) (wP rfl (wP rfl ?_)))
            refine wl_split (d := 95) (S' := [_,_,_,_,_,_,_,_,_,_,_,_,_,_,_,_,_,_,_,_,_,_,_,_,_,_,_,_,_,_,_,_,_,_,_,_,_,_,_,_,_,_,_,_,_,_,_,_,_,_,_,_,_,_,_]) rfl rfl (fun hs95 => ?_) (fun hs95 => ?_)
            ·
             replace hm := iteT hm hs95
             refine wP rfl (wl_treeLen 2 rfl (fun hzt2 _ => ?_))
             subst hzt2
             refine wN rfl tE_22 (wP rfl (wl_as (d := 98) (v' := .bool (v51.length == 2)) (S' := [_,_,_,_,_,_,_,_,_,_,_,_,_,_,_,_,_,_,_,_,_,_,_,_,_,_,_,_,_,_,_,_,_,_,_,_,_,_,_,_,_,_,_,_,_,_,_,_,_,_,_,_,_,_,_,_,_,_]) rfl rfl (nateq (a := v51.length) (b := 2)) (wP rfl (wP rfl ?_))))
             refine wl_split (d := 100) (S' := [_,_,_,_,_,_,_,_,_,_,_,_,_,_,_,_,_,_,_,_,_,_,_,_,_,_,_,_,_,_,_,_,_,_,_,_,_,_,_,_,_,_,_,_,_,_,_,_,_,_,_,_,_,_,_,_,_,_,_,_]) rfl rfl (fun hs100 => ?_) (fun hs100 => ?_)
             ·
              replace hm := iteT hm hs100
              refine wP rfl (wl_treeOut 2 rfl (fun zz102 hzz102 => ?_))
              obtain ⟨x102, hx102, hm⟩ := bindO_some hm
              obtain ⟨rr102, hrr102⟩ := zip_at hzz102 hx102
              refine wl_indexH 3 0 rfl rfl rfl (freshS_eq rfl) rfl rfl rfl rfl rfl (get_lt hrr102) tE_22 tS_27 (fun g102 eg102 => ?_)
              subst eg102
              refine wF rfl tF_27_0 ?_
              obtain ⟨x104, hx104, hm⟩ := bindO_some hm
              obtain ⟨rr104, hrr104⟩ := zip_at hzz102 hx104
              refine wl_loadRow pair_opens 3 0 0 rfl rfl rfl (freshS_eq rfl) rfl rfl rfl hrr104 tS_3 tA_3 (v := fun _ => .int .i64 (x104.id)) (fun _ => rfl) (fun _ => rfl) (fun _ _ => (wP rfl (wP rfl (wP rfl ?_))))
              refine wl_split (d := 107) (S' := [_,_,_,_,_,_,_,_,_,_,_,_,_,_,_,_,_,_,_,_,_,_,_,_,_,_,_,_,_,_,_,_,_,_,_,_,_,_,_,_,_,_,_,_,_,_,_,_,_,_,_,_,_,_,_,_,_,_,_,_,_,_,_,_,_,_,_]) rfl rfl (fun hs107 => ?_) (fun hs107 => ?_)
              ·
               replace hm := iteT hm hs107
               refine wP rfl ?_
               obtain ⟨x109, hx109, hm⟩ := bindO_some hm
               obtain ⟨rr109, hrr109⟩ := zip_at hzz102 hx109
               refine wl_indexK 3 1 rfl rfl rfl (freshS_eq rfl) rfl rfl rfl rfl rfl (get_lt hrr109) tE_22 tS_27 (wF rfl tF_27_0 ?_)
               obtain ⟨x111, hx111, hm⟩ := bindO_some hm
               obtain ⟨rr111, hrr111⟩ := zip_at hzz102 hx111
               refine wl_loadRow pair_opens 3 1 0 rfl rfl rfl (freshS_eq rfl) rfl rfl rfl hrr111 tS_3 tA_3 (v := fun _ => .int .i64 (x111.id)) (fun _ => rfl) (fun _ => rfl) (fun _ _ => (wP rfl (wP rfl (wP rfl ?_))))
               refine wl_split (d := 114) (S' := [_,_,_,_,_,_,_,_,_,_,_,_,_,_,_,_,_,_,_,_,_,_,_,_,_,_,_,_,_,_,_,_,_,_,_,_,_,_,_,_,_,_,_,_,_,_,_,_,_,_,_,_,_,_,_,_,_,_,_,_,_,_,_,_,_,_,_,_,_,_,_,_,_,_]) rfl rfl (fun hs114 => ?_) (fun hs114 => ?_)
               ·
                replace hm := iteT hm hs114
                refine wP rfl ?_
                obtain ⟨v116, hc116, hm⟩ := bindO_some hm
                refine wC [1,2] [0,3,4,5,6,7] rfl fn_22 rfl (w_memory_Memory_Len_s N c14_0 p92_0 c92_2 c92_1 v92_1 v47_3 _ hc116) (asK [] rfl) rfl (H' := [_,_,_,_,_,_]) rfl ?_
                rintro _ _ _ ⟨rfl, rfl, rfl⟩
                refine wP rfl (wl_as (d := 117) (v' := .bool (v116 == 2)) (S' := [_,_,_,_,_,_,_,_,_,_,_,_,_,_,_,_,_,_,_,_,_,_,_,_,_,_,_,_,_,_,_,_,_,_,_,_,_,_,_,_,_,_,_,_,_,_,_,_,_,_,_,_,_,_,_,_,_,_,_,_,_,_,_,_,_,_,_,_,_,_,_,_,_,_,_,_,_]) rfl rfl (nateq (a := v116) (b := 2)) (wP rfl (wP rfl ?_)))
                refine wl_split (d := 119) (S' := [_,_,_,_,_,_,_,_,_,_,_,_,_,_,_,_,_,_,_,_,_,_,_,_,_,_,_,_,_,_,_,_,_,_,_,_,_,_,_,_,_,_,_,_,_,_,_,_,_,_,_,_,_,_,_,_,_,_,_,_,_,_,_,_,_,_,_,_,_,_,_,_,_,_,_,_,_,_,_]) rfl rfl (fun hs119 => ?_) (fun hs119 => ?_)
                ·
                 replace hm := iteT hm hs119
                 refine wP rfl ?_
                 obtain ⟨v121, hc121, hm⟩ := bindO_some hm
                 refine wC [0,1] [2,3,4,5,6,7] rfl fn_23 rfl (w_memory_Memory_Next_s N c14_0 p92_0 c92_2 c92_1 v92_1 v47_3 _ hc121) (asK [] rfl) rfl (H' := [_,_,_,_,_,_]) rfl ?_
                 rintro _ _ _ ⟨rfl, rfl, rfl⟩
                 refine wP rfl (wP rfl (wP rfl (wl_nil ?_)))
                 have hE := (Option.some.inj hm).symm
                 refine we_pick [] rfl (H' := []) rfl ?_
                 refine we_join (v121 == 4) hE [0] rfl (asK [] rfl) rfl
                ·
                 replace hm := iteF hm hs119
                 refine wO rfl (wO rfl (wO rfl (wP rfl (wP rfl (wl_nil ?_)))))
                 have hE := (Option.some.inj hm).symm
                 refine we_pick [] rfl (H' := []) rfl ?_
                 refine we_join false hE [0] rfl (asK [] rfl) rfl
               ·
                replace hm := iteF hm hs114
                refine wO rfl (wO rfl (wO rfl (wP rfl (wP rfl (wO rfl (wO rfl (wO rfl (wP rfl (wP rfl (wl_nil ?_))))))))))
                have hE := (Option.some.inj hm).symm
                refine we_pick [] rfl (H' := []) rfl ?_
                refine we_join false hE [0] rfl (asK [] rfl) rfl
              ·
               replace hm := iteF hm hs107
               refine wO rfl (wO rfl (wO rfl (wO rfl (wO rfl (wP rfl (wP rfl (wO rfl (wO rfl (wO rfl (wP rfl (wP rfl (wO rfl (wO rfl ?_)))))))))))))
               refine wO rfl (wP rfl (wP rfl (wl_nil ?_)))
               have hE := (Option.some.inj hm).symm
               refine we_pick [] rfl (H' := []) rfl ?_
               refine we_join false hE [0] rfl (asK [] rfl) rfl
             ·
              replace hm := iteF hm hs100
              refine wO rfl (wO rfl (wO rfl (wO rfl (wO rfl (wP rfl (wP rfl (wO rfl (wO rfl (wO rfl (wO rfl (wO rfl (wP rfl (wP rfl ?_)))))))))))))
              refine wO rfl (wO rfl (wO rfl (wP rfl (wP rfl (wO rfl (wO rfl (wO rfl (wP rfl (wP rfl (wl_nil ?_))))))))))
              have hE := (Option.some.inj hm).symm
              refine we_pick [] rfl (H' := []) rfl ?_
              refine we_join false hE [0] rfl (asK [] rfl) rfl
            ·
             replace hm := iteF hm hs95
             refine wO rfl (wO rfl (wO rfl (wP rfl (wP rfl (wO rfl (wO rfl (wO rfl (wO rfl (wO rfl (wP rfl (wP rfl (wO rfl (wO rfl ?_)))))))))))))
             refine wO rfl (wO rfl (wO rfl (wP rfl (wP rfl (wO rfl (wO rfl (wO rfl (wP rfl (wP rfl (wO rfl (wO rfl (wO rfl (wP rfl ?_)))))))))))))
             refine wP rfl (wl_nil ?_)
             have hE := (Option.some.inj hm).symm
             refine we_pick [] rfl (H' := []) rfl ?_
             refine we_join false hE [0] rfl (asK [] rfl) rfl
           ·
            replace hm := iteF hm hs90
            refine wO rfl (wO rfl (wO rfl (wP rfl (wP rfl (wO rfl (wO rfl (wO rfl (wP rfl (wP rfl (wO rfl (wO rfl (wO rfl (wO rfl ?_)))))))))))))
            refine wO rfl (wP rfl (wP rfl (wO rfl (wO rfl (wO rfl (wO rfl (wO rfl (wP rfl (wP rfl (wO rfl (wO rfl (wO rfl (wP rfl ?_)))))))))))))
            refine wP rfl (wO rfl (wO rfl (wO rfl (wP rfl (wP rfl (wl_nil ?_))))))
            have hE := (Option.some.inj hm).symm
            refine we_pick [] rfl (H' := []) rfl ?_
            refine we_join false hE [0] rfl (asK [] rfl) rfl
          ·
           replace hm := iteF hm hs86
           refine wO rfl (wO rfl (wP rfl (wP rfl (wO rfl (wO rfl (wO rfl (wP rfl (wP rfl (wO rfl (wO rfl (wO rfl (wP rfl (wP rfl ?_)))))))))))))
           refine wO rfl (wO rfl (wO rfl (wO rfl (wO rfl (wP rfl (wP rfl (wO rfl (wO rfl (wO rfl (wO rfl (wO rfl (wP rfl (wP rfl ?_)))))))))))))
           refine wO rfl (wO rfl (wO rfl (wP rfl (wP rfl (wO rfl (wO rfl (wO rfl (wP rfl (wP rfl (wl_nil ?_))))))))))
           have hE := (Option.some.inj hm).symm
           refine we_pick [] rfl (H' := []) rfl ?_
           refine we_join false hE [0] rfl (asK [] rfl) rfl
         ·
          replace hm := iteF hm hs82
          refine wO rfl (wO rfl (wP rfl (wP rfl (wO rfl (wO rfl (wP rfl (wP rfl (wO rfl (wO rfl (wO rfl (wP rfl (wP rfl (wO rfl ?_)))))))))))))
          refine wO rfl (wO rfl (wP rfl (wP rfl (wO rfl (wO rfl (wO rfl (wO rfl (wO rfl (wP rfl (wP rfl (wO rfl (wO rfl (wO rfl ?_)))))))))))))
          refine wO rfl (wO rfl (wP rfl (wP rfl (wO rfl (wO rfl (wO rfl (wP rfl (wP rfl (wO rfl (wO rfl (wO rfl (wP rfl (wP rfl ?_)))))))))))))
          refine wl_nil ?_
          have hE := (Option.some.inj hm).symm
          refine we_pick [] rfl (H' := []) rfl ?_
          refine we_join false hE [0] rfl (asK [] rfl) rfl
        ·
         replace hm := iteF hm hs78
         refine wO rfl (wO rfl (wP rfl (wP rfl (wO rfl (wO rfl (wP rfl (wP rfl (wO rfl (wO rfl (wP rfl (wP rfl (wO rfl (wO rfl ?_)))))))))))))
         refine wO rfl (wP rfl (wP rfl (wO rfl (wO rfl (wO rfl (wP rfl (wP rfl (wO rfl (wO rfl (wO rfl (wO rfl (wO rfl (wP rfl ?_)))))))))))))
         refine wP rfl (wO rfl (wO rfl (wO rfl (wO rfl (wO rfl (wP rfl (wP rfl (wO rfl (wO rfl (wO rfl (wP rfl (wP rfl (wO rfl ?_)))))))))))))
         refine wO rfl (wO rfl (wP rfl (wP rfl (wl_nil ?_))))
         have hE := (Option.some.inj hm).symm
         refine we_pick [] rfl (H' := []) rfl ?_
         refine we_join false hE [0] rfl (asK [] rfl) rfl
       ·
        replace hm := iteF hm hs74
        refine wO rfl (wO rfl (wP rfl (wP rfl (wO rfl (wO rfl (wP rfl (wP rfl (wO rfl (wO rfl (wP rfl (wP rfl (wO rfl (wO rfl ?_)))))))))))))
        refine wP rfl (wP rfl (wO rfl (wO rfl (wO rfl (wP rfl (wP rfl (wO rfl (wO rfl (wO rfl (wP rfl (wP rfl (wO rfl (wO rfl ?_)))))))))))))
        refine wO rfl (wO rfl (wO rfl (wP rfl (wP rfl (wO rfl (wO rfl (wO rfl (wO rfl (wO rfl (wP rfl (wP rfl (wO rfl (wO rfl ?_)))))))))))))
        refine wO rfl (wP rfl (wP rfl (wO rfl (wO rfl (wO rfl (wP rfl (wP rfl (wl_nil ?_))))))))
        have hE := (Option.some.inj hm).symm
        refine we_pick [] rfl (H' := []) rfl ?_
        refine we_join false hE [0] rfl (asK [] rfl) rfl
      ·
       replace hm := iteF hm hs70
       refine wO rfl (wO rfl (wP rfl (wP rfl (wO rfl (wO rfl (wP rfl (wP rfl (wO rfl (wO rfl (wP rfl (wP rfl (wO rfl (wO rfl ?_)))))))))))))
       refine wP rfl (wP rfl (wO rfl (wO rfl (wP rfl (wP rfl (wO rfl (wO rfl (wO rfl (wP rfl (wP rfl (wO rfl (wO rfl (wO rfl ?_)))))))))))))
       refine wP rfl (wP rfl (wO rfl (wO rfl (wO rfl (wO rfl (wO rfl (wP rfl (wP rfl (wO rfl (wO rfl (wO rfl (wO rfl (wO rfl ?_)))))))))))))
       refine wP rfl (wP rfl (wO rfl (wO rfl (wO rfl (wP rfl (wP rfl (wO rfl (wO rfl (wO rfl (wP rfl (wP rfl (wl_nil ?_))))))))))))
       have hE := (Option.some.inj hm).symm
       refine we_pick [] rfl (H' := []) rfl ?_
       refine we_join false hE [0] rfl (asK [] rfl) rfl
     ·
      replace hm := iteF hm hs66
      refine wO rfl (wO rfl (wP rfl (wP rfl (wO rfl (wO rfl (wP rfl (wP rfl (wO rfl (wO rfl (wP rfl (wP rfl (wO rfl (wO rfl ?_)))))))))))))
      refine wP rfl (wP rfl (wO rfl (wO rfl (wP rfl (wP rfl (wO rfl (wO rfl (wP rfl (wP rfl (wO rfl (wO rfl (wO rfl (wP rfl ?_)))))))))))))
      refine wP rfl (wO rfl (wO rfl (wO rfl (wP rfl (wP rfl (wO rfl (wO rfl (wO rfl (wO rfl (wO rfl (wP rfl (wP rfl (wO rfl ?_)))))))))))))
      refine wO rfl (wO rfl (wO rfl (wO rfl (wP rfl (wP rfl (wO rfl (wO rfl (wO rfl (wP rfl (wP rfl (wO rfl (wO rfl (wO rfl ?_)))))))))))))
      refine wP rfl (wP rfl (wl_nil ?_))
      have hE := (Option.some.inj hm).symm
      refine we_pick [] rfl (H' := []) rfl ?_
      refine we_join false hE [0] rfl (asK [] rfl) rfl
    ·
     replace hm := iteF hm hs62
     refine wO rfl (wO rfl (wP rfl (wP rfl (wO rfl (wO rfl (wP rfl (wP rfl (wO rfl (wO rfl (wP rfl (wP rfl (wO rfl (wO rfl ?_)))))))))))))
     refine wP rfl (wP rfl (wO rfl (wO rfl (wP rfl (wP rfl (wO rfl (wO rfl (wP rfl (wP rfl (wO rfl (wO rfl (wP rfl (wP rfl ?_)))))))))))))
     refine wO rfl (wO rfl (wO rfl (wP rfl (wP rfl (wO rfl (wO rfl (wO rfl (wP rfl (wP rfl (wO rfl (wO rfl (wO rfl (wO rfl ?_)))))))))))))
     refine wO rfl (wP rfl (wP rfl (wO rfl (wO rfl (wO rfl (wO rfl (wO rfl (wP rfl (wP rfl (wO rfl (wO rfl (wO rfl (wP rfl ?_)))))))))))))
     refine wP rfl (wO rfl (wO rfl (wO rfl (wP rfl (wP rfl (wl_nil ?_))))))
     have hE := (Option.some.inj hm).symm
     refine we_pick [] rfl (H' := []) rfl ?_
     refine we_join false hE [0] rfl (asK [] rfl) rfl
   ·
    replace hm := iteF hm hs58
    refine wO rfl (wO rfl (wP rfl (wP rfl (wO rfl (wO rfl (wP rfl (wP rfl (wO rfl (wO rfl (wP rfl (wP rfl (wO rfl (wO rfl ?_)))))))))))))
    refine wP rfl (wP rfl (wO rfl (wO rfl (wP rfl (wP rfl (wO rfl (wO rfl (wP rfl (wP rfl (wO rfl (wO rfl (wP rfl (wP rfl ?_)))))))))))))
    refine wO rfl (wO rfl (wP rfl (wP rfl (wO rfl (wO rfl (wO rfl (wP rfl (wP rfl (wO rfl (wO rfl (wO rfl (wP rfl (wP rfl ?_)))))))))))))
    refine wO rfl (wO rfl (wO rfl (wO rfl (wO rfl (wP rfl (wP rfl (wO rfl (wO rfl (wO rfl (wO rfl (wO rfl (wP rfl (wP rfl ?_)))))))))))))
    refine wO rfl (wO rfl (wO rfl (wP rfl (wP rfl (wO rfl (wO rfl (wO rfl (wP rfl (wP rfl (wl_nil ?_))))))))))
    have hE := (Option.some.inj hm).symm
    refine we_pick [] rfl (H' := []) rfl ?_
    refine we_join false hE [0] rfl (asK [] rfl) rfl
  ·
   replace hm := iteF hm hs54
   refine wO rfl (wO rfl (wP rfl (wP rfl (wO rfl (wO rfl (wP rfl (wP rfl (wO rfl (wO rfl (wP rfl (wP rfl (wO rfl (wO rfl ?_)))))))))))))
   refine wP rfl (wP rfl (wO rfl (wO rfl (wP rfl (wP rfl (wO rfl (wO rfl (wP rfl (wP rfl (wO rfl (wO rfl (wP rfl (wP rfl ?_)))))))))))))
   refine wO rfl (wO rfl (wP rfl (wP rfl (wO rfl (wO rfl (wP rfl (wP rfl (wO rfl (wO rfl (wO rfl (wP rfl (wP rfl (wO rfl ?_)))))))))))))
   refine wO rfl (wO rfl (wP rfl (wP rfl (wO rfl (wO rfl (wO rfl (wO rfl (wO rfl (wP rfl (wP rfl (wO rfl (wO rfl (wO rfl ?_)))))))))))))
   refine wO rfl (wO rfl (wP rfl (wP rfl (wO rfl (wO rfl (wO rfl (wP rfl (wP rfl (wO rfl (wO rfl (wO rfl (wP rfl (wP rfl ?_)))))))))))))
   refine wl_nil ?_
   have hE := (Option.some.inj hm).symm
   refine we_pick [] rfl (H' := []) rfl ?_
   refine we_join false hE [0] rfl (asK [] rfl) rfl
 ·
  rintro j_1_0 hE
  try dsimp only
  have hm := hLj_1
  rw [hE] at hm
  refine wc_ret ?_
  have hE := (Option.some.inj hm).symm
  replace hE := hE.symm
  subst hE
  refine ret_one (Hr := []) [] Tryz.results5 (res_tmp rfl) ⟨rfl, rfl, rfl⟩ (asK [] rfl) rfl rfl (.inl rfl)
theorem w_ropewalkref11_New_s (N : Nat)   (hm : m_ropewalkref11_New N = some ()) : Spec Tryz.prog 7 [] [] [] (fun v Φr Hr => ∃ (o0 : Nat), v = .pointer (some ⟨o0,0, none⟩) ∧ Φr = [] ∧ Hr = [.blk o0 [.slice none 0 0, .int .i64 1] 63]) := by
 unfold m_ropewalkref11_New at hm
 refine spec_of Tryz.func7 rfl Tryz.ntmps7 rfl (S := []) rfl (fun C => (wc_seq (wc_region (wP rfl (wl_nil (we_then (wc_keep [] (S' := []) rfl (wc_seq (wc_region (wl_build rfl rfl rfl (freshS_eq rfl) rfl tZ_63 tP_63 rfl (out := [_,_]) rfl (wB rfl (fun g2 => (wP rfl (wl_nil (we_then ?_)))))))))))))))
 refine wc_keep [0] (S' := [_]) rfl (wc_ret ?_)
 have hE := (Option.some.inj hm).symm
 refine ret_one (Hr := [_]) [0] Tryz.results7 (res_tmp rfl) ⟨g2, rfl, rfl, rfl⟩ (asK [] rfl) rfl rfl (.inl rfl)
theorem w_ropewalkkit_mark_s (N : Nat) (a0 : Int) (a1 : Int)  (hm : m_ropewalkkit_mark N a0 a1 = some ()) : Spec Tryz.prog 52 [.int .i64 a0, .int .i64 a1] [] [] (fun v Φr Hr => v = .int .i64 (IntKind.wrap .i64 ((IntKind.wrap .i64 (1000003 * (IntKind.wrap .i64 (a0 + 7)))) + a1)) ∧ Φr = [] ∧ Hr = []) := by
 unfold m_ropewalkkit_mark at hm
 refine spec_of Tryz.func52 rfl Tryz.ntmps52 rfl (S := [_,_]) rfl (fun C => (wc_seq (wc_region (wP rfl (wl_nil (we_then (wc_keep [0,1] (S' := [_,_]) rfl (wc_seq (wc_region (wP rfl (wP rfl (wP rfl (wP rfl (wP rfl ?_))))))))))))))
 refine wP rfl (wl_nil (we_then (wc_keep [4] (S' := [_]) rfl (wc_ret ?_))))
 have hE := (Option.some.inj hm).symm
 refine ret_one (Hr := []) [] Tryz.results52 (res_tmp rfl) ⟨rfl, rfl, rfl⟩ (asK [] rfl) rfl rfl (.inl rfl)
theorem w_ropewalkkit_markValue_s (N : Nat) (a0 : Int) (a1 : Int)  (hm : m_ropewalkkit_markValue N a0 a1 = some ()) : Spec Tryz.prog 62 [.int .i64 a0, .int .i64 a1] [] [] (fun v Φr Hr => v = .agg #[.int .u8 0, .int .i64 (IntKind.wrap .i64 ((IntKind.wrap .i64 (1000003 * (IntKind.wrap .i64 (a0 + 7)))) + a1)), .string ((⟨#[]⟩ : ByteArray))] ∧ Φr = [] ∧ Hr = []) := by
 unfold m_ropewalkkit_markValue at hm
 refine spec_of Tryz.func62 rfl Tryz.ntmps62 rfl (S := [_,_]) rfl (fun C => (wc_seq (wc_region (wl_alloc rfl rfl rfl (freshS_eq rfl) rfl tZ_51 rfl (fun g4 => (wl_nil (we_then (wc_seq (wc_region (wP rfl (wP rfl ?_)))))))))))
 obtain ⟨_, hc7, hm⟩ := bindO_some hm
 try dsimp only at hm
 refine wC [] [0] rfl fn_52 rfl (w_ropewalkkit_mark_s N a0 a1 hc7) (asK [] rfl) rfl (H' := [_]) rfl ?_
 rintro _ _ _ ⟨rfl, rfl, rfl⟩
 refine wl_build rfl rfl rfl (freshS_eq rfl) rfl tZ_51 tP_51 rfl (out := [_,_,_]) rfl (wS 0 0 rfl tS_51 (all' := [_,_,_]) rfl (H' := [_]) rfl (wl_nil (we_then (wc_keep [4] (S' := [_]) rfl (wc_ret ?_)))))
 have hE := (Option.some.inj hm).symm
 refine ret_one (Hr := []) [] Tryz.results62 (res_cell 0 rfl rfl tS_51 tA_51 rfl rfl) ⟨rfl, rfl, rfl⟩ (asK [] rfl) rfl rfl (.inl rfl)
theorem w_ropewalkkit_LentValues_s (N : Nat) (qp0 : Option Addr) (qc1 : Nat) (l0 : List V) (o2 : List V) (hm : m_ropewalkkit_LentValues N l0 = some o2) : Spec Tryz.prog 34 [.slice qp0 l0.length qc1] [.sli 3 R_V qp0 qc1 l0] [] (fun v Φr Hr => ∃ (o0 : Option Addr) (o1 : Nat) (o3 : Nat), v = .slice o0 l0.length o1 ∧ Φr = [] ∧ Hr = [.own 51 3 R_V (.slice o0 o3 o1) o2]) := by
 unfold m_ropewalkkit_LentValues at hm
 refine spec_of Tryz.func34 rfl Tryz.ntmps34 rfl (S := [_]) rfl (fun C => (wc_seq (wc_region (wP rfl (wl_nil (we_then (wc_keep [0] (S' := [_]) rfl (wc_seq (wc_region (wP rfl (wN rfl tE_25 (wP rfl ?_))))))))))))
 obtain ⟨hg7, hm⟩ := gd_some hm
 refine wl_as (d := 7) (v' := .int .i64 ((l0.length + 12 : Nat) : Int)) (S' := [_,_,_]) rfl rfl (nat_add (a := l0.length) (b := 12) hg7) ?_
 obtain ⟨hg8, hm⟩ := gd_some hm
 refine wl_makeCap (m := l0.length + 12) R_V rfl rfl rfl (freshS_eq rfl) rfl rfl rfl rfl tE_25 tR_51 rfl rfl (Nat.le_trans (Nat.mul_le_mul_left _ hg8) (by decide)) (Nat.le_trans hg8 (by decide)) (fun g8 => (wP rfl (wl_nil (we_then (wc_keep [3,0] (S' := [_,_]) rfl (wc_seq (wc_region (wP rfl (wP rfl ?_)))))))))
 obtain ⟨hg11, hm⟩ := gd_some hm
 refine wl_append 0 0 rfl rfl rfl (freshS_eq rfl) rfl rfl rfl rfl rfl tE_25 tR_51 rfl rfl (Nat.le_trans hg11 (by decide)) (Nat.le_trans (Nat.mul_le_mul_right _ hg11) (by decide)) (H2 := fun p11 c11 => [.own 51 3 R_V (.slice p11 (l0).length c11) l0]) (fun _ _ => rfl) (fun p11 c11 => (wl_pure (S' := [_,_,_,_]) rfl rfl rfl rfl rfl (wl_nil (we_then (wc_keep [3,0] (S' := [_,_]) rfl (wc_seq ?_))))))
 obtain ⟨bj_1, hm, hLj_1⟩ := bindO_some hm
 refine wc_cut (σ := (List V) × (Option Addr) × Nat × Nat) (fun (j_1_3_l, j_1_3_p, j_1_3_c, j_1_3_n) => bj_1 = j_1_3_l) (fun (j_1_3_l, j_1_3_p, j_1_3_c, j_1_3_n) => [(3, .slice j_1_3_p j_1_3_n j_1_3_c), (0, .slice qp0 l0.length qc1)]) (fun (j_1_3_l, j_1_3_p, j_1_3_c, j_1_3_n) => [.sli 3 R_V qp0 qc1 l0]) (fun (j_1_3_l, j_1_3_p, j_1_3_c, j_1_3_n) => [.own 51 3 R_V (.slice j_1_3_p j_1_3_n j_1_3_c) j_1_3_l]) ?_ ?_
 ·
  refine wc_seq (wc_region (wP rfl (wl_nil (we_then (wc_block (wc_loop (σ := Nat × Nat × (List V) × (Option Addr) × Nat × Nat) (fun (nu1, u1_4, u1_3_l, u1_3_p, u1_3_c, u1_3_n) => iter (m_ropewalkkit_LentValues_L1 N) nu1 (u1_4, u1_3_l) = some bj_1) (fun (nu1, u1_4, u1_3_l, u1_3_p, u1_3_c, u1_3_n) => nu1) (fun (nu1, u1_4, u1_3_l, u1_3_p, u1_3_c, u1_3_n) => [(4, .int .i64 ((u1_4 : Nat) : Int)), (3, .slice u1_3_p u1_3_n u1_3_c), (0, .slice qp0 l0.length qc1)]) (fun (nu1, u1_4, u1_3_l, u1_3_p, u1_3_c, u1_3_n) => [.sli 3 R_V qp0 qc1 l0]) (fun (nu1, u1_4, u1_3_l, u1_3_p, u1_3_c, u1_3_n) => [.own 51 3 R_V (.slice u1_3_p u1_3_n u1_3_c) u1_3_l]) (N, 0, l0, p11, c11, (l0).length) hm [4,3,0] rfl (asK [0] rfl) rfl (fun s_ hm => ?_)))))))
  obtain ⟨nu1, u1_4, u1_3_l, u1_3_p, u1_3_c, u1_3_n⟩ := s_
  try dsimp only at hm ⊢
  obtain ⟨mu1, bu1, hnu1, hq, hLu1⟩ := iter_some hm
  clear hm
  subst hnu1
  replace hm := hq
  clear hq
  unfold m_ropewalkkit_LentValues_L1 at hm
  try dsimp only at hm
  refine wc_seq (wc_seq (wc_region (wP rfl (wP rfl (wl_as (d := 13) (v' := .bool (decide (u1_4 < 12))) (S' := [_,_,_,_]) rfl rfl (natlt (a := u1_4) (b := 12)) (wl_nil (we_then (wc_keep [13,4,3,0] (S' := [_,_,_,_]) rfl ?_))))))))
  refine wc_cond rfl (fun hb13 => ?_) (fun hb13 => ?_)
  ·
   replace hm := iteT hm hb13
   refine wc_keep [4,3,0] (S' := [_,_,_]) rfl (wc_skip (we_then (wc_seq (wc_block (wc_region (wP rfl (wP rfl ?_)))))))
   obtain ⟨_, hc18, hm⟩ := bindO_some hm
   try dsimp only at hm
   refine wC [] [0] rfl fn_62 rfl (w_ropewalkkit_markValue_s N 1 ((u1_4 : Nat) : Int) hc18) (asK [] rfl) rfl (H' := [_]) rfl ?_
   rintro _ _ _ ⟨rfl, rfl, rfl⟩
   refine wl_buildSlice rfl rfl rfl (freshS_eq rfl) rfl tE_25 tS_51 tZ_51 rfl (zs := [.int .u8 0, .int .i64 0, .string ((⟨#[]⟩ : ByteArray))]) (by kernel_rfl) rfl (out := [_,_,_]) rfl (fun g19 => ?_)
   obtain ⟨hg20, hm⟩ := gd_some hm
   refine wl_appendH ([(⟨0, (IntKind.wrap .i64 ((IntKind.wrap .i64 (1000003 * (IntKind.wrap .i64 (1 + 7)))) + ((u1_4 : Nat) : Int))), (⟨#[]⟩ : ByteArray)⟩ : V)]) 1 0 rfl rfl rfl (freshS_eq rfl) rfl rfl rfl rfl rfl (fun F w hφ => ⟨[.int .u8 0, .int .i64 (IntKind.wrap .i64 ((IntKind.wrap .i64 (1000003 * (IntKind.wrap .i64 (1 + 7)))) + ((u1_4 : Nat) : Int))), .string ((⟨#[]⟩ : ByteArray))],[], rfl, rfl, ⟨(), rfl, ask_nil⟩, rfl⟩) tE_25 tR_51 rfl rfl (Nat.le_trans hg20 (by decide)) (Nat.le_trans (Nat.mul_le_mul_right _ hg20) (by decide)) (H2 := fun p20 c20 => [_, .own 51 3 R_V (.slice p20 ((u1_3_l ++ ([(⟨0, (IntKind.wrap .i64 ((IntKind.wrap .i64 (1000003 * (IntKind.wrap .i64 (1 + 7)))) + ((u1_4 : Nat) : Int))), (⟨#[]⟩ : ByteArray)⟩ : V)])).length) c20) (u1_3_l ++ ([(⟨0, (IntKind.wrap .i64 ((IntKind.wrap .i64 (1000003 * (IntKind.wrap .i64 (1 + 7)))) + ((u1_4 : Nat) : Int))), (⟨#[]⟩ : ByteArray)⟩ : V)]))]) (fun _ _ => rfl) (fun p20 c20 => (wl_drop 0 rfl (H' := [_]) rfl (wl_pure (S' := [_,_,_,_,_,_,_]) rfl rfl rfl rfl rfl (wl_nil (we_block_normal (we_then (wc_keep [3,4,0] (S' := [_,_,_]) rfl (wc_region (wP rfl (wP rfl ?_))))))))))
   obtain ⟨hg15, hm⟩ := gd_some hm
   refine wl_as (d := 15) (v' := .int .i64 ((u1_4 + 1 : Nat) : Int)) (S' := [_,_,_,_]) rfl rfl (nat_add (a := u1_4) (b := 1) hg15) (wl_pure (S' := [_,_,_,_]) rfl rfl rfl rfl rfl (wl_nil ?_))
   have hE := (Option.some.inj hm).symm
   replace hE := link_inl hLu1 hE
   refine we_roundK (_, u1_4 + 1, (u1_3_l ++ ([(⟨0, (IntKind.wrap .i64 ((IntKind.wrap .i64 (1000003 * (IntKind.wrap .i64 (1 + 7)))) + ((u1_4 : Nat) : Int))), (⟨#[]⟩ : ByteArray)⟩ : V)])), p20, c20, ((u1_3_l ++ ([(⟨0, (IntKind.wrap .i64 ((IntKind.wrap .i64 (1000003 * (IntKind.wrap .i64 (1 + 7)))) + ((u1_4 : Nat) : Int))), (⟨#[]⟩ : ByteArray)⟩ : V)])).length)) (Nat.lt_succ_self _) hE [4,3,0] rfl (asK [0] rfl) rfl
  ·
   replace hm := iteF hm hb13
   refine wc_keep [3,0] (S' := [_,_]) rfl (wc_exit (we_then_exit (we_then_exit (we_block_hit ?_))))
   have hE := (Option.some.inj hm).symm
   replace hE := link_inr hLu1 hE
   refine we_join (u1_3_l, u1_3_p, u1_3_c, u1_3_n) hE [3,0] rfl (asK [0] rfl) rfl
 ·
  rintro ⟨j_1_3_l, j_1_3_p, j_1_3_c, j_1_3_n⟩ hE
  try dsimp only
  have hm := hLj_1
  rw [hE] at hm
  refine wc_seq (wc_region (wP rfl (wP rfl (wN rfl tE_25 ?_))))
  obtain ⟨hg24, hm⟩ := gd_some hm
  refine wl_ownSpot 0 rfl (fun hsp24 hcm24 => (wl_sliceTo rfl rfl rfl (freshS_eq rfl) rfl rfl rfl rfl tE_25 tS_51 (Nat.le_trans hg24 (by rw [← hcm24.2]; exact hcm24.1)) hsp24 (wP rfl (wl_nil (we_then (wc_keep [2] (S' := [_]) rfl (wc_ret ?_)))))))
  have hE := (Option.some.inj hm).symm
  replace hE := hE.symm
  subst hE
  refine ret_one (Hr := [_]) [0] Tryz.results34 (res_tmp rfl) ⟨j_1_3_p, j_1_3_c, j_1_3_n, rfl, rfl, rfl⟩ (asK [] rfl) rfl rfl (.inl rfl)
theorem w_ropewalkkit_LentFact_s (N : Nat) (a0 : Int) (a1 : Int) (qp0 : Option Addr) (qc1 : Nat) (l2 : List V) (o2 : List V) (hm : m_ropewalkkit_LentFact N a0 a1 l2 = some o2) : Spec Tryz.prog 24 [.agg #[.int .i64 a0, .int .i64 a1, .slice qp0 l2.length qc1]] [.sli 3 R_V qp0 qc1 l2] [] (fun v Φr Hr => ∃ (o0 : Option Addr) (o1 : Nat) (o3 : Nat), v = .agg #[.int .i64 a0, .int .i64 a1, .slice o0 l2.length o1] ∧ Φr = [] ∧ Hr = [.own 51 3 R_V (.slice o0 o3 o1) o2]) := by
 unfold m_ropewalkkit_LentFact at hm
 refine spec_of Tryz.func24 rfl Tryz.ntmps24 rfl (S := [_]) rfl (fun C => (wc_seq (wc_region (wB rfl (fun g1 => (wl_alloc rfl rfl rfl (freshS_eq rfl) rfl tZ_27 rfl (fun g2 => (wl_nil (we_then (wc_keep [2,1] (S' := [_,_]) rfl (wc_seq (wc_region (wF rfl tF_27_2 (wD 1 2 rfl tS_25 tA_25 rfl ?_))))))))))))))
 obtain ⟨v5, hc5, hm⟩ := bindO_some hm
 refine wC [] [0,1] rfl fn_34 rfl (w_ropewalkkit_LentValues_s N qp0 qc1 l2 _ hc5) (asK [0] rfl) rfl (H' := [_,_]) rfl ?_
 rintro _ _ _ ⟨p5_0, c5_1, c5_2, rfl, rfl, rfl⟩
 refine wF rfl tF_27_2 (wS 2 2 rfl tS_25 (all' := [_,_,_]) rfl (H' := [_,_,_]) rfl (wl_nil (we_then (wc_keep [2,1] (S' := [_,_]) rfl (wc_seq (wc_region (wl_loadH 2 0 rfl rfl rfl (freshS_eq rfl) rfl rfl rfl (cs := [_,_,_]) rfl tS_27 tA_27 rfl rfl (wS 1 0 rfl tS_27 (all' := [_,_,_]) rfl (H' := [_,_,_]) rfl (wl_nil (we_then (wc_keep [2] (S' := [_]) rfl (wc_ret ?_))))))))))))
 have hE := (Option.some.inj hm).symm
 replace hE := hE.symm
 subst hE
 refine ret_one (Hr := [_]) [0] Tryz.results24 (res_cell 1 rfl rfl tS_27 tA_27 rfl rfl) ⟨p5_0, c5_1, c5_2, rfl, rfl, rfl⟩ (asK [] rfl) rfl rfl (.inl rfl)
theorem w_ropewalkkit_markFact_s (N : Nat) (a0 : Int) (a1 : Int)  (hm : m_ropewalkkit_markFact N a0 a1 = some ()) : Spec Tryz.prog 25 [.int .i64 a0, .int .i64 a1] [] [] (fun v Φr Hr => v = .agg #[.int .i64 (IntKind.wrap .i64 ((IntKind.wrap .i64 (1000003 * (IntKind.wrap .i64 (a0 + 7)))) + a1)), .int .i64 0, .slice none 0 0] ∧ Φr = [] ∧ Hr = []) := by
 unfold m_ropewalkkit_markFact at hm
 refine spec_of Tryz.func25 rfl Tryz.ntmps25 rfl (S := [_,_]) rfl (fun C => (wc_seq (wc_region (wl_alloc rfl rfl rfl (freshS_eq rfl) rfl tZ_27 rfl (fun g4 => (wl_nil (we_then (wc_seq (wc_region (wP rfl (wP rfl ?_)))))))))))
 obtain ⟨_, hc7, hm⟩ := bindO_some hm
 try dsimp only at hm
 refine wC [] [0] rfl fn_52 rfl (w_ropewalkkit_mark_s N a0 a1 hc7) (asK [] rfl) rfl (H' := [_]) rfl ?_
 rintro _ _ _ ⟨rfl, rfl, rfl⟩
 refine wl_build rfl rfl rfl (freshS_eq rfl) rfl tZ_27 tP_27 rfl (out := [_,_,_]) rfl (wS 0 0 rfl tS_27 (all' := [_,_,_]) rfl (H' := [_]) rfl (wl_nil (we_then (wc_keep [4] (S' := [_]) rfl (wc_ret ?_)))))
 have hE := (Option.some.inj hm).symm
 refine ret_one (Hr := []) [] Tryz.results25 (res_cell 0 rfl rfl tS_27 tA_27 rfl rfl) ⟨rfl, rfl, rfl⟩ (asK [] rfl) rfl rfl (.inl rfl)
end Go.Proofs.YthmkahbkhoijbaaGreatDoor
