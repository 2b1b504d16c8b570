/- Walks, printed by a program out of the loaded code. -/
import Derived.Test.YtkddfgjefdlaeaaDoorXW2
namespace Go.Proofs.YtkddfgjefdlaeaaDoor
open Go.RowKit
set_option maxRecDepth 100000 in
set_option maxHeartbeats 4000000 in
theorem w_ropewalkref01_Named_s (N : Nat) (a0 : ByteArray) (o0 : Bool) (hm : m_ropewalkref01_Named N a0 = some o0) : Spec Tryd.prog 28 [.string a0] [tabF Tryd.prog "internal/strconv.uint64pow10" .u64 Lib.pow10Tab 1 pow10_g] [] (fun v Φr Hr => v = .bool o0 ∧ Φr = [] ∧ Hr = []) := by
 unfold m_ropewalkref01_Named at hm
 refine spec_of Tryd.func28 rfl Tryd.ntmps28 rfl (S := [_]) rfl (fun C => ?_)
 refine wc_seq ?_
 refine wc_region ?_
 refine wl_pure rfl rfl rfl (freshS_eq rfl) rfl ?_
 refine wl_nil ?_
 refine we_then ?_
 refine wc_keep [0] (S' := [_]) rfl ?_
 refine wc_seq ?_
 obtain ⟨bj_1, hm, hLj_1⟩ := bindS_some hm
 refine wc_cut (σ := Unit) (fun _ => bj_1 = .inl ()) (fun _ => [(0, .string a0)]) (fun _ => [tabF Tryd.prog "internal/strconv.uint64pow10" .u64 Lib.pow10Tab 1 pow10_g]) (fun _ => []) ?_ ?_
 ·
  refine wc_seq ?_
  refine wc_region ?_
  refine wl_pure rfl rfl rfl (freshS_eq rfl) rfl ?_
  refine wl_nil ?_
  refine we_then ?_
  refine wc_block ?_
  refine wc_loop (σ := Nat × Nat) (fun (nu1, u1_3) => iter (m_ropewalkref01_Named_L1 N a0) nu1 u1_3 = some bj_1) (fun (nu1, u1_3) => nu1) (fun (nu1, u1_3) => [(3, .int .i64 ((u1_3 : Nat) : Int)), (0, .string a0)]) (fun (nu1, u1_3) => [tabF Tryd.prog "internal/strconv.uint64pow10" .u64 Lib.pow10Tab 1 pow10_g]) (fun (nu1, u1_3) => []) (N, 0) hm [3, 0] rfl (fun _ _ hφ => ask [0] rfl hφ) rfl (fun s_ hm => ?_)
  obtain ⟨nu1, u1_3⟩ := s_
  try dsimp only at hm ⊢
  obtain ⟨mu1, bu1, hnu1, hq, hLu1⟩ := iter_some hm
  clear hm
  subst hnu1
  replace hm := hq
  clear hq
  unfold m_ropewalkref01_Named_L1 at hm
  try dsimp only at hm
  refine wc_seq ?_
  refine wc_seq ?_
  refine wc_region ?_
  refine wl_pure rfl rfl rfl (freshS_eq rfl) rfl ?_
  refine wl_pure rfl rfl rfl (freshS_eq rfl) rfl ?_
  refine wl_reck rfl rfl rfl (freshS_eq rfl) (rk_strLen rfl rfl tT_9) ?_
  refine wl_pure rfl rfl rfl (freshS_eq rfl) rfl ?_
  refine wl_as (d := 9) (v' := .bool (decide (u1_3 < a0.size))) (S' := [_,_,_,_,_]) rfl rfl (natlt (a := u1_3) (b := a0.size)) ?_
  refine wl_nil ?_
  refine we_then ?_
  refine wc_keep [9, 3, 0] (S' := [_,_,_]) rfl ?_
  refine wc_cond rfl (fun hb9 => ?_) (fun hb9 => ?_)
  ·
   replace hm := iteT hm hb9
   refine wc_keep [3, 0] (S' := [_,_]) rfl ?_
   refine wc_skip ?_
   refine we_then ?_
   refine wc_seq ?_
   refine wc_block ?_
   refine wc_seq ?_
   refine wc_region ?_
   refine wl_pure rfl rfl rfl (freshS_eq rfl) rfl ?_
   refine wl_pure rfl rfl rfl (freshS_eq rfl) rfl ?_
   obtain ⟨x14, hx14, hm⟩ := bindO_some hm
   refine wl_reck rfl rfl rfl (freshS_eq rfl) (rk_strAt u1_3 rfl rfl rfl rfl hx14 tT_9) ?_
   refine wl_pure rfl rfl rfl (freshS_eq rfl) rfl ?_
   refine wl_nil ?_
   refine we_then ?_
   refine wc_keep [4, 3, 0] (S' := [_,_,_]) rfl ?_
   refine wc_seq ?_
   obtain ⟨bj_2, hm, hLj_2⟩ := bindO_some hm
   refine wc_cut (σ := Bool) (fun j_2_5 => bj_2 = j_2_5) (fun j_2_5 => [(4, .int .u8 ((x14.toNat : Nat) : Int)), (3, .int .i64 ((u1_3 : Nat) : Int)), (0, .string a0), (5, .bool j_2_5)]) (fun j_2_5 => [tabF Tryd.prog "internal/strconv.uint64pow10" .u64 Lib.pow10Tab 1 pow10_g]) (fun j_2_5 => []) ?_ ?_
   ·
    refine wc_region ?_
    refine wl_pure rfl rfl rfl (freshS_eq rfl) rfl ?_
    refine wl_pure rfl rfl rfl (freshS_eq rfl) rfl ?_
    refine wl_as (d := 16) (v' := .bool (decide (97 ≤ x14.toNat))) (S' := [_,_,_,_]) rfl rfl (natge (a := x14.toNat) (b := 97)) ?_
    refine wl_pure rfl rfl rfl (freshS_eq rfl) rfl ?_
    refine wl_split (d := 17) (S' := [_,_,_,_,_]) rfl rfl (fun hs17 => ?_) (fun hs17 => ?_)
    ·
     replace hm := iteT hm hs17
     refine wl_pure rfl rfl rfl (freshS_eq rfl) rfl ?_
     refine wl_pure rfl rfl rfl (freshS_eq rfl) rfl ?_
     refine wl_as (d := 19) (v' := .bool (decide (x14.toNat ≤ 122))) (S' := [_,_,_,_,_,_,_]) rfl rfl (natle (a := x14.toNat) (b := 122)) ?_
     refine wl_pure rfl rfl rfl (freshS_eq rfl) rfl ?_
     refine wl_pure rfl rfl rfl (freshS_eq rfl) rfl ?_
     refine wl_nil ?_
     have hE := (Option.some.inj hm).symm
     refine we_join (decide (x14.toNat ≤ 122)) hE [4, 3, 0, 5] rfl (fun _ _ hφ => ask [0] rfl hφ) rfl
    ·
     replace hm := iteF hm hs17
     refine wl_off rfl rfl rfl (freshS_eq rfl) ?_
     refine wl_off rfl rfl rfl (freshS_eq rfl) ?_
     refine wl_pure rfl rfl rfl (freshS_eq rfl) rfl ?_
     refine wl_pure rfl rfl rfl (freshS_eq rfl) rfl ?_
     refine wl_nil ?_
     have hE := (Option.some.inj hm).symm
     refine we_join false hE [4, 3, 0, 5] rfl (fun _ _ hφ => ask [0] rfl hφ) rfl
   ·
    rintro j_2_5 hE
    try dsimp only
    have hm := hLj_2
    rw [hE] at hm
    refine wc_seq ?_
    obtain ⟨bj_3, hm, hLj_3⟩ := bindO_some hm
    unfold m_ropewalkref01_Named_C3 at hm
    refine wc_cut (σ := Bool) (fun j_3_39 => bj_3 = j_3_39) (fun j_3_39 => [(3, .int .i64 ((u1_3 : Nat) : Int)), (0, .string a0), (39, .bool j_3_39)]) (fun j_3_39 => [tabF Tryd.prog "internal/strconv.uint64pow10" .u64 Lib.pow10Tab 1 pow10_g]) (fun j_3_39 => []) ?_ ?_
    ·
     refine wc_region ?_
     refine wl_pure rfl rfl rfl (freshS_eq rfl) rfl ?_
     refine wl_pure rfl rfl rfl (freshS_eq rfl) rfl ?_
     refine wl_pure rfl rfl rfl (freshS_eq rfl) rfl ?_
     refine wl_split (d := 23) (S' := [_,_,_,_,_,_]) rfl rfl (fun hs23 => ?_) (fun hs23 => ?_)
     ·
      replace hm := iteT hm hs23
      refine wl_pure rfl rfl rfl (freshS_eq rfl) rfl ?_
      refine wl_pure rfl rfl rfl (freshS_eq rfl) rfl ?_
      refine wl_as (d := 25) (v' := .bool (u1_3 == 0)) (S' := [_,_,_,_,_,_,_,_]) rfl rfl (nateq (a := u1_3) (b := 0)) ?_
      refine wl_pure rfl rfl rfl (freshS_eq rfl) rfl ?_
      refine wl_split (d := 26) (S' := [_,_,_,_,_,_,_,_,_]) rfl rfl (fun hs26 => ?_) (fun hs26 => ?_)
      ·
       replace hm := iteT hm hs26
       refine wl_off rfl rfl rfl (freshS_eq rfl) ?_
       refine wl_off rfl rfl rfl (freshS_eq rfl) ?_
       refine wl_off rfl rfl rfl (freshS_eq rfl) ?_
       refine wl_off rfl rfl rfl (freshS_eq rfl) ?_
       refine wl_off rfl rfl rfl (freshS_eq rfl) ?_
       refine wl_off rfl rfl rfl (freshS_eq rfl) ?_
       refine wl_off rfl rfl rfl (freshS_eq rfl) ?_
       refine wl_off rfl rfl rfl (freshS_eq rfl) ?_
       refine wl_off rfl rfl rfl (freshS_eq rfl) ?_
       refine wl_off rfl rfl rfl (freshS_eq rfl) ?_
       refine wl_off rfl rfl rfl (freshS_eq rfl) ?_
       refine wl_pure rfl rfl rfl (freshS_eq rfl) rfl ?_
       refine wl_pure rfl rfl rfl (freshS_eq rfl) rfl ?_
       refine wl_nil ?_
       have hE := (Option.some.inj hm).symm
       refine we_join true hE [3, 0, 39] rfl (fun _ _ hφ => ask [0] rfl hφ) rfl
      ·
       replace hm := iteF hm hs26
       refine wl_pure rfl rfl rfl (freshS_eq rfl) rfl ?_
       refine wl_pure rfl rfl rfl (freshS_eq rfl) rfl ?_
       refine wl_as (d := 28) (v' := .bool (decide (48 ≤ x14.toNat))) (S' := [_,_,_,_,_,_,_,_,_,_,_]) rfl rfl (natge (a := x14.toNat) (b := 48)) ?_
       refine wl_pure rfl rfl rfl (freshS_eq rfl) rfl ?_
       refine wl_split (d := 29) (S' := [_,_,_,_,_,_,_,_,_,_,_,_]) rfl rfl (fun hs29 => ?_) (fun hs29 => ?_)
       ·
        replace hm := iteT hm hs29
        refine wl_pure rfl rfl rfl (freshS_eq rfl) rfl ?_
        refine wl_pure rfl rfl rfl (freshS_eq rfl) rfl ?_
        refine wl_as (d := 31) (v' := .bool (decide (x14.toNat ≤ 57))) (S' := [_,_,_,_,_,_,_,_,_,_,_,_,_,_]) rfl rfl (natle (a := x14.toNat) (b := 57)) ?_
        refine wl_pure rfl rfl rfl (freshS_eq rfl) rfl ?_
        refine wl_pure rfl rfl rfl (freshS_eq rfl) rfl ?_
        refine wl_split (d := 33) (S' := [_,_,_,_,_,_,_,_,_,_,_,_,_,_,_,_]) rfl rfl (fun hs33 => ?_) (fun hs33 => ?_)
        ·
         replace hm := iteT hm hs33
         refine wl_off rfl rfl rfl (freshS_eq rfl) ?_
         refine wl_off rfl rfl rfl (freshS_eq rfl) ?_
         refine wl_pure rfl rfl rfl (freshS_eq rfl) rfl ?_
         refine wl_pure rfl rfl rfl (freshS_eq rfl) rfl ?_
         refine wl_pure rfl rfl rfl (freshS_eq rfl) rfl ?_
         refine wl_pure rfl rfl rfl (freshS_eq rfl) rfl ?_
         refine wl_nil ?_
         have hE := (Option.some.inj hm).symm
         refine we_join false hE [3, 0, 39] rfl (fun _ _ hφ => ask [0] rfl hφ) rfl
        ·
         replace hm := iteF hm hs33
         refine wl_pure rfl rfl rfl (freshS_eq rfl) rfl ?_
         refine wl_pure rfl rfl rfl (freshS_eq rfl) rfl ?_
         refine wl_as (d := 35) (v' := .bool (x14.toNat == 95)) (S' := [_,_,_,_,_,_,_,_,_,_,_,_,_,_,_,_,_,_]) rfl rfl (nateq (a := x14.toNat) (b := 95)) ?_
         refine wl_pure rfl rfl rfl (freshS_eq rfl) rfl ?_
         refine wl_pure rfl rfl rfl (freshS_eq rfl) rfl ?_
         refine wl_pure rfl rfl rfl (freshS_eq rfl) rfl ?_
         refine wl_pure rfl rfl rfl (freshS_eq rfl) rfl ?_
         refine wl_nil ?_
         have hE := (Option.some.inj hm).symm
         refine we_join (!(x14.toNat == 95)) hE [3, 0, 39] rfl (fun _ _ hφ => ask [0] rfl hφ) rfl
       ·
        replace hm := iteF hm hs29
        refine wl_off rfl rfl rfl (freshS_eq rfl) ?_
        refine wl_off rfl rfl rfl (freshS_eq rfl) ?_
        refine wl_pure rfl rfl rfl (freshS_eq rfl) rfl ?_
        refine wl_pure rfl rfl rfl (freshS_eq rfl) rfl ?_
        refine wl_pure rfl rfl rfl (freshS_eq rfl) rfl ?_
        refine wl_pure rfl rfl rfl (freshS_eq rfl) rfl ?_
        refine wl_as (d := 35) (v' := .bool (x14.toNat == 95)) (S' := [_,_,_,_,_,_,_,_,_,_,_,_,_,_,_,_,_,_]) rfl rfl (nateq (a := x14.toNat) (b := 95)) ?_
        refine wl_pure rfl rfl rfl (freshS_eq rfl) rfl ?_
        refine wl_pure rfl rfl rfl (freshS_eq rfl) rfl ?_
        refine wl_pure rfl rfl rfl (freshS_eq rfl) rfl ?_
        refine wl_pure rfl rfl rfl (freshS_eq rfl) rfl ?_
        refine wl_nil ?_
        have hE := (Option.some.inj hm).symm
        refine we_join (!(x14.toNat == 95)) hE [3, 0, 39] rfl (fun _ _ hφ => ask [0] rfl hφ) rfl
     ·
      replace hm := iteF hm hs23
      refine wl_off rfl rfl rfl (freshS_eq rfl) ?_
      refine wl_off rfl rfl rfl (freshS_eq rfl) ?_
      refine wl_off rfl rfl rfl (freshS_eq rfl) ?_
      refine wl_off rfl rfl rfl (freshS_eq rfl) ?_
      refine wl_off rfl rfl rfl (freshS_eq rfl) ?_
      refine wl_off rfl rfl rfl (freshS_eq rfl) ?_
      refine wl_off rfl rfl rfl (freshS_eq rfl) ?_
      refine wl_off rfl rfl rfl (freshS_eq rfl) ?_
      refine wl_off rfl rfl rfl (freshS_eq rfl) ?_
      refine wl_off rfl rfl rfl (freshS_eq rfl) ?_
      refine wl_off rfl rfl rfl (freshS_eq rfl) ?_
      refine wl_off rfl rfl rfl (freshS_eq rfl) ?_
      refine wl_off rfl rfl rfl (freshS_eq rfl) ?_
      refine wl_off rfl rfl rfl (freshS_eq rfl) ?_
      refine wl_off rfl rfl rfl (freshS_eq rfl) ?_
      refine wl_pure rfl rfl rfl (freshS_eq rfl) rfl ?_
      refine wl_nil ?_
      have hE := (Option.some.inj hm).symm
      refine we_join false hE [3, 0, 39] rfl (fun _ _ hφ => ask [0] rfl hφ) rfl
    ·
     rintro j_3_39 hE
     try dsimp only
     have hm := hLj_3
     rw [hE] at hm
     refine wc_cond rfl (fun hb39 => ?_) (fun hb39 => ?_)
     ·
      replace hm := iteT hm hb39
      refine wc_keep [] (S' := []) rfl ?_
      refine wc_seq ?_
      refine wc_region ?_
      refine wl_pure rfl rfl rfl (freshS_eq rfl) rfl ?_
      refine wl_nil ?_
      refine we_then ?_
      refine wc_ret ?_
      refine we_block_ret ?_
      refine we_then_ret ?_
      refine we_then_ret ?_
      refine we_block_ret ?_
      refine we_then_ret ?_
      have hE := (Option.some.inj hm).symm
      replace hE := link_inr hLu1 hE
      replace hE := link_inr hLj_1 hE
      replace hE := hE.symm
      subst hE
      refine ret_one (Hr := []) [] Tryd.results28 (res_tmp rfl) ⟨rfl, rfl, rfl⟩ (fun _ _ hφ => ask [] rfl hφ) rfl rfl (.inl rfl)
     ·
      replace hm := iteF hm hb39
      refine wc_keep [3, 0] (S' := [_,_]) rfl ?_
      refine wc_skip ?_
      refine we_block_normal ?_
      refine we_then ?_
      refine wc_region ?_
      refine wl_pure rfl rfl rfl (freshS_eq rfl) rfl ?_
      refine wl_pure rfl rfl rfl (freshS_eq rfl) rfl ?_
      obtain ⟨hg11, hm⟩ := gd_some hm
      refine wl_as (d := 11) (v' := .int .i64 ((u1_3 + 1 : Nat) : Int)) (S' := [_,_,_]) rfl rfl (nat_add (a := u1_3) (b := 1) hg11) ?_
      refine wl_pure (S' := [_,_,_]) rfl rfl rfl rfl rfl ?_
      refine wl_nil ?_
      have hE := (Option.some.inj hm).symm
      replace hE := link_inl hLu1 hE
      refine we_roundK (_, u1_3 + 1) (Nat.lt_succ_self _) hE [3, 0] rfl (fun _ _ hφ => ask [0] rfl hφ) rfl
  ·
   replace hm := iteF hm hb9
   refine wc_keep [0] (S' := [_]) rfl ?_
   refine wc_exit ?_
   refine we_then_exit ?_
   refine we_then_exit ?_
   refine we_block_hit ?_
   have hE := (Option.some.inj hm).symm
   replace hE := link_inr hLu1 hE
   refine we_join () hE [0] rfl (fun _ _ hφ => ask [0] rfl hφ) rfl
 ·
  rintro _ hE
  try dsimp only
  have hm := link_inl hLj_1 hE
  try dsimp only at hm
  refine wc_seq ?_
  refine wc_region ?_
  refine wl_pure rfl rfl rfl (freshS_eq rfl) rfl ?_
  refine wl_reck rfl rfl rfl (freshS_eq rfl) (rk_strLen rfl rfl tT_9) ?_
  refine wl_pure rfl rfl rfl (freshS_eq rfl) rfl ?_
  refine wl_as (d := 42) (v' := .bool (decide (1 ≤ a0.size))) (S' := [_,_,_]) rfl rfl (natge (a := a0.size) (b := 1)) ?_
  refine wl_pure rfl rfl rfl (freshS_eq rfl) rfl ?_
  refine wl_split (d := 43) (S' := [_,_,_,_]) rfl rfl (fun hs43 => ?_) (fun hs43 => ?_)
  ·
   replace hm := iteT hm hs43
   refine wl_pure rfl rfl rfl (freshS_eq rfl) rfl ?_
   refine wl_reck rfl rfl rfl (freshS_eq rfl) (rk_strLen rfl rfl tT_9) ?_
   refine wl_pure rfl rfl rfl (freshS_eq rfl) rfl ?_
   refine wl_as (d := 46) (v' := .bool (decide (a0.size ≤ 24))) (S' := [_,_,_,_,_,_,_]) rfl rfl (natle (a := a0.size) (b := 24)) ?_
   refine wl_pure rfl rfl rfl (freshS_eq rfl) rfl ?_
   refine wl_pure rfl rfl rfl (freshS_eq rfl) rfl ?_
   refine wl_nil ?_
   refine we_then ?_
   refine wc_keep [2] (S' := [_]) rfl ?_
   refine wc_ret ?_
   have hE := (Option.some.inj hm).symm
   replace hE := hE.symm
   subst hE
   refine ret_one (Hr := []) [] Tryd.results28 (res_tmp rfl) ⟨rfl, rfl, rfl⟩ (fun _ _ hφ => ask [] rfl hφ) rfl rfl (.inl rfl)
  ·
   replace hm := iteF hm hs43
   refine wl_off rfl rfl rfl (freshS_eq rfl) ?_
   refine wl_off rfl rfl rfl (freshS_eq rfl) ?_
   refine wl_off rfl rfl rfl (freshS_eq rfl) ?_
   refine wl_pure rfl rfl rfl (freshS_eq rfl) rfl ?_
   refine wl_pure rfl rfl rfl (freshS_eq rfl) rfl ?_
   refine wl_nil ?_
   refine we_then ?_
   refine wc_keep [2] (S' := [_]) rfl ?_
   refine wc_ret ?_
   have hE := (Option.some.inj hm).symm
   replace hE := hE.symm
   subst hE
   refine ret_one (Hr := []) [] Tryd.results28 (res_tmp rfl) ⟨rfl, rfl, rfl⟩ (fun _ _ hφ => ask [] rfl hφ) rfl rfl (.inl rfl)
set_option maxRecDepth 100000 in
set_option maxHeartbeats 4000000 in
theorem w_ropewalkref01_Right_s (N : Nat) (a0 : Int) (a1 : Int) (a2 : ByteArray) (o0 : Bool) (hm : m_ropewalkref01_Right N a0 a1 a2 = some o0) : Spec Tryd.prog 16 [.agg #[.int .u8 a0, .int .i64 a1, .string a2]] [tabF Tryd.prog "internal/strconv.uint64pow10" .u64 Lib.pow10Tab 1 pow10_g] [] (fun v Φr Hr => v = .bool o0 ∧ Φr = [] ∧ Hr = []) := by
 unfold m_ropewalkref01_Right at hm
 refine spec_of Tryd.func16 rfl Tryd.ntmps16 rfl (S := [_]) rfl (fun C => ?_)
 refine wc_seq ?_
 refine wc_region ?_
 refine wl_box rfl rfl rfl (freshS_eq rfl) rfl rfl rfl (fun g1 => ?_)
 refine wl_pure rfl rfl rfl (freshS_eq rfl) rfl ?_
 refine wl_nil ?_
 refine we_then ?_
 refine wc_keep [1] (S' := [_]) rfl ?_
 refine wc_seq ?_
 refine wc_seq ?_
 refine wc_region ?_
 refine wl_fieldAddr rfl rfl rfl (freshS_eq rfl) rfl rfl tF_29_0 ?_
 refine wl_loadH 0 0 rfl rfl rfl (freshS_eq rfl) rfl rfl rfl (cs := [_]) rfl tS_27 tA_27 rfl rfl ?_
 refine wl_pure rfl rfl rfl (freshS_eq rfl) rfl ?_
 refine wl_nil ?_
 refine we_then ?_
 refine wc_keep [5, 1] (S' := [_,_]) rfl ?_
 refine wc_cond rfl (fun hb5 => ?_) (fun hb5 => ?_)
 ·
  replace hm := iteT hm hb5
  refine wc_keep [1] (S' := [_]) rfl ?_
  refine wc_seq ?_
  refine wc_region ?_
  refine wl_fieldAddr rfl rfl rfl (freshS_eq rfl) rfl rfl tF_29_2 ?_
  refine wl_loadH 0 2 rfl rfl rfl (freshS_eq rfl) rfl rfl rfl (cs := [_]) rfl tS_9 tA_9 rfl rfl ?_
  refine wl_pure rfl rfl rfl (freshS_eq rfl) rfl ?_
  refine wl_pure rfl rfl rfl (freshS_eq rfl) rfl ?_
  refine wl_nil ?_
  refine we_then ?_
  refine wc_keep [2] (S' := [_]) rfl ?_
  refine wc_ret ?_
  refine we_then_ret ?_
  have hE := (Option.some.inj hm).symm
  replace hE := hE.symm
  subst hE
  refine ret_one (Hr := []) [] Tryd.results16 (res_tmp rfl) ⟨rfl, rfl, rfl⟩ (fun _ _ hφ => ask [] rfl hφ) rfl rfl (.inl rfl)
 ·
  replace hm := iteF hm hb5
  refine wc_keep [1] (S' := [_]) rfl ?_
  refine wc_skip ?_
  refine we_then ?_
  refine wc_seq ?_
  refine wc_region ?_
  refine wl_fieldAddr rfl rfl rfl (freshS_eq rfl) rfl rfl tF_29_0 ?_
  refine wl_loadH 0 0 rfl rfl rfl (freshS_eq rfl) rfl rfl rfl (cs := [_]) rfl tS_27 tA_27 rfl rfl ?_
  refine wl_pure rfl rfl rfl (freshS_eq rfl) rfl ?_
  refine wl_pure rfl rfl rfl (freshS_eq rfl) rfl ?_
  refine wl_split (d := 12) (S' := [_,_,_,_]) rfl rfl (fun hs12 => ?_) (fun hs12 => ?_)
  ·
   replace hm := iteT hm hs12
   refine wl_fieldAddr rfl rfl rfl (freshS_eq rfl) rfl rfl tF_29_1 ?_
   refine wl_loadH 0 1 rfl rfl rfl (freshS_eq rfl) rfl rfl rfl (cs := [_]) rfl tS_2 tA_2 rfl rfl ?_
   refine wl_pure rfl rfl rfl (freshS_eq rfl) rfl ?_
   refine wl_pure rfl rfl rfl (freshS_eq rfl) rfl ?_
   refine wl_pure rfl rfl rfl (freshS_eq rfl) rfl ?_
   refine wl_split (d := 17) (S' := [_,_,_,_,_,_,_,_,_]) rfl rfl (fun hs17 => ?_) (fun hs17 => ?_)
   ·
    replace hm := iteT hm hs17
    refine wl_fieldAddr rfl rfl rfl (freshS_eq rfl) rfl rfl tF_29_2 ?_
    refine wl_loadH 0 2 rfl rfl rfl (freshS_eq rfl) rfl rfl rfl (cs := [_]) rfl tS_9 tA_9 rfl rfl ?_
    obtain ⟨v20, hc20, hm⟩ := bindO_some hm
    refine wl_call [] [0] rfl rfl rfl (freshS_eq rfl) rfl rfl fn_28 rfl (w_ropewalkref01_Named_s N a2 _ hc20) (fun _ _ hφ => ask [0] rfl hφ) rfl (H' := [_]) rfl ?_
    rintro _ _ _ ⟨rfl, rfl, rfl⟩
    refine wl_pure rfl rfl rfl (freshS_eq rfl) rfl ?_
    refine wl_pure rfl rfl rfl (freshS_eq rfl) rfl ?_
    refine wl_nil ?_
    refine we_then ?_
    refine wc_keep [2] (S' := [_]) rfl ?_
    refine wc_ret ?_
    have hE := (Option.some.inj hm).symm
    replace hE := hE.symm
    subst hE
    refine ret_one (Hr := []) [] Tryd.results16 (res_tmp rfl) ⟨rfl, rfl, rfl⟩ (fun _ _ hφ => ask [] rfl hφ) rfl rfl (.inl rfl)
   ·
    replace hm := iteF hm hs17
    refine wl_off rfl rfl rfl (freshS_eq rfl) ?_
    refine wl_off rfl rfl rfl (freshS_eq rfl) ?_
    refine wl_off rfl rfl rfl (freshS_eq rfl) ?_
    refine wl_pure rfl rfl rfl (freshS_eq rfl) rfl ?_
    refine wl_pure rfl rfl rfl (freshS_eq rfl) rfl ?_
    refine wl_nil ?_
    refine we_then ?_
    refine wc_keep [2] (S' := [_]) rfl ?_
    refine wc_ret ?_
    have hE := (Option.some.inj hm).symm
    replace hE := hE.symm
    subst hE
    refine ret_one (Hr := []) [] Tryd.results16 (res_tmp rfl) ⟨rfl, rfl, rfl⟩ (fun _ _ hφ => ask [] rfl hφ) rfl rfl (.inl rfl)
  ·
   replace hm := iteF hm hs12
   refine wl_off rfl rfl rfl (freshS_eq rfl) ?_
   refine wl_off rfl rfl rfl (freshS_eq rfl) ?_
   refine wl_off rfl rfl rfl (freshS_eq rfl) ?_
   refine wl_pure rfl rfl rfl (freshS_eq rfl) rfl ?_
   refine wl_pure rfl rfl rfl (freshS_eq rfl) rfl ?_
   refine wl_off rfl rfl rfl (freshS_eq rfl) ?_
   refine wl_off rfl rfl rfl (freshS_eq rfl) ?_
   refine wl_off rfl rfl rfl (freshS_eq rfl) ?_
   refine wl_pure rfl rfl rfl (freshS_eq rfl) rfl ?_
   refine wl_pure rfl rfl rfl (freshS_eq rfl) rfl ?_
   refine wl_nil ?_
   refine we_then ?_
   refine wc_keep [2] (S' := [_]) rfl ?_
   refine wc_ret ?_
   have hE := (Option.some.inj hm).symm
   replace hE := hE.symm
   subst hE
   refine ret_one (Hr := []) [] Tryd.results16 (res_tmp rfl) ⟨rfl, rfl, rfl⟩ (fun _ _ hφ => ask [] rfl hφ) rfl rfl (.inl rfl)
set_option maxRecDepth 100000 in
set_option maxHeartbeats 4000000 in
theorem w_cmp_isNaN_ValueKind_s (N : Nat) (a0 : Int)  (hm : m_cmp_isNaN_ValueKind N a0 = some ()) : Spec Tryd.prog 50 [.int .u8 a0] [tabF Tryd.prog "internal/strconv.uint64pow10" .u64 Lib.pow10Tab 1 pow10_g] [] (fun v Φr Hr => v = .bool (a0 != a0) ∧ Φr = [] ∧ Hr = []) := by
 unfold m_cmp_isNaN_ValueKind at hm
 refine spec_of Tryd.func50 rfl Tryd.ntmps50 rfl (S := [_]) rfl (fun C => ?_)
 refine wc_seq ?_
 refine wc_region ?_
 refine wl_pure rfl rfl rfl (freshS_eq rfl) rfl ?_
 refine wl_nil ?_
 refine we_then ?_
 refine wc_keep [0] (S' := [_]) rfl ?_
 refine wc_seq ?_
 refine wc_region ?_
 refine wl_pure rfl rfl rfl (freshS_eq rfl) rfl ?_
 refine wl_pure rfl rfl rfl (freshS_eq rfl) rfl ?_
 refine wl_pure rfl rfl rfl (freshS_eq rfl) rfl ?_
 refine wl_pure rfl rfl rfl (freshS_eq rfl) rfl ?_
 refine wl_nil ?_
 refine we_then ?_
 refine wc_keep [2] (S' := [_]) rfl ?_
 refine wc_ret ?_
 have hE := (Option.some.inj hm).symm
 refine ret_one (Hr := []) [] Tryd.results50 (res_tmp rfl) ⟨rfl, rfl, rfl⟩ (fun _ _ hφ => ask [] rfl hφ) rfl rfl (.inl rfl)
set_option maxRecDepth 100000 in
set_option maxHeartbeats 4000000 in
theorem w_cmp_Compare_ValueKind_s (N : Nat) (a0 : Int) (a1 : Int) (o0 : Int) (hm : m_cmp_Compare_ValueKind N a0 a1 = some o0) : Spec Tryd.prog 30 [.int .u8 a0, .int .u8 a1] [tabF Tryd.prog "internal/strconv.uint64pow10" .u64 Lib.pow10Tab 1 pow10_g] [] (fun v Φr Hr => v = .int .i64 o0 ∧ Φr = [] ∧ Hr = []) := by
 unfold m_cmp_Compare_ValueKind at hm
 refine spec_of Tryd.func30 rfl Tryd.ntmps30 rfl (S := [_,_]) rfl (fun C => ?_)
 refine wc_seq ?_
 refine wc_region ?_
 refine wl_pure rfl rfl rfl (freshS_eq rfl) rfl ?_
 refine wl_nil ?_
 refine we_then ?_
 refine wc_keep [0, 1] (S' := [_,_]) rfl ?_
 refine wc_seq ?_
 refine wc_region ?_
 refine wl_pure rfl rfl rfl (freshS_eq rfl) rfl ?_
 obtain ⟨_, hc8, hm⟩ := bindO_some hm
 try dsimp only at hm
 refine wl_call [] [] rfl rfl rfl (freshS_eq rfl) rfl rfl fn_50 rfl (w_cmp_isNaN_ValueKind_s N a0 hc8) (fun _ _ hφ => ask [0] rfl hφ) rfl (H' := []) rfl ?_
 rintro _ _ _ ⟨rfl, rfl, rfl⟩
 refine wl_pure rfl rfl rfl (freshS_eq rfl) rfl ?_
 refine wl_nil ?_
 refine we_then ?_
 refine wc_keep [5, 0, 1] (S' := [_,_,_]) rfl ?_
 refine wc_seq ?_
 refine wc_region ?_
 refine wl_pure rfl rfl rfl (freshS_eq rfl) rfl ?_
 obtain ⟨_, hc10, hm⟩ := bindO_some hm
 try dsimp only at hm
 refine wl_call [] [] rfl rfl rfl (freshS_eq rfl) rfl rfl fn_50 rfl (w_cmp_isNaN_ValueKind_s N a1 hc10) (fun _ _ hφ => ask [0] rfl hφ) rfl (H' := []) rfl ?_
 rintro _ _ _ ⟨rfl, rfl, rfl⟩
 refine wl_pure rfl rfl rfl (freshS_eq rfl) rfl ?_
 refine wl_nil ?_
 refine we_then ?_
 refine wc_keep [6, 5, 0, 1] (S' := [_,_,_,_]) rfl ?_
 refine wc_seq ?_
 refine wc_seq ?_
 refine wc_region ?_
 refine wl_pure rfl rfl rfl (freshS_eq rfl) rfl ?_
 refine wl_nil ?_
 refine we_then ?_
 refine wc_keep [11, 6, 0, 1] (S' := [_,_,_,_]) rfl ?_
 refine wc_cond rfl (fun hb11 => ?_) (fun hb11 => ?_)
 ·
  replace hm := iteT hm hb11
  refine wc_keep [6] (S' := [_]) rfl ?_
  refine wc_seq ?_
  refine wc_seq ?_
  refine wc_region ?_
  refine wl_pure rfl rfl rfl (freshS_eq rfl) rfl ?_
  refine wl_nil ?_
  refine we_then ?_
  refine wc_keep [12] (S' := [_]) rfl ?_
  refine wc_cond rfl (fun hb12 => ?_) (fun hb12 => ?_)
  ·
   replace hm := iteT hm hb12
   refine wc_keep [] (S' := []) rfl ?_
   refine wc_seq ?_
   refine wc_region ?_
   refine wl_pure rfl rfl rfl (freshS_eq rfl) rfl ?_
   refine wl_nil ?_
   refine we_then ?_
   refine wc_ret ?_
   refine we_then_ret ?_
   refine we_then_ret ?_
   have hE := (Option.some.inj hm).symm
   replace hE := hE.symm
   subst hE
   refine ret_one (Hr := []) [] Tryd.results30 (res_tmp rfl) ⟨rfl, rfl, rfl⟩ (fun _ _ hφ => ask [] rfl hφ) rfl rfl (.inl rfl)
  ·
   replace hm := iteF hm hb12
   refine wc_keep [] (S' := []) rfl ?_
   refine wc_skip ?_
   refine we_then ?_
   refine wc_seq ?_
   refine wc_region ?_
   refine wl_pure rfl rfl rfl (freshS_eq rfl) rfl ?_
   refine wl_nil ?_
   refine we_then ?_
   refine wc_ret ?_
   refine we_then_ret ?_
   have hE := (Option.some.inj hm).symm
   replace hE := hE.symm
   subst hE
   refine ret_one (Hr := []) [] Tryd.results30 (res_tmp rfl) ⟨rfl, rfl, rfl⟩ (fun _ _ hφ => ask [] rfl hφ) rfl rfl (.inl rfl)
 ·
  replace hm := iteF hm hb11
  refine wc_keep [6, 0, 1] (S' := [_,_,_]) rfl ?_
  refine wc_skip ?_
  refine we_then ?_
  refine wc_seq ?_
  refine wc_seq ?_
  refine wc_region ?_
  refine wl_pure rfl rfl rfl (freshS_eq rfl) rfl ?_
  refine wl_nil ?_
  refine we_then ?_
  refine wc_keep [13, 0, 1] (S' := [_,_,_]) rfl ?_
  refine wc_cond rfl (fun hb13 => ?_) (fun hb13 => ?_)
  ·
   replace hm := iteT hm hb13
   refine wc_keep [] (S' := []) rfl ?_
   refine wc_seq ?_
   refine wc_region ?_
   refine wl_pure rfl rfl rfl (freshS_eq rfl) rfl ?_
   refine wl_nil ?_
   refine we_then ?_
   refine wc_ret ?_
   refine we_then_ret ?_
   have hE := (Option.some.inj hm).symm
   replace hE := hE.symm
   subst hE
   refine ret_one (Hr := []) [] Tryd.results30 (res_tmp rfl) ⟨rfl, rfl, rfl⟩ (fun _ _ hφ => ask [] rfl hφ) rfl rfl (.inl rfl)
  ·
   replace hm := iteF hm hb13
   refine wc_keep [0, 1] (S' := [_,_]) rfl ?_
   refine wc_skip ?_
   refine we_then ?_
   refine wc_seq ?_
   refine wc_seq ?_
   refine wc_region ?_
   refine wl_pure rfl rfl rfl (freshS_eq rfl) rfl ?_
   refine wl_pure rfl rfl rfl (freshS_eq rfl) rfl ?_
   refine wl_pure rfl rfl rfl (freshS_eq rfl) rfl ?_
   refine wl_nil ?_
   refine we_then ?_
   refine wc_keep [16, 0, 1] (S' := [_,_,_]) rfl ?_
   refine wc_cond rfl (fun hb16 => ?_) (fun hb16 => ?_)
   ·
    replace hm := iteT hm hb16
    refine wc_keep [] (S' := []) rfl ?_
    refine wc_seq ?_
    refine wc_region ?_
    refine wl_pure rfl rfl rfl (freshS_eq rfl) rfl ?_
    refine wl_nil ?_
    refine we_then ?_
    refine wc_ret ?_
    refine we_then_ret ?_
    have hE := (Option.some.inj hm).symm
    replace hE := hE.symm
    subst hE
    refine ret_one (Hr := []) [] Tryd.results30 (res_tmp rfl) ⟨rfl, rfl, rfl⟩ (fun _ _ hφ => ask [] rfl hφ) rfl rfl (.inl rfl)
   ·
    replace hm := iteF hm hb16
    refine wc_keep [0, 1] (S' := [_,_]) rfl ?_
    refine wc_skip ?_
    refine we_then ?_
    refine wc_seq ?_
    refine wc_seq ?_
    refine wc_region ?_
    refine wl_pure rfl rfl rfl (freshS_eq rfl) rfl ?_
    refine wl_pure rfl rfl rfl (freshS_eq rfl) rfl ?_
    refine wl_pure rfl rfl rfl (freshS_eq rfl) rfl ?_
    refine wl_nil ?_
    refine we_then ?_
    refine wc_keep [19] (S' := [_]) rfl ?_
    refine wc_cond rfl (fun hb19 => ?_) (fun hb19 => ?_)
    ·
     replace hm := iteT hm hb19
     refine wc_keep [] (S' := []) rfl ?_
     refine wc_seq ?_
     refine wc_region ?_
     refine wl_pure rfl rfl rfl (freshS_eq rfl) rfl ?_
     refine wl_nil ?_
     refine we_then ?_
     refine wc_ret ?_
     refine we_then_ret ?_
     have hE := (Option.some.inj hm).symm
     replace hE := hE.symm
     subst hE
     refine ret_one (Hr := []) [] Tryd.results30 (res_tmp rfl) ⟨rfl, rfl, rfl⟩ (fun _ _ hφ => ask [] rfl hφ) rfl rfl (.inl rfl)
    ·
     replace hm := iteF hm hb19
     refine wc_keep [] (S' := []) rfl ?_
     refine wc_skip ?_
     refine we_then ?_
     refine wc_seq ?_
     refine wc_region ?_
     refine wl_pure rfl rfl rfl (freshS_eq rfl) rfl ?_
     refine wl_nil ?_
     refine we_then ?_
     refine wc_ret ?_
     have hE := (Option.some.inj hm).symm
     replace hE := hE.symm
     subst hE
     refine ret_one (Hr := []) [] Tryd.results30 (res_tmp rfl) ⟨rfl, rfl, rfl⟩ (fun _ _ hφ => ask [] rfl hφ) rfl rfl (.inl rfl)
set_option maxRecDepth 100000 in
set_option maxHeartbeats 4000000 in
theorem w_cmp_isNaN_int64_s (N : Nat) (a0 : Int)  (hm : m_cmp_isNaN_int64 N a0 = some ()) : Spec Tryd.prog 51 [.int .i64 a0] [tabF Tryd.prog "internal/strconv.uint64pow10" .u64 Lib.pow10Tab 1 pow10_g] [] (fun v Φr Hr => v = .bool (a0 != a0) ∧ Φr = [] ∧ Hr = []) := by
 unfold m_cmp_isNaN_int64 at hm
 refine spec_of Tryd.func51 rfl Tryd.ntmps51 rfl (S := [_]) rfl (fun C => ?_)
 refine wc_seq ?_
 refine wc_region ?_
 refine wl_pure rfl rfl rfl (freshS_eq rfl) rfl ?_
 refine wl_nil ?_
 refine we_then ?_
 refine wc_keep [0] (S' := [_]) rfl ?_
 refine wc_seq ?_
 refine wc_region ?_
 refine wl_pure rfl rfl rfl (freshS_eq rfl) rfl ?_
 refine wl_pure rfl rfl rfl (freshS_eq rfl) rfl ?_
 refine wl_pure rfl rfl rfl (freshS_eq rfl) rfl ?_
 refine wl_pure rfl rfl rfl (freshS_eq rfl) rfl ?_
 refine wl_nil ?_
 refine we_then ?_
 refine wc_keep [2] (S' := [_]) rfl ?_
 refine wc_ret ?_
 have hE := (Option.some.inj hm).symm
 refine ret_one (Hr := []) [] Tryd.results51 (res_tmp rfl) ⟨rfl, rfl, rfl⟩ (fun _ _ hφ => ask [] rfl hφ) rfl rfl (.inl rfl)
set_option maxRecDepth 100000 in
set_option maxHeartbeats 4000000 in
theorem w_cmp_Compare_int64_s (N : Nat) (a0 : Int) (a1 : Int) (o0 : Int) (hm : m_cmp_Compare_int64 N a0 a1 = some o0) : Spec Tryd.prog 31 [.int .i64 a0, .int .i64 a1] [tabF Tryd.prog "internal/strconv.uint64pow10" .u64 Lib.pow10Tab 1 pow10_g] [] (fun v Φr Hr => v = .int .i64 o0 ∧ Φr = [] ∧ Hr = []) := by
 unfold m_cmp_Compare_int64 at hm
 refine spec_of Tryd.func31 rfl Tryd.ntmps31 rfl (S := [_,_]) rfl (fun C => ?_)
 refine wc_seq ?_
 refine wc_region ?_
 refine wl_pure rfl rfl rfl (freshS_eq rfl) rfl ?_
 refine wl_nil ?_
 refine we_then ?_
 refine wc_keep [0, 1] (S' := [_,_]) rfl ?_
 refine wc_seq ?_
 refine wc_region ?_
 refine wl_pure rfl rfl rfl (freshS_eq rfl) rfl ?_
 obtain ⟨_, hc8, hm⟩ := bindO_some hm
 try dsimp only at hm
 refine wl_call [] [] rfl rfl rfl (freshS_eq rfl) rfl rfl fn_51 rfl (w_cmp_isNaN_int64_s N a0 hc8) (fun _ _ hφ => ask [0] rfl hφ) rfl (H' := []) rfl ?_
 rintro _ _ _ ⟨rfl, rfl, rfl⟩
 refine wl_pure rfl rfl rfl (freshS_eq rfl) rfl ?_
 refine wl_nil ?_
 refine we_then ?_
 refine wc_keep [5, 0, 1] (S' := [_,_,_]) rfl ?_
 refine wc_seq ?_
 refine wc_region ?_
 refine wl_pure rfl rfl rfl (freshS_eq rfl) rfl ?_
 obtain ⟨_, hc10, hm⟩ := bindO_some hm
 try dsimp only at hm
 refine wl_call [] [] rfl rfl rfl (freshS_eq rfl) rfl rfl fn_51 rfl (w_cmp_isNaN_int64_s N a1 hc10) (fun _ _ hφ => ask [0] rfl hφ) rfl (H' := []) rfl ?_
 rintro _ _ _ ⟨rfl, rfl, rfl⟩
 refine wl_pure rfl rfl rfl (freshS_eq rfl) rfl ?_
 refine wl_nil ?_
 refine we_then ?_
 refine wc_keep [6, 5, 0, 1] (S' := [_,_,_,_]) rfl ?_
 refine wc_seq ?_
 refine wc_seq ?_
 refine wc_region ?_
 refine wl_pure rfl rfl rfl (freshS_eq rfl) rfl ?_
 refine wl_nil ?_
 refine we_then ?_
 refine wc_keep [11, 6, 0, 1] (S' := [_,_,_,_]) rfl ?_
 refine wc_cond rfl (fun hb11 => ?_) (fun hb11 => ?_)
 ·
  replace hm := iteT hm hb11
  refine wc_keep [6] (S' := [_]) rfl ?_
  refine wc_seq ?_
  refine wc_seq ?_
  refine wc_region ?_
  refine wl_pure rfl rfl rfl (freshS_eq rfl) rfl ?_
  refine wl_nil ?_
  refine we_then ?_
  refine wc_keep [12] (S' := [_]) rfl ?_
  refine wc_cond rfl (fun hb12 => ?_) (fun hb12 => ?_)
  ·
   replace hm := iteT hm hb12
   refine wc_keep [] (S' := []) rfl ?_
   refine wc_seq ?_
   refine wc_region ?_
   refine wl_pure rfl rfl rfl (freshS_eq rfl) rfl ?_
   refine wl_nil ?_
   refine we_then ?_
   refine wc_ret ?_
   refine we_then_ret ?_
   refine we_then_ret ?_
   have hE := (Option.some.inj hm).symm
   replace hE := hE.symm
   subst hE
   refine ret_one (Hr := []) [] Tryd.results31 (res_tmp rfl) ⟨rfl, rfl, rfl⟩ (fun _ _ hφ => ask [] rfl hφ) rfl rfl (.inl rfl)
  ·
   replace hm := iteF hm hb12
   refine wc_keep [] (S' := []) rfl ?_
   refine wc_skip ?_
   refine we_then ?_
   refine wc_seq ?_
   refine wc_region ?_
   refine wl_pure rfl rfl rfl (freshS_eq rfl) rfl ?_
   refine wl_nil ?_
   refine we_then ?_
   refine wc_ret ?_
   refine we_then_ret ?_
   have hE := (Option.some.inj hm).symm
   replace hE := hE.symm
   subst hE
   refine ret_one (Hr := []) [] Tryd.results31 (res_tmp rfl) ⟨rfl, rfl, rfl⟩ (fun _ _ hφ => ask [] rfl hφ) rfl rfl (.inl rfl)
 ·
  replace hm := iteF hm hb11
  refine wc_keep [6, 0, 1] (S' := [_,_,_]) rfl ?_
  refine wc_skip ?_
  refine we_then ?_
  refine wc_seq ?_
  refine wc_seq ?_
  refine wc_region ?_
  refine wl_pure rfl rfl rfl (freshS_eq rfl) rfl ?_
  refine wl_nil ?_
  refine we_then ?_
  refine wc_keep [13, 0, 1] (S' := [_,_,_]) rfl ?_
  refine wc_cond rfl (fun hb13 => ?_) (fun hb13 => ?_)
  ·
   replace hm := iteT hm hb13
   refine wc_keep [] (S' := []) rfl ?_
   refine wc_seq ?_
   refine wc_region ?_
   refine wl_pure rfl rfl rfl (freshS_eq rfl) rfl ?_
   refine wl_nil ?_
   refine we_then ?_
   refine wc_ret ?_
   refine we_then_ret ?_
   have hE := (Option.some.inj hm).symm
   replace hE := hE.symm
   subst hE
   refine ret_one (Hr := []) [] Tryd.results31 (res_tmp rfl) ⟨rfl, rfl, rfl⟩ (fun _ _ hφ => ask [] rfl hφ) rfl rfl (.inl rfl)
  ·
   replace hm := iteF hm hb13
   refine wc_keep [0, 1] (S' := [_,_]) rfl ?_
   refine wc_skip ?_
   refine we_then ?_
   refine wc_seq ?_
   refine wc_seq ?_
   refine wc_region ?_
   refine wl_pure rfl rfl rfl (freshS_eq rfl) rfl ?_
   refine wl_pure rfl rfl rfl (freshS_eq rfl) rfl ?_
   refine wl_pure rfl rfl rfl (freshS_eq rfl) rfl ?_
   refine wl_nil ?_
   refine we_then ?_
   refine wc_keep [16, 0, 1] (S' := [_,_,_]) rfl ?_
   refine wc_cond rfl (fun hb16 => ?_) (fun hb16 => ?_)
   ·
    replace hm := iteT hm hb16
    refine wc_keep [] (S' := []) rfl ?_
    refine wc_seq ?_
    refine wc_region ?_
    refine wl_pure rfl rfl rfl (freshS_eq rfl) rfl ?_
    refine wl_nil ?_
    refine we_then ?_
    refine wc_ret ?_
    refine we_then_ret ?_
    have hE := (Option.some.inj hm).symm
    replace hE := hE.symm
    subst hE
    refine ret_one (Hr := []) [] Tryd.results31 (res_tmp rfl) ⟨rfl, rfl, rfl⟩ (fun _ _ hφ => ask [] rfl hφ) rfl rfl (.inl rfl)
   ·
    replace hm := iteF hm hb16
    refine wc_keep [0, 1] (S' := [_,_]) rfl ?_
    refine wc_skip ?_
    refine we_then ?_
    refine wc_seq ?_
    refine wc_seq ?_
    refine wc_region ?_
    refine wl_pure rfl rfl rfl (freshS_eq rfl) rfl ?_
    refine wl_pure rfl rfl rfl (freshS_eq rfl) rfl ?_
    refine wl_pure rfl rfl rfl (freshS_eq rfl) rfl ?_
    refine wl_nil ?_
    refine we_then ?_
    refine wc_keep [19] (S' := [_]) rfl ?_
    refine wc_cond rfl (fun hb19 => ?_) (fun hb19 => ?_)
    ·
     replace hm := iteT hm hb19
     refine wc_keep [] (S' := []) rfl ?_
     refine wc_seq ?_
     refine wc_region ?_
     refine wl_pure rfl rfl rfl (freshS_eq rfl) rfl ?_
     refine wl_nil ?_
     refine we_then ?_
     refine wc_ret ?_
     refine we_then_ret ?_
     have hE := (Option.some.inj hm).symm
     replace hE := hE.symm
     subst hE
     refine ret_one (Hr := []) [] Tryd.results31 (res_tmp rfl) ⟨rfl, rfl, rfl⟩ (fun _ _ hφ => ask [] rfl hφ) rfl rfl (.inl rfl)
    ·
     replace hm := iteF hm hb19
     refine wc_keep [] (S' := []) rfl ?_
     refine wc_skip ?_
     refine we_then ?_
     refine wc_seq ?_
     refine wc_region ?_
     refine wl_pure rfl rfl rfl (freshS_eq rfl) rfl ?_
     refine wl_nil ?_
     refine we_then ?_
     refine wc_ret ?_
     have hE := (Option.some.inj hm).symm
     replace hE := hE.symm
     subst hE
     refine ret_one (Hr := []) [] Tryd.results31 (res_tmp rfl) ⟨rfl, rfl, rfl⟩ (fun _ _ hφ => ask [] rfl hφ) rfl rfl (.inl rfl)
set_option maxRecDepth 100000 in
set_option maxHeartbeats 4000000 in
theorem w_cmp_Or_int_s (N : Nat) (qp0 : Option Addr) (qn1 : Nat) (qc2 : Nat) (l0 : List Int) (o0 : Int) (hm : m_cmp_Or_int N l0 = some o0) : Spec Tryd.prog 29 [.slice qp0 qn1 qc2] [tabF Tryd.prog "internal/strconv.uint64pow10" .u64 Lib.pow10Tab 1 pow10_g] [.own 3 1 R_i64 (.slice qp0 qn1 qc2) l0] (fun v Φr Hr => v = .int .i64 o0 ∧ Φr = [] ∧ Hr = [.own 3 1 R_i64 (.slice qp0 qn1 qc2) l0]) := by
 unfold m_cmp_Or_int at hm
 refine spec_of Tryd.func29 rfl Tryd.ntmps29 rfl (S := [_]) rfl (fun C => ?_)
 refine wc_seq ?_
 refine wc_region ?_
 refine wl_pure rfl rfl rfl (freshS_eq rfl) rfl ?_
 refine wl_nil ?_
 refine we_then ?_
 refine wc_keep [0] (S' := [_]) rfl ?_
 refine wc_seq ?_
 refine wc_region ?_
 refine wl_pure rfl rfl rfl (freshS_eq rfl) rfl ?_
 refine wl_nil ?_
 refine we_then ?_
 refine wc_seq ?_
 obtain ⟨bj_1, hm, hLj_1⟩ := bindS_some hm
 refine wc_cut (σ := Unit) (fun _ => bj_1 = .inl ()) (fun _ => [(3, .int .i64 0)]) (fun _ => [tabF Tryd.prog "internal/strconv.uint64pow10" .u64 Lib.pow10Tab 1 pow10_g]) (fun _ => [.own 3 1 R_i64 (.slice qp0 qn1 qc2) l0]) ?_ ?_
 ·
  refine wc_seq ?_
  refine wc_region ?_
  refine wl_pure rfl rfl rfl (freshS_eq rfl) rfl ?_
  refine wl_ownLen 0 rfl (fun hl7 _ => ?_)
  refine wl_len rfl rfl rfl (freshS_eq rfl) rfl rfl tE_62 ?_
  refine wl_as (d := 7) (v' := .int .i64 ((l0.length : Nat) : Int)) (S' := [_,_,_]) rfl rfl (len_is hl7) ?_
  refine wl_pure rfl rfl rfl (freshS_eq rfl) rfl ?_
  refine wl_nil ?_
  refine we_then ?_
  refine wc_keep [8, 7, 6, 3] (S' := [_,_,_,_]) rfl ?_
  refine wc_block ?_
  refine wc_loop (σ := Nat × Nat) (fun (nu1, u1_8) => iter (m_cmp_Or_int_L1 N l0) nu1 u1_8 = some bj_1) (fun (nu1, u1_8) => nu1) (fun (nu1, u1_8) => [(8, .int .i64 ((u1_8 : Nat) : Int)), (7, .int .i64 ((l0.length : Nat) : Int)), (6, .slice qp0 qn1 qc2), (3, .int .i64 0)]) (fun (nu1, u1_8) => [tabF Tryd.prog "internal/strconv.uint64pow10" .u64 Lib.pow10Tab 1 pow10_g]) (fun (nu1, u1_8) => [.own 3 1 R_i64 (.slice qp0 qn1 qc2) l0]) (N, 0) hm [8, 7, 6, 3] rfl (fun _ _ hφ => ask [0] rfl hφ) rfl (fun s_ hm => ?_)
  obtain ⟨nu1, u1_8⟩ := s_
  try dsimp only at hm ⊢
  obtain ⟨mu1, bu1, hnu1, hq, hLu1⟩ := iter_some hm
  clear hm
  subst hnu1
  replace hm := hq
  clear hq
  unfold m_cmp_Or_int_L1 at hm
  try dsimp only at hm
  refine wc_seq ?_
  refine wc_region ?_
  refine wl_pure rfl rfl rfl (freshS_eq rfl) rfl ?_
  refine wl_as (d := 9) (v' := .bool (decide (u1_8 < l0.length))) (S' := [_,_,_,_]) rfl rfl (natlt (a := u1_8) (b := l0.length)) ?_
  refine wl_nil ?_
  refine we_then ?_
  refine wc_seq ?_
  refine wc_cond rfl (fun hb9 => ?_) (fun hb9 => ?_)
  ·
   replace hm := iteT hm hb9
   refine wc_keep [8, 7, 6, 3] (S' := [_,_,_,_]) rfl ?_
   refine wc_skip ?_
   refine we_then ?_
   refine wc_seq ?_
   refine wc_block ?_
   refine wc_seq ?_
   refine wc_region ?_
   obtain ⟨x10, hx10, hm⟩ := bindO_some hm
   refine wl_indexH 0 u1_8 rfl rfl rfl (freshS_eq rfl) rfl rfl rfl rfl rfl (get_lt hx10) tE_62 tS_3 (fun g10 eg10 => ?_)
   subst eg10
   refine wl_loadRow R_i64_opens 0 u1_8 0 rfl rfl rfl (freshS_eq rfl) rfl rfl rfl hx10 tS_3 tA_3 (v := fun _ => .int .i64 x10) (fun _ => rfl) (fun _ => rfl) (fun _ _ => ?_)
   refine wl_pure rfl rfl rfl (freshS_eq rfl) rfl ?_
   refine wl_nil ?_
   refine we_then ?_
   refine wc_keep [5, 8, 7, 6, 3] (S' := [_,_,_,_,_]) rfl ?_
   refine wc_seq ?_
   refine wc_region ?_
   refine wl_pure rfl rfl rfl (freshS_eq rfl) rfl ?_
   refine wl_pure rfl rfl rfl (freshS_eq rfl) rfl ?_
   refine wl_pure rfl rfl rfl (freshS_eq rfl) rfl ?_
   refine wl_nil ?_
   refine we_then ?_
   refine wc_keep [14, 5, 8, 7, 6, 3] (S' := [_,_,_,_,_,_]) rfl ?_
   refine wc_cond rfl (fun hb14 => ?_) (fun hb14 => ?_)
   ·
    replace hm := iteT hm hb14
    refine wc_keep [5] (S' := [_]) rfl ?_
    refine wc_seq ?_
    refine wc_region ?_
    refine wl_pure rfl rfl rfl (freshS_eq rfl) rfl ?_
    refine wl_pure rfl rfl rfl (freshS_eq rfl) rfl ?_
    refine wl_nil ?_
    refine we_then ?_
    refine wc_keep [2] (S' := [_]) rfl ?_
    refine wc_ret ?_
    refine we_block_ret ?_
    refine we_then_ret ?_
    refine we_then_ret ?_
    refine we_block_ret ?_
    refine we_then_ret ?_
    have hE := (Option.some.inj hm).symm
    replace hE := link_inr hLu1 hE
    replace hE := link_inr hLj_1 hE
    replace hE := hE.symm
    subst hE
    refine ret_one (Hr := [_]) [0] Tryd.results29 (res_tmp rfl) ⟨rfl, rfl, rfl⟩ (fun _ _ hφ => ask [] rfl hφ) rfl rfl (.inl rfl)
   ·
    replace hm := iteF hm hb14
    refine wc_keep [8, 7, 6, 3] (S' := [_,_,_,_]) rfl ?_
    refine wc_skip ?_
    refine we_block_normal ?_
    refine we_then ?_
    refine wc_region ?_
    refine wl_pure rfl rfl rfl (freshS_eq rfl) rfl ?_
    obtain ⟨hg16, hm⟩ := gd_some hm
    refine wl_as (d := 16) (v' := .int .i64 ((u1_8 + 1 : Nat) : Int)) (S' := [_,_,_,_]) rfl rfl (nat_add (a := u1_8) (b := 1) hg16) ?_
    refine wl_pure (S' := [_,_,_,_]) rfl rfl rfl rfl rfl ?_
    refine wl_nil ?_
    have hE := (Option.some.inj hm).symm
    replace hE := link_inl hLu1 hE
    refine we_roundK (_, u1_8 + 1) (Nat.lt_succ_self _) hE [8, 7, 6, 3] rfl (fun _ _ hφ => ask [0] rfl hφ) rfl
  ·
   replace hm := iteF hm hb9
   refine wc_keep [3] (S' := [_]) rfl ?_
   refine wc_exit ?_
   refine we_then_exit ?_
   refine we_then_exit ?_
   refine we_block_hit ?_
   have hE := (Option.some.inj hm).symm
   replace hE := link_inr hLu1 hE
   refine we_join () hE [3] rfl (fun _ _ hφ => ask [0] rfl hφ) rfl
 ·
  rintro _ hE
  try dsimp only
  have hm := link_inl hLj_1 hE
  try dsimp only at hm
  refine wc_seq ?_
  refine wc_region ?_
  refine wl_pure rfl rfl rfl (freshS_eq rfl) rfl ?_
  refine wl_pure rfl rfl rfl (freshS_eq rfl) rfl ?_
  refine wl_nil ?_
  refine we_then ?_
  refine wc_keep [2] (S' := [_]) rfl ?_
  refine wc_ret ?_
  have hE := (Option.some.inj hm).symm
  replace hE := hE.symm
  subst hE
  refine ret_one (Hr := [_]) [0] Tryd.results29 (res_tmp rfl) ⟨rfl, rfl, rfl⟩ (fun _ _ hφ => ask [] rfl hφ) rfl rfl (.inl rfl)
set_option maxRecDepth 100000 in
set_option maxHeartbeats 4000000 in
theorem w_value_Compare_s (N : Nat) (a0 : Int) (a1 : Int) (a2 : ByteArray) (a3 : Int) (a4 : Int) (a5 : ByteArray) (o0 : Int) (hm : m_value_Compare N a0 a1 a2 a3 a4 a5 = some o0) : Spec Tryd.prog 17 [.agg #[.int .u8 a0, .int .i64 a1, .string a2], .agg #[.int .u8 a3, .int .i64 a4, .string a5]] [tabF Tryd.prog "internal/strconv.uint64pow10" .u64 Lib.pow10Tab 1 pow10_g] [] (fun v Φr Hr => v = .int .i64 o0 ∧ Φr = [] ∧ Hr = []) := by
 unfold m_value_Compare at hm
 refine spec_of Tryd.func17 rfl Tryd.ntmps17 rfl (S := [_,_]) rfl (fun C => ?_)
 refine wc_seq ?_
 refine wc_region ?_
 refine wl_box rfl rfl rfl (freshS_eq rfl) rfl rfl rfl (fun g2 => ?_)
 refine wl_box rfl rfl rfl (freshS_eq rfl) rfl rfl rfl (fun g3 => ?_)
 refine wl_pure rfl rfl rfl (freshS_eq rfl) rfl ?_
 refine wl_nil ?_
 refine we_then ?_
 refine wc_keep [3, 2] (S' := [_,_]) rfl ?_
 refine wc_seq ?_
 refine wc_seq ?_
 obtain ⟨bj_1, hm, hLj_1⟩ := bindO_some hm
 refine wc_cut (σ := Bool) (fun j_1_12 => bj_1 = j_1_12) (fun j_1_12 => [(3, .pointer (some ⟨g3, 0, none⟩)), (2, .pointer (some ⟨g2, 0, none⟩)), (12, .bool j_1_12)]) (fun j_1_12 => [tabF Tryd.prog "internal/strconv.uint64pow10" .u64 Lib.pow10Tab 1 pow10_g]) (fun j_1_12 => [.blk g3 [.int .u8 a3, .int .i64 a4, .string a5] 29, .blk g2 [.int .u8 a0, .int .i64 a1, .string a2] 29]) ?_ ?_
 ·
  refine wc_region ?_
  refine wl_loadH 1 0 rfl rfl rfl (freshS_eq rfl) rfl rfl rfl (cs := [_,_,_]) rfl tS_29 tA_29 rfl rfl ?_
  obtain ⟨v6, hc6, hm⟩ := bindO_some hm
  refine wl_call [] [0, 1] rfl rfl rfl (freshS_eq rfl) rfl rfl fn_15 rfl (w_value_Right_s N a0 a1 a2 _ hc6) (fun _ _ hφ => ask [0] rfl hφ) rfl (H' := [_,_]) rfl ?_
  rintro _ _ _ ⟨rfl, rfl, rfl⟩
  refine wl_pure rfl rfl rfl (freshS_eq rfl) rfl ?_
  refine wl_pure rfl rfl rfl (freshS_eq rfl) rfl ?_
  refine wl_split (d := 8) (S' := [_,_,_,_,_]) rfl rfl (fun hs8 => ?_) (fun hs8 => ?_)
  ·
   replace hm := iteT hm hs8
   refine wl_off rfl rfl rfl (freshS_eq rfl) ?_
   refine wl_off rfl rfl rfl (freshS_eq rfl) ?_
   refine wl_off rfl rfl rfl (freshS_eq rfl) ?_
   refine wl_pure rfl rfl rfl (freshS_eq rfl) rfl ?_
   refine wl_nil ?_
   have hE := (Option.some.inj hm).symm
   refine we_join true hE [3, 2, 12] rfl (fun _ _ hφ => ask [0] rfl hφ) rfl
  ·
   replace hm := iteF hm hs8
   refine wl_loadH 0 0 rfl rfl rfl (freshS_eq rfl) rfl rfl rfl (cs := [_,_,_]) rfl tS_29 tA_29 rfl rfl ?_
   obtain ⟨v10, hc10, hm⟩ := bindO_some hm
   refine wl_call [] [0, 1] rfl rfl rfl (freshS_eq rfl) rfl rfl fn_15 rfl (w_value_Right_s N a3 a4 a5 _ hc10) (fun _ _ hφ => ask [0] rfl hφ) rfl (H' := [_,_]) rfl ?_
   rintro _ _ _ ⟨rfl, rfl, rfl⟩
   refine wl_pure rfl rfl rfl (freshS_eq rfl) rfl ?_
   refine wl_pure rfl rfl rfl (freshS_eq rfl) rfl ?_
   refine wl_nil ?_
   have hE := (Option.some.inj hm).symm
   refine we_join (!v10) hE [3, 2, 12] rfl (fun _ _ hφ => ask [0] rfl hφ) rfl
 ·
  rintro j_1_12 hE
  try dsimp only
  have hm := hLj_1
  rw [hE] at hm
  refine wc_cond rfl (fun hb12 => ?_) (fun hb12 => ?_)
  ·
   replace hm := iteT hm hb12
   refine wc_keep [] (S' := []) rfl ?_
   refine wc_seq ?_
   refine wc_region ?_
   refine wl_pure rfl rfl rfl (freshS_eq rfl) rfl ?_
   refine wl_nil ?_
   refine we_then ?_
   refine wc_ret ?_
   refine we_then_ret ?_
   have hE := (Option.some.inj hm).symm
   replace hE := hE.symm
   subst hE
   refine ret_one (Hr := []) [] Tryd.results17 (res_tmp rfl) ⟨rfl, rfl, rfl⟩ (fun _ _ hφ => ask [] rfl hφ) rfl rfl (.inl rfl)
  ·
   replace hm := iteF hm hb12
   refine wc_keep [3, 2] (S' := [_,_]) rfl ?_
   refine wc_skip ?_
   refine we_then ?_
   refine wc_seq ?_
   obtain ⟨v17, hc17, hm⟩ := bindO_some hm
   obtain ⟨v22, hc22, hm⟩ := bindO_some hm
   obtain ⟨v29, hc29, hm⟩ := bindO_some hm
   refine wc_draw [0, 1, 2, 3, 5, 6, 7, 8, 10, 11, 12, 13] rfl rfl (fun hok => ?_)
   refine wx_fieldAddr hok 0 rfl rfl rfl (freshS_eq rfl) rfl rfl rfl tF_29_0 ?_
   refine wx_loadH hok 1 1 0 rfl rfl rfl (freshS_eq rfl) rfl rfl rfl rfl (cs := [_]) rfl tS_27 tA_27 rfl rfl ?_
   refine wx_fieldAddr hok 2 rfl rfl rfl (freshS_eq rfl) rfl rfl rfl tF_29_0 ?_
   refine wx_loadH hok 3 0 0 rfl rfl rfl (freshS_eq rfl) rfl rfl rfl rfl (cs := [_]) rfl tS_27 tA_27 rfl rfl ?_
   refine wx_fieldAddr hok 5 rfl rfl rfl (freshS_eq rfl) rfl rfl rfl tF_29_1 ?_
   refine wx_loadH hok 6 1 1 rfl rfl rfl (freshS_eq rfl) rfl rfl rfl rfl (cs := [_]) rfl tS_2 tA_2 rfl rfl ?_
   refine wx_fieldAddr hok 7 rfl rfl rfl (freshS_eq rfl) rfl rfl rfl tF_29_1 ?_
   refine wx_loadH hok 8 0 1 rfl rfl rfl (freshS_eq rfl) rfl rfl rfl rfl (cs := [_]) rfl tS_2 tA_2 rfl rfl ?_
   refine wx_fieldAddr hok 10 rfl rfl rfl (freshS_eq rfl) rfl rfl rfl tF_29_2 ?_
   refine wx_loadH hok 11 1 2 rfl rfl rfl (freshS_eq rfl) rfl rfl rfl rfl (cs := [_]) rfl tS_9 tA_9 rfl rfl ?_
   refine wx_fieldAddr hok 12 rfl rfl rfl (freshS_eq rfl) rfl rfl rfl tF_29_2 ?_
   refine wx_loadH hok 13 0 2 rfl rfl rfl (freshS_eq rfl) rfl rfl rfl rfl (cs := [_]) rfl tS_9 tA_9 rfl rfl ?_
   refine wx_step1 hok 4 rfl rfl rfl rfl ?_
   refine wl_call [] [0, 1] rfl rfl rfl (freshS_eq rfl) rfl rfl fn_30 rfl (w_cmp_Compare_ValueKind_s N a0 a3 _ hc17) (fun _ _ hφ => ask [0] rfl hφ) rfl (H' := [_,_]) rfl ?_
   rintro _ _ _ ⟨rfl, rfl, rfl⟩
   refine wl_nil ?_
   refine we_x [0] [0, 1, 0, 1] rfl rfl ?_
   refine wx_step1 hok 9 rfl rfl rfl rfl ?_
   refine wl_call [] [0, 1] rfl rfl rfl (freshS_eq rfl) rfl rfl fn_31 rfl (w_cmp_Compare_int64_s N a1 a4 _ hc22) (fun _ _ hφ => ask [0] rfl hφ) rfl (H' := [_,_]) rfl ?_
   rintro _ _ _ ⟨rfl, rfl, rfl⟩
   refine wl_nil ?_
   refine we_x [0] [0, 1, 0, 1] rfl rfl ?_
   refine wx_step1 hok 14 rfl rfl rfl rfl ?_
   refine wl_call [] [0, 1] rfl rfl rfl (freshS_eq rfl) rfl rfl fn_32 rfl (sh_Compare a2 a5 ) (fun _ _ hφ => ask [] rfl hφ) rfl (H' := [_,_]) rfl ?_
   rintro _ _ _ ⟨rfl, rfl, rfl⟩
   refine wl_nil ?_
   refine we_x [0] [0, 1, 0, 1] rfl rfl ?_
   refine wx_step1 hok 15 rfl rfl rfl rfl ?_
   refine wl_buildSlice rfl rfl rfl (freshS_eq rfl) rfl tE_62 tS_3 tZ_3 rfl (zs := [.int .i64 0, .int .i64 0, .int .i64 0]) (by kernel_rfl) rfl (out := [_,_,_]) rfl (fun g28 => ?_)
   refine wl_nil ?_
   refine we_x [0] [1, 2, 1, 2, 1, 2] rfl rfl ?_
   refine wx_step1 hok 16 rfl rfl rfl rfl ?_
   refine wl_row (sz := 1) (m := 3) R_i64 ([v17, v22, Lib.compareBytes a2.data.toList a5.data.toList]) 0 rfl (fun F w hφ => ⟨[.int .i64 v17], [.int .i64 v22, .int .i64 (Lib.compareBytes a2.data.toList a5.data.toList)], rfl, rfl, ⟨(), rfl, ask_nil⟩, ⟨[.int .i64 v22], [.int .i64 (Lib.compareBytes a2.data.toList a5.data.toList)], rfl, rfl, ⟨(), rfl, ask_nil⟩, ⟨[.int .i64 (Lib.compareBytes a2.data.toList a5.data.toList)], [], rfl, rfl, ⟨(), rfl, ask_nil⟩, rfl⟩⟩⟩) rfl (by decide) (H' := [_,_,_]) rfl ?_
   refine wl_call [0] [1, 2] rfl rfl rfl (freshS_eq rfl) rfl rfl fn_29 rfl (w_cmp_Or_int_s N (some ⟨g28, 0, none⟩) ([v17, v22, Lib.compareBytes a2.data.toList a5.data.toList].length) 3 [v17, v22, Lib.compareBytes a2.data.toList a5.data.toList] _ hc29) (fun _ _ hφ => ask [0] rfl hφ) rfl (H' := [_,_]) rfl ?_
   rintro _ _ _ ⟨rfl, rfl, rfl⟩
   refine wl_nil ?_
   refine we_x [0] [1, 2, 1, 2, 1, 2] rfl rfl ?_
   refine wx_step1 hok 17 rfl rfl rfl rfl ?_
   refine wl_pure rfl rfl rfl (freshS_eq rfl) rfl ?_
   refine wl_nil ?_
   refine we_x [0] [] rfl rfl ?_
   refine wx_done hok rfl ?_
   refine we_then ?_
   refine wc_keep [4] (S' := [_]) rfl ?_
   refine wc_ret ?_
   have hE := (Option.some.inj hm).symm
   replace hE := hE.symm
   subst hE
   refine ret_one (Hr := []) [] Tryd.results17 (res_tmp rfl) ⟨rfl, rfl, rfl⟩ (fun _ _ hφ => ask [] rfl hφ) rfl rfl (.inl rfl)
set_option maxRecDepth 100000 in
set_option maxHeartbeats 4000000 in
theorem w_ropewalkref01_Compare_s (N : Nat) (a0 : Int) (a1 : Int) (a2 : ByteArray) (a3 : Int) (a4 : Int) (a5 : ByteArray) (o0 : Int) (hm : m_ropewalkref01_Compare N a0 a1 a2 a3 a4 a5 = some o0) : Spec Tryd.prog 18 [.agg #[.int .u8 a0, .int .i64 a1, .string a2], .agg #[.int .u8 a3, .int .i64 a4, .string a5]] [tabF Tryd.prog "internal/strconv.uint64pow10" .u64 Lib.pow10Tab 1 pow10_g] [] (fun v Φr Hr => v = .int .i64 o0 ∧ Φr = [] ∧ Hr = []) := by
 unfold m_ropewalkref01_Compare at hm
 refine spec_of Tryd.func18 rfl Tryd.ntmps18 rfl (S := [_,_]) rfl (fun C => ?_)
 refine wc_seq ?_
 refine wc_region ?_
 refine wl_box rfl rfl rfl (freshS_eq rfl) rfl rfl rfl (fun g2 => ?_)
 refine wl_box rfl rfl rfl (freshS_eq rfl) rfl rfl rfl (fun g3 => ?_)
 refine wl_pure rfl rfl rfl (freshS_eq rfl) rfl ?_
 refine wl_nil ?_
 refine we_then ?_
 refine wc_keep [3, 2] (S' := [_,_]) rfl ?_
 refine wc_seq ?_
 refine wc_seq ?_
 obtain ⟨bj_1, hm, hLj_1⟩ := bindO_some hm
 refine wc_cut (σ := Bool) (fun j_1_12 => bj_1 = j_1_12) (fun j_1_12 => [(3, .pointer (some ⟨g3, 0, none⟩)), (2, .pointer (some ⟨g2, 0, none⟩)), (12, .bool j_1_12)]) (fun j_1_12 => [tabF Tryd.prog "internal/strconv.uint64pow10" .u64 Lib.pow10Tab 1 pow10_g]) (fun j_1_12 => [.blk g3 [.int .u8 a3, .int .i64 a4, .string a5] 29, .blk g2 [.int .u8 a0, .int .i64 a1, .string a2] 29]) ?_ ?_
 ·
  refine wc_region ?_
  refine wl_loadH 1 0 rfl rfl rfl (freshS_eq rfl) rfl rfl rfl (cs := [_,_,_]) rfl tS_29 tA_29 rfl rfl ?_
  obtain ⟨v6, hc6, hm⟩ := bindO_some hm
  refine wl_call [] [0, 1] rfl rfl rfl (freshS_eq rfl) rfl rfl fn_16 rfl (w_ropewalkref01_Right_s N a0 a1 a2 _ hc6) (fun _ _ hφ => ask [0] rfl hφ) rfl (H' := [_,_]) rfl ?_
  rintro _ _ _ ⟨rfl, rfl, rfl⟩
  refine wl_pure rfl rfl rfl (freshS_eq rfl) rfl ?_
  refine wl_pure rfl rfl rfl (freshS_eq rfl) rfl ?_
  refine wl_split (d := 8) (S' := [_,_,_,_,_]) rfl rfl (fun hs8 => ?_) (fun hs8 => ?_)
  ·
   replace hm := iteT hm hs8
   refine wl_off rfl rfl rfl (freshS_eq rfl) ?_
   refine wl_off rfl rfl rfl (freshS_eq rfl) ?_
   refine wl_off rfl rfl rfl (freshS_eq rfl) ?_
   refine wl_pure rfl rfl rfl (freshS_eq rfl) rfl ?_
   refine wl_nil ?_
   have hE := (Option.some.inj hm).symm
   refine we_join true hE [3, 2, 12] rfl (fun _ _ hφ => ask [0] rfl hφ) rfl
  ·
   replace hm := iteF hm hs8
   refine wl_loadH 0 0 rfl rfl rfl (freshS_eq rfl) rfl rfl rfl (cs := [_,_,_]) rfl tS_29 tA_29 rfl rfl ?_
   obtain ⟨v10, hc10, hm⟩ := bindO_some hm
   refine wl_call [] [0, 1] rfl rfl rfl (freshS_eq rfl) rfl rfl fn_16 rfl (w_ropewalkref01_Right_s N a3 a4 a5 _ hc10) (fun _ _ hφ => ask [0] rfl hφ) rfl (H' := [_,_]) rfl ?_
   rintro _ _ _ ⟨rfl, rfl, rfl⟩
   refine wl_pure rfl rfl rfl (freshS_eq rfl) rfl ?_
   refine wl_pure rfl rfl rfl (freshS_eq rfl) rfl ?_
   refine wl_nil ?_
   have hE := (Option.some.inj hm).symm
   refine we_join (!v10) hE [3, 2, 12] rfl (fun _ _ hφ => ask [0] rfl hφ) rfl
 ·
  rintro j_1_12 hE
  try dsimp only
  have hm := hLj_1
  rw [hE] at hm
  refine wc_cond rfl (fun hb12 => ?_) (fun hb12 => ?_)
  ·
   replace hm := iteT hm hb12
   refine wc_keep [] (S' := []) rfl ?_
   refine wc_seq ?_
   refine wc_region ?_
   refine wl_pure rfl rfl rfl (freshS_eq rfl) rfl ?_
   refine wl_nil ?_
   refine we_then ?_
   refine wc_ret ?_
   refine we_then_ret ?_
   have hE := (Option.some.inj hm).symm
   replace hE := hE.symm
   subst hE
   refine ret_one (Hr := []) [] Tryd.results18 (res_tmp rfl) ⟨rfl, rfl, rfl⟩ (fun _ _ hφ => ask [] rfl hφ) rfl rfl (.inl rfl)
  ·
   replace hm := iteF hm hb12
   refine wc_keep [3, 2] (S' := [_,_]) rfl ?_
   refine wc_skip ?_
   refine we_then ?_
   refine wc_seq ?_
   refine wc_block ?_
   refine wc_seq ?_
   obtain ⟨bj_2, hm, hLj_2⟩ := bindO_some hm
   unfold m_ropewalkref01_Compare_C2 at hm
   refine wc_cut (σ := Bool) (fun j_2_13 => bj_2 = j_2_13) (fun j_2_13 => [(3, .pointer (some ⟨g3, 0, none⟩)), (2, .pointer (some ⟨g2, 0, none⟩)), (13, .bool j_2_13)]) (fun j_2_13 => [tabF Tryd.prog "internal/strconv.uint64pow10" .u64 Lib.pow10Tab 1 pow10_g]) (fun j_2_13 => [.blk g3 [.int .u8 a3, .int .i64 a4, .string a5] 29, .blk g2 [.int .u8 a0, .int .i64 a1, .string a2] 29]) ?_ ?_
   ·
    refine wc_region ?_
    refine wl_fieldAddr rfl rfl rfl (freshS_eq rfl) rfl rfl tF_29_0 ?_
    refine wl_loadH 1 0 rfl rfl rfl (freshS_eq rfl) rfl rfl rfl (cs := [_]) rfl tS_27 tA_27 rfl rfl ?_
    refine wl_fieldAddr rfl rfl rfl (freshS_eq rfl) rfl rfl tF_29_0 ?_
    refine wl_loadH 0 0 rfl rfl rfl (freshS_eq rfl) rfl rfl rfl (cs := [_]) rfl tS_27 tA_27 rfl rfl ?_
    refine wl_pure rfl rfl rfl (freshS_eq rfl) rfl ?_
    refine wl_pure rfl rfl rfl (freshS_eq rfl) rfl ?_
    refine wl_split (d := 19) (S' := [_,_,_,_,_,_,_]) rfl rfl (fun hs19 => ?_) (fun hs19 => ?_)
    ·
     replace hm := iteT hm hs19
     refine wl_off rfl rfl rfl (freshS_eq rfl) ?_
     refine wl_off rfl rfl rfl (freshS_eq rfl) ?_
     refine wl_off rfl rfl rfl (freshS_eq rfl) ?_
     refine wl_off rfl rfl rfl (freshS_eq rfl) ?_
     refine wl_off rfl rfl rfl (freshS_eq rfl) ?_
     refine wl_off rfl rfl rfl (freshS_eq rfl) ?_
     refine wl_off rfl rfl rfl (freshS_eq rfl) ?_
     refine wl_off rfl rfl rfl (freshS_eq rfl) ?_
     refine wl_off rfl rfl rfl (freshS_eq rfl) ?_
     refine wl_off rfl rfl rfl (freshS_eq rfl) ?_
     refine wl_off rfl rfl rfl (freshS_eq rfl) ?_
     refine wl_off rfl rfl rfl (freshS_eq rfl) ?_
     refine wl_off rfl rfl rfl (freshS_eq rfl) ?_
     refine wl_off rfl rfl rfl (freshS_eq rfl) ?_
     refine wl_off rfl rfl rfl (freshS_eq rfl) ?_
     refine wl_off rfl rfl rfl (freshS_eq rfl) ?_
     refine wl_off rfl rfl rfl (freshS_eq rfl) ?_
     refine wl_off rfl rfl rfl (freshS_eq rfl) ?_
     refine wl_off rfl rfl rfl (freshS_eq rfl) ?_
     refine wl_off rfl rfl rfl (freshS_eq rfl) ?_
     refine wl_off rfl rfl rfl (freshS_eq rfl) ?_
     refine wl_off rfl rfl rfl (freshS_eq rfl) ?_
     refine wl_off rfl rfl rfl (freshS_eq rfl) ?_
     refine wl_off rfl rfl rfl (freshS_eq rfl) ?_
     refine wl_off rfl rfl rfl (freshS_eq rfl) ?_
     refine wl_off rfl rfl rfl (freshS_eq rfl) ?_
     refine wl_pure rfl rfl rfl (freshS_eq rfl) rfl ?_
     refine wl_pure rfl rfl rfl (freshS_eq rfl) rfl ?_
     refine wl_nil ?_
     have hE := (Option.some.inj hm).symm
     refine we_join true hE [3, 2, 13] rfl (fun _ _ hφ => ask [0] rfl hφ) rfl
    ·
     replace hm := iteF hm hs19
     refine wl_fieldAddr rfl rfl rfl (freshS_eq rfl) rfl rfl tF_29_0 ?_
     refine wl_loadH 1 0 rfl rfl rfl (freshS_eq rfl) rfl rfl rfl (cs := [_]) rfl tS_27 tA_27 rfl rfl ?_
     refine wl_fieldAddr rfl rfl rfl (freshS_eq rfl) rfl rfl tF_29_0 ?_
     refine wl_loadH 0 0 rfl rfl rfl (freshS_eq rfl) rfl rfl rfl (cs := [_]) rfl tS_27 tA_27 rfl rfl ?_
     refine wl_pure rfl rfl rfl (freshS_eq rfl) rfl ?_
     refine wl_pure rfl rfl rfl (freshS_eq rfl) rfl ?_
     refine wl_split (d := 25) (S' := [_,_,_,_,_,_,_,_,_,_,_,_,_]) rfl rfl (fun hs25 => ?_) (fun hs25 => ?_)
     ·
      replace hm := iteT hm hs25
      refine wl_fieldAddr rfl rfl rfl (freshS_eq rfl) rfl rfl tF_29_1 ?_
      refine wl_loadH 1 1 rfl rfl rfl (freshS_eq rfl) rfl rfl rfl (cs := [_]) rfl tS_2 tA_2 rfl rfl ?_
      refine wl_fieldAddr rfl rfl rfl (freshS_eq rfl) rfl rfl tF_29_1 ?_
      refine wl_loadH 0 1 rfl rfl rfl (freshS_eq rfl) rfl rfl rfl (cs := [_]) rfl tS_2 tA_2 rfl rfl ?_
      refine wl_pure rfl rfl rfl (freshS_eq rfl) rfl ?_
      refine wl_pure rfl rfl rfl (freshS_eq rfl) rfl ?_
      refine wl_split (d := 31) (S' := [_,_,_,_,_,_,_,_,_,_,_,_,_,_,_,_,_,_,_]) rfl rfl (fun hs31 => ?_) (fun hs31 => ?_)
      ·
       replace hm := iteT hm hs31
       refine wl_off rfl rfl rfl (freshS_eq rfl) ?_
       refine wl_off rfl rfl rfl (freshS_eq rfl) ?_
       refine wl_off rfl rfl rfl (freshS_eq rfl) ?_
       refine wl_off rfl rfl rfl (freshS_eq rfl) ?_
       refine wl_off rfl rfl rfl (freshS_eq rfl) ?_
       refine wl_off rfl rfl rfl (freshS_eq rfl) ?_
       refine wl_off rfl rfl rfl (freshS_eq rfl) ?_
       refine wl_off rfl rfl rfl (freshS_eq rfl) ?_
       refine wl_off rfl rfl rfl (freshS_eq rfl) ?_
       refine wl_off rfl rfl rfl (freshS_eq rfl) ?_
       refine wl_off rfl rfl rfl (freshS_eq rfl) ?_
       refine wl_off rfl rfl rfl (freshS_eq rfl) ?_
       refine wl_pure rfl rfl rfl (freshS_eq rfl) rfl ?_
       refine wl_pure rfl rfl rfl (freshS_eq rfl) rfl ?_
       refine wl_pure rfl rfl rfl (freshS_eq rfl) rfl ?_
       refine wl_pure rfl rfl rfl (freshS_eq rfl) rfl ?_
       refine wl_nil ?_
       have hE := (Option.some.inj hm).symm
       refine we_join true hE [3, 2, 13] rfl (fun _ _ hφ => ask [0] rfl hφ) rfl
      ·
       replace hm := iteF hm hs31
       refine wl_fieldAddr rfl rfl rfl (freshS_eq rfl) rfl rfl tF_29_1 ?_
       refine wl_loadH 1 1 rfl rfl rfl (freshS_eq rfl) rfl rfl rfl (cs := [_]) rfl tS_2 tA_2 rfl rfl ?_
       refine wl_fieldAddr rfl rfl rfl (freshS_eq rfl) rfl rfl tF_29_1 ?_
       refine wl_loadH 0 1 rfl rfl rfl (freshS_eq rfl) rfl rfl rfl (cs := [_]) rfl tS_2 tA_2 rfl rfl ?_
       refine wl_pure rfl rfl rfl (freshS_eq rfl) rfl ?_
       refine wl_pure rfl rfl rfl (freshS_eq rfl) rfl ?_
       refine wl_split (d := 37) (S' := [_,_,_,_,_,_,_,_,_,_,_,_,_,_,_,_,_,_,_,_,_,_,_,_,_]) rfl rfl (fun hs37 => ?_) (fun hs37 => ?_)
       ·
        replace hm := iteT hm hs37
        refine wl_fieldAddr rfl rfl rfl (freshS_eq rfl) rfl rfl tF_29_2 ?_
        refine wl_loadH 1 2 rfl rfl rfl (freshS_eq rfl) rfl rfl rfl (cs := [_]) rfl tS_9 tA_9 rfl rfl ?_
        refine wl_fieldAddr rfl rfl rfl (freshS_eq rfl) rfl rfl tF_29_2 ?_
        refine wl_loadH 0 2 rfl rfl rfl (freshS_eq rfl) rfl rfl rfl (cs := [_]) rfl tS_9 tA_9 rfl rfl ?_
        refine wl_bin rfl rfl rfl (freshS_eq rfl) rfl rfl rfl run_strLss ?_
        refine wl_pure rfl rfl rfl (freshS_eq rfl) rfl ?_
        refine wl_pure rfl rfl rfl (freshS_eq rfl) rfl ?_
        refine wl_pure rfl rfl rfl (freshS_eq rfl) rfl ?_
        refine wl_pure rfl rfl rfl (freshS_eq rfl) rfl ?_
        refine wl_pure rfl rfl rfl (freshS_eq rfl) rfl ?_
        refine wl_nil ?_
        have hE := (Option.some.inj hm).symm
        refine we_join (Op.bytesLess a2.toList a5.toList) hE [3, 2, 13] rfl (fun _ _ hφ => ask [0] rfl hφ) rfl
       ·
        replace hm := iteF hm hs37
        refine wl_off rfl rfl rfl (freshS_eq rfl) ?_
        refine wl_off rfl rfl rfl (freshS_eq rfl) ?_
        refine wl_off rfl rfl rfl (freshS_eq rfl) ?_
        refine wl_off rfl rfl rfl (freshS_eq rfl) ?_
        refine wl_off rfl rfl rfl (freshS_eq rfl) ?_
        refine wl_pure rfl rfl rfl (freshS_eq rfl) rfl ?_
        refine wl_pure rfl rfl rfl (freshS_eq rfl) rfl ?_
        refine wl_pure rfl rfl rfl (freshS_eq rfl) rfl ?_
        refine wl_pure rfl rfl rfl (freshS_eq rfl) rfl ?_
        refine wl_pure rfl rfl rfl (freshS_eq rfl) rfl ?_
        refine wl_nil ?_
        have hE := (Option.some.inj hm).symm
        refine we_join false hE [3, 2, 13] rfl (fun _ _ hφ => ask [0] rfl hφ) rfl
     ·
      replace hm := iteF hm hs25
      refine wl_off rfl rfl rfl (freshS_eq rfl) ?_
      refine wl_off rfl rfl rfl (freshS_eq rfl) ?_
      refine wl_off rfl rfl rfl (freshS_eq rfl) ?_
      refine wl_off rfl rfl rfl (freshS_eq rfl) ?_
      refine wl_off rfl rfl rfl (freshS_eq rfl) ?_
      refine wl_off rfl rfl rfl (freshS_eq rfl) ?_
      refine wl_off rfl rfl rfl (freshS_eq rfl) ?_
      refine wl_off rfl rfl rfl (freshS_eq rfl) ?_
      refine wl_off rfl rfl rfl (freshS_eq rfl) ?_
      refine wl_off rfl rfl rfl (freshS_eq rfl) ?_
      refine wl_off rfl rfl rfl (freshS_eq rfl) ?_
      refine wl_off rfl rfl rfl (freshS_eq rfl) ?_
      refine wl_off rfl rfl rfl (freshS_eq rfl) ?_
      refine wl_off rfl rfl rfl (freshS_eq rfl) ?_
      refine wl_off rfl rfl rfl (freshS_eq rfl) ?_
      refine wl_off rfl rfl rfl (freshS_eq rfl) ?_
      refine wl_off rfl rfl rfl (freshS_eq rfl) ?_
      refine wl_off rfl rfl rfl (freshS_eq rfl) ?_
      refine wl_off rfl rfl rfl (freshS_eq rfl) ?_
      refine wl_pure rfl rfl rfl (freshS_eq rfl) rfl ?_
      refine wl_pure rfl rfl rfl (freshS_eq rfl) rfl ?_
      refine wl_pure rfl rfl rfl (freshS_eq rfl) rfl ?_
      refine wl_nil ?_
      have hE := (Option.some.inj hm).symm
      refine we_join false hE [3, 2, 13] rfl (fun _ _ hφ => ask [0] rfl hφ) rfl
   ·
    rintro j_2_13 hE
    try dsimp only
    have hm := hLj_2
    rw [hE] at hm
    refine wc_cond rfl (fun hb13 => ?_) (fun hb13 => ?_)
    ·
     replace hm := iteT hm hb13
     refine wc_keep [] (S' := []) rfl ?_
     refine wc_seq ?_
     refine wc_region ?_
     refine wl_pure rfl rfl rfl (freshS_eq rfl) rfl ?_
     refine wl_nil ?_
     refine we_then ?_
     refine wc_ret ?_
     refine we_block_ret ?_
     refine we_then_ret ?_
     have hE := (Option.some.inj hm).symm
     replace hE := hE.symm
     subst hE
     refine ret_one (Hr := []) [] Tryd.results18 (res_tmp rfl) ⟨rfl, rfl, rfl⟩ (fun _ _ hφ => ask [] rfl hφ) rfl rfl (.inl rfl)
    ·
     replace hm := iteF hm hb13
     refine wc_keep [3, 2] (S' := [_,_]) rfl ?_
     refine wc_seq ?_
     refine wc_region ?_
     refine wl_loadH 1 0 rfl rfl rfl (freshS_eq rfl) rfl rfl rfl (cs := [_,_,_]) rfl tS_29 tA_29 rfl rfl ?_
     refine wl_loadH 0 0 rfl rfl rfl (freshS_eq rfl) rfl rfl rfl (cs := [_,_,_]) rfl tS_29 tA_29 rfl rfl ?_
     refine wl_bin rfl rfl rfl (freshS_eq rfl) rfl rfl rfl (eqlV _ _ (⟨a0, a1, a2⟩ : V) (⟨a3, a4, a5⟩ : V)) ?_
     refine wl_pure rfl rfl rfl (freshS_eq rfl) rfl ?_
     refine wl_nil ?_
     refine we_then ?_
     refine wc_keep [47] (S' := [_]) rfl ?_
     refine wc_cond rfl (fun hb47 => ?_) (fun hb47 => ?_)
     ·
      replace hm := iteT hm hb47
      refine wc_keep [] (S' := []) rfl ?_
      refine wc_seq ?_
      refine wc_region ?_
      refine wl_pure rfl rfl rfl (freshS_eq rfl) rfl ?_
      refine wl_nil ?_
      refine we_then ?_
      refine wc_ret ?_
      refine we_block_ret ?_
      refine we_then_ret ?_
      have hE := (Option.some.inj hm).symm
      replace hE := hE.symm
      subst hE
      refine ret_one (Hr := []) [] Tryd.results18 (res_tmp rfl) ⟨rfl, rfl, rfl⟩ (fun _ _ hφ => ask [] rfl hφ) rfl rfl (.inl rfl)
     ·
      replace hm := iteF hm hb47
      refine wc_keep [] (S' := []) rfl ?_
      refine wc_skip ?_
      refine we_block_normal ?_
      refine we_then ?_
      refine wc_seq ?_
      refine wc_region ?_
      refine wl_pure rfl rfl rfl (freshS_eq rfl) rfl ?_
      refine wl_nil ?_
      refine we_then ?_
      refine wc_ret ?_
      have hE := (Option.some.inj hm).symm
      replace hE := hE.symm
      subst hE
      refine ret_one (Hr := []) [] Tryd.results18 (res_tmp rfl) ⟨rfl, rfl, rfl⟩ (fun _ _ hφ => ask [] rfl hφ) rfl rfl (.inl rfl)
set_option maxRecDepth 100000 in
set_option maxHeartbeats 4000000 in
theorem w_ropewalkref01_digits_s : ∀ (N : Nat) (a0 : Int) (o0 : ByteArray) (hm : m_ropewalkref01_digits N a0 = some o0), Spec Tryd.prog 34 [.int .i64 a0] [tabF Tryd.prog "internal/strconv.uint64pow10" .u64 Lib.pow10Tab 1 pow10_g] [] (fun v Φr Hr => v = .string o0 ∧ Φr = [] ∧ Hr = []) := by
 intro N
 induction N with
 | zero => intro a0 o0 hm; cases hm
 | succ N ih =>
  intro a0 o0 hm
  unfold m_ropewalkref01_digits at hm
  refine spec_of Tryd.func34 rfl Tryd.ntmps34 rfl (S := [_]) rfl (fun C => ?_)
  refine wc_seq ?_
  refine wc_region ?_
  refine wl_pure rfl rfl rfl (freshS_eq rfl) rfl ?_
  refine wl_nil ?_
  refine we_then ?_
  refine wc_keep [0] (S' := [_]) rfl ?_
  refine wc_seq ?_
  refine wc_region ?_
  refine wl_pure rfl rfl rfl (freshS_eq rfl) rfl ?_
  refine wl_bin rfl rfl rfl (freshS_eq rfl) rfl rfl rfl (run_rem (by decide)) ?_
  refine wl_pure rfl rfl rfl (freshS_eq rfl) rfl ?_
  obtain ⟨hg6, hm⟩ := gd_some hm
  refine wl_as (d := 6) (v' := .int .i64 (48 - (Int.tmod a0 10))) (S' := [_,_,_]) rfl rfl (i64_in hg6) ?_
  refine wl_reck rfl rfl rfl (freshS_eq rfl) (rk_conv rfl rfl tI_2 tI_5) ?_
  refine wl_buildSlice rfl rfl rfl (freshS_eq rfl) rfl tE_65 tS_5 tZ_5 rfl (zs := [.int .u8 0]) (by kernel_rfl) rfl (out := [_]) rfl (fun g8 => ?_)
  refine wl_row (sz := 1) (m := 1) R_u8 ([IntKind.wrap .u8 (48 - (Int.tmod a0 10))]) 0 rfl (fun F w hφ => ⟨[.int .u8 (IntKind.wrap .u8 (48 - (Int.tmod a0 10)))], [], rfl, rfl, ⟨(), rfl, ask_nil⟩, rfl⟩) rfl (by decide) (H' := [_]) rfl ?_
  refine wl_freeze 0 rfl (H' := []) rfl ?_
  refine wl_fact (.sli 1 R_u8 (some ⟨g8, 0, none⟩) 1 ([IntKind.wrap .u8 (48 - (Int.tmod a0 10))])) (fun F w hφ => own_sli (hφ _ (mem_at (k := 0) rfl))) ?_
  refine wl_bytesStr 0 rfl rfl rfl (freshS_eq rfl) rfl rfl rfl tD_65 tD_5 tD_9 (fun _ _ _ _ h => by obtain ⟨_, h, _⟩ := h; exact h) ?_
  refine wl_pure rfl rfl rfl (freshS_eq rfl) rfl ?_
  refine wl_nil ?_
  refine we_then ?_
  refine wc_keep [3, 0] (S' := [_,_]) rfl ?_
  refine wc_seq ?_
  refine wc_seq ?_
  refine wc_region ?_
  refine wl_pure rfl rfl rfl (freshS_eq rfl) rfl ?_
  refine wl_pure rfl rfl rfl (freshS_eq rfl) rfl ?_
  refine wl_nil ?_
  refine we_then ?_
  refine wc_keep [11, 3, 0] (S' := [_,_,_]) rfl ?_
  refine wc_cond rfl (fun hb11 => ?_) (fun hb11 => ?_)
  ·
   replace hm := iteT hm hb11
   refine wc_keep [3] (S' := [_]) rfl ?_
   refine wc_seq ?_
   refine wc_region ?_
   refine wl_pure rfl rfl rfl (freshS_eq rfl) rfl ?_
   refine wl_pure rfl rfl rfl (freshS_eq rfl) rfl ?_
   refine wl_nil ?_
   refine we_then ?_
   refine wc_keep [2] (S' := [_]) rfl ?_
   refine wc_ret ?_
   refine we_then_ret ?_
   have hE := (Option.some.inj hm).symm
   replace hE := hE.symm
   subst hE
   refine ret_one (Hr := []) [] Tryd.results34 (res_tmp rfl) ⟨rfl, rfl, rfl⟩ (fun _ _ hφ => ask [] rfl hφ) rfl rfl (.inl rfl)
  ·
   replace hm := iteF hm hb11
   refine wc_keep [3, 0] (S' := [_,_]) rfl ?_
   refine wc_skip ?_
   refine we_then ?_
   refine wc_seq ?_
   refine wc_region ?_
   refine wl_pure rfl rfl rfl (freshS_eq rfl) rfl ?_
   refine wl_bin rfl rfl rfl (freshS_eq rfl) rfl rfl rfl (run_quo (by decide)) ?_
   obtain ⟨v15, hc15, hm⟩ := bindO_some hm
   refine wl_call [] [] rfl rfl rfl (freshS_eq rfl) rfl rfl fn_34 rfl (ih (IntKind.wrap .i64 (Int.tdiv a0 10)) _ hc15) (fun _ _ hφ => ask [2] rfl hφ) rfl (H' := []) rfl ?_
   rintro _ _ _ ⟨rfl, rfl, rfl⟩
   refine wl_pure rfl rfl rfl (freshS_eq rfl) rfl ?_
   obtain ⟨hg17, hm⟩ := gd_some hm
   refine wl_bin rfl rfl rfl (freshS_eq rfl) rfl rfl rfl (run_strAdd hg17) ?_
   refine wl_pure rfl rfl rfl (freshS_eq rfl) rfl ?_
   refine wl_nil ?_
   refine we_then ?_
   refine wc_keep [2] (S' := [_]) rfl ?_
   refine wc_ret ?_
   have hE := (Option.some.inj hm).symm
   replace hE := hE.symm
   subst hE
   refine ret_one (Hr := []) [] Tryd.results34 (res_tmp rfl) ⟨rfl, rfl, rfl⟩ (fun _ _ hφ => ask [] rfl hφ) rfl rfl (.inl rfl)
set_option maxRecDepth 100000 in
set_option maxHeartbeats 4000000 in
theorem w_ropewalkref01_Text_s (N : Nat) (a0 : Int) (a1 : Int) (a2 : ByteArray) (o0 : ByteArray) (hm : m_ropewalkref01_Text N a0 a1 a2 = some o0) : Spec Tryd.prog 20 [.agg #[.int .u8 a0, .int .i64 a1, .string a2]] [tabF Tryd.prog "internal/strconv.uint64pow10" .u64 Lib.pow10Tab 1 pow10_g] [] (fun v Φr Hr => v = .string o0 ∧ Φr = [] ∧ Hr = []) := by
 unfold m_ropewalkref01_Text at hm
 refine spec_of Tryd.func20 rfl Tryd.ntmps20 rfl (S := [_]) rfl (fun C => ?_)
 refine wc_seq ?_
 refine wc_region ?_
 refine wl_box rfl rfl rfl (freshS_eq rfl) rfl rfl rfl (fun g1 => ?_)
 refine wl_pure rfl rfl rfl (freshS_eq rfl) rfl ?_
 refine wl_nil ?_
 refine we_then ?_
 refine wc_keep [1] (S' := [_]) rfl ?_
 refine wc_seq ?_
 refine wc_block ?_
 refine wc_seq ?_
 refine wc_region ?_
 refine wl_loadH 0 0 rfl rfl rfl (freshS_eq rfl) rfl rfl rfl (cs := [_,_,_]) rfl tS_29 tA_29 rfl rfl ?_
 obtain ⟨v5, hc5, hm⟩ := bindO_some hm
 refine wl_call [] [0] rfl rfl rfl (freshS_eq rfl) rfl rfl fn_16 rfl (w_ropewalkref01_Right_s N a0 a1 a2 _ hc5) (fun _ _ hφ => ask [0] rfl hφ) rfl (H' := [_]) rfl ?_
 rintro _ _ _ ⟨rfl, rfl, rfl⟩
 refine wl_pure rfl rfl rfl (freshS_eq rfl) rfl ?_
 refine wl_pure rfl rfl rfl (freshS_eq rfl) rfl ?_
 refine wl_nil ?_
 refine we_then ?_
 refine wc_keep [3, 1] (S' := [_,_]) rfl ?_
 refine wc_cond rfl (fun hb3 => ?_) (fun hb3 => ?_)
 ·
  replace hm := iteT hm hb3
  refine wc_keep [] (S' := []) rfl ?_
  refine wc_seq ?_
  refine wc_region ?_
  refine wl_pure rfl rfl rfl (freshS_eq rfl) rfl ?_
  refine wl_nil ?_
  refine we_then ?_
  refine wc_ret ?_
  refine we_block_ret ?_
  refine we_then_ret ?_
  have hE := (Option.some.inj hm).symm
  replace hE := hE.symm
  subst hE
  refine ret_one (Hr := []) [] Tryd.results20 (res_tmp rfl) ⟨rfl, rfl, rfl⟩ (fun _ _ hφ => ask [] rfl hφ) rfl rfl (.inl rfl)
 ·
  replace hm := iteF hm hb3
  refine wc_keep [1] (S' := [_]) rfl ?_
  refine wc_seq ?_
  refine wc_region ?_
  refine wl_fieldAddr rfl rfl rfl (freshS_eq rfl) rfl rfl tF_29_0 ?_
  refine wl_loadH 0 0 rfl rfl rfl (freshS_eq rfl) rfl rfl rfl (cs := [_]) rfl tS_27 tA_27 rfl rfl ?_
  refine wl_pure rfl rfl rfl (freshS_eq rfl) rfl ?_
  refine wl_pure rfl rfl rfl (freshS_eq rfl) rfl ?_
  refine wl_nil ?_
  refine we_then ?_
  refine wc_keep [7, 1] (S' := [_,_]) rfl ?_
  refine wc_cond rfl (fun hb7 => ?_) (fun hb7 => ?_)
  ·
   replace hm := iteT hm hb7
   refine wc_keep [1] (S' := [_]) rfl ?_
   refine wc_seq ?_
   refine wc_region ?_
   refine wl_fieldAddr rfl rfl rfl (freshS_eq rfl) rfl rfl tF_29_2 ?_
   refine wl_loadH 0 2 rfl rfl rfl (freshS_eq rfl) rfl rfl rfl (cs := [_]) rfl tS_9 tA_9 rfl rfl ?_
   obtain ⟨hg13, hm⟩ := gd_some hm
   refine wl_bin rfl rfl rfl (freshS_eq rfl) rfl rfl rfl (run_strAdd hg13) ?_
   refine wl_pure rfl rfl rfl (freshS_eq rfl) rfl ?_
   refine wl_nil ?_
   refine we_then ?_
   refine wc_keep [2] (S' := [_]) rfl ?_
   refine wc_ret ?_
   refine we_block_ret ?_
   refine we_then_ret ?_
   have hE := (Option.some.inj hm).symm
   replace hE := hE.symm
   subst hE
   refine ret_one (Hr := []) [] Tryd.results20 (res_tmp rfl) ⟨rfl, rfl, rfl⟩ (fun _ _ hφ => ask [] rfl hφ) rfl rfl (.inl rfl)
  ·
   replace hm := iteF hm hb7
   refine wc_keep [1] (S' := [_]) rfl ?_
   refine wc_seq ?_
   refine wc_region ?_
   refine wl_fieldAddr rfl rfl rfl (freshS_eq rfl) rfl rfl tF_29_1 ?_
   refine wl_loadH 0 1 rfl rfl rfl (freshS_eq rfl) rfl rfl rfl (cs := [_]) rfl tS_2 tA_2 rfl rfl ?_
   refine wl_pure rfl rfl rfl (freshS_eq rfl) rfl ?_
   refine wl_pure rfl rfl rfl (freshS_eq rfl) rfl ?_
   refine wl_nil ?_
   refine we_then ?_
   refine wc_keep [14, 1] (S' := [_,_]) rfl ?_
   refine wc_cond rfl (fun hb14 => ?_) (fun hb14 => ?_)
   ·
    replace hm := iteT hm hb14
    refine wc_keep [1] (S' := [_]) rfl ?_
    refine wc_seq ?_
    refine wc_region ?_
    refine wl_fieldAddr rfl rfl rfl (freshS_eq rfl) rfl rfl tF_29_1 ?_
    refine wl_loadH 0 1 rfl rfl rfl (freshS_eq rfl) rfl rfl rfl (cs := [_]) rfl tS_2 tA_2 rfl rfl ?_
    obtain ⟨v20, hc20, hm⟩ := bindO_some hm
    refine wl_call [] [0] rfl rfl rfl (freshS_eq rfl) rfl rfl fn_34 rfl (w_ropewalkref01_digits_s N a1 _ hc20) (fun _ _ hφ => ask [0] rfl hφ) rfl (H' := [_]) rfl ?_
    rintro _ _ _ ⟨rfl, rfl, rfl⟩
    obtain ⟨hg21, hm⟩ := gd_some hm
    refine wl_bin rfl rfl rfl (freshS_eq rfl) rfl rfl rfl (run_strAdd hg21) ?_
    refine wl_pure rfl rfl rfl (freshS_eq rfl) rfl ?_
    refine wl_nil ?_
    refine we_then ?_
    refine wc_keep [2] (S' := [_]) rfl ?_
    refine wc_ret ?_
    refine we_block_ret ?_
    refine we_then_ret ?_
    have hE := (Option.some.inj hm).symm
    replace hE := hE.symm
    subst hE
    refine ret_one (Hr := []) [] Tryd.results20 (res_tmp rfl) ⟨rfl, rfl, rfl⟩ (fun _ _ hφ => ask [] rfl hφ) rfl rfl (.inl rfl)
   ·
    replace hm := iteF hm hb14
    refine wc_keep [1] (S' := [_]) rfl ?_
    refine wc_skip ?_
    refine we_block_normal ?_
    refine we_then ?_
    refine wc_seq ?_
    refine wc_region ?_
    refine wl_fieldAddr rfl rfl rfl (freshS_eq rfl) rfl rfl tF_29_1 ?_
    refine wl_loadH 0 1 rfl rfl rfl (freshS_eq rfl) rfl rfl rfl (cs := [_]) rfl tS_2 tA_2 rfl rfl ?_
    refine wl_reck rfl rfl rfl (freshS_eq rfl) (rk_neg rfl rfl) ?_
    obtain ⟨hg24, hm⟩ := gd_some hm
    refine wl_as (d := 24) (v' := .int .i64 (0 - a1)) (S' := [_,_,_]) rfl rfl (i64_in hg24) ?_
    obtain ⟨v25, hc25, hm⟩ := bindO_some hm
    refine wl_call [] [0] rfl rfl rfl (freshS_eq rfl) rfl rfl fn_34 rfl (w_ropewalkref01_digits_s N (0 - a1) _ hc25) (fun _ _ hφ => ask [0] rfl hφ) rfl (H' := [_]) rfl ?_
    rintro _ _ _ ⟨rfl, rfl, rfl⟩
    refine wl_pure rfl rfl rfl (freshS_eq rfl) rfl ?_
    refine wl_nil ?_
    refine we_then ?_
    refine wc_keep [2] (S' := [_]) rfl ?_
    refine wc_ret ?_
    have hE := (Option.some.inj hm).symm
    replace hE := hE.symm
    subst hE
    refine ret_one (Hr := []) [] Tryd.results20 (res_tmp rfl) ⟨rfl, rfl, rfl⟩ (fun _ _ hφ => ask [] rfl hφ) rfl rfl (.inl rfl)
set_option maxRecDepth 100000 in
set_option maxHeartbeats 4000000 in
theorem w_ropewalkref01_Truth_s (N : Nat) (a0 : Bool) (o0 : Int) (hm : m_ropewalkref01_Truth N a0 = some o0) : Spec Tryd.prog 22 [.bool a0] [tabF Tryd.prog "internal/strconv.uint64pow10" .u64 Lib.pow10Tab 1 pow10_g] [] (fun v Φr Hr => v = .agg #[.int .u8 1, .int .i64 o0, .string ((⟨#[]⟩ : ByteArray))] ∧ Φr = [] ∧ Hr = []) := by
 unfold m_ropewalkref01_Truth at hm
 refine spec_of Tryd.func22 rfl Tryd.ntmps22 rfl (S := [_]) rfl (fun C => ?_)
 refine wc_seq ?_
 refine wc_region ?_
 refine wl_alloc rfl rfl rfl (freshS_eq rfl) rfl tZ_29 rfl (fun g2 => ?_)
 refine wl_nil ?_
 refine we_then ?_
 refine wc_seq ?_
 refine wc_seq ?_
 refine wc_region ?_
 refine wl_pure rfl rfl rfl (freshS_eq rfl) rfl ?_
 refine wl_nil ?_
 refine we_then ?_
 refine wc_keep [3, 2] (S' := [_,_]) rfl ?_
 refine wc_cond rfl (fun hb3 => ?_) (fun hb3 => ?_)
 ·
  replace hm := iteT hm hb3
  refine wc_keep [2] (S' := [_]) rfl ?_
  refine wc_seq ?_
  refine wc_region ?_
  obtain ⟨_, hc4, hm⟩ := bindO_some hm
  try dsimp only at hm
  refine wl_call [] [0] rfl rfl rfl (freshS_eq rfl) rfl rfl fn_14 rfl (w_ropewalkref01_Number_s N 1 hc4) (fun _ _ hφ => ask [0] rfl hφ) rfl (H' := [_]) rfl ?_
  rintro _ _ _ ⟨rfl, rfl, rfl⟩
  refine wl_store 0 0 rfl rfl rfl rfl rfl rfl rfl tS_29 rfl rfl rfl (all' := [_,_,_]) rfl (H' := [_]) rfl ?_
  refine wl_nil ?_
  refine we_then ?_
  refine wc_keep [2] (S' := [_]) rfl ?_
  refine wc_ret ?_
  refine we_then_ret ?_
  have hE := (Option.some.inj hm).symm
  replace hE := hE.symm
  subst hE
  refine ret_one (Hr := []) [] Tryd.results22 (res_cell 0 rfl rfl tS_29 tA_29 rfl rfl) ⟨rfl, rfl, rfl⟩ (fun _ _ hφ => ask [] rfl hφ) rfl rfl (.inl rfl)
 ·
  replace hm := iteF hm hb3
  refine wc_keep [2] (S' := [_]) rfl ?_
  refine wc_skip ?_
  refine we_then ?_
  refine wc_seq ?_
  refine wc_region ?_
  obtain ⟨_, hc5, hm⟩ := bindO_some hm
  try dsimp only at hm
  refine wl_call [] [0] rfl rfl rfl (freshS_eq rfl) rfl rfl fn_14 rfl (w_ropewalkref01_Number_s N 0 hc5) (fun _ _ hφ => ask [0] rfl hφ) rfl (H' := [_]) rfl ?_
  rintro _ _ _ ⟨rfl, rfl, rfl⟩
  refine wl_store 0 0 rfl rfl rfl rfl rfl rfl rfl tS_29 rfl rfl rfl (all' := [_,_,_]) rfl (H' := [_]) rfl ?_
  refine wl_nil ?_
  refine we_then ?_
  refine wc_keep [2] (S' := [_]) rfl ?_
  refine wc_ret ?_
  have hE := (Option.some.inj hm).symm
  replace hE := hE.symm
  subst hE
  refine ret_one (Hr := []) [] Tryd.results22 (res_cell 0 rfl rfl tS_29 tA_29 rfl rfl) ⟨rfl, rfl, rfl⟩ (fun _ _ hφ => ask [] rfl hφ) rfl rfl (.inl rfl)
set_option maxRecDepth 100000 in
set_option maxHeartbeats 4000000 in
theorem w_ropewalklaw01_ValueTells_s (N : Nat) (a0 : Int) (a1 : Int) (a2 : ByteArray) (a3 : Int) (a4 : Int) (a5 : ByteArray) (o0 : Bool) (hm : m_ropewalklaw01_ValueTells N a0 a1 a2 a3 a4 a5 = some o0) : Spec Tryd.prog 6 [.agg #[.int .u8 a0, .int .i64 a1, .string a2], .agg #[.int .u8 a3, .int .i64 a4, .string a5]] [tabF Tryd.prog "internal/strconv.uint64pow10" .u64 Lib.pow10Tab 1 pow10_g] [] (fun v Φr Hr => v = .bool o0 ∧ Φr = [] ∧ Hr = []) := by
 unfold m_ropewalklaw01_ValueTells at hm
 refine spec_of Tryd.func6 rfl Tryd.ntmps6 rfl (S := [_,_]) rfl (fun C => ?_)
 refine wc_seq ?_
 refine wc_region ?_
 refine wl_box rfl rfl rfl (freshS_eq rfl) rfl rfl rfl (fun g2 => ?_)
 refine wl_box rfl rfl rfl (freshS_eq rfl) rfl rfl rfl (fun g3 => ?_)
 refine wl_pure rfl rfl rfl (freshS_eq rfl) rfl ?_
 refine wl_nil ?_
 refine we_then ?_
 refine wc_keep [3, 2] (S' := [_,_]) rfl ?_
 refine wc_seq ?_
 refine wc_seq ?_
 refine wc_region ?_
 obtain ⟨v5, hc5, hm⟩ := bindO_some hm
 refine wl_call [] [0, 1] rfl rfl rfl (freshS_eq rfl) rfl rfl fn_8 rfl (w_ropewalklaw01_awake_s N _ hc5) (fun _ _ hφ => ask [0] rfl hφ) rfl (H' := [_,_]) rfl ?_
 rintro _ _ _ ⟨rfl, rfl, rfl⟩
 refine wl_pure rfl rfl rfl (freshS_eq rfl) rfl ?_
 refine wl_nil ?_
 refine we_then ?_
 refine wc_keep [6, 3, 2] (S' := [_,_,_]) rfl ?_
 refine wc_cond rfl (fun hb6 => ?_) (fun hb6 => ?_)
 ·
  replace hm := iteT hm hb6
  refine wc_keep [] (S' := []) rfl ?_
  refine wc_seq ?_
  refine wc_region ?_
  refine wl_pure rfl rfl rfl (freshS_eq rfl) rfl ?_
  refine wl_nil ?_
  refine we_then ?_
  refine wc_ret ?_
  refine we_then_ret ?_
  have hE := (Option.some.inj hm).symm
  replace hE := hE.symm
  subst hE
  refine ret_one (Hr := []) [] Tryd.results6 (res_tmp rfl) ⟨rfl, rfl, rfl⟩ (fun _ _ hφ => ask [] rfl hφ) rfl rfl (.inl rfl)
 ·
  replace hm := iteF hm hb6
  refine wc_keep [3, 2] (S' := [_,_]) rfl ?_
  refine wc_skip ?_
  refine we_then ?_
  refine wc_seq ?_
  refine wc_seq ?_
  refine wc_region ?_
  refine wl_loadH 1 0 rfl rfl rfl (freshS_eq rfl) rfl rfl rfl (cs := [_,_,_]) rfl tS_29 tA_29 rfl rfl ?_
  refine wl_loadH 0 0 rfl rfl rfl (freshS_eq rfl) rfl rfl rfl (cs := [_,_,_]) rfl tS_29 tA_29 rfl rfl ?_
  refine wl_buildSlice rfl rfl rfl (freshS_eq rfl) rfl tE_23 tS_29 tZ_29 rfl (zs := [.int .u8 0, .int .i64 0, .string ((⟨#[]⟩ : ByteArray)), .int .u8 0, .int .i64 0, .string ((⟨#[]⟩ : ByteArray))]) (by kernel_rfl) rfl (out := [_,_,_,_,_,_]) rfl (fun g9 => ?_)
  refine wl_row (sz := 3) (m := 2) R_V ([(⟨a0, a1, a2⟩ : V), (⟨a3, a4, a5⟩ : V)]) 0 rfl (fun F w hφ => ⟨[.int .u8 a0, .int .i64 a1, .string a2], [.int .u8 a3, .int .i64 a4, .string a5], rfl, rfl, ⟨(), rfl, ask_nil⟩, ⟨[.int .u8 a3, .int .i64 a4, .string a5], [], rfl, rfl, ⟨(), rfl, ask_nil⟩, rfl⟩⟩) rfl (by decide) (H' := [_,_,_]) rfl ?_
  obtain ⟨v10, hc10, hm⟩ := bindO_some hm
  refine wl_call [0] [1, 2] rfl rfl rfl (freshS_eq rfl) rfl rfl fn_9 rfl (w_ropewalklaw01_light_s N (some ⟨g9, 0, none⟩) ([(⟨a0, a1, a2⟩ : V), (⟨a3, a4, a5⟩ : V)].length) 2 [(⟨a0, a1, a2⟩ : V), (⟨a3, a4, a5⟩ : V)] _ hc10) (fun _ _ hφ => ask [0] rfl hφ) rfl (H' := [_,_]) rfl ?_
  rintro _ _ _ ⟨rfl, rfl, rfl⟩
  refine wl_pure rfl rfl rfl (freshS_eq rfl) rfl ?_
  refine wl_nil ?_
  refine we_then ?_
  refine wc_keep [11, 3, 2] (S' := [_,_,_]) rfl ?_
  refine wc_cond rfl (fun hb11 => ?_) (fun hb11 => ?_)
  ·
   replace hm := iteT hm hb11
   refine wc_keep [] (S' := []) rfl ?_
   refine wc_seq ?_
   refine wc_region ?_
   refine wl_pure rfl rfl rfl (freshS_eq rfl) rfl ?_
   refine wl_nil ?_
   refine we_then ?_
   refine wc_ret ?_
   refine we_then_ret ?_
   have hE := (Option.some.inj hm).symm
   replace hE := hE.symm
   subst hE
   refine ret_one (Hr := []) [] Tryd.results6 (res_tmp rfl) ⟨rfl, rfl, rfl⟩ (fun _ _ hφ => ask [] rfl hφ) rfl rfl (.inl rfl)
  ·
   replace hm := iteF hm hb11
   refine wc_keep [3, 2] (S' := [_,_]) rfl ?_
   refine wc_skip ?_
   refine we_then ?_
   refine wc_seq ?_
   obtain ⟨bj_1, hm, hLj_1⟩ := bindO_some hm
   unfold m_ropewalklaw01_ValueTells_C1 at hm
   refine wc_cut (σ := Bool) (fun j_1_4 => bj_1 = j_1_4) (fun j_1_4 => [(4, .bool j_1_4)]) (fun j_1_4 => [tabF Tryd.prog "internal/strconv.uint64pow10" .u64 Lib.pow10Tab 1 pow10_g]) (fun j_1_4 => []) ?_ ?_
   ·
    obtain ⟨v13, hc13, hm⟩ := bindO_some hm
    obtain ⟨v15, hc15, hm⟩ := bindO_some hm
    rcases ite_some hm with ⟨hs17, hm⟩ | ⟨hs17, hm⟩
    ·
     obtain ⟨v20, hc20, hm⟩ := bindO_some hm
     obtain ⟨v23, hc23, hm⟩ := bindO_some hm
     rcases ite_some hm with ⟨hs26, hm⟩ | ⟨hs26, hm⟩
     ·
      obtain ⟨v28, hc28, hm⟩ := bindO_some hm
      obtain ⟨v30, hc30, hm⟩ := bindO_some hm
      rcases ite_some hm with ⟨hs33, hm⟩ | ⟨hs33, hm⟩
      ·
       obtain ⟨v37, hc37, hm⟩ := bindO_some hm
       obtain ⟨v41, hc41, hm⟩ := bindO_some hm
       refine wc_draw [0, 2, 4, 5, 6, 7, 9, 10, 12, 13, 14, 15, 17, 19, 20, 21, 22, 23, 24, 26, 27, 28, 30, 31] rfl rfl (fun hok => ?_)
       refine wx_loadH hok 0 2 0 rfl rfl rfl (freshS_eq rfl) rfl rfl rfl rfl (cs := [_,_,_]) rfl tS_29 tA_29 rfl rfl ?_
       refine wx_loadH hok 2 2 0 rfl rfl rfl (freshS_eq rfl) rfl rfl rfl rfl (cs := [_,_,_]) rfl tS_29 tA_29 rfl rfl ?_
       refine wx_step1 hok 1 rfl rfl rfl rfl ?_
       refine wl_call [] [0, 1, 2] rfl rfl rfl (freshS_eq rfl) rfl rfl fn_15 rfl (w_value_Right_s N a0 a1 a2 _ hc13) (fun _ _ hφ => ask [0] rfl hφ) rfl (H' := [_,_,_]) rfl ?_
       rintro _ _ _ ⟨rfl, rfl, rfl⟩
       refine wl_nil ?_
       refine we_x [0] [2] rfl rfl ?_
       refine wx_step1 hok 3 rfl rfl rfl rfl ?_
       refine wl_call [] [0, 1, 2] rfl rfl rfl (freshS_eq rfl) rfl rfl fn_16 rfl (w_ropewalkref01_Right_s N a0 a1 a2 _ hc15) (fun _ _ hφ => ask [0] rfl hφ) rfl (H' := [_,_,_]) rfl ?_
       rintro _ _ _ ⟨rfl, rfl, rfl⟩
       refine wl_nil ?_
       refine we_x [0] [2] rfl rfl ?_
       refine wx_bin hok 4 rfl rfl rfl (freshS_eq rfl) rfl rfl rfl rfl (eqlB _ _ v13 v15) ?_
       refine wx_pure hok 5 rfl rfl rfl (freshS_eq rfl) rfl rfl ?_
       refine wx_as (d := 17) (v' := .bool true) (S' := [_,_,_,_,_,_,_]) rfl rfl (bool_is hs17) ?_
       refine wx_loadH hok 6 2 0 rfl rfl rfl (freshS_eq rfl) rfl rfl rfl rfl (cs := [_,_,_]) rfl tS_29 tA_29 rfl rfl ?_
       refine wx_loadH hok 7 1 0 rfl rfl rfl (freshS_eq rfl) rfl rfl rfl rfl (cs := [_,_,_]) rfl tS_29 tA_29 rfl rfl ?_
       refine wx_loadH hok 9 2 0 rfl rfl rfl (freshS_eq rfl) rfl rfl rfl rfl (cs := [_,_,_]) rfl tS_29 tA_29 rfl rfl ?_
       refine wx_loadH hok 10 1 0 rfl rfl rfl (freshS_eq rfl) rfl rfl rfl rfl (cs := [_,_,_]) rfl tS_29 tA_29 rfl rfl ?_
       refine wx_step1 hok 8 rfl rfl rfl rfl ?_
       refine wl_call [] [0, 1, 2] rfl rfl rfl (freshS_eq rfl) rfl rfl fn_17 rfl (w_value_Compare_s N a0 a1 a2 a3 a4 a5 _ hc20) (fun _ _ hφ => ask [0] rfl hφ) rfl (H' := [_,_,_]) rfl ?_
       rintro _ _ _ ⟨rfl, rfl, rfl⟩
       refine wl_nil ?_
       refine we_x [0] [1, 2, 2, 2] rfl rfl ?_
       refine wx_step1 hok 11 rfl rfl rfl rfl ?_
       refine wl_call [] [0, 1, 2] rfl rfl rfl (freshS_eq rfl) rfl rfl fn_18 rfl (w_ropewalkref01_Compare_s N a0 a1 a2 a3 a4 a5 _ hc23) (fun _ _ hφ => ask [0] rfl hφ) rfl (H' := [_,_,_]) rfl ?_
       rintro _ _ _ ⟨rfl, rfl, rfl⟩
       refine wl_nil ?_
       refine we_x [0] [1, 2, 2, 2] rfl rfl ?_
       refine wx_pure hok 12 rfl rfl rfl (freshS_eq rfl) rfl rfl ?_
       refine wx_pure hok 13 rfl rfl rfl (freshS_eq rfl) rfl rfl ?_
       refine wx_pure hok 14 rfl rfl rfl (freshS_eq rfl) rfl rfl ?_
       refine wx_as (d := 26) (v' := .bool true) (S' := [_,_,_,_,_,_,_,_,_,_,_,_,_,_,_,_]) rfl rfl (bool_is hs26) ?_
       refine wx_loadH hok 15 2 0 rfl rfl rfl (freshS_eq rfl) rfl rfl rfl rfl (cs := [_,_,_]) rfl tS_29 tA_29 rfl rfl ?_
       refine wx_loadH hok 17 2 0 rfl rfl rfl (freshS_eq rfl) rfl rfl rfl rfl (cs := [_,_,_]) rfl tS_29 tA_29 rfl rfl ?_
       refine wx_step1 hok 16 rfl rfl rfl rfl ?_
       refine wl_call [] [0, 1, 2] rfl rfl rfl (freshS_eq rfl) rfl rfl fn_19 rfl (w_value_Text_s N a0 a1 a2 _ hc28) (fun _ _ hφ => ask [0] rfl hφ) rfl (H' := [_,_,_]) rfl ?_
       rintro _ _ _ ⟨rfl, rfl, rfl⟩
       refine wl_nil ?_
       refine we_x [0] [2, 1, 2, 1, 2, 2, 2] rfl rfl ?_
       refine wx_step1 hok 18 rfl rfl rfl rfl ?_
       refine wl_call [] [0, 1, 2] rfl rfl rfl (freshS_eq rfl) rfl rfl fn_20 rfl (w_ropewalkref01_Text_s N a0 a1 a2 _ hc30) (fun _ _ hφ => ask [0] rfl hφ) rfl (H' := [_,_,_]) rfl ?_
       rintro _ _ _ ⟨rfl, rfl, rfl⟩
       refine wl_nil ?_
       refine we_x [0] [2, 1, 2, 1, 2, 2, 2] rfl rfl ?_
       refine wx_pure hok 19 rfl rfl rfl (freshS_eq rfl) rfl rfl ?_
       refine wx_pure hok 20 rfl rfl rfl (freshS_eq rfl) rfl rfl ?_
       refine wx_pure hok 21 rfl rfl rfl (freshS_eq rfl) rfl rfl ?_
       refine wx_as (d := 33) (v' := .bool true) (S' := [_,_,_,_,_,_,_,_,_,_,_,_,_,_,_,_,_,_,_,_,_,_,_]) rfl rfl (bool_is hs33) ?_
       refine wx_loadH hok 22 2 0 rfl rfl rfl (freshS_eq rfl) rfl rfl rfl rfl (cs := [_,_,_]) rfl tS_29 tA_29 rfl rfl ?_
       refine wx_loadH hok 23 1 0 rfl rfl rfl (freshS_eq rfl) rfl rfl rfl rfl (cs := [_,_,_]) rfl tS_29 tA_29 rfl rfl ?_
       refine wx_bin hok 24 rfl rfl rfl (freshS_eq rfl) rfl rfl rfl rfl (eqlV _ _ (⟨a0, a1, a2⟩ : V) (⟨a3, a4, a5⟩ : V)) ?_
       refine wx_loadH hok 26 2 0 rfl rfl rfl (freshS_eq rfl) rfl rfl rfl rfl (cs := [_,_,_]) rfl tS_29 tA_29 rfl rfl ?_
       refine wx_loadH hok 27 1 0 rfl rfl rfl (freshS_eq rfl) rfl rfl rfl rfl (cs := [_,_,_]) rfl tS_29 tA_29 rfl rfl ?_
       refine wx_bin hok 28 rfl rfl rfl (freshS_eq rfl) rfl rfl rfl rfl (eqlV _ _ (⟨a0, a1, a2⟩ : V) (⟨a3, a4, a5⟩ : V)) ?_
       refine wx_step1 hok 25 rfl rfl rfl rfl ?_
       refine wl_call [] [0, 1, 2] rfl rfl rfl (freshS_eq rfl) rfl rfl fn_21 rfl (w_value_Truth_s N (decide ((⟨a0, a1, a2⟩ : V) = (⟨a3, a4, a5⟩ : V))) _ hc37) (fun _ _ hφ => ask [0] rfl hφ) rfl (H' := [_,_,_]) rfl ?_
       rintro _ _ _ ⟨rfl, rfl, rfl⟩
       refine wl_nil ?_
       refine we_x [0] [1, 2, 1, 2, 2, 2, 1, 2, 1, 2, 2, 2] rfl rfl ?_
       refine wx_step1 hok 29 rfl rfl rfl rfl ?_
       refine wl_call [] [0, 1, 2] rfl rfl rfl (freshS_eq rfl) rfl rfl fn_22 rfl (w_ropewalkref01_Truth_s N (decide ((⟨a0, a1, a2⟩ : V) = (⟨a3, a4, a5⟩ : V))) _ hc41) (fun _ _ hφ => ask [0] rfl hφ) rfl (H' := [_,_,_]) rfl ?_
       rintro _ _ _ ⟨rfl, rfl, rfl⟩
       refine wl_nil ?_
       refine we_x [0] [1, 2, 1, 2, 2, 2, 1, 2, 1, 2, 2, 2] rfl rfl ?_
       refine wx_bin hok 30 rfl rfl rfl (freshS_eq rfl) rfl rfl rfl rfl (eqlV _ _ (⟨1, v37, (⟨#[]⟩ : ByteArray)⟩ : V) (⟨1, v41, (⟨#[]⟩ : ByteArray)⟩ : V)) ?_
       refine wx_pure hok 31 rfl rfl rfl (freshS_eq rfl) rfl rfl ?_
       refine wx_step1 hok 32 rfl rfl rfl rfl ?_
       refine wl_pure rfl rfl rfl (freshS_eq rfl) rfl ?_
       refine wl_nil ?_
       refine we_x [0] [] rfl rfl ?_
       refine wx_done hok rfl ?_
       have hE := (Option.some.inj hm).symm
       refine we_pick [] rfl (H' := []) rfl ?_
       refine we_join (decide ((⟨1, v37, (⟨#[]⟩ : ByteArray)⟩ : V) = (⟨1, v41, (⟨#[]⟩ : ByteArray)⟩ : V))) hE [4] rfl (fun _ _ hφ => ask [0] rfl hφ) rfl
      ·
       refine wc_draw [0, 2, 4, 5, 6, 7, 9, 10, 12, 13, 14, 15, 17, 19, 20, 21, 22, 23, 24, 26, 27, 28, 30, 31] rfl rfl (fun hok => ?_)
       refine wx_loadH hok 0 2 0 rfl rfl rfl (freshS_eq rfl) rfl rfl rfl rfl (cs := [_,_,_]) rfl tS_29 tA_29 rfl rfl ?_
       refine wx_loadH hok 2 2 0 rfl rfl rfl (freshS_eq rfl) rfl rfl rfl rfl (cs := [_,_,_]) rfl tS_29 tA_29 rfl rfl ?_
       refine wx_step1 hok 1 rfl rfl rfl rfl ?_
       refine wl_call [] [0, 1, 2] rfl rfl rfl (freshS_eq rfl) rfl rfl fn_15 rfl (w_value_Right_s N a0 a1 a2 _ hc13) (fun _ _ hφ => ask [0] rfl hφ) rfl (H' := [_,_,_]) rfl ?_
       rintro _ _ _ ⟨rfl, rfl, rfl⟩
       refine wl_nil ?_
       refine we_x [0] [2] rfl rfl ?_
       refine wx_step1 hok 3 rfl rfl rfl rfl ?_
       refine wl_call [] [0, 1, 2] rfl rfl rfl (freshS_eq rfl) rfl rfl fn_16 rfl (w_ropewalkref01_Right_s N a0 a1 a2 _ hc15) (fun _ _ hφ => ask [0] rfl hφ) rfl (H' := [_,_,_]) rfl ?_
       rintro _ _ _ ⟨rfl, rfl, rfl⟩
       refine wl_nil ?_
       refine we_x [0] [2] rfl rfl ?_
       refine wx_bin hok 4 rfl rfl rfl (freshS_eq rfl) rfl rfl rfl rfl (eqlB _ _ v13 v15) ?_
       refine wx_pure hok 5 rfl rfl rfl (freshS_eq rfl) rfl rfl ?_
       refine wx_as (d := 17) (v' := .bool true) (S' := [_,_,_,_,_,_,_]) rfl rfl (bool_is hs17) ?_
       refine wx_loadH hok 6 2 0 rfl rfl rfl (freshS_eq rfl) rfl rfl rfl rfl (cs := [_,_,_]) rfl tS_29 tA_29 rfl rfl ?_
       refine wx_loadH hok 7 1 0 rfl rfl rfl (freshS_eq rfl) rfl rfl rfl rfl (cs := [_,_,_]) rfl tS_29 tA_29 rfl rfl ?_
       refine wx_loadH hok 9 2 0 rfl rfl rfl (freshS_eq rfl) rfl rfl rfl rfl (cs := [_,_,_]) rfl tS_29 tA_29 rfl rfl ?_
       refine wx_loadH hok 10 1 0 rfl rfl rfl (freshS_eq rfl) rfl rfl rfl rfl (cs := [_,_,_]) rfl tS_29 tA_29 rfl rfl ?_
       refine wx_step1 hok 8 rfl rfl rfl rfl ?_
       refine wl_call [] [0, 1, 2] rfl rfl rfl (freshS_eq rfl) rfl rfl fn_17 rfl (w_value_Compare_s N a0 a1 a2 a3 a4 a5 _ hc20) (fun _ _ hφ => ask [0] rfl hφ) rfl (H' := [_,_,_]) rfl ?_
       rintro _ _ _ ⟨rfl, rfl, rfl⟩
       refine wl_nil ?_
       refine we_x [0] [1, 2, 2, 2] rfl rfl ?_
       refine wx_step1 hok 11 rfl rfl rfl rfl ?_
       refine wl_call [] [0, 1, 2] rfl rfl rfl (freshS_eq rfl) rfl rfl fn_18 rfl (w_ropewalkref01_Compare_s N a0 a1 a2 a3 a4 a5 _ hc23) (fun _ _ hφ => ask [0] rfl hφ) rfl (H' := [_,_,_]) rfl ?_
       rintro _ _ _ ⟨rfl, rfl, rfl⟩
       refine wl_nil ?_
       refine we_x [0] [1, 2, 2, 2] rfl rfl ?_
       refine wx_pure hok 12 rfl rfl rfl (freshS_eq rfl) rfl rfl ?_
       refine wx_pure hok 13 rfl rfl rfl (freshS_eq rfl) rfl rfl ?_
       refine wx_pure hok 14 rfl rfl rfl (freshS_eq rfl) rfl rfl ?_
       refine wx_as (d := 26) (v' := .bool true) (S' := [_,_,_,_,_,_,_,_,_,_,_,_,_,_,_,_]) rfl rfl (bool_is hs26) ?_
       refine wx_loadH hok 15 2 0 rfl rfl rfl (freshS_eq rfl) rfl rfl rfl rfl (cs := [_,_,_]) rfl tS_29 tA_29 rfl rfl ?_
       refine wx_loadH hok 17 2 0 rfl rfl rfl (freshS_eq rfl) rfl rfl rfl rfl (cs := [_,_,_]) rfl tS_29 tA_29 rfl rfl ?_
       refine wx_step1 hok 16 rfl rfl rfl rfl ?_
       refine wl_call [] [0, 1, 2] rfl rfl rfl (freshS_eq rfl) rfl rfl fn_19 rfl (w_value_Text_s N a0 a1 a2 _ hc28) (fun _ _ hφ => ask [0] rfl hφ) rfl (H' := [_,_,_]) rfl ?_
       rintro _ _ _ ⟨rfl, rfl, rfl⟩
       refine wl_nil ?_
       refine we_x [0] [2, 1, 2, 1, 2, 2, 2] rfl rfl ?_
       refine wx_step1 hok 18 rfl rfl rfl rfl ?_
       refine wl_call [] [0, 1, 2] rfl rfl rfl (freshS_eq rfl) rfl rfl fn_20 rfl (w_ropewalkref01_Text_s N a0 a1 a2 _ hc30) (fun _ _ hφ => ask [0] rfl hφ) rfl (H' := [_,_,_]) rfl ?_
       rintro _ _ _ ⟨rfl, rfl, rfl⟩
       refine wl_nil ?_
       refine we_x [0] [2, 1, 2, 1, 2, 2, 2] rfl rfl ?_
       refine wx_pure hok 19 rfl rfl rfl (freshS_eq rfl) rfl rfl ?_
       refine wx_pure hok 20 rfl rfl rfl (freshS_eq rfl) rfl rfl ?_
       refine wx_pure hok 21 rfl rfl rfl (freshS_eq rfl) rfl rfl ?_
       refine wx_as (d := 33) (v' := .bool false) (S' := [_,_,_,_,_,_,_,_,_,_,_,_,_,_,_,_,_,_,_,_,_,_,_]) rfl rfl (bool_is hs33) ?_
       refine wx_off hok 22 rfl rfl rfl (freshS_eq rfl) rfl ?_
       refine wx_off hok 23 rfl rfl rfl (freshS_eq rfl) rfl ?_
       refine wx_off hok 24 rfl rfl rfl (freshS_eq rfl) rfl ?_
       refine wx_off hok 26 rfl rfl rfl (freshS_eq rfl) rfl ?_
       refine wx_off hok 27 rfl rfl rfl (freshS_eq rfl) rfl ?_
       refine wx_off hok 28 rfl rfl rfl (freshS_eq rfl) rfl ?_
       refine wx_step1 hok 25 rfl rfl rfl rfl ?_
       refine wl_off rfl rfl rfl (freshS_eq rfl) ?_
       refine wl_nil ?_
       refine we_x [0] [2, 2, 1, 2, 1, 2, 2, 2] rfl rfl ?_
       refine wx_step1 hok 29 rfl rfl rfl rfl ?_
       refine wl_off rfl rfl rfl (freshS_eq rfl) ?_
       refine wl_nil ?_
       refine we_x [0] [2, 2, 1, 2, 1, 2, 2, 2] rfl rfl ?_
       refine wx_off hok 30 rfl rfl rfl (freshS_eq rfl) rfl ?_
       refine wx_pure hok 31 rfl rfl rfl (freshS_eq rfl) rfl rfl ?_
       refine wx_step1 hok 32 rfl rfl rfl rfl ?_
       refine wl_pure rfl rfl rfl (freshS_eq rfl) rfl ?_
       refine wl_nil ?_
       refine we_x [0] [] rfl rfl ?_
       refine wx_done hok rfl ?_
       have hE := (Option.some.inj hm).symm
       refine we_pick [] rfl (H' := []) rfl ?_
       refine we_join false hE [4] rfl (fun _ _ hφ => ask [0] rfl hφ) rfl
     ·
      refine wc_draw [0, 2, 4, 5, 6, 7, 9, 10, 12, 13, 14, 15, 17, 19, 20, 21, 22, 23, 24, 26, 27, 28, 30, 31] rfl rfl (fun hok => ?_)
      refine wx_loadH hok 0 2 0 rfl rfl rfl (freshS_eq rfl) rfl rfl rfl rfl (cs := [_,_,_]) rfl tS_29 tA_29 rfl rfl ?_
      refine wx_loadH hok 2 2 0 rfl rfl rfl (freshS_eq rfl) rfl rfl rfl rfl (cs := [_,_,_]) rfl tS_29 tA_29 rfl rfl ?_
      refine wx_step1 hok 1 rfl rfl rfl rfl ?_
      refine wl_call [] [0, 1, 2] rfl rfl rfl (freshS_eq rfl) rfl rfl fn_15 rfl (w_value_Right_s N a0 a1 a2 _ hc13) (fun _ _ hφ => ask [0] rfl hφ) rfl (H' := [_,_,_]) rfl ?_
      rintro _ _ _ ⟨rfl, rfl, rfl⟩
      refine wl_nil ?_
      refine we_x [0] [2] rfl rfl ?_
      refine wx_step1 hok 3 rfl rfl rfl rfl ?_
      refine wl_call [] [0, 1, 2] rfl rfl rfl (freshS_eq rfl) rfl rfl fn_16 rfl (w_ropewalkref01_Right_s N a0 a1 a2 _ hc15) (fun _ _ hφ => ask [0] rfl hφ) rfl (H' := [_,_,_]) rfl ?_
      rintro _ _ _ ⟨rfl, rfl, rfl⟩
      refine wl_nil ?_
      refine we_x [0] [2] rfl rfl ?_
      refine wx_bin hok 4 rfl rfl rfl (freshS_eq rfl) rfl rfl rfl rfl (eqlB _ _ v13 v15) ?_
      refine wx_pure hok 5 rfl rfl rfl (freshS_eq rfl) rfl rfl ?_
      refine wx_as (d := 17) (v' := .bool true) (S' := [_,_,_,_,_,_,_]) rfl rfl (bool_is hs17) ?_
      refine wx_loadH hok 6 2 0 rfl rfl rfl (freshS_eq rfl) rfl rfl rfl rfl (cs := [_,_,_]) rfl tS_29 tA_29 rfl rfl ?_
      refine wx_loadH hok 7 1 0 rfl rfl rfl (freshS_eq rfl) rfl rfl rfl rfl (cs := [_,_,_]) rfl tS_29 tA_29 rfl rfl ?_
      refine wx_loadH hok 9 2 0 rfl rfl rfl (freshS_eq rfl) rfl rfl rfl rfl (cs := [_,_,_]) rfl tS_29 tA_29 rfl rfl ?_
      refine wx_loadH hok 10 1 0 rfl rfl rfl (freshS_eq rfl) rfl rfl rfl rfl (cs := [_,_,_]) rfl tS_29 tA_29 rfl rfl ?_
      refine wx_step1 hok 8 rfl rfl rfl rfl ?_
      refine wl_call [] [0, 1, 2] rfl rfl rfl (freshS_eq rfl) rfl rfl fn_17 rfl (w_value_Compare_s N a0 a1 a2 a3 a4 a5 _ hc20) (fun _ _ hφ => ask [0] rfl hφ) rfl (H' := [_,_,_]) rfl ?_
      rintro _ _ _ ⟨rfl, rfl, rfl⟩
      refine wl_nil ?_
      refine we_x [0] [1, 2, 2, 2] rfl rfl ?_
      refine wx_step1 hok 11 rfl rfl rfl rfl ?_
      refine wl_call [] [0, 1, 2] rfl rfl rfl (freshS_eq rfl) rfl rfl fn_18 rfl (w_ropewalkref01_Compare_s N a0 a1 a2 a3 a4 a5 _ hc23) (fun _ _ hφ => ask [0] rfl hφ) rfl (H' := [_,_,_]) rfl ?_
      rintro _ _ _ ⟨rfl, rfl, rfl⟩
      refine wl_nil ?_
      refine we_x [0] [1, 2, 2, 2] rfl rfl ?_
      refine wx_pure hok 12 rfl rfl rfl (freshS_eq rfl) rfl rfl ?_
      refine wx_pure hok 13 rfl rfl rfl (freshS_eq rfl) rfl rfl ?_
      refine wx_pure hok 14 rfl rfl rfl (freshS_eq rfl) rfl rfl ?_
      refine wx_as (d := 26) (v' := .bool false) (S' := [_,_,_,_,_,_,_,_,_,_,_,_,_,_,_,_]) rfl rfl (bool_is hs26) ?_
      refine wx_off hok 15 rfl rfl rfl (freshS_eq rfl) rfl ?_
      refine wx_off hok 17 rfl rfl rfl (freshS_eq rfl) rfl ?_
      refine wx_step1 hok 16 rfl rfl rfl rfl ?_
      refine wl_off rfl rfl rfl (freshS_eq rfl) ?_
      refine wl_nil ?_
      refine we_x [0] [1, 2, 1, 2, 2, 2] rfl rfl ?_
      refine wx_step1 hok 18 rfl rfl rfl rfl ?_
      refine wl_off rfl rfl rfl (freshS_eq rfl) ?_
      refine wl_nil ?_
      refine we_x [0] [1, 2, 1, 2, 2, 2] rfl rfl ?_
      refine wx_off hok 19 rfl rfl rfl (freshS_eq rfl) rfl ?_
      refine wx_pure hok 20 rfl rfl rfl (freshS_eq rfl) rfl rfl ?_
      refine wx_pure hok 21 rfl rfl rfl (freshS_eq rfl) rfl rfl ?_
      refine wx_off hok 22 rfl rfl rfl (freshS_eq rfl) rfl ?_
      refine wx_off hok 23 rfl rfl rfl (freshS_eq rfl) rfl ?_
      refine wx_off hok 24 rfl rfl rfl (freshS_eq rfl) rfl ?_
      refine wx_off hok 26 rfl rfl rfl (freshS_eq rfl) rfl ?_
      refine wx_off hok 27 rfl rfl rfl (freshS_eq rfl) rfl ?_
      refine wx_off hok 28 rfl rfl rfl (freshS_eq rfl) rfl ?_
      refine wx_step1 hok 25 rfl rfl rfl rfl ?_
      refine wl_off rfl rfl rfl (freshS_eq rfl) ?_
      refine wl_nil ?_
      refine we_x [0] [1, 2, 1, 2, 2, 2] rfl rfl ?_
      refine wx_step1 hok 29 rfl rfl rfl rfl ?_
      refine wl_off rfl rfl rfl (freshS_eq rfl) ?_
      refine wl_nil ?_
      refine we_x [0] [1, 2, 1, 2, 2, 2] rfl rfl ?_
      refine wx_off hok 30 rfl rfl rfl (freshS_eq rfl) rfl ?_
      refine wx_pure hok 31 rfl rfl rfl (freshS_eq rfl) rfl rfl ?_
      refine wx_step1 hok 32 rfl rfl rfl rfl ?_
      refine wl_pure rfl rfl rfl (freshS_eq rfl) rfl ?_
      refine wl_nil ?_
      refine we_x [0] [] rfl rfl ?_
      refine wx_done hok rfl ?_
      have hE := (Option.some.inj hm).symm
      refine we_pick [] rfl (H' := []) rfl ?_
      refine we_join false hE [4] rfl (fun _ _ hφ => ask [0] rfl hφ) rfl
    ·
     refine wc_draw [0, 2, 4, 5, 6, 7, 9, 10, 12, 13, 14, 15, 17, 19, 20, 21, 22, 23, 24, 26, 27, 28, 30, 31] rfl rfl (fun hok => ?_)
     refine wx_loadH hok 0 2 0 rfl rfl rfl (freshS_eq rfl) rfl rfl rfl rfl (cs := [_,_,_]) rfl tS_29 tA_29 rfl rfl ?_
     refine wx_loadH hok 2 2 0 rfl rfl rfl (freshS_eq rfl) rfl rfl rfl rfl (cs := [_,_,_]) rfl tS_29 tA_29 rfl rfl ?_
     refine wx_step1 hok 1 rfl rfl rfl rfl ?_
     refine wl_call [] [0, 1, 2] rfl rfl rfl (freshS_eq rfl) rfl rfl fn_15 rfl (w_value_Right_s N a0 a1 a2 _ hc13) (fun _ _ hφ => ask [0] rfl hφ) rfl (H' := [_,_,_]) rfl ?_
     rintro _ _ _ ⟨rfl, rfl, rfl⟩
     refine wl_nil ?_
     refine we_x [0] [2] rfl rfl ?_
     refine wx_step1 hok 3 rfl rfl rfl rfl ?_
     refine wl_call [] [0, 1, 2] rfl rfl rfl (freshS_eq rfl) rfl rfl fn_16 rfl (w_ropewalkref01_Right_s N a0 a1 a2 _ hc15) (fun _ _ hφ => ask [0] rfl hφ) rfl (H' := [_,_,_]) rfl ?_
     rintro _ _ _ ⟨rfl, rfl, rfl⟩
     refine wl_nil ?_
     refine we_x [0] [2] rfl rfl ?_
     refine wx_bin hok 4 rfl rfl rfl (freshS_eq rfl) rfl rfl rfl rfl (eqlB _ _ v13 v15) ?_
     refine wx_pure hok 5 rfl rfl rfl (freshS_eq rfl) rfl rfl ?_
     refine wx_as (d := 17) (v' := .bool false) (S' := [_,_,_,_,_,_,_]) rfl rfl (bool_is hs17) ?_
     refine wx_off hok 6 rfl rfl rfl (freshS_eq rfl) rfl ?_
     refine wx_off hok 7 rfl rfl rfl (freshS_eq rfl) rfl ?_
     refine wx_off hok 9 rfl rfl rfl (freshS_eq rfl) rfl ?_
     refine wx_off hok 10 rfl rfl rfl (freshS_eq rfl) rfl ?_
     refine wx_step1 hok 8 rfl rfl rfl rfl ?_
     refine wl_off rfl rfl rfl (freshS_eq rfl) ?_
     refine wl_nil ?_
     refine we_x [0] [2, 2] rfl rfl ?_
     refine wx_step1 hok 11 rfl rfl rfl rfl ?_
     refine wl_off rfl rfl rfl (freshS_eq rfl) ?_
     refine wl_nil ?_
     refine we_x [0] [2, 2] rfl rfl ?_
     refine wx_off hok 12 rfl rfl rfl (freshS_eq rfl) rfl ?_
     refine wx_pure hok 13 rfl rfl rfl (freshS_eq rfl) rfl rfl ?_
     refine wx_pure hok 14 rfl rfl rfl (freshS_eq rfl) rfl rfl ?_
     refine wx_off hok 15 rfl rfl rfl (freshS_eq rfl) rfl ?_
     refine wx_off hok 17 rfl rfl rfl (freshS_eq rfl) rfl ?_
     refine wx_step1 hok 16 rfl rfl rfl rfl ?_
     refine wl_off rfl rfl rfl (freshS_eq rfl) ?_
     refine wl_nil ?_
     refine we_x [0] [2, 2] rfl rfl ?_
     refine wx_step1 hok 18 rfl rfl rfl rfl ?_
     refine wl_off rfl rfl rfl (freshS_eq rfl) ?_
     refine wl_nil ?_
     refine we_x [0] [2, 2] rfl rfl ?_
     refine wx_off hok 19 rfl rfl rfl (freshS_eq rfl) rfl ?_
     refine wx_pure hok 20 rfl rfl rfl (freshS_eq rfl) rfl rfl ?_
     refine wx_pure hok 21 rfl rfl rfl (freshS_eq rfl) rfl rfl ?_
     refine wx_off hok 22 rfl rfl rfl (freshS_eq rfl) rfl ?_
     refine wx_off hok 23 rfl rfl rfl (freshS_eq rfl) rfl ?_
     refine wx_off hok 24 rfl rfl rfl (freshS_eq rfl) rfl ?_
     refine wx_off hok 26 rfl rfl rfl (freshS_eq rfl) rfl ?_
     refine wx_off hok 27 rfl rfl rfl (freshS_eq rfl) rfl ?_
     refine wx_off hok 28 rfl rfl rfl (freshS_eq rfl) rfl ?_
     refine wx_step1 hok 25 rfl rfl rfl rfl ?_
     refine wl_off rfl rfl rfl (freshS_eq rfl) ?_
     refine wl_nil ?_
     refine we_x [0] [2, 2] rfl rfl ?_
     refine wx_step1 hok 29 rfl rfl rfl rfl ?_
     refine wl_off rfl rfl rfl (freshS_eq rfl) ?_
     refine wl_nil ?_
     refine we_x [0] [2, 2] rfl rfl ?_
     refine wx_off hok 30 rfl rfl rfl (freshS_eq rfl) rfl ?_
     refine wx_pure hok 31 rfl rfl rfl (freshS_eq rfl) rfl rfl ?_
     refine wx_step1 hok 32 rfl rfl rfl rfl ?_
     refine wl_pure rfl rfl rfl (freshS_eq rfl) rfl ?_
     refine wl_nil ?_
     refine we_x [0] [] rfl rfl ?_
     refine wx_done hok rfl ?_
     have hE := (Option.some.inj hm).symm
     refine we_pick [] rfl (H' := []) rfl ?_
     refine we_join false hE [4] rfl (fun _ _ hφ => ask [0] rfl hφ) rfl
   ·
    rintro j_1_4 hE
    try dsimp only
    have hm := hLj_1
    rw [hE] at hm
    refine wc_ret ?_
    have hE := (Option.some.inj hm).symm
    replace hE := hE.symm
    subst hE
    refine ret_one (Hr := []) [] Tryd.results6 (res_tmp rfl) ⟨rfl, rfl, rfl⟩ (fun _ _ hφ => ask [] rfl hφ) rfl rfl (.inl rfl)
set_option maxRecDepth 100000 in
set_option maxHeartbeats 4000000 in
theorem w_ropewalklaw01_ValueTexts_s (N : Nat) (a0 : Int) (a1 : Int) (a2 : ByteArray) (a3 : Int) (a4 : Int) (a5 : ByteArray) (a6 : Int) (a7 : Int) (a8 : ByteArray) (o0 : Bool) (hm : m_ropewalklaw01_ValueTexts N a0 a1 a2 a3 a4 a5 a6 a7 a8 = some o0) : Spec Tryd.prog 7 [.agg #[.int .u8 a0, .int .i64 a1, .string a2], .agg #[.int .u8 a3, .int .i64 a4, .string a5], .agg #[.int .u8 a6, .int .i64 a7, .string a8]] [tabF Tryd.prog "internal/strconv.uint64pow10" .u64 Lib.pow10Tab 1 pow10_g] [] (fun v Φr Hr => v = .bool o0 ∧ Φr = [] ∧ Hr = []) := by
 unfold m_ropewalklaw01_ValueTexts at hm
 refine spec_of Tryd.func7 rfl Tryd.ntmps7 rfl (S := [_,_,_]) rfl (fun C => ?_)
 refine wc_seq ?_
 refine wc_region ?_
 refine wl_box rfl rfl rfl (freshS_eq rfl) rfl rfl rfl (fun g3 => ?_)
 refine wl_box rfl rfl rfl (freshS_eq rfl) rfl rfl rfl (fun g4 => ?_)
 refine wl_box rfl rfl rfl (freshS_eq rfl) rfl rfl rfl (fun g5 => ?_)
 refine wl_pure rfl rfl rfl (freshS_eq rfl) rfl ?_
 refine wl_nil ?_
 refine we_then ?_
 refine wc_keep [5, 4, 3] (S' := [_,_,_]) rfl ?_
 refine wc_seq ?_
 refine wc_seq ?_
 refine wc_region ?_
 obtain ⟨v10, hc10, hm⟩ := bindO_some hm
 refine wl_call [] [0, 1, 2] rfl rfl rfl (freshS_eq rfl) rfl rfl fn_8 rfl (w_ropewalklaw01_awake_s N _ hc10) (fun _ _ hφ => ask [0] rfl hφ) rfl (H' := [_,_,_]) rfl ?_
 rintro _ _ _ ⟨rfl, rfl, rfl⟩
 refine wl_pure rfl rfl rfl (freshS_eq rfl) rfl ?_
 refine wl_nil ?_
 refine we_then ?_
 refine wc_keep [11, 5, 4, 3] (S' := [_,_,_,_]) rfl ?_
 refine wc_cond rfl (fun hb11 => ?_) (fun hb11 => ?_)
 ·
  replace hm := iteT hm hb11
  refine wc_keep [] (S' := []) rfl ?_
  refine wc_seq ?_
  refine wc_region ?_
  refine wl_pure rfl rfl rfl (freshS_eq rfl) rfl ?_
  refine wl_nil ?_
  refine we_then ?_
  refine wc_ret ?_
  refine we_then_ret ?_
  have hE := (Option.some.inj hm).symm
  replace hE := hE.symm
  subst hE
  refine ret_one (Hr := []) [] Tryd.results7 (res_tmp rfl) ⟨rfl, rfl, rfl⟩ (fun _ _ hφ => ask [] rfl hφ) rfl rfl (.inl rfl)
 ·
  replace hm := iteF hm hb11
  refine wc_keep [5, 4, 3] (S' := [_,_,_]) rfl ?_
  refine wc_skip ?_
  refine we_then ?_
  refine wc_seq ?_
  refine wc_seq ?_
  obtain ⟨bj_1, hm, hLj_1⟩ := bindO_some hm
  unfold m_ropewalklaw01_ValueTexts_C1 at hm
  refine wc_cut (σ := Bool) (fun j_1_32 => bj_1 = j_1_32) (fun j_1_32 => [(5, .pointer (some ⟨g5, 0, none⟩)), (4, .pointer (some ⟨g4, 0, none⟩)), (3, .pointer (some ⟨g3, 0, none⟩)), (32, .bool j_1_32)]) (fun j_1_32 => [tabF Tryd.prog "internal/strconv.uint64pow10" .u64 Lib.pow10Tab 1 pow10_g]) (fun j_1_32 => [.blk g5 [.int .u8 a6, .int .i64 a7, .string a8] 29, .blk g4 [.int .u8 a3, .int .i64 a4, .string a5] 29, .blk g3 [.int .u8 a0, .int .i64 a1, .string a2] 29]) ?_ ?_
  ·
   refine wc_region ?_
   refine wl_loadH 2 0 rfl rfl rfl (freshS_eq rfl) rfl rfl rfl (cs := [_,_,_]) rfl tS_29 tA_29 rfl rfl ?_
   refine wl_loadH 1 0 rfl rfl rfl (freshS_eq rfl) rfl rfl rfl (cs := [_,_,_]) rfl tS_29 tA_29 rfl rfl ?_
   refine wl_loadH 0 0 rfl rfl rfl (freshS_eq rfl) rfl rfl rfl (cs := [_,_,_]) rfl tS_29 tA_29 rfl rfl ?_
   refine wl_buildSlice rfl rfl rfl (freshS_eq rfl) rfl tE_23 tS_29 tZ_29 rfl (zs := [.int .u8 0, .int .i64 0, .string ((⟨#[]⟩ : ByteArray)), .int .u8 0, .int .i64 0, .string ((⟨#[]⟩ : ByteArray)), .int .u8 0, .int .i64 0, .string ((⟨#[]⟩ : ByteArray))]) (by kernel_rfl) rfl (out := [_,_,_,_,_,_,_,_,_]) rfl (fun g15 => ?_)
   refine wl_row (sz := 3) (m := 3) R_V ([(⟨a0, a1, a2⟩ : V), (⟨a3, a4, a5⟩ : V), (⟨a6, a7, a8⟩ : V)]) 0 rfl (fun F w hφ => ⟨[.int .u8 a0, .int .i64 a1, .string a2], [.int .u8 a3, .int .i64 a4, .string a5, .int .u8 a6, .int .i64 a7, .string a8], rfl, rfl, ⟨(), rfl, ask_nil⟩, ⟨[.int .u8 a3, .int .i64 a4, .string a5], [.int .u8 a6, .int .i64 a7, .string a8], rfl, rfl, ⟨(), rfl, ask_nil⟩, ⟨[.int .u8 a6, .int .i64 a7, .string a8], [], rfl, rfl, ⟨(), rfl, ask_nil⟩, rfl⟩⟩⟩) rfl (by decide) (H' := [_,_,_,_]) rfl ?_
   obtain ⟨v16, hc16, hm⟩ := bindO_some hm
   refine wl_call [0] [1, 2, 3] rfl rfl rfl (freshS_eq rfl) rfl rfl fn_9 rfl (w_ropewalklaw01_light_s N (some ⟨g15, 0, none⟩) ([(⟨a0, a1, a2⟩ : V), (⟨a3, a4, a5⟩ : V), (⟨a6, a7, a8⟩ : V)].length) 3 [(⟨a0, a1, a2⟩ : V), (⟨a3, a4, a5⟩ : V), (⟨a6, a7, a8⟩ : V)] _ hc16) (fun _ _ hφ => ask [0] rfl hφ) rfl (H' := [_,_,_]) rfl ?_
   rintro _ _ _ ⟨rfl, rfl, rfl⟩
   refine wl_pure rfl rfl rfl (freshS_eq rfl) rfl ?_
   refine wl_pure rfl rfl rfl (freshS_eq rfl) rfl ?_
   refine wl_split (d := 18) (S' := [_,_,_,_,_,_,_,_,_]) rfl rfl (fun hs18 => ?_) (fun hs18 => ?_)
   ·
    replace hm := iteT hm hs18
    refine wl_off rfl rfl rfl (freshS_eq rfl) ?_
    refine wl_off rfl rfl rfl (freshS_eq rfl) ?_
    refine wl_off rfl rfl rfl (freshS_eq rfl) ?_
    refine wl_pure rfl rfl rfl (freshS_eq rfl) rfl ?_
    refine wl_pure rfl rfl rfl (freshS_eq rfl) rfl ?_
    refine wl_off rfl rfl rfl (freshS_eq rfl) ?_
    refine wl_off rfl rfl rfl (freshS_eq rfl) ?_
    refine wl_off rfl rfl rfl (freshS_eq rfl) ?_
    refine wl_pure rfl rfl rfl (freshS_eq rfl) rfl ?_
    refine wl_pure rfl rfl rfl (freshS_eq rfl) rfl ?_
    refine wl_off rfl rfl rfl (freshS_eq rfl) ?_
    refine wl_off rfl rfl rfl (freshS_eq rfl) ?_
    refine wl_off rfl rfl rfl (freshS_eq rfl) ?_
    refine wl_pure rfl rfl rfl (freshS_eq rfl) rfl ?_
    refine wl_nil ?_
    have hE := (Option.some.inj hm).symm
    refine we_pick [1, 2, 3] rfl (H' := [_,_,_]) rfl ?_
    refine we_join true hE [5, 4, 3, 32] rfl (fun _ _ hφ => ask [0] rfl hφ) rfl
   ·
    replace hm := iteF hm hs18
    refine wl_loadH 3 0 rfl rfl rfl (freshS_eq rfl) rfl rfl rfl (cs := [_,_,_]) rfl tS_29 tA_29 rfl rfl ?_
    obtain ⟨v20, hc20, hm⟩ := bindO_some hm
    refine wl_call [] [0, 1, 2, 3] rfl rfl rfl (freshS_eq rfl) rfl rfl fn_15 rfl (w_value_Right_s N a0 a1 a2 _ hc20) (fun _ _ hφ => ask [0] rfl hφ) rfl (H' := [_,_,_,_]) rfl ?_
    rintro _ _ _ ⟨rfl, rfl, rfl⟩
    refine wl_pure rfl rfl rfl (freshS_eq rfl) rfl ?_
    refine wl_pure rfl rfl rfl (freshS_eq rfl) rfl ?_
    refine wl_pure rfl rfl rfl (freshS_eq rfl) rfl ?_
    refine wl_split (d := 23) (S' := [_,_,_,_,_,_,_,_,_,_,_,_,_,_]) rfl rfl (fun hs23 => ?_) (fun hs23 => ?_)
    ·
     replace hm := iteT hm hs23
     refine wl_off rfl rfl rfl (freshS_eq rfl) ?_
     refine wl_off rfl rfl rfl (freshS_eq rfl) ?_
     refine wl_off rfl rfl rfl (freshS_eq rfl) ?_
     refine wl_pure rfl rfl rfl (freshS_eq rfl) rfl ?_
     refine wl_pure rfl rfl rfl (freshS_eq rfl) rfl ?_
     refine wl_off rfl rfl rfl (freshS_eq rfl) ?_
     refine wl_off rfl rfl rfl (freshS_eq rfl) ?_
     refine wl_off rfl rfl rfl (freshS_eq rfl) ?_
     refine wl_pure rfl rfl rfl (freshS_eq rfl) rfl ?_
     refine wl_nil ?_
     have hE := (Option.some.inj hm).symm
     refine we_pick [1, 2, 3] rfl (H' := [_,_,_]) rfl ?_
     refine we_join true hE [5, 4, 3, 32] rfl (fun _ _ hφ => ask [0] rfl hφ) rfl
    ·
     replace hm := iteF hm hs23
     refine wl_loadH 2 0 rfl rfl rfl (freshS_eq rfl) rfl rfl rfl (cs := [_,_,_]) rfl tS_29 tA_29 rfl rfl ?_
     obtain ⟨v25, hc25, hm⟩ := bindO_some hm
     refine wl_call [] [0, 1, 2, 3] rfl rfl rfl (freshS_eq rfl) rfl rfl fn_15 rfl (w_value_Right_s N a3 a4 a5 _ hc25) (fun _ _ hφ => ask [0] rfl hφ) rfl (H' := [_,_,_,_]) rfl ?_
     rintro _ _ _ ⟨rfl, rfl, rfl⟩
     refine wl_pure rfl rfl rfl (freshS_eq rfl) rfl ?_
     refine wl_pure rfl rfl rfl (freshS_eq rfl) rfl ?_
     refine wl_pure rfl rfl rfl (freshS_eq rfl) rfl ?_
     refine wl_split (d := 28) (S' := [_,_,_,_,_,_,_,_,_,_,_,_,_,_,_,_,_,_,_]) rfl rfl (fun hs28 => ?_) (fun hs28 => ?_)
     ·
      replace hm := iteT hm hs28
      refine wl_off rfl rfl rfl (freshS_eq rfl) ?_
      refine wl_off rfl rfl rfl (freshS_eq rfl) ?_
      refine wl_off rfl rfl rfl (freshS_eq rfl) ?_
      refine wl_pure rfl rfl rfl (freshS_eq rfl) rfl ?_
      refine wl_nil ?_
      have hE := (Option.some.inj hm).symm
      refine we_pick [1, 2, 3] rfl (H' := [_,_,_]) rfl ?_
      refine we_join true hE [5, 4, 3, 32] rfl (fun _ _ hφ => ask [0] rfl hφ) rfl
     ·
      replace hm := iteF hm hs28
      refine wl_loadH 1 0 rfl rfl rfl (freshS_eq rfl) rfl rfl rfl (cs := [_,_,_]) rfl tS_29 tA_29 rfl rfl ?_
      obtain ⟨v30, hc30, hm⟩ := bindO_some hm
      refine wl_call [] [0, 1, 2, 3] rfl rfl rfl (freshS_eq rfl) rfl rfl fn_15 rfl (w_value_Right_s N a6 a7 a8 _ hc30) (fun _ _ hφ => ask [0] rfl hφ) rfl (H' := [_,_,_,_]) rfl ?_
      rintro _ _ _ ⟨rfl, rfl, rfl⟩
      refine wl_pure rfl rfl rfl (freshS_eq rfl) rfl ?_
      refine wl_pure rfl rfl rfl (freshS_eq rfl) rfl ?_
      refine wl_nil ?_
      have hE := (Option.some.inj hm).symm
      refine we_pick [1, 2, 3] rfl (H' := [_,_,_]) rfl ?_
      refine we_join (!v30) hE [5, 4, 3, 32] rfl (fun _ _ hφ => ask [0] rfl hφ) rfl
  ·
   rintro j_1_32 hE
   try dsimp only
   have hm := hLj_1
   rw [hE] at hm
   refine wc_cond rfl (fun hb32 => ?_) (fun hb32 => ?_)
   ·
    replace hm := iteT hm hb32
    refine wc_keep [] (S' := []) rfl ?_
    refine wc_seq ?_
    refine wc_region ?_
    refine wl_pure rfl rfl rfl (freshS_eq rfl) rfl ?_
    refine wl_nil ?_
    refine we_then ?_
    refine wc_ret ?_
    refine we_then_ret ?_
    have hE := (Option.some.inj hm).symm
    replace hE := hE.symm
    subst hE
    refine ret_one (Hr := []) [] Tryd.results7 (res_tmp rfl) ⟨rfl, rfl, rfl⟩ (fun _ _ hφ => ask [] rfl hφ) rfl rfl (.inl rfl)
   ·
    replace hm := iteF hm hb32
    refine wc_keep [5, 4, 3] (S' := [_,_,_]) rfl ?_
    refine wc_skip ?_
    refine we_then ?_
    refine wc_seq ?_
    obtain ⟨v35, hc35, hm⟩ := bindO_some hm
    obtain ⟨v38, hc38, hm⟩ := bindO_some hm
    obtain ⟨v41, hc41, hm⟩ := bindO_some hm
    refine wc_draw [0, 1, 3, 4, 6, 7] rfl rfl (fun hok => ?_)
    refine wx_loadH hok 0 2 0 rfl rfl rfl (freshS_eq rfl) rfl rfl rfl rfl (cs := [_,_,_]) rfl tS_29 tA_29 rfl rfl ?_
    refine wx_loadH hok 1 1 0 rfl rfl rfl (freshS_eq rfl) rfl rfl rfl rfl (cs := [_,_,_]) rfl tS_29 tA_29 rfl rfl ?_
    refine wx_loadH hok 3 1 0 rfl rfl rfl (freshS_eq rfl) rfl rfl rfl rfl (cs := [_,_,_]) rfl tS_29 tA_29 rfl rfl ?_
    refine wx_loadH hok 4 0 0 rfl rfl rfl (freshS_eq rfl) rfl rfl rfl rfl (cs := [_,_,_]) rfl tS_29 tA_29 rfl rfl ?_
    refine wx_loadH hok 6 2 0 rfl rfl rfl (freshS_eq rfl) rfl rfl rfl rfl (cs := [_,_,_]) rfl tS_29 tA_29 rfl rfl ?_
    refine wx_loadH hok 7 0 0 rfl rfl rfl (freshS_eq rfl) rfl rfl rfl rfl (cs := [_,_,_]) rfl tS_29 tA_29 rfl rfl ?_
    refine wx_step1 hok 2 rfl rfl rfl rfl ?_
    refine wl_call [] [0, 1, 2] rfl rfl rfl (freshS_eq rfl) rfl rfl fn_17 rfl (w_value_Compare_s N a0 a1 a2 a3 a4 a5 _ hc35) (fun _ _ hφ => ask [0] rfl hφ) rfl (H' := [_,_,_]) rfl ?_
    rintro _ _ _ ⟨rfl, rfl, rfl⟩
    refine wl_nil ?_
    refine we_x [0] [0, 2, 0, 1] rfl rfl ?_
    refine wx_step1 hok 5 rfl rfl rfl rfl ?_
    refine wl_call [] [0, 1, 2] rfl rfl rfl (freshS_eq rfl) rfl rfl fn_17 rfl (w_value_Compare_s N a3 a4 a5 a6 a7 a8 _ hc38) (fun _ _ hφ => ask [0] rfl hφ) rfl (H' := [_,_,_]) rfl ?_
    rintro _ _ _ ⟨rfl, rfl, rfl⟩
    refine wl_nil ?_
    refine we_x [0] [0, 2, 1, 2] rfl rfl ?_
    refine wx_step1 hok 8 rfl rfl rfl rfl ?_
    refine wl_call [] [0, 1, 2] rfl rfl rfl (freshS_eq rfl) rfl rfl fn_17 rfl (w_value_Compare_s N a0 a1 a2 a6 a7 a8 _ hc41) (fun _ _ hφ => ask [0] rfl hφ) rfl (H' := [_,_,_]) rfl ?_
    rintro _ _ _ ⟨rfl, rfl, rfl⟩
    refine wl_nil ?_
    refine we_x [0] [0, 1, 1, 2] rfl rfl ?_
    refine wx_step1 hok 9 rfl rfl rfl rfl ?_
    refine wl_pure rfl rfl rfl (freshS_eq rfl) rfl ?_
    refine wl_nil ?_
    refine we_x [0] [0, 2, 0, 1] rfl rfl ?_
    refine wx_step1 hok 10 rfl rfl rfl rfl ?_
    refine wl_pure rfl rfl rfl (freshS_eq rfl) rfl ?_
    refine wl_nil ?_
    refine we_x [0] [0, 2] rfl rfl ?_
    refine wx_step1 hok 11 rfl rfl rfl rfl ?_
    refine wl_pure rfl rfl rfl (freshS_eq rfl) rfl ?_
    refine wl_nil ?_
    refine we_x [0] [] rfl rfl ?_
    refine wx_done hok rfl ?_
    refine we_then ?_
    refine wc_keep [9, 8, 7, 4, 3] (S' := [_,_,_,_,_]) rfl ?_
    refine wc_seq ?_
    refine wc_seq ?_
    obtain ⟨bj_2, hm, hLj_2⟩ := bindO_some hm
    unfold m_ropewalklaw01_ValueTexts_C2 at hm
    refine wc_cut (σ := Bool) (fun j_2_59 => bj_2 = j_2_59) (fun j_2_59 => [(7, .int .i64 v35), (4, .pointer (some ⟨g4, 0, none⟩)), (3, .pointer (some ⟨g3, 0, none⟩)), (59, .bool j_2_59)]) (fun j_2_59 => [tabF Tryd.prog "internal/strconv.uint64pow10" .u64 Lib.pow10Tab 1 pow10_g]) (fun j_2_59 => [.blk g4 [.int .u8 a3, .int .i64 a4, .string a5] 29, .blk g3 [.int .u8 a0, .int .i64 a1, .string a2] 29]) ?_ ?_
    ·
     refine wc_region ?_
     refine wl_pure rfl rfl rfl (freshS_eq rfl) rfl ?_
     refine wl_loadH 1 0 rfl rfl rfl (freshS_eq rfl) rfl rfl rfl (cs := [_,_,_]) rfl tS_29 tA_29 rfl rfl ?_
     refine wl_loadH 2 0 rfl rfl rfl (freshS_eq rfl) rfl rfl rfl (cs := [_,_,_]) rfl tS_29 tA_29 rfl rfl ?_
     obtain ⟨v45, hc45, hm⟩ := bindO_some hm
     refine wl_call [] [0, 1, 2] rfl rfl rfl (freshS_eq rfl) rfl rfl fn_17 rfl (w_value_Compare_s N a3 a4 a5 a0 a1 a2 _ hc45) (fun _ _ hφ => ask [0] rfl hφ) rfl (H' := [_,_,_]) rfl ?_
     rintro _ _ _ ⟨rfl, rfl, rfl⟩
     refine wl_reck rfl rfl rfl (freshS_eq rfl) (rk_neg rfl rfl) ?_
     obtain ⟨hg46, hm⟩ := gd_some hm
     refine wl_as (d := 46) (v' := .int .i64 (0 - v45)) (S' := [_,_,_,_,_,_,_,_,_]) rfl rfl (i64_in hg46) ?_
     refine wl_pure rfl rfl rfl (freshS_eq rfl) rfl ?_
     refine wl_pure rfl rfl rfl (freshS_eq rfl) rfl ?_
     refine wl_split (d := 48) (S' := [_,_,_,_,_,_,_,_,_,_,_]) rfl rfl (fun hs48 => ?_) (fun hs48 => ?_)
     ·
      replace hm := iteT hm hs48
      refine wl_off rfl rfl rfl (freshS_eq rfl) ?_
      refine wl_off rfl rfl rfl (freshS_eq rfl) ?_
      refine wl_off rfl rfl rfl (freshS_eq rfl) ?_
      refine wl_off rfl rfl rfl (freshS_eq rfl) ?_
      refine wl_off rfl rfl rfl (freshS_eq rfl) ?_
      refine wl_off rfl rfl rfl (freshS_eq rfl) ?_
      refine wl_off rfl rfl rfl (freshS_eq rfl) ?_
      refine wl_off rfl rfl rfl (freshS_eq rfl) ?_
      refine wl_off rfl rfl rfl (freshS_eq rfl) ?_
      refine wl_off rfl rfl rfl (freshS_eq rfl) ?_
      refine wl_pure rfl rfl rfl (freshS_eq rfl) rfl ?_
      refine wl_nil ?_
      have hE := (Option.some.inj hm).symm
      refine we_pick [1, 2] rfl (H' := [_,_]) rfl ?_
      refine we_join true hE [7, 4, 3, 59] rfl (fun _ _ hφ => ask [0] rfl hφ) rfl
     ·
      replace hm := iteF hm hs48
      refine wl_pure rfl rfl rfl (freshS_eq rfl) rfl ?_
      refine wl_pure rfl rfl rfl (freshS_eq rfl) rfl ?_
      refine wl_pure rfl rfl rfl (freshS_eq rfl) rfl ?_
      refine wl_split (d := 51) (S' := [_,_,_,_,_,_,_,_,_,_,_,_,_,_]) rfl rfl (fun hs51 => ?_) (fun hs51 => ?_)
      ·
       replace hm := iteT hm hs51
       refine wl_pure rfl rfl rfl (freshS_eq rfl) rfl ?_
       refine wl_pure rfl rfl rfl (freshS_eq rfl) rfl ?_
       refine wl_pure rfl rfl rfl (freshS_eq rfl) rfl ?_
       refine wl_pure rfl rfl rfl (freshS_eq rfl) rfl ?_
       refine wl_split (d := 55) (S' := [_,_,_,_,_,_,_,_,_,_,_,_,_,_,_,_,_,_]) rfl rfl (fun hs55 => ?_) (fun hs55 => ?_)
       ·
        replace hm := iteT hm hs55
        refine wl_pure rfl rfl rfl (freshS_eq rfl) rfl ?_
        refine wl_pure rfl rfl rfl (freshS_eq rfl) rfl ?_
        refine wl_pure rfl rfl rfl (freshS_eq rfl) rfl ?_
        refine wl_pure rfl rfl rfl (freshS_eq rfl) rfl ?_
        refine wl_nil ?_
        have hE := (Option.some.inj hm).symm
        refine we_pick [1, 2] rfl (H' := [_,_]) rfl ?_
        refine we_join (decide (v41 > 0)) hE [7, 4, 3, 59] rfl (fun _ _ hφ => ask [0] rfl hφ) rfl
       ·
        replace hm := iteF hm hs55
        refine wl_off rfl rfl rfl (freshS_eq rfl) ?_
        refine wl_off rfl rfl rfl (freshS_eq rfl) ?_
        refine wl_pure rfl rfl rfl (freshS_eq rfl) rfl ?_
        refine wl_pure rfl rfl rfl (freshS_eq rfl) rfl ?_
        refine wl_nil ?_
        have hE := (Option.some.inj hm).symm
        refine we_pick [1, 2] rfl (H' := [_,_]) rfl ?_
        refine we_join false hE [7, 4, 3, 59] rfl (fun _ _ hφ => ask [0] rfl hφ) rfl
      ·
       replace hm := iteF hm hs51
       refine wl_off rfl rfl rfl (freshS_eq rfl) ?_
       refine wl_off rfl rfl rfl (freshS_eq rfl) ?_
       refine wl_pure rfl rfl rfl (freshS_eq rfl) rfl ?_
       refine wl_pure rfl rfl rfl (freshS_eq rfl) rfl ?_
       refine wl_off rfl rfl rfl (freshS_eq rfl) ?_
       refine wl_off rfl rfl rfl (freshS_eq rfl) ?_
       refine wl_pure rfl rfl rfl (freshS_eq rfl) rfl ?_
       refine wl_pure rfl rfl rfl (freshS_eq rfl) rfl ?_
       refine wl_nil ?_
       have hE := (Option.some.inj hm).symm
       refine we_pick [1, 2] rfl (H' := [_,_]) rfl ?_
       refine we_join false hE [7, 4, 3, 59] rfl (fun _ _ hφ => ask [0] rfl hφ) rfl
    ·
     rintro j_2_59 hE
     try dsimp only
     have hm := hLj_2
     rw [hE] at hm
     refine wc_cond rfl (fun hb59 => ?_) (fun hb59 => ?_)
     ·
      replace hm := iteT hm hb59
      refine wc_keep [] (S' := []) rfl ?_
      refine wc_seq ?_
      refine wc_region ?_
      refine wl_pure rfl rfl rfl (freshS_eq rfl) rfl ?_
      refine wl_nil ?_
      refine we_then ?_
      refine wc_ret ?_
      refine we_then_ret ?_
      have hE := (Option.some.inj hm).symm
      replace hE := hE.symm
      subst hE
      refine ret_one (Hr := []) [] Tryd.results7 (res_tmp rfl) ⟨rfl, rfl, rfl⟩ (fun _ _ hφ => ask [] rfl hφ) rfl rfl (.inl rfl)
     ·
      replace hm := iteF hm hb59
      refine wc_keep [7, 4, 3] (S' := [_,_,_]) rfl ?_
      refine wc_skip ?_
      refine we_then ?_
      refine wc_seq ?_
      obtain ⟨v61, hc61, hm⟩ := bindO_some hm
      obtain ⟨v63, hc63, hm⟩ := bindO_some hm
      rcases ite_some hm with ⟨hs69, hm⟩ | ⟨hs69, hm⟩
      ·
       rcases ite_some hm with ⟨hs77, hm⟩ | ⟨hs77, hm⟩
       ·
        obtain ⟨v79, hc79, hm⟩ := bindO_some hm
        refine wc_draw [0, 2, 4, 5, 6, 7, 8, 9, 10, 11, 12, 13, 14, 15, 16, 17, 18, 20, 21] rfl rfl (fun hok => ?_)
        refine wx_loadH hok 0 1 0 rfl rfl rfl (freshS_eq rfl) rfl rfl rfl rfl (cs := [_,_,_]) rfl tS_29 tA_29 rfl rfl ?_
        refine wx_loadH hok 2 0 0 rfl rfl rfl (freshS_eq rfl) rfl rfl rfl rfl (cs := [_,_,_]) rfl tS_29 tA_29 rfl rfl ?_
        refine wx_loadH hok 5 1 0 rfl rfl rfl (freshS_eq rfl) rfl rfl rfl rfl (cs := [_,_,_]) rfl tS_29 tA_29 rfl rfl ?_
        refine wx_loadH hok 6 0 0 rfl rfl rfl (freshS_eq rfl) rfl rfl rfl rfl (cs := [_,_,_]) rfl tS_29 tA_29 rfl rfl ?_
        refine wx_bin hok 7 rfl rfl rfl (freshS_eq rfl) rfl rfl rfl rfl (eqlV _ _ (⟨a0, a1, a2⟩ : V) (⟨a3, a4, a5⟩ : V)) ?_
        refine wx_step1 hok 1 rfl rfl rfl rfl ?_
        refine wl_call [] [0, 1] rfl rfl rfl (freshS_eq rfl) rfl rfl fn_19 rfl (w_value_Text_s N a0 a1 a2 _ hc61) (fun _ _ hφ => ask [0] rfl hφ) rfl (H' := [_,_]) rfl ?_
        rintro _ _ _ ⟨rfl, rfl, rfl⟩
        refine wl_nil ?_
        refine we_x [0] [0, 1, 0] rfl rfl ?_
        refine wx_step1 hok 3 rfl rfl rfl rfl ?_
        refine wl_call [] [0, 1] rfl rfl rfl (freshS_eq rfl) rfl rfl fn_19 rfl (w_value_Text_s N a3 a4 a5 _ hc63) (fun _ _ hφ => ask [0] rfl hφ) rfl (H' := [_,_]) rfl ?_
        rintro _ _ _ ⟨rfl, rfl, rfl⟩
        refine wl_nil ?_
        refine we_x [0] [0, 1, 1] rfl rfl ?_
        refine wx_pure hok 4 rfl rfl rfl (freshS_eq rfl) rfl rfl ?_
        refine wx_bin hok 8 rfl rfl rfl (freshS_eq rfl) rfl rfl rfl rfl (eqlB _ _ (v61.toList == v63.toList) (decide ((⟨a0, a1, a2⟩ : V) = (⟨a3, a4, a5⟩ : V)))) ?_
        refine wx_pure hok 9 rfl rfl rfl (freshS_eq rfl) rfl rfl ?_
        refine wx_as (d := 69) (v' := .bool true) (S' := [_,_,_,_,_,_,_,_,_,_,_,_]) rfl rfl (bool_is hs69) ?_
        refine wx_pure hok 10 rfl rfl rfl (freshS_eq rfl) rfl rfl ?_
        refine wx_pure hok 11 rfl rfl rfl (freshS_eq rfl) rfl rfl ?_
        refine wx_loadH hok 12 1 0 rfl rfl rfl (freshS_eq rfl) rfl rfl rfl rfl (cs := [_,_,_]) rfl tS_29 tA_29 rfl rfl ?_
        refine wx_loadH hok 13 0 0 rfl rfl rfl (freshS_eq rfl) rfl rfl rfl rfl (cs := [_,_,_]) rfl tS_29 tA_29 rfl rfl ?_
        refine wx_bin hok 14 rfl rfl rfl (freshS_eq rfl) rfl rfl rfl rfl (eqlV _ _ (⟨a0, a1, a2⟩ : V) (⟨a3, a4, a5⟩ : V)) ?_
        refine wx_bin hok 15 rfl rfl rfl (freshS_eq rfl) rfl rfl rfl rfl (eqlB _ _ (v35 == 0) (decide ((⟨a0, a1, a2⟩ : V) = (⟨a3, a4, a5⟩ : V)))) ?_
        refine wx_pure hok 16 rfl rfl rfl (freshS_eq rfl) rfl rfl ?_
        refine wx_pure hok 17 rfl rfl rfl (freshS_eq rfl) rfl rfl ?_
        refine wx_as (d := 77) (v' := .bool true) (S' := [_,_,_,_,_,_,_,_,_,_,_,_,_,_,_,_,_,_,_,_]) rfl rfl (bool_is hs77) ?_
        refine wx_loadH hok 18 1 0 rfl rfl rfl (freshS_eq rfl) rfl rfl rfl rfl (cs := [_,_,_]) rfl tS_29 tA_29 rfl rfl ?_
        refine wx_step1 hok 19 rfl rfl rfl rfl ?_
        refine wl_call [] [0, 1] rfl rfl rfl (freshS_eq rfl) rfl rfl fn_19 rfl (w_value_Text_s N a0 a1 a2 _ hc79) (fun _ _ hφ => ask [0] rfl hφ) rfl (H' := [_,_]) rfl ?_
        rintro _ _ _ ⟨rfl, rfl, rfl⟩
        refine wl_nil ?_
        refine we_x [0] [0, 1, 0, 1, 0, 1] rfl rfl ?_
        refine wx_pure hok 20 rfl rfl rfl (freshS_eq rfl) rfl rfl ?_
        refine wx_pure hok 21 rfl rfl rfl (freshS_eq rfl) rfl rfl ?_
        refine wx_step1 hok 22 rfl rfl rfl rfl ?_
        refine wl_pure rfl rfl rfl (freshS_eq rfl) rfl ?_
        refine wl_nil ?_
        refine we_x [0] [] rfl rfl ?_
        refine wx_done hok rfl ?_
        refine we_then ?_
        refine wc_keep [6] (S' := [_]) rfl ?_
        refine wc_ret ?_
        have hE := (Option.some.inj hm).symm
        replace hE := hE.symm
        subst hE
        refine ret_one (Hr := []) [] Tryd.results7 (res_tmp rfl) ⟨rfl, rfl, rfl⟩ (fun _ _ hφ => ask [] rfl hφ) rfl rfl (.inl rfl)
       ·
        refine wc_draw [0, 2, 4, 5, 6, 7, 8, 9, 10, 11, 12, 13, 14, 15, 16, 17, 18, 20, 21] rfl rfl (fun hok => ?_)
        refine wx_loadH hok 0 1 0 rfl rfl rfl (freshS_eq rfl) rfl rfl rfl rfl (cs := [_,_,_]) rfl tS_29 tA_29 rfl rfl ?_
        refine wx_loadH hok 2 0 0 rfl rfl rfl (freshS_eq rfl) rfl rfl rfl rfl (cs := [_,_,_]) rfl tS_29 tA_29 rfl rfl ?_
        refine wx_loadH hok 5 1 0 rfl rfl rfl (freshS_eq rfl) rfl rfl rfl rfl (cs := [_,_,_]) rfl tS_29 tA_29 rfl rfl ?_
        refine wx_loadH hok 6 0 0 rfl rfl rfl (freshS_eq rfl) rfl rfl rfl rfl (cs := [_,_,_]) rfl tS_29 tA_29 rfl rfl ?_
        refine wx_bin hok 7 rfl rfl rfl (freshS_eq rfl) rfl rfl rfl rfl (eqlV _ _ (⟨a0, a1, a2⟩ : V) (⟨a3, a4, a5⟩ : V)) ?_
        refine wx_step1 hok 1 rfl rfl rfl rfl ?_
        refine wl_call [] [0, 1] rfl rfl rfl (freshS_eq rfl) rfl rfl fn_19 rfl (w_value_Text_s N a0 a1 a2 _ hc61) (fun _ _ hφ => ask [0] rfl hφ) rfl (H' := [_,_]) rfl ?_
        rintro _ _ _ ⟨rfl, rfl, rfl⟩
        refine wl_nil ?_
        refine we_x [0] [0, 1, 0] rfl rfl ?_
        refine wx_step1 hok 3 rfl rfl rfl rfl ?_
        refine wl_call [] [0, 1] rfl rfl rfl (freshS_eq rfl) rfl rfl fn_19 rfl (w_value_Text_s N a3 a4 a5 _ hc63) (fun _ _ hφ => ask [0] rfl hφ) rfl (H' := [_,_]) rfl ?_
        rintro _ _ _ ⟨rfl, rfl, rfl⟩
        refine wl_nil ?_
        refine we_x [0] [0, 1, 1] rfl rfl ?_
        refine wx_pure hok 4 rfl rfl rfl (freshS_eq rfl) rfl rfl ?_
        refine wx_bin hok 8 rfl rfl rfl (freshS_eq rfl) rfl rfl rfl rfl (eqlB _ _ (v61.toList == v63.toList) (decide ((⟨a0, a1, a2⟩ : V) = (⟨a3, a4, a5⟩ : V)))) ?_
        refine wx_pure hok 9 rfl rfl rfl (freshS_eq rfl) rfl rfl ?_
        refine wx_as (d := 69) (v' := .bool true) (S' := [_,_,_,_,_,_,_,_,_,_,_,_]) rfl rfl (bool_is hs69) ?_
        refine wx_pure hok 10 rfl rfl rfl (freshS_eq rfl) rfl rfl ?_
        refine wx_pure hok 11 rfl rfl rfl (freshS_eq rfl) rfl rfl ?_
        refine wx_loadH hok 12 1 0 rfl rfl rfl (freshS_eq rfl) rfl rfl rfl rfl (cs := [_,_,_]) rfl tS_29 tA_29 rfl rfl ?_
        refine wx_loadH hok 13 0 0 rfl rfl rfl (freshS_eq rfl) rfl rfl rfl rfl (cs := [_,_,_]) rfl tS_29 tA_29 rfl rfl ?_
        refine wx_bin hok 14 rfl rfl rfl (freshS_eq rfl) rfl rfl rfl rfl (eqlV _ _ (⟨a0, a1, a2⟩ : V) (⟨a3, a4, a5⟩ : V)) ?_
        refine wx_bin hok 15 rfl rfl rfl (freshS_eq rfl) rfl rfl rfl rfl (eqlB _ _ (v35 == 0) (decide ((⟨a0, a1, a2⟩ : V) = (⟨a3, a4, a5⟩ : V)))) ?_
        refine wx_pure hok 16 rfl rfl rfl (freshS_eq rfl) rfl rfl ?_
        refine wx_pure hok 17 rfl rfl rfl (freshS_eq rfl) rfl rfl ?_
        refine wx_as (d := 77) (v' := .bool false) (S' := [_,_,_,_,_,_,_,_,_,_,_,_,_,_,_,_,_,_,_,_]) rfl rfl (bool_is hs77) ?_
        refine wx_off hok 18 rfl rfl rfl (freshS_eq rfl) rfl ?_
        refine wx_step1 hok 19 rfl rfl rfl rfl ?_
        refine wl_off rfl rfl rfl (freshS_eq rfl) ?_
        refine wl_nil ?_
        refine we_x [0] [0, 1, 0, 1, 0, 1] rfl rfl ?_
        refine wx_off hok 20 rfl rfl rfl (freshS_eq rfl) rfl ?_
        refine wx_pure hok 21 rfl rfl rfl (freshS_eq rfl) rfl rfl ?_
        refine wx_step1 hok 22 rfl rfl rfl rfl ?_
        refine wl_pure rfl rfl rfl (freshS_eq rfl) rfl ?_
        refine wl_nil ?_
        refine we_x [0] [] rfl rfl ?_
        refine wx_done hok rfl ?_
        refine we_then ?_
        refine wc_keep [6] (S' := [_]) rfl ?_
        refine wc_ret ?_
        have hE := (Option.some.inj hm).symm
        replace hE := hE.symm
        subst hE
        refine ret_one (Hr := []) [] Tryd.results7 (res_tmp rfl) ⟨rfl, rfl, rfl⟩ (fun _ _ hφ => ask [] rfl hφ) rfl rfl (.inl rfl)
      ·
       refine wc_draw [0, 2, 4, 5, 6, 7, 8, 9, 10, 11, 12, 13, 14, 15, 16, 17, 18, 20, 21] rfl rfl (fun hok => ?_)
       refine wx_loadH hok 0 1 0 rfl rfl rfl (freshS_eq rfl) rfl rfl rfl rfl (cs := [_,_,_]) rfl tS_29 tA_29 rfl rfl ?_
       refine wx_loadH hok 2 0 0 rfl rfl rfl (freshS_eq rfl) rfl rfl rfl rfl (cs := [_,_,_]) rfl tS_29 tA_29 rfl rfl ?_
       refine wx_loadH hok 5 1 0 rfl rfl rfl (freshS_eq rfl) rfl rfl rfl rfl (cs := [_,_,_]) rfl tS_29 tA_29 rfl rfl ?_
       refine wx_loadH hok 6 0 0 rfl rfl rfl (freshS_eq rfl) rfl rfl rfl rfl (cs := [_,_,_]) rfl tS_29 tA_29 rfl rfl ?_
       refine wx_bin hok 7 rfl rfl rfl (freshS_eq rfl) rfl rfl rfl rfl (eqlV _ _ (⟨a0, a1, a2⟩ : V) (⟨a3, a4, a5⟩ : V)) ?_
       refine wx_step1 hok 1 rfl rfl rfl rfl ?_
       refine wl_call [] [0, 1] rfl rfl rfl (freshS_eq rfl) rfl rfl fn_19 rfl (w_value_Text_s N a0 a1 a2 _ hc61) (fun _ _ hφ => ask [0] rfl hφ) rfl (H' := [_,_]) rfl ?_
       rintro _ _ _ ⟨rfl, rfl, rfl⟩
       refine wl_nil ?_
       refine we_x [0] [0, 1, 0] rfl rfl ?_
       refine wx_step1 hok 3 rfl rfl rfl rfl ?_
       refine wl_call [] [0, 1] rfl rfl rfl (freshS_eq rfl) rfl rfl fn_19 rfl (w_value_Text_s N a3 a4 a5 _ hc63) (fun _ _ hφ => ask [0] rfl hφ) rfl (H' := [_,_]) rfl ?_
       rintro _ _ _ ⟨rfl, rfl, rfl⟩
       refine wl_nil ?_
       refine we_x [0] [0, 1, 1] rfl rfl ?_
       refine wx_pure hok 4 rfl rfl rfl (freshS_eq rfl) rfl rfl ?_
       refine wx_bin hok 8 rfl rfl rfl (freshS_eq rfl) rfl rfl rfl rfl (eqlB _ _ (v61.toList == v63.toList) (decide ((⟨a0, a1, a2⟩ : V) = (⟨a3, a4, a5⟩ : V)))) ?_
       refine wx_pure hok 9 rfl rfl rfl (freshS_eq rfl) rfl rfl ?_
       refine wx_as (d := 69) (v' := .bool false) (S' := [_,_,_,_,_,_,_,_,_,_,_,_]) rfl rfl (bool_is hs69) ?_
       refine wx_off hok 10 rfl rfl rfl (freshS_eq rfl) rfl ?_
       refine wx_off hok 11 rfl rfl rfl (freshS_eq rfl) rfl ?_
       refine wx_off hok 12 rfl rfl rfl (freshS_eq rfl) rfl ?_
       refine wx_off hok 13 rfl rfl rfl (freshS_eq rfl) rfl ?_
       refine wx_off hok 14 rfl rfl rfl (freshS_eq rfl) rfl ?_
       refine wx_off hok 15 rfl rfl rfl (freshS_eq rfl) rfl ?_
       refine wx_pure hok 16 rfl rfl rfl (freshS_eq rfl) rfl rfl ?_
       refine wx_pure hok 17 rfl rfl rfl (freshS_eq rfl) rfl rfl ?_
       refine wx_off hok 18 rfl rfl rfl (freshS_eq rfl) rfl ?_
       refine wx_step1 hok 19 rfl rfl rfl rfl ?_
       refine wl_off rfl rfl rfl (freshS_eq rfl) ?_
       refine wl_nil ?_
       refine we_x [0] [0, 1, 0, 1] rfl rfl ?_
       refine wx_off hok 20 rfl rfl rfl (freshS_eq rfl) rfl ?_
       refine wx_pure hok 21 rfl rfl rfl (freshS_eq rfl) rfl rfl ?_
       refine wx_step1 hok 22 rfl rfl rfl rfl ?_
       refine wl_pure rfl rfl rfl (freshS_eq rfl) rfl ?_
       refine wl_nil ?_
       refine we_x [0] [] rfl rfl ?_
       refine wx_done hok rfl ?_
       refine we_then ?_
       refine wc_keep [6] (S' := [_]) rfl ?_
       refine wc_ret ?_
       have hE := (Option.some.inj hm).symm
       replace hE := hE.symm
       subst hE
       refine ret_one (Hr := []) [] Tryd.results7 (res_tmp rfl) ⟨rfl, rfl, rfl⟩ (fun _ _ hφ => ask [] rfl hφ) rfl rfl (.inl rfl)
set_option maxRecDepth 100000 in
set_option maxHeartbeats 4000000 in
theorem w_ropewalkref01_sum_s (N : Nat) (a0 : Int) (a1 : Int) (o0 : Int) (o1 : Bool) (hm : m_ropewalkref01_sum N a0 a1 = some (o0, o1)) : Spec Tryd.prog 46 [.int .i64 a0, .int .i64 a1] [tabF Tryd.prog "internal/strconv.uint64pow10" .u64 Lib.pow10Tab 1 pow10_g] [] (fun v Φr Hr => v = .tuple #[.int .i64 o0, .bool o1] ∧ Φr = [] ∧ Hr = []) := by
 unfold m_ropewalkref01_sum at hm
 refine spec_of Tryd.func46 rfl Tryd.ntmps46 rfl (S := [_,_]) rfl (fun C => ?_)
 refine wc_seq ?_
 refine wc_region ?_
 refine wl_pure rfl rfl rfl (freshS_eq rfl) rfl ?_
 refine wl_pure rfl rfl rfl (freshS_eq rfl) rfl ?_
 refine wl_nil ?_
 refine we_then ?_
 refine wc_keep [0, 1] (S' := [_,_]) rfl ?_
 refine wc_seq ?_
 refine wc_seq ?_
 obtain ⟨bj_1, hm, hLj_1⟩ := bindO_some hm
 unfold m_ropewalkref01_sum_C1 at hm
 refine wc_cut (σ := Bool) (fun j_1_23 => bj_1 = j_1_23) (fun j_1_23 => [(0, .int .i64 a0), (1, .int .i64 a1), (23, .bool j_1_23)]) (fun j_1_23 => [tabF Tryd.prog "internal/strconv.uint64pow10" .u64 Lib.pow10Tab 1 pow10_g]) (fun j_1_23 => []) ?_ ?_
 ·
  refine wc_region ?_
  refine wl_pure rfl rfl rfl (freshS_eq rfl) rfl ?_
  refine wl_pure rfl rfl rfl (freshS_eq rfl) rfl ?_
  refine wl_pure rfl rfl rfl (freshS_eq rfl) rfl ?_
  refine wl_split (d := 8) (S' := [_,_,_,_]) rfl rfl (fun hs8 => ?_) (fun hs8 => ?_)
  ·
   replace hm := iteT hm hs8
   refine wl_pure rfl rfl rfl (freshS_eq rfl) rfl ?_
   refine wl_pure rfl rfl rfl (freshS_eq rfl) rfl ?_
   refine wl_pure rfl rfl rfl (freshS_eq rfl) rfl ?_
   obtain ⟨hg11, hm⟩ := gd_some hm
   refine wl_as (d := 11) (v' := .int .i64 (9223372036854775807 - a1)) (S' := [_,_,_,_,_,_,_]) rfl rfl (i64_in hg11) ?_
   refine wl_pure rfl rfl rfl (freshS_eq rfl) rfl ?_
   refine wl_pure rfl rfl rfl (freshS_eq rfl) rfl ?_
   refine wl_pure rfl rfl rfl (freshS_eq rfl) rfl ?_
   refine wl_split (d := 14) (S' := [_,_,_,_,_,_,_,_,_,_]) rfl rfl (fun hs14 => ?_) (fun hs14 => ?_)
   ·
    replace hm := iteT hm hs14
    refine wl_off rfl rfl rfl (freshS_eq rfl) ?_
    refine wl_off rfl rfl rfl (freshS_eq rfl) ?_
    refine wl_off rfl rfl rfl (freshS_eq rfl) ?_
    refine wl_off rfl rfl rfl (freshS_eq rfl) ?_
    refine wl_off rfl rfl rfl (freshS_eq rfl) ?_
    refine wl_off rfl rfl rfl (freshS_eq rfl) ?_
    refine wl_off rfl rfl rfl (freshS_eq rfl) ?_
    refine wl_off rfl rfl rfl (freshS_eq rfl) ?_
    refine wl_pure rfl rfl rfl (freshS_eq rfl) rfl ?_
    refine wl_nil ?_
    have hE := (Option.some.inj hm).symm
    refine we_join true hE [0, 1, 23] rfl (fun _ _ hφ => ask [0] rfl hφ) rfl
   ·
    replace hm := iteF hm hs14
    refine wl_pure rfl rfl rfl (freshS_eq rfl) rfl ?_
    refine wl_pure rfl rfl rfl (freshS_eq rfl) rfl ?_
    refine wl_pure rfl rfl rfl (freshS_eq rfl) rfl ?_
    refine wl_split (d := 17) (S' := [_,_,_,_,_,_,_,_,_,_,_,_,_]) rfl rfl (fun hs17 => ?_) (fun hs17 => ?_)
    ·
     replace hm := iteT hm hs17
     refine wl_pure rfl rfl rfl (freshS_eq rfl) rfl ?_
     refine wl_pure rfl rfl rfl (freshS_eq rfl) rfl ?_
     refine wl_pure rfl rfl rfl (freshS_eq rfl) rfl ?_
     obtain ⟨hg20, hm⟩ := gd_some hm
     refine wl_as (d := 20) (v' := .int .i64 (-9223372036854775808 - a1)) (S' := [_,_,_,_,_,_,_,_,_,_,_,_,_,_,_,_]) rfl rfl (i64_in hg20) ?_
     refine wl_pure rfl rfl rfl (freshS_eq rfl) rfl ?_
     refine wl_pure rfl rfl rfl (freshS_eq rfl) rfl ?_
     refine wl_pure rfl rfl rfl (freshS_eq rfl) rfl ?_
     refine wl_nil ?_
     have hE := (Option.some.inj hm).symm
     refine we_join (decide (a0 < (-9223372036854775808 - a1))) hE [0, 1, 23] rfl (fun _ _ hφ => ask [0] rfl hφ) rfl
    ·
     replace hm := iteF hm hs17
     refine wl_off rfl rfl rfl (freshS_eq rfl) ?_
     refine wl_off rfl rfl rfl (freshS_eq rfl) ?_
     refine wl_off rfl rfl rfl (freshS_eq rfl) ?_
     refine wl_off rfl rfl rfl (freshS_eq rfl) ?_
     refine wl_pure rfl rfl rfl (freshS_eq rfl) rfl ?_
     refine wl_pure rfl rfl rfl (freshS_eq rfl) rfl ?_
     refine wl_nil ?_
     have hE := (Option.some.inj hm).symm
     refine we_join false hE [0, 1, 23] rfl (fun _ _ hφ => ask [0] rfl hφ) rfl
  ·
   replace hm := iteF hm hs8
   refine wl_off rfl rfl rfl (freshS_eq rfl) ?_
   refine wl_off rfl rfl rfl (freshS_eq rfl) ?_
   refine wl_off rfl rfl rfl (freshS_eq rfl) ?_
   refine wl_off rfl rfl rfl (freshS_eq rfl) ?_
   refine wl_pure rfl rfl rfl (freshS_eq rfl) rfl ?_
   refine wl_pure rfl rfl rfl (freshS_eq rfl) rfl ?_
   refine wl_pure rfl rfl rfl (freshS_eq rfl) rfl ?_
   refine wl_pure rfl rfl rfl (freshS_eq rfl) rfl ?_
   refine wl_pure rfl rfl rfl (freshS_eq rfl) rfl ?_
   refine wl_split (d := 17) (S' := [_,_,_,_,_,_,_,_,_,_,_,_,_]) rfl rfl (fun hs17 => ?_) (fun hs17 => ?_)
   ·
    replace hm := iteT hm hs17
    refine wl_pure rfl rfl rfl (freshS_eq rfl) rfl ?_
    refine wl_pure rfl rfl rfl (freshS_eq rfl) rfl ?_
    refine wl_pure rfl rfl rfl (freshS_eq rfl) rfl ?_
    obtain ⟨hg20, hm⟩ := gd_some hm
    refine wl_as (d := 20) (v' := .int .i64 (-9223372036854775808 - a1)) (S' := [_,_,_,_,_,_,_,_,_,_,_,_,_,_,_,_]) rfl rfl (i64_in hg20) ?_
    refine wl_pure rfl rfl rfl (freshS_eq rfl) rfl ?_
    refine wl_pure rfl rfl rfl (freshS_eq rfl) rfl ?_
    refine wl_pure rfl rfl rfl (freshS_eq rfl) rfl ?_
    refine wl_nil ?_
    have hE := (Option.some.inj hm).symm
    refine we_join (decide (a0 < (-9223372036854775808 - a1))) hE [0, 1, 23] rfl (fun _ _ hφ => ask [0] rfl hφ) rfl
   ·
    replace hm := iteF hm hs17
    refine wl_off rfl rfl rfl (freshS_eq rfl) ?_
    refine wl_off rfl rfl rfl (freshS_eq rfl) ?_
    refine wl_off rfl rfl rfl (freshS_eq rfl) ?_
    refine wl_off rfl rfl rfl (freshS_eq rfl) ?_
    refine wl_pure rfl rfl rfl (freshS_eq rfl) rfl ?_
    refine wl_pure rfl rfl rfl (freshS_eq rfl) rfl ?_
    refine wl_nil ?_
    have hE := (Option.some.inj hm).symm
    refine we_join false hE [0, 1, 23] rfl (fun _ _ hφ => ask [0] rfl hφ) rfl
 ·
  rintro j_1_23 hE
  try dsimp only
  have hm := hLj_1
  rw [hE] at hm
  refine wc_cond rfl (fun hb23 => ?_) (fun hb23 => ?_)
  ·
   replace hm := iteT hm hb23
   refine wc_keep [] (S' := []) rfl ?_
   refine wc_seq ?_
   refine wc_region ?_
   refine wl_pure rfl rfl rfl (freshS_eq rfl) rfl ?_
   refine wl_pure rfl rfl rfl (freshS_eq rfl) rfl ?_
   refine wl_nil ?_
   refine we_then ?_
   refine wc_ret ?_
   refine we_then_ret ?_
   have hE := (Option.some.inj hm).symm
   obtain ⟨hE0, hE1⟩ := Prod.mk.inj hE
   clear hE
   replace hE0 := hE0.symm
   subst hE0
   replace hE1 := hE1.symm
   subst hE1
   refine ret_two (Hr := []) [] Tryd.results46 (res_tmp rfl) (res_tmp rfl) ⟨rfl, rfl, rfl⟩ (fun _ _ hφ => ask [] rfl hφ) rfl rfl (.inl rfl)
  ·
   replace hm := iteF hm hb23
   refine wc_keep [0, 1] (S' := [_,_]) rfl ?_
   refine wc_skip ?_
   refine we_then ?_
   refine wc_seq ?_
   refine wc_region ?_
   refine wl_pure rfl rfl rfl (freshS_eq rfl) rfl ?_
   refine wl_pure rfl rfl rfl (freshS_eq rfl) rfl ?_
   refine wl_pure rfl rfl rfl (freshS_eq rfl) rfl ?_
   obtain ⟨hg26, hm⟩ := gd_some hm
   refine wl_as (d := 26) (v' := .int .i64 (a0 + a1)) (S' := [_,_,_,_]) rfl rfl (i64_in hg26) ?_
   refine wl_pure rfl rfl rfl (freshS_eq rfl) rfl ?_
   refine wl_pure rfl rfl rfl (freshS_eq rfl) rfl ?_
   refine wl_nil ?_
   refine we_then ?_
   refine wc_keep [5, 4] (S' := [_,_]) rfl ?_
   refine wc_ret ?_
   have hE := (Option.some.inj hm).symm
   obtain ⟨hE0, hE1⟩ := Prod.mk.inj hE
   clear hE
   replace hE0 := hE0.symm
   subst hE0
   replace hE1 := hE1.symm
   subst hE1
   refine ret_two (Hr := []) [] Tryd.results46 (res_tmp rfl) (res_tmp rfl) ⟨rfl, rfl, rfl⟩ (fun _ _ hφ => ask [] rfl hφ) rfl rfl (.inl rfl)
set_option maxRecDepth 100000 in
set_option maxHeartbeats 4000000 in
theorem w_ropewalkref01_product_s (N : Nat) (a0 : Int) (a1 : Int) (o0 : Int) (o1 : Bool) (hm : m_ropewalkref01_product N a0 a1 = some (o0, o1)) : Spec Tryd.prog 47 [.int .i64 a0, .int .i64 a1] [tabF Tryd.prog "internal/strconv.uint64pow10" .u64 Lib.pow10Tab 1 pow10_g] [] (fun v Φr Hr => v = .tuple #[.int .i64 o0, .bool o1] ∧ Φr = [] ∧ Hr = []) := by
 unfold m_ropewalkref01_product at hm
 refine spec_of Tryd.func47 rfl Tryd.ntmps47 rfl (S := [_,_]) rfl (fun C => ?_)
 refine wc_seq ?_
 refine wc_region ?_
 refine wl_pure rfl rfl rfl (freshS_eq rfl) rfl ?_
 refine wl_pure rfl rfl rfl (freshS_eq rfl) rfl ?_
 refine wl_nil ?_
 refine we_then ?_
 refine wc_keep [0, 1] (S' := [_,_]) rfl ?_
 refine wc_seq ?_
 refine wc_seq ?_
 obtain ⟨bj_1, hm, hLj_1⟩ := bindO_some hm
 refine wc_cut (σ := Bool) (fun j_1_12 => bj_1 = j_1_12) (fun j_1_12 => [(0, .int .i64 a0), (1, .int .i64 a1), (12, .bool j_1_12)]) (fun j_1_12 => [tabF Tryd.prog "internal/strconv.uint64pow10" .u64 Lib.pow10Tab 1 pow10_g]) (fun j_1_12 => []) ?_ ?_
 ·
  refine wc_region ?_
  refine wl_pure rfl rfl rfl (freshS_eq rfl) rfl ?_
  refine wl_pure rfl rfl rfl (freshS_eq rfl) rfl ?_
  refine wl_pure rfl rfl rfl (freshS_eq rfl) rfl ?_
  refine wl_split (d := 9) (S' := [_,_,_,_]) rfl rfl (fun hs9 => ?_) (fun hs9 => ?_)
  ·
   replace hm := iteT hm hs9
   refine wl_off rfl rfl rfl (freshS_eq rfl) ?_
   refine wl_off rfl rfl rfl (freshS_eq rfl) ?_
   refine wl_pure rfl rfl rfl (freshS_eq rfl) rfl ?_
   refine wl_nil ?_
   have hE := (Option.some.inj hm).symm
   refine we_join true hE [0, 1, 12] rfl (fun _ _ hφ => ask [0] rfl hφ) rfl
  ·
   replace hm := iteF hm hs9
   refine wl_pure rfl rfl rfl (freshS_eq rfl) rfl ?_
   refine wl_pure rfl rfl rfl (freshS_eq rfl) rfl ?_
   refine wl_pure rfl rfl rfl (freshS_eq rfl) rfl ?_
   refine wl_nil ?_
   have hE := (Option.some.inj hm).symm
   refine we_join (a1 == 0) hE [0, 1, 12] rfl (fun _ _ hφ => ask [0] rfl hφ) rfl
 ·
  rintro j_1_12 hE
  try dsimp only
  have hm := hLj_1
  rw [hE] at hm
  refine wc_cond rfl (fun hb12 => ?_) (fun hb12 => ?_)
  ·
   replace hm := iteT hm hb12
   refine wc_keep [] (S' := []) rfl ?_
   refine wc_seq ?_
   refine wc_region ?_
   refine wl_pure rfl rfl rfl (freshS_eq rfl) rfl ?_
   refine wl_pure rfl rfl rfl (freshS_eq rfl) rfl ?_
   refine wl_nil ?_
   refine we_then ?_
   refine wc_ret ?_
   refine we_then_ret ?_
   have hE := (Option.some.inj hm).symm
   obtain ⟨hE0, hE1⟩ := Prod.mk.inj hE
   clear hE
   replace hE0 := hE0.symm
   subst hE0
   replace hE1 := hE1.symm
   subst hE1
   refine ret_two (Hr := []) [] Tryd.results47 (res_tmp rfl) (res_tmp rfl) ⟨rfl, rfl, rfl⟩ (fun _ _ hφ => ask [] rfl hφ) rfl rfl (.inl rfl)
  ·
   replace hm := iteF hm hb12
   refine wc_keep [0, 1] (S' := [_,_]) rfl ?_
   refine wc_skip ?_
   refine we_then ?_
   refine wc_seq ?_
   refine wc_seq ?_
   refine wc_region ?_
   refine wl_pure rfl rfl rfl (freshS_eq rfl) rfl ?_
   refine wl_pure rfl rfl rfl (freshS_eq rfl) rfl ?_
   refine wl_nil ?_
   refine we_then ?_
   refine wc_keep [14, 0, 1] (S' := [_,_,_]) rfl ?_
   refine wc_cond rfl (fun hb14 => ?_) (fun hb14 => ?_)
   ·
    replace hm := iteT hm hb14
    refine wc_keep [1] (S' := [_]) rfl ?_
    refine wc_seq ?_
    refine wc_region ?_
    refine wl_pure rfl rfl rfl (freshS_eq rfl) rfl ?_
    refine wl_reck rfl rfl rfl (freshS_eq rfl) (rk_neg rfl rfl) ?_
    refine wl_pure rfl rfl rfl (freshS_eq rfl) rfl ?_
    refine wl_pure rfl rfl rfl (freshS_eq rfl) rfl ?_
    refine wl_pure rfl rfl rfl (freshS_eq rfl) rfl ?_
    refine wl_pure rfl rfl rfl (freshS_eq rfl) rfl ?_
    refine wl_nil ?_
    refine we_then ?_
    refine wc_keep [5, 4] (S' := [_,_]) rfl ?_
    refine wc_ret ?_
    refine we_then_ret ?_
    have hE := (Option.some.inj hm).symm
    obtain ⟨hE0, hE1⟩ := Prod.mk.inj hE
    clear hE
    replace hE0 := hE0.symm
    subst hE0
    replace hE1 := hE1.symm
    subst hE1
    refine ret_two (Hr := []) [] Tryd.results47 (res_tmp rfl) (res_tmp rfl) ⟨rfl, rfl, rfl⟩ (fun _ _ hφ => ask [] rfl hφ) rfl rfl (.inl rfl)
   ·
    replace hm := iteF hm hb14
    refine wc_keep [0, 1] (S' := [_,_]) rfl ?_
    refine wc_skip ?_
    refine we_then ?_
    refine wc_seq ?_
    refine wc_seq ?_
    refine wc_region ?_
    refine wl_pure rfl rfl rfl (freshS_eq rfl) rfl ?_
    refine wl_pure rfl rfl rfl (freshS_eq rfl) rfl ?_
    refine wl_nil ?_
    refine we_then ?_
    refine wc_keep [20, 0, 1] (S' := [_,_,_]) rfl ?_
    refine wc_cond rfl (fun hb20 => ?_) (fun hb20 => ?_)
    ·
     replace hm := iteT hm hb20
     refine wc_keep [0] (S' := [_]) rfl ?_
     refine wc_seq ?_
     refine wc_region ?_
     refine wl_pure rfl rfl rfl (freshS_eq rfl) rfl ?_
     refine wl_reck rfl rfl rfl (freshS_eq rfl) (rk_neg rfl rfl) ?_
     refine wl_pure rfl rfl rfl (freshS_eq rfl) rfl ?_
     refine wl_pure rfl rfl rfl (freshS_eq rfl) rfl ?_
     refine wl_pure rfl rfl rfl (freshS_eq rfl) rfl ?_
     refine wl_pure rfl rfl rfl (freshS_eq rfl) rfl ?_
     refine wl_nil ?_
     refine we_then ?_
     refine wc_keep [5, 4] (S' := [_,_]) rfl ?_
     refine wc_ret ?_
     refine we_then_ret ?_
     have hE := (Option.some.inj hm).symm
     obtain ⟨hE0, hE1⟩ := Prod.mk.inj hE
     clear hE
     replace hE0 := hE0.symm
     subst hE0
     replace hE1 := hE1.symm
     subst hE1
     refine ret_two (Hr := []) [] Tryd.results47 (res_tmp rfl) (res_tmp rfl) ⟨rfl, rfl, rfl⟩ (fun _ _ hφ => ask [] rfl hφ) rfl rfl (.inl rfl)
    ·
     replace hm := iteF hm hb20
     refine wc_keep [0, 1] (S' := [_,_]) rfl ?_
     refine wc_skip ?_
     refine we_then ?_
     refine wc_seq ?_
     refine wc_region ?_
     refine wl_pure rfl rfl rfl (freshS_eq rfl) rfl ?_
     refine wl_pure rfl rfl rfl (freshS_eq rfl) rfl ?_
     refine wl_pure rfl rfl rfl (freshS_eq rfl) rfl ?_
     refine wl_pure rfl rfl rfl (freshS_eq rfl) rfl ?_
     refine wl_nil ?_
     refine we_then ?_
     refine wc_keep [6, 0, 1] (S' := [_,_,_]) rfl ?_
     refine wc_seq ?_
     obtain ⟨hg31, hm⟩ := gd_some hm
     refine wc_draw [0, 1, 2, 3, 4, 5] rfl rfl (fun hok => ?_)
     refine wx_pure hok 0 rfl rfl rfl (freshS_eq rfl) rfl rfl ?_
     refine wx_pure hok 1 rfl rfl rfl (freshS_eq rfl) rfl rfl ?_
     refine wx_pure hok 2 rfl rfl rfl (freshS_eq rfl) rfl rfl ?_
     refine wx_bin hok 3 rfl rfl rfl (freshS_eq rfl) rfl rfl rfl rfl (run_quo hg31) ?_
     refine wx_pure hok 4 rfl rfl rfl (freshS_eq rfl) rfl rfl ?_
     refine wx_pure hok 5 rfl rfl rfl (freshS_eq rfl) rfl rfl ?_
     refine wx_step1 hok 6 rfl rfl rfl rfl ?_
     refine wl_pure rfl rfl rfl (freshS_eq rfl) rfl ?_
     refine wl_nil ?_
     refine we_x [0] [] rfl rfl ?_
     refine wx_step1 hok 7 rfl rfl rfl rfl ?_
     refine wl_pure rfl rfl rfl (freshS_eq rfl) rfl ?_
     refine wl_nil ?_
     refine we_x [0] [] rfl rfl ?_
     refine wx_done hok rfl ?_
     refine we_then ?_
     refine wc_keep [5, 4] (S' := [_,_]) rfl ?_
     refine wc_ret ?_
     have hE := (Option.some.inj hm).symm
     obtain ⟨hE0, hE1⟩ := Prod.mk.inj hE
     clear hE
     replace hE0 := hE0.symm
     subst hE0
     replace hE1 := hE1.symm
     subst hE1
     refine ret_two (Hr := []) [] Tryd.results47 (res_tmp rfl) (res_tmp rfl) ⟨rfl, rfl, rfl⟩ (fun _ _ hφ => ask [] rfl hφ) rfl rfl (.inl rfl)
end Go.Proofs.YtkddfgjefdlaeaaDoor
