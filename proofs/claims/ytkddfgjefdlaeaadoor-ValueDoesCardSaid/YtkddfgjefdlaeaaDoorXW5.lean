/- Walks, printed by a program out of the loaded code. -/
import Derived.Test.YtkddfgjefdlaeaaDoorXW4
namespace Go.Proofs.YtkddfgjefdlaeaaDoor
open Go.RowKit
set_option maxRecDepth 100000 in
set_option maxHeartbeats 4000000 in
theorem w_ropewalkkit_LentValues_s (N : Nat) (qp0 : Option Addr) (qc1 : Nat) (l0 : List V) (o2 : List V) (hm : m_ropewalkkit_LentValues N l0 = some o2) : Spec Tryd.prog 10 [.slice qp0 l0.length qc1] [.sli 3 R_V qp0 qc1 l0, tabF Tryd.prog "internal/strconv.uint64pow10" .u64 Lib.pow10Tab 1 pow10_g] [] (fun v Φr Hr => ∃ (o0 : Option Addr) (o1 : Nat) (o3 : Nat), v = .slice o0 l0.length o1 ∧ Φr = [] ∧ Hr = [.own 29 3 R_V (.slice o0 o3 o1) o2]) := by
 unfold m_ropewalkkit_LentValues at hm
 refine spec_of Tryd.func10 rfl Tryd.ntmps10 rfl (S := [_]) rfl (fun C => ?_)
 refine wc_seq ?_
 refine wc_region ?_
 refine wl_pure rfl rfl rfl (freshS_eq rfl) rfl ?_
 refine wl_nil ?_
 refine we_then ?_
 refine wc_keep [0] (S' := [_]) rfl ?_
 refine wc_seq ?_
 refine wc_region ?_
 refine wl_pure rfl rfl rfl (freshS_eq rfl) rfl ?_
 refine wl_len rfl rfl rfl (freshS_eq rfl) rfl rfl tE_23 ?_
 refine wl_pure rfl rfl rfl (freshS_eq rfl) rfl ?_
 obtain ⟨hg7, hm⟩ := gd_some hm
 refine wl_as (d := 7) (v' := .int .i64 ((l0.length + 12 : Nat) : Int)) (S' := [_,_,_]) rfl rfl (nat_add (a := l0.length) (b := 12) hg7) ?_
 obtain ⟨hg8, hm⟩ := gd_some hm
 refine wl_makeCap (m := l0.length + 12) R_V rfl rfl rfl (freshS_eq rfl) rfl rfl rfl rfl tE_23 tR_29 rfl rfl (Nat.le_trans (Nat.mul_le_mul_left _ hg8) (by decide)) (Nat.le_trans hg8 (by decide)) (fun g8 => ?_)
 refine wl_pure rfl rfl rfl (freshS_eq rfl) rfl ?_
 refine wl_nil ?_
 refine we_then ?_
 refine wc_keep [3, 0] (S' := [_,_]) rfl ?_
 refine wc_seq ?_
 refine wc_region ?_
 refine wl_pure rfl rfl rfl (freshS_eq rfl) rfl ?_
 refine wl_pure rfl rfl rfl (freshS_eq rfl) rfl ?_
 obtain ⟨hg11, hm⟩ := gd_some hm
 refine wl_append 0 0 rfl rfl rfl (freshS_eq rfl) rfl rfl rfl rfl rfl tE_23 tR_29 rfl rfl (Nat.le_trans hg11 (by decide)) (Nat.le_trans (Nat.mul_le_mul_right _ hg11) (by decide)) (H2 := fun p11 c11 => [.own 29 3 R_V (.slice p11 (l0).length c11) l0]) (fun _ _ => rfl) (fun p11 c11 => ?_)
 refine wl_pure (S' := [_,_,_,_]) rfl rfl rfl rfl rfl ?_
 refine wl_nil ?_
 refine we_then ?_
 refine wc_keep [3, 0] (S' := [_,_]) rfl ?_
 refine wc_seq ?_
 obtain ⟨bj_1, hm, hLj_1⟩ := bindO_some hm
 refine wc_cut (σ := (List V) × (Option Addr) × Nat × Nat) (fun (j_1_3_l, j_1_3_p, j_1_3_c, j_1_3_n) => bj_1 = j_1_3_l) (fun (j_1_3_l, j_1_3_p, j_1_3_c, j_1_3_n) => [(3, .slice j_1_3_p j_1_3_n j_1_3_c), (0, .slice qp0 l0.length qc1)]) (fun (j_1_3_l, j_1_3_p, j_1_3_c, j_1_3_n) => [.sli 3 R_V qp0 qc1 l0, tabF Tryd.prog "internal/strconv.uint64pow10" .u64 Lib.pow10Tab 1 pow10_g]) (fun (j_1_3_l, j_1_3_p, j_1_3_c, j_1_3_n) => [.own 29 3 R_V (.slice j_1_3_p j_1_3_n j_1_3_c) j_1_3_l]) ?_ ?_
 ·
  refine wc_seq ?_
  refine wc_region ?_
  refine wl_pure rfl rfl rfl (freshS_eq rfl) rfl ?_
  refine wl_nil ?_
  refine we_then ?_
  refine wc_block ?_
  refine wc_loop (σ := Nat × Nat × (List V) × (Option Addr) × Nat × Nat) (fun (nu1, u1_4, u1_3_l, u1_3_p, u1_3_c, u1_3_n) => iter (m_ropewalkkit_LentValues_L1 N) nu1 (u1_4, u1_3_l) = some bj_1) (fun (nu1, u1_4, u1_3_l, u1_3_p, u1_3_c, u1_3_n) => nu1) (fun (nu1, u1_4, u1_3_l, u1_3_p, u1_3_c, u1_3_n) => [(4, .int .i64 ((u1_4 : Nat) : Int)), (3, .slice u1_3_p u1_3_n u1_3_c), (0, .slice qp0 l0.length qc1)]) (fun (nu1, u1_4, u1_3_l, u1_3_p, u1_3_c, u1_3_n) => [.sli 3 R_V qp0 qc1 l0, tabF Tryd.prog "internal/strconv.uint64pow10" .u64 Lib.pow10Tab 1 pow10_g]) (fun (nu1, u1_4, u1_3_l, u1_3_p, u1_3_c, u1_3_n) => [.own 29 3 R_V (.slice u1_3_p u1_3_n u1_3_c) u1_3_l]) (N, 0, l0, p11, c11, (l0).length) hm [4, 3, 0] rfl (fun _ _ hφ => ask [0, 1] rfl hφ) rfl (fun s_ hm => ?_)
  obtain ⟨nu1, u1_4, u1_3_l, u1_3_p, u1_3_c, u1_3_n⟩ := s_
  try dsimp only at hm ⊢
  obtain ⟨mu1, bu1, hnu1, hq, hLu1⟩ := iter_some hm
  clear hm
  subst hnu1
  replace hm := hq
  clear hq
  unfold m_ropewalkkit_LentValues_L1 at hm
  try dsimp only at hm
  refine wc_seq ?_
  refine wc_seq ?_
  refine wc_region ?_
  refine wl_pure rfl rfl rfl (freshS_eq rfl) rfl ?_
  refine wl_pure rfl rfl rfl (freshS_eq rfl) rfl ?_
  refine wl_as (d := 13) (v' := .bool (decide (u1_4 < 12))) (S' := [_,_,_,_]) rfl rfl (natlt (a := u1_4) (b := 12)) ?_
  refine wl_nil ?_
  refine we_then ?_
  refine wc_keep [13, 4, 3, 0] (S' := [_,_,_,_]) rfl ?_
  refine wc_cond rfl (fun hb13 => ?_) (fun hb13 => ?_)
  ·
   replace hm := iteT hm hb13
   refine wc_keep [4, 3, 0] (S' := [_,_,_]) rfl ?_
   refine wc_skip ?_
   refine we_then ?_
   refine wc_seq ?_
   refine wc_block ?_
   refine wc_region ?_
   refine wl_pure rfl rfl rfl (freshS_eq rfl) rfl ?_
   refine wl_pure rfl rfl rfl (freshS_eq rfl) rfl ?_
   obtain ⟨_, hc18, hm⟩ := bindO_some hm
   try dsimp only at hm
   refine wl_call [] [0] rfl rfl rfl (freshS_eq rfl) rfl rfl fn_23 rfl (w_ropewalkkit_markValue_s N 1 ((u1_4 : Nat) : Int) hc18) (fun _ _ hφ => ask [1] rfl hφ) rfl (H' := [_]) rfl ?_
   rintro _ _ _ ⟨rfl, rfl, rfl⟩
   refine wl_buildSlice rfl rfl rfl (freshS_eq rfl) rfl tE_23 tS_29 tZ_29 rfl (zs := [.int .u8 0, .int .i64 0, .string ((⟨#[]⟩ : ByteArray))]) (by kernel_rfl) rfl (out := [_,_,_]) rfl (fun g19 => ?_)
   obtain ⟨hg20, hm⟩ := gd_some hm
   refine wl_appendH ([(⟨0, ((1000003 * (1 + 7)) + ((u1_4 : Nat) : Int)), (⟨#[]⟩ : ByteArray)⟩ : V)]) 1 0 rfl rfl rfl (freshS_eq rfl) rfl rfl rfl rfl rfl (fun F w hφ => ⟨[.int .u8 0, .int .i64 ((1000003 * (1 + 7)) + ((u1_4 : Nat) : Int)), .string ((⟨#[]⟩ : ByteArray))], [], rfl, rfl, ⟨(), rfl, ask_nil⟩, rfl⟩) tE_23 tR_29 rfl rfl (Nat.le_trans hg20 (by decide)) (Nat.le_trans (Nat.mul_le_mul_right _ hg20) (by decide)) (H2 := fun p20 c20 => [.blk g19 [.int .u8 0, .int .i64 ((1000003 * (1 + 7)) + ((u1_4 : Nat) : Int)), .string ((⟨#[]⟩ : ByteArray))] 29, .own 29 3 R_V (.slice p20 ((u1_3_l ++ ([(⟨0, ((1000003 * (1 + 7)) + ((u1_4 : Nat) : Int)), (⟨#[]⟩ : ByteArray)⟩ : V)])).length) c20) (u1_3_l ++ ([(⟨0, ((1000003 * (1 + 7)) + ((u1_4 : Nat) : Int)), (⟨#[]⟩ : ByteArray)⟩ : V)]))]) (fun _ _ => rfl) (fun p20 c20 => ?_)
   refine wl_drop 0 rfl (H' := [_]) rfl ?_
   refine wl_pure (S' := [_,_,_,_,_,_,_]) rfl rfl rfl rfl rfl ?_
   refine wl_nil ?_
   refine we_block_normal ?_
   refine we_then ?_
   refine wc_keep [3, 4, 0] (S' := [_,_,_]) rfl ?_
   refine wc_region ?_
   refine wl_pure rfl rfl rfl (freshS_eq rfl) rfl ?_
   refine wl_pure rfl rfl rfl (freshS_eq rfl) rfl ?_
   obtain ⟨hg15, hm⟩ := gd_some hm
   refine wl_as (d := 15) (v' := .int .i64 ((u1_4 + 1 : Nat) : Int)) (S' := [_,_,_,_]) rfl rfl (nat_add (a := u1_4) (b := 1) hg15) ?_
   refine wl_pure (S' := [_,_,_,_]) rfl rfl rfl rfl rfl ?_
   refine wl_nil ?_
   have hE := (Option.some.inj hm).symm
   replace hE := link_inl hLu1 hE
   refine we_roundK (_, u1_4 + 1, (u1_3_l ++ ([(⟨0, ((1000003 * (1 + 7)) + ((u1_4 : Nat) : Int)), (⟨#[]⟩ : ByteArray)⟩ : V)])), p20, c20, ((u1_3_l ++ ([(⟨0, ((1000003 * (1 + 7)) + ((u1_4 : Nat) : Int)), (⟨#[]⟩ : ByteArray)⟩ : V)])).length)) (Nat.lt_succ_self _) hE [4, 3, 0] rfl (fun _ _ hφ => ask [0, 1] rfl hφ) rfl
  ·
   replace hm := iteF hm hb13
   refine wc_keep [3, 0] (S' := [_,_]) rfl ?_
   refine wc_exit ?_
   refine we_then_exit ?_
   refine we_then_exit ?_
   refine we_block_hit ?_
   have hE := (Option.some.inj hm).symm
   replace hE := link_inr hLu1 hE
   refine we_join (u1_3_l, u1_3_p, u1_3_c, u1_3_n) hE [3, 0] rfl (fun _ _ hφ => ask [0, 1] rfl hφ) rfl
 ·
  rintro ⟨j_1_3_l, j_1_3_p, j_1_3_c, j_1_3_n⟩ hE
  try dsimp only
  have hm := hLj_1
  rw [hE] at hm
  refine wc_seq ?_
  refine wc_region ?_
  refine wl_pure rfl rfl rfl (freshS_eq rfl) rfl ?_
  refine wl_pure rfl rfl rfl (freshS_eq rfl) rfl ?_
  refine wl_len rfl rfl rfl (freshS_eq rfl) rfl rfl tE_23 ?_
  obtain ⟨hg24, hm⟩ := gd_some hm
  refine wl_ownSpot 0 rfl (fun hsp24 hcm24 => ?_)
  refine wl_sliceTo rfl rfl rfl (freshS_eq rfl) rfl rfl rfl rfl tE_23 tS_29 (Nat.le_trans hg24 (by rw [← hcm24.2]; exact hcm24.1)) hsp24 ?_
  refine wl_pure rfl rfl rfl (freshS_eq rfl) rfl ?_
  refine wl_nil ?_
  refine we_then ?_
  refine wc_keep [2] (S' := [_]) rfl ?_
  refine wc_ret ?_
  have hE := (Option.some.inj hm).symm
  replace hE := hE.symm
  subst hE
  refine ret_one (Hr := [_]) [0] Tryd.results10 (res_tmp rfl) ⟨j_1_3_p, j_1_3_c, j_1_3_n, rfl, rfl, rfl⟩ (fun _ _ hφ => ask [] rfl hφ) rfl rfl (.inl rfl)
set_option maxRecDepth 100000 in
set_option maxHeartbeats 4000000 in
theorem w_value_Do_v2_s (N : Nat) (a0 : Int) (qp0 : Option Addr) (qn1 : Nat) (qc2 : Nat) (l1 : List V) (k2 : Nat) (o0 : Nat) (o1 : Int) (o2 : Nat) (hm : m_value_Do_v2 N a0 l1 k2 = some (o0, o1, o2)) : Spec Tryd.prog 11 [.int .u8 a0, .slice qp0 k2 qc2] [tabF Tryd.prog "internal/strconv.uint64pow10" .u64 Lib.pow10Tab 1 pow10_g] [.own 29 3 R_V (.slice qp0 qn1 qc2) l1] (fun v Φr Hr => v = .tuple #[.agg #[.int .u8 ((o0 : Nat) : Int), .int .i64 o1, .string ((⟨#[]⟩ : ByteArray))], .int .i64 ((o2 : Nat) : Int)] ∧ Φr = [] ∧ Hr = [.own 29 3 R_V (.slice qp0 qn1 qc2) l1]) := by
 unfold m_value_Do_v2 at hm
 refine spec_of Tryd.func11 rfl Tryd.ntmps11 rfl (S := [_,_]) rfl (fun C => ?_)
 refine wc_seq ?_
 refine wc_region ?_
 refine wl_alloc rfl rfl rfl (freshS_eq rfl) rfl tZ_29 rfl (fun g4 => ?_)
 refine wl_pure rfl rfl rfl (freshS_eq rfl) rfl ?_
 refine wl_nil ?_
 refine we_then ?_
 refine wc_keep [4, 0, 1] (S' := [_,_,_]) rfl ?_
 refine wc_seq ?_
 refine wc_region ?_
 refine wl_pure rfl rfl rfl (freshS_eq rfl) rfl ?_
 refine wl_nil ?_
 refine we_then ?_
 refine wc_seq ?_
 obtain ⟨bj_1, hm, hLj_1⟩ := bindO_some hm
 unfold m_value_Do_v2_C1 at hm
 refine wc_cut (σ := Nat) (fun j_1_6 => bj_1 = j_1_6) (fun j_1_6 => [(4, .pointer (some ⟨g4, 0, none⟩)), (0, .int .u8 a0), (1, .slice qp0 k2 qc2), (6, .int .i64 ((j_1_6 : Nat) : Int))]) (fun j_1_6 => [tabF Tryd.prog "internal/strconv.uint64pow10" .u64 Lib.pow10Tab 1 pow10_g]) (fun j_1_6 => [.blk g4 [.int .u8 0, .int .i64 0, .string ((⟨#[]⟩ : ByteArray))] 29, .own 29 3 R_V (.slice qp0 qn1 qc2) l1]) ?_ ?_
 ·
  refine wc_seq ?_
  obtain ⟨bj_2, hm, hLj_2⟩ := bindO_some hm
  refine wc_cut (σ := Bool) (fun j_2_19 => bj_2 = j_2_19) (fun j_2_19 => [(4, .pointer (some ⟨g4, 0, none⟩)), (0, .int .u8 a0), (1, .slice qp0 k2 qc2), (6, .int .i64 2), (19, .bool j_2_19)]) (fun j_2_19 => [tabF Tryd.prog "internal/strconv.uint64pow10" .u64 Lib.pow10Tab 1 pow10_g]) (fun j_2_19 => [.blk g4 [.int .u8 0, .int .i64 0, .string ((⟨#[]⟩ : ByteArray))] 29, .own 29 3 R_V (.slice qp0 qn1 qc2) l1]) ?_ ?_
  ·
   refine wc_region ?_
   refine wl_pure rfl rfl rfl (freshS_eq rfl) rfl ?_
   refine wl_pure rfl rfl rfl (freshS_eq rfl) rfl ?_
   refine wl_pure rfl rfl rfl (freshS_eq rfl) rfl ?_
   refine wl_split (d := 16) (S' := [_,_,_,_,_,_]) rfl rfl (fun hs16 => ?_) (fun hs16 => ?_)
   ·
    replace hm := iteT hm hs16
    refine wl_off rfl rfl rfl (freshS_eq rfl) ?_
    refine wl_off rfl rfl rfl (freshS_eq rfl) ?_
    refine wl_pure rfl rfl rfl (freshS_eq rfl) rfl ?_
    refine wl_nil ?_
    have hE := (Option.some.inj hm).symm
    refine we_join true hE [4, 0, 1, 6, 19] rfl (fun _ _ hφ => ask [0] rfl hφ) rfl
   ·
    replace hm := iteF hm hs16
    refine wl_pure rfl rfl rfl (freshS_eq rfl) rfl ?_
    refine wl_pure rfl rfl rfl (freshS_eq rfl) rfl ?_
    refine wl_pure rfl rfl rfl (freshS_eq rfl) rfl ?_
    refine wl_nil ?_
    have hE := (Option.some.inj hm).symm
    refine we_join (a0 == 11) hE [4, 0, 1, 6, 19] rfl (fun _ _ hφ => ask [0] rfl hφ) rfl
  ·
   rintro j_2_19 hE
   try dsimp only
   have hm := hLj_2
   rw [hE] at hm
   refine wc_cond rfl (fun hb19 => ?_) (fun hb19 => ?_)
   ·
    replace hm := iteT hm hb19
    refine wc_keep [4, 0, 1] (S' := [_,_,_]) rfl ?_
    refine wc_region ?_
    refine wl_pure rfl rfl rfl (freshS_eq rfl) rfl ?_
    refine wl_nil ?_
    have hE := (Option.some.inj hm).symm
    refine we_join 1 hE [4, 0, 1, 6] rfl (fun _ _ hφ => ask [0] rfl hφ) rfl
   ·
    replace hm := iteF hm hb19
    refine wc_keep [4, 0, 1, 6] (S' := [_,_,_,_]) rfl ?_
    refine wc_skip ?_
    have hE := (Option.some.inj hm).symm
    refine we_join 2 hE [4, 0, 1, 6] rfl (fun _ _ hφ => ask [0] rfl hφ) rfl
 ·
  rintro j_1_6 hE
  try dsimp only
  have hm := hLj_1
  rw [hE] at hm
  refine wc_seq ?_
  refine wc_seq ?_
  obtain ⟨bj_3, hm, hLj_3⟩ := bindO_some hm
  refine wc_cut (σ := Bool) (fun j_3_31 => bj_3 = j_3_31) (fun j_3_31 => [(4, .pointer (some ⟨g4, 0, none⟩)), (0, .int .u8 a0), (1, .slice qp0 k2 qc2), (6, .int .i64 ((j_1_6 : Nat) : Int)), (31, .bool j_3_31)]) (fun j_3_31 => [tabF Tryd.prog "internal/strconv.uint64pow10" .u64 Lib.pow10Tab 1 pow10_g]) (fun j_3_31 => [.blk g4 [.int .u8 0, .int .i64 0, .string ((⟨#[]⟩ : ByteArray))] 29, .own 29 3 R_V (.slice qp0 qn1 qc2) l1]) ?_ ?_
  ·
   refine wc_region ?_
   refine wl_pure rfl rfl rfl (freshS_eq rfl) rfl ?_
   refine wl_pure rfl rfl rfl (freshS_eq rfl) rfl ?_
   refine wl_pure rfl rfl rfl (freshS_eq rfl) rfl ?_
   refine wl_split (d := 22) (S' := [_,_,_,_,_,_]) rfl rfl (fun hs22 => ?_) (fun hs22 => ?_)
   ·
    replace hm := iteT hm hs22
    refine wl_off rfl rfl rfl (freshS_eq rfl) ?_
    refine wl_off rfl rfl rfl (freshS_eq rfl) ?_
    refine wl_pure rfl rfl rfl (freshS_eq rfl) rfl ?_
    refine wl_pure rfl rfl rfl (freshS_eq rfl) rfl ?_
    refine wl_off rfl rfl rfl (freshS_eq rfl) ?_
    refine wl_off rfl rfl rfl (freshS_eq rfl) ?_
    refine wl_off rfl rfl rfl (freshS_eq rfl) ?_
    refine wl_off rfl rfl rfl (freshS_eq rfl) ?_
    refine wl_pure rfl rfl rfl (freshS_eq rfl) rfl ?_
    refine wl_nil ?_
    have hE := (Option.some.inj hm).symm
    refine we_join true hE [4, 0, 1, 6, 31] rfl (fun _ _ hφ => ask [0] rfl hφ) rfl
   ·
    replace hm := iteF hm hs22
    refine wl_pure rfl rfl rfl (freshS_eq rfl) rfl ?_
    refine wl_pure rfl rfl rfl (freshS_eq rfl) rfl ?_
    refine wl_pure rfl rfl rfl (freshS_eq rfl) rfl ?_
    refine wl_pure rfl rfl rfl (freshS_eq rfl) rfl ?_
    refine wl_split (d := 26) (S' := [_,_,_,_,_,_,_,_,_,_]) rfl rfl (fun hs26 => ?_) (fun hs26 => ?_)
    ·
     replace hm := iteT hm hs26
     refine wl_off rfl rfl rfl (freshS_eq rfl) ?_
     refine wl_off rfl rfl rfl (freshS_eq rfl) ?_
     refine wl_off rfl rfl rfl (freshS_eq rfl) ?_
     refine wl_off rfl rfl rfl (freshS_eq rfl) ?_
     refine wl_pure rfl rfl rfl (freshS_eq rfl) rfl ?_
     refine wl_nil ?_
     have hE := (Option.some.inj hm).symm
     refine we_join true hE [4, 0, 1, 6, 31] rfl (fun _ _ hφ => ask [0] rfl hφ) rfl
    ·
     replace hm := iteF hm hs26
     refine wl_pure rfl rfl rfl (freshS_eq rfl) rfl ?_
     refine wl_len rfl rfl rfl (freshS_eq rfl) rfl rfl tE_23 ?_
     refine wl_pure rfl rfl rfl (freshS_eq rfl) rfl ?_
     refine wl_pure rfl rfl rfl (freshS_eq rfl) rfl ?_
     refine wl_as (d := 30) (v' := .bool (k2 != j_1_6)) (S' := [_,_,_,_,_,_,_,_,_,_,_,_,_,_]) rfl rfl (natne (a := k2) (b := j_1_6)) ?_
     refine wl_pure rfl rfl rfl (freshS_eq rfl) rfl ?_
     refine wl_nil ?_
     have hE := (Option.some.inj hm).symm
     refine we_join (k2 != j_1_6) hE [4, 0, 1, 6, 31] rfl (fun _ _ hφ => ask [0] rfl hφ) rfl
  ·
   rintro j_3_31 hE
   try dsimp only
   have hm := hLj_3
   rw [hE] at hm
   refine wc_cond rfl (fun hb31 => ?_) (fun hb31 => ?_)
   ·
    replace hm := iteT hm hb31
    refine wc_keep [4] (S' := [_]) rfl ?_
    refine wc_seq ?_
    refine wc_region ?_
    refine wl_build rfl rfl rfl (freshS_eq rfl) rfl tZ_29 tP_29 rfl (out := [_,_,_]) rfl ?_
    refine wl_store 0 0 rfl rfl rfl rfl rfl rfl rfl tS_29 rfl rfl rfl (all' := [_,_,_]) rfl (H' := [_,_]) rfl ?_
    refine wl_pure rfl rfl rfl (freshS_eq rfl) rfl ?_
    refine wl_nil ?_
    refine we_then ?_
    refine wc_keep [5, 4] (S' := [_,_]) rfl ?_
    refine wc_ret ?_
    refine we_then_ret ?_
    have hE := (Option.some.inj hm).symm
    obtain ⟨hE0, hF1⟩ := Prod.mk.inj hE
    obtain ⟨hE1, hE2⟩ := Prod.mk.inj hF1
    clear hE hF1
    replace hE0 := hE0.symm
    subst hE0
    replace hE1 := hE1.symm
    subst hE1
    replace hE2 := hE2.symm
    subst hE2
    refine ret_two (Hr := [_]) [1] Tryd.results11 (res_cell 0 rfl rfl tS_29 tA_29 rfl rfl) (res_tmp rfl) ⟨rfl, rfl, rfl⟩ (fun _ _ hφ => ask [] rfl hφ) rfl rfl (.inl rfl)
   ·
    replace hm := iteF hm hb31
    refine wc_keep [4, 0, 1, 6] (S' := [_,_,_,_]) rfl ?_
    refine wc_skip ?_
    refine we_then ?_
    refine wc_seq ?_
    refine wc_region ?_
    refine wl_pure rfl rfl rfl (freshS_eq rfl) rfl ?_
    refine wl_nil ?_
    refine we_then ?_
    refine wc_seq ?_
    obtain ⟨bj_4, hm, hLj_4⟩ := bindS_some hm
    refine wc_cut (σ := Bool) (fun j_4_7 => bj_4 = .inl j_4_7) (fun j_4_7 => [(4, .pointer (some ⟨g4, 0, none⟩)), (0, .int .u8 a0), (1, .slice qp0 k2 qc2), (6, .int .i64 ((j_1_6 : Nat) : Int)), (7, .bool j_4_7)]) (fun j_4_7 => [tabF Tryd.prog "internal/strconv.uint64pow10" .u64 Lib.pow10Tab 1 pow10_g]) (fun j_4_7 => [.blk g4 [.int .u8 0, .int .i64 0, .string ((⟨#[]⟩ : ByteArray))] 29, .own 29 3 R_V (.slice qp0 qn1 qc2) l1]) ?_ ?_
    ·
     refine wc_seq ?_
     refine wc_region ?_
     refine wl_pure rfl rfl rfl (freshS_eq rfl) rfl ?_
     refine wl_len rfl rfl rfl (freshS_eq rfl) rfl rfl tE_23 ?_
     refine wl_pure rfl rfl rfl (freshS_eq rfl) rfl ?_
     refine wl_nil ?_
     refine we_then ?_
     refine wc_block ?_
     refine wc_pick [1, 0] rfl (H' := [_,_]) rfl ?_
     refine wc_loop (σ := Nat × Nat × Bool) (fun (nu1, u1_35, u1_7) => iter (m_value_Do_v2_L1 N k2 l1) nu1 (u1_35, u1_7) = some bj_4) (fun (nu1, u1_35, u1_7) => nu1) (fun (nu1, u1_35, u1_7) => [(35, .int .i64 ((u1_35 : Nat) : Int)), (34, .int .i64 ((k2 : Nat) : Int)), (33, .slice qp0 k2 qc2), (7, .bool u1_7), (4, .pointer (some ⟨g4, 0, none⟩)), (0, .int .u8 a0), (1, .slice qp0 k2 qc2), (6, .int .i64 ((j_1_6 : Nat) : Int))]) (fun (nu1, u1_35, u1_7) => [tabF Tryd.prog "internal/strconv.uint64pow10" .u64 Lib.pow10Tab 1 pow10_g]) (fun (nu1, u1_35, u1_7) => [.own 29 3 R_V (.slice qp0 qn1 qc2) l1, .blk g4 [.int .u8 0, .int .i64 0, .string ((⟨#[]⟩ : ByteArray))] 29]) (N, 0, false) hm [35, 34, 33, 7, 4, 0, 1, 6] rfl (fun _ _ hφ => ask [0] rfl hφ) rfl (fun s_ hm => ?_)
     obtain ⟨nu1, u1_35, u1_7⟩ := s_
     try dsimp only at hm ⊢
     obtain ⟨mu1, bu1, hnu1, hq, hLu1⟩ := iter_some hm
     clear hm
     subst hnu1
     replace hm := hq
     clear hq
     unfold m_value_Do_v2_L1 at hm
     try dsimp only at hm
     refine wc_seq ?_
     refine wc_region ?_
     refine wl_pure rfl rfl rfl (freshS_eq rfl) rfl ?_
     refine wl_as (d := 36) (v' := .bool (decide (u1_35 < k2))) (S' := [_,_,_,_,_,_,_,_]) rfl rfl (natlt (a := u1_35) (b := k2)) ?_
     refine wl_nil ?_
     refine we_then ?_
     refine wc_seq ?_
     refine wc_cond rfl (fun hb36 => ?_) (fun hb36 => ?_)
     ·
      replace hm := iteT hm hb36
      refine wc_keep [35, 34, 33, 7, 4, 0, 1, 6] (S' := [_,_,_,_,_,_,_,_]) rfl ?_
      refine wc_skip ?_
      refine we_then ?_
      refine wc_seq ?_
      obtain ⟨bj_5, hm, hLj_5⟩ := bindS_some hm
      unfold m_value_Do_v2_C5 at hm
      refine wc_cut (σ := Bool) (fun j_5_7 => bj_5 = .inl j_5_7) (fun j_5_7 => [(35, .int .i64 ((u1_35 : Nat) : Int)), (34, .int .i64 ((k2 : Nat) : Int)), (33, .slice qp0 k2 qc2), (7, .bool j_5_7), (4, .pointer (some ⟨g4, 0, none⟩)), (0, .int .u8 a0), (1, .slice qp0 k2 qc2), (6, .int .i64 ((j_1_6 : Nat) : Int))]) (fun j_5_7 => [tabF Tryd.prog "internal/strconv.uint64pow10" .u64 Lib.pow10Tab 1 pow10_g]) (fun j_5_7 => [.own 29 3 R_V (.slice qp0 qn1 qc2) l1, .blk g4 [.int .u8 0, .int .i64 0, .string ((⟨#[]⟩ : ByteArray))] 29]) ?_ ?_
      ·
       refine wc_block ?_
       refine wc_seq ?_
       refine wc_region ?_
       obtain ⟨x37, hx37, hm⟩ := bindO_some hm
       obtain ⟨hqx37, hm⟩ := gd_some hm
       refine wl_indexS 0 u1_35 rfl rfl rfl (freshS_eq rfl) rfl rfl rfl rfl rfl hqx37 (get_lt hx37) tE_23 tS_29 (fun g37 eg37 => ?_)
       subst eg37
       refine wl_loadRow R_V_opens 0 u1_35 0 rfl rfl rfl (freshS_eq rfl) rfl rfl rfl hx37 tS_29 tA_29 (v := fun _ => .agg #[.int .u8 (x37.k), .int .i64 (x37.n), .string x37.s]) (fun _ => rfl) (fun _ => rfl) (fun _ _ => ?_)
       refine wl_alloc rfl rfl rfl (freshS_eq rfl) rfl tZ_29 rfl (fun g9 => ?_)
       refine wl_store 0 0 rfl rfl rfl rfl rfl rfl rfl tS_29 rfl rfl rfl (all' := [_,_,_]) rfl (H' := [_,_,_]) rfl ?_
       refine wl_nil ?_
       refine we_then ?_
       refine wc_keep [9, 35, 34, 33, 7, 4, 0, 1, 6] (S' := [_,_,_,_,_,_,_,_,_]) rfl ?_
       refine wc_seq ?_
       refine wc_seq ?_
       refine wc_region ?_
       refine wl_loadH 0 0 rfl rfl rfl (freshS_eq rfl) rfl rfl rfl (cs := [_,_,_]) rfl tS_29 tA_29 rfl rfl ?_
       obtain ⟨v40, hc40, hm⟩ := bindO_some hm
       refine wl_call [] [0, 1, 2] rfl rfl rfl (freshS_eq rfl) rfl rfl fn_15 rfl (w_value_Right_s N x37.k x37.n x37.s _ hc40) (fun _ _ hφ => ask [0] rfl hφ) rfl (H' := [_,_,_]) rfl ?_
       rintro _ _ _ ⟨rfl, rfl, rfl⟩
       refine wl_pure rfl rfl rfl (freshS_eq rfl) rfl ?_
       refine wl_nil ?_
       refine we_then ?_
       refine wc_keep [41, 9, 35, 34, 33, 7, 4, 0, 1, 6] (S' := [_,_,_,_,_,_,_,_,_,_]) rfl ?_
       refine wc_cond rfl (fun hb41 => ?_) (fun hb41 => ?_)
       ·
        replace hm := iteT hm hb41
        refine wc_keep [4] (S' := [_]) rfl ?_
        refine wc_seq ?_
        refine wc_region ?_
        refine wl_build rfl rfl rfl (freshS_eq rfl) rfl tZ_29 tP_29 rfl (out := [_,_,_]) rfl ?_
        refine wl_store 2 0 rfl rfl rfl rfl rfl rfl rfl tS_29 rfl rfl rfl (all' := [_,_,_]) rfl (H' := [_,_,_]) rfl ?_
        refine wl_pure rfl rfl rfl (freshS_eq rfl) rfl ?_
        refine wl_nil ?_
        refine we_then ?_
        refine wc_keep [5, 4] (S' := [_,_]) rfl ?_
        refine wc_ret ?_
        refine we_then_ret ?_
        refine we_block_ret ?_
        refine we_then_ret ?_
        refine we_then_ret ?_
        refine we_block_ret ?_
        refine we_then_ret ?_
        have hE := (Option.some.inj hm).symm
        replace hE := link_inr hLj_5 hE
        replace hE := link_inr hLu1 hE
        replace hE := link_inr hLj_4 hE
        obtain ⟨hE0, hF1⟩ := Prod.mk.inj hE
        obtain ⟨hE1, hE2⟩ := Prod.mk.inj hF1
        clear hE hF1
        replace hE0 := hE0.symm
        subst hE0
        replace hE1 := hE1.symm
        subst hE1
        replace hE2 := hE2.symm
        subst hE2
        refine ret_two (Hr := [_]) [1] Tryd.results11 (res_cell 2 rfl rfl tS_29 tA_29 rfl rfl) (res_tmp rfl) ⟨rfl, rfl, rfl⟩ (fun _ _ hφ => ask [] rfl hφ) rfl rfl (.inl rfl)
       ·
        replace hm := iteF hm hb41
        refine wc_keep [9, 35, 34, 33, 7, 4, 0, 1, 6] (S' := [_,_,_,_,_,_,_,_,_]) rfl ?_
        refine wc_skip ?_
        refine we_then ?_
        refine wc_region ?_
        refine wl_pure rfl rfl rfl (freshS_eq rfl) rfl ?_
        refine wl_pure rfl rfl rfl (freshS_eq rfl) rfl ?_
        refine wl_split (d := 44) (S' := [_,_,_,_,_,_,_,_,_,_]) rfl rfl (fun hs44 => ?_) (fun hs44 => ?_)
        ·
         replace hm := iteT hm hs44
         refine wl_off rfl rfl rfl (freshS_eq rfl) ?_
         refine wl_off rfl rfl rfl (freshS_eq rfl) ?_
         refine wl_off rfl rfl rfl (freshS_eq rfl) ?_
         refine wl_pure rfl rfl rfl (freshS_eq rfl) rfl ?_
         refine wl_pure (S' := [_,_,_,_,_,_,_,_,_,_,_,_,_,_]) rfl rfl rfl rfl rfl ?_
         refine wl_nil ?_
         refine we_block_normal ?_
         have hE := (Option.some.inj hm).symm
         refine we_pick [1, 2] rfl (H' := [_,_]) rfl ?_
         refine we_join true hE [35, 34, 33, 7, 4, 0, 1, 6] rfl (fun _ _ hφ => ask [0] rfl hφ) rfl
        ·
         replace hm := iteF hm hs44
         refine wl_fieldAddr rfl rfl rfl (freshS_eq rfl) rfl rfl tF_29_0 ?_
         refine wl_loadH 0 0 rfl rfl rfl (freshS_eq rfl) rfl rfl rfl (cs := [_]) rfl tS_27 tA_27 rfl rfl ?_
         refine wl_pure rfl rfl rfl (freshS_eq rfl) rfl ?_
         refine wl_pure rfl rfl rfl (freshS_eq rfl) rfl ?_
         refine wl_pure (S' := [_,_,_,_,_,_,_,_,_,_,_,_,_,_]) rfl rfl rfl rfl rfl ?_
         refine wl_nil ?_
         refine we_block_normal ?_
         have hE := (Option.some.inj hm).symm
         refine we_pick [1, 2] rfl (H' := [_,_]) rfl ?_
         refine we_join (x37.k == 2) hE [35, 34, 33, 7, 4, 0, 1, 6] rfl (fun _ _ hφ => ask [0] rfl hφ) rfl
      ·
       rintro j_5_7 hE
       try dsimp only
       have hm := link_inl hLj_5 hE
       refine wc_region ?_
       refine wl_pure rfl rfl rfl (freshS_eq rfl) rfl ?_
       obtain ⟨hg49, hm⟩ := gd_some hm
       refine wl_as (d := 49) (v' := .int .i64 ((u1_35 + 1 : Nat) : Int)) (S' := [_,_,_,_,_,_,_,_]) rfl rfl (nat_add (a := u1_35) (b := 1) hg49) ?_
       refine wl_pure (S' := [_,_,_,_,_,_,_,_]) rfl rfl rfl rfl rfl ?_
       refine wl_nil ?_
       have hE := (Option.some.inj hm).symm
       replace hE := link_inl hLu1 hE
       refine we_roundK (_, u1_35 + 1, j_5_7) (Nat.lt_succ_self _) hE [35, 34, 33, 7, 4, 0, 1, 6] rfl (fun _ _ hφ => ask [0] rfl hφ) rfl
     ·
      replace hm := iteF hm hb36
      refine wc_keep [7, 4, 0, 1, 6] (S' := [_,_,_,_,_]) rfl ?_
      refine wc_exit ?_
      refine we_then_exit ?_
      refine we_then_exit ?_
      refine we_block_hit ?_
      have hE := (Option.some.inj hm).symm
      replace hE := link_inr hLu1 hE
      refine we_pick [1, 0] rfl (H' := [_,_]) rfl ?_
      refine we_join u1_7 hE [4, 0, 1, 6, 7] rfl (fun _ _ hφ => ask [0] rfl hφ) rfl
    ·
     rintro j_4_7 hE
     try dsimp only
     have hm := link_inl hLj_4 hE
     refine wc_seq ?_
     obtain ⟨x51, hx51, hm⟩ := bindO_some hm
     obtain ⟨hqx51, hm⟩ := gd_some hm
     obtain ⟨hg55, hm⟩ := gd_some hm
     obtain ⟨hn56, hm⟩ := gd_some hm
     obtain ⟨x56, hx56, hm⟩ := bindO_some hm
     obtain ⟨hqx56, hm⟩ := gd_some hm
     refine wc_cut (σ := Nat × Nat) (fun _ => True) (fun (w_6_11_g, w_6_10_g) => [(11, .pointer (some ⟨w_6_11_g, 0, none⟩)), (10, .pointer (some ⟨w_6_10_g, 0, none⟩)), (4, .pointer (some ⟨g4, 0, none⟩)), (0, .int .u8 a0), (7, .bool j_4_7)]) (fun (w_6_11_g, w_6_10_g) => [tabF Tryd.prog "internal/strconv.uint64pow10" .u64 Lib.pow10Tab 1 pow10_g]) (fun (w_6_11_g, w_6_10_g) => [.blk w_6_11_g [.int .u8 (x56.k), .int .i64 (x56.n), .string x56.s] 29, .blk w_6_10_g [.int .u8 (x51.k), .int .i64 (x51.n), .string x51.s] 29, .blk g4 [.int .u8 0, .int .i64 0, .string ((⟨#[]⟩ : ByteArray))] 29, .own 29 3 R_V (.slice qp0 qn1 qc2) l1]) ?_ ?_
     ·
      refine wc_draw [0, 1, 2, 3, 4, 5, 6, 7] rfl rfl (fun hok => ?_)
      refine wx_pure hok 0 rfl rfl rfl (freshS_eq rfl) rfl rfl ?_
      refine wx_indexS hok 1 1 0 rfl rfl rfl (freshS_eq rfl) rfl rfl rfl rfl rfl rfl hqx51 (get_lt hx51) tE_23 tS_29 (fun g51 eg51 => ?_)
      subst eg51
      refine wx_loadRow hok 2 R_V_opens 1 0 0 rfl rfl rfl (freshS_eq rfl) rfl rfl rfl rfl hx51 tS_29 tA_29 (v := .agg #[.int .u8 (x51.k), .int .i64 (x51.n), .string x51.s]) rfl rfl (fun _ => ?_)
      refine wx_pure hok 3 rfl rfl rfl (freshS_eq rfl) rfl rfl ?_
      refine wx_pure hok 4 rfl rfl rfl (freshS_eq rfl) rfl rfl ?_
      refine wx_pure hok 5 rfl rfl rfl (freshS_eq rfl) rfl rfl ?_
      refine wx_as (d := 55) (v' := .int .i64 (((j_1_6 : Nat) : Int) - 1)) (S' := [_,_,_,_,_,_,_,_,_,_]) rfl rfl (i64_in hg55) ?_
      refine wx_indexSK hok 6 1 ((((j_1_6 : Nat) : Int) - 1).toNat) rfl rfl rfl (freshS_eq rfl) rfl rfl rfl rfl rfl (toNat_eq hn56) hqx56 (get_lt hx56) tE_23 tS_29 ?_
      refine wx_loadRow hok 7 R_V_opens 1 ((((j_1_6 : Nat) : Int) - 1).toNat) 0 rfl rfl rfl (freshS_eq rfl) rfl rfl rfl rfl hx56 tS_29 tA_29 (v := .agg #[.int .u8 (x56.k), .int .i64 (x56.n), .string x56.s]) rfl rfl (fun _ => ?_)
      refine wx_step2 hok 8 9 rfl rfl rfl rfl rfl rfl ?_ ?_
      ·
       refine wl_alloc rfl rfl rfl (freshS_eq rfl) rfl tZ_29 rfl (fun g10 => ?_)
       refine wl_nil ?_
       refine we_x [0] [2, 2] rfl rfl ?_
       refine wx_step1 hok 9 rfl rfl rfl rfl ?_
       refine wl_alloc rfl rfl rfl (freshS_eq rfl) rfl tZ_29 rfl (fun g11 => ?_)
       refine wl_nil ?_
       refine we_x [0] [3, 3] rfl rfl ?_
       refine wx_step1 hok 10 rfl rfl rfl rfl ?_
       refine wl_store 1 0 rfl rfl rfl rfl rfl rfl rfl tS_29 rfl rfl rfl (all' := [_,_,_]) rfl (H' := [_,_,_,_]) rfl ?_
       refine wl_nil ?_
       refine we_x [0] [3] rfl rfl ?_
       refine wx_step1 hok 11 rfl rfl rfl rfl ?_
       refine wl_store 0 0 rfl rfl rfl rfl rfl rfl rfl tS_29 rfl rfl rfl (all' := [_,_,_]) rfl (H' := [_,_,_,_]) rfl ?_
       refine wl_nil ?_
       refine we_x [0] [] rfl rfl ?_
       refine wx_done hok rfl ?_
       refine we_join (g11, g10) trivial [11, 10, 4, 0, 7] rfl (fun _ _ hφ => ask [0] rfl hφ) rfl
      ·
       refine wl_alloc rfl rfl rfl (freshS_eq rfl) rfl tZ_29 rfl (fun g11 => ?_)
       refine wl_nil ?_
       refine we_x [0] [2, 2] rfl rfl ?_
       refine wx_step1 hok 8 rfl rfl rfl rfl ?_
       refine wl_alloc rfl rfl rfl (freshS_eq rfl) rfl tZ_29 rfl (fun g10 => ?_)
       refine wl_nil ?_
       refine we_x [0] [3, 3] rfl rfl ?_
       refine wx_step1 hok 10 rfl rfl rfl rfl ?_
       refine wl_store 0 0 rfl rfl rfl rfl rfl rfl rfl tS_29 rfl rfl rfl (all' := [_,_,_]) rfl (H' := [_,_,_,_]) rfl ?_
       refine wl_nil ?_
       refine we_x [0] [3] rfl rfl ?_
       refine wx_step1 hok 11 rfl rfl rfl rfl ?_
       refine wl_store 1 0 rfl rfl rfl rfl rfl rfl rfl tS_29 rfl rfl rfl (all' := [_,_,_]) rfl (H' := [_,_,_,_]) rfl ?_
       refine wl_nil ?_
       refine we_x [0] [] rfl rfl ?_
       refine wx_done hok rfl ?_
       refine we_pick [1, 0, 2, 3] rfl (H' := [_,_,_,_]) rfl ?_
       refine we_join (g11, g10) trivial [11, 10, 4, 0, 7] rfl (fun _ _ hφ => ask [0] rfl hφ) rfl
     ·
      rintro ⟨w_6_11_g, w_6_10_g⟩ _
      try dsimp only
      refine wc_seq ?_
      refine wc_block ?_
      refine wc_seq ?_
      refine wc_region ?_
      refine wl_pure rfl rfl rfl (freshS_eq rfl) rfl ?_
      refine wl_pure rfl rfl rfl (freshS_eq rfl) rfl ?_
      refine wl_pure rfl rfl rfl (freshS_eq rfl) rfl ?_
      refine wl_nil ?_
      refine we_then ?_
      refine wc_keep [58, 11, 10, 4, 0, 7] (S' := [_,_,_,_,_,_]) rfl ?_
      refine wc_cond rfl (fun hb58 => ?_) (fun hb58 => ?_)
      ·
       replace hm := iteT hm hb58
       refine wc_keep [11, 10, 4] (S' := [_,_,_]) rfl ?_
       refine wc_seq ?_
       refine wc_region ?_
       refine wl_loadH 1 0 rfl rfl rfl (freshS_eq rfl) rfl rfl rfl (cs := [_,_,_]) rfl tS_29 tA_29 rfl rfl ?_
       refine wl_loadH 0 0 rfl rfl rfl (freshS_eq rfl) rfl rfl rfl (cs := [_,_,_]) rfl tS_29 tA_29 rfl rfl ?_
       refine wl_bin rfl rfl rfl (freshS_eq rfl) rfl rfl rfl (eqlV _ _ x51 x56) ?_
       obtain ⟨v64, hc64, hm⟩ := bindO_some hm
       refine wl_call [] [0, 1, 2, 3] rfl rfl rfl (freshS_eq rfl) rfl rfl fn_21 rfl (w_value_Truth_s N (decide (x51 = x56)) _ hc64) (fun _ _ hφ => ask [0] rfl hφ) rfl (H' := [_,_,_,_]) rfl ?_
       rintro _ _ _ ⟨rfl, rfl, rfl⟩
       refine wl_store 2 0 rfl rfl rfl rfl rfl rfl rfl tS_29 rfl rfl rfl (all' := [_,_,_]) rfl (H' := [_,_,_,_]) rfl ?_
       refine wl_pure rfl rfl rfl (freshS_eq rfl) rfl ?_
       refine wl_nil ?_
       refine we_then ?_
       refine wc_keep [5, 4] (S' := [_,_]) rfl ?_
       refine wc_ret ?_
       refine we_block_ret ?_
       refine we_then_ret ?_
       have hE := (Option.some.inj hm).symm
       obtain ⟨hE0, hF1⟩ := Prod.mk.inj hE
       obtain ⟨hE1, hE2⟩ := Prod.mk.inj hF1
       clear hE hF1
       replace hE0 := hE0.symm
       subst hE0
       replace hE1 := hE1.symm
       subst hE1
       replace hE2 := hE2.symm
       subst hE2
       refine ret_two (Hr := [_]) [3] Tryd.results11 (res_cell 2 rfl rfl tS_29 tA_29 rfl rfl) (res_tmp rfl) ⟨rfl, rfl, rfl⟩ (fun _ _ hφ => ask [] rfl hφ) rfl rfl (.inl rfl)
      ·
       replace hm := iteF hm hb58
       refine wc_keep [11, 10, 4, 0, 7] (S' := [_,_,_,_,_]) rfl ?_
       refine wc_seq ?_
       refine wc_region ?_
       refine wl_pure rfl rfl rfl (freshS_eq rfl) rfl ?_
       refine wl_pure rfl rfl rfl (freshS_eq rfl) rfl ?_
       refine wl_pure rfl rfl rfl (freshS_eq rfl) rfl ?_
       refine wl_nil ?_
       refine we_then ?_
       refine wc_keep [65, 11, 10, 4, 0, 7] (S' := [_,_,_,_,_,_]) rfl ?_
       refine wc_cond rfl (fun hb65 => ?_) (fun hb65 => ?_)
       ·
        replace hm := iteT hm hb65
        refine wc_keep [11, 10, 4] (S' := [_,_,_]) rfl ?_
        refine wc_seq ?_
        refine wc_region ?_
        refine wl_loadH 1 0 rfl rfl rfl (freshS_eq rfl) rfl rfl rfl (cs := [_,_,_]) rfl tS_29 tA_29 rfl rfl ?_
        refine wl_loadH 0 0 rfl rfl rfl (freshS_eq rfl) rfl rfl rfl (cs := [_,_,_]) rfl tS_29 tA_29 rfl rfl ?_
        refine wl_bin rfl rfl rfl (freshS_eq rfl) rfl rfl rfl (neqV _ _ x51 x56) ?_
        obtain ⟨v71, hc71, hm⟩ := bindO_some hm
        refine wl_call [] [0, 1, 2, 3] rfl rfl rfl (freshS_eq rfl) rfl rfl fn_21 rfl (w_value_Truth_s N (!decide (x51 = x56)) _ hc71) (fun _ _ hφ => ask [0] rfl hφ) rfl (H' := [_,_,_,_]) rfl ?_
        rintro _ _ _ ⟨rfl, rfl, rfl⟩
        refine wl_store 2 0 rfl rfl rfl rfl rfl rfl rfl tS_29 rfl rfl rfl (all' := [_,_,_]) rfl (H' := [_,_,_,_]) rfl ?_
        refine wl_pure rfl rfl rfl (freshS_eq rfl) rfl ?_
        refine wl_nil ?_
        refine we_then ?_
        refine wc_keep [5, 4] (S' := [_,_]) rfl ?_
        refine wc_ret ?_
        refine we_block_ret ?_
        refine we_then_ret ?_
        have hE := (Option.some.inj hm).symm
        obtain ⟨hE0, hF1⟩ := Prod.mk.inj hE
        obtain ⟨hE1, hE2⟩ := Prod.mk.inj hF1
        clear hE hF1
        replace hE0 := hE0.symm
        subst hE0
        replace hE1 := hE1.symm
        subst hE1
        replace hE2 := hE2.symm
        subst hE2
        refine ret_two (Hr := [_]) [3] Tryd.results11 (res_cell 2 rfl rfl tS_29 tA_29 rfl rfl) (res_tmp rfl) ⟨rfl, rfl, rfl⟩ (fun _ _ hφ => ask [] rfl hφ) rfl rfl (.inl rfl)
       ·
        replace hm := iteF hm hb65
        refine wc_keep [11, 10, 4, 0, 7] (S' := [_,_,_,_,_]) rfl ?_
        refine wc_seq ?_
        refine wc_region ?_
        refine wl_pure rfl rfl rfl (freshS_eq rfl) rfl ?_
        refine wl_pure rfl rfl rfl (freshS_eq rfl) rfl ?_
        refine wl_nil ?_
        refine we_then ?_
        refine wc_keep [72, 11, 10, 4, 0] (S' := [_,_,_,_,_]) rfl ?_
        refine wc_cond rfl (fun hb72 => ?_) (fun hb72 => ?_)
        ·
         replace hm := iteT hm hb72
         refine wc_keep [4] (S' := [_]) rfl ?_
         refine wc_seq ?_
         refine wc_region ?_
         refine wl_build rfl rfl rfl (freshS_eq rfl) rfl tZ_29 tP_29 rfl (out := [_,_,_]) rfl ?_
         refine wl_store 2 0 rfl rfl rfl rfl rfl rfl rfl tS_29 rfl rfl rfl (all' := [_,_,_]) rfl (H' := [_,_,_,_]) rfl ?_
         refine wl_pure rfl rfl rfl (freshS_eq rfl) rfl ?_
         refine wl_nil ?_
         refine we_then ?_
         refine wc_keep [5, 4] (S' := [_,_]) rfl ?_
         refine wc_ret ?_
         refine we_block_ret ?_
         refine we_then_ret ?_
         have hE := (Option.some.inj hm).symm
         obtain ⟨hE0, hF1⟩ := Prod.mk.inj hE
         obtain ⟨hE1, hE2⟩ := Prod.mk.inj hF1
         clear hE hF1
         replace hE0 := hE0.symm
         subst hE0
         replace hE1 := hE1.symm
         subst hE1
         replace hE2 := hE2.symm
         subst hE2
         refine ret_two (Hr := [_]) [3] Tryd.results11 (res_cell 2 rfl rfl tS_29 tA_29 rfl rfl) (res_tmp rfl) ⟨rfl, rfl, rfl⟩ (fun _ _ hφ => ask [] rfl hφ) rfl rfl (.inl rfl)
        ·
         replace hm := iteF hm hb72
         refine wc_keep [11, 10, 4, 0] (S' := [_,_,_,_]) rfl ?_
         refine wc_skip ?_
         refine we_block_normal ?_
         refine we_then ?_
         refine wc_seq ?_
         obtain ⟨bj_7, hm, hLj_7⟩ := bindO_some hm
         unfold m_value_Do_v2_C7 at hm
         refine wc_cut (σ := Int × Bool) (fun (j_7_12, j_7_13) => bj_7 = (j_7_12, j_7_13)) (fun (j_7_12, j_7_13) => [(4, .pointer (some ⟨g4, 0, none⟩)), (12, .int .i64 j_7_12), (13, .bool j_7_13)]) (fun (j_7_12, j_7_13) => [tabF Tryd.prog "internal/strconv.uint64pow10" .u64 Lib.pow10Tab 1 pow10_g]) (fun (j_7_12, j_7_13) => [.blk g4 [.int .u8 0, .int .i64 0, .string ((⟨#[]⟩ : ByteArray))] 29, .own 29 3 R_V (.slice qp0 qn1 qc2) l1]) ?_ ?_
         ·
          obtain ⟨_ | _ | _ | _ | _ | _ | _ | _ | _ | _, hc77, hm⟩ := bindO_some hm
          ·
           try dsimp only at hm
           obtain ⟨_, hc82, hm⟩ := bindO_some hm
           try dsimp only at hm
           refine wc_draw [0, 2, 3, 4, 5, 7, 8, 9] rfl rfl (fun hok => ?_)
           refine wx_pure hok 0 rfl rfl rfl (freshS_eq rfl) rfl rfl ?_
           refine wx_fieldAddr hok 2 rfl rfl rfl (freshS_eq rfl) rfl rfl rfl tF_29_1 ?_
           refine wx_loadH hok 3 1 1 rfl rfl rfl (freshS_eq rfl) rfl rfl rfl rfl (cs := [_]) rfl tS_2 tA_2 rfl rfl ?_
           refine wx_fieldAddr hok 4 rfl rfl rfl (freshS_eq rfl) rfl rfl rfl tF_29_1 ?_
           refine wx_loadH hok 5 0 1 rfl rfl rfl (freshS_eq rfl) rfl rfl rfl rfl (cs := [_]) rfl tS_2 tA_2 rfl rfl ?_
           refine wx_step1 hok 1 rfl rfl rfl rfl ?_
           refine wl_call [] [0, 1, 2, 3] rfl rfl rfl (freshS_eq rfl) rfl rfl fn_24 rfl (w_value_does_s0 N a0 hc77) (fun _ _ hφ => ask [0] rfl hφ) rfl (H' := [_,_,_,_]) rfl ?_
           rintro _ _ _ ⟨rfl, rfl, rfl⟩
           refine wl_nil ?_
           refine we_x [0] [0, 1] rfl rfl ?_
           refine wx_step1 hok 6 rfl rfl rfl rfl ?_
           refine wl_callDyn [] [0, 1, 2, 3] rfl rfl rfl (freshS_eq rfl) rfl rfl rfl fn_37 rfl rfl (w_value_does_2_s N x51.n x56.n hc82) (fun _ _ hφ => ask [0] rfl hφ) rfl (H' := [_,_,_,_]) rfl ?_
           rintro _ _ _ ⟨rfl, rfl, rfl⟩
           refine wl_nil ?_
           refine we_x [0] [] rfl rfl ?_
           refine wx_pure hok 7 rfl rfl rfl (freshS_eq rfl) rfl rfl ?_
           refine wx_pure hok 8 rfl rfl rfl (freshS_eq rfl) rfl rfl ?_
           refine wx_pure hok 9 rfl rfl rfl (freshS_eq rfl) rfl rfl ?_
           refine wx_step1 hok 10 rfl rfl rfl rfl ?_
           refine wl_pure rfl rfl rfl (freshS_eq rfl) rfl ?_
           refine wl_nil ?_
           refine we_x [0] [] rfl rfl ?_
           refine wx_step1 hok 11 rfl rfl rfl rfl ?_
           refine wl_pure rfl rfl rfl (freshS_eq rfl) rfl ?_
           refine wl_nil ?_
           refine we_x [0] [] rfl rfl ?_
           refine wx_done hok rfl ?_
           have hE := (Option.some.inj hm).symm
           refine we_pick [2, 3] rfl (H' := [_,_]) rfl ?_
           refine we_join (IntKind.wrap .i64 (x51.n + x56.n), (decide ((IntKind.wrap .i64 (x51.n + x56.n)) < x51.n)) == (decide (x56.n < 0))) hE [4, 12, 13] rfl (fun _ _ hφ => ask [0] rfl hφ) rfl
          ·
           try dsimp only at hm
           obtain ⟨_, hc82, hm⟩ := bindO_some hm
           try dsimp only at hm
           refine wc_draw [0, 2, 3, 4, 5, 7, 8, 9] rfl rfl (fun hok => ?_)
           refine wx_pure hok 0 rfl rfl rfl (freshS_eq rfl) rfl rfl ?_
           refine wx_fieldAddr hok 2 rfl rfl rfl (freshS_eq rfl) rfl rfl rfl tF_29_1 ?_
           refine wx_loadH hok 3 1 1 rfl rfl rfl (freshS_eq rfl) rfl rfl rfl rfl (cs := [_]) rfl tS_2 tA_2 rfl rfl ?_
           refine wx_fieldAddr hok 4 rfl rfl rfl (freshS_eq rfl) rfl rfl rfl tF_29_1 ?_
           refine wx_loadH hok 5 0 1 rfl rfl rfl (freshS_eq rfl) rfl rfl rfl rfl (cs := [_]) rfl tS_2 tA_2 rfl rfl ?_
           refine wx_step1 hok 1 rfl rfl rfl rfl ?_
           refine wl_call [] [0, 1, 2, 3] rfl rfl rfl (freshS_eq rfl) rfl rfl fn_24 rfl (w_value_does_s1 N a0 hc77) (fun _ _ hφ => ask [0] rfl hφ) rfl (H' := [_,_,_,_]) rfl ?_
           rintro _ _ _ ⟨rfl, rfl, rfl⟩
           refine wl_nil ?_
           refine we_x [0] [0, 1] rfl rfl ?_
           refine wx_step1 hok 6 rfl rfl rfl rfl ?_
           refine wl_callDyn [] [0, 1, 2, 3] rfl rfl rfl (freshS_eq rfl) rfl rfl rfl fn_38 rfl rfl (w_value_does_3_s N x51.n x56.n hc82) (fun _ _ hφ => ask [0] rfl hφ) rfl (H' := [_,_,_,_]) rfl ?_
           rintro _ _ _ ⟨rfl, rfl, rfl⟩
           refine wl_nil ?_
           refine we_x [0] [] rfl rfl ?_
           refine wx_pure hok 7 rfl rfl rfl (freshS_eq rfl) rfl rfl ?_
           refine wx_pure hok 8 rfl rfl rfl (freshS_eq rfl) rfl rfl ?_
           refine wx_pure hok 9 rfl rfl rfl (freshS_eq rfl) rfl rfl ?_
           refine wx_step1 hok 10 rfl rfl rfl rfl ?_
           refine wl_pure rfl rfl rfl (freshS_eq rfl) rfl ?_
           refine wl_nil ?_
           refine we_x [0] [] rfl rfl ?_
           refine wx_step1 hok 11 rfl rfl rfl rfl ?_
           refine wl_pure rfl rfl rfl (freshS_eq rfl) rfl ?_
           refine wl_nil ?_
           refine we_x [0] [] rfl rfl ?_
           refine wx_done hok rfl ?_
           have hE := (Option.some.inj hm).symm
           refine we_pick [2, 3] rfl (H' := [_,_]) rfl ?_
           refine we_join (IntKind.wrap .i64 (x51.n - x56.n), (decide ((IntKind.wrap .i64 (x51.n - x56.n)) > x51.n)) == (decide (x56.n < 0))) hE [4, 12, 13] rfl (fun _ _ hφ => ask [0] rfl hφ) rfl
          ·
           try dsimp only at hm
           obtain ⟨⟨v82_0, v82_1⟩, hc82, hm⟩ := bindO_some hm
           try dsimp only at hm
           refine wc_draw [0, 2, 3, 4, 5, 7, 8, 9] rfl rfl (fun hok => ?_)
           refine wx_pure hok 0 rfl rfl rfl (freshS_eq rfl) rfl rfl ?_
           refine wx_fieldAddr hok 2 rfl rfl rfl (freshS_eq rfl) rfl rfl rfl tF_29_1 ?_
           refine wx_loadH hok 3 1 1 rfl rfl rfl (freshS_eq rfl) rfl rfl rfl rfl (cs := [_]) rfl tS_2 tA_2 rfl rfl ?_
           refine wx_fieldAddr hok 4 rfl rfl rfl (freshS_eq rfl) rfl rfl rfl tF_29_1 ?_
           refine wx_loadH hok 5 0 1 rfl rfl rfl (freshS_eq rfl) rfl rfl rfl rfl (cs := [_]) rfl tS_2 tA_2 rfl rfl ?_
           refine wx_step1 hok 1 rfl rfl rfl rfl ?_
           refine wl_call [] [0, 1, 2, 3] rfl rfl rfl (freshS_eq rfl) rfl rfl fn_24 rfl (w_value_does_s2 N a0 hc77) (fun _ _ hφ => ask [0] rfl hφ) rfl (H' := [_,_,_,_]) rfl ?_
           rintro _ _ _ ⟨rfl, rfl, rfl⟩
           refine wl_nil ?_
           refine we_x [0] [0, 1] rfl rfl ?_
           refine wx_step1 hok 6 rfl rfl rfl rfl ?_
           refine wl_callDyn [] [0, 1, 2, 3] rfl rfl rfl (freshS_eq rfl) rfl rfl rfl fn_39 rfl rfl (w_value_product_s N x51.n x56.n _ _ hc82) (fun _ _ hφ => ask [0] rfl hφ) rfl (H' := [_,_,_,_]) rfl ?_
           rintro _ _ _ ⟨rfl, rfl, rfl⟩
           refine wl_nil ?_
           refine we_x [0] [] rfl rfl ?_
           refine wx_pure hok 7 rfl rfl rfl (freshS_eq rfl) rfl rfl ?_
           refine wx_pure hok 8 rfl rfl rfl (freshS_eq rfl) rfl rfl ?_
           refine wx_pure hok 9 rfl rfl rfl (freshS_eq rfl) rfl rfl ?_
           refine wx_step1 hok 10 rfl rfl rfl rfl ?_
           refine wl_pure rfl rfl rfl (freshS_eq rfl) rfl ?_
           refine wl_nil ?_
           refine we_x [0] [] rfl rfl ?_
           refine wx_step1 hok 11 rfl rfl rfl rfl ?_
           refine wl_pure rfl rfl rfl (freshS_eq rfl) rfl ?_
           refine wl_nil ?_
           refine we_x [0] [] rfl rfl ?_
           refine wx_done hok rfl ?_
           have hE := (Option.some.inj hm).symm
           refine we_pick [2, 3] rfl (H' := [_,_]) rfl ?_
           refine we_join (v82_0, v82_1) hE [4, 12, 13] rfl (fun _ _ hφ => ask [0] rfl hφ) rfl
          ·
           try dsimp only at hm
           obtain ⟨_, hc82, hm⟩ := bindO_some hm
           try dsimp only at hm
           refine wc_draw [0, 2, 3, 4, 5, 7, 8, 9] rfl rfl (fun hok => ?_)
           refine wx_pure hok 0 rfl rfl rfl (freshS_eq rfl) rfl rfl ?_
           refine wx_fieldAddr hok 2 rfl rfl rfl (freshS_eq rfl) rfl rfl rfl tF_29_1 ?_
           refine wx_loadH hok 3 1 1 rfl rfl rfl (freshS_eq rfl) rfl rfl rfl rfl (cs := [_]) rfl tS_2 tA_2 rfl rfl ?_
           refine wx_fieldAddr hok 4 rfl rfl rfl (freshS_eq rfl) rfl rfl rfl tF_29_1 ?_
           refine wx_loadH hok 5 0 1 rfl rfl rfl (freshS_eq rfl) rfl rfl rfl rfl (cs := [_]) rfl tS_2 tA_2 rfl rfl ?_
           refine wx_step1 hok 1 rfl rfl rfl rfl ?_
           refine wl_call [] [0, 1, 2, 3] rfl rfl rfl (freshS_eq rfl) rfl rfl fn_24 rfl (w_value_does_s3 N a0 hc77) (fun _ _ hφ => ask [0] rfl hφ) rfl (H' := [_,_,_,_]) rfl ?_
           rintro _ _ _ ⟨rfl, rfl, rfl⟩
           refine wl_nil ?_
           refine we_x [0] [0, 1] rfl rfl ?_
           refine wx_step1 hok 6 rfl rfl rfl rfl ?_
           refine wl_callDyn [] [0, 1, 2, 3] rfl rfl rfl (freshS_eq rfl) rfl rfl rfl fn_40 rfl rfl (w_value_does_4_s N x51.n x56.n hc82) (fun _ _ hφ => ask [0] rfl hφ) rfl (H' := [_,_,_,_]) rfl ?_
           rintro _ _ _ ⟨rfl, rfl, rfl⟩
           refine wl_nil ?_
           refine we_x [0] [] rfl rfl ?_
           refine wx_pure hok 7 rfl rfl rfl (freshS_eq rfl) rfl rfl ?_
           refine wx_pure hok 8 rfl rfl rfl (freshS_eq rfl) rfl rfl ?_
           refine wx_pure hok 9 rfl rfl rfl (freshS_eq rfl) rfl rfl ?_
           refine wx_step1 hok 10 rfl rfl rfl rfl ?_
           refine wl_pure rfl rfl rfl (freshS_eq rfl) rfl ?_
           refine wl_nil ?_
           refine we_x [0] [] rfl rfl ?_
           refine wx_step1 hok 11 rfl rfl rfl rfl ?_
           refine wl_pure rfl rfl rfl (freshS_eq rfl) rfl ?_
           refine wl_nil ?_
           refine we_x [0] [] rfl rfl ?_
           refine wx_done hok rfl ?_
           have hE := (Option.some.inj hm).symm
           refine we_pick [2, 3] rfl (H' := [_,_]) rfl ?_
           refine we_join (IntKind.wrap .i64 (0 - x51.n), x51.n != -9223372036854775808) hE [4, 12, 13] rfl (fun _ _ hφ => ask [0] rfl hφ) rfl
          ·
           try dsimp only at hm
           obtain ⟨v82, hc82, hm⟩ := bindO_some hm
           refine wc_draw [0, 2, 3, 4, 5, 7, 8, 9] rfl rfl (fun hok => ?_)
           refine wx_pure hok 0 rfl rfl rfl (freshS_eq rfl) rfl rfl ?_
           refine wx_fieldAddr hok 2 rfl rfl rfl (freshS_eq rfl) rfl rfl rfl tF_29_1 ?_
           refine wx_loadH hok 3 1 1 rfl rfl rfl (freshS_eq rfl) rfl rfl rfl rfl (cs := [_]) rfl tS_2 tA_2 rfl rfl ?_
           refine wx_fieldAddr hok 4 rfl rfl rfl (freshS_eq rfl) rfl rfl rfl tF_29_1 ?_
           refine wx_loadH hok 5 0 1 rfl rfl rfl (freshS_eq rfl) rfl rfl rfl rfl (cs := [_]) rfl tS_2 tA_2 rfl rfl ?_
           refine wx_step1 hok 1 rfl rfl rfl rfl ?_
           refine wl_call [] [0, 1, 2, 3] rfl rfl rfl (freshS_eq rfl) rfl rfl fn_24 rfl (w_value_does_s4 N a0 hc77) (fun _ _ hφ => ask [0] rfl hφ) rfl (H' := [_,_,_,_]) rfl ?_
           rintro _ _ _ ⟨c77_0, rfl, rfl, rfl⟩
           refine wl_nil ?_
           refine we_x [0] [1, 2] rfl rfl ?_
           refine wx_step1 hok 6 rfl rfl rfl rfl ?_
           refine wl_callDyn [0] [1, 2, 3, 4] rfl rfl rfl (freshS_eq rfl) rfl rfl rfl fn_41 rfl rfl (w_value_does_5_s N x51.n x56.n c77_0 _ hc82) (fun _ _ hφ => ask [0] rfl hφ) rfl (H' := [_,_,_,_]) rfl ?_
           rintro _ _ _ ⟨rfl, rfl, rfl⟩
           refine wl_nil ?_
           refine we_x [0] [] rfl rfl ?_
           refine wx_pure hok 7 rfl rfl rfl (freshS_eq rfl) rfl rfl ?_
           refine wx_pure hok 8 rfl rfl rfl (freshS_eq rfl) rfl rfl ?_
           refine wx_pure hok 9 rfl rfl rfl (freshS_eq rfl) rfl rfl ?_
           refine wx_step1 hok 10 rfl rfl rfl rfl ?_
           refine wl_pure rfl rfl rfl (freshS_eq rfl) rfl ?_
           refine wl_nil ?_
           refine we_x [0] [] rfl rfl ?_
           refine wx_step1 hok 11 rfl rfl rfl rfl ?_
           refine wl_pure rfl rfl rfl (freshS_eq rfl) rfl ?_
           refine wl_nil ?_
           refine we_x [0] [] rfl rfl ?_
           refine wx_done hok rfl ?_
           have hE := (Option.some.inj hm).symm
           refine we_pick [3, 4] rfl (H' := [_,_]) rfl ?_
           refine we_join (v82, true) hE [4, 12, 13] rfl (fun _ _ hφ => ask [0] rfl hφ) rfl
          ·
           try dsimp only at hm
           obtain ⟨v82, hc82, hm⟩ := bindO_some hm
           refine wc_draw [0, 2, 3, 4, 5, 7, 8, 9] rfl rfl (fun hok => ?_)
           refine wx_pure hok 0 rfl rfl rfl (freshS_eq rfl) rfl rfl ?_
           refine wx_fieldAddr hok 2 rfl rfl rfl (freshS_eq rfl) rfl rfl rfl tF_29_1 ?_
           refine wx_loadH hok 3 1 1 rfl rfl rfl (freshS_eq rfl) rfl rfl rfl rfl (cs := [_]) rfl tS_2 tA_2 rfl rfl ?_
           refine wx_fieldAddr hok 4 rfl rfl rfl (freshS_eq rfl) rfl rfl rfl tF_29_1 ?_
           refine wx_loadH hok 5 0 1 rfl rfl rfl (freshS_eq rfl) rfl rfl rfl rfl (cs := [_]) rfl tS_2 tA_2 rfl rfl ?_
           refine wx_step1 hok 1 rfl rfl rfl rfl ?_
           refine wl_call [] [0, 1, 2, 3] rfl rfl rfl (freshS_eq rfl) rfl rfl fn_24 rfl (w_value_does_s5 N a0 hc77) (fun _ _ hφ => ask [0] rfl hφ) rfl (H' := [_,_,_,_]) rfl ?_
           rintro _ _ _ ⟨c77_0, rfl, rfl, rfl⟩
           refine wl_nil ?_
           refine we_x [0] [1, 2] rfl rfl ?_
           refine wx_step1 hok 6 rfl rfl rfl rfl ?_
           refine wl_callDyn [0] [1, 2, 3, 4] rfl rfl rfl (freshS_eq rfl) rfl rfl rfl fn_42 rfl rfl (w_value_does_6_s N x51.n x56.n c77_0 _ hc82) (fun _ _ hφ => ask [0] rfl hφ) rfl (H' := [_,_,_,_]) rfl ?_
           rintro _ _ _ ⟨rfl, rfl, rfl⟩
           refine wl_nil ?_
           refine we_x [0] [] rfl rfl ?_
           refine wx_pure hok 7 rfl rfl rfl (freshS_eq rfl) rfl rfl ?_
           refine wx_pure hok 8 rfl rfl rfl (freshS_eq rfl) rfl rfl ?_
           refine wx_pure hok 9 rfl rfl rfl (freshS_eq rfl) rfl rfl ?_
           refine wx_step1 hok 10 rfl rfl rfl rfl ?_
           refine wl_pure rfl rfl rfl (freshS_eq rfl) rfl ?_
           refine wl_nil ?_
           refine we_x [0] [] rfl rfl ?_
           refine wx_step1 hok 11 rfl rfl rfl rfl ?_
           refine wl_pure rfl rfl rfl (freshS_eq rfl) rfl ?_
           refine wl_nil ?_
           refine we_x [0] [] rfl rfl ?_
           refine wx_done hok rfl ?_
           have hE := (Option.some.inj hm).symm
           refine we_pick [3, 4] rfl (H' := [_,_]) rfl ?_
           refine we_join (v82, true) hE [4, 12, 13] rfl (fun _ _ hφ => ask [0] rfl hφ) rfl
          ·
           try dsimp only at hm
           obtain ⟨v82, hc82, hm⟩ := bindO_some hm
           refine wc_draw [0, 2, 3, 4, 5, 7, 8, 9] rfl rfl (fun hok => ?_)
           refine wx_pure hok 0 rfl rfl rfl (freshS_eq rfl) rfl rfl ?_
           refine wx_fieldAddr hok 2 rfl rfl rfl (freshS_eq rfl) rfl rfl rfl tF_29_1 ?_
           refine wx_loadH hok 3 1 1 rfl rfl rfl (freshS_eq rfl) rfl rfl rfl rfl (cs := [_]) rfl tS_2 tA_2 rfl rfl ?_
           refine wx_fieldAddr hok 4 rfl rfl rfl (freshS_eq rfl) rfl rfl rfl tF_29_1 ?_
           refine wx_loadH hok 5 0 1 rfl rfl rfl (freshS_eq rfl) rfl rfl rfl rfl (cs := [_]) rfl tS_2 tA_2 rfl rfl ?_
           refine wx_step1 hok 1 rfl rfl rfl rfl ?_
           refine wl_call [] [0, 1, 2, 3] rfl rfl rfl (freshS_eq rfl) rfl rfl fn_24 rfl (w_value_does_s6 N a0 hc77) (fun _ _ hφ => ask [0] rfl hφ) rfl (H' := [_,_,_,_]) rfl ?_
           rintro _ _ _ ⟨c77_0, rfl, rfl, rfl⟩
           refine wl_nil ?_
           refine we_x [0] [1, 2] rfl rfl ?_
           refine wx_step1 hok 6 rfl rfl rfl rfl ?_
           refine wl_callDyn [0] [1, 2, 3, 4] rfl rfl rfl (freshS_eq rfl) rfl rfl rfl fn_43 rfl rfl (w_value_does_7_s N x51.n x56.n c77_0 _ hc82) (fun _ _ hφ => ask [0] rfl hφ) rfl (H' := [_,_,_,_]) rfl ?_
           rintro _ _ _ ⟨rfl, rfl, rfl⟩
           refine wl_nil ?_
           refine we_x [0] [] rfl rfl ?_
           refine wx_pure hok 7 rfl rfl rfl (freshS_eq rfl) rfl rfl ?_
           refine wx_pure hok 8 rfl rfl rfl (freshS_eq rfl) rfl rfl ?_
           refine wx_pure hok 9 rfl rfl rfl (freshS_eq rfl) rfl rfl ?_
           refine wx_step1 hok 10 rfl rfl rfl rfl ?_
           refine wl_pure rfl rfl rfl (freshS_eq rfl) rfl ?_
           refine wl_nil ?_
           refine we_x [0] [] rfl rfl ?_
           refine wx_step1 hok 11 rfl rfl rfl rfl ?_
           refine wl_pure rfl rfl rfl (freshS_eq rfl) rfl ?_
           refine wl_nil ?_
           refine we_x [0] [] rfl rfl ?_
           refine wx_done hok rfl ?_
           have hE := (Option.some.inj hm).symm
           refine we_pick [3, 4] rfl (H' := [_,_]) rfl ?_
           refine we_join (v82, true) hE [4, 12, 13] rfl (fun _ _ hφ => ask [0] rfl hφ) rfl
          ·
           try dsimp only at hm
           obtain ⟨v82, hc82, hm⟩ := bindO_some hm
           refine wc_draw [0, 2, 3, 4, 5, 7, 8, 9] rfl rfl (fun hok => ?_)
           refine wx_pure hok 0 rfl rfl rfl (freshS_eq rfl) rfl rfl ?_
           refine wx_fieldAddr hok 2 rfl rfl rfl (freshS_eq rfl) rfl rfl rfl tF_29_1 ?_
           refine wx_loadH hok 3 1 1 rfl rfl rfl (freshS_eq rfl) rfl rfl rfl rfl (cs := [_]) rfl tS_2 tA_2 rfl rfl ?_
           refine wx_fieldAddr hok 4 rfl rfl rfl (freshS_eq rfl) rfl rfl rfl tF_29_1 ?_
           refine wx_loadH hok 5 0 1 rfl rfl rfl (freshS_eq rfl) rfl rfl rfl rfl (cs := [_]) rfl tS_2 tA_2 rfl rfl ?_
           refine wx_step1 hok 1 rfl rfl rfl rfl ?_
           refine wl_call [] [0, 1, 2, 3] rfl rfl rfl (freshS_eq rfl) rfl rfl fn_24 rfl (w_value_does_s7 N a0 hc77) (fun _ _ hφ => ask [0] rfl hφ) rfl (H' := [_,_,_,_]) rfl ?_
           rintro _ _ _ ⟨c77_0, rfl, rfl, rfl⟩
           refine wl_nil ?_
           refine we_x [0] [1, 2] rfl rfl ?_
           refine wx_step1 hok 6 rfl rfl rfl rfl ?_
           refine wl_callDyn [0] [1, 2, 3, 4] rfl rfl rfl (freshS_eq rfl) rfl rfl rfl fn_44 rfl rfl (w_value_does_8_s N x51.n x56.n c77_0 _ hc82) (fun _ _ hφ => ask [0] rfl hφ) rfl (H' := [_,_,_,_]) rfl ?_
           rintro _ _ _ ⟨rfl, rfl, rfl⟩
           refine wl_nil ?_
           refine we_x [0] [] rfl rfl ?_
           refine wx_pure hok 7 rfl rfl rfl (freshS_eq rfl) rfl rfl ?_
           refine wx_pure hok 8 rfl rfl rfl (freshS_eq rfl) rfl rfl ?_
           refine wx_pure hok 9 rfl rfl rfl (freshS_eq rfl) rfl rfl ?_
           refine wx_step1 hok 10 rfl rfl rfl rfl ?_
           refine wl_pure rfl rfl rfl (freshS_eq rfl) rfl ?_
           refine wl_nil ?_
           refine we_x [0] [] rfl rfl ?_
           refine wx_step1 hok 11 rfl rfl rfl rfl ?_
           refine wl_pure rfl rfl rfl (freshS_eq rfl) rfl ?_
           refine wl_nil ?_
           refine we_x [0] [] rfl rfl ?_
           refine wx_done hok rfl ?_
           have hE := (Option.some.inj hm).symm
           refine we_pick [3, 4] rfl (H' := [_,_]) rfl ?_
           refine we_join (v82, true) hE [4, 12, 13] rfl (fun _ _ hφ => ask [0] rfl hφ) rfl
          ·
           try dsimp only at hm
           obtain ⟨v82, hc82, hm⟩ := bindO_some hm
           refine wc_draw [0, 2, 3, 4, 5, 7, 8, 9] rfl rfl (fun hok => ?_)
           refine wx_pure hok 0 rfl rfl rfl (freshS_eq rfl) rfl rfl ?_
           refine wx_fieldAddr hok 2 rfl rfl rfl (freshS_eq rfl) rfl rfl rfl tF_29_1 ?_
           refine wx_loadH hok 3 1 1 rfl rfl rfl (freshS_eq rfl) rfl rfl rfl rfl (cs := [_]) rfl tS_2 tA_2 rfl rfl ?_
           refine wx_fieldAddr hok 4 rfl rfl rfl (freshS_eq rfl) rfl rfl rfl tF_29_1 ?_
           refine wx_loadH hok 5 0 1 rfl rfl rfl (freshS_eq rfl) rfl rfl rfl rfl (cs := [_]) rfl tS_2 tA_2 rfl rfl ?_
           refine wx_step1 hok 1 rfl rfl rfl rfl ?_
           refine wl_call [] [0, 1, 2, 3] rfl rfl rfl (freshS_eq rfl) rfl rfl fn_24 rfl (w_value_does_s8 N a0 hc77) (fun _ _ hφ => ask [0] rfl hφ) rfl (H' := [_,_,_,_]) rfl ?_
           rintro _ _ _ ⟨c77_0, rfl, rfl, rfl⟩
           refine wl_nil ?_
           refine we_x [0] [1, 2] rfl rfl ?_
           refine wx_step1 hok 6 rfl rfl rfl rfl ?_
           refine wl_callDyn [0] [1, 2, 3, 4] rfl rfl rfl (freshS_eq rfl) rfl rfl rfl fn_45 rfl rfl (w_value_does_9_s N x51.n x56.n c77_0 _ hc82) (fun _ _ hφ => ask [0] rfl hφ) rfl (H' := [_,_,_,_]) rfl ?_
           rintro _ _ _ ⟨rfl, rfl, rfl⟩
           refine wl_nil ?_
           refine we_x [0] [] rfl rfl ?_
           refine wx_pure hok 7 rfl rfl rfl (freshS_eq rfl) rfl rfl ?_
           refine wx_pure hok 8 rfl rfl rfl (freshS_eq rfl) rfl rfl ?_
           refine wx_pure hok 9 rfl rfl rfl (freshS_eq rfl) rfl rfl ?_
           refine wx_step1 hok 10 rfl rfl rfl rfl ?_
           refine wl_pure rfl rfl rfl (freshS_eq rfl) rfl ?_
           refine wl_nil ?_
           refine we_x [0] [] rfl rfl ?_
           refine wx_step1 hok 11 rfl rfl rfl rfl ?_
           refine wl_pure rfl rfl rfl (freshS_eq rfl) rfl ?_
           refine wl_nil ?_
           refine we_x [0] [] rfl rfl ?_
           refine wx_done hok rfl ?_
           have hE := (Option.some.inj hm).symm
           refine we_pick [3, 4] rfl (H' := [_,_]) rfl ?_
           refine we_join (v82, true) hE [4, 12, 13] rfl (fun _ _ hφ => ask [0] rfl hφ) rfl
          ·
           try dsimp only at hm
           cases hm
         ·
          rintro ⟨j_7_12, j_7_13⟩ hE
          try dsimp only
          have hm := hLj_7
          rw [hE] at hm
          try dsimp only at hm
          refine wc_seq ?_
          refine wc_seq ?_
          refine wc_region ?_
          refine wl_pure rfl rfl rfl (freshS_eq rfl) rfl ?_
          refine wl_pure rfl rfl rfl (freshS_eq rfl) rfl ?_
          refine wl_nil ?_
          refine we_then ?_
          refine wc_keep [86, 4, 12] (S' := [_,_,_]) rfl ?_
          refine wc_cond rfl (fun hb86 => ?_) (fun hb86 => ?_)
          ·
           replace hm := iteT hm hb86
           refine wc_keep [4] (S' := [_]) rfl ?_
           refine wc_seq ?_
           refine wc_region ?_
           refine wl_build rfl rfl rfl (freshS_eq rfl) rfl tZ_29 tP_29 rfl (out := [_,_,_]) rfl ?_
           refine wl_store 0 0 rfl rfl rfl rfl rfl rfl rfl tS_29 rfl rfl rfl (all' := [_,_,_]) rfl (H' := [_,_]) rfl ?_
           refine wl_pure rfl rfl rfl (freshS_eq rfl) rfl ?_
           refine wl_nil ?_
           refine we_then ?_
           refine wc_keep [5, 4] (S' := [_,_]) rfl ?_
           refine wc_ret ?_
           refine we_then_ret ?_
           have hE := (Option.some.inj hm).symm
           obtain ⟨hE0, hF1⟩ := Prod.mk.inj hE
           obtain ⟨hE1, hE2⟩ := Prod.mk.inj hF1
           clear hE hF1
           replace hE0 := hE0.symm
           subst hE0
           replace hE1 := hE1.symm
           subst hE1
           replace hE2 := hE2.symm
           subst hE2
           refine ret_two (Hr := [_]) [1] Tryd.results11 (res_cell 0 rfl rfl tS_29 tA_29 rfl rfl) (res_tmp rfl) ⟨rfl, rfl, rfl⟩ (fun _ _ hφ => ask [] rfl hφ) rfl rfl (.inl rfl)
          ·
           replace hm := iteF hm hb86
           refine wc_keep [4, 12] (S' := [_,_]) rfl ?_
           refine wc_skip ?_
           refine we_then ?_
           refine wc_seq ?_
           refine wc_region ?_
           refine wl_pure rfl rfl rfl (freshS_eq rfl) rfl ?_
           obtain ⟨_, hc89, hm⟩ := bindO_some hm
           try dsimp only at hm
           refine wl_call [] [0, 1] rfl rfl rfl (freshS_eq rfl) rfl rfl fn_25 rfl (w_value_number_s N j_7_12 hc89) (fun _ _ hφ => ask [0] rfl hφ) rfl (H' := [_,_]) rfl ?_
           rintro _ _ _ ⟨rfl, rfl, rfl⟩
           refine wl_store 0 0 rfl rfl rfl rfl rfl rfl rfl tS_29 rfl rfl rfl (all' := [_,_,_]) rfl (H' := [_,_]) rfl ?_
           refine wl_pure rfl rfl rfl (freshS_eq rfl) rfl ?_
           refine wl_nil ?_
           refine we_then ?_
           refine wc_keep [5, 4] (S' := [_,_]) rfl ?_
           refine wc_ret ?_
           have hE := (Option.some.inj hm).symm
           obtain ⟨hE0, hF1⟩ := Prod.mk.inj hE
           obtain ⟨hE1, hE2⟩ := Prod.mk.inj hF1
           clear hE hF1
           replace hE0 := hE0.symm
           subst hE0
           replace hE1 := hE1.symm
           subst hE1
           replace hE2 := hE2.symm
           subst hE2
           refine ret_two (Hr := [_]) [1] Tryd.results11 (res_cell 0 rfl rfl tS_29 tA_29 rfl rfl) (res_tmp rfl) ⟨rfl, rfl, rfl⟩ (fun _ _ hφ => ask [] rfl hφ) rfl rfl (.inl rfl)
set_option maxRecDepth 100000 in
set_option maxHeartbeats 4000000 in
theorem w_ropewalkkit_KeptValues_s (N : Nat) (qp0 : Option Addr) (qn1 : Nat) (qc2 : Nat) (l0 : List V) (k1 : Nat) (qp3 : Option Addr) (qc4 : Nat) (l2 : List V) (o0 : Bool) (hm : m_ropewalkkit_KeptValues N l0 k1 l2 = some o0) : Spec Tryd.prog 13 [.slice qp0 k1 qc2, .slice qp3 l2.length qc4] [.sli 3 R_V qp3 qc4 l2, tabF Tryd.prog "internal/strconv.uint64pow10" .u64 Lib.pow10Tab 1 pow10_g] [.own 29 3 R_V (.slice qp0 qn1 qc2) l0] (fun v Φr Hr => v = .bool o0 ∧ Φr = [] ∧ Hr = [.own 29 3 R_V (.slice qp0 qn1 qc2) l0]) := by
 unfold m_ropewalkkit_KeptValues at hm
 refine spec_of Tryd.func13 rfl Tryd.ntmps13 rfl (S := [_,_]) rfl (fun C => ?_)
 refine wc_seq ?_
 refine wc_region ?_
 refine wl_pure rfl rfl rfl (freshS_eq rfl) rfl ?_
 refine wl_nil ?_
 refine we_then ?_
 refine wc_keep [0, 1] (S' := [_,_]) rfl ?_
 refine wc_seq ?_
 refine wc_seq ?_
 refine wc_region ?_
 refine wl_pure rfl rfl rfl (freshS_eq rfl) rfl ?_
 refine wl_len rfl rfl rfl (freshS_eq rfl) rfl rfl tE_23 ?_
 refine wl_pure rfl rfl rfl (freshS_eq rfl) rfl ?_
 refine wl_len rfl rfl rfl (freshS_eq rfl) rfl rfl tE_23 ?_
 refine wl_pure rfl rfl rfl (freshS_eq rfl) rfl ?_
 refine wl_as (d := 11) (v' := .bool (k1 != l2.length)) (S' := [_,_,_,_,_,_]) rfl rfl (natne (a := k1) (b := l2.length)) ?_
 refine wl_nil ?_
 refine we_then ?_
 refine wc_keep [11, 0, 1] (S' := [_,_,_]) rfl ?_
 refine wc_cond rfl (fun hb11 => ?_) (fun hb11 => ?_)
 ·
  replace hm := iteT hm hb11
  refine wc_keep [] (S' := []) rfl ?_
  refine wc_seq ?_
  refine wc_region ?_
  refine wl_pure rfl rfl rfl (freshS_eq rfl) rfl ?_
  refine wl_nil ?_
  refine we_then ?_
  refine wc_ret ?_
  refine we_then_ret ?_
  have hE := (Option.some.inj hm).symm
  replace hE := hE.symm
  subst hE
  refine ret_one (Hr := [_]) [0] Tryd.results13 (res_tmp rfl) ⟨rfl, rfl, rfl⟩ (fun _ _ hφ => ask [] rfl hφ) rfl rfl (.inl rfl)
 ·
  replace hm := iteF hm hb11
  refine wc_keep [0, 1] (S' := [_,_]) rfl ?_
  refine wc_skip ?_
  refine we_then ?_
  refine wc_seq ?_
  refine wc_region ?_
  refine wl_pure rfl rfl rfl (freshS_eq rfl) rfl ?_
  refine wl_pure rfl rfl rfl (freshS_eq rfl) rfl ?_
  refine wl_len rfl rfl rfl (freshS_eq rfl) rfl rfl tE_23 ?_
  refine wl_pure rfl rfl rfl (freshS_eq rfl) rfl ?_
  obtain ⟨hg15, hm⟩ := gd_some hm
  refine wl_as (d := 15) (v' := .int .i64 ((l2.length + 12 : Nat) : Int)) (S' := [_,_,_,_,_]) rfl rfl (nat_add (a := l2.length) (b := 12) hg15) ?_
  obtain ⟨hg16, hm⟩ := gd_some hm
  refine wl_ownSpot 0 rfl (fun hsp16 hcm16 => ?_)
  refine wl_sliceTo rfl rfl rfl (freshS_eq rfl) rfl rfl rfl rfl tE_23 tS_29 (Nat.le_trans hg16 (by rw [← hcm16.2]; exact hcm16.1)) hsp16 ?_
  refine wl_pure rfl rfl rfl (freshS_eq rfl) rfl ?_
  refine wl_nil ?_
  refine we_then ?_
  refine wc_keep [5, 1] (S' := [_,_]) rfl ?_
  refine wc_seq ?_
  obtain ⟨bj_1, hm, hLj_1⟩ := bindS_some hm
  refine wc_cut (σ := Unit) (fun _ => bj_1 = .inl ()) (fun _ => []) (fun _ => [tabF Tryd.prog "internal/strconv.uint64pow10" .u64 Lib.pow10Tab 1 pow10_g]) (fun _ => [.own 29 3 R_V (.slice qp0 qn1 qc2) l0]) ?_ ?_
  ·
   refine wc_seq ?_
   refine wc_region ?_
   refine wl_pure rfl rfl rfl (freshS_eq rfl) rfl ?_
   refine wl_nil ?_
   refine we_then ?_
   refine wc_block ?_
   refine wc_loop (σ := Nat × Nat) (fun (nu1, u1_6) => iter (m_ropewalkkit_KeptValues_L1 N l2 l0) nu1 u1_6 = some bj_1) (fun (nu1, u1_6) => nu1) (fun (nu1, u1_6) => [(6, .int .i64 ((u1_6 : Nat) : Int)), (5, .slice qp0 (l2.length + 12) qc2), (1, .slice qp3 l2.length qc4)]) (fun (nu1, u1_6) => [.sli 3 R_V qp3 qc4 l2, tabF Tryd.prog "internal/strconv.uint64pow10" .u64 Lib.pow10Tab 1 pow10_g]) (fun (nu1, u1_6) => [.own 29 3 R_V (.slice qp0 qn1 qc2) l0]) (N, 0) hm [6, 5, 1] rfl (fun _ _ hφ => ask [0, 1] rfl hφ) rfl (fun s_ hm => ?_)
   obtain ⟨nu1, u1_6⟩ := s_
   try dsimp only at hm ⊢
   obtain ⟨mu1, bu1, hnu1, hq, hLu1⟩ := iter_some hm
   clear hm
   subst hnu1
   replace hm := hq
   clear hq
   unfold m_ropewalkkit_KeptValues_L1 at hm
   try dsimp only at hm
   refine wc_seq ?_
   refine wc_seq ?_
   refine wc_region ?_
   refine wl_pure rfl rfl rfl (freshS_eq rfl) rfl ?_
   refine wl_pure rfl rfl rfl (freshS_eq rfl) rfl ?_
   refine wl_len rfl rfl rfl (freshS_eq rfl) rfl rfl tE_23 ?_
   refine wl_pure rfl rfl rfl (freshS_eq rfl) rfl ?_
   refine wl_as (d := 20) (v' := .bool (decide (u1_6 < (l2.length + 12)))) (S' := [_,_,_,_,_,_]) rfl rfl (natlt (a := u1_6) (b := l2.length + 12)) ?_
   refine wl_nil ?_
   refine we_then ?_
   refine wc_keep [20, 6, 5, 1] (S' := [_,_,_,_]) rfl ?_
   refine wc_cond rfl (fun hb20 => ?_) (fun hb20 => ?_)
   ·
    replace hm := iteT hm hb20
    refine wc_keep [6, 5, 1] (S' := [_,_,_]) rfl ?_
    refine wc_skip ?_
    refine we_then ?_
    refine wc_seq ?_
    refine wc_block ?_
    refine wc_seq ?_
    obtain ⟨bj_2, hm, hLj_2⟩ := bindO_some hm
    unfold m_ropewalkkit_KeptValues_C2 at hm
    refine wc_cut (σ := Bool) (fun j_2_57 => bj_2 = j_2_57) (fun j_2_57 => [(6, .int .i64 ((u1_6 : Nat) : Int)), (5, .slice qp0 (l2.length + 12) qc2), (1, .slice qp3 l2.length qc4), (57, .bool j_2_57)]) (fun j_2_57 => [.sli 3 R_V qp3 qc4 l2, tabF Tryd.prog "internal/strconv.uint64pow10" .u64 Lib.pow10Tab 1 pow10_g]) (fun j_2_57 => [.own 29 3 R_V (.slice qp0 qn1 qc2) l0]) ?_ ?_
    ·
     rcases ite_some hm with ⟨hs27, hm⟩ | ⟨hs27, hm⟩
     ·
      obtain ⟨x30, hx30, hm⟩ := bindO_some hm
      obtain ⟨hqx30, hm⟩ := gd_some hm
      obtain ⟨x34, hx34, hm⟩ := bindO_some hm
      rcases ite_some hm with ⟨hs39, hm⟩ | ⟨hs39, hm⟩
      ·
       refine wc_draw [0, 1, 2, 3, 4, 5, 6, 7, 8, 9, 10, 11, 12, 13, 14, 15, 16, 17, 18, 19, 20, 21, 22, 23, 24, 25, 26, 27, 28, 29, 31, 32, 33, 34] rfl rfl (fun hok => ?_)
       refine wx_pure hok 0 rfl rfl rfl (freshS_eq rfl) rfl rfl ?_
       refine wx_pure hok 1 rfl rfl rfl (freshS_eq rfl) rfl rfl ?_
       refine wx_len hok 2 rfl rfl rfl (freshS_eq rfl) rfl rfl rfl tE_23 ?_
       refine wx_pure hok 3 rfl rfl rfl (freshS_eq rfl) rfl rfl ?_
       refine wx_as (d := 26) (v' := .bool (decide (u1_6 < l2.length))) (S' := [_,_,_,_,_,_]) rfl rfl (natlt (a := u1_6) (b := l2.length)) ?_
       refine wx_pure hok 4 rfl rfl rfl (freshS_eq rfl) rfl rfl ?_
       refine wx_as (d := 27) (v' := .bool true) (S' := [_,_,_,_,_,_,_]) rfl rfl (bool_is hs27) ?_
       refine wx_pure hok 5 rfl rfl rfl (freshS_eq rfl) rfl rfl ?_
       refine wx_pure hok 6 rfl rfl rfl (freshS_eq rfl) rfl rfl ?_
       refine wx_indexS hok 7 0 u1_6 rfl rfl rfl (freshS_eq rfl) rfl rfl rfl rfl rfl rfl hqx30 (get_lt hx30) tE_23 tS_29 (fun g30 eg30 => ?_)
       subst eg30
       refine wx_loadRow hok 8 R_V_opens 0 u1_6 0 rfl rfl rfl (freshS_eq rfl) rfl rfl rfl rfl hx30 tS_29 tA_29 (v := .agg #[.int .u8 (x30.k), .int .i64 (x30.n), .string x30.s]) rfl rfl (fun _ => ?_)
       refine wx_pure hok 9 rfl rfl rfl (freshS_eq rfl) rfl rfl ?_
       refine wx_pure hok 10 rfl rfl rfl (freshS_eq rfl) rfl rfl ?_
       refine wx_indexA hok 11 0 u1_6 rfl rfl rfl (freshS_eq rfl) rfl rfl rfl rfl rfl rfl hx34 tE_23 tS_29 (fun b34 q34 cs34 hlx34 => ?_)
       refine wx_openR R_V_opens 1 rfl (fun r34 er34 _ => ?_)
       subst er34
       refine wx_load hok 12 0 0 rfl rfl rfl (freshS_eq rfl) rfl rfl rfl rfl (cs := [_,_,_]) rfl tS_29 tA_29 rfl rfl ?_
       refine wx_bin hok 13 rfl rfl rfl (freshS_eq rfl) rfl rfl rfl rfl (eqlV _ _ x30 x34) ?_
       refine wx_pure hok 14 rfl rfl rfl (freshS_eq rfl) rfl rfl ?_
       refine wx_pure hok 15 rfl rfl rfl (freshS_eq rfl) rfl rfl ?_
       refine wx_pure hok 16 rfl rfl rfl (freshS_eq rfl) rfl rfl ?_
       refine wx_as (d := 39) (v' := .bool true) (S' := [_,_,_,_,_,_,_,_,_,_,_,_,_,_,_,_,_,_,_]) rfl rfl (bool_is hs39) ?_
       refine wx_off hok 17 rfl rfl rfl (freshS_eq rfl) rfl ?_
       refine wx_off hok 18 rfl rfl rfl (freshS_eq rfl) rfl ?_
       refine wx_off hok 19 rfl rfl rfl (freshS_eq rfl) rfl ?_
       refine wx_off hok 20 rfl rfl rfl (freshS_eq rfl) rfl ?_
       refine wx_off hok 21 rfl rfl rfl (freshS_eq rfl) rfl ?_
       refine wx_off hok 22 rfl rfl rfl (freshS_eq rfl) rfl ?_
       refine wx_off hok 23 rfl rfl rfl (freshS_eq rfl) rfl ?_
       refine wx_off hok 24 rfl rfl rfl (freshS_eq rfl) rfl ?_
       refine wx_off hok 25 rfl rfl rfl (freshS_eq rfl) rfl ?_
       refine wx_off hok 26 rfl rfl rfl (freshS_eq rfl) rfl ?_
       refine wx_off hok 27 rfl rfl rfl (freshS_eq rfl) rfl ?_
       refine wx_off hok 28 rfl rfl rfl (freshS_eq rfl) rfl ?_
       refine wx_off hok 29 rfl rfl rfl (freshS_eq rfl) rfl ?_
       refine wx_step1 hok 30 rfl rfl rfl rfl ?_
       refine wl_off rfl rfl rfl (freshS_eq rfl) ?_
       refine wl_nil ?_
       refine we_x [0, 1, 2, 3] [0] rfl rfl ?_
       refine wx_off hok 31 rfl rfl rfl (freshS_eq rfl) rfl ?_
       refine wx_off hok 32 rfl rfl rfl (freshS_eq rfl) rfl ?_
       refine wx_off hok 33 rfl rfl rfl (freshS_eq rfl) rfl ?_
       refine wx_pure hok 34 rfl rfl rfl (freshS_eq rfl) rfl rfl ?_
       refine wx_done hok rfl ?_
       have hE := (Option.some.inj hm).symm
       refine we_join true hE [6, 5, 1, 57] rfl (fun _ _ hφ => ask [2, 3] rfl hφ) rfl
      ·
       rcases ite_some hm with ⟨hs44, hm⟩ | ⟨hs44, hm⟩
       ·
        obtain ⟨x47, hx47, hm⟩ := bindO_some hm
        obtain ⟨hqx47, hm⟩ := gd_some hm
        obtain ⟨hg52, hm⟩ := gd_some hm
        obtain ⟨_, hc53, hm⟩ := bindO_some hm
        try dsimp only at hm
        refine wc_draw [0, 1, 2, 3, 4, 5, 6, 7, 8, 9, 10, 11, 12, 13, 14, 15, 16, 17, 18, 19, 20, 21, 22, 23, 24, 25, 26, 27, 28, 29, 31, 32, 33, 34] rfl rfl (fun hok => ?_)
        refine wx_pure hok 0 rfl rfl rfl (freshS_eq rfl) rfl rfl ?_
        refine wx_pure hok 1 rfl rfl rfl (freshS_eq rfl) rfl rfl ?_
        refine wx_len hok 2 rfl rfl rfl (freshS_eq rfl) rfl rfl rfl tE_23 ?_
        refine wx_pure hok 3 rfl rfl rfl (freshS_eq rfl) rfl rfl ?_
        refine wx_as (d := 26) (v' := .bool (decide (u1_6 < l2.length))) (S' := [_,_,_,_,_,_]) rfl rfl (natlt (a := u1_6) (b := l2.length)) ?_
        refine wx_pure hok 4 rfl rfl rfl (freshS_eq rfl) rfl rfl ?_
        refine wx_as (d := 27) (v' := .bool true) (S' := [_,_,_,_,_,_,_]) rfl rfl (bool_is hs27) ?_
        refine wx_pure hok 5 rfl rfl rfl (freshS_eq rfl) rfl rfl ?_
        refine wx_pure hok 6 rfl rfl rfl (freshS_eq rfl) rfl rfl ?_
        refine wx_indexS hok 7 0 u1_6 rfl rfl rfl (freshS_eq rfl) rfl rfl rfl rfl rfl rfl hqx30 (get_lt hx30) tE_23 tS_29 (fun g30 eg30 => ?_)
        subst eg30
        refine wx_loadRow hok 8 R_V_opens 0 u1_6 0 rfl rfl rfl (freshS_eq rfl) rfl rfl rfl rfl hx30 tS_29 tA_29 (v := .agg #[.int .u8 (x30.k), .int .i64 (x30.n), .string x30.s]) rfl rfl (fun _ => ?_)
        refine wx_pure hok 9 rfl rfl rfl (freshS_eq rfl) rfl rfl ?_
        refine wx_pure hok 10 rfl rfl rfl (freshS_eq rfl) rfl rfl ?_
        refine wx_indexA hok 11 0 u1_6 rfl rfl rfl (freshS_eq rfl) rfl rfl rfl rfl rfl rfl hx34 tE_23 tS_29 (fun b34 q34 cs34 hlx34 => ?_)
        refine wx_openR R_V_opens 1 rfl (fun r34 er34 _ => ?_)
        subst er34
        refine wx_load hok 12 0 0 rfl rfl rfl (freshS_eq rfl) rfl rfl rfl rfl (cs := [_,_,_]) rfl tS_29 tA_29 rfl rfl ?_
        refine wx_bin hok 13 rfl rfl rfl (freshS_eq rfl) rfl rfl rfl rfl (eqlV _ _ x30 x34) ?_
        refine wx_pure hok 14 rfl rfl rfl (freshS_eq rfl) rfl rfl ?_
        refine wx_pure hok 15 rfl rfl rfl (freshS_eq rfl) rfl rfl ?_
        refine wx_pure hok 16 rfl rfl rfl (freshS_eq rfl) rfl rfl ?_
        refine wx_as (d := 39) (v' := .bool false) (S' := [_,_,_,_,_,_,_,_,_,_,_,_,_,_,_,_,_,_,_]) rfl rfl (bool_is hs39) ?_
        refine wx_pure hok 17 rfl rfl rfl (freshS_eq rfl) rfl rfl ?_
        refine wx_pure hok 18 rfl rfl rfl (freshS_eq rfl) rfl rfl ?_
        refine wx_len hok 19 rfl rfl rfl (freshS_eq rfl) rfl rfl rfl tE_23 ?_
        refine wx_pure hok 20 rfl rfl rfl (freshS_eq rfl) rfl rfl ?_
        refine wx_as (d := 43) (v' := .bool (decide (l2.length ≤ u1_6))) (S' := [_,_,_,_,_,_,_,_,_,_,_,_,_,_,_,_,_,_,_,_,_,_,_]) rfl rfl (natge (a := u1_6) (b := l2.length)) ?_
        refine wx_pure hok 21 rfl rfl rfl (freshS_eq rfl) rfl rfl ?_
        refine wx_as (d := 44) (v' := .bool true) (S' := [_,_,_,_,_,_,_,_,_,_,_,_,_,_,_,_,_,_,_,_,_,_,_,_]) rfl rfl (bool_is hs44) ?_
        refine wx_pure hok 22 rfl rfl rfl (freshS_eq rfl) rfl rfl ?_
        refine wx_pure hok 23 rfl rfl rfl (freshS_eq rfl) rfl rfl ?_
        refine wx_indexSK hok 24 0 u1_6 rfl rfl rfl (freshS_eq rfl) rfl rfl rfl rfl rfl rfl hqx47 (get_lt hx47) tE_23 tS_29 ?_
        refine wx_loadRow hok 25 R_V_opens 0 u1_6 0 rfl rfl rfl (freshS_eq rfl) rfl rfl rfl rfl hx47 tS_29 tA_29 (v := .agg #[.int .u8 (x47.k), .int .i64 (x47.n), .string x47.s]) rfl rfl (fun _ => ?_)
        refine wx_pure hok 26 rfl rfl rfl (freshS_eq rfl) rfl rfl ?_
        refine wx_pure hok 27 rfl rfl rfl (freshS_eq rfl) rfl rfl ?_
        refine wx_len hok 28 rfl rfl rfl (freshS_eq rfl) rfl rfl rfl tE_23 ?_
        refine wx_pure hok 29 rfl rfl rfl (freshS_eq rfl) rfl rfl ?_
        refine wx_as (d := 52) (v' := .int .i64 (((u1_6 : Nat) : Int) - ((l2.length : Nat) : Int))) (S' := [_,_,_,_,_,_,_,_,_,_,_,_,_,_,_,_,_,_,_,_,_,_,_,_,_,_,_,_,_,_,_,_]) rfl rfl (i64_in hg52) ?_
        refine wx_step1 hok 30 rfl rfl rfl rfl ?_
        refine wl_call [] [0] rfl rfl rfl (freshS_eq rfl) rfl rfl fn_23 rfl (w_ropewalkkit_markValue_s N 1 (((u1_6 : Nat) : Int) - ((l2.length : Nat) : Int)) hc53) (fun _ _ hφ => ask [3] rfl hφ) rfl (H' := [_]) rfl ?_
        rintro _ _ _ ⟨rfl, rfl, rfl⟩
        refine wl_nil ?_
        refine we_x [0, 1, 2, 3] [0, 0] rfl rfl ?_
        refine wx_bin hok 31 rfl rfl rfl (freshS_eq rfl) rfl rfl rfl rfl (eqlV _ _ x47 (⟨0, (1000003 * (1 + 7)) + (((u1_6 : Nat) : Int) - ((l2.length : Nat) : Int)), (⟨#[]⟩ : ByteArray)⟩ : V)) ?_
        refine wx_pure hok 32 rfl rfl rfl (freshS_eq rfl) rfl rfl ?_
        refine wx_pure hok 33 rfl rfl rfl (freshS_eq rfl) rfl rfl ?_
        refine wx_pure hok 34 rfl rfl rfl (freshS_eq rfl) rfl rfl ?_
        refine wx_done hok rfl ?_
        have hE := (Option.some.inj hm).symm
        refine we_join (!(decide (x47 = (⟨0, (1000003 * (1 + 7)) + (((u1_6 : Nat) : Int) - ((l2.length : Nat) : Int)), (⟨#[]⟩ : ByteArray)⟩ : V)))) hE [6, 5, 1, 57] rfl (fun _ _ hφ => ask [2, 3] rfl hφ) rfl
       ·
        refine wc_draw [0, 1, 2, 3, 4, 5, 6, 7, 8, 9, 10, 11, 12, 13, 14, 15, 16, 17, 18, 19, 20, 21, 22, 23, 24, 25, 26, 27, 28, 29, 31, 32, 33, 34] rfl rfl (fun hok => ?_)
        refine wx_pure hok 0 rfl rfl rfl (freshS_eq rfl) rfl rfl ?_
        refine wx_pure hok 1 rfl rfl rfl (freshS_eq rfl) rfl rfl ?_
        refine wx_len hok 2 rfl rfl rfl (freshS_eq rfl) rfl rfl rfl tE_23 ?_
        refine wx_pure hok 3 rfl rfl rfl (freshS_eq rfl) rfl rfl ?_
        refine wx_as (d := 26) (v' := .bool (decide (u1_6 < l2.length))) (S' := [_,_,_,_,_,_]) rfl rfl (natlt (a := u1_6) (b := l2.length)) ?_
        refine wx_pure hok 4 rfl rfl rfl (freshS_eq rfl) rfl rfl ?_
        refine wx_as (d := 27) (v' := .bool true) (S' := [_,_,_,_,_,_,_]) rfl rfl (bool_is hs27) ?_
        refine wx_pure hok 5 rfl rfl rfl (freshS_eq rfl) rfl rfl ?_
        refine wx_pure hok 6 rfl rfl rfl (freshS_eq rfl) rfl rfl ?_
        refine wx_indexS hok 7 0 u1_6 rfl rfl rfl (freshS_eq rfl) rfl rfl rfl rfl rfl rfl hqx30 (get_lt hx30) tE_23 tS_29 (fun g30 eg30 => ?_)
        subst eg30
        refine wx_loadRow hok 8 R_V_opens 0 u1_6 0 rfl rfl rfl (freshS_eq rfl) rfl rfl rfl rfl hx30 tS_29 tA_29 (v := .agg #[.int .u8 (x30.k), .int .i64 (x30.n), .string x30.s]) rfl rfl (fun _ => ?_)
        refine wx_pure hok 9 rfl rfl rfl (freshS_eq rfl) rfl rfl ?_
        refine wx_pure hok 10 rfl rfl rfl (freshS_eq rfl) rfl rfl ?_
        refine wx_indexA hok 11 0 u1_6 rfl rfl rfl (freshS_eq rfl) rfl rfl rfl rfl rfl rfl hx34 tE_23 tS_29 (fun b34 q34 cs34 hlx34 => ?_)
        refine wx_openR R_V_opens 1 rfl (fun r34 er34 _ => ?_)
        subst er34
        refine wx_load hok 12 0 0 rfl rfl rfl (freshS_eq rfl) rfl rfl rfl rfl (cs := [_,_,_]) rfl tS_29 tA_29 rfl rfl ?_
        refine wx_bin hok 13 rfl rfl rfl (freshS_eq rfl) rfl rfl rfl rfl (eqlV _ _ x30 x34) ?_
        refine wx_pure hok 14 rfl rfl rfl (freshS_eq rfl) rfl rfl ?_
        refine wx_pure hok 15 rfl rfl rfl (freshS_eq rfl) rfl rfl ?_
        refine wx_pure hok 16 rfl rfl rfl (freshS_eq rfl) rfl rfl ?_
        refine wx_as (d := 39) (v' := .bool false) (S' := [_,_,_,_,_,_,_,_,_,_,_,_,_,_,_,_,_,_,_]) rfl rfl (bool_is hs39) ?_
        refine wx_pure hok 17 rfl rfl rfl (freshS_eq rfl) rfl rfl ?_
        refine wx_pure hok 18 rfl rfl rfl (freshS_eq rfl) rfl rfl ?_
        refine wx_len hok 19 rfl rfl rfl (freshS_eq rfl) rfl rfl rfl tE_23 ?_
        refine wx_pure hok 20 rfl rfl rfl (freshS_eq rfl) rfl rfl ?_
        refine wx_as (d := 43) (v' := .bool (decide (l2.length ≤ u1_6))) (S' := [_,_,_,_,_,_,_,_,_,_,_,_,_,_,_,_,_,_,_,_,_,_,_]) rfl rfl (natge (a := u1_6) (b := l2.length)) ?_
        refine wx_pure hok 21 rfl rfl rfl (freshS_eq rfl) rfl rfl ?_
        refine wx_as (d := 44) (v' := .bool false) (S' := [_,_,_,_,_,_,_,_,_,_,_,_,_,_,_,_,_,_,_,_,_,_,_,_]) rfl rfl (bool_is hs44) ?_
        refine wx_off hok 22 rfl rfl rfl (freshS_eq rfl) rfl ?_
        refine wx_off hok 23 rfl rfl rfl (freshS_eq rfl) rfl ?_
        refine wx_off hok 24 rfl rfl rfl (freshS_eq rfl) rfl ?_
        refine wx_off hok 25 rfl rfl rfl (freshS_eq rfl) rfl ?_
        refine wx_off hok 26 rfl rfl rfl (freshS_eq rfl) rfl ?_
        refine wx_off hok 27 rfl rfl rfl (freshS_eq rfl) rfl ?_
        refine wx_off hok 28 rfl rfl rfl (freshS_eq rfl) rfl ?_
        refine wx_off hok 29 rfl rfl rfl (freshS_eq rfl) rfl ?_
        refine wx_step1 hok 30 rfl rfl rfl rfl ?_
        refine wl_off rfl rfl rfl (freshS_eq rfl) ?_
        refine wl_nil ?_
        refine we_x [0, 1, 2, 3] [0] rfl rfl ?_
        refine wx_off hok 31 rfl rfl rfl (freshS_eq rfl) rfl ?_
        refine wx_off hok 32 rfl rfl rfl (freshS_eq rfl) rfl ?_
        refine wx_pure hok 33 rfl rfl rfl (freshS_eq rfl) rfl rfl ?_
        refine wx_pure hok 34 rfl rfl rfl (freshS_eq rfl) rfl rfl ?_
        refine wx_done hok rfl ?_
        have hE := (Option.some.inj hm).symm
        refine we_join false hE [6, 5, 1, 57] rfl (fun _ _ hφ => ask [2, 3] rfl hφ) rfl
     ·
      rcases ite_some hm with ⟨hs44, hm⟩ | ⟨hs44, hm⟩
      ·
       obtain ⟨x47, hx47, hm⟩ := bindO_some hm
       obtain ⟨hqx47, hm⟩ := gd_some hm
       obtain ⟨hg52, hm⟩ := gd_some hm
       obtain ⟨_, hc53, hm⟩ := bindO_some hm
       try dsimp only at hm
       refine wc_draw [0, 1, 2, 3, 4, 5, 6, 7, 8, 9, 10, 11, 12, 13, 14, 15, 16, 17, 18, 19, 20, 21, 22, 23, 24, 25, 26, 27, 28, 29, 31, 32, 33, 34] rfl rfl (fun hok => ?_)
       refine wx_pure hok 0 rfl rfl rfl (freshS_eq rfl) rfl rfl ?_
       refine wx_pure hok 1 rfl rfl rfl (freshS_eq rfl) rfl rfl ?_
       refine wx_len hok 2 rfl rfl rfl (freshS_eq rfl) rfl rfl rfl tE_23 ?_
       refine wx_pure hok 3 rfl rfl rfl (freshS_eq rfl) rfl rfl ?_
       refine wx_as (d := 26) (v' := .bool (decide (u1_6 < l2.length))) (S' := [_,_,_,_,_,_]) rfl rfl (natlt (a := u1_6) (b := l2.length)) ?_
       refine wx_pure hok 4 rfl rfl rfl (freshS_eq rfl) rfl rfl ?_
       refine wx_as (d := 27) (v' := .bool false) (S' := [_,_,_,_,_,_,_]) rfl rfl (bool_is hs27) ?_
       refine wx_off hok 5 rfl rfl rfl (freshS_eq rfl) rfl ?_
       refine wx_off hok 6 rfl rfl rfl (freshS_eq rfl) rfl ?_
       refine wx_off hok 7 rfl rfl rfl (freshS_eq rfl) rfl ?_
       refine wx_off hok 8 rfl rfl rfl (freshS_eq rfl) rfl ?_
       refine wx_off hok 9 rfl rfl rfl (freshS_eq rfl) rfl ?_
       refine wx_off hok 10 rfl rfl rfl (freshS_eq rfl) rfl ?_
       refine wx_off hok 11 rfl rfl rfl (freshS_eq rfl) rfl ?_
       refine wx_off hok 12 rfl rfl rfl (freshS_eq rfl) rfl ?_
       refine wx_off hok 13 rfl rfl rfl (freshS_eq rfl) rfl ?_
       refine wx_off hok 14 rfl rfl rfl (freshS_eq rfl) rfl ?_
       refine wx_pure hok 15 rfl rfl rfl (freshS_eq rfl) rfl rfl ?_
       refine wx_pure hok 16 rfl rfl rfl (freshS_eq rfl) rfl rfl ?_
       refine wx_pure hok 17 rfl rfl rfl (freshS_eq rfl) rfl rfl ?_
       refine wx_pure hok 18 rfl rfl rfl (freshS_eq rfl) rfl rfl ?_
       refine wx_len hok 19 rfl rfl rfl (freshS_eq rfl) rfl rfl rfl tE_23 ?_
       refine wx_pure hok 20 rfl rfl rfl (freshS_eq rfl) rfl rfl ?_
       refine wx_as (d := 43) (v' := .bool (decide (l2.length ≤ u1_6))) (S' := [_,_,_,_,_,_,_,_,_,_,_,_,_,_,_,_,_,_,_,_,_,_,_]) rfl rfl (natge (a := u1_6) (b := l2.length)) ?_
       refine wx_pure hok 21 rfl rfl rfl (freshS_eq rfl) rfl rfl ?_
       refine wx_as (d := 44) (v' := .bool true) (S' := [_,_,_,_,_,_,_,_,_,_,_,_,_,_,_,_,_,_,_,_,_,_,_,_]) rfl rfl (bool_is hs44) ?_
       refine wx_pure hok 22 rfl rfl rfl (freshS_eq rfl) rfl rfl ?_
       refine wx_pure hok 23 rfl rfl rfl (freshS_eq rfl) rfl rfl ?_
       refine wx_indexS hok 24 0 u1_6 rfl rfl rfl (freshS_eq rfl) rfl rfl rfl rfl rfl rfl hqx47 (get_lt hx47) tE_23 tS_29 (fun g47 eg47 => ?_)
       subst eg47
       refine wx_loadRow hok 25 R_V_opens 0 u1_6 0 rfl rfl rfl (freshS_eq rfl) rfl rfl rfl rfl hx47 tS_29 tA_29 (v := .agg #[.int .u8 (x47.k), .int .i64 (x47.n), .string x47.s]) rfl rfl (fun _ => ?_)
       refine wx_pure hok 26 rfl rfl rfl (freshS_eq rfl) rfl rfl ?_
       refine wx_pure hok 27 rfl rfl rfl (freshS_eq rfl) rfl rfl ?_
       refine wx_len hok 28 rfl rfl rfl (freshS_eq rfl) rfl rfl rfl tE_23 ?_
       refine wx_pure hok 29 rfl rfl rfl (freshS_eq rfl) rfl rfl ?_
       refine wx_as (d := 52) (v' := .int .i64 (((u1_6 : Nat) : Int) - ((l2.length : Nat) : Int))) (S' := [_,_,_,_,_,_,_,_,_,_,_,_,_,_,_,_,_,_,_,_,_,_,_,_,_,_,_,_,_,_,_,_]) rfl rfl (i64_in hg52) ?_
       refine wx_step1 hok 30 rfl rfl rfl rfl ?_
       refine wl_call [] [0] rfl rfl rfl (freshS_eq rfl) rfl rfl fn_23 rfl (w_ropewalkkit_markValue_s N 1 (((u1_6 : Nat) : Int) - ((l2.length : Nat) : Int)) hc53) (fun _ _ hφ => ask [1] rfl hφ) rfl (H' := [_]) rfl ?_
       rintro _ _ _ ⟨rfl, rfl, rfl⟩
       refine wl_nil ?_
       refine we_x [0, 1] [0] rfl rfl ?_
       refine wx_bin hok 31 rfl rfl rfl (freshS_eq rfl) rfl rfl rfl rfl (eqlV _ _ x47 (⟨0, (1000003 * (1 + 7)) + (((u1_6 : Nat) : Int) - ((l2.length : Nat) : Int)), (⟨#[]⟩ : ByteArray)⟩ : V)) ?_
       refine wx_pure hok 32 rfl rfl rfl (freshS_eq rfl) rfl rfl ?_
       refine wx_pure hok 33 rfl rfl rfl (freshS_eq rfl) rfl rfl ?_
       refine wx_pure hok 34 rfl rfl rfl (freshS_eq rfl) rfl rfl ?_
       refine wx_done hok rfl ?_
       have hE := (Option.some.inj hm).symm
       refine we_join (!(decide (x47 = (⟨0, (1000003 * (1 + 7)) + (((u1_6 : Nat) : Int) - ((l2.length : Nat) : Int)), (⟨#[]⟩ : ByteArray)⟩ : V)))) hE [6, 5, 1, 57] rfl (fun _ _ hφ => ask [0, 1] rfl hφ) rfl
      ·
       refine wc_draw [0, 1, 2, 3, 4, 5, 6, 7, 8, 9, 10, 11, 12, 13, 14, 15, 16, 17, 18, 19, 20, 21, 22, 23, 24, 25, 26, 27, 28, 29, 31, 32, 33, 34] rfl rfl (fun hok => ?_)
       refine wx_pure hok 0 rfl rfl rfl (freshS_eq rfl) rfl rfl ?_
       refine wx_pure hok 1 rfl rfl rfl (freshS_eq rfl) rfl rfl ?_
       refine wx_len hok 2 rfl rfl rfl (freshS_eq rfl) rfl rfl rfl tE_23 ?_
       refine wx_pure hok 3 rfl rfl rfl (freshS_eq rfl) rfl rfl ?_
       refine wx_as (d := 26) (v' := .bool (decide (u1_6 < l2.length))) (S' := [_,_,_,_,_,_]) rfl rfl (natlt (a := u1_6) (b := l2.length)) ?_
       refine wx_pure hok 4 rfl rfl rfl (freshS_eq rfl) rfl rfl ?_
       refine wx_as (d := 27) (v' := .bool false) (S' := [_,_,_,_,_,_,_]) rfl rfl (bool_is hs27) ?_
       refine wx_off hok 5 rfl rfl rfl (freshS_eq rfl) rfl ?_
       refine wx_off hok 6 rfl rfl rfl (freshS_eq rfl) rfl ?_
       refine wx_off hok 7 rfl rfl rfl (freshS_eq rfl) rfl ?_
       refine wx_off hok 8 rfl rfl rfl (freshS_eq rfl) rfl ?_
       refine wx_off hok 9 rfl rfl rfl (freshS_eq rfl) rfl ?_
       refine wx_off hok 10 rfl rfl rfl (freshS_eq rfl) rfl ?_
       refine wx_off hok 11 rfl rfl rfl (freshS_eq rfl) rfl ?_
       refine wx_off hok 12 rfl rfl rfl (freshS_eq rfl) rfl ?_
       refine wx_off hok 13 rfl rfl rfl (freshS_eq rfl) rfl ?_
       refine wx_off hok 14 rfl rfl rfl (freshS_eq rfl) rfl ?_
       refine wx_pure hok 15 rfl rfl rfl (freshS_eq rfl) rfl rfl ?_
       refine wx_pure hok 16 rfl rfl rfl (freshS_eq rfl) rfl rfl ?_
       refine wx_pure hok 17 rfl rfl rfl (freshS_eq rfl) rfl rfl ?_
       refine wx_pure hok 18 rfl rfl rfl (freshS_eq rfl) rfl rfl ?_
       refine wx_len hok 19 rfl rfl rfl (freshS_eq rfl) rfl rfl rfl tE_23 ?_
       refine wx_pure hok 20 rfl rfl rfl (freshS_eq rfl) rfl rfl ?_
       refine wx_as (d := 43) (v' := .bool (decide (l2.length ≤ u1_6))) (S' := [_,_,_,_,_,_,_,_,_,_,_,_,_,_,_,_,_,_,_,_,_,_,_]) rfl rfl (natge (a := u1_6) (b := l2.length)) ?_
       refine wx_pure hok 21 rfl rfl rfl (freshS_eq rfl) rfl rfl ?_
       refine wx_as (d := 44) (v' := .bool false) (S' := [_,_,_,_,_,_,_,_,_,_,_,_,_,_,_,_,_,_,_,_,_,_,_,_]) rfl rfl (bool_is hs44) ?_
       refine wx_off hok 22 rfl rfl rfl (freshS_eq rfl) rfl ?_
       refine wx_off hok 23 rfl rfl rfl (freshS_eq rfl) rfl ?_
       refine wx_off hok 24 rfl rfl rfl (freshS_eq rfl) rfl ?_
       refine wx_off hok 25 rfl rfl rfl (freshS_eq rfl) rfl ?_
       refine wx_off hok 26 rfl rfl rfl (freshS_eq rfl) rfl ?_
       refine wx_off hok 27 rfl rfl rfl (freshS_eq rfl) rfl ?_
       refine wx_off hok 28 rfl rfl rfl (freshS_eq rfl) rfl ?_
       refine wx_off hok 29 rfl rfl rfl (freshS_eq rfl) rfl ?_
       refine wx_step1 hok 30 rfl rfl rfl rfl ?_
       refine wl_off rfl rfl rfl (freshS_eq rfl) ?_
       refine wl_nil ?_
       refine we_x [0, 1] [] rfl rfl ?_
       refine wx_off hok 31 rfl rfl rfl (freshS_eq rfl) rfl ?_
       refine wx_off hok 32 rfl rfl rfl (freshS_eq rfl) rfl ?_
       refine wx_pure hok 33 rfl rfl rfl (freshS_eq rfl) rfl rfl ?_
       refine wx_pure hok 34 rfl rfl rfl (freshS_eq rfl) rfl rfl ?_
       refine wx_done hok rfl ?_
       have hE := (Option.some.inj hm).symm
       refine we_join false hE [6, 5, 1, 57] rfl (fun _ _ hφ => ask [0, 1] rfl hφ) rfl
    ·
     rintro j_2_57 hE
     try dsimp only
     have hm := hLj_2
     rw [hE] at hm
     refine wc_cond rfl (fun hb57 => ?_) (fun hb57 => ?_)
     ·
      replace hm := iteT hm hb57
      refine wc_keep [] (S' := []) rfl ?_
      refine wc_seq ?_
      refine wc_region ?_
      refine wl_pure rfl rfl rfl (freshS_eq rfl) rfl ?_
      refine wl_nil ?_
      refine we_then ?_
      refine wc_ret ?_
      refine we_block_ret ?_
      refine we_then_ret ?_
      refine we_then_ret ?_
      refine we_block_ret ?_
      refine we_then_ret ?_
      have hE := (Option.some.inj hm).symm
      replace hE := link_inr hLu1 hE
      replace hE := link_inr hLj_1 hE
      replace hE := hE.symm
      subst hE
      refine ret_one (Hr := [_]) [0] Tryd.results13 (res_tmp rfl) ⟨rfl, rfl, rfl⟩ (fun _ _ hφ => ask [] rfl hφ) rfl rfl (.inl rfl)
     ·
      replace hm := iteF hm hb57
      refine wc_keep [6, 5, 1] (S' := [_,_,_]) rfl ?_
      refine wc_skip ?_
      refine we_block_normal ?_
      refine we_then ?_
      refine wc_region ?_
      refine wl_pure rfl rfl rfl (freshS_eq rfl) rfl ?_
      refine wl_pure rfl rfl rfl (freshS_eq rfl) rfl ?_
      obtain ⟨hg22, hm⟩ := gd_some hm
      refine wl_as (d := 22) (v' := .int .i64 ((u1_6 + 1 : Nat) : Int)) (S' := [_,_,_,_]) rfl rfl (nat_add (a := u1_6) (b := 1) hg22) ?_
      refine wl_pure (S' := [_,_,_,_]) rfl rfl rfl rfl rfl ?_
      refine wl_nil ?_
      have hE := (Option.some.inj hm).symm
      replace hE := link_inl hLu1 hE
      refine we_roundK (_, u1_6 + 1) (Nat.lt_succ_self _) hE [6, 5, 1] rfl (fun _ _ hφ => ask [0, 1] rfl hφ) rfl
   ·
    replace hm := iteF hm hb20
    refine wc_keep [] (S' := []) rfl ?_
    refine wc_exit ?_
    refine we_then_exit ?_
    refine we_then_exit ?_
    refine we_block_hit ?_
    have hE := (Option.some.inj hm).symm
    replace hE := link_inr hLu1 hE
    refine we_join () hE [] rfl (fun _ _ hφ => ask [1] rfl hφ) rfl
  ·
   rintro _ hE
   try dsimp only
   have hm := link_inl hLj_1 hE
   try dsimp only at hm
   refine wc_seq ?_
   refine wc_region ?_
   refine wl_pure rfl rfl rfl (freshS_eq rfl) rfl ?_
   refine wl_nil ?_
   refine we_then ?_
   refine wc_ret ?_
   have hE := (Option.some.inj hm).symm
   replace hE := hE.symm
   subst hE
   refine ret_one (Hr := [_]) [0] Tryd.results13 (res_tmp rfl) ⟨rfl, rfl, rfl⟩ (fun _ _ hφ => ask [] rfl hφ) rfl rfl (.inl rfl)
set_option maxRecDepth 100000 in
set_option maxHeartbeats 4000000 in
theorem w_ropewalklaw01_ValueDoes_s (N : Nat) (a0 : Int) (qp0 : Option Addr) (qc1 : Nat) (l1 : List V) (o0 : Bool) (hm : m_ropewalklaw01_ValueDoes N a0 l1 = some o0) : Spec Tryd.prog 3 [.int .u8 a0, .slice qp0 l1.length qc1] [.sli 3 R_V qp0 qc1 l1, tabF Tryd.prog "internal/strconv.uint64pow10" .u64 Lib.pow10Tab 1 pow10_g] [] (fun v Φr Hr => v = .bool o0 ∧ Φr = [] ∧ Hr = []) := by
 unfold m_ropewalklaw01_ValueDoes at hm
 refine spec_of Tryd.func3 rfl Tryd.ntmps3 rfl (S := [_,_]) rfl (fun C => ?_)
 refine wc_seq ?_
 refine wc_region ?_
 refine wl_pure rfl rfl rfl (freshS_eq rfl) rfl ?_
 refine wl_nil ?_
 refine we_then ?_
 refine wc_keep [0, 1] (S' := [_,_]) rfl ?_
 refine wc_seq ?_
 refine wc_seq ?_
 refine wc_region ?_
 obtain ⟨v10, hc10, hm⟩ := bindO_some hm
 refine wl_call [] [] rfl rfl rfl (freshS_eq rfl) rfl rfl fn_8 rfl (w_ropewalklaw01_awake_s N _ hc10) (fun _ _ hφ => ask [1] rfl hφ) rfl (H' := []) rfl ?_
 rintro _ _ _ ⟨rfl, rfl, rfl⟩
 refine wl_pure rfl rfl rfl (freshS_eq rfl) rfl ?_
 refine wl_nil ?_
 refine we_then ?_
 refine wc_keep [11, 0, 1] (S' := [_,_,_]) rfl ?_
 refine wc_cond rfl (fun hb11 => ?_) (fun hb11 => ?_)
 ·
  replace hm := iteT hm hb11
  refine wc_keep [] (S' := []) rfl ?_
  refine wc_seq ?_
  refine wc_region ?_
  refine wl_pure rfl rfl rfl (freshS_eq rfl) rfl ?_
  refine wl_nil ?_
  refine we_then ?_
  refine wc_ret ?_
  refine we_then_ret ?_
  have hE := (Option.some.inj hm).symm
  replace hE := hE.symm
  subst hE
  refine ret_one (Hr := []) [] Tryd.results3 (res_tmp rfl) ⟨rfl, rfl, rfl⟩ (fun _ _ hφ => ask [] rfl hφ) rfl rfl (.inl rfl)
 ·
  replace hm := iteF hm hb11
  refine wc_keep [0, 1] (S' := [_,_]) rfl ?_
  refine wc_skip ?_
  refine we_then ?_
  refine wc_seq ?_
  refine wc_seq ?_
  refine wc_region ?_
  refine wl_pure rfl rfl rfl (freshS_eq rfl) rfl ?_
  obtain ⟨v13, hc13, hm⟩ := bindO_some hm
  refine wl_call [] [] rfl rfl rfl (freshS_eq rfl) rfl rfl fn_9 rfl (w_ropewalklaw01_light_v2_s N qp0 qc1 l1 _ hc13) (fun _ _ hφ => ask [0, 1] rfl hφ) rfl (H' := []) rfl ?_
  rintro _ _ _ ⟨rfl, rfl, rfl⟩
  refine wl_pure rfl rfl rfl (freshS_eq rfl) rfl ?_
  refine wl_nil ?_
  refine we_then ?_
  refine wc_keep [14, 0, 1] (S' := [_,_,_]) rfl ?_
  refine wc_cond rfl (fun hb14 => ?_) (fun hb14 => ?_)
  ·
   replace hm := iteT hm hb14
   refine wc_keep [] (S' := []) rfl ?_
   refine wc_seq ?_
   refine wc_region ?_
   refine wl_pure rfl rfl rfl (freshS_eq rfl) rfl ?_
   refine wl_nil ?_
   refine we_then ?_
   refine wc_ret ?_
   refine we_then_ret ?_
   have hE := (Option.some.inj hm).symm
   replace hE := hE.symm
   subst hE
   refine ret_one (Hr := []) [] Tryd.results3 (res_tmp rfl) ⟨rfl, rfl, rfl⟩ (fun _ _ hφ => ask [] rfl hφ) rfl rfl (.inl rfl)
  ·
   replace hm := iteF hm hb14
   refine wc_keep [0, 1] (S' := [_,_]) rfl ?_
   refine wc_skip ?_
   refine we_then ?_
   refine wc_seq ?_
   refine wc_region ?_
   refine wl_pure rfl rfl rfl (freshS_eq rfl) rfl ?_
   obtain ⟨v16, hc16, hm⟩ := bindO_some hm
   refine wl_call [] [] rfl rfl rfl (freshS_eq rfl) rfl rfl fn_10 rfl (w_ropewalkkit_LentValues_s N qp0 qc1 l1 _ hc16) (fun _ _ hφ => ask [0, 1] rfl hφ) rfl (H' := []) rfl ?_
   rintro _ _ _ ⟨p16_0, c16_1, c16_2, rfl, rfl, rfl⟩
   refine wl_pure rfl rfl rfl (freshS_eq rfl) rfl ?_
   refine wl_nil ?_
   refine we_then ?_
   refine wc_keep [5, 0, 1] (S' := [_,_,_]) rfl ?_
   refine wc_seq ?_
   refine wc_region ?_
   refine wl_pure rfl rfl rfl (freshS_eq rfl) rfl ?_
   refine wl_pure rfl rfl rfl (freshS_eq rfl) rfl ?_
   obtain ⟨⟨v20_0, v20_1, v20_2⟩, hc20, hm⟩ := bindO_some hm
   try dsimp only at hm
   refine wl_call [0] [] rfl rfl rfl (freshS_eq rfl) rfl rfl fn_11 rfl (w_value_Do_v2_s N a0 p16_0 c16_2 c16_1 v16 l1.length _ _ _ hc20) (fun _ _ hφ => ask [1] rfl hφ) rfl (H' := []) rfl ?_
   rintro _ _ _ ⟨rfl, rfl, rfl⟩
   refine wl_pure rfl rfl rfl (freshS_eq rfl) rfl ?_
   refine wl_pure rfl rfl rfl (freshS_eq rfl) rfl ?_
   refine wl_pure rfl rfl rfl (freshS_eq rfl) rfl ?_
   refine wl_alloc rfl rfl rfl (freshS_eq rfl) rfl tZ_29 rfl (fun g6 => ?_)
   refine wl_store 0 0 rfl rfl rfl rfl rfl rfl rfl tS_29 rfl rfl rfl (all' := [_,_,_]) rfl (H' := [_,_]) rfl ?_
   refine wl_pure rfl rfl rfl (freshS_eq rfl) rfl ?_
   refine wl_nil ?_
   refine we_then ?_
   refine wc_keep [7, 6, 5, 0, 1] (S' := [_,_,_,_,_]) rfl ?_
   refine wc_seq ?_
   refine wc_region ?_
   refine wl_pure rfl rfl rfl (freshS_eq rfl) rfl ?_
   refine wl_pure rfl rfl rfl (freshS_eq rfl) rfl ?_
   obtain ⟨⟨v26_0, v26_1, v26_2⟩, hc26, hm⟩ := bindO_some hm
   try dsimp only at hm
   refine wl_call [] [0, 1] rfl rfl rfl (freshS_eq rfl) rfl rfl fn_12 rfl (w_ropewalkref01_Do_v2_s N a0 qp0 qc1 l1 _ _ _ hc26) (fun _ _ hφ => ask [0, 1] rfl hφ) rfl (H' := [_,_]) rfl ?_
   rintro _ _ _ ⟨rfl, rfl, rfl⟩
   refine wl_pure rfl rfl rfl (freshS_eq rfl) rfl ?_
   refine wl_pure rfl rfl rfl (freshS_eq rfl) rfl ?_
   refine wl_pure rfl rfl rfl (freshS_eq rfl) rfl ?_
   refine wl_alloc rfl rfl rfl (freshS_eq rfl) rfl tZ_29 rfl (fun g8 => ?_)
   refine wl_store 0 0 rfl rfl rfl rfl rfl rfl rfl tS_29 rfl rfl rfl (all' := [_,_,_]) rfl (H' := [_,_,_]) rfl ?_
   refine wl_pure rfl rfl rfl (freshS_eq rfl) rfl ?_
   refine wl_nil ?_
   refine we_then ?_
   refine wc_keep [9, 8, 7, 6, 5, 1] (S' := [_,_,_,_,_,_]) rfl ?_
   refine wc_seq ?_
   refine wc_region ?_
   refine wl_loadH 1 0 rfl rfl rfl (freshS_eq rfl) rfl rfl rfl (cs := [_,_,_]) rfl tS_29 tA_29 rfl rfl ?_
   refine wl_loadH 0 0 rfl rfl rfl (freshS_eq rfl) rfl rfl rfl (cs := [_,_,_]) rfl tS_29 tA_29 rfl rfl ?_
   refine wl_bin rfl rfl rfl (freshS_eq rfl) rfl rfl rfl (eqlV _ _ (⟨((v20_0 : Nat) : Int), v20_1, (⟨#[]⟩ : ByteArray)⟩ : V) (⟨((v26_0 : Nat) : Int), v26_1, (⟨#[]⟩ : ByteArray)⟩ : V)) ?_
   refine wl_pure rfl rfl rfl (freshS_eq rfl) rfl ?_
   refine wl_split (d := 32) (S' := [_,_,_,_,_,_,_,_,_]) rfl rfl (fun hs32 => ?_) (fun hs32 => ?_)
   ·
    replace hm := iteT hm hs32
    refine wl_pure rfl rfl rfl (freshS_eq rfl) rfl ?_
    refine wl_pure rfl rfl rfl (freshS_eq rfl) rfl ?_
    refine wl_pure rfl rfl rfl (freshS_eq rfl) rfl ?_
    refine wl_as (d := 35) (v' := .bool (v20_2 == v26_2)) (S' := [_,_,_,_,_,_,_,_,_,_,_,_]) rfl rfl (nateq (a := v20_2) (b := v26_2)) ?_
    refine wl_pure rfl rfl rfl (freshS_eq rfl) rfl ?_
    refine wl_pure rfl rfl rfl (freshS_eq rfl) rfl ?_
    refine wl_split (d := 37) (S' := [_,_,_,_,_,_,_,_,_,_,_,_,_,_]) rfl rfl (fun hs37 => ?_) (fun hs37 => ?_)
    ·
     replace hm := iteT hm hs37
     refine wl_pure rfl rfl rfl (freshS_eq rfl) rfl ?_
     refine wl_pure rfl rfl rfl (freshS_eq rfl) rfl ?_
     obtain ⟨v40, hc40, hm⟩ := bindO_some hm
     refine wl_call [2] [0, 1] rfl rfl rfl (freshS_eq rfl) rfl rfl fn_13 rfl (w_ropewalkkit_KeptValues_s N p16_0 c16_2 c16_1 v16 l1.length qp0 qc1 l1 _ hc40) (fun _ _ hφ => ask [0, 1] rfl hφ) rfl (H' := [_,_]) rfl ?_
     rintro _ _ _ ⟨rfl, rfl, rfl⟩
     refine wl_pure rfl rfl rfl (freshS_eq rfl) rfl ?_
     refine wl_pure rfl rfl rfl (freshS_eq rfl) rfl ?_
     refine wl_nil ?_
     refine we_then ?_
     refine wc_keep [4] (S' := [_]) rfl ?_
     refine wc_ret ?_
     have hE := (Option.some.inj hm).symm
     replace hE := hE.symm
     subst hE
     refine ret_one (Hr := []) [] Tryd.results3 (res_tmp rfl) ⟨rfl, rfl, rfl⟩ (fun _ _ hφ => ask [] rfl hφ) rfl rfl (.inl rfl)
    ·
     replace hm := iteF hm hs37
     refine wl_off rfl rfl rfl (freshS_eq rfl) ?_
     refine wl_off rfl rfl rfl (freshS_eq rfl) ?_
     refine wl_off rfl rfl rfl (freshS_eq rfl) ?_
     refine wl_pure rfl rfl rfl (freshS_eq rfl) rfl ?_
     refine wl_pure rfl rfl rfl (freshS_eq rfl) rfl ?_
     refine wl_nil ?_
     refine we_then ?_
     refine wc_keep [4] (S' := [_]) rfl ?_
     refine wc_ret ?_
     have hE := (Option.some.inj hm).symm
     replace hE := hE.symm
     subst hE
     refine ret_one (Hr := []) [] Tryd.results3 (res_tmp rfl) ⟨rfl, rfl, rfl⟩ (fun _ _ hφ => ask [] rfl hφ) rfl rfl (.inl rfl)
   ·
    replace hm := iteF hm hs32
    refine wl_off rfl rfl rfl (freshS_eq rfl) ?_
    refine wl_off rfl rfl rfl (freshS_eq rfl) ?_
    refine wl_off rfl rfl rfl (freshS_eq rfl) ?_
    refine wl_pure rfl rfl rfl (freshS_eq rfl) rfl ?_
    refine wl_pure rfl rfl rfl (freshS_eq rfl) rfl ?_
    refine wl_off rfl rfl rfl (freshS_eq rfl) ?_
    refine wl_off rfl rfl rfl (freshS_eq rfl) ?_
    refine wl_off rfl rfl rfl (freshS_eq rfl) ?_
    refine wl_pure rfl rfl rfl (freshS_eq rfl) rfl ?_
    refine wl_pure rfl rfl rfl (freshS_eq rfl) rfl ?_
    refine wl_nil ?_
    refine we_then ?_
    refine wc_keep [4] (S' := [_]) rfl ?_
    refine wc_ret ?_
    have hE := (Option.some.inj hm).symm
    replace hE := hE.symm
    subst hE
    refine ret_one (Hr := []) [] Tryd.results3 (res_tmp rfl) ⟨rfl, rfl, rfl⟩ (fun _ _ hφ => ask [] rfl hφ) rfl rfl (.inl rfl)
end Go.Proofs.YtkddfgjefdlaeaaDoor
