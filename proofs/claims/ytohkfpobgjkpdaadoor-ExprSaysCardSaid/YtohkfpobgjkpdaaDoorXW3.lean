import Derived.Test.YtohkfpobgjkpdaaDoorXW2
namespace Go.Proofs.YtohkfpobgjkpdaaDoor
open Go.RowKit
set_option maxRecDepth 100000
set_option maxHeartbeats 4000000
theorem w_ropewalkkit_LentValues_s (N : Nat) (qp0 : Option Addr) (qc1 : Nat) (l0 : List V) (o2 : List V) (hm : m_ropewalkkit_LentValues N l0 = some o2) : Spec Tryd.prog 7 [.slice qp0 l0.length qc1] [.sli 3 R_V qp0 qc1 l0] [] (fun v Φr Hr => ∃ (o0 : Option Addr) (o1 : Nat) (o3 : Nat), v = .slice o0 l0.length o1 ∧ Φr = [] ∧ Hr = [.own 25 3 R_V (.slice o0 o3 o1) o2]) := by
 unfold m_ropewalkkit_LentValues at hm
 refine spec_of Tryd.func7 rfl Tryd.ntmps7 rfl (S := [_]) rfl (fun C => (wc_seq (wc_region (wP rfl (wl_nil (we_then (wc_keep [0] (S' := [_]) rfl (wc_seq (wc_region (wP rfl (wN rfl tE_30 (wP rfl ?_))))))))))))
 obtain ⟨hg7, hm⟩ := gd_some hm
 refine wl_as (d := 7) (v' := .int .i64 ((l0.length + 12 : Nat) : Int)) (S' := [_,_,_]) rfl rfl (nat_add (a := l0.length) (b := 12) hg7) ?_
 obtain ⟨hg8, hm⟩ := gd_some hm
 refine wl_makeCap (m := l0.length + 12) R_V rfl rfl rfl (freshS_eq rfl) rfl rfl rfl rfl tE_30 tR_25 rfl rfl (Nat.le_trans (Nat.mul_le_mul_left _ hg8) (by decide)) (Nat.le_trans hg8 (by decide)) (fun g8 => (wP rfl (wl_nil (we_then (wc_keep [3,0] (S' := [_,_]) rfl (wc_seq (wc_region (wP rfl (wP rfl ?_)))))))))
 obtain ⟨hg11, hm⟩ := gd_some hm
 refine wl_append 0 0 rfl rfl rfl (freshS_eq rfl) rfl rfl rfl rfl rfl tE_30 tR_25 rfl rfl (Nat.le_trans hg11 (by decide)) (Nat.le_trans (Nat.mul_le_mul_right _ hg11) (by decide)) (H2 := fun p11 c11 => [.own 25 3 R_V (.slice p11 (l0).length c11) l0]) (fun _ _ => rfl) (fun p11 c11 => (wl_pure (S' := [_,_,_,_]) rfl rfl rfl rfl rfl (wl_nil (we_then (wc_keep [3,0] (S' := [_,_]) rfl (wc_seq ?_))))))
 obtain ⟨bj_1, hm, hLj_1⟩ := bindO_some hm
 refine wc_cut (σ := (List V) × (Option Addr) × Nat × Nat) (fun (j_1_3_l, j_1_3_p, j_1_3_c, j_1_3_n) => bj_1 = j_1_3_l) (fun (j_1_3_l, j_1_3_p, j_1_3_c, j_1_3_n) => [(3, .slice j_1_3_p j_1_3_n j_1_3_c), (0, .slice qp0 l0.length qc1)]) (fun (j_1_3_l, j_1_3_p, j_1_3_c, j_1_3_n) => [.sli 3 R_V qp0 qc1 l0]) (fun (j_1_3_l, j_1_3_p, j_1_3_c, j_1_3_n) => [.own 25 3 R_V (.slice j_1_3_p j_1_3_n j_1_3_c) j_1_3_l]) ?_ ?_
 ·
  refine wc_seq (wc_region (wP rfl (wl_nil (we_then (wc_block (wc_loop (σ := Nat × Nat × (List V) × (Option Addr) × Nat × Nat) (fun (nu1, u1_4, u1_3_l, u1_3_p, u1_3_c, u1_3_n) => iter (m_ropewalkkit_LentValues_L1 N) nu1 (u1_4, u1_3_l) = some bj_1) (fun (nu1, u1_4, u1_3_l, u1_3_p, u1_3_c, u1_3_n) => nu1) (fun (nu1, u1_4, u1_3_l, u1_3_p, u1_3_c, u1_3_n) => [(4, .int .i64 ((u1_4 : Nat) : Int)), (3, .slice u1_3_p u1_3_n u1_3_c), (0, .slice qp0 l0.length qc1)]) (fun (nu1, u1_4, u1_3_l, u1_3_p, u1_3_c, u1_3_n) => [.sli 3 R_V qp0 qc1 l0]) (fun (nu1, u1_4, u1_3_l, u1_3_p, u1_3_c, u1_3_n) => [.own 25 3 R_V (.slice u1_3_p u1_3_n u1_3_c) u1_3_l]) (N, 0, l0, p11, c11, (l0).length) hm [4,3,0] rfl (asK [0] rfl) rfl (fun s_ hm => ?_)))))))
  obtain ⟨nu1, u1_4, u1_3_l, u1_3_p, u1_3_c, u1_3_n⟩ := s_
  try dsimp only at hm ⊢
  obtain ⟨mu1, bu1, hnu1, hq, hLu1⟩ := iter_some hm
  clear hm
  subst hnu1
  replace hm := hq
  clear hq
  unfold m_ropewalkkit_LentValues_L1 at hm
  try dsimp only at hm
  refine wc_seq (wc_seq (wc_region (wP rfl (wP rfl (wl_as (d := 13) (v' := .bool (decide (u1_4 < 12))) (S' := [_,_,_,_]) rfl rfl (natlt (a := u1_4) (b := 12)) (wl_nil (we_then (wc_keep [13,4,3,0] (S' := [_,_,_,_]) rfl ?_))))))))
  refine wc_cond rfl (fun hb13 => ?_) (fun hb13 => ?_)
  ·
   replace hm := iteT hm hb13
   refine wc_keep [4,3,0] (S' := [_,_,_]) rfl (wc_skip (we_then (wc_seq (wc_block (wc_region (wP rfl (wP rfl ?_)))))))
   obtain ⟨_, hc18, hm⟩ := bindO_some hm
   try dsimp only at hm
   refine wC [] [0] rfl fn_16 rfl (w_ropewalkkit_markValue_s N 1 ((u1_4 : Nat) : Int) hc18) (asK [] rfl) rfl (H' := [_]) rfl ?_
   rintro _ _ _ ⟨rfl, rfl, rfl⟩
   refine wl_buildSlice rfl rfl rfl (freshS_eq rfl) rfl tE_30 tS_25 tZ_25 rfl (zs := [.int .u8 0, .int .i64 0, .string ((⟨#[]⟩ : ByteArray))]) (by kernel_rfl) rfl (out := [_,_,_]) rfl (fun g19 => ?_)
   obtain ⟨hg20, hm⟩ := gd_some hm
   refine wl_appendH ([(⟨0, (IntKind.wrap .i64 ((IntKind.wrap .i64 (1000003 * (IntKind.wrap .i64 (1 + 7)))) + ((u1_4 : Nat) : Int))), (⟨#[]⟩ : ByteArray)⟩ : V)]) 1 0 rfl rfl rfl (freshS_eq rfl) rfl rfl rfl rfl rfl (fun F w hφ => ⟨[.int .u8 0, .int .i64 (IntKind.wrap .i64 ((IntKind.wrap .i64 (1000003 * (IntKind.wrap .i64 (1 + 7)))) + ((u1_4 : Nat) : Int))), .string ((⟨#[]⟩ : ByteArray))],[], rfl, rfl, ⟨(), rfl, ask_nil⟩, rfl⟩) tE_30 tR_25 rfl rfl (Nat.le_trans hg20 (by decide)) (Nat.le_trans (Nat.mul_le_mul_right _ hg20) (by decide)) (H2 := fun p20 c20 => [_, .own 25 3 R_V (.slice p20 ((u1_3_l ++ ([(⟨0, (IntKind.wrap .i64 ((IntKind.wrap .i64 (1000003 * (IntKind.wrap .i64 (1 + 7)))) + ((u1_4 : Nat) : Int))), (⟨#[]⟩ : ByteArray)⟩ : V)])).length) c20) (u1_3_l ++ ([(⟨0, (IntKind.wrap .i64 ((IntKind.wrap .i64 (1000003 * (IntKind.wrap .i64 (1 + 7)))) + ((u1_4 : Nat) : Int))), (⟨#[]⟩ : ByteArray)⟩ : V)]))]) (fun _ _ => rfl) (fun p20 c20 => (wl_drop 0 rfl (H' := [_]) rfl (wl_pure (S' := [_,_,_,_,_,_,_]) rfl rfl rfl rfl rfl (wl_nil (we_block_normal (we_then (wc_keep [3,4,0] (S' := [_,_,_]) rfl (wc_region (wP rfl (wP rfl ?_))))))))))
   obtain ⟨hg15, hm⟩ := gd_some hm
   refine wl_as (d := 15) (v' := .int .i64 ((u1_4 + 1 : Nat) : Int)) (S' := [_,_,_,_]) rfl rfl (nat_add (a := u1_4) (b := 1) hg15) (wl_pure (S' := [_,_,_,_]) rfl rfl rfl rfl rfl (wl_nil ?_))
   have hE := (Option.some.inj hm).symm
   replace hE := link_inl hLu1 hE
   refine we_roundK (_, u1_4 + 1, (u1_3_l ++ ([(⟨0, (IntKind.wrap .i64 ((IntKind.wrap .i64 (1000003 * (IntKind.wrap .i64 (1 + 7)))) + ((u1_4 : Nat) : Int))), (⟨#[]⟩ : ByteArray)⟩ : V)])), p20, c20, ((u1_3_l ++ ([(⟨0, (IntKind.wrap .i64 ((IntKind.wrap .i64 (1000003 * (IntKind.wrap .i64 (1 + 7)))) + ((u1_4 : Nat) : Int))), (⟨#[]⟩ : ByteArray)⟩ : V)])).length)) (Nat.lt_succ_self _) hE [4,3,0] rfl (asK [0] rfl) rfl
  ·
   replace hm := iteF hm hb13
   refine wc_keep [3,0] (S' := [_,_]) rfl (wc_exit (we_then_exit (we_then_exit (we_block_hit ?_))))
   have hE := (Option.some.inj hm).symm
   replace hE := link_inr hLu1 hE
   refine we_join (u1_3_l, u1_3_p, u1_3_c, u1_3_n) hE [3,0] rfl (asK [0] rfl) rfl
 ·
  rintro ⟨j_1_3_l, j_1_3_p, j_1_3_c, j_1_3_n⟩ hE
  try dsimp only
  have hm := hLj_1
  rw [hE] at hm
  refine wc_seq (wc_region (wP rfl (wP rfl (wN rfl tE_30 ?_))))
  obtain ⟨hg24, hm⟩ := gd_some hm
  refine wl_ownSpot 0 rfl (fun hsp24 hcm24 => (wl_sliceTo rfl rfl rfl (freshS_eq rfl) rfl rfl rfl rfl tE_30 tS_25 (Nat.le_trans hg24 (by rw [← hcm24.2]; exact hcm24.1)) hsp24 (wP rfl (wl_nil (we_then (wc_keep [2] (S' := [_]) rfl (wc_ret ?_)))))))
  have hE := (Option.some.inj hm).symm
  replace hE := hE.symm
  subst hE
  refine ret_one (Hr := [_]) [0] Tryd.results7 (res_tmp rfl) ⟨j_1_3_p, j_1_3_c, j_1_3_n, rfl, rfl, rfl⟩ (asK [] rfl) rfl rfl (.inl rfl)
theorem w_ropewalkref01_Named_s (N : Nat) (a0 : ByteArray) (o0 : Bool) (hm : m_ropewalkref01_Named N a0 = some o0) : Spec Tryd.prog 36 [.string a0] [] [] (fun v Φr Hr => v = .bool o0 ∧ Φr = [] ∧ Hr = []) := by
 unfold m_ropewalkref01_Named at hm
 refine spec_of Tryd.func36 rfl Tryd.ntmps36 rfl (S := [_]) rfl (fun C => (wc_seq (wc_region (wP rfl (wl_nil (we_then (wc_keep [0] (S' := [_]) rfl (wc_seq ?_))))))))
 obtain ⟨bj_1, hm, hLj_1⟩ := bindS_some hm
 refine wc_cut (σ := Unit) (fun _ => bj_1 = .inl ()) (fun _ => [(0, .string a0)]) (fun _ => []) (fun _ => []) ?_ ?_
 ·
  refine wc_seq (wc_region (wP rfl (wl_nil (we_then (wc_block (wc_loop (σ := Nat × Nat) (fun (nu1, u1_3) => iter (m_ropewalkref01_Named_L1 N a0) nu1 u1_3 = some bj_1) (fun (nu1, u1_3) => nu1) (fun (nu1, u1_3) => [(3, .int .i64 ((u1_3 : Nat) : Int)), (0, .string a0)]) (fun (nu1, u1_3) => []) (fun (nu1, u1_3) => []) (N, 0) hm [3,0] rfl (asK [] rfl) rfl (fun s_ hm => ?_)))))))
  obtain ⟨nu1, u1_3⟩ := s_
  try dsimp only at hm ⊢
  obtain ⟨mu1, bu1, hnu1, hq, hLu1⟩ := iter_some hm
  clear hm
  subst hnu1
  replace hm := hq
  clear hq
  unfold m_ropewalkref01_Named_L1 at hm
  try dsimp only at hm
  refine wc_seq (wc_seq (wc_region (wP rfl (wP rfl (wl_reck rfl rfl rfl (freshS_eq rfl) (rk_strLen rfl rfl tT_9) (wP rfl (wl_as (d := 9) (v' := .bool (decide (u1_3 < a0.size))) (S' := [_,_,_,_,_]) rfl rfl (natlt (a := u1_3) (b := a0.size)) (wl_nil (we_then (wc_keep [9,3,0] (S' := [_,_,_]) rfl ?_))))))))))
  refine wc_cond rfl (fun hb9 => ?_) (fun hb9 => ?_)
  ·
   replace hm := iteT hm hb9
   refine wc_keep [3,0] (S' := [_,_]) rfl (wc_skip (we_then (wc_seq (wc_block (wc_seq (wc_region (wP rfl (wP rfl ?_))))))))
   obtain ⟨x14, hx14, hm⟩ := bindO_some hm
   refine wl_reck rfl rfl rfl (freshS_eq rfl) (rk_strAt u1_3 rfl rfl rfl rfl hx14 tT_9) (wP rfl (wl_nil (we_then (wc_keep [4,3,0] (S' := [_,_,_]) rfl (wc_seq ?_)))))
   obtain ⟨bj_2, hm, hLj_2⟩ := bindO_some hm
   refine wc_cut (σ := Bool) (fun j_2_5 => bj_2 = j_2_5) (fun j_2_5 => [(4, .int .u8 ((x14.toNat : Nat) : Int)), (3, .int .i64 ((u1_3 : Nat) : Int)), (0, .string a0), (5, .bool j_2_5)]) (fun j_2_5 => []) (fun j_2_5 => []) ?_ ?_
   ·
    refine wc_region (wP rfl (wP rfl (wl_as (d := 16) (v' := .bool (decide (97 ≤ x14.toNat))) (S' := [_,_,_,_]) rfl rfl (natge (a := x14.toNat) (b := 97)) (wP rfl ?_))))
    refine wl_split (d := 17) (S' := [_,_,_,_,_]) rfl rfl (fun hs17 => ?_) (fun hs17 => ?_)
    ·
     replace hm := iteT hm hs17
     refine wP rfl (wP rfl (wl_as (d := 19) (v' := .bool (decide (x14.toNat ≤ 122))) (S' := [_,_,_,_,_,_,_]) rfl rfl (natle (a := x14.toNat) (b := 122)) (wP rfl (wP rfl (wl_nil ?_)))))
     have hE := (Option.some.inj hm).symm
     refine we_join (decide (x14.toNat ≤ 122)) hE [4,3,0,5] rfl (asK [] rfl) rfl
    ·
     replace hm := iteF hm hs17
     refine wO rfl (wO rfl (wP rfl (wP rfl (wl_nil ?_))))
     have hE := (Option.some.inj hm).symm
     refine we_join false hE [4,3,0,5] rfl (asK [] rfl) rfl
   ·
    rintro j_2_5 hE
    try dsimp only
    have hm := hLj_2
    rw [hE] at hm
    refine wc_seq ?_
    obtain ⟨bj_3, hm, hLj_3⟩ := bindO_some hm
    unfold m_ropewalkref01_Named_C3 at hm
    refine wc_cut (σ := Bool) (fun j_3_39 => bj_3 = j_3_39) (fun j_3_39 => [(3, .int .i64 ((u1_3 : Nat) : Int)), (0, .string a0), (39, .bool j_3_39)]) (fun j_3_39 => []) (fun j_3_39 => []) ?_ ?_
    ·
     refine wc_region (wP rfl (wP rfl (wP rfl ?_)))
     refine wl_split (d := 23) (S' := [_,_,_,_,_,_]) rfl rfl (fun hs23 => ?_) (fun hs23 => ?_)
     ·
      replace hm := iteT hm hs23
      refine wP rfl (wP rfl (wl_as (d := 25) (v' := .bool (u1_3 == 0)) (S' := [_,_,_,_,_,_,_,_]) rfl rfl (nateq (a := u1_3) (b := 0)) (wP rfl ?_)))
      refine wl_split (d := 26) (S' := [_,_,_,_,_,_,_,_,_]) rfl rfl (fun hs26 => ?_) (fun hs26 => ?_)
      ·
       replace hm := iteT hm hs26
       refine wO rfl (wO rfl (wO rfl (wO rfl (wO rfl (wO rfl (wO rfl (wO rfl (wO rfl (wO rfl (wO rfl (wP rfl (wP rfl (wl_nil ?_)))))))))))))
       have hE := (Option.some.inj hm).symm
       refine we_join true hE [3,0,39] rfl (asK [] rfl) rfl
      ·
       replace hm := iteF hm hs26
       refine wP rfl (wP rfl (wl_as (d := 28) (v' := .bool (decide (48 ≤ x14.toNat))) (S' := [_,_,_,_,_,_,_,_,_,_,_]) rfl rfl (natge (a := x14.toNat) (b := 48)) (wP rfl ?_)))
       refine wl_split (d := 29) (S' := [_,_,_,_,_,_,_,_,_,_,_,_]) rfl rfl (fun hs29 => ?_) (fun hs29 => ?_)
       ·
        replace hm := iteT hm hs29
        refine wP rfl (wP rfl (wl_as (d := 31) (v' := .bool (decide (x14.toNat ≤ 57))) (S' := [_,_,_,_,_,_,_,_,_,_,_,_,_,_]) rfl rfl (natle (a := x14.toNat) (b := 57)) (wP rfl (wP rfl ?_))))
        refine wl_split (d := 33) (S' := [_,_,_,_,_,_,_,_,_,_,_,_,_,_,_,_]) rfl rfl (fun hs33 => ?_) (fun hs33 => ?_)
        ·
         replace hm := iteT hm hs33
         refine wO rfl (wO rfl (wP rfl (wP rfl (wP rfl (wP rfl (wl_nil ?_))))))
         have hE := (Option.some.inj hm).symm
         refine we_join false hE [3,0,39] rfl (asK [] rfl) rfl
        ·
         replace hm := iteF hm hs33
         refine wP rfl (wP rfl (wl_as (d := 35) (v' := .bool (x14.toNat == 95)) (S' := [_,_,_,_,_,_,_,_,_,_,_,_,_,_,_,_,_,_]) rfl rfl (nateq (a := x14.toNat) (b := 95)) (wP rfl (wP rfl (wP rfl (wP rfl (wl_nil ?_)))))))
         have hE := (Option.some.inj hm).symm
         refine we_join (!(x14.toNat == 95)) hE [3,0,39] rfl (asK [] rfl) rfl
       ·
        replace hm := iteF hm hs29
        refine wO rfl (wO rfl (wP rfl (wP rfl (wP rfl (wP rfl (wl_as (d := 35) (v' := .bool (x14.toNat == 95)) (S' := [_,_,_,_,_,_,_,_,_,_,_,_,_,_,_,_,_,_]) rfl rfl (nateq (a := x14.toNat) (b := 95)) (wP rfl (wP rfl (wP rfl (wP rfl (wl_nil ?_)))))))))))
        have hE := (Option.some.inj hm).symm
        refine we_join (!(x14.toNat == 95)) hE [3,0,39] rfl (asK [] rfl) rfl
     ·
      replace hm := iteF hm hs23
      refine wO rfl (wO rfl (wO rfl (wO rfl (wO rfl (wO rfl (wO rfl (wO rfl (wO rfl (wO rfl (wO rfl (wO rfl (wO rfl (wO rfl ?_)))))))))))))
      refine wO rfl (wP rfl (wl_nil ?_))
      have hE := (Option.some.inj hm).symm
      refine we_join false hE [3,0,39] rfl (asK [] rfl) rfl
    ·
     rintro j_3_39 hE
     try dsimp only
     have hm := hLj_3
     rw [hE] at hm
     refine wc_cond rfl (fun hb39 => ?_) (fun hb39 => ?_)
     ·
      replace hm := iteT hm hb39
      refine wc_keep [] (S' := []) rfl (wc_seq (wc_region (wP rfl (wl_nil (we_then (wc_ret (we_block_ret (we_then_ret (we_then_ret (we_block_ret (we_then_ret ?_)))))))))))
      have hE := (Option.some.inj hm).symm
      replace hE := link_inr hLu1 hE
      replace hE := link_inr hLj_1 hE
      replace hE := hE.symm
      subst hE
      refine ret_one (Hr := []) [] Tryd.results36 (res_tmp rfl) ⟨rfl, rfl, rfl⟩ (asK [] rfl) rfl rfl (.inl rfl)
     ·
      replace hm := iteF hm hb39
      refine wc_keep [3,0] (S' := [_,_]) rfl (wc_skip (we_block_normal (we_then (wc_region (wP rfl (wP rfl ?_))))))
      obtain ⟨hg11, hm⟩ := gd_some hm
      refine wl_as (d := 11) (v' := .int .i64 ((u1_3 + 1 : Nat) : Int)) (S' := [_,_,_]) rfl rfl (nat_add (a := u1_3) (b := 1) hg11) (wl_pure (S' := [_,_,_]) rfl rfl rfl rfl rfl (wl_nil ?_))
      have hE := (Option.some.inj hm).symm
      replace hE := link_inl hLu1 hE
      refine we_roundK (_, u1_3 + 1) (Nat.lt_succ_self _) hE [3,0] rfl (asK [] rfl) rfl
  ·
   replace hm := iteF hm hb9
   refine wc_keep [0] (S' := [_]) rfl (wc_exit (we_then_exit (we_then_exit (we_block_hit ?_))))
   have hE := (Option.some.inj hm).symm
   replace hE := link_inr hLu1 hE
   refine we_join () hE [0] rfl (asK [] rfl) rfl
 ·
  rintro _ hE
  try dsimp only
  have hm := link_inl hLj_1 hE
  try dsimp only at hm
  refine wc_seq (wc_region (wP rfl (wl_reck rfl rfl rfl (freshS_eq rfl) (rk_strLen rfl rfl tT_9) (wP rfl (wl_as (d := 42) (v' := .bool (decide (1 ≤ a0.size))) (S' := [_,_,_]) rfl rfl (natge (a := a0.size) (b := 1)) (wP rfl ?_))))))
  refine wl_split (d := 43) (S' := [_,_,_,_]) rfl rfl (fun hs43 => ?_) (fun hs43 => ?_)
  ·
   replace hm := iteT hm hs43
   refine wP rfl (wl_reck rfl rfl rfl (freshS_eq rfl) (rk_strLen rfl rfl tT_9) (wP rfl (wl_as (d := 46) (v' := .bool (decide (a0.size ≤ 24))) (S' := [_,_,_,_,_,_,_]) rfl rfl (natle (a := a0.size) (b := 24)) (wP rfl (wP rfl (wl_nil (we_then (wc_keep [2] (S' := [_]) rfl (wc_ret ?_)))))))))
   have hE := (Option.some.inj hm).symm
   replace hE := hE.symm
   subst hE
   refine ret_one (Hr := []) [] Tryd.results36 (res_tmp rfl) ⟨rfl, rfl, rfl⟩ (asK [] rfl) rfl rfl (.inl rfl)
  ·
   replace hm := iteF hm hs43
   refine wO rfl (wO rfl (wO rfl (wP rfl (wP rfl (wl_nil (we_then (wc_keep [2] (S' := [_]) rfl (wc_ret ?_))))))))
   have hE := (Option.some.inj hm).symm
   replace hE := hE.symm
   subst hE
   refine ret_one (Hr := []) [] Tryd.results36 (res_tmp rfl) ⟨rfl, rfl, rfl⟩ (asK [] rfl) rfl rfl (.inl rfl)
theorem w_ropewalkref01_Right_s (N : Nat) (a0 : Int) (a1 : Int) (a2 : ByteArray) (o0 : Bool) (hm : m_ropewalkref01_Right N a0 a1 a2 = some o0) : Spec Tryd.prog 24 [.agg #[.int .u8 a0, .int .i64 a1, .string a2]] [] [] (fun v Φr Hr => v = .bool o0 ∧ Φr = [] ∧ Hr = []) := by
 unfold m_ropewalkref01_Right at hm
 refine spec_of Tryd.func24 rfl Tryd.ntmps24 rfl (S := [_]) rfl (fun C => (wc_seq (wc_region (wB rfl (fun g1 => (wP rfl (wl_nil (we_then (wc_keep [1] (S' := [_]) rfl (wc_seq (wc_seq (wc_region (wF rfl tF_25_0 (wD 0 0 rfl tS_23 tA_23 rfl (wP rfl ?_)))))))))))))))
 refine wl_nil (we_then (wc_keep [5,1] (S' := [_,_]) rfl ?_))
 refine wc_cond rfl (fun hb5 => ?_) (fun hb5 => ?_)
 ·
  replace hm := iteT hm hb5
  refine wc_keep [1] (S' := [_]) rfl (wc_seq (wc_region (wF rfl tF_25_2 (wD 0 2 rfl tS_9 tA_9 rfl (wP rfl (wP rfl (wl_nil (we_then (wc_keep [2] (S' := [_]) rfl (wc_ret (we_then_ret ?_)))))))))))
  have hE := (Option.some.inj hm).symm
  replace hE := hE.symm
  subst hE
  refine ret_one (Hr := []) [] Tryd.results24 (res_tmp rfl) ⟨rfl, rfl, rfl⟩ (asK [] rfl) rfl rfl (.inl rfl)
 ·
  replace hm := iteF hm hb5
  refine wc_keep [1] (S' := [_]) rfl (wc_skip (we_then (wc_seq (wc_region (wF rfl tF_25_0 (wD 0 0 rfl tS_23 tA_23 rfl (wP rfl (wP rfl ?_))))))))
  refine wl_split (d := 12) (S' := [_,_,_,_]) rfl rfl (fun hs12 => ?_) (fun hs12 => ?_)
  ·
   replace hm := iteT hm hs12
   refine wF rfl tF_25_1 (wD 0 1 rfl tS_2 tA_2 rfl (wP rfl (wP rfl (wP rfl ?_))))
   refine wl_split (d := 17) (S' := [_,_,_,_,_,_,_,_,_]) rfl rfl (fun hs17 => ?_) (fun hs17 => ?_)
   ·
    replace hm := iteT hm hs17
    refine wF rfl tF_25_2 (wD 0 2 rfl tS_9 tA_9 rfl ?_)
    obtain ⟨v20, hc20, hm⟩ := bindO_some hm
    refine wC [] [0] rfl fn_36 rfl (w_ropewalkref01_Named_s N a2 _ hc20) (asK [] rfl) rfl (H' := [_]) rfl ?_
    rintro _ _ _ ⟨rfl, rfl, rfl⟩
    refine wP rfl (wP rfl (wl_nil (we_then (wc_keep [2] (S' := [_]) rfl (wc_ret ?_)))))
    have hE := (Option.some.inj hm).symm
    replace hE := hE.symm
    subst hE
    refine ret_one (Hr := []) [] Tryd.results24 (res_tmp rfl) ⟨rfl, rfl, rfl⟩ (asK [] rfl) rfl rfl (.inl rfl)
   ·
    replace hm := iteF hm hs17
    refine wO rfl (wO rfl (wO rfl (wP rfl (wP rfl (wl_nil (we_then (wc_keep [2] (S' := [_]) rfl (wc_ret ?_))))))))
    have hE := (Option.some.inj hm).symm
    replace hE := hE.symm
    subst hE
    refine ret_one (Hr := []) [] Tryd.results24 (res_tmp rfl) ⟨rfl, rfl, rfl⟩ (asK [] rfl) rfl rfl (.inl rfl)
  ·
   replace hm := iteF hm hs12
   refine wO rfl (wO rfl (wO rfl (wP rfl (wP rfl (wO rfl (wO rfl (wO rfl (wP rfl (wP rfl (wl_nil (we_then (wc_keep [2] (S' := [_]) rfl (wc_ret ?_)))))))))))))
   have hE := (Option.some.inj hm).symm
   replace hE := hE.symm
   subst hE
   refine ret_one (Hr := []) [] Tryd.results24 (res_tmp rfl) ⟨rfl, rfl, rfl⟩ (asK [] rfl) rfl rfl (.inl rfl)
theorem w_ropewalkref01_Number_s (N : Nat) (a0 : Int)  (hm : m_ropewalkref01_Number N a0 = some ()) : Spec Tryd.prog 35 [.int .i64 a0] [] [] (fun v Φr Hr => v = .agg #[.int .u8 1, .int .i64 a0, .string ((⟨#[]⟩ : ByteArray))] ∧ Φr = [] ∧ Hr = []) := by
 unfold m_ropewalkref01_Number at hm
 refine spec_of Tryd.func35 rfl Tryd.ntmps35 rfl (S := [_]) rfl (fun C => (wc_seq (wc_region (wl_alloc rfl rfl rfl (freshS_eq rfl) rfl tZ_25 rfl (fun g2 => (wl_nil (we_then (wc_seq (wc_region (wP rfl (wl_build rfl rfl rfl (freshS_eq rfl) rfl tZ_25 tP_25 rfl (out := [_,_,_]) rfl (wS 0 0 rfl tS_25 (all' := [_,_,_]) rfl (H' := [_]) rfl (wl_nil (we_then (wc_keep [2] (S' := [_]) rfl ?_)))))))))))))))
 refine wc_ret ?_
 have hE := (Option.some.inj hm).symm
 refine ret_one (Hr := []) [] Tryd.results35 (res_cell 0 rfl rfl tS_25 tA_25 rfl rfl) ⟨rfl, rfl, rfl⟩ (asK [] rfl) rfl rfl (.inl rfl)
theorem w_ropewalkref01_Truth_s (N : Nat) (a0 : Bool) (o0 : Int) (hm : m_ropewalkref01_Truth N a0 = some o0) : Spec Tryd.prog 33 [.bool a0] [] [] (fun v Φr Hr => v = .agg #[.int .u8 1, .int .i64 o0, .string ((⟨#[]⟩ : ByteArray))] ∧ Φr = [] ∧ Hr = []) := by
 unfold m_ropewalkref01_Truth at hm
 refine spec_of Tryd.func33 rfl Tryd.ntmps33 rfl (S := [_]) rfl (fun C => (wc_seq (wc_region (wl_alloc rfl rfl rfl (freshS_eq rfl) rfl tZ_25 rfl (fun g2 => (wl_nil (we_then (wc_seq (wc_seq (wc_region (wP rfl (wl_nil (we_then (wc_keep [3,2] (S' := [_,_]) rfl ?_))))))))))))))
 refine wc_cond rfl (fun hb3 => ?_) (fun hb3 => ?_)
 ·
  replace hm := iteT hm hb3
  refine wc_keep [2] (S' := [_]) rfl (wc_seq (wc_region ?_))
  obtain ⟨_, hc4, hm⟩ := bindO_some hm
  try dsimp only at hm
  refine wC [] [0] rfl fn_35 rfl (w_ropewalkref01_Number_s N 1 hc4) (asK [] rfl) rfl (H' := [_]) rfl ?_
  rintro _ _ _ ⟨rfl, rfl, rfl⟩
  refine wS 0 0 rfl tS_25 (all' := [_,_,_]) rfl (H' := [_]) rfl (wl_nil (we_then (wc_keep [2] (S' := [_]) rfl (wc_ret (we_then_ret ?_)))))
  have hE := (Option.some.inj hm).symm
  replace hE := hE.symm
  subst hE
  refine ret_one (Hr := []) [] Tryd.results33 (res_cell 0 rfl rfl tS_25 tA_25 rfl rfl) ⟨rfl, rfl, rfl⟩ (asK [] rfl) rfl rfl (.inl rfl)
 ·
  replace hm := iteF hm hb3
  refine wc_keep [2] (S' := [_]) rfl (wc_skip (we_then (wc_seq (wc_region ?_))))
  obtain ⟨_, hc5, hm⟩ := bindO_some hm
  try dsimp only at hm
  refine wC [] [0] rfl fn_35 rfl (w_ropewalkref01_Number_s N 0 hc5) (asK [] rfl) rfl (H' := [_]) rfl ?_
  rintro _ _ _ ⟨rfl, rfl, rfl⟩
  refine wS 0 0 rfl tS_25 (all' := [_,_,_]) rfl (H' := [_]) rfl (wl_nil (we_then (wc_keep [2] (S' := [_]) rfl (wc_ret ?_))))
  have hE := (Option.some.inj hm).symm
  replace hE := hE.symm
  subst hE
  refine ret_one (Hr := []) [] Tryd.results33 (res_cell 0 rfl rfl tS_25 tA_25 rfl rfl) ⟨rfl, rfl, rfl⟩ (asK [] rfl) rfl rfl (.inl rfl)
theorem w_ropewalkref01_sum_s (N : Nat) (a0 : Int) (a1 : Int) (o0 : Int) (o1 : Bool) (hm : m_ropewalkref01_sum N a0 a1 = some (o0, o1)) : Spec Tryd.prog 49 [.int .i64 a0, .int .i64 a1] [] [] (fun v Φr Hr => v = .tuple #[.int .i64 o0, .bool o1] ∧ Φr = [] ∧ Hr = []) := by
 unfold m_ropewalkref01_sum at hm
 refine spec_of Tryd.func49 rfl Tryd.ntmps49 rfl (S := [_,_]) rfl (fun C => (wc_seq (wc_region (wP rfl (wP rfl (wl_nil (we_then (wc_keep [0,1] (S' := [_,_]) rfl (wc_seq (wc_seq ?_))))))))))
 obtain ⟨bj_1, hm, hLj_1⟩ := bindO_some hm
 unfold m_ropewalkref01_sum_C1 at hm
 refine wc_cut (σ := Bool) (fun j_1_23 => bj_1 = j_1_23) (fun j_1_23 => [(0, .int .i64 a0), (1, .int .i64 a1), (23, .bool j_1_23)]) (fun j_1_23 => []) (fun j_1_23 => []) ?_ ?_
 ·
  refine wc_region (wP rfl (wP rfl (wP rfl ?_)))
  refine wl_split (d := 8) (S' := [_,_,_,_]) rfl rfl (fun hs8 => ?_) (fun hs8 => ?_)
  ·
   replace hm := iteT hm hs8
   refine wP rfl (wP rfl (wP rfl ?_))
   obtain ⟨hg11, hm⟩ := gd_some hm
   refine wl_as (d := 11) (v' := .int .i64 (9223372036854775807 - a1)) (S' := [_,_,_,_,_,_,_]) rfl rfl (i64_in hg11) (wP rfl (wP rfl (wP rfl ?_)))
   refine wl_split (d := 14) (S' := [_,_,_,_,_,_,_,_,_,_]) rfl rfl (fun hs14 => ?_) (fun hs14 => ?_)
   ·
    replace hm := iteT hm hs14
    refine wO rfl (wO rfl (wO rfl (wO rfl (wO rfl (wO rfl (wO rfl (wO rfl (wP rfl (wl_nil ?_)))))))))
    have hE := (Option.some.inj hm).symm
    refine we_join true hE [0,1,23] rfl (asK [] rfl) rfl
   ·
    replace hm := iteF hm hs14
    refine wP rfl (wP rfl (wP rfl ?_))
    refine wl_split (d := 17) (S' := [_,_,_,_,_,_,_,_,_,_,_,_,_]) rfl rfl (fun hs17 => ?_) (fun hs17 => ?_)
    ·
     replace hm := iteT hm hs17
     refine wP rfl (wP rfl (wP rfl ?_))
     obtain ⟨hg20, hm⟩ := gd_some hm
     refine wl_as (d := 20) (v' := .int .i64 (-9223372036854775808 - a1)) (S' := [_,_,_,_,_,_,_,_,_,_,_,_,_,_,_,_]) rfl rfl (i64_in hg20) (wP rfl (wP rfl (wP rfl (wl_nil ?_))))
     have hE := (Option.some.inj hm).symm
     refine we_join (decide (a0 < (-9223372036854775808 - a1))) hE [0,1,23] rfl (asK [] rfl) rfl
    ·
     replace hm := iteF hm hs17
     refine wO rfl (wO rfl (wO rfl (wO rfl (wP rfl (wP rfl (wl_nil ?_))))))
     have hE := (Option.some.inj hm).symm
     refine we_join false hE [0,1,23] rfl (asK [] rfl) rfl
  ·
   replace hm := iteF hm hs8
   refine wO rfl (wO rfl (wO rfl (wO rfl (wP rfl (wP rfl (wP rfl (wP rfl (wP rfl ?_))))))))
   refine wl_split (d := 17) (S' := [_,_,_,_,_,_,_,_,_,_,_,_,_]) rfl rfl (fun hs17 => ?_) (fun hs17 => ?_)
   ·
    replace hm := iteT hm hs17
    refine wP rfl (wP rfl (wP rfl ?_))
    obtain ⟨hg20, hm⟩ := gd_some hm
    refine wl_as (d := 20) (v' := .int .i64 (-9223372036854775808 - a1)) (S' := [_,_,_,_,_,_,_,_,_,_,_,_,_,_,_,_]) rfl rfl (i64_in hg20) (wP rfl (wP rfl (wP rfl (wl_nil ?_))))
    have hE := (Option.some.inj hm).symm
    refine we_join (decide (a0 < (-9223372036854775808 - a1))) hE [0,1,23] rfl (asK [] rfl) rfl
   ·
    replace hm := iteF hm hs17
    refine wO rfl (wO rfl (wO rfl (wO rfl (wP rfl (wP rfl (wl_nil ?_))))))
    have hE := (Option.some.inj hm).symm
    refine we_join false hE [0,1,23] rfl (asK [] rfl) rfl
 ·
  rintro j_1_23 hE
  try dsimp only
  have hm := hLj_1
  rw [hE] at hm
  refine wc_cond rfl (fun hb23 => ?_) (fun hb23 => ?_)
  ·
   replace hm := iteT hm hb23
   refine wc_keep [] (S' := []) rfl (wc_seq (wc_region (wP rfl (wP rfl (wl_nil (we_then (wc_ret (we_then_ret ?_))))))))
   have hE := (Option.some.inj hm).symm
   obtain ⟨hE0, hE1⟩ := Prod.mk.inj hE
   clear hE
   replace hE0 := hE0.symm
   subst hE0
   replace hE1 := hE1.symm
   subst hE1
   refine ret_two (Hr := []) [] Tryd.results49 (res_tmp rfl) (res_tmp rfl) ⟨rfl, rfl, rfl⟩ (asK [] rfl) rfl rfl (.inl rfl)
  ·
   replace hm := iteF hm hb23
   refine wc_keep [0,1] (S' := [_,_]) rfl (wc_skip (we_then (wc_seq (wc_region (wP rfl (wP rfl (wP rfl ?_)))))))
   obtain ⟨hg26, hm⟩ := gd_some hm
   refine wl_as (d := 26) (v' := .int .i64 (a0 + a1)) (S' := [_,_,_,_]) rfl rfl (i64_in hg26) (wP rfl (wP rfl (wl_nil (we_then (wc_keep [5,4] (S' := [_,_]) rfl (wc_ret ?_))))))
   have hE := (Option.some.inj hm).symm
   obtain ⟨hE0, hE1⟩ := Prod.mk.inj hE
   clear hE
   replace hE0 := hE0.symm
   subst hE0
   replace hE1 := hE1.symm
   subst hE1
   refine ret_two (Hr := []) [] Tryd.results49 (res_tmp rfl) (res_tmp rfl) ⟨rfl, rfl, rfl⟩ (asK [] rfl) rfl rfl (.inl rfl)
theorem w_ropewalkref01_product_s (N : Nat) (a0 : Int) (a1 : Int) (o0 : Int) (o1 : Bool) (hm : m_ropewalkref01_product N a0 a1 = some (o0, o1)) : Spec Tryd.prog 50 [.int .i64 a0, .int .i64 a1] [] [] (fun v Φr Hr => v = .tuple #[.int .i64 o0, .bool o1] ∧ Φr = [] ∧ Hr = []) := by
 unfold m_ropewalkref01_product at hm
 refine spec_of Tryd.func50 rfl Tryd.ntmps50 rfl (S := [_,_]) rfl (fun C => (wc_seq (wc_region (wP rfl (wP rfl (wl_nil (we_then (wc_keep [0,1] (S' := [_,_]) rfl (wc_seq (wc_seq ?_))))))))))
 obtain ⟨bj_1, hm, hLj_1⟩ := bindO_some hm
 refine wc_cut (σ := Bool) (fun j_1_12 => bj_1 = j_1_12) (fun j_1_12 => [(0, .int .i64 a0), (1, .int .i64 a1), (12, .bool j_1_12)]) (fun j_1_12 => []) (fun j_1_12 => []) ?_ ?_
 ·
  refine wc_region (wP rfl (wP rfl (wP rfl ?_)))
  refine wl_split (d := 9) (S' := [_,_,_,_]) rfl rfl (fun hs9 => ?_) (fun hs9 => ?_)
  ·
   replace hm := iteT hm hs9
   refine wO rfl (wO rfl (wP rfl (wl_nil ?_)))
   have hE := (Option.some.inj hm).symm
   refine we_join true hE [0,1,12] rfl (asK [] rfl) rfl
  ·
   replace hm := iteF hm hs9
   refine wP rfl (wP rfl (wP rfl (wl_nil ?_)))
   have hE := (Option.some.inj hm).symm
   refine we_join (a1 == 0) hE [0,1,12] rfl (asK [] rfl) rfl
 ·
  rintro j_1_12 hE
  try dsimp only
  have hm := hLj_1
  rw [hE] at hm
  refine wc_cond rfl (fun hb12 => ?_) (fun hb12 => ?_)
  ·
   replace hm := iteT hm hb12
   refine wc_keep [] (S' := []) rfl (wc_seq (wc_region (wP rfl (wP rfl (wl_nil (we_then (wc_ret (we_then_ret ?_))))))))
   have hE := (Option.some.inj hm).symm
   obtain ⟨hE0, hE1⟩ := Prod.mk.inj hE
   clear hE
   replace hE0 := hE0.symm
   subst hE0
   replace hE1 := hE1.symm
   subst hE1
   refine ret_two (Hr := []) [] Tryd.results50 (res_tmp rfl) (res_tmp rfl) ⟨rfl, rfl, rfl⟩ (asK [] rfl) rfl rfl (.inl rfl)
  ·
   replace hm := iteF hm hb12
   refine wc_keep [0,1] (S' := [_,_]) rfl (wc_skip (we_then (wc_seq (wc_seq (wc_region (wP rfl (wP rfl (wl_nil (we_then (wc_keep [14,0,1] (S' := [_,_,_]) rfl ?_))))))))))
   refine wc_cond rfl (fun hb14 => ?_) (fun hb14 => ?_)
   ·
    replace hm := iteT hm hb14
    refine wc_keep [1] (S' := [_]) rfl (wc_seq (wc_region (wP rfl (wl_reck rfl rfl rfl (freshS_eq rfl) (rk_neg rfl rfl) (wP rfl (wP rfl (wP rfl (wP rfl (wl_nil (we_then (wc_keep [5,4] (S' := [_,_]) rfl (wc_ret (we_then_ret ?_)))))))))))))
    have hE := (Option.some.inj hm).symm
    obtain ⟨hE0, hE1⟩ := Prod.mk.inj hE
    clear hE
    replace hE0 := hE0.symm
    subst hE0
    replace hE1 := hE1.symm
    subst hE1
    refine ret_two (Hr := []) [] Tryd.results50 (res_tmp rfl) (res_tmp rfl) ⟨rfl, rfl, rfl⟩ (asK [] rfl) rfl rfl (.inl rfl)
   ·
    replace hm := iteF hm hb14
    refine wc_keep [0,1] (S' := [_,_]) rfl (wc_skip (we_then (wc_seq (wc_seq (wc_region (wP rfl (wP rfl (wl_nil (we_then (wc_keep [20,0,1] (S' := [_,_,_]) rfl ?_))))))))))
    refine wc_cond rfl (fun hb20 => ?_) (fun hb20 => ?_)
    ·
     replace hm := iteT hm hb20
     refine wc_keep [0] (S' := [_]) rfl (wc_seq (wc_region (wP rfl (wl_reck rfl rfl rfl (freshS_eq rfl) (rk_neg rfl rfl) (wP rfl (wP rfl (wP rfl (wP rfl (wl_nil (we_then (wc_keep [5,4] (S' := [_,_]) rfl (wc_ret (we_then_ret ?_)))))))))))))
     have hE := (Option.some.inj hm).symm
     obtain ⟨hE0, hE1⟩ := Prod.mk.inj hE
     clear hE
     replace hE0 := hE0.symm
     subst hE0
     replace hE1 := hE1.symm
     subst hE1
     refine ret_two (Hr := []) [] Tryd.results50 (res_tmp rfl) (res_tmp rfl) ⟨rfl, rfl, rfl⟩ (asK [] rfl) rfl rfl (.inl rfl)
    ·
     replace hm := iteF hm hb20
     refine wc_keep [0,1] (S' := [_,_]) rfl (wc_skip (we_then (wc_seq (wc_region (wP rfl (wP rfl (wP rfl (wP rfl (wl_nil (we_then (wc_keep [6,0,1] (S' := [_,_,_]) rfl (wc_seq ?_))))))))))))
     obtain ⟨hg31, hm⟩ := gd_some hm
     refine wc_draw [0,1,2,3,4,5] rfl rfl (fun hok => (xP hok 0 rfl (xP hok 1 rfl (xP hok 2 rfl (wx_bin hok 3 rfl rfl rfl (freshS_eq rfl) rfl rfl rfl rfl (run_quo hg31) (xP hok 4 rfl (xP hok 5 rfl (xS hok 6 rfl (wP rfl (wl_nil (we_x [] [] rfl rfl (xS hok 7 rfl (wP rfl (wl_nil ?_))))))))))))))
     refine we_x [] [] rfl rfl (wx_done hok rfl (we_then (wc_keep [5,4] (S' := [_,_]) rfl (wc_ret ?_))))
     have hE := (Option.some.inj hm).symm
     obtain ⟨hE0, hE1⟩ := Prod.mk.inj hE
     clear hE
     replace hE0 := hE0.symm
     subst hE0
     replace hE1 := hE1.symm
     subst hE1
     refine ret_two (Hr := []) [] Tryd.results50 (res_tmp rfl) (res_tmp rfl) ⟨rfl, rfl, rfl⟩ (asK [] rfl) rfl rfl (.inl rfl)
theorem w_ropewalkref01_reckoned_s (N : Nat) (a0 : Int) (a1 : Int) (a2 : Int) (o0 : Int) (o1 : Bool) (hm : m_ropewalkref01_reckoned N a0 a1 a2 = some (o0, o1)) : Spec Tryd.prog 34 [.int .u8 a0, .int .i64 a1, .int .i64 a2] [] [] (fun v Φr Hr => v = .tuple #[.int .i64 o0, .bool o1] ∧ Φr = [] ∧ Hr = []) := by
 unfold m_ropewalkref01_reckoned at hm
 refine spec_of Tryd.func34 rfl Tryd.ntmps34 rfl (S := [_,_,_]) rfl (fun C => (wc_seq (wc_region (wP rfl (wP rfl (wl_nil (we_then (wc_keep [0,1,2] (S' := [_,_,_]) rfl (wc_seq (wc_seq (wc_region (wP rfl (wl_nil (we_then ?_))))))))))))))
 refine wc_keep [8,1,2] (S' := [_,_,_]) rfl (wc_block (wc_seq (wc_region (wP rfl (wP rfl (wl_nil (we_then (wc_keep [9,8,1,2] (S' := [_,_,_,_]) rfl ?_))))))))
 refine wc_cond rfl (fun hb9 => ?_) (fun hb9 => ?_)
 ·
  replace hm := iteT hm hb9
  refine wc_keep [1,2] (S' := [_,_]) rfl (wc_seq (wc_region (wP rfl (wP rfl ?_))))
  obtain ⟨⟨v13_0, v13_1⟩, hc13, hm⟩ := bindO_some hm
  try dsimp only at hm
  refine wC [] [] rfl fn_49 rfl (w_ropewalkref01_sum_s N a1 a2 _ _ hc13) (asK [] rfl) rfl (H' := []) rfl ?_
  rintro _ _ _ ⟨rfl, rfl, rfl⟩
  refine wP rfl (wP rfl (wP rfl (wP rfl (wl_nil (we_then (wc_keep [7,6] (S' := [_,_]) rfl (wc_ret (we_block_ret (we_then_ret ?_)))))))))
  have hE := (Option.some.inj hm).symm
  obtain ⟨hE0, hE1⟩ := Prod.mk.inj hE
  clear hE
  replace hE0 := hE0.symm
  subst hE0
  replace hE1 := hE1.symm
  subst hE1
  refine ret_two (Hr := []) [] Tryd.results34 (res_tmp rfl) (res_tmp rfl) ⟨rfl, rfl, rfl⟩ (asK [] rfl) rfl rfl (.inl rfl)
 ·
  replace hm := iteF hm hb9
  refine wc_keep [8,1,2] (S' := [_,_,_]) rfl (wc_seq (wc_region (wP rfl (wP rfl (wl_nil (we_then (wc_keep [16,8,1,2] (S' := [_,_,_,_]) rfl ?_)))))))
  refine wc_cond rfl (fun hb16 => ?_) (fun hb16 => ?_)
  ·
   replace hm := iteT hm hb16
   refine wc_keep [1,2] (S' := [_,_]) rfl (wc_seq (wc_seq (wc_region (wP rfl (wP rfl (wl_nil (we_then (wc_keep [19,1,2] (S' := [_,_,_]) rfl ?_))))))))
   refine wc_cond rfl (fun hb19 => ?_) (fun hb19 => ?_)
   ·
    replace hm := iteT hm hb19
    refine wc_keep [1,2] (S' := [_,_]) rfl (wc_seq (wc_region (wP rfl (wP rfl (wP rfl (wP rfl (wP rfl (wP rfl (wP rfl (wl_nil (we_then (wc_keep [7,6] (S' := [_,_]) rfl (wc_ret ?_)))))))))))))
    refine we_then_ret (we_block_ret (we_then_ret ?_))
    have hE := (Option.some.inj hm).symm
    obtain ⟨hE0, hE1⟩ := Prod.mk.inj hE
    clear hE
    replace hE0 := hE0.symm
    subst hE0
    replace hE1 := hE1.symm
    subst hE1
    refine ret_two (Hr := []) [] Tryd.results34 (res_tmp rfl) (res_tmp rfl) ⟨rfl, rfl, rfl⟩ (asK [] rfl) rfl rfl (.inl rfl)
   ·
    replace hm := iteF hm hb19
    refine wc_keep [1,2] (S' := [_,_]) rfl (wc_skip (we_then (wc_seq (wc_region (wP rfl (wP rfl (wl_reck rfl rfl rfl (freshS_eq rfl) (rk_neg rfl rfl) ?_)))))))
    obtain ⟨⟨v28_0, v28_1⟩, hc28, hm⟩ := bindO_some hm
    try dsimp only at hm
    refine wC [] [] rfl fn_49 rfl (w_ropewalkref01_sum_s N a1 (IntKind.wrap .i64 (0 - a2)) _ _ hc28) (asK [] rfl) rfl (H' := []) rfl ?_
    rintro _ _ _ ⟨rfl, rfl, rfl⟩
    refine wP rfl (wP rfl (wP rfl (wP rfl (wl_nil (we_then (wc_keep [7,6] (S' := [_,_]) rfl (wc_ret (we_block_ret (we_then_ret ?_)))))))))
    have hE := (Option.some.inj hm).symm
    obtain ⟨hE0, hE1⟩ := Prod.mk.inj hE
    clear hE
    replace hE0 := hE0.symm
    subst hE0
    replace hE1 := hE1.symm
    subst hE1
    refine ret_two (Hr := []) [] Tryd.results34 (res_tmp rfl) (res_tmp rfl) ⟨rfl, rfl, rfl⟩ (asK [] rfl) rfl rfl (.inl rfl)
  ·
   replace hm := iteF hm hb16
   refine wc_keep [8,1,2] (S' := [_,_,_]) rfl (wc_seq (wc_region (wP rfl (wP rfl (wl_nil (we_then (wc_keep [31,1,2] (S' := [_,_,_]) rfl ?_)))))))
   refine wc_cond rfl (fun hb31 => ?_) (fun hb31 => ?_)
   ·
    replace hm := iteT hm hb31
    refine wc_keep [1,2] (S' := [_,_]) rfl (wc_seq (wc_region (wP rfl (wP rfl ?_))))
    obtain ⟨⟨v35_0, v35_1⟩, hc35, hm⟩ := bindO_some hm
    try dsimp only at hm
    refine wC [] [] rfl fn_50 rfl (w_ropewalkref01_product_s N a1 a2 _ _ hc35) (asK [] rfl) rfl (H' := []) rfl ?_
    rintro _ _ _ ⟨rfl, rfl, rfl⟩
    refine wP rfl (wP rfl (wP rfl (wP rfl (wl_nil (we_then (wc_keep [7,6] (S' := [_,_]) rfl (wc_ret (we_block_ret (we_then_ret ?_)))))))))
    have hE := (Option.some.inj hm).symm
    obtain ⟨hE0, hE1⟩ := Prod.mk.inj hE
    clear hE
    replace hE0 := hE0.symm
    subst hE0
    replace hE1 := hE1.symm
    subst hE1
    refine ret_two (Hr := []) [] Tryd.results34 (res_tmp rfl) (res_tmp rfl) ⟨rfl, rfl, rfl⟩ (asK [] rfl) rfl rfl (.inl rfl)
   ·
    replace hm := iteF hm hb31
    refine wc_keep [1] (S' := [_]) rfl (wc_skip (we_block_normal (we_then (wc_seq (wc_region (wP rfl (wl_reck rfl rfl rfl (freshS_eq rfl) (rk_neg rfl rfl) (wP rfl (wP rfl (wP rfl (wP rfl (wl_nil (we_then ?_)))))))))))))
    refine wc_keep [7,6] (S' := [_,_]) rfl (wc_ret ?_)
    have hE := (Option.some.inj hm).symm
    obtain ⟨hE0, hE1⟩ := Prod.mk.inj hE
    clear hE
    replace hE0 := hE0.symm
    subst hE0
    replace hE1 := hE1.symm
    subst hE1
    refine ret_two (Hr := []) [] Tryd.results34 (res_tmp rfl) (res_tmp rfl) ⟨rfl, rfl, rfl⟩ (asK [] rfl) rfl rfl (.inl rfl)
theorem w_ropewalkref01_Do_s (N : Nat) (a0 : Int) (qp0 : Option Addr) (qc1 : Nat) (l1 : List V) (o0 : Nat) (o1 : Int) (o2 : Nat) (hm : m_ropewalkref01_Do N a0 l1 = some (o0, o1, o2)) : Spec Tryd.prog 23 [.int .u8 a0, .slice qp0 l1.length qc1] [.sli 3 R_V qp0 qc1 l1] [] (fun v Φr Hr => v = .tuple #[.agg #[.int .u8 ((o0 : Nat) : Int), .int .i64 o1, .string ((⟨#[]⟩ : ByteArray))], .int .i64 ((o2 : Nat) : Int)] ∧ Φr = [] ∧ Hr = []) := by
 unfold m_ropewalkref01_Do at hm
 refine spec_of Tryd.func23 rfl Tryd.ntmps23 rfl (S := [_,_]) rfl (fun C => (wc_seq (wc_region (wl_alloc rfl rfl rfl (freshS_eq rfl) rfl tZ_25 rfl (fun g4 => (wP rfl (wl_nil (we_then (wc_keep [4,0,1] (S' := [_,_,_]) rfl (wc_seq (wc_region (wP rfl (wl_nil (we_then (wc_seq ?_)))))))))))))))
 obtain ⟨bj_1, hm, hLj_1⟩ := bindO_some hm
 unfold m_ropewalkref01_Do_C1 at hm
 refine wc_cut (σ := Nat) (fun j_1_6 => bj_1 = j_1_6) (fun j_1_6 => [(4, .pointer (some ⟨g4,0, none⟩)), (0, .int .u8 a0), (1, .slice qp0 l1.length qc1), (6, .int .i64 ((j_1_6 : Nat) : Int))]) (fun j_1_6 => [.sli 3 R_V qp0 qc1 l1]) (fun j_1_6 => [.blk g4 [.int .u8 0, .int .i64 0, .string ((⟨#[]⟩ : ByteArray))] 25]) ?_ ?_
 ·
  refine wc_seq ?_
  obtain ⟨bj_2, hm, hLj_2⟩ := bindO_some hm
  refine wc_cut (σ := Bool) (fun j_2_18 => bj_2 = j_2_18) (fun j_2_18 => [(4, .pointer (some ⟨g4,0, none⟩)), (0, .int .u8 a0), (1, .slice qp0 l1.length qc1), (6, .int .i64 2), (18, .bool j_2_18)]) (fun j_2_18 => [.sli 3 R_V qp0 qc1 l1]) (fun j_2_18 => [.blk g4 [.int .u8 0, .int .i64 0, .string ((⟨#[]⟩ : ByteArray))] 25]) ?_ ?_
  ·
   refine wc_region (wP rfl (wP rfl (wP rfl ?_)))
   refine wl_split (d := 15) (S' := [_,_,_,_,_,_]) rfl rfl (fun hs15 => ?_) (fun hs15 => ?_)
   ·
    replace hm := iteT hm hs15
    refine wO rfl (wO rfl (wP rfl (wl_nil ?_)))
    have hE := (Option.some.inj hm).symm
    refine we_join true hE [4,0,1,6,18] rfl (asK [0] rfl) rfl
   ·
    replace hm := iteF hm hs15
    refine wP rfl (wP rfl (wP rfl (wl_nil ?_)))
    have hE := (Option.some.inj hm).symm
    refine we_join (a0 == 11) hE [4,0,1,6,18] rfl (asK [0] rfl) rfl
  ·
   rintro j_2_18 hE
   try dsimp only
   have hm := hLj_2
   rw [hE] at hm
   refine wc_cond rfl (fun hb18 => ?_) (fun hb18 => ?_)
   ·
    replace hm := iteT hm hb18
    refine wc_keep [4,0,1] (S' := [_,_,_]) rfl (wc_region (wP rfl (wl_nil ?_)))
    have hE := (Option.some.inj hm).symm
    refine we_join 1 hE [4,0,1,6] rfl (asK [0] rfl) rfl
   ·
    replace hm := iteF hm hb18
    refine wc_keep [4,0,1,6] (S' := [_,_,_,_]) rfl (wc_skip ?_)
    have hE := (Option.some.inj hm).symm
    refine we_join 2 hE [4,0,1,6] rfl (asK [0] rfl) rfl
 ·
  rintro j_1_6 hE
  try dsimp only
  have hm := hLj_1
  rw [hE] at hm
  refine wc_seq (wc_seq ?_)
  obtain ⟨bj_3, hm, hLj_3⟩ := bindO_some hm
  refine wc_cut (σ := Bool) (fun j_3_30 => bj_3 = j_3_30) (fun j_3_30 => [(4, .pointer (some ⟨g4,0, none⟩)), (0, .int .u8 a0), (1, .slice qp0 l1.length qc1), (30, .bool j_3_30)]) (fun j_3_30 => [.sli 3 R_V qp0 qc1 l1]) (fun j_3_30 => [.blk g4 [.int .u8 0, .int .i64 0, .string ((⟨#[]⟩ : ByteArray))] 25]) ?_ ?_
  ·
   refine wc_region (wP rfl (wP rfl (wP rfl ?_)))
   refine wl_split (d := 21) (S' := [_,_,_,_,_,_]) rfl rfl (fun hs21 => ?_) (fun hs21 => ?_)
   ·
    replace hm := iteT hm hs21
    refine wO rfl (wO rfl (wP rfl (wP rfl (wO rfl (wO rfl (wO rfl (wO rfl (wP rfl (wl_nil ?_)))))))))
    have hE := (Option.some.inj hm).symm
    refine we_join true hE [4,0,1,30] rfl (asK [0] rfl) rfl
   ·
    replace hm := iteF hm hs21
    refine wP rfl (wP rfl (wP rfl (wP rfl ?_)))
    refine wl_split (d := 25) (S' := [_,_,_,_,_,_,_,_,_,_]) rfl rfl (fun hs25 => ?_) (fun hs25 => ?_)
    ·
     replace hm := iteT hm hs25
     refine wO rfl (wO rfl (wO rfl (wO rfl (wP rfl (wl_nil ?_)))))
     have hE := (Option.some.inj hm).symm
     refine we_join true hE [4,0,1,30] rfl (asK [0] rfl) rfl
    ·
     replace hm := iteF hm hs25
     refine wP rfl (wN rfl tE_30 (wP rfl (wP rfl (wl_as (d := 29) (v' := .bool (l1.length != j_1_6)) (S' := [_,_,_,_,_,_,_,_,_,_,_,_,_,_]) rfl rfl (natne (a := l1.length) (b := j_1_6)) (wP rfl (wl_nil ?_))))))
     have hE := (Option.some.inj hm).symm
     refine we_join (l1.length != j_1_6) hE [4,0,1,30] rfl (asK [0] rfl) rfl
  ·
   rintro j_3_30 hE
   try dsimp only
   have hm := hLj_3
   rw [hE] at hm
   refine wc_cond rfl (fun hb30 => ?_) (fun hb30 => ?_)
   ·
    replace hm := iteT hm hb30
    refine wc_keep [4] (S' := [_]) rfl (wc_seq (wc_region (wl_build rfl rfl rfl (freshS_eq rfl) rfl tZ_25 tP_25 rfl (out := [_,_,_]) rfl (wS 0 0 rfl tS_25 (all' := [_,_,_]) rfl (H' := [_]) rfl (wP rfl (wl_nil (we_then (wc_keep [5,4] (S' := [_,_]) rfl (wc_ret (we_then_ret ?_))))))))))
    have hE := (Option.some.inj hm).symm
    obtain ⟨hE0, hF1⟩ := Prod.mk.inj hE
    obtain ⟨hE1, hE2⟩ := Prod.mk.inj hF1
    clear hE hF1
    replace hE0 := hE0.symm
    subst hE0
    replace hE1 := hE1.symm
    subst hE1
    replace hE2 := hE2.symm
    subst hE2
    refine ret_two (Hr := []) [] Tryd.results23 (res_cell 0 rfl rfl tS_25 tA_25 rfl rfl) (res_tmp rfl) ⟨rfl, rfl, rfl⟩ (asK [] rfl) rfl rfl (.inl rfl)
   ·
    replace hm := iteF hm hb30
    refine wc_keep [4,0,1] (S' := [_,_,_]) rfl (wc_skip (we_then (wc_seq (wc_region (wP rfl (wl_nil (we_then (wc_seq ?_))))))))
    obtain ⟨bj_4, hm, hLj_4⟩ := bindS_some hm
    refine wc_cut (σ := Bool) (fun j_4_7 => bj_4 = .inl j_4_7) (fun j_4_7 => [(4, .pointer (some ⟨g4,0, none⟩)), (0, .int .u8 a0), (1, .slice qp0 l1.length qc1), (7, .bool j_4_7)]) (fun j_4_7 => [.sli 3 R_V qp0 qc1 l1]) (fun j_4_7 => [.blk g4 [.int .u8 0, .int .i64 0, .string ((⟨#[]⟩ : ByteArray))] 25]) ?_ ?_
    ·
     refine wc_seq (wc_region (wP rfl (wl_nil (we_then (wc_block (wc_loop (σ := Nat × Nat × Bool) (fun (nu1, u1_8, u1_7) => iter (m_ropewalkref01_Do_L1 N l1) nu1 (u1_8, u1_7) = some bj_4) (fun (nu1, u1_8, u1_7) => nu1) (fun (nu1, u1_8, u1_7) => [(8, .int .i64 ((u1_8 : Nat) : Int)), (7, .bool u1_7), (4, .pointer (some ⟨g4,0, none⟩)), (0, .int .u8 a0), (1, .slice qp0 l1.length qc1)]) (fun (nu1, u1_8, u1_7) => [.sli 3 R_V qp0 qc1 l1]) (fun (nu1, u1_8, u1_7) => [.blk g4 [.int .u8 0, .int .i64 0, .string ((⟨#[]⟩ : ByteArray))] 25]) (N, 0, false) hm [8,7,4,0,1] rfl (asK [0] rfl) rfl (fun s_ hm => ?_)))))))
     obtain ⟨nu1, u1_8, u1_7⟩ := s_
     try dsimp only at hm ⊢
     obtain ⟨mu1, bu1, hnu1, hq, hLu1⟩ := iter_some hm
     clear hm
     subst hnu1
     replace hm := hq
     clear hq
     unfold m_ropewalkref01_Do_L1 at hm
     try dsimp only at hm
     refine wc_seq (wc_seq (wc_region (wP rfl (wP rfl (wN rfl tE_30 (wP rfl (wl_as (d := 35) (v' := .bool (decide (u1_8 < l1.length))) (S' := [_,_,_,_,_,_,_,_]) rfl rfl (natlt (a := u1_8) (b := l1.length)) (wl_nil (we_then (wc_keep [35,8,7,4,0,1] (S' := [_,_,_,_,_,_]) rfl ?_))))))))))
     refine wc_cond rfl (fun hb35 => ?_) (fun hb35 => ?_)
     ·
      replace hm := iteT hm hb35
      refine wc_keep [8,7,4,0,1] (S' := [_,_,_,_,_]) rfl (wc_skip (we_then (wc_seq ?_)))
      obtain ⟨bj_5, hm, hLj_5⟩ := bindS_some hm
      unfold m_ropewalkref01_Do_C5 at hm
      refine wc_cut (σ := Bool) (fun j_5_7 => bj_5 = .inl j_5_7) (fun j_5_7 => [(8, .int .i64 ((u1_8 : Nat) : Int)), (7, .bool j_5_7), (4, .pointer (some ⟨g4,0, none⟩)), (0, .int .u8 a0), (1, .slice qp0 l1.length qc1)]) (fun j_5_7 => [.sli 3 R_V qp0 qc1 l1]) (fun j_5_7 => [.blk g4 [.int .u8 0, .int .i64 0, .string ((⟨#[]⟩ : ByteArray))] 25]) ?_ ?_
      ·
       refine wc_block (wc_seq (wc_seq (wc_region (wP rfl (wP rfl ?_)))))
       obtain ⟨x40, hx40, hm⟩ := bindO_some hm
       refine wl_indexA 0 u1_8 rfl rfl rfl (freshS_eq rfl) rfl rfl rfl rfl rfl hx40 tE_30 tS_25 (fun b40 q40 cs40 hlx40 => (wl_open R_V_opens 1 rfl (fun r40 er40 _ => ?_)))
       subst er40
       refine wl_load 0 0 rfl rfl rfl (freshS_eq rfl) rfl rfl rfl (cs := [_,_,_]) rfl tS_25 tA_25 rfl rfl ?_
       obtain ⟨v42, hc42, hm⟩ := bindO_some hm
       refine wC [] [0] rfl fn_24 rfl (w_ropewalkref01_Right_s N x40.k x40.n x40.s _ hc42) (asK [] rfl) rfl (H' := [_]) rfl ?_
       rintro _ _ _ ⟨rfl, rfl, rfl⟩
       refine wP rfl (wl_nil (we_then (wc_keep [43,8,7,4,0,1] (S' := [_,_,_,_,_,_]) rfl ?_)))
       refine wc_cond rfl (fun hb43 => ?_) (fun hb43 => ?_)
       ·
        replace hm := iteT hm hb43
        refine wc_keep [4] (S' := [_]) rfl (wc_seq (wc_region (wl_build rfl rfl rfl (freshS_eq rfl) rfl tZ_25 tP_25 rfl (out := [_,_,_]) rfl (wS 0 0 rfl tS_25 (all' := [_,_,_]) rfl (H' := [_]) rfl (wP rfl (wl_nil (we_then (wc_keep [5,4] (S' := [_,_]) rfl (wc_ret (we_then_ret (we_block_ret (we_then_ret (we_then_ret ?_)))))))))))))
        refine we_block_ret (we_then_ret ?_)
        have hE := (Option.some.inj hm).symm
        replace hE := link_inr hLj_5 hE
        replace hE := link_inr hLu1 hE
        replace hE := link_inr hLj_4 hE
        obtain ⟨hE0, hF1⟩ := Prod.mk.inj hE
        obtain ⟨hE1, hE2⟩ := Prod.mk.inj hF1
        clear hE hF1
        replace hE0 := hE0.symm
        subst hE0
        replace hE1 := hE1.symm
        subst hE1
        replace hE2 := hE2.symm
        subst hE2
        refine ret_two (Hr := []) [] Tryd.results23 (res_cell 0 rfl rfl tS_25 tA_25 rfl rfl) (res_tmp rfl) ⟨rfl, rfl, rfl⟩ (asK [] rfl) rfl rfl (.inl rfl)
       ·
        replace hm := iteF hm hb43
        refine wc_keep [8,7,4,0,1] (S' := [_,_,_,_,_]) rfl (wc_skip (we_then (wc_region (wP rfl (wP rfl ?_)))))
        refine wl_split (d := 46) (S' := [_,_,_,_,_,_]) rfl rfl (fun hs46 => ?_) (fun hs46 => ?_)
        ·
         replace hm := iteT hm hs46
         refine wO rfl (wO rfl (wO rfl (wO rfl (wO rfl (wO rfl (wP rfl (wl_pure (S' := [_,_,_,_,_,_,_,_,_,_,_,_,_]) rfl rfl rfl rfl rfl (wl_nil (we_block_normal ?_)))))))))
         have hE := (Option.some.inj hm).symm
         refine we_join true hE [8,7,4,0,1] rfl (asK [2] rfl) rfl
        ·
         replace hm := iteF hm hs46
         refine wP rfl (wP rfl ?_)
         obtain ⟨x49, hx49, hm⟩ := bindO_some hm
         refine wl_indexA 2 u1_8 rfl rfl rfl (freshS_eq rfl) rfl rfl rfl rfl rfl hx49 tE_30 tS_25 (fun b49 q49 cs49 hlx49 => (wl_open R_V_opens 1 rfl (fun r49 er49 _ => ?_)))
         subst er49
         refine wF rfl tF_25_0 (wl_load 0 0 rfl rfl rfl (freshS_eq rfl) rfl rfl rfl (cs := [_]) rfl tS_23 tA_23 rfl rfl (wP rfl (wP rfl (wl_pure (S' := [_,_,_,_,_,_,_,_,_,_,_,_,_]) rfl rfl rfl rfl rfl (wl_nil (we_block_normal ?_))))))
         have hE := (Option.some.inj hm).symm
         refine we_join (x49.k == 2) hE [8,7,4,0,1] rfl (asK [4] rfl) rfl
      ·
       rintro j_5_7 hE
       try dsimp only
       have hm := link_inl hLj_5 hE
       refine wc_region (wP rfl (wP rfl ?_))
       obtain ⟨hg37, hm⟩ := gd_some hm
       refine wl_as (d := 37) (v' := .int .i64 ((u1_8 + 1 : Nat) : Int)) (S' := [_,_,_,_,_,_]) rfl rfl (nat_add (a := u1_8) (b := 1) hg37) (wl_pure (S' := [_,_,_,_,_,_]) rfl rfl rfl rfl rfl (wl_nil ?_))
       have hE := (Option.some.inj hm).symm
       replace hE := link_inl hLu1 hE
       refine we_roundK (_, u1_8 + 1, j_5_7) (Nat.lt_succ_self _) hE [8,7,4,0,1] rfl (asK [0] rfl) rfl
     ·
      replace hm := iteF hm hb35
      refine wc_keep [7,4,0,1] (S' := [_,_,_,_]) rfl (wc_exit (we_then_exit (we_then_exit (we_block_hit ?_))))
      have hE := (Option.some.inj hm).symm
      replace hE := link_inr hLu1 hE
      refine we_join u1_7 hE [4,0,1,7] rfl (asK [0] rfl) rfl
    ·
     rintro j_4_7 hE
     try dsimp only
     have hm := link_inl hLj_4 hE
     refine wc_seq ?_
     obtain ⟨x55, hx55, hm⟩ := bindO_some hm
     obtain ⟨hg60, hm⟩ := gd_some hm
     obtain ⟨hn61, hm⟩ := gd_some hm
     obtain ⟨x61, hx61, hm⟩ := bindO_some hm
     refine wc_cut (σ := Nat × Nat) (fun _ => True) (fun (w_6_10_g, w_6_9_g) => [(10, .pointer (some ⟨w_6_10_g, 0, none⟩)), (9, .pointer (some ⟨w_6_9_g, 0, none⟩)), (4, .pointer (some ⟨g4,0, none⟩)), (0, .int .u8 a0), (7, .bool j_4_7)]) (fun (w_6_10_g, w_6_9_g) => []) (fun (w_6_10_g, w_6_9_g) => [.blk w_6_10_g [.int .u8 (x61.k), .int .i64 (x61.n), .string x61.s] 25, .blk w_6_9_g [.int .u8 (x55.k), .int .i64 (x55.n), .string x55.s] 25, .blk g4 [.int .u8 0, .int .i64 0, .string ((⟨#[]⟩ : ByteArray))] 25]) ?_ ?_
     ·
      refine wc_draw [0,1,2,3,4,5,6,7,8] rfl rfl (fun hok => (xP hok 0 rfl (wx_indexA hok 1 0 0 rfl rfl rfl (freshS_eq rfl) rfl rfl rfl rfl rfl rfl hx55 tE_30 tS_25 (fun b55 q55 cs55 hlx55 => (wx_openR R_V_opens 1 rfl (fun r55 er55 _ => ?_))))))
      subst er55
      refine wx_load hok 2 0 0 rfl rfl rfl (freshS_eq rfl) rfl rfl rfl rfl (cs := [_,_,_]) rfl tS_25 tA_25 rfl rfl (xP hok 3 rfl (xP hok 4 rfl (wx_len hok 5 rfl rfl rfl (freshS_eq rfl) rfl rfl rfl tE_30 (xP hok 6 rfl (wx_as (d := 60) (v' := .int .i64 (((l1.length : Nat) : Int) - 1)) (S' := [_,_,_,_,_,_,_,_,_,_]) rfl rfl (i64_in hg60) (wx_indexA hok 7 2 ((((l1.length : Nat) : Int) - 1).toNat) rfl rfl rfl (freshS_eq rfl) rfl rfl rfl rfl rfl (toNat_eq hn61) hx61 tE_30 tS_25 (fun b61 q61 cs61 hlx61 => (wx_openR R_V_opens 1 rfl (fun r61 er61 _ => ?_)))))))))
      subst er61
      refine wx_load hok 8 0 0 rfl rfl rfl (freshS_eq rfl) rfl rfl rfl rfl (cs := [_,_,_]) rfl tS_25 tA_25 rfl rfl ?_
      refine wx_step2 hok 9 10 rfl rfl rfl rfl rfl rfl ?_ ?_
      ·
       refine wl_alloc rfl rfl rfl (freshS_eq rfl) rfl tZ_25 rfl (fun g9 => (wl_nil (we_x [0,1,2,3,4] [] rfl rfl (xS hok 10 rfl (wl_alloc rfl rfl rfl (freshS_eq rfl) rfl tZ_25 rfl (fun g10 => (wl_nil (we_x [0,1,2,3,4] [] rfl rfl (xS hok 11 rfl (wS 1 0 rfl tS_25 (all' := [_,_,_]) rfl (H' := [_,_,_]) rfl (wl_nil (we_x [0,1,2,3,4] [] rfl rfl (xS hok 12 rfl (wS 0 0 rfl tS_25 (all' := [_,_,_]) rfl (H' := [_,_,_]) rfl (wl_nil ?_)))))))))))))))
       refine we_x [0,1,2,3,4] [] rfl rfl (wx_done hok rfl ?_)
       refine we_join (g10, g9) trivial [10,9,4,0,7] rfl (asK [] rfl) rfl
      ·
       refine wl_alloc rfl rfl rfl (freshS_eq rfl) rfl tZ_25 rfl (fun g10 => (wl_nil (we_x [0,1,2,3,4] [] rfl rfl (xS hok 9 rfl (wl_alloc rfl rfl rfl (freshS_eq rfl) rfl tZ_25 rfl (fun g9 => (wl_nil (we_x [0,1,2,3,4] [] rfl rfl (xS hok 11 rfl (wS 0 0 rfl tS_25 (all' := [_,_,_]) rfl (H' := [_,_,_]) rfl (wl_nil (we_x [0,1,2,3,4] [] rfl rfl (xS hok 12 rfl (wS 1 0 rfl tS_25 (all' := [_,_,_]) rfl (H' := [_,_,_]) rfl (wl_nil ?_)))))))))))))))
       refine we_x [0,1,2,3,4] [] rfl rfl (wx_done hok rfl (we_pick [1,0,2] rfl (H' := [_,_,_]) rfl ?_))
       refine we_join (g10, g9) trivial [10,9,4,0,7] rfl (asK [] rfl) rfl
     ·
      rintro ⟨w_6_10_g, w_6_9_g⟩ _
      try dsimp only
      refine wc_seq (wc_seq ?_)
      obtain ⟨bj_7, hm, hLj_7⟩ := bindO_some hm
      refine wc_cut (σ := Bool) (fun j_7_68 => bj_7 = j_7_68) (fun j_7_68 => [(10, .pointer (some ⟨w_6_10_g, 0, none⟩)), (9, .pointer (some ⟨w_6_9_g, 0, none⟩)), (4, .pointer (some ⟨g4,0, none⟩)), (0, .int .u8 a0), (7, .bool j_4_7), (68, .bool j_7_68)]) (fun j_7_68 => []) (fun j_7_68 => [.blk w_6_10_g [.int .u8 (x61.k), .int .i64 (x61.n), .string x61.s] 25, .blk w_6_9_g [.int .u8 (x55.k), .int .i64 (x55.n), .string x55.s] 25, .blk g4 [.int .u8 0, .int .i64 0, .string ((⟨#[]⟩ : ByteArray))] 25]) ?_ ?_
      ·
       refine wc_region (wP rfl (wP rfl (wP rfl ?_)))
       refine wl_split (d := 65) (S' := [_,_,_,_,_,_,_]) rfl rfl (fun hs65 => ?_) (fun hs65 => ?_)
       ·
        replace hm := iteT hm hs65
        refine wO rfl (wO rfl (wP rfl (wl_nil ?_)))
        have hE := (Option.some.inj hm).symm
        refine we_join true hE [10,9,4,0,7,68] rfl (asK [] rfl) rfl
       ·
        replace hm := iteF hm hs65
        refine wP rfl (wP rfl (wP rfl (wl_nil ?_)))
        have hE := (Option.some.inj hm).symm
        refine we_join (a0 == 6) hE [10,9,4,0,7,68] rfl (asK [] rfl) rfl
      ·
       rintro j_7_68 hE
       try dsimp only
       have hm := hLj_7
       rw [hE] at hm
       refine wc_cond rfl (fun hb68 => ?_) (fun hb68 => ?_)
       ·
        replace hm := iteT hm hb68
        refine wc_keep [10,9,4,0] (S' := [_,_,_,_]) rfl (wc_seq (wc_region (wl_loadH 1 0 rfl rfl rfl (freshS_eq rfl) rfl rfl rfl (cs := [_,_,_]) rfl tS_25 tA_25 rfl rfl (wl_loadH 0 0 rfl rfl rfl (freshS_eq rfl) rfl rfl rfl (cs := [_,_,_]) rfl tS_25 tA_25 rfl rfl (wl_bin rfl rfl rfl (freshS_eq rfl) rfl rfl rfl (eqlV _ _ x55 x61) (wP rfl (wP rfl (wl_bin rfl rfl rfl (freshS_eq rfl) rfl rfl rfl (eqlB _ _ (decide (x55 = x61)) (a0 == 5)) ?_))))))))
        obtain ⟨v75, hc75, hm⟩ := bindO_some hm
        refine wC [] [0,1,2] rfl fn_33 rfl (w_ropewalkref01_Truth_s N ((decide (x55 = x61)) == (a0 == 5)) _ hc75) (asK [] rfl) rfl (H' := [_,_,_]) rfl ?_
        rintro _ _ _ ⟨rfl, rfl, rfl⟩
        refine wS 2 0 rfl tS_25 (all' := [_,_,_]) rfl (H' := [_,_,_]) rfl (wP rfl (wl_nil (we_then (wc_keep [5,4] (S' := [_,_]) rfl (wc_ret (we_then_ret ?_))))))
        have hE := (Option.some.inj hm).symm
        obtain ⟨hE0, hF1⟩ := Prod.mk.inj hE
        obtain ⟨hE1, hE2⟩ := Prod.mk.inj hF1
        clear hE hF1
        replace hE0 := hE0.symm
        subst hE0
        replace hE1 := hE1.symm
        subst hE1
        replace hE2 := hE2.symm
        subst hE2
        refine ret_two (Hr := []) [] Tryd.results23 (res_cell 2 rfl rfl tS_25 tA_25 rfl rfl) (res_tmp rfl) ⟨rfl, rfl, rfl⟩ (asK [] rfl) rfl rfl (.inl rfl)
       ·
        replace hm := iteF hm hb68
        refine wc_keep [10,9,4,0,7] (S' := [_,_,_,_,_]) rfl (wc_skip (we_then (wc_seq (wc_seq (wc_region (wP rfl (wl_nil (we_then (wc_keep [76,10,9,4,0] (S' := [_,_,_,_,_]) rfl ?_)))))))))
        refine wc_cond rfl (fun hb76 => ?_) (fun hb76 => ?_)
        ·
         replace hm := iteT hm hb76
         refine wc_keep [4] (S' := [_]) rfl (wc_seq (wc_region (wl_build rfl rfl rfl (freshS_eq rfl) rfl tZ_25 tP_25 rfl (out := [_,_,_]) rfl (wS 2 0 rfl tS_25 (all' := [_,_,_]) rfl (H' := [_,_,_]) rfl (wP rfl (wl_nil (we_then (wc_keep [5,4] (S' := [_,_]) rfl (wc_ret (we_then_ret ?_))))))))))
         have hE := (Option.some.inj hm).symm
         obtain ⟨hE0, hF1⟩ := Prod.mk.inj hE
         obtain ⟨hE1, hE2⟩ := Prod.mk.inj hF1
         clear hE hF1
         replace hE0 := hE0.symm
         subst hE0
         replace hE1 := hE1.symm
         subst hE1
         replace hE2 := hE2.symm
         subst hE2
         refine ret_two (Hr := []) [] Tryd.results23 (res_cell 2 rfl rfl tS_25 tA_25 rfl rfl) (res_tmp rfl) ⟨rfl, rfl, rfl⟩ (asK [] rfl) rfl rfl (.inl rfl)
        ·
         replace hm := iteF hm hb76
         refine wc_keep [10,9,4,0] (S' := [_,_,_,_]) rfl (wc_skip (we_then (wc_seq (wc_seq (wc_region (wP rfl (wl_nil (we_then (wc_block (wc_seq (wc_region (wP rfl (wP rfl ?_)))))))))))))
         refine wl_nil (we_then (wc_keep [79,78,10,9,4,0] (S' := [_,_,_,_,_,_]) rfl ?_))
         refine wc_cond rfl (fun hb79 => ?_) (fun hb79 => ?_)
         ·
          replace hm := iteT hm hb79
          refine wc_keep [10,9,4] (S' := [_,_,_]) rfl (wc_seq (wc_region (wF rfl tF_25_1 (wD 1 1 rfl tS_2 tA_2 rfl (wF rfl tF_25_1 (wD 0 1 rfl tS_2 tA_2 rfl (wP rfl ?_)))))))
          obtain ⟨v86, hc86, hm⟩ := bindO_some hm
          refine wC [] [0,1,2] rfl fn_33 rfl (w_ropewalkref01_Truth_s N (decide (x55.n < x61.n)) _ hc86) (asK [] rfl) rfl (H' := [_,_,_]) rfl ?_
          rintro _ _ _ ⟨rfl, rfl, rfl⟩
          refine wS 2 0 rfl tS_25 (all' := [_,_,_]) rfl (H' := [_,_,_]) rfl (wP rfl (wl_nil (we_then (wc_keep [5,4] (S' := [_,_]) rfl (wc_ret (we_block_ret (we_then_ret ?_)))))))
          have hE := (Option.some.inj hm).symm
          obtain ⟨hE0, hF1⟩ := Prod.mk.inj hE
          obtain ⟨hE1, hE2⟩ := Prod.mk.inj hF1
          clear hE hF1
          replace hE0 := hE0.symm
          subst hE0
          replace hE1 := hE1.symm
          subst hE1
          replace hE2 := hE2.symm
          subst hE2
          refine ret_two (Hr := []) [] Tryd.results23 (res_cell 2 rfl rfl tS_25 tA_25 rfl rfl) (res_tmp rfl) ⟨rfl, rfl, rfl⟩ (asK [] rfl) rfl rfl (.inl rfl)
         ·
          replace hm := iteF hm hb79
          refine wc_keep [78,10,9,4,0] (S' := [_,_,_,_,_]) rfl (wc_seq (wc_region (wP rfl (wP rfl (wl_nil (we_then (wc_keep [87,78,10,9,4,0] (S' := [_,_,_,_,_,_]) rfl ?_)))))))
          refine wc_cond rfl (fun hb87 => ?_) (fun hb87 => ?_)
          ·
           replace hm := iteT hm hb87
           refine wc_keep [10,9,4] (S' := [_,_,_]) rfl (wc_seq (wc_region (wF rfl tF_25_1 (wD 1 1 rfl tS_2 tA_2 rfl (wF rfl tF_25_1 (wD 0 1 rfl tS_2 tA_2 rfl (wP rfl ?_)))))))
           obtain ⟨v94, hc94, hm⟩ := bindO_some hm
           refine wC [] [0,1,2] rfl fn_33 rfl (w_ropewalkref01_Truth_s N (decide (x55.n ≤ x61.n)) _ hc94) (asK [] rfl) rfl (H' := [_,_,_]) rfl ?_
           rintro _ _ _ ⟨rfl, rfl, rfl⟩
           refine wS 2 0 rfl tS_25 (all' := [_,_,_]) rfl (H' := [_,_,_]) rfl (wP rfl (wl_nil (we_then (wc_keep [5,4] (S' := [_,_]) rfl (wc_ret (we_block_ret (we_then_ret ?_)))))))
           have hE := (Option.some.inj hm).symm
           obtain ⟨hE0, hF1⟩ := Prod.mk.inj hE
           obtain ⟨hE1, hE2⟩ := Prod.mk.inj hF1
           clear hE hF1
           replace hE0 := hE0.symm
           subst hE0
           replace hE1 := hE1.symm
           subst hE1
           replace hE2 := hE2.symm
           subst hE2
           refine ret_two (Hr := []) [] Tryd.results23 (res_cell 2 rfl rfl tS_25 tA_25 rfl rfl) (res_tmp rfl) ⟨rfl, rfl, rfl⟩ (asK [] rfl) rfl rfl (.inl rfl)
          ·
           replace hm := iteF hm hb87
           refine wc_keep [78,10,9,4,0] (S' := [_,_,_,_,_]) rfl (wc_seq (wc_region (wP rfl (wP rfl (wl_nil (we_then (wc_keep [95,78,10,9,4,0] (S' := [_,_,_,_,_,_]) rfl ?_)))))))
           refine wc_cond rfl (fun hb95 => ?_) (fun hb95 => ?_)
           ·
            replace hm := iteT hm hb95
            refine wc_keep [10,9,4] (S' := [_,_,_]) rfl (wc_seq (wc_region (wF rfl tF_25_1 (wD 1 1 rfl tS_2 tA_2 rfl (wP rfl (wP rfl ?_))))))
            refine wl_split (d := 100) (S' := [_,_,_,_,_,_]) rfl rfl (fun hs100 => ?_) (fun hs100 => ?_)
            ·
             replace hm := iteT hm hs100
             refine wF rfl tF_25_1 (wD 0 1 rfl tS_2 tA_2 rfl (wP rfl (wP rfl ?_)))
             obtain ⟨v105, hc105, hm⟩ := bindO_some hm
             refine wC [] [0,1,2] rfl fn_33 rfl (w_ropewalkref01_Truth_s N (x61.n != 0) _ hc105) (asK [] rfl) rfl (H' := [_,_,_]) rfl ?_
             rintro _ _ _ ⟨rfl, rfl, rfl⟩
             refine wS 2 0 rfl tS_25 (all' := [_,_,_]) rfl (H' := [_,_,_]) rfl (wP rfl (wl_nil (we_then (wc_keep [5,4] (S' := [_,_]) rfl (wc_ret (we_block_ret (we_then_ret ?_)))))))
             have hE := (Option.some.inj hm).symm
             obtain ⟨hE0, hF1⟩ := Prod.mk.inj hE
             obtain ⟨hE1, hE2⟩ := Prod.mk.inj hF1
             clear hE hF1
             replace hE0 := hE0.symm
             subst hE0
             replace hE1 := hE1.symm
             subst hE1
             replace hE2 := hE2.symm
             subst hE2
             refine ret_two (Hr := []) [] Tryd.results23 (res_cell 2 rfl rfl tS_25 tA_25 rfl rfl) (res_tmp rfl) ⟨rfl, rfl, rfl⟩ (asK [] rfl) rfl rfl (.inl rfl)
            ·
             replace hm := iteF hm hs100
             refine wO rfl (wO rfl (wO rfl (wP rfl ?_)))
             obtain ⟨v105, hc105, hm⟩ := bindO_some hm
             refine wC [] [0,1,2] rfl fn_33 rfl (w_ropewalkref01_Truth_s N false _ hc105) (asK [] rfl) rfl (H' := [_,_,_]) rfl ?_
             rintro _ _ _ ⟨rfl, rfl, rfl⟩
             refine wS 2 0 rfl tS_25 (all' := [_,_,_]) rfl (H' := [_,_,_]) rfl (wP rfl (wl_nil (we_then (wc_keep [5,4] (S' := [_,_]) rfl (wc_ret (we_block_ret (we_then_ret ?_)))))))
             have hE := (Option.some.inj hm).symm
             obtain ⟨hE0, hF1⟩ := Prod.mk.inj hE
             obtain ⟨hE1, hE2⟩ := Prod.mk.inj hF1
             clear hE hF1
             replace hE0 := hE0.symm
             subst hE0
             replace hE1 := hE1.symm
             subst hE1
             replace hE2 := hE2.symm
             subst hE2
             refine ret_two (Hr := []) [] Tryd.results23 (res_cell 2 rfl rfl tS_25 tA_25 rfl rfl) (res_tmp rfl) ⟨rfl, rfl, rfl⟩ (asK [] rfl) rfl rfl (.inl rfl)
           ·
            replace hm := iteF hm hb95
            refine wc_keep [78,10,9,4,0] (S' := [_,_,_,_,_]) rfl (wc_seq (wc_region (wP rfl (wP rfl (wl_nil (we_then (wc_keep [106,78,10,9,4,0] (S' := [_,_,_,_,_,_]) rfl ?_)))))))
            refine wc_cond rfl (fun hb106 => ?_) (fun hb106 => ?_)
            ·
             replace hm := iteT hm hb106
             refine wc_keep [10,9,4] (S' := [_,_,_]) rfl (wc_seq (wc_region (wF rfl tF_25_1 (wD 1 1 rfl tS_2 tA_2 rfl (wP rfl (wP rfl ?_))))))
             refine wl_split (d := 111) (S' := [_,_,_,_,_,_]) rfl rfl (fun hs111 => ?_) (fun hs111 => ?_)
             ·
              replace hm := iteT hm hs111
              refine wO rfl (wO rfl (wO rfl (wP rfl ?_)))
              obtain ⟨v116, hc116, hm⟩ := bindO_some hm
              refine wC [] [0,1,2] rfl fn_33 rfl (w_ropewalkref01_Truth_s N true _ hc116) (asK [] rfl) rfl (H' := [_,_,_]) rfl ?_
              rintro _ _ _ ⟨rfl, rfl, rfl⟩
              refine wS 2 0 rfl tS_25 (all' := [_,_,_]) rfl (H' := [_,_,_]) rfl (wP rfl (wl_nil (we_then (wc_keep [5,4] (S' := [_,_]) rfl (wc_ret (we_block_ret (we_then_ret ?_)))))))
              have hE := (Option.some.inj hm).symm
              obtain ⟨hE0, hF1⟩ := Prod.mk.inj hE
              obtain ⟨hE1, hE2⟩ := Prod.mk.inj hF1
              clear hE hF1
              replace hE0 := hE0.symm
              subst hE0
              replace hE1 := hE1.symm
              subst hE1
              replace hE2 := hE2.symm
              subst hE2
              refine ret_two (Hr := []) [] Tryd.results23 (res_cell 2 rfl rfl tS_25 tA_25 rfl rfl) (res_tmp rfl) ⟨rfl, rfl, rfl⟩ (asK [] rfl) rfl rfl (.inl rfl)
             ·
              replace hm := iteF hm hs111
              refine wF rfl tF_25_1 (wD 0 1 rfl tS_2 tA_2 rfl (wP rfl (wP rfl ?_)))
              obtain ⟨v116, hc116, hm⟩ := bindO_some hm
              refine wC [] [0,1,2] rfl fn_33 rfl (w_ropewalkref01_Truth_s N (x61.n != 0) _ hc116) (asK [] rfl) rfl (H' := [_,_,_]) rfl ?_
              rintro _ _ _ ⟨rfl, rfl, rfl⟩
              refine wS 2 0 rfl tS_25 (all' := [_,_,_]) rfl (H' := [_,_,_]) rfl (wP rfl (wl_nil (we_then (wc_keep [5,4] (S' := [_,_]) rfl (wc_ret (we_block_ret (we_then_ret ?_)))))))
              have hE := (Option.some.inj hm).symm
              obtain ⟨hE0, hF1⟩ := Prod.mk.inj hE
              obtain ⟨hE1, hE2⟩ := Prod.mk.inj hF1
              clear hE hF1
              replace hE0 := hE0.symm
              subst hE0
              replace hE1 := hE1.symm
              subst hE1
              replace hE2 := hE2.symm
              subst hE2
              refine ret_two (Hr := []) [] Tryd.results23 (res_cell 2 rfl rfl tS_25 tA_25 rfl rfl) (res_tmp rfl) ⟨rfl, rfl, rfl⟩ (asK [] rfl) rfl rfl (.inl rfl)
            ·
             replace hm := iteF hm hb106
             refine wc_keep [78,10,9,4,0] (S' := [_,_,_,_,_]) rfl (wc_seq (wc_region (wP rfl (wP rfl (wl_nil (we_then (wc_keep [117,10,9,4,0] (S' := [_,_,_,_,_]) rfl ?_)))))))
             refine wc_cond rfl (fun hb117 => ?_) (fun hb117 => ?_)
             ·
              replace hm := iteT hm hb117
              refine wc_keep [9,4] (S' := [_,_]) rfl (wc_seq (wc_region (wF rfl tF_25_1 (wD 1 1 rfl tS_2 tA_2 rfl (wP rfl ?_)))))
              obtain ⟨v122, hc122, hm⟩ := bindO_some hm
              refine wC [] [0,1,2] rfl fn_33 rfl (w_ropewalkref01_Truth_s N (x55.n == 0) _ hc122) (asK [] rfl) rfl (H' := [_,_,_]) rfl ?_
              rintro _ _ _ ⟨rfl, rfl, rfl⟩
              refine wS 2 0 rfl tS_25 (all' := [_,_,_]) rfl (H' := [_,_,_]) rfl (wP rfl (wl_nil (we_then (wc_keep [5,4] (S' := [_,_]) rfl (wc_ret (we_block_ret (we_then_ret ?_)))))))
              have hE := (Option.some.inj hm).symm
              obtain ⟨hE0, hF1⟩ := Prod.mk.inj hE
              obtain ⟨hE1, hE2⟩ := Prod.mk.inj hF1
              clear hE hF1
              replace hE0 := hE0.symm
              subst hE0
              replace hE1 := hE1.symm
              subst hE1
              replace hE2 := hE2.symm
              subst hE2
              refine ret_two (Hr := []) [] Tryd.results23 (res_cell 2 rfl rfl tS_25 tA_25 rfl rfl) (res_tmp rfl) ⟨rfl, rfl, rfl⟩ (asK [] rfl) rfl rfl (.inl rfl)
             ·
              replace hm := iteF hm hb117
              refine wc_keep [10,9,4,0] (S' := [_,_,_,_]) rfl (wc_skip (we_block_normal (we_then (wc_seq (wc_region (wP rfl (wF rfl tF_25_1 (wD 1 1 rfl tS_2 tA_2 rfl (wF rfl tF_25_1 (wD 0 1 rfl tS_2 tA_2 rfl ?_))))))))))
              obtain ⟨⟨v129_0, v129_1⟩, hc129, hm⟩ := bindO_some hm
              try dsimp only at hm
              refine wC [] [0,1,2] rfl fn_34 rfl (w_ropewalkref01_reckoned_s N a0 x55.n x61.n _ _ hc129) (asK [] rfl) rfl (H' := [_,_,_]) rfl ?_
              rintro _ _ _ ⟨rfl, rfl, rfl⟩
              refine wP rfl (wP rfl (wP rfl (wP rfl (wP rfl (wl_nil (we_then (wc_keep [12,11,4] (S' := [_,_,_]) rfl (wc_seq (wc_seq (wc_region (wP rfl (wP rfl (wl_nil ?_)))))))))))))
              refine we_then (wc_keep [133,11,4] (S' := [_,_,_]) rfl ?_)
              refine wc_cond rfl (fun hb133 => ?_) (fun hb133 => ?_)
              ·
               replace hm := iteT hm hb133
               refine wc_keep [4] (S' := [_]) rfl (wc_seq (wc_region (wl_build rfl rfl rfl (freshS_eq rfl) rfl tZ_25 tP_25 rfl (out := [_,_,_]) rfl (wS 2 0 rfl tS_25 (all' := [_,_,_]) rfl (H' := [_,_,_]) rfl (wP rfl (wl_nil (we_then (wc_keep [5,4] (S' := [_,_]) rfl (wc_ret (we_then_ret ?_))))))))))
               have hE := (Option.some.inj hm).symm
               obtain ⟨hE0, hF1⟩ := Prod.mk.inj hE
               obtain ⟨hE1, hE2⟩ := Prod.mk.inj hF1
               clear hE hF1
               replace hE0 := hE0.symm
               subst hE0
               replace hE1 := hE1.symm
               subst hE1
               replace hE2 := hE2.symm
               subst hE2
               refine ret_two (Hr := []) [] Tryd.results23 (res_cell 2 rfl rfl tS_25 tA_25 rfl rfl) (res_tmp rfl) ⟨rfl, rfl, rfl⟩ (asK [] rfl) rfl rfl (.inl rfl)
              ·
               replace hm := iteF hm hb133
               refine wc_keep [11,4] (S' := [_,_]) rfl (wc_skip (we_then (wc_seq (wc_region (wP rfl ?_)))))
               obtain ⟨_, hc136, hm⟩ := bindO_some hm
               try dsimp only at hm
               refine wC [] [0,1,2] rfl fn_35 rfl (w_ropewalkref01_Number_s N v129_0 hc136) (asK [] rfl) rfl (H' := [_,_,_]) rfl ?_
               rintro _ _ _ ⟨rfl, rfl, rfl⟩
               refine wS 2 0 rfl tS_25 (all' := [_,_,_]) rfl (H' := [_,_,_]) rfl (wP rfl (wl_nil (we_then (wc_keep [5,4] (S' := [_,_]) rfl (wc_ret ?_)))))
               have hE := (Option.some.inj hm).symm
               obtain ⟨hE0, hF1⟩ := Prod.mk.inj hE
               obtain ⟨hE1, hE2⟩ := Prod.mk.inj hF1
               clear hE hF1
               replace hE0 := hE0.symm
               subst hE0
               replace hE1 := hE1.symm
               subst hE1
               replace hE2 := hE2.symm
               subst hE2
               refine ret_two (Hr := []) [] Tryd.results23 (res_cell 2 rfl rfl tS_25 tA_25 rfl rfl) (res_tmp rfl) ⟨rfl, rfl, rfl⟩ (asK [] rfl) rfl rfl (.inl rfl)
theorem w_ropewalkref09_Eval_s_b (N : Nat) (rc : Int → Int → Int → ByteArray → Int → Int → (List Api_ExprD) → (List V) → Option (Int × Int × ByteArray × Nat)) (ih : ∀ (a0 : Int) (a1 : Int) (a2 : Int) (a3 : ByteArray) (a4 : Int) (a5 : Int) (qp0 : Option Addr) (qc1 : Nat) (l6 : List Api_ExprD) (qp2 : Option Addr) (qc3 : Nat) (l7 : List V) (o0 : Int) (o1 : Int) (o2 : ByteArray) (o3 : Nat), rc a0 a1 a2 a3 a4 a5 l6 l7 = some (o0, o1, o2, o3) → Spec Tryd.prog 9 [.agg #[.int .u8 a0, .int .u8 a1, .int .i64 a2, .string a3, .int .i64 a4, .int .u8 a5, .slice qp0 l6.length qc1], .slice qp2 l7.length qc3] [.sli 7 R_Api_ExprD qp0 qc1 l6, .sli 3 R_V qp2 qc3 l7] [] (fun v Φr Hr => v = .tuple #[.agg #[.int .u8 o0, .int .i64 o1, .string o2], .int .i64 ((o3 : Nat) : Int)] ∧ Φr = [] ∧ Hr = [])) (a0 : Int) (a1 : Int) (a2 : Int) (a3 : ByteArray) (a4 : Int) (a5 : Int) (qp0 : Option Addr) (qc1 : Nat) (l6 : List Api_ExprD) (qp2 : Option Addr) (qc3 : Nat) (l7 : List V) (o0 : Int) (o1 : Int) (o2 : ByteArray) (o3 : Nat) (hm : m_ropewalkref09_Eval_b N rc a0 a1 a2 a3 a4 a5 l6 l7 = some (o0, o1, o2, o3)) : Spec Tryd.prog 9 [.agg #[.int .u8 a0, .int .u8 a1, .int .i64 a2, .string a3, .int .i64 a4, .int .u8 a5, .slice qp0 l6.length qc1], .slice qp2 l7.length qc3] [.sli 7 R_Api_ExprD qp0 qc1 l6, .sli 3 R_V qp2 qc3 l7] [] (fun v Φr Hr => v = .tuple #[.agg #[.int .u8 o0, .int .i64 o1, .string o2], .int .i64 ((o3 : Nat) : Int)] ∧ Φr = [] ∧ Hr = []) := by
 unfold m_ropewalkref09_Eval_b at hm
 refine spec_of Tryd.func9 rfl Tryd.ntmps9 rfl (S := [_,_]) rfl (fun C => (wc_seq (wc_region (wB rfl (fun g2 => (wl_alloc rfl rfl rfl (freshS_eq rfl) rfl tZ_25 rfl (fun g4 => (wP rfl (wl_nil (we_then (wc_keep [4,2,1] (S' := [_,_,_]) rfl (wc_seq (wc_region (wl_build rfl rfl rfl (freshS_eq rfl) rfl tZ_25 tP_25 rfl (out := [_,_,_]) rfl (wl_alloc rfl rfl rfl (freshS_eq rfl) rfl tZ_25 rfl (fun g6 => (wS 0 0 rfl tS_25 (all' := [_,_,_]) rfl (H' := [_,_,_]) rfl ?_)))))))))))))))))
 refine wl_nil (we_then (wc_keep [6,4,2,1] (S' := [_,_,_,_]) rfl (wc_seq ?_)))
 obtain ⟨bj_1, hm, hLj_1⟩ := bindS_some hm
 unfold m_ropewalkref09_Eval_C1 at hm
 refine wc_cut (σ := Int × Int × ByteArray) (fun (j_1_6_f0, j_1_6_f1, j_1_6_f2) => bj_1 = .inl (j_1_6_f0, j_1_6_f1, j_1_6_f2)) (fun (j_1_6_f0, j_1_6_f1, j_1_6_f2) => [(6, .pointer (some ⟨g6,0, none⟩)), (4, .pointer (some ⟨g4,0, none⟩))]) (fun (j_1_6_f0, j_1_6_f1, j_1_6_f2) => []) (fun (j_1_6_f0, j_1_6_f1, j_1_6_f2) => [.blk g6 [.int .u8 j_1_6_f0, .int .i64 j_1_6_f1, .string j_1_6_f2] 25, .blk g4 [.int .u8 0, .int .i64 0, .string ((⟨#[]⟩ : ByteArray))] 25]) ?_ ?_
 ·
  refine wc_seq (wc_region (wF rfl tF_29_0 (wD 2 0 rfl tS_22 tA_22 rfl (wl_nil (we_then (wc_keep [13,6,4,2,1] (S' := [_,_,_,_,_]) rfl (wc_block (wc_seq (wc_region (wP rfl (wP rfl (wl_nil (we_then ?_)))))))))))))
  refine wc_keep [14,13,6,4,2,1] (S' := [_,_,_,_,_,_]) rfl ?_
  refine wc_cond rfl (fun hb14 => ?_) (fun hb14 => ?_)
  ·
   replace hm := iteT hm hb14
   refine wc_keep [6,4,2] (S' := [_,_,_]) rfl (wc_region (wF rfl tF_29_1 (wl_loadH 2 1 rfl rfl rfl (freshS_eq rfl) rfl rfl rfl (cs := [_,_,_]) rfl tS_25 tA_25 rfl rfl (wS 0 0 rfl tS_25 (all' := [_,_,_]) rfl (H' := [_,_,_]) rfl (wl_nil (we_block_normal ?_))))))
   have hE := (Option.some.inj hm).symm
   refine we_pick [0,1] rfl (H' := [_,_]) rfl ?_
   refine we_join (a1, a2, a3) hE [6,4] rfl (asK [] rfl) rfl
  ·
   replace hm := iteF hm hb14
   refine wc_keep [13,6,4,2,1] (S' := [_,_,_,_,_]) rfl (wc_seq (wc_region (wP rfl (wP rfl (wl_nil (we_then (wc_keep [18,13,6,4,2,1] (S' := [_,_,_,_,_,_]) rfl ?_)))))))
   refine wc_cond rfl (fun hb18 => ?_) (fun hb18 => ?_)
   ·
    replace hm := iteT hm hb18
    refine wc_keep [6,4,2,1] (S' := [_,_,_,_]) rfl (wc_seq ?_)
    obtain ⟨bj_2, hm, hLj_2⟩ := bindO_some hm
    refine wc_cut (σ := Bool) (fun j_2_29 => bj_2 = j_2_29) (fun j_2_29 => [(6, .pointer (some ⟨g6,0, none⟩)), (4, .pointer (some ⟨g4,0, none⟩)), (2, .pointer (some ⟨g2,0, none⟩)), (1, .slice qp2 l7.length qc3), (29, .bool j_2_29)]) (fun j_2_29 => [.sli 7 R_Api_ExprD qp0 qc1 l6, .sli 3 R_V qp2 qc3 l7]) (fun j_2_29 => [.blk g6 [.int .u8 0, .int .i64 0, .string ((⟨#[]⟩ : ByteArray))] 25, .blk g4 [.int .u8 0, .int .i64 0, .string ((⟨#[]⟩ : ByteArray))] 25, .blk g2 [.int .u8 a0, .int .u8 a1, .int .i64 a2, .string a3, .int .i64 a4, .int .u8 a5, .slice qp0 l6.length qc1] 29]) ?_ ?_
    ·
     refine wc_region (wF rfl tF_29_2 (wD 2 4 rfl tS_3 tA_3 rfl (wP rfl (wP rfl ?_))))
     refine wl_split (d := 23) (S' := [_,_,_,_,_,_,_]) rfl rfl (fun hs23 => ?_) (fun hs23 => ?_)
     ·
      replace hm := iteT hm hs23
      refine wF rfl tF_29_2 (wD 2 4 rfl tS_3 tA_3 rfl (wP rfl (wN rfl tE_30 (wP rfl (wP rfl (wl_nil ?_))))))
      have hE := (Option.some.inj hm).symm
      refine we_join (decide (a4 < ((l7.length : Nat) : Int))) hE [6,4,2,1,29] rfl (asK [0,1] rfl) rfl
     ·
      replace hm := iteF hm hs23
      refine wO rfl (wO rfl (wO rfl (wO rfl (wO rfl (wP rfl (wl_nil ?_))))))
      have hE := (Option.some.inj hm).symm
      refine we_join false hE [6,4,2,1,29] rfl (asK [0,1] rfl) rfl
    ·
     rintro j_2_29 hE
     try dsimp only
     have hm := hLj_2
     rw [hE] at hm
     refine wc_cond rfl (fun hb29 => ?_) (fun hb29 => ?_)
     ·
      replace hm := iteT hm hb29
      refine wc_keep [6,4,2,1] (S' := [_,_,_,_]) rfl (wc_region (wP rfl (wF rfl tF_29_2 (wD 2 4 rfl tS_3 tA_3 rfl ?_))))
      obtain ⟨hn33, hm⟩ := gd_some hm
      obtain ⟨x33, hx33, hm⟩ := bindO_some hm
      refine wl_indexA 1 a4.toNat rfl rfl rfl (freshS_eq rfl) rfl rfl rfl rfl (toNat_eq hn33) hx33 tE_30 tS_25 (fun b33 q33 cs33 hlx33 => (wl_open R_V_opens 1 rfl (fun r33 er33 _ => ?_)))
      subst er33
      refine wl_load 0 0 rfl rfl rfl (freshS_eq rfl) rfl rfl rfl (cs := [_,_,_]) rfl tS_25 tA_25 rfl rfl (wS 0 0 rfl tS_25 (all' := [_,_,_]) rfl (H' := [_,_,_]) rfl (wl_nil (we_block_normal ?_)))
      have hE := (Option.some.inj hm).symm
      refine we_pick [0,1] rfl (H' := [_,_]) rfl ?_
      refine we_join (x33.k, x33.n, x33.s) hE [6,4] rfl (asK [] rfl) rfl
     ·
      replace hm := iteF hm hb29
      refine wc_keep [6,4] (S' := [_,_]) rfl (wc_skip (we_block_normal ?_))
      have hE := (Option.some.inj hm).symm
      refine we_pick [0,1] rfl (H' := [_,_]) rfl ?_
      refine we_join (0,0, (⟨#[]⟩ : ByteArray)) hE [6,4] rfl (asK [] rfl) rfl
   ·
    replace hm := iteF hm hb18
    refine wc_keep [13,6,4,2,1] (S' := [_,_,_,_,_]) rfl (wc_seq (wc_region (wP rfl (wP rfl (wl_nil (we_then (wc_keep [35,6,4,2,1] (S' := [_,_,_,_,_]) rfl ?_)))))))
    refine wc_cond rfl (fun hb35 => ?_) (fun hb35 => ?_)
    ·
     replace hm := iteT hm hb35
     refine wc_keep [4,2,1] (S' := [_,_,_]) rfl (wc_seq (wc_region (wP rfl (wl_nil (we_then (wc_seq ?_))))))
     obtain ⟨bj_3, hm, hLj_3⟩ := bindS_some hm
     refine wc_cut (σ := (List V) × (Option Addr) × Nat × Nat) (fun (j_3_7_l, j_3_7_p, j_3_7_c, j_3_7_n) => bj_3 = .inl j_3_7_l) (fun (j_3_7_l, j_3_7_p, j_3_7_c, j_3_7_n) => [(4, .pointer (some ⟨g4,0, none⟩)), (2, .pointer (some ⟨g2,0, none⟩)), (7, .slice j_3_7_p j_3_7_n j_3_7_c)]) (fun (j_3_7_l, j_3_7_p, j_3_7_c, j_3_7_n) => [.sli 7 R_Api_ExprD qp0 qc1 l6]) (fun (j_3_7_l, j_3_7_p, j_3_7_c, j_3_7_n) => [.blk g4 [.int .u8 0, .int .i64 0, .string ((⟨#[]⟩ : ByteArray))] 25, .blk g2 [.int .u8 a0, .int .u8 a1, .int .i64 a2, .string a3, .int .i64 a4, .int .u8 a5, .slice qp0 l6.length qc1] 29, .own 25 3 R_V (.slice j_3_7_p j_3_7_n j_3_7_c) j_3_7_l]) ?_ ?_
     ·
      refine wc_seq (wc_region (wP rfl (wl_nil (we_then (wc_block (wc_rowNil 25 3 R_V (wc_pick [0,2,3] rfl (H' := [_,_,_]) rfl (wc_loop (σ := Nat × Nat × (List V) × (Option Addr) × Nat × Nat) (fun (nu1, u1_8, u1_7_l, u1_7_p, u1_7_c, u1_7_n) => iter (m_ropewalkref09_Eval_L1 N l6 rc l7) nu1 (u1_8, u1_7_l) = some bj_3) (fun (nu1, u1_8, u1_7_l, u1_7_p, u1_7_c, u1_7_n) => nu1) (fun (nu1, u1_8, u1_7_l, u1_7_p, u1_7_c, u1_7_n) => [(8, .int .i64 ((u1_8 : Nat) : Int)), (7, .slice u1_7_p u1_7_n u1_7_c), (4, .pointer (some ⟨g4,0, none⟩)), (2, .pointer (some ⟨g2,0, none⟩)), (1, .slice qp2 l7.length qc3)]) (fun (nu1, u1_8, u1_7_l, u1_7_p, u1_7_c, u1_7_n) => [.sli 7 R_Api_ExprD qp0 qc1 l6, .sli 3 R_V qp2 qc3 l7]) (fun (nu1, u1_8, u1_7_l, u1_7_p, u1_7_c, u1_7_n) => [.own 25 3 R_V (.slice u1_7_p u1_7_n u1_7_c) u1_7_l, .blk g4 [.int .u8 0, .int .i64 0, .string ((⟨#[]⟩ : ByteArray))] 25, .blk g2 [.int .u8 a0, .int .u8 a1, .int .i64 a2, .string a3, .int .i64 a4, .int .u8 a5, .slice qp0 l6.length qc1] 29]) (N, 0,[], none, 0,0) hm [8,7,4,2,1] rfl (asK [0,1] rfl) rfl (fun s_ hm => ?_)))))))))
      obtain ⟨nu1, u1_8, u1_7_l, u1_7_p, u1_7_c, u1_7_n⟩ := s_
      try dsimp only at hm ⊢
      obtain ⟨mu1, bu1, hnu1, hq, hLu1⟩ := iter_some hm
      clear hm
      subst hnu1
      replace hm := hq
      clear hq
      unfold m_ropewalkref09_Eval_L1 at hm
      try dsimp only at hm
      refine wc_seq (wc_seq (wc_region (wP rfl (wF rfl tF_29_4 (wD 2 6 rfl tS_27 tA_27 rfl (wN rfl tE_27 (wP rfl (wl_as (d := 41) (v' := .bool (decide (u1_8 < l6.length))) (S' := [_,_,_,_,_,_,_,_,_]) rfl rfl (natlt (a := u1_8) (b := l6.length)) (wl_nil (we_then (wc_keep [41,8,7,4,2,1] (S' := [_,_,_,_,_,_]) rfl ?_)))))))))))
      refine wc_cond rfl (fun hb41 => ?_) (fun hb41 => ?_)
      ·
       replace hm := iteT hm hb41
       refine wc_keep [8,7,4,2,1] (S' := [_,_,_,_,_]) rfl (wc_skip (we_then (wc_seq (wc_block (wc_seq (wc_region (wF rfl tF_29_4 (wD 2 6 rfl tS_27 tA_27 rfl (wP rfl ?_)))))))))
       obtain ⟨x48, hx48, hm⟩ := bindO_some hm
       refine wl_indexA 0 u1_8 rfl rfl rfl (freshS_eq rfl) rfl rfl rfl rfl rfl hx48 tE_27 tS_29 (fun b48 q48 cs48 hlx48 => (wl_open R_Api_ExprD_opens 1 rfl (fun r48 er48 _ => ?_)))
       subst er48
       refine wl_load 1 0 rfl rfl rfl (freshS_eq rfl) rfl rfl rfl (cs := [_,_,_,_,_,_,_]) rfl tS_29 tA_29 rfl rfl (wP rfl ?_)
       obtain ⟨⟨v51_0, v51_1, v51_2, v51_3⟩, hc51, hm⟩ := bindO_some hm
       try dsimp only at hm
       refine wC [] [0,1,2] rfl fn_9 rfl (ih x48.kind x48.value.k x48.value.n x48.value.s x48.var x48.op r48.1 r48.2 x48.kids qp2 qc3 l7 _ _ _ _ hc51) (asK [0,4] rfl) rfl (H' := [_,_,_]) rfl ?_
       rintro _ _ _ ⟨rfl, rfl, rfl⟩
       refine wP rfl (wP rfl (wP rfl (wl_alloc rfl rfl rfl (freshS_eq rfl) rfl tZ_25 rfl (fun g9 => (wS 0 0 rfl tS_25 (all' := [_,_,_]) rfl (H' := [_,_,_,_]) rfl (wP rfl (wl_nil (we_then (wc_keep [10,9,8,7,4,2,1] (S' := [_,_,_,_,_,_,_]) rfl (wc_seq (wc_seq (wc_region (wP rfl (wP rfl ?_))))))))))))))
       refine wl_as (d := 55) (v' := .bool (v51_3 != 0)) (S' := [_,_,_,_,_,_,_,_]) rfl rfl (natne (a := v51_3) (b := 0)) (wl_nil (we_then (wc_keep [55,10,9,8,7,4,2,1] (S' := [_,_,_,_,_,_,_,_]) rfl ?_)))
       refine wc_cond rfl (fun hb55 => ?_) (fun hb55 => ?_)
       ·
        replace hm := iteT hm hb55
        refine wc_keep [10,4] (S' := [_,_]) rfl (wc_seq (wc_region (wl_build rfl rfl rfl (freshS_eq rfl) rfl tZ_25 tP_25 rfl (out := [_,_,_]) rfl (wP rfl (wS 2 0 rfl tS_25 (all' := [_,_,_]) rfl (H' := [_,_,_,_]) rfl (wP rfl (wl_nil (we_then (wc_keep [5,4] (S' := [_,_]) rfl (wc_ret (we_then_ret (we_block_ret (we_then_ret ?_)))))))))))))
        refine we_then_ret (we_block_ret (we_then_ret (we_block_ret (we_then_ret ?_))))
        have hE := (Option.some.inj hm).symm
        replace hE := link_inr hLu1 hE
        replace hE := link_inr hLj_3 hE
        replace hE := link_inr hLj_1 hE
        obtain ⟨hE0, hF1⟩ := Prod.mk.inj hE
        obtain ⟨hE1, hF2⟩ := Prod.mk.inj hF1
        obtain ⟨hE2, hE3⟩ := Prod.mk.inj hF2
        clear hE hF1 hF2
        replace hE0 := hE0.symm
        subst hE0
        replace hE1 := hE1.symm
        subst hE1
        replace hE2 := hE2.symm
        subst hE2
        replace hE3 := hE3.symm
        subst hE3
        refine ret_two (Hr := []) [] Tryd.results9 (res_cell 2 rfl rfl tS_25 tA_25 rfl rfl) (res_tmp rfl) ⟨rfl, rfl, rfl⟩ (asK [] rfl) rfl rfl (.inl rfl)
       ·
        replace hm := iteF hm hb55
        refine wc_keep [9,8,7,4,2,1] (S' := [_,_,_,_,_,_]) rfl (wc_skip (we_then (wc_region (wP rfl (wl_loadH 0 0 rfl rfl rfl (freshS_eq rfl) rfl rfl rfl (cs := [_,_,_]) rfl tS_25 tA_25 rfl rfl (wl_buildSlice rfl rfl rfl (freshS_eq rfl) rfl tE_30 tS_25 tZ_25 rfl (zs := [.int .u8 0, .int .i64 0, .string ((⟨#[]⟩ : ByteArray))]) (by kernel_rfl) rfl (out := [_,_,_]) rfl (fun g60 => ?_)))))))
        obtain ⟨hg61, hm⟩ := gd_some hm
        refine wl_appendH ([(⟨v51_0, v51_1, v51_2⟩ : V)]) 2 0 rfl rfl rfl (freshS_eq rfl) rfl rfl rfl rfl rfl (fun F w hφ => ⟨[.int .u8 v51_0, .int .i64 v51_1, .string v51_2],[], rfl, rfl, ⟨(), rfl, ask_nil⟩, rfl⟩) tE_30 tR_25 rfl rfl (Nat.le_trans hg61 (by decide)) (Nat.le_trans (Nat.mul_le_mul_right _ hg61) (by decide)) (H2 := fun p61 c61 => [_,_, .own 25 3 R_V (.slice p61 ((u1_7_l ++ ([(⟨v51_0, v51_1, v51_2⟩ : V)])).length) c61) (u1_7_l ++ ([(⟨v51_0, v51_1, v51_2⟩ : V)])), _,_]) (fun _ _ => rfl) (fun p61 c61 => (wl_drop 0 rfl (H' := [_,_,_,_]) rfl (wl_pure (S' := [_,_,_,_,_,_,_,_,_]) rfl rfl rfl rfl rfl (wl_nil (we_block_normal (we_then (wc_keep [7,8,4,2,1] (S' := [_,_,_,_,_]) rfl (wc_region (wP rfl (wP rfl ?_))))))))))
        obtain ⟨hg43, hm⟩ := gd_some hm
        refine wl_as (d := 43) (v' := .int .i64 ((u1_8 + 1 : Nat) : Int)) (S' := [_,_,_,_,_,_]) rfl rfl (nat_add (a := u1_8) (b := 1) hg43) (wl_pure (S' := [_,_,_,_,_,_]) rfl rfl rfl rfl rfl (wl_nil ?_))
        have hE := (Option.some.inj hm).symm
        replace hE := link_inl hLu1 hE
        refine we_pick [1,2,3] rfl (H' := [_,_,_]) rfl ?_
        refine we_roundK (_, u1_8 + 1, (u1_7_l ++ ([(⟨v51_0, v51_1, v51_2⟩ : V)])), p61, c61, ((u1_7_l ++ ([(⟨v51_0, v51_1, v51_2⟩ : V)])).length)) (Nat.lt_succ_self _) hE [8,7,4,2,1] rfl (asK [3,4] rfl) rfl
      ·
       replace hm := iteF hm hb41
       refine wc_keep [7,4,2] (S' := [_,_,_]) rfl (wc_exit (we_then_exit (we_then_exit (we_block_hit ?_))))
       have hE := (Option.some.inj hm).symm
       replace hE := link_inr hLu1 hE
       refine we_pick [1,2,0] rfl (H' := [_,_,_]) rfl ?_
       refine we_join (u1_7_l, u1_7_p, u1_7_c, u1_7_n) hE [4,2,7] rfl (asK [0] rfl) rfl
     ·
      rintro ⟨j_3_7_l, j_3_7_p, j_3_7_c, j_3_7_n⟩ hE
      try dsimp only
      have hm := link_inl hLj_3 hE
      refine wc_seq (wc_region (wF rfl tF_29_3 (wD 1 5 rfl tS_26 tA_26 rfl (wP rfl (wl_ownLen 2 rfl (fun hzj_3_7_n _ => ?_))))))
      subst hzj_3_7_n
      obtain ⟨⟨v65_0, v65_1, v65_2⟩, hc65, hm⟩ := bindO_some hm
      try dsimp only at hm
      refine wl_lend [] [0,1,2] [2] rfl rfl rfl (freshS_eq rfl) rfl rfl fn_23 rfl (w_ropewalkref01_Do_s N a5 j_3_7_p j_3_7_c j_3_7_l _ _ _ hc65) (fun F w hφ hh => (ask_cons (own_sli (hh _ (mem_at (k := 0) rfl))) ask_nil)) (fun _ _ _ hR => by obtain ⟨rfl, rfl, rfl⟩ := hR; exact ⟨rfl, (fun _ h => free_nil h)⟩) rfl rfl (H' := [_,_,_]) rfl ?_
      rintro _ _ _ ⟨rfl, rfl, rfl⟩
      refine wP rfl (wP rfl (wS 0 0 rfl tS_25 (all' := [_,_,_]) rfl (H' := [_,_,_]) rfl (wP rfl (wl_nil (we_then (wc_keep [5,4] (S' := [_,_]) rfl (wc_ret (we_block_ret (we_then_ret ?_)))))))))
      have hE := (Option.some.inj hm).symm
      replace hE := link_inr hLj_1 hE
      obtain ⟨hE0, hF1⟩ := Prod.mk.inj hE
      obtain ⟨hE1, hF2⟩ := Prod.mk.inj hF1
      obtain ⟨hE2, hE3⟩ := Prod.mk.inj hF2
      clear hE hF1 hF2
      replace hE0 := hE0.symm
      subst hE0
      replace hE1 := hE1.symm
      subst hE1
      replace hE2 := hE2.symm
      subst hE2
      replace hE3 := hE3.symm
      subst hE3
      refine ret_two (Hr := []) [] Tryd.results9 (res_cell 0 rfl rfl tS_25 tA_25 rfl rfl) (res_tmp rfl) ⟨rfl, rfl, rfl⟩ (asK [] rfl) rfl rfl (.inl rfl)
    ·
     replace hm := iteF hm hb35
     refine wc_keep [6,4] (S' := [_,_]) rfl (wc_skip (we_block_normal ?_))
     have hE := (Option.some.inj hm).symm
     refine we_pick [0,1] rfl (H' := [_,_]) rfl ?_
     refine we_join (0,0, (⟨#[]⟩ : ByteArray)) hE [6,4] rfl (asK [] rfl) rfl
 ·
  rintro ⟨j_1_6_f0, j_1_6_f1, j_1_6_f2⟩ hE
  try dsimp only
  have hm := link_inl hLj_1 hE
  try dsimp only at hm
  refine wc_seq (wc_seq (wc_region (wl_loadH 0 0 rfl rfl rfl (freshS_eq rfl) rfl rfl rfl (cs := [_,_,_]) rfl tS_25 tA_25 rfl rfl ?_)))
  obtain ⟨v69, hc69, hm⟩ := bindO_some hm
  refine wC [] [0,1] rfl fn_24 rfl (w_ropewalkref01_Right_s N j_1_6_f0 j_1_6_f1 j_1_6_f2 _ hc69) (asK [] rfl) rfl (H' := [_,_]) rfl ?_
  rintro _ _ _ ⟨rfl, rfl, rfl⟩
  refine wP rfl (wl_nil (we_then (wc_keep [70,6,4] (S' := [_,_,_]) rfl ?_)))
  refine wc_cond rfl (fun hb70 => ?_) (fun hb70 => ?_)
  ·
   replace hm := iteT hm hb70
   refine wc_keep [4] (S' := [_]) rfl (wc_seq (wc_region (wl_build rfl rfl rfl (freshS_eq rfl) rfl tZ_25 tP_25 rfl (out := [_,_,_]) rfl (wS 1 0 rfl tS_25 (all' := [_,_,_]) rfl (H' := [_,_]) rfl (wP rfl (wl_nil (we_then (wc_keep [5,4] (S' := [_,_]) rfl (wc_ret (we_then_ret ?_))))))))))
   have hE := (Option.some.inj hm).symm
   obtain ⟨hE0, hF1⟩ := Prod.mk.inj hE
   obtain ⟨hE1, hF2⟩ := Prod.mk.inj hF1
   obtain ⟨hE2, hE3⟩ := Prod.mk.inj hF2
   clear hE hF1 hF2
   replace hE0 := hE0.symm
   subst hE0
   replace hE1 := hE1.symm
   subst hE1
   replace hE2 := hE2.symm
   subst hE2
   replace hE3 := hE3.symm
   subst hE3
   refine ret_two (Hr := []) [] Tryd.results9 (res_cell 1 rfl rfl tS_25 tA_25 rfl rfl) (res_tmp rfl) ⟨rfl, rfl, rfl⟩ (asK [] rfl) rfl rfl (.inl rfl)
  ·
   replace hm := iteF hm hb70
   refine wc_keep [6,4] (S' := [_,_]) rfl (wc_skip (we_then (wc_seq (wc_region (wl_loadH 0 0 rfl rfl rfl (freshS_eq rfl) rfl rfl rfl (cs := [_,_,_]) rfl tS_25 tA_25 rfl rfl (wS 1 0 rfl tS_25 (all' := [_,_,_]) rfl (H' := [_,_]) rfl (wP rfl (wl_nil (we_then (wc_keep [5,4] (S' := [_,_]) rfl (wc_ret ?_)))))))))))
   have hE := (Option.some.inj hm).symm
   obtain ⟨hE0, hF1⟩ := Prod.mk.inj hE
   obtain ⟨hE1, hF2⟩ := Prod.mk.inj hF1
   obtain ⟨hE2, hE3⟩ := Prod.mk.inj hF2
   clear hE hF1 hF2
   replace hE0 := hE0.symm
   subst hE0
   replace hE1 := hE1.symm
   subst hE1
   replace hE2 := hE2.symm
   subst hE2
   replace hE3 := hE3.symm
   subst hE3
   refine ret_two (Hr := []) [] Tryd.results9 (res_cell 1 rfl rfl tS_25 tA_25 rfl rfl) (res_tmp rfl) ⟨rfl, rfl, rfl⟩ (asK [] rfl) rfl rfl (.inl rfl)
theorem w_ropewalkref09_Eval_s : ∀ (N : Nat), ∀ (a0 : Int) (a1 : Int) (a2 : Int) (a3 : ByteArray) (a4 : Int) (a5 : Int) (qp0 : Option Addr) (qc1 : Nat) (l6 : List Api_ExprD) (qp2 : Option Addr) (qc3 : Nat) (l7 : List V) (o0 : Int) (o1 : Int) (o2 : ByteArray) (o3 : Nat), m_ropewalkref09_Eval N a0 a1 a2 a3 a4 a5 l6 l7 = some (o0, o1, o2, o3) → Spec Tryd.prog 9 [.agg #[.int .u8 a0, .int .u8 a1, .int .i64 a2, .string a3, .int .i64 a4, .int .u8 a5, .slice qp0 l6.length qc1], .slice qp2 l7.length qc3] [.sli 7 R_Api_ExprD qp0 qc1 l6, .sli 3 R_V qp2 qc3 l7] [] (fun v Φr Hr => v = .tuple #[.agg #[.int .u8 o0, .int .i64 o1, .string o2], .int .i64 ((o3 : Nat) : Int)] ∧ Φr = [] ∧ Hr = []) := by
  intro N
  induction N with
  | zero => intro a0 a1 a2 a3 a4 a5 qp0 qc1 l6 qp2 qc3 l7 o0 o1 o2 o3 hm; cases hm
  | succ N ih => intro a0 a1 a2 a3 a4 a5 qp0 qc1 l6 qp2 qc3 l7 o0 o1 o2 o3 hm; exact w_ropewalkref09_Eval_s_b N (m_ropewalkref09_Eval N) ih a0 a1 a2 a3 a4 a5 qp0 qc1 l6 qp2 qc3 l7 o0 o1 o2 o3 hm
theorem w_ropewalkkit_SameExprs_W_v2_s (N : Nat) (rc : Int → Int → Int → ByteArray → Int → Int → (List Api_ExprDS) → Nat → Int → Int → Int → ByteArray → Int → Int → (List Api_ExprD) → Option (Bool)) (ih : ∀ (a0 : Int) (a1 : Int) (a2 : Int) (a3 : ByteArray) (a4 : Int) (a5 : Int) (qp0 : Option Addr) (qc1 : Nat) (l6 : List Api_ExprDS) (k7 : Nat) (a8 : Int) (a9 : Int) (a10 : Int) (a11 : ByteArray) (a12 : Int) (a13 : Int) (qp2 : Option Addr) (qc3 : Nat) (l14 : List Api_ExprD) (o0 : Bool), rc a0 a1 a2 a3 a4 a5 l6 k7 a8 a9 a10 a11 a12 a13 l14 = some o0 → Spec Tryd.prog 25 [.agg #[.int .u8 a0, .int .u8 a1, .int .i64 a2, .string a3, .int .i64 a4, .int .u8 a5, .slice qp0 k7 qc1], .agg #[.int .u8 a8, .int .u8 a9, .int .i64 a10, .string a11, .int .i64 a12, .int .u8 a13, .slice qp2 l14.length qc3]] [.sli 7 RS_Api_ExprD qp0 qc1 l6, .sli 7 R_Api_ExprD qp2 qc3 l14] [] (fun v Φr Hr => v = .bool o0 ∧ Φr = [] ∧ Hr = [])) (qp0 : Option Addr) (qc1 : Nat) (l0 : List Api_ExprDS) (k1 : Nat) (qp2 : Option Addr) (qc3 : Nat) (l2 : List Api_ExprD) (o0 : Bool) (hm : m_ropewalkkit_SameExprs_W_v2 N rc l0 k1 l2 = some o0) : Spec Tryd.prog 37 [.slice qp0 k1 qc1, .slice qp2 l2.length qc3] [.sli 7 RS_Api_ExprD qp0 qc1 l0, .sli 7 R_Api_ExprD qp2 qc3 l2] [] (fun v Φr Hr => v = .bool o0 ∧ Φr = [] ∧ Hr = []) := by
 unfold m_ropewalkkit_SameExprs_W_v2 at hm
 refine spec_of Tryd.func37 rfl Tryd.ntmps37 rfl (S := [_,_]) rfl (fun C => (wc_seq (wc_region (wP rfl (wl_nil (we_then (wc_keep [0,1] (S' := [_,_]) rfl (wc_seq (wc_seq (wc_region (wP rfl (wN rfl tE_27 (wP rfl (wN rfl tE_27 ?_))))))))))))))
 refine wP rfl (wl_as (d := 10) (v' := .bool (k1 != l2.length)) (S' := [_,_,_,_,_,_]) rfl rfl (natne (a := k1) (b := l2.length)) (wl_nil (we_then (wc_keep [10,0,1] (S' := [_,_,_]) rfl ?_))))
 refine wc_cond rfl (fun hb10 => ?_) (fun hb10 => ?_)
 ·
  replace hm := iteT hm hb10
  refine wc_keep [] (S' := []) rfl (wc_seq (wc_region (wP rfl (wl_nil (we_then (wc_ret (we_then_ret ?_)))))))
  have hE := (Option.some.inj hm).symm
  replace hE := hE.symm
  subst hE
  refine ret_one (Hr := []) [] Tryd.results37 (res_tmp rfl) ⟨rfl, rfl, rfl⟩ (asK [] rfl) rfl rfl (.inl rfl)
 ·
  replace hm := iteF hm hb10
  refine wc_keep [0,1] (S' := [_,_]) rfl (wc_skip (we_then (wc_seq ?_)))
  obtain ⟨bj_1, hm, hLj_1⟩ := bindS_some hm
  refine wc_cut (σ := Unit) (fun _ => bj_1 = .inl ()) (fun _ => []) (fun _ => []) (fun _ => []) ?_ ?_
  ·
   refine wc_seq (wc_region (wP rfl (wl_nil (we_then (wc_block (wc_loop (σ := Nat × Nat) (fun (nu1, u1_5) => iter (m_ropewalkkit_SameExprs_W_v2_L1 N k1 l0 l2 rc) nu1 u1_5 = some bj_1) (fun (nu1, u1_5) => nu1) (fun (nu1, u1_5) => [(5, .int .i64 ((u1_5 : Nat) : Int)), (0, .slice qp0 k1 qc1), (1, .slice qp2 l2.length qc3)]) (fun (nu1, u1_5) => [.sli 7 RS_Api_ExprD qp0 qc1 l0, .sli 7 R_Api_ExprD qp2 qc3 l2]) (fun (nu1, u1_5) => []) (N, 0) hm [5,0,1] rfl (asK [0,1] rfl) rfl (fun s_ hm => ?_)))))))
   obtain ⟨nu1, u1_5⟩ := s_
   try dsimp only at hm ⊢
   obtain ⟨mu1, bu1, hnu1, hq, hLu1⟩ := iter_some hm
   clear hm
   subst hnu1
   replace hm := hq
   clear hq
   unfold m_ropewalkkit_SameExprs_W_v2_L1 at hm
   try dsimp only at hm
   refine wc_seq (wc_seq (wc_region (wP rfl (wP rfl (wN rfl tE_27 (wP rfl (wl_as (d := 14) (v' := .bool (decide (u1_5 < k1))) (S' := [_,_,_,_,_,_]) rfl rfl (natlt (a := u1_5) (b := k1)) (wl_nil (we_then (wc_keep [14,5,0,1] (S' := [_,_,_,_]) rfl ?_))))))))))
   refine wc_cond rfl (fun hb14 => ?_) (fun hb14 => ?_)
   ·
    replace hm := iteT hm hb14
    refine wc_keep [5,0,1] (S' := [_,_,_]) rfl (wc_skip (we_then (wc_seq (wc_block (wc_seq ?_)))))
    obtain ⟨hqx19, hm⟩ := gd_some hm
    obtain ⟨x19, hx19, hm⟩ := bindO_some hm
    obtain ⟨x23, hx23, hm⟩ := bindO_some hm
    obtain ⟨v25, hc25, hm⟩ := bindO_some hm
    refine wc_draw [0,1,2,3,4,5,6,7,9] rfl rfl (fun hok => (xP hok 0 rfl (xP hok 1 rfl (wx_indexF hok 2 0 u1_5 rfl rfl rfl (freshS_eq rfl) rfl rfl rfl rfl rfl rfl hqx19 hx19 tE_27 tS_29 (fun b19 q19 cs19 hlx19 => (wx_openR RS_Api_ExprD_opens 1 rfl (fun r19 er19 _ => ?_)))))))
    subst er19
    refine wx_load hok 3 1 0 rfl rfl rfl (freshS_eq rfl) rfl rfl rfl rfl (cs := [_,_,_,_,_,_,_]) rfl tS_29 tA_29 rfl rfl (xP hok 4 rfl (xP hok 5 rfl (wx_indexA hok 6 4 u1_5 rfl rfl rfl (freshS_eq rfl) rfl rfl rfl rfl rfl rfl hx23 tE_27 tS_29 (fun b23 q23 cs23 hlx23 => (wx_openR R_Api_ExprD_opens 1 rfl (fun r23 er23 _ => ?_))))))
    subst er23
    refine wx_load hok 7 1 0 rfl rfl rfl (freshS_eq rfl) rfl rfl rfl rfl (cs := [_,_,_,_,_,_,_]) rfl tS_29 tA_29 rfl rfl (xS hok 8 rfl (wC [] [] rfl fn_25 rfl (ih x19.kind x19.value.k x19.value.n x19.value.s x19.var x19.op r19.1 r19.2 (x19.kids ++ x19.kidsT) x19.kids.length x23.kind x23.value.k x23.value.n x23.value.s x23.var x23.op r23.1 r23.2 x23.kids _ hc25) (asK [3,0] rfl) rfl (H' := []) rfl ?_))
    rintro _ _ _ ⟨rfl, rfl, rfl⟩
    refine wl_nil (we_x [0,1,2,3,4,5,6,7] [] rfl rfl (xP hok 9 rfl (wx_done hok rfl (we_then (wc_keep [26,5,0,1] (S' := [_,_,_,_]) rfl ?_)))))
    refine wc_cond rfl (fun hb26 => ?_) (fun hb26 => ?_)
    ·
     replace hm := iteT hm hb26
     refine wc_keep [] (S' := []) rfl (wc_seq (wc_region (wP rfl (wl_nil (we_then (wc_ret (we_block_ret (we_then_ret (we_then_ret (we_block_ret (we_then_ret ?_)))))))))))
     have hE := (Option.some.inj hm).symm
     replace hE := link_inr hLu1 hE
     replace hE := link_inr hLj_1 hE
     replace hE := hE.symm
     subst hE
     refine ret_one (Hr := []) [] Tryd.results37 (res_tmp rfl) ⟨rfl, rfl, rfl⟩ (asK [] rfl) rfl rfl (.inl rfl)
    ·
     replace hm := iteF hm hb26
     refine wc_keep [5,0,1] (S' := [_,_,_]) rfl (wc_skip (we_block_normal (we_then (wc_region (wP rfl (wP rfl ?_))))))
     obtain ⟨hg16, hm⟩ := gd_some hm
     refine wl_as (d := 16) (v' := .int .i64 ((u1_5 + 1 : Nat) : Int)) (S' := [_,_,_,_]) rfl rfl (nat_add (a := u1_5) (b := 1) hg16) (wl_pure (S' := [_,_,_,_]) rfl rfl rfl rfl rfl (wl_nil ?_))
     have hE := (Option.some.inj hm).symm
     replace hE := link_inl hLu1 hE
     refine we_roundK (_, u1_5 + 1) (Nat.lt_succ_self _) hE [5,0,1] rfl (asK [6,7] rfl) rfl
   ·
    replace hm := iteF hm hb14
    refine wc_keep [] (S' := []) rfl (wc_exit (we_then_exit (we_then_exit (we_block_hit ?_))))
    have hE := (Option.some.inj hm).symm
    replace hE := link_inr hLu1 hE
    refine we_join () hE [] rfl (asK [] rfl) rfl
  ·
   rintro _ hE
   try dsimp only
   have hm := link_inl hLj_1 hE
   try dsimp only at hm
   refine wc_seq (wc_region (wP rfl (wl_nil (we_then (wc_ret ?_)))))
   have hE := (Option.some.inj hm).symm
   replace hE := hE.symm
   subst hE
   refine ret_one (Hr := []) [] Tryd.results37 (res_tmp rfl) ⟨rfl, rfl, rfl⟩ (asK [] rfl) rfl rfl (.inl rfl)
theorem w_ropewalkkit_SameExpr_W_s_b (N : Nat) (rc : Int → Int → Int → ByteArray → Int → Int → (List Api_ExprDS) → Nat → Int → Int → Int → ByteArray → Int → Int → (List Api_ExprD) → Option (Bool)) (ih : ∀ (a0 : Int) (a1 : Int) (a2 : Int) (a3 : ByteArray) (a4 : Int) (a5 : Int) (qp0 : Option Addr) (qc1 : Nat) (l6 : List Api_ExprDS) (k7 : Nat) (a8 : Int) (a9 : Int) (a10 : Int) (a11 : ByteArray) (a12 : Int) (a13 : Int) (qp2 : Option Addr) (qc3 : Nat) (l14 : List Api_ExprD) (o0 : Bool), rc a0 a1 a2 a3 a4 a5 l6 k7 a8 a9 a10 a11 a12 a13 l14 = some o0 → Spec Tryd.prog 25 [.agg #[.int .u8 a0, .int .u8 a1, .int .i64 a2, .string a3, .int .i64 a4, .int .u8 a5, .slice qp0 k7 qc1], .agg #[.int .u8 a8, .int .u8 a9, .int .i64 a10, .string a11, .int .i64 a12, .int .u8 a13, .slice qp2 l14.length qc3]] [.sli 7 RS_Api_ExprD qp0 qc1 l6, .sli 7 R_Api_ExprD qp2 qc3 l14] [] (fun v Φr Hr => v = .bool o0 ∧ Φr = [] ∧ Hr = [])) (a0 : Int) (a1 : Int) (a2 : Int) (a3 : ByteArray) (a4 : Int) (a5 : Int) (qp0 : Option Addr) (qc1 : Nat) (l6 : List Api_ExprDS) (k7 : Nat) (a8 : Int) (a9 : Int) (a10 : Int) (a11 : ByteArray) (a12 : Int) (a13 : Int) (qp2 : Option Addr) (qc3 : Nat) (l14 : List Api_ExprD) (o0 : Bool) (hm : m_ropewalkkit_SameExpr_W_b N rc a0 a1 a2 a3 a4 a5 l6 k7 a8 a9 a10 a11 a12 a13 l14 = some o0) : Spec Tryd.prog 25 [.agg #[.int .u8 a0, .int .u8 a1, .int .i64 a2, .string a3, .int .i64 a4, .int .u8 a5, .slice qp0 k7 qc1], .agg #[.int .u8 a8, .int .u8 a9, .int .i64 a10, .string a11, .int .i64 a12, .int .u8 a13, .slice qp2 l14.length qc3]] [.sli 7 RS_Api_ExprD qp0 qc1 l6, .sli 7 R_Api_ExprD qp2 qc3 l14] [] (fun v Φr Hr => v = .bool o0 ∧ Φr = [] ∧ Hr = []) := by
 unfold m_ropewalkkit_SameExpr_W_b at hm
 refine spec_of Tryd.func25 rfl Tryd.ntmps25 rfl (S := [_,_]) rfl (fun C => (wc_seq (wc_region (wB rfl (fun g2 => (wB rfl (fun g3 => (wP rfl (wl_nil (we_then (wc_keep [3,2] (S' := [_,_]) rfl (wc_seq ?_))))))))))))
 obtain ⟨bj_1, hm, hLj_1⟩ := bindO_some hm
 unfold m_ropewalkkit_SameExpr_W_C1 at hm
 refine wc_cut (σ := Bool) (fun j_1_4 => bj_1 = j_1_4) (fun j_1_4 => [(4, .bool j_1_4)]) (fun j_1_4 => []) (fun j_1_4 => []) ?_ ?_
 ·
  refine wc_region (wF rfl tF_29_0 (wD 1 0 rfl tS_22 tA_22 rfl (wF rfl tF_29_0 (wD 0 0 rfl tS_22 tA_22 rfl (wP rfl (wP rfl ?_))))))
  refine wl_split (d := 10) (S' := [_,_,_,_,_,_,_]) rfl rfl (fun hs10 => ?_) (fun hs10 => ?_)
  ·
   replace hm := iteT hm hs10
   refine wF rfl tF_29_1 (wl_loadH 1 1 rfl rfl rfl (freshS_eq rfl) rfl rfl rfl (cs := [_,_,_]) rfl tS_25 tA_25 rfl rfl (wF rfl tF_29_1 (wl_loadH 0 1 rfl rfl rfl (freshS_eq rfl) rfl rfl rfl (cs := [_,_,_]) rfl tS_25 tA_25 rfl rfl (wl_bin rfl rfl rfl (freshS_eq rfl) rfl rfl rfl (eqlV _ _ (⟨a1, a2, a3⟩ : V) (⟨a9, a10, a11⟩ : V)) (wP rfl (wP rfl ?_))))))
   refine wl_split (d := 17) (S' := [_,_,_,_,_,_,_,_,_,_,_,_,_,_]) rfl rfl (fun hs17 => ?_) (fun hs17 => ?_)
   ·
    replace hm := iteT hm hs17
    refine wF rfl tF_29_2 (wD 1 4 rfl tS_3 tA_3 rfl (wF rfl tF_29_2 (wD 0 4 rfl tS_3 tA_3 rfl (wP rfl (wP rfl (wP rfl ?_))))))
    refine wl_split (d := 24) (S' := [_,_,_,_,_,_,_,_,_,_,_,_,_,_,_,_,_,_,_,_,_]) rfl rfl (fun hs24 => ?_) (fun hs24 => ?_)
    ·
     replace hm := iteT hm hs24
     refine wF rfl tF_29_3 (wD 1 5 rfl tS_26 tA_26 rfl (wF rfl tF_29_3 (wD 0 5 rfl tS_26 tA_26 rfl (wP rfl (wP rfl (wP rfl ?_))))))
     refine wl_split (d := 31) (S' := [_,_,_,_,_,_,_,_,_,_,_,_,_,_,_,_,_,_,_,_,_,_,_,_,_,_,_,_]) rfl rfl (fun hs31 => ?_) (fun hs31 => ?_)
     ·
      replace hm := iteT hm hs31
      refine wF rfl tF_29_4 (wD 1 6 rfl tS_27 tA_27 rfl (wF rfl tF_29_4 (wD 0 6 rfl tS_27 tA_27 rfl ?_)))
      obtain ⟨v36, hc36, hm⟩ := bindO_some hm
      refine wC [] [0,1] rfl fn_37 rfl (w_ropewalkkit_SameExprs_W_v2_s N rc ih qp0 qc1 l6 k7 qp2 qc3 l14 _ hc36) (asK [0,1] rfl) rfl (H' := [_,_]) rfl ?_
      rintro _ _ _ ⟨rfl, rfl, rfl⟩
      refine wP rfl (wP rfl (wl_nil ?_))
      have hE := (Option.some.inj hm).symm
      refine we_pick [] rfl (H' := []) rfl ?_
      refine we_join v36 hE [4] rfl (asK [] rfl) rfl
     ·
      replace hm := iteF hm hs31
      refine wO rfl (wO rfl (wO rfl (wO rfl (wO rfl (wP rfl (wP rfl (wl_nil ?_)))))))
      have hE := (Option.some.inj hm).symm
      refine we_pick [] rfl (H' := []) rfl ?_
      refine we_join false hE [4] rfl (asK [] rfl) rfl
    ·
     replace hm := iteF hm hs24
     refine wO rfl (wO rfl (wO rfl (wO rfl (wO rfl (wP rfl (wP rfl (wO rfl (wO rfl (wO rfl (wO rfl (wO rfl (wP rfl (wP rfl ?_)))))))))))))
     refine wl_nil ?_
     have hE := (Option.some.inj hm).symm
     refine we_pick [] rfl (H' := []) rfl ?_
     refine we_join false hE [4] rfl (asK [] rfl) rfl
   ·
    replace hm := iteF hm hs17
    refine wO rfl (wO rfl (wO rfl (wO rfl (wO rfl (wP rfl (wP rfl (wO rfl (wO rfl (wO rfl (wO rfl (wO rfl (wP rfl (wP rfl ?_)))))))))))))
    refine wO rfl (wO rfl (wO rfl (wO rfl (wO rfl (wP rfl (wP rfl (wl_nil ?_)))))))
    have hE := (Option.some.inj hm).symm
    refine we_pick [] rfl (H' := []) rfl ?_
    refine we_join false hE [4] rfl (asK [] rfl) rfl
  ·
   replace hm := iteF hm hs10
   refine wO rfl (wO rfl (wO rfl (wO rfl (wO rfl (wP rfl (wP rfl (wO rfl (wO rfl (wO rfl (wO rfl (wO rfl (wP rfl (wP rfl ?_)))))))))))))
   refine wO rfl (wO rfl (wO rfl (wO rfl (wO rfl (wP rfl (wP rfl (wO rfl (wO rfl (wO rfl (wO rfl (wO rfl (wP rfl (wP rfl ?_)))))))))))))
   refine wl_nil ?_
   have hE := (Option.some.inj hm).symm
   refine we_pick [] rfl (H' := []) rfl ?_
   refine we_join false hE [4] rfl (asK [] rfl) rfl
 ·
  rintro j_1_4 hE
  try dsimp only
  have hm := hLj_1
  rw [hE] at hm
  refine wc_ret ?_
  have hE := (Option.some.inj hm).symm
  replace hE := hE.symm
  subst hE
  refine ret_one (Hr := []) [] Tryd.results25 (res_tmp rfl) ⟨rfl, rfl, rfl⟩ (asK [] rfl) rfl rfl (.inl rfl)
theorem w_ropewalkkit_SameExpr_W_s : ∀ (N : Nat), ∀ (a0 : Int) (a1 : Int) (a2 : Int) (a3 : ByteArray) (a4 : Int) (a5 : Int) (qp0 : Option Addr) (qc1 : Nat) (l6 : List Api_ExprDS) (k7 : Nat) (a8 : Int) (a9 : Int) (a10 : Int) (a11 : ByteArray) (a12 : Int) (a13 : Int) (qp2 : Option Addr) (qc3 : Nat) (l14 : List Api_ExprD) (o0 : Bool), m_ropewalkkit_SameExpr_W N a0 a1 a2 a3 a4 a5 l6 k7 a8 a9 a10 a11 a12 a13 l14 = some o0 → Spec Tryd.prog 25 [.agg #[.int .u8 a0, .int .u8 a1, .int .i64 a2, .string a3, .int .i64 a4, .int .u8 a5, .slice qp0 k7 qc1], .agg #[.int .u8 a8, .int .u8 a9, .int .i64 a10, .string a11, .int .i64 a12, .int .u8 a13, .slice qp2 l14.length qc3]] [.sli 7 RS_Api_ExprD qp0 qc1 l6, .sli 7 R_Api_ExprD qp2 qc3 l14] [] (fun v Φr Hr => v = .bool o0 ∧ Φr = [] ∧ Hr = []) := by
  intro N
  induction N with
  | zero => intro a0 a1 a2 a3 a4 a5 qp0 qc1 l6 k7 a8 a9 a10 a11 a12 a13 qp2 qc3 l14 o0 hm; cases hm
  | succ N ih => intro a0 a1 a2 a3 a4 a5 qp0 qc1 l6 k7 a8 a9 a10 a11 a12 a13 qp2 qc3 l14 o0 hm; exact w_ropewalkkit_SameExpr_W_s_b N (m_ropewalkkit_SameExpr_W N) ih a0 a1 a2 a3 a4 a5 qp0 qc1 l6 k7 a8 a9 a10 a11 a12 a13 qp2 qc3 l14 o0 hm
theorem w_ropewalkkit_KeptExprs_W_v2_s (N : Nat) (rc : Int → Int → Int → ByteArray → Int → Int → (List Api_ExprDS) → Nat → Int → Int → Int → ByteArray → Int → Int → (List Api_ExprD) → Option (Bool)) (ih : ∀ (a0 : Int) (a1 : Int) (a2 : Int) (a3 : ByteArray) (a4 : Int) (a5 : Int) (qp0 : Option Addr) (qc1 : Nat) (l6 : List Api_ExprDS) (k7 : Nat) (a8 : Int) (a9 : Int) (a10 : Int) (a11 : ByteArray) (a12 : Int) (a13 : Int) (qp2 : Option Addr) (qc3 : Nat) (l14 : List Api_ExprD) (o0 : Bool), rc a0 a1 a2 a3 a4 a5 l6 k7 a8 a9 a10 a11 a12 a13 l14 = some o0 → Spec Tryd.prog 10 [.agg #[.int .u8 a0, .int .u8 a1, .int .i64 a2, .string a3, .int .i64 a4, .int .u8 a5, .slice qp0 k7 qc1], .agg #[.int .u8 a8, .int .u8 a9, .int .i64 a10, .string a11, .int .i64 a12, .int .u8 a13, .slice qp2 l14.length qc3]] [.sli 7 RS_Api_ExprD qp0 qc1 l6, .sli 7 R_Api_ExprD qp2 qc3 l14] [] (fun v Φr Hr => v = .bool o0 ∧ Φr = [] ∧ Hr = [])) (qp0 : Option Addr) (qc1 : Nat) (l0 : List Api_ExprDS) (k1 : Nat) (qp2 : Option Addr) (qc3 : Nat) (l2 : List Api_ExprD) (o0 : Bool) (hm : m_ropewalkkit_KeptExprs_W_v2 N rc l0 k1 l2 = some o0) : Spec Tryd.prog 26 [.slice qp0 k1 qc1, .slice qp2 l2.length qc3] [.sli 7 RS_Api_ExprD qp0 qc1 l0, .sli 7 R_Api_ExprD qp2 qc3 l2] [] (fun v Φr Hr => v = .bool o0 ∧ Φr = [] ∧ Hr = []) := by
 unfold m_ropewalkkit_KeptExprs_W_v2 at hm
 refine spec_of Tryd.func26 rfl Tryd.ntmps26 rfl (S := [_,_]) rfl (fun C => (wc_seq (wc_region (wP rfl (wl_nil (we_then (wc_keep [0,1] (S' := [_,_]) rfl (wc_seq (wc_seq (wc_region (wP rfl (wN rfl tE_27 (wP rfl (wN rfl tE_27 ?_))))))))))))))
 refine wP rfl (wl_as (d := 11) (v' := .bool (k1 != l2.length)) (S' := [_,_,_,_,_,_]) rfl rfl (natne (a := k1) (b := l2.length)) (wl_nil (we_then (wc_keep [11,0,1] (S' := [_,_,_]) rfl ?_))))
 refine wc_cond rfl (fun hb11 => ?_) (fun hb11 => ?_)
 ·
  replace hm := iteT hm hb11
  refine wc_keep [] (S' := []) rfl (wc_seq (wc_region (wP rfl (wl_nil (we_then (wc_ret (we_then_ret ?_)))))))
  have hE := (Option.some.inj hm).symm
  replace hE := hE.symm
  subst hE
  refine ret_one (Hr := []) [] Tryd.results26 (res_tmp rfl) ⟨rfl, rfl, rfl⟩ (asK [] rfl) rfl rfl (.inl rfl)
 ·
  replace hm := iteF hm hb11
  refine wc_keep [0,1] (S' := [_,_]) rfl (wc_skip (we_then (wc_seq (wc_region (wP rfl (wP rfl (wN rfl tE_27 (wP rfl ?_))))))))
  obtain ⟨hg15, hm⟩ := gd_some hm
  refine wl_as (d := 15) (v' := .int .i64 ((l2.length + 12 : Nat) : Int)) (S' := [_,_,_,_,_]) rfl rfl (nat_add (a := l2.length) (b := 12) hg15) ?_
  obtain ⟨hg16, hm⟩ := gd_some hm
  refine wl_sliToF 0 rfl rfl rfl (freshS_eq rfl) rfl rfl rfl rfl rfl tE_27 tS_29 hg16 (fun p16 => (wP rfl (wl_nil (we_then (wc_keep [5,1] (S' := [_,_]) rfl (wc_seq ?_))))))
  obtain ⟨bj_1, hm, hLj_1⟩ := bindS_some hm
  refine wc_cut (σ := Unit) (fun _ => bj_1 = .inl ()) (fun _ => []) (fun _ => []) (fun _ => []) ?_ ?_
  ·
   refine wc_seq (wc_region (wP rfl (wl_nil (we_then (wc_block (wc_loop (σ := Nat × Nat) (fun (nu1, u1_6) => iter (m_ropewalkkit_KeptExprs_W_v2_L1 N l0 l2 rc) nu1 u1_6 = some bj_1) (fun (nu1, u1_6) => nu1) (fun (nu1, u1_6) => [(6, .int .i64 ((u1_6 : Nat) : Int)), (5, .slice p16 ((l0.take (l2.length + 12)).length) qc1), (1, .slice qp2 l2.length qc3)]) (fun (nu1, u1_6) => [.sli 7 RS_Api_ExprD p16 qc1 (l0.take (l2.length + 12)), .sli 7 R_Api_ExprD qp2 qc3 l2]) (fun (nu1, u1_6) => []) (N, 0) hm [6,5,1] rfl (asK [0,2] rfl) rfl (fun s_ hm => ?_)))))))
   obtain ⟨nu1, u1_6⟩ := s_
   try dsimp only at hm ⊢
   obtain ⟨mu1, bu1, hnu1, hq, hLu1⟩ := iter_some hm
   clear hm
   subst hnu1
   replace hm := hq
   clear hq
   unfold m_ropewalkkit_KeptExprs_W_v2_L1 at hm
   try dsimp only at hm
   refine wc_seq (wc_seq (wc_region (wP rfl (wP rfl (wN rfl tE_27 (wP rfl (wl_as (d := 20) (v' := .bool (decide (u1_6 < ((l0.take (l2.length + 12)).length)))) (S' := [_,_,_,_,_,_]) rfl rfl (natlt (a := u1_6) (b := (l0.take (l2.length + 12)).length)) (wl_nil (we_then (wc_keep [20,6,5,1] (S' := [_,_,_,_]) rfl ?_))))))))))
   refine wc_cond rfl (fun hb20 => ?_) (fun hb20 => ?_)
   ·
    replace hm := iteT hm hb20
    refine wc_keep [6,5,1] (S' := [_,_,_]) rfl (wc_skip (we_then (wc_seq (wc_block (wc_seq ?_)))))
    obtain ⟨bj_2, hm, hLj_2⟩ := bindO_some hm
    unfold m_ropewalkkit_KeptExprs_W_v2_C2 at hm
    refine wc_cut (σ := Bool) (fun j_2_57 => bj_2 = j_2_57) (fun j_2_57 => [(6, .int .i64 ((u1_6 : Nat) : Int)), (5, .slice p16 ((l0.take (l2.length + 12)).length) qc1), (1, .slice qp2 l2.length qc3), (57, .bool j_2_57)]) (fun j_2_57 => [.sli 7 RS_Api_ExprD p16 qc1 (l0.take (l2.length + 12)), .sli 7 R_Api_ExprD qp2 qc3 l2]) (fun j_2_57 => []) ?_ ?_
    ·
     rcases ite_some hm with ⟨hs27, hm⟩ | ⟨hs27, hm⟩
     ·
      obtain ⟨x30, hx30, hm⟩ := bindO_some hm
      obtain ⟨x34, hx34, hm⟩ := bindO_some hm
      obtain ⟨v36, hc36, hm⟩ := bindO_some hm
      rcases ite_some hm with ⟨hs39, hm⟩ | ⟨hs39, hm⟩
      ·
       refine wc_draw [0,1,2,3,4,5,6,7,8,9,10,11,12,14,15,16,17,18,19,20,21,22,23,24,25,26,27,28,29,32,33,34] rfl rfl (fun hok => (xP hok 0 rfl (xP hok 1 rfl (wx_len hok 2 rfl rfl rfl (freshS_eq rfl) rfl rfl rfl tE_27 (xP hok 3 rfl (wx_as (d := 26) (v' := .bool (decide (u1_6 < l2.length))) (S' := [_,_,_,_,_,_]) rfl rfl (natlt (a := u1_6) (b := l2.length)) (xP hok 4 rfl (wx_as (d := 27) (v' := .bool true) (S' := [_,_,_,_,_,_,_]) rfl rfl (bool_is hs27) (xP hok 5 rfl (xP hok 6 rfl (wx_indexA hok 7 0 u1_6 rfl rfl rfl (freshS_eq rfl) rfl rfl rfl rfl rfl rfl hx30 tE_27 tS_29 (fun b30 q30 cs30 hlx30 => (wx_openR RS_Api_ExprD_opens 1 rfl (fun r30 er30 _ => ?_))))))))))))))
       subst er30
       refine wx_load hok 8 1 0 rfl rfl rfl (freshS_eq rfl) rfl rfl rfl rfl (cs := [_,_,_,_,_,_,_]) rfl tS_29 tA_29 rfl rfl (xP hok 9 rfl (xP hok 10 rfl (wx_indexA hok 11 4 u1_6 rfl rfl rfl (freshS_eq rfl) rfl rfl rfl rfl rfl rfl hx34 tE_27 tS_29 (fun b34 q34 cs34 hlx34 => (wx_openR R_Api_ExprD_opens 1 rfl (fun r34 er34 _ => ?_))))))
       subst er34
       refine wx_load hok 12 1 0 rfl rfl rfl (freshS_eq rfl) rfl rfl rfl rfl (cs := [_,_,_,_,_,_,_]) rfl tS_29 tA_29 rfl rfl (xS hok 13 rfl (wC [] [] rfl fn_10 rfl (ih x30.kind x30.value.k x30.value.n x30.value.s x30.var x30.op r30.1 r30.2 (x30.kids ++ x30.kidsT) x30.kids.length x34.kind x34.value.k x34.value.n x34.value.s x34.var x34.op r34.1 r34.2 x34.kids _ hc36) (asK [3,0] rfl) rfl (H' := []) rfl ?_))
       rintro _ _ _ ⟨rfl, rfl, rfl⟩
       refine wl_nil (we_x [0,1,2,3,4,5,6,7] [] rfl rfl (xP hok 14 rfl (xP hok 15 rfl (xP hok 16 rfl (wx_as (d := 39) (v' := .bool true) (S' := [_,_,_,_,_,_,_,_,_,_,_,_,_,_,_,_,_,_,_]) rfl rfl (bool_is hs39) (xO hok 17 rfl (xO hok 18 rfl (xO hok 19 rfl (xO hok 20 rfl (xO hok 21 rfl (xO hok 22 rfl (xO hok 23 rfl (xO hok 24 rfl ?_)))))))))))))
       refine xO hok 25 rfl (xO hok 26 rfl (xO hok 27 rfl (xO hok 28 rfl (xO hok 29 rfl (xS hok 30 rfl (wO rfl (wl_nil (we_x [0,1,2,3,4,5,6,7] [] rfl rfl (xS hok 31 rfl (wO rfl (wl_nil (we_x [0,1,2,3,4,5,6,7] [] rfl rfl (xO hok 32 rfl ?_)))))))))))))
       refine xO hok 33 rfl (xP hok 34 rfl (wx_done hok rfl ?_))
       have hE := (Option.some.inj hm).symm
       refine we_join true hE [6,5,1,57] rfl (asK [6,7] rfl) rfl
      ·
       rcases ite_some hm with ⟨hs44, hm⟩ | ⟨hs44, hm⟩
       ·
        obtain ⟨x47, hx47, hm⟩ := bindO_some hm
        obtain ⟨hg52, hm⟩ := gd_some hm
        obtain ⟨_, hc53, hm⟩ := bindO_some hm
        try dsimp only at hm
        obtain ⟨v54, hc54, hm⟩ := bindO_some hm
        refine wc_draw [0,1,2,3,4,5,6,7,8,9,10,11,12,14,15,16,17,18,19,20,21,22,23,24,25,26,27,28,29,32,33,34] rfl rfl (fun hok => (xP hok 0 rfl (xP hok 1 rfl (wx_len hok 2 rfl rfl rfl (freshS_eq rfl) rfl rfl rfl tE_27 (xP hok 3 rfl (wx_as (d := 26) (v' := .bool (decide (u1_6 < l2.length))) (S' := [_,_,_,_,_,_]) rfl rfl (natlt (a := u1_6) (b := l2.length)) (xP hok 4 rfl (wx_as (d := 27) (v' := .bool true) (S' := [_,_,_,_,_,_,_]) rfl rfl (bool_is hs27) (xP hok 5 rfl (xP hok 6 rfl (wx_indexA hok 7 0 u1_6 rfl rfl rfl (freshS_eq rfl) rfl rfl rfl rfl rfl rfl hx30 tE_27 tS_29 (fun b30 q30 cs30 hlx30 => (wx_openR RS_Api_ExprD_opens 1 rfl (fun r30 er30 _ => ?_))))))))))))))
        subst er30
        refine wx_load hok 8 1 0 rfl rfl rfl (freshS_eq rfl) rfl rfl rfl rfl (cs := [_,_,_,_,_,_,_]) rfl tS_29 tA_29 rfl rfl (xP hok 9 rfl (xP hok 10 rfl (wx_indexA hok 11 4 u1_6 rfl rfl rfl (freshS_eq rfl) rfl rfl rfl rfl rfl rfl hx34 tE_27 tS_29 (fun b34 q34 cs34 hlx34 => (wx_openR R_Api_ExprD_opens 1 rfl (fun r34 er34 _ => ?_))))))
        subst er34
        refine wx_load hok 12 1 0 rfl rfl rfl (freshS_eq rfl) rfl rfl rfl rfl (cs := [_,_,_,_,_,_,_]) rfl tS_29 tA_29 rfl rfl (xS hok 13 rfl (wC [] [] rfl fn_10 rfl (ih x30.kind x30.value.k x30.value.n x30.value.s x30.var x30.op r30.1 r30.2 (x30.kids ++ x30.kidsT) x30.kids.length x34.kind x34.value.k x34.value.n x34.value.s x34.var x34.op r34.1 r34.2 x34.kids _ hc36) (asK [3,0] rfl) rfl (H' := []) rfl ?_))
        rintro _ _ _ ⟨rfl, rfl, rfl⟩
        refine wl_nil (we_x [0,1,2,3,4,5,6,7] [] rfl rfl (xP hok 14 rfl (xP hok 15 rfl (xP hok 16 rfl (wx_as (d := 39) (v' := .bool false) (S' := [_,_,_,_,_,_,_,_,_,_,_,_,_,_,_,_,_,_,_]) rfl rfl (bool_is hs39) (xP hok 17 rfl (xP hok 18 rfl (wx_len hok 19 rfl rfl rfl (freshS_eq rfl) rfl rfl rfl tE_27 (xP hok 20 rfl (wx_as (d := 43) (v' := .bool (decide (l2.length ≤ u1_6))) (S' := [_,_,_,_,_,_,_,_,_,_,_,_,_,_,_,_,_,_,_,_,_,_,_]) rfl rfl (natge (a := u1_6) (b := l2.length)) (xP hok 21 rfl (wx_as (d := 44) (v' := .bool true) (S' := [_,_,_,_,_,_,_,_,_,_,_,_,_,_,_,_,_,_,_,_,_,_,_,_]) rfl rfl (bool_is hs44) (xP hok 22 rfl ?_)))))))))))))
        refine xP hok 23 rfl (wx_indexA hok 24 6 u1_6 rfl rfl rfl (freshS_eq rfl) rfl rfl rfl rfl rfl rfl hx47 tE_27 tS_29 (fun b47 q47 cs47 hlx47 => (wx_openR RS_Api_ExprD_opens 1 rfl (fun r47 er47 _ => ?_))))
        subst er47
        refine wx_load hok 25 1 0 rfl rfl rfl (freshS_eq rfl) rfl rfl rfl rfl (cs := [_,_,_,_,_,_,_]) rfl tS_29 tA_29 rfl rfl (xP hok 26 rfl (xP hok 27 rfl (wx_len hok 28 rfl rfl rfl (freshS_eq rfl) rfl rfl rfl tE_27 (xP hok 29 rfl (wx_as (d := 52) (v' := .int .i64 (((u1_6 : Nat) : Int) - ((l2.length : Nat) : Int))) (S' := [_,_,_,_,_,_,_,_,_,_,_,_,_,_,_,_,_,_,_,_,_,_,_,_,_,_,_,_,_,_,_,_]) rfl rfl (i64_in hg52) (xS hok 30 rfl (wC [] [] rfl fn_27 rfl (w_ropewalkkit_markExpr_s N 1 (((u1_6 : Nat) : Int) - ((l2.length : Nat) : Int)) hc53) (asK [] rfl) rfl (H' := []) rfl ?_)))))))
        rintro _ _ _ ⟨rfl, rfl, rfl⟩
        refine wl_nil (we_x [0,1,2,3,4,5,6,7,8,9,10] [] rfl rfl (xS hok 31 rfl (wl_fact (.sli 7 R_Api_ExprD none 0 ([] : List Api_ExprD)) (fun _ _ _ => sli_none) (wC [] [] rfl fn_25 rfl (w_ropewalkkit_SameExpr_W_s N x47.kind x47.value.k x47.value.n x47.value.s x47.var x47.op r47.1 r47.2 (x47.kids ++ x47.kidsT) x47.kids.length 0 0 0 (⟨#[]⟩ : ByteArray) (IntKind.wrap .i64 ((IntKind.wrap .i64 (1000003 * (IntKind.wrap .i64 (1 + 7)))) + (((u1_6 : Nat) : Int) - ((l2.length : Nat) : Int)))) 0 none 0 ([] : List Api_ExprD) _ hc54) (asK [1,0] rfl) rfl (H' := []) rfl ?_))))
        rintro _ _ _ ⟨rfl, rfl, rfl⟩
        refine wl_nil (we_x [1,2,3,4,5,6,7,8,9,10,11] [] rfl rfl (xP hok 32 rfl (xP hok 33 rfl (xP hok 34 rfl (wx_done hok rfl ?_)))))
        have hE := (Option.some.inj hm).symm
        refine we_join (!v54) hE [6,5,1,57] rfl (asK [10,11] rfl) rfl
       ·
        refine wc_draw [0,1,2,3,4,5,6,7,8,9,10,11,12,14,15,16,17,18,19,20,21,22,23,24,25,26,27,28,29,32,33,34] rfl rfl (fun hok => (xP hok 0 rfl (xP hok 1 rfl (wx_len hok 2 rfl rfl rfl (freshS_eq rfl) rfl rfl rfl tE_27 (xP hok 3 rfl (wx_as (d := 26) (v' := .bool (decide (u1_6 < l2.length))) (S' := [_,_,_,_,_,_]) rfl rfl (natlt (a := u1_6) (b := l2.length)) (xP hok 4 rfl (wx_as (d := 27) (v' := .bool true) (S' := [_,_,_,_,_,_,_]) rfl rfl (bool_is hs27) (xP hok 5 rfl (xP hok 6 rfl (wx_indexA hok 7 0 u1_6 rfl rfl rfl (freshS_eq rfl) rfl rfl rfl rfl rfl rfl hx30 tE_27 tS_29 (fun b30 q30 cs30 hlx30 => (wx_openR RS_Api_ExprD_opens 1 rfl (fun r30 er30 _ => ?_))))))))))))))
        subst er30
        refine wx_load hok 8 1 0 rfl rfl rfl (freshS_eq rfl) rfl rfl rfl rfl (cs := [_,_,_,_,_,_,_]) rfl tS_29 tA_29 rfl rfl (xP hok 9 rfl (xP hok 10 rfl (wx_indexA hok 11 4 u1_6 rfl rfl rfl (freshS_eq rfl) rfl rfl rfl rfl rfl rfl hx34 tE_27 tS_29 (fun b34 q34 cs34 hlx34 => (wx_openR R_Api_ExprD_opens 1 rfl (fun r34 er34 _ => ?_))))))
        subst er34
        refine wx_load hok 12 1 0 rfl rfl rfl (freshS_eq rfl) rfl rfl rfl rfl (cs := [_,_,_,_,_,_,_]) rfl tS_29 tA_29 rfl rfl (xS hok 13 rfl (wC [] [] rfl fn_10 rfl (ih x30.kind x30.value.k x30.value.n x30.value.s x30.var x30.op r30.1 r30.2 (x30.kids ++ x30.kidsT) x30.kids.length x34.kind x34.value.k x34.value.n x34.value.s x34.var x34.op r34.1 r34.2 x34.kids _ hc36) (asK [3,0] rfl) rfl (H' := []) rfl ?_))
        rintro _ _ _ ⟨rfl, rfl, rfl⟩
        refine wl_nil (we_x [0,1,2,3,4,5,6,7] [] rfl rfl (xP hok 14 rfl (xP hok 15 rfl (xP hok 16 rfl (wx_as (d := 39) (v' := .bool false) (S' := [_,_,_,_,_,_,_,_,_,_,_,_,_,_,_,_,_,_,_]) rfl rfl (bool_is hs39) (xP hok 17 rfl (xP hok 18 rfl (wx_len hok 19 rfl rfl rfl (freshS_eq rfl) rfl rfl rfl tE_27 (xP hok 20 rfl (wx_as (d := 43) (v' := .bool (decide (l2.length ≤ u1_6))) (S' := [_,_,_,_,_,_,_,_,_,_,_,_,_,_,_,_,_,_,_,_,_,_,_]) rfl rfl (natge (a := u1_6) (b := l2.length)) (xP hok 21 rfl (wx_as (d := 44) (v' := .bool false) (S' := [_,_,_,_,_,_,_,_,_,_,_,_,_,_,_,_,_,_,_,_,_,_,_,_]) rfl rfl (bool_is hs44) (xO hok 22 rfl ?_)))))))))))))
        refine xO hok 23 rfl (xO hok 24 rfl (xO hok 25 rfl (xO hok 26 rfl (xO hok 27 rfl (xO hok 28 rfl (xO hok 29 rfl (xS hok 30 rfl (wO rfl (wl_nil (we_x [0,1,2,3,4,5,6,7] [] rfl rfl (xS hok 31 rfl (wO rfl (wl_nil ?_)))))))))))))
        refine we_x [0,1,2,3,4,5,6,7] [] rfl rfl (xO hok 32 rfl (xP hok 33 rfl (xP hok 34 rfl (wx_done hok rfl ?_))))
        have hE := (Option.some.inj hm).symm
        refine we_join false hE [6,5,1,57] rfl (asK [6,7] rfl) rfl
     ·
      rcases ite_some hm with ⟨hs44, hm⟩ | ⟨hs44, hm⟩
      ·
       obtain ⟨x47, hx47, hm⟩ := bindO_some hm
       obtain ⟨hg52, hm⟩ := gd_some hm
       obtain ⟨_, hc53, hm⟩ := bindO_some hm
       try dsimp only at hm
       obtain ⟨v54, hc54, hm⟩ := bindO_some hm
       refine wc_draw [0,1,2,3,4,5,6,7,8,9,10,11,12,14,15,16,17,18,19,20,21,22,23,24,25,26,27,28,29,32,33,34] rfl rfl (fun hok => (xP hok 0 rfl (xP hok 1 rfl (wx_len hok 2 rfl rfl rfl (freshS_eq rfl) rfl rfl rfl tE_27 (xP hok 3 rfl (wx_as (d := 26) (v' := .bool (decide (u1_6 < l2.length))) (S' := [_,_,_,_,_,_]) rfl rfl (natlt (a := u1_6) (b := l2.length)) (xP hok 4 rfl (wx_as (d := 27) (v' := .bool false) (S' := [_,_,_,_,_,_,_]) rfl rfl (bool_is hs27) (xO hok 5 rfl (xO hok 6 rfl (xO hok 7 rfl (xO hok 8 rfl (xO hok 9 rfl (xO hok 10 rfl ?_))))))))))))))
       refine xO hok 11 rfl (xO hok 12 rfl (xS hok 13 rfl (wO rfl (wl_nil (we_x [0,1] [] rfl rfl (xO hok 14 rfl (xP hok 15 rfl (xP hok 16 rfl (xP hok 17 rfl (xP hok 18 rfl (wx_len hok 19 rfl rfl rfl (freshS_eq rfl) rfl rfl rfl tE_27 (xP hok 20 rfl (wx_as (d := 43) (v' := .bool (decide (l2.length ≤ u1_6))) (S' := [_,_,_,_,_,_,_,_,_,_,_,_,_,_,_,_,_,_,_,_,_,_,_]) rfl rfl (natge (a := u1_6) (b := l2.length)) ?_)))))))))))))
       refine xP hok 21 rfl (wx_as (d := 44) (v' := .bool true) (S' := [_,_,_,_,_,_,_,_,_,_,_,_,_,_,_,_,_,_,_,_,_,_,_,_]) rfl rfl (bool_is hs44) (xP hok 22 rfl (xP hok 23 rfl (wx_indexA hok 24 0 u1_6 rfl rfl rfl (freshS_eq rfl) rfl rfl rfl rfl rfl rfl hx47 tE_27 tS_29 (fun b47 q47 cs47 hlx47 => (wx_openR RS_Api_ExprD_opens 1 rfl (fun r47 er47 _ => ?_)))))))
       subst er47
       refine wx_load hok 25 1 0 rfl rfl rfl (freshS_eq rfl) rfl rfl rfl rfl (cs := [_,_,_,_,_,_,_]) rfl tS_29 tA_29 rfl rfl (xP hok 26 rfl (xP hok 27 rfl (wx_len hok 28 rfl rfl rfl (freshS_eq rfl) rfl rfl rfl tE_27 (xP hok 29 rfl (wx_as (d := 52) (v' := .int .i64 (((u1_6 : Nat) : Int) - ((l2.length : Nat) : Int))) (S' := [_,_,_,_,_,_,_,_,_,_,_,_,_,_,_,_,_,_,_,_,_,_,_,_,_,_,_,_,_,_,_,_]) rfl rfl (i64_in hg52) (xS hok 30 rfl (wC [] [] rfl fn_27 rfl (w_ropewalkkit_markExpr_s N 1 (((u1_6 : Nat) : Int) - ((l2.length : Nat) : Int)) hc53) (asK [] rfl) rfl (H' := []) rfl ?_)))))))
       rintro _ _ _ ⟨rfl, rfl, rfl⟩
       refine wl_nil (we_x [0,1,2,3,4] [] rfl rfl (xS hok 31 rfl (wl_fact (.sli 7 R_Api_ExprD none 0 ([] : List Api_ExprD)) (fun _ _ _ => sli_none) (wC [] [] rfl fn_25 rfl (w_ropewalkkit_SameExpr_W_s N x47.kind x47.value.k x47.value.n x47.value.s x47.var x47.op r47.1 r47.2 (x47.kids ++ x47.kidsT) x47.kids.length 0 0 0 (⟨#[]⟩ : ByteArray) (IntKind.wrap .i64 ((IntKind.wrap .i64 (1000003 * (IntKind.wrap .i64 (1 + 7)))) + (((u1_6 : Nat) : Int) - ((l2.length : Nat) : Int)))) 0 none 0 ([] : List Api_ExprD) _ hc54) (asK [1,0] rfl) rfl (H' := []) rfl ?_))))
       rintro _ _ _ ⟨rfl, rfl, rfl⟩
       refine wl_nil (we_x [1,2,3,4,5] [] rfl rfl (xP hok 32 rfl (xP hok 33 rfl (xP hok 34 rfl (wx_done hok rfl ?_)))))
       have hE := (Option.some.inj hm).symm
       refine we_join (!v54) hE [6,5,1,57] rfl (asK [4,5] rfl) rfl
      ·
       refine wc_draw [0,1,2,3,4,5,6,7,8,9,10,11,12,14,15,16,17,18,19,20,21,22,23,24,25,26,27,28,29,32,33,34] rfl rfl (fun hok => (xP hok 0 rfl (xP hok 1 rfl (wx_len hok 2 rfl rfl rfl (freshS_eq rfl) rfl rfl rfl tE_27 (xP hok 3 rfl (wx_as (d := 26) (v' := .bool (decide (u1_6 < l2.length))) (S' := [_,_,_,_,_,_]) rfl rfl (natlt (a := u1_6) (b := l2.length)) (xP hok 4 rfl (wx_as (d := 27) (v' := .bool false) (S' := [_,_,_,_,_,_,_]) rfl rfl (bool_is hs27) (xO hok 5 rfl (xO hok 6 rfl (xO hok 7 rfl (xO hok 8 rfl (xO hok 9 rfl (xO hok 10 rfl ?_))))))))))))))
       refine xO hok 11 rfl (xO hok 12 rfl (xS hok 13 rfl (wO rfl (wl_nil (we_x [0,1] [] rfl rfl (xO hok 14 rfl (xP hok 15 rfl (xP hok 16 rfl (xP hok 17 rfl (xP hok 18 rfl (wx_len hok 19 rfl rfl rfl (freshS_eq rfl) rfl rfl rfl tE_27 (xP hok 20 rfl (wx_as (d := 43) (v' := .bool (decide (l2.length ≤ u1_6))) (S' := [_,_,_,_,_,_,_,_,_,_,_,_,_,_,_,_,_,_,_,_,_,_,_]) rfl rfl (natge (a := u1_6) (b := l2.length)) ?_)))))))))))))
       refine xP hok 21 rfl (wx_as (d := 44) (v' := .bool false) (S' := [_,_,_,_,_,_,_,_,_,_,_,_,_,_,_,_,_,_,_,_,_,_,_,_]) rfl rfl (bool_is hs44) (xO hok 22 rfl (xO hok 23 rfl (xO hok 24 rfl (xO hok 25 rfl (xO hok 26 rfl (xO hok 27 rfl (xO hok 28 rfl (xO hok 29 rfl (xS hok 30 rfl (wO rfl (wl_nil (we_x [0,1] [] rfl rfl ?_)))))))))))))
       refine xS hok 31 rfl (wO rfl (wl_nil (we_x [0,1] [] rfl rfl (xO hok 32 rfl (xP hok 33 rfl (xP hok 34 rfl (wx_done hok rfl ?_)))))))
       have hE := (Option.some.inj hm).symm
       refine we_join false hE [6,5,1,57] rfl (asK [0,1] rfl) rfl
    ·
     rintro j_2_57 hE
     try dsimp only
     have hm := hLj_2
     rw [hE] at hm
     refine wc_cond rfl (fun hb57 => ?_) (fun hb57 => ?_)
     ·
      replace hm := iteT hm hb57
      refine wc_keep [] (S' := []) rfl (wc_seq (wc_region (wP rfl (wl_nil (we_then (wc_ret (we_block_ret (we_then_ret (we_then_ret (we_block_ret (we_then_ret ?_)))))))))))
      have hE := (Option.some.inj hm).symm
      replace hE := link_inr hLu1 hE
      replace hE := link_inr hLj_1 hE
      replace hE := hE.symm
      subst hE
      refine ret_one (Hr := []) [] Tryd.results26 (res_tmp rfl) ⟨rfl, rfl, rfl⟩ (asK [] rfl) rfl rfl (.inl rfl)
     ·
      replace hm := iteF hm hb57
      refine wc_keep [6,5,1] (S' := [_,_,_]) rfl (wc_skip (we_block_normal (we_then (wc_region (wP rfl (wP rfl ?_))))))
      obtain ⟨hg22, hm⟩ := gd_some hm
      refine wl_as (d := 22) (v' := .int .i64 ((u1_6 + 1 : Nat) : Int)) (S' := [_,_,_,_]) rfl rfl (nat_add (a := u1_6) (b := 1) hg22) (wl_pure (S' := [_,_,_,_]) rfl rfl rfl rfl rfl (wl_nil ?_))
      have hE := (Option.some.inj hm).symm
      replace hE := link_inl hLu1 hE
      refine we_roundK (_, u1_6 + 1) (Nat.lt_succ_self _) hE [6,5,1] rfl (asK [0,1] rfl) rfl
   ·
    replace hm := iteF hm hb20
    refine wc_keep [] (S' := []) rfl (wc_exit (we_then_exit (we_then_exit (we_block_hit ?_))))
    have hE := (Option.some.inj hm).symm
    replace hE := link_inr hLu1 hE
    refine we_join () hE [] rfl (asK [] rfl) rfl
  ·
   rintro _ hE
   try dsimp only
   have hm := link_inl hLj_1 hE
   try dsimp only at hm
   refine wc_seq (wc_region (wP rfl (wl_nil (we_then (wc_ret ?_)))))
   have hE := (Option.some.inj hm).symm
   replace hE := hE.symm
   subst hE
   refine ret_one (Hr := []) [] Tryd.results26 (res_tmp rfl) ⟨rfl, rfl, rfl⟩ (asK [] rfl) rfl rfl (.inl rfl)
theorem w_ropewalkkit_KeptExpr_W_s_b (N : Nat) (rc : Int → Int → Int → ByteArray → Int → Int → (List Api_ExprDS) → Nat → Int → Int → Int → ByteArray → Int → Int → (List Api_ExprD) → Option (Bool)) (ih : ∀ (a0 : Int) (a1 : Int) (a2 : Int) (a3 : ByteArray) (a4 : Int) (a5 : Int) (qp0 : Option Addr) (qc1 : Nat) (l6 : List Api_ExprDS) (k7 : Nat) (a8 : Int) (a9 : Int) (a10 : Int) (a11 : ByteArray) (a12 : Int) (a13 : Int) (qp2 : Option Addr) (qc3 : Nat) (l14 : List Api_ExprD) (o0 : Bool), rc a0 a1 a2 a3 a4 a5 l6 k7 a8 a9 a10 a11 a12 a13 l14 = some o0 → Spec Tryd.prog 10 [.agg #[.int .u8 a0, .int .u8 a1, .int .i64 a2, .string a3, .int .i64 a4, .int .u8 a5, .slice qp0 k7 qc1], .agg #[.int .u8 a8, .int .u8 a9, .int .i64 a10, .string a11, .int .i64 a12, .int .u8 a13, .slice qp2 l14.length qc3]] [.sli 7 RS_Api_ExprD qp0 qc1 l6, .sli 7 R_Api_ExprD qp2 qc3 l14] [] (fun v Φr Hr => v = .bool o0 ∧ Φr = [] ∧ Hr = [])) (a0 : Int) (a1 : Int) (a2 : Int) (a3 : ByteArray) (a4 : Int) (a5 : Int) (qp0 : Option Addr) (qc1 : Nat) (l6 : List Api_ExprDS) (k7 : Nat) (a8 : Int) (a9 : Int) (a10 : Int) (a11 : ByteArray) (a12 : Int) (a13 : Int) (qp2 : Option Addr) (qc3 : Nat) (l14 : List Api_ExprD) (o0 : Bool) (hm : m_ropewalkkit_KeptExpr_W_b N rc a0 a1 a2 a3 a4 a5 l6 k7 a8 a9 a10 a11 a12 a13 l14 = some o0) : Spec Tryd.prog 10 [.agg #[.int .u8 a0, .int .u8 a1, .int .i64 a2, .string a3, .int .i64 a4, .int .u8 a5, .slice qp0 k7 qc1], .agg #[.int .u8 a8, .int .u8 a9, .int .i64 a10, .string a11, .int .i64 a12, .int .u8 a13, .slice qp2 l14.length qc3]] [.sli 7 RS_Api_ExprD qp0 qc1 l6, .sli 7 R_Api_ExprD qp2 qc3 l14] [] (fun v Φr Hr => v = .bool o0 ∧ Φr = [] ∧ Hr = []) := by
 unfold m_ropewalkkit_KeptExpr_W_b at hm
 refine spec_of Tryd.func10 rfl Tryd.ntmps10 rfl (S := [_,_]) rfl (fun C => (wc_seq (wc_region (wB rfl (fun g2 => (wB rfl (fun g3 => (wP rfl (wl_nil (we_then (wc_keep [3,2] (S' := [_,_]) rfl (wc_seq (wc_region (wl_loadH 1 0 rfl rfl rfl (freshS_eq rfl) rfl rfl rfl (cs := [_,_,_,_,_,_,_]) rfl tS_29 tA_29 rfl rfl (wl_loadH 0 0 rfl rfl rfl (freshS_eq rfl) rfl rfl rfl (cs := [_,_,_,_,_,_,_]) rfl tS_29 tA_29 rfl rfl ?_)))))))))))))))
 obtain ⟨v7, hc7, hm⟩ := bindO_some hm
 refine wC [] [0,1] rfl fn_25 rfl (w_ropewalkkit_SameExpr_W_s N a0 a1 a2 a3 a4 a5 qp0 qc1 l6 k7 a8 a9 a10 a11 a12 a13 qp2 qc3 l14 _ hc7) (asK [0,1] rfl) rfl (H' := [_,_]) rfl ?_
 rintro _ _ _ ⟨rfl, rfl, rfl⟩
 refine wP rfl ?_
 refine wl_split (d := 8) (S' := [_,_,_,_,_]) rfl rfl (fun hs8 => ?_) (fun hs8 => ?_)
 ·
  replace hm := iteT hm hs8
  refine wF rfl tF_29_4 (wD 1 6 rfl tS_27 tA_27 rfl (wF rfl tF_29_4 (wD 0 6 rfl tS_27 tA_27 rfl ?_)))
  obtain ⟨v13, hc13, hm⟩ := bindO_some hm
  refine wC [] [0,1] rfl fn_26 rfl (w_ropewalkkit_KeptExprs_W_v2_s N rc ih qp0 qc1 l6 k7 qp2 qc3 l14 _ hc13) (asK [0,1] rfl) rfl (H' := [_,_]) rfl ?_
  rintro _ _ _ ⟨rfl, rfl, rfl⟩
  refine wP rfl (wP rfl (wl_nil (we_then (wc_keep [4] (S' := [_]) rfl (wc_ret ?_)))))
  have hE := (Option.some.inj hm).symm
  replace hE := hE.symm
  subst hE
  refine ret_one (Hr := []) [] Tryd.results10 (res_tmp rfl) ⟨rfl, rfl, rfl⟩ (asK [] rfl) rfl rfl (.inl rfl)
 ·
  replace hm := iteF hm hs8
  refine wO rfl (wO rfl (wO rfl (wO rfl (wO rfl (wP rfl (wP rfl (wl_nil (we_then (wc_keep [4] (S' := [_]) rfl (wc_ret ?_))))))))))
  have hE := (Option.some.inj hm).symm
  replace hE := hE.symm
  subst hE
  refine ret_one (Hr := []) [] Tryd.results10 (res_tmp rfl) ⟨rfl, rfl, rfl⟩ (asK [] rfl) rfl rfl (.inl rfl)
theorem w_ropewalkkit_KeptExpr_W_s : ∀ (N : Nat), ∀ (a0 : Int) (a1 : Int) (a2 : Int) (a3 : ByteArray) (a4 : Int) (a5 : Int) (qp0 : Option Addr) (qc1 : Nat) (l6 : List Api_ExprDS) (k7 : Nat) (a8 : Int) (a9 : Int) (a10 : Int) (a11 : ByteArray) (a12 : Int) (a13 : Int) (qp2 : Option Addr) (qc3 : Nat) (l14 : List Api_ExprD) (o0 : Bool), m_ropewalkkit_KeptExpr_W N a0 a1 a2 a3 a4 a5 l6 k7 a8 a9 a10 a11 a12 a13 l14 = some o0 → Spec Tryd.prog 10 [.agg #[.int .u8 a0, .int .u8 a1, .int .i64 a2, .string a3, .int .i64 a4, .int .u8 a5, .slice qp0 k7 qc1], .agg #[.int .u8 a8, .int .u8 a9, .int .i64 a10, .string a11, .int .i64 a12, .int .u8 a13, .slice qp2 l14.length qc3]] [.sli 7 RS_Api_ExprD qp0 qc1 l6, .sli 7 R_Api_ExprD qp2 qc3 l14] [] (fun v Φr Hr => v = .bool o0 ∧ Φr = [] ∧ Hr = []) := by
  intro N
  induction N with
  | zero => intro a0 a1 a2 a3 a4 a5 qp0 qc1 l6 k7 a8 a9 a10 a11 a12 a13 qp2 qc3 l14 o0 hm; cases hm
  | succ N ih => intro a0 a1 a2 a3 a4 a5 qp0 qc1 l6 k7 a8 a9 a10 a11 a12 a13 qp2 qc3 l14 o0 hm; exact w_ropewalkkit_KeptExpr_W_s_b N (m_ropewalkkit_KeptExpr_W N) ih a0 a1 a2 a3 a4 a5 qp0 qc1 l6 k7 a8 a9 a10 a11 a12 a13 qp2 qc3 l14 o0 hm
theorem w_ropewalkkit_KeptValues_W_s (N : Nat) (qp0 : Option Addr) (qc1 : Nat) (l0 : List V) (k1 : Nat) (qp2 : Option Addr) (qc3 : Nat) (l2 : List V) (o0 : Bool) (hm : m_ropewalkkit_KeptValues_W N l0 k1 l2 = some o0) : Spec Tryd.prog 11 [.slice qp0 k1 qc1, .slice qp2 l2.length qc3] [.sli 3 R_V qp0 qc1 l0, .sli 3 R_V qp2 qc3 l2] [] (fun v Φr Hr => v = .bool o0 ∧ Φr = [] ∧ Hr = []) := by
 unfold m_ropewalkkit_KeptValues_W at hm
 refine spec_of Tryd.func11 rfl Tryd.ntmps11 rfl (S := [_,_]) rfl (fun C => (wc_seq (wc_region (wP rfl (wl_nil (we_then (wc_keep [0,1] (S' := [_,_]) rfl (wc_seq (wc_seq (wc_region (wP rfl (wN rfl tE_30 (wP rfl (wN rfl tE_30 ?_))))))))))))))
 refine wP rfl (wl_as (d := 11) (v' := .bool (k1 != l2.length)) (S' := [_,_,_,_,_,_]) rfl rfl (natne (a := k1) (b := l2.length)) (wl_nil (we_then (wc_keep [11,0,1] (S' := [_,_,_]) rfl ?_))))
 refine wc_cond rfl (fun hb11 => ?_) (fun hb11 => ?_)
 ·
  replace hm := iteT hm hb11
  refine wc_keep [] (S' := []) rfl (wc_seq (wc_region (wP rfl (wl_nil (we_then (wc_ret (we_then_ret ?_)))))))
  have hE := (Option.some.inj hm).symm
  replace hE := hE.symm
  subst hE
  refine ret_one (Hr := []) [] Tryd.results11 (res_tmp rfl) ⟨rfl, rfl, rfl⟩ (asK [] rfl) rfl rfl (.inl rfl)
 ·
  replace hm := iteF hm hb11
  refine wc_keep [0,1] (S' := [_,_]) rfl (wc_skip (we_then (wc_seq (wc_region (wP rfl (wP rfl (wN rfl tE_30 (wP rfl ?_))))))))
  obtain ⟨hg15, hm⟩ := gd_some hm
  refine wl_as (d := 15) (v' := .int .i64 ((l2.length + 12 : Nat) : Int)) (S' := [_,_,_,_,_]) rfl rfl (nat_add (a := l2.length) (b := 12) hg15) ?_
  obtain ⟨hg16, hm⟩ := gd_some hm
  refine wl_sliToF 0 rfl rfl rfl (freshS_eq rfl) rfl rfl rfl rfl rfl tE_30 tS_25 hg16 (fun p16 => (wP rfl (wl_nil (we_then (wc_keep [5,1] (S' := [_,_]) rfl (wc_seq ?_))))))
  obtain ⟨bj_1, hm, hLj_1⟩ := bindS_some hm
  refine wc_cut (σ := Unit) (fun _ => bj_1 = .inl ()) (fun _ => []) (fun _ => []) (fun _ => []) ?_ ?_
  ·
   refine wc_seq (wc_region (wP rfl (wl_nil (we_then (wc_block (wc_loop (σ := Nat × Nat) (fun (nu1, u1_6) => iter (m_ropewalkkit_KeptValues_W_L1 N l0 l2) nu1 u1_6 = some bj_1) (fun (nu1, u1_6) => nu1) (fun (nu1, u1_6) => [(6, .int .i64 ((u1_6 : Nat) : Int)), (5, .slice p16 ((l0.take (l2.length + 12)).length) qc1), (1, .slice qp2 l2.length qc3)]) (fun (nu1, u1_6) => [.sli 3 R_V p16 qc1 (l0.take (l2.length + 12)), .sli 3 R_V qp2 qc3 l2]) (fun (nu1, u1_6) => []) (N, 0) hm [6,5,1] rfl (asK [0,2] rfl) rfl (fun s_ hm => ?_)))))))
   obtain ⟨nu1, u1_6⟩ := s_
   try dsimp only at hm ⊢
   obtain ⟨mu1, bu1, hnu1, hq, hLu1⟩ := iter_some hm
   clear hm
   subst hnu1
   replace hm := hq
   clear hq
   unfold m_ropewalkkit_KeptValues_W_L1 at hm
   try dsimp only at hm
   refine wc_seq (wc_seq (wc_region (wP rfl (wP rfl (wN rfl tE_30 (wP rfl (wl_as (d := 20) (v' := .bool (decide (u1_6 < ((l0.take (l2.length + 12)).length)))) (S' := [_,_,_,_,_,_]) rfl rfl (natlt (a := u1_6) (b := (l0.take (l2.length + 12)).length)) (wl_nil (we_then (wc_keep [20,6,5,1] (S' := [_,_,_,_]) rfl ?_))))))))))
   refine wc_cond rfl (fun hb20 => ?_) (fun hb20 => ?_)
   ·
    replace hm := iteT hm hb20
    refine wc_keep [6,5,1] (S' := [_,_,_]) rfl (wc_skip (we_then (wc_seq (wc_block (wc_seq ?_)))))
    obtain ⟨bj_2, hm, hLj_2⟩ := bindO_some hm
    unfold m_ropewalkkit_KeptValues_W_C2 at hm
    refine wc_cut (σ := Bool) (fun j_2_57 => bj_2 = j_2_57) (fun j_2_57 => [(6, .int .i64 ((u1_6 : Nat) : Int)), (5, .slice p16 ((l0.take (l2.length + 12)).length) qc1), (1, .slice qp2 l2.length qc3), (57, .bool j_2_57)]) (fun j_2_57 => [.sli 3 R_V p16 qc1 (l0.take (l2.length + 12)), .sli 3 R_V qp2 qc3 l2]) (fun j_2_57 => []) ?_ ?_
    ·
     rcases ite_some hm with ⟨hs27, hm⟩ | ⟨hs27, hm⟩
     ·
      obtain ⟨x30, hx30, hm⟩ := bindO_some hm
      obtain ⟨x34, hx34, hm⟩ := bindO_some hm
      rcases ite_some hm with ⟨hs39, hm⟩ | ⟨hs39, hm⟩
      ·
       refine wc_draw [0,1,2,3,4,5,6,7,8,9,10,11,12,13,14,15,16,17,18,19,20,21,22,23,24,25,26,27,28,29,31,32,33,34] rfl rfl (fun hok => (xP hok 0 rfl (xP hok 1 rfl (wx_len hok 2 rfl rfl rfl (freshS_eq rfl) rfl rfl rfl tE_30 (xP hok 3 rfl (wx_as (d := 26) (v' := .bool (decide (u1_6 < l2.length))) (S' := [_,_,_,_,_,_]) rfl rfl (natlt (a := u1_6) (b := l2.length)) (xP hok 4 rfl (wx_as (d := 27) (v' := .bool true) (S' := [_,_,_,_,_,_,_]) rfl rfl (bool_is hs27) (xP hok 5 rfl (xP hok 6 rfl (wx_indexA hok 7 0 u1_6 rfl rfl rfl (freshS_eq rfl) rfl rfl rfl rfl rfl rfl hx30 tE_30 tS_25 (fun b30 q30 cs30 hlx30 => (wx_openR R_V_opens 1 rfl (fun r30 er30 _ => ?_))))))))))))))
       subst er30
       refine wx_load hok 8 0 0 rfl rfl rfl (freshS_eq rfl) rfl rfl rfl rfl (cs := [_,_,_]) rfl tS_25 tA_25 rfl rfl (xP hok 9 rfl (xP hok 10 rfl (wx_indexA hok 11 3 u1_6 rfl rfl rfl (freshS_eq rfl) rfl rfl rfl rfl rfl rfl hx34 tE_30 tS_25 (fun b34 q34 cs34 hlx34 => (wx_openR R_V_opens 1 rfl (fun r34 er34 _ => ?_))))))
       subst er34
       refine wx_load hok 12 0 0 rfl rfl rfl (freshS_eq rfl) rfl rfl rfl rfl (cs := [_,_,_]) rfl tS_25 tA_25 rfl rfl (wx_bin hok 13 rfl rfl rfl (freshS_eq rfl) rfl rfl rfl rfl (eqlV _ _ x30 x34) (xP hok 14 rfl (xP hok 15 rfl (xP hok 16 rfl (wx_as (d := 39) (v' := .bool true) (S' := [_,_,_,_,_,_,_,_,_,_,_,_,_,_,_,_,_,_,_]) rfl rfl (bool_is hs39) (xO hok 17 rfl (xO hok 18 rfl (xO hok 19 rfl (xO hok 20 rfl (xO hok 21 rfl (xO hok 22 rfl (xO hok 23 rfl (xO hok 24 rfl ?_)))))))))))))
       refine xO hok 25 rfl (xO hok 26 rfl (xO hok 27 rfl (xO hok 28 rfl (xO hok 29 rfl (xS hok 30 rfl (wO rfl (wl_nil (we_x [0,1,2,3,4,5] [] rfl rfl (xO hok 31 rfl (xO hok 32 rfl (xO hok 33 rfl (xP hok 34 rfl (wx_done hok rfl ?_)))))))))))))
       have hE := (Option.some.inj hm).symm
       refine we_join true hE [6,5,1,57] rfl (asK [4,5] rfl) rfl
      ·
       rcases ite_some hm with ⟨hs44, hm⟩ | ⟨hs44, hm⟩
       ·
        obtain ⟨x47, hx47, hm⟩ := bindO_some hm
        obtain ⟨hg52, hm⟩ := gd_some hm
        obtain ⟨_, hc53, hm⟩ := bindO_some hm
        try dsimp only at hm
        refine wc_draw [0,1,2,3,4,5,6,7,8,9,10,11,12,13,14,15,16,17,18,19,20,21,22,23,24,25,26,27,28,29,31,32,33,34] rfl rfl (fun hok => (xP hok 0 rfl (xP hok 1 rfl (wx_len hok 2 rfl rfl rfl (freshS_eq rfl) rfl rfl rfl tE_30 (xP hok 3 rfl (wx_as (d := 26) (v' := .bool (decide (u1_6 < l2.length))) (S' := [_,_,_,_,_,_]) rfl rfl (natlt (a := u1_6) (b := l2.length)) (xP hok 4 rfl (wx_as (d := 27) (v' := .bool true) (S' := [_,_,_,_,_,_,_]) rfl rfl (bool_is hs27) (xP hok 5 rfl (xP hok 6 rfl (wx_indexA hok 7 0 u1_6 rfl rfl rfl (freshS_eq rfl) rfl rfl rfl rfl rfl rfl hx30 tE_30 tS_25 (fun b30 q30 cs30 hlx30 => (wx_openR R_V_opens 1 rfl (fun r30 er30 _ => ?_))))))))))))))
        subst er30
        refine wx_load hok 8 0 0 rfl rfl rfl (freshS_eq rfl) rfl rfl rfl rfl (cs := [_,_,_]) rfl tS_25 tA_25 rfl rfl (xP hok 9 rfl (xP hok 10 rfl (wx_indexA hok 11 3 u1_6 rfl rfl rfl (freshS_eq rfl) rfl rfl rfl rfl rfl rfl hx34 tE_30 tS_25 (fun b34 q34 cs34 hlx34 => (wx_openR R_V_opens 1 rfl (fun r34 er34 _ => ?_))))))
        subst er34
        refine wx_load hok 12 0 0 rfl rfl rfl (freshS_eq rfl) rfl rfl rfl rfl (cs := [_,_,_]) rfl tS_25 tA_25 rfl rfl (wx_bin hok 13 rfl rfl rfl (freshS_eq rfl) rfl rfl rfl rfl (eqlV _ _ x30 x34) (xP hok 14 rfl (xP hok 15 rfl (xP hok 16 rfl (wx_as (d := 39) (v' := .bool false) (S' := [_,_,_,_,_,_,_,_,_,_,_,_,_,_,_,_,_,_,_]) rfl rfl (bool_is hs39) (xP hok 17 rfl (xP hok 18 rfl (wx_len hok 19 rfl rfl rfl (freshS_eq rfl) rfl rfl rfl tE_30 (xP hok 20 rfl (wx_as (d := 43) (v' := .bool (decide (l2.length ≤ u1_6))) (S' := [_,_,_,_,_,_,_,_,_,_,_,_,_,_,_,_,_,_,_,_,_,_,_]) rfl rfl (natge (a := u1_6) (b := l2.length)) (xP hok 21 rfl (wx_as (d := 44) (v' := .bool true) (S' := [_,_,_,_,_,_,_,_,_,_,_,_,_,_,_,_,_,_,_,_,_,_,_,_]) rfl rfl (bool_is hs44) (xP hok 22 rfl ?_)))))))))))))
        refine xP hok 23 rfl (wx_indexA hok 24 4 u1_6 rfl rfl rfl (freshS_eq rfl) rfl rfl rfl rfl rfl rfl hx47 tE_30 tS_25 (fun b47 q47 cs47 hlx47 => (wx_openR R_V_opens 1 rfl (fun r47 er47 _ => ?_))))
        subst er47
        refine wx_load hok 25 0 0 rfl rfl rfl (freshS_eq rfl) rfl rfl rfl rfl (cs := [_,_,_]) rfl tS_25 tA_25 rfl rfl (xP hok 26 rfl (xP hok 27 rfl (wx_len hok 28 rfl rfl rfl (freshS_eq rfl) rfl rfl rfl tE_30 (xP hok 29 rfl (wx_as (d := 52) (v' := .int .i64 (((u1_6 : Nat) : Int) - ((l2.length : Nat) : Int))) (S' := [_,_,_,_,_,_,_,_,_,_,_,_,_,_,_,_,_,_,_,_,_,_,_,_,_,_,_,_,_,_,_,_]) rfl rfl (i64_in hg52) (xS hok 30 rfl (wC [] [] rfl fn_16 rfl (w_ropewalkkit_markValue_s N 1 (((u1_6 : Nat) : Int) - ((l2.length : Nat) : Int)) hc53) (asK [] rfl) rfl (H' := []) rfl ?_)))))))
        rintro _ _ _ ⟨rfl, rfl, rfl⟩
        refine wl_nil (we_x [0,1,2,3,4,5,6,7] [] rfl rfl (wx_bin hok 31 rfl rfl rfl (freshS_eq rfl) rfl rfl rfl rfl (eqlV _ _ x47 (⟨0, IntKind.wrap .i64 ((IntKind.wrap .i64 (1000003 * (IntKind.wrap .i64 (1 + 7)))) + (((u1_6 : Nat) : Int) - ((l2.length : Nat) : Int))), (⟨#[]⟩ : ByteArray)⟩ : V)) (xP hok 32 rfl (xP hok 33 rfl (xP hok 34 rfl (wx_done hok rfl ?_))))))
        have hE := (Option.some.inj hm).symm
        refine we_join (!(decide (x47 = (⟨0, IntKind.wrap .i64 ((IntKind.wrap .i64 (1000003 * (IntKind.wrap .i64 (1 + 7)))) + (((u1_6 : Nat) : Int) - ((l2.length : Nat) : Int))), (⟨#[]⟩ : ByteArray)⟩ : V)))) hE [6,5,1,57] rfl (asK [6,7] rfl) rfl
       ·
        refine wc_draw [0,1,2,3,4,5,6,7,8,9,10,11,12,13,14,15,16,17,18,19,20,21,22,23,24,25,26,27,28,29,31,32,33,34] rfl rfl (fun hok => (xP hok 0 rfl (xP hok 1 rfl (wx_len hok 2 rfl rfl rfl (freshS_eq rfl) rfl rfl rfl tE_30 (xP hok 3 rfl (wx_as (d := 26) (v' := .bool (decide (u1_6 < l2.length))) (S' := [_,_,_,_,_,_]) rfl rfl (natlt (a := u1_6) (b := l2.length)) (xP hok 4 rfl (wx_as (d := 27) (v' := .bool true) (S' := [_,_,_,_,_,_,_]) rfl rfl (bool_is hs27) (xP hok 5 rfl (xP hok 6 rfl (wx_indexA hok 7 0 u1_6 rfl rfl rfl (freshS_eq rfl) rfl rfl rfl rfl rfl rfl hx30 tE_30 tS_25 (fun b30 q30 cs30 hlx30 => (wx_openR R_V_opens 1 rfl (fun r30 er30 _ => ?_))))))))))))))
        subst er30
        refine wx_load hok 8 0 0 rfl rfl rfl (freshS_eq rfl) rfl rfl rfl rfl (cs := [_,_,_]) rfl tS_25 tA_25 rfl rfl (xP hok 9 rfl (xP hok 10 rfl (wx_indexA hok 11 3 u1_6 rfl rfl rfl (freshS_eq rfl) rfl rfl rfl rfl rfl rfl hx34 tE_30 tS_25 (fun b34 q34 cs34 hlx34 => (wx_openR R_V_opens 1 rfl (fun r34 er34 _ => ?_))))))
        subst er34
        refine wx_load hok 12 0 0 rfl rfl rfl (freshS_eq rfl) rfl rfl rfl rfl (cs := [_,_,_]) rfl tS_25 tA_25 rfl rfl (wx_bin hok 13 rfl rfl rfl (freshS_eq rfl) rfl rfl rfl rfl (eqlV _ _ x30 x34) (xP hok 14 rfl (xP hok 15 rfl (xP hok 16 rfl (wx_as (d := 39) (v' := .bool false) (S' := [_,_,_,_,_,_,_,_,_,_,_,_,_,_,_,_,_,_,_]) rfl rfl (bool_is hs39) (xP hok 17 rfl (xP hok 18 rfl (wx_len hok 19 rfl rfl rfl (freshS_eq rfl) rfl rfl rfl tE_30 (xP hok 20 rfl (wx_as (d := 43) (v' := .bool (decide (l2.length ≤ u1_6))) (S' := [_,_,_,_,_,_,_,_,_,_,_,_,_,_,_,_,_,_,_,_,_,_,_]) rfl rfl (natge (a := u1_6) (b := l2.length)) (xP hok 21 rfl (wx_as (d := 44) (v' := .bool false) (S' := [_,_,_,_,_,_,_,_,_,_,_,_,_,_,_,_,_,_,_,_,_,_,_,_]) rfl rfl (bool_is hs44) (xO hok 22 rfl ?_)))))))))))))
        refine xO hok 23 rfl (xO hok 24 rfl (xO hok 25 rfl (xO hok 26 rfl (xO hok 27 rfl (xO hok 28 rfl (xO hok 29 rfl (xS hok 30 rfl (wO rfl (wl_nil (we_x [0,1,2,3,4,5] [] rfl rfl (xO hok 31 rfl (xO hok 32 rfl (xP hok 33 rfl ?_)))))))))))))
        refine xP hok 34 rfl (wx_done hok rfl ?_)
        have hE := (Option.some.inj hm).symm
        refine we_join false hE [6,5,1,57] rfl (asK [4,5] rfl) rfl
     ·
      rcases ite_some hm with ⟨hs44, hm⟩ | ⟨hs44, hm⟩
      ·
       obtain ⟨x47, hx47, hm⟩ := bindO_some hm
       obtain ⟨hg52, hm⟩ := gd_some hm
       obtain ⟨_, hc53, hm⟩ := bindO_some hm
       try dsimp only at hm
       refine wc_draw [0,1,2,3,4,5,6,7,8,9,10,11,12,13,14,15,16,17,18,19,20,21,22,23,24,25,26,27,28,29,31,32,33,34] rfl rfl (fun hok => (xP hok 0 rfl (xP hok 1 rfl (wx_len hok 2 rfl rfl rfl (freshS_eq rfl) rfl rfl rfl tE_30 (xP hok 3 rfl (wx_as (d := 26) (v' := .bool (decide (u1_6 < l2.length))) (S' := [_,_,_,_,_,_]) rfl rfl (natlt (a := u1_6) (b := l2.length)) (xP hok 4 rfl (wx_as (d := 27) (v' := .bool false) (S' := [_,_,_,_,_,_,_]) rfl rfl (bool_is hs27) (xO hok 5 rfl (xO hok 6 rfl (xO hok 7 rfl (xO hok 8 rfl (xO hok 9 rfl (xO hok 10 rfl ?_))))))))))))))
       refine xO hok 11 rfl (xO hok 12 rfl (xO hok 13 rfl (xO hok 14 rfl (xP hok 15 rfl (xP hok 16 rfl (xP hok 17 rfl (xP hok 18 rfl (wx_len hok 19 rfl rfl rfl (freshS_eq rfl) rfl rfl rfl tE_30 (xP hok 20 rfl (wx_as (d := 43) (v' := .bool (decide (l2.length ≤ u1_6))) (S' := [_,_,_,_,_,_,_,_,_,_,_,_,_,_,_,_,_,_,_,_,_,_,_]) rfl rfl (natge (a := u1_6) (b := l2.length)) (xP hok 21 rfl (wx_as (d := 44) (v' := .bool true) (S' := [_,_,_,_,_,_,_,_,_,_,_,_,_,_,_,_,_,_,_,_,_,_,_,_]) rfl rfl (bool_is hs44) (xP hok 22 rfl ?_)))))))))))))
       refine xP hok 23 rfl (wx_indexA hok 24 0 u1_6 rfl rfl rfl (freshS_eq rfl) rfl rfl rfl rfl rfl rfl hx47 tE_30 tS_25 (fun b47 q47 cs47 hlx47 => (wx_openR R_V_opens 1 rfl (fun r47 er47 _ => ?_))))
       subst er47
       refine wx_load hok 25 0 0 rfl rfl rfl (freshS_eq rfl) rfl rfl rfl rfl (cs := [_,_,_]) rfl tS_25 tA_25 rfl rfl (xP hok 26 rfl (xP hok 27 rfl (wx_len hok 28 rfl rfl rfl (freshS_eq rfl) rfl rfl rfl tE_30 (xP hok 29 rfl (wx_as (d := 52) (v' := .int .i64 (((u1_6 : Nat) : Int) - ((l2.length : Nat) : Int))) (S' := [_,_,_,_,_,_,_,_,_,_,_,_,_,_,_,_,_,_,_,_,_,_,_,_,_,_,_,_,_,_,_,_]) rfl rfl (i64_in hg52) (xS hok 30 rfl (wC [] [] rfl fn_16 rfl (w_ropewalkkit_markValue_s N 1 (((u1_6 : Nat) : Int) - ((l2.length : Nat) : Int)) hc53) (asK [] rfl) rfl (H' := []) rfl ?_)))))))
       rintro _ _ _ ⟨rfl, rfl, rfl⟩
       refine wl_nil (we_x [0,1,2,3] [] rfl rfl (wx_bin hok 31 rfl rfl rfl (freshS_eq rfl) rfl rfl rfl rfl (eqlV _ _ x47 (⟨0, IntKind.wrap .i64 ((IntKind.wrap .i64 (1000003 * (IntKind.wrap .i64 (1 + 7)))) + (((u1_6 : Nat) : Int) - ((l2.length : Nat) : Int))), (⟨#[]⟩ : ByteArray)⟩ : V)) (xP hok 32 rfl (xP hok 33 rfl (xP hok 34 rfl (wx_done hok rfl ?_))))))
       have hE := (Option.some.inj hm).symm
       refine we_join (!(decide (x47 = (⟨0, IntKind.wrap .i64 ((IntKind.wrap .i64 (1000003 * (IntKind.wrap .i64 (1 + 7)))) + (((u1_6 : Nat) : Int) - ((l2.length : Nat) : Int))), (⟨#[]⟩ : ByteArray)⟩ : V)))) hE [6,5,1,57] rfl (asK [2,3] rfl) rfl
      ·
       refine wc_draw [0,1,2,3,4,5,6,7,8,9,10,11,12,13,14,15,16,17,18,19,20,21,22,23,24,25,26,27,28,29,31,32,33,34] rfl rfl (fun hok => (xP hok 0 rfl (xP hok 1 rfl (wx_len hok 2 rfl rfl rfl (freshS_eq rfl) rfl rfl rfl tE_30 (xP hok 3 rfl (wx_as (d := 26) (v' := .bool (decide (u1_6 < l2.length))) (S' := [_,_,_,_,_,_]) rfl rfl (natlt (a := u1_6) (b := l2.length)) (xP hok 4 rfl (wx_as (d := 27) (v' := .bool false) (S' := [_,_,_,_,_,_,_]) rfl rfl (bool_is hs27) (xO hok 5 rfl (xO hok 6 rfl (xO hok 7 rfl (xO hok 8 rfl (xO hok 9 rfl (xO hok 10 rfl ?_))))))))))))))
       refine xO hok 11 rfl (xO hok 12 rfl (xO hok 13 rfl (xO hok 14 rfl (xP hok 15 rfl (xP hok 16 rfl (xP hok 17 rfl (xP hok 18 rfl (wx_len hok 19 rfl rfl rfl (freshS_eq rfl) rfl rfl rfl tE_30 (xP hok 20 rfl (wx_as (d := 43) (v' := .bool (decide (l2.length ≤ u1_6))) (S' := [_,_,_,_,_,_,_,_,_,_,_,_,_,_,_,_,_,_,_,_,_,_,_]) rfl rfl (natge (a := u1_6) (b := l2.length)) (xP hok 21 rfl (wx_as (d := 44) (v' := .bool false) (S' := [_,_,_,_,_,_,_,_,_,_,_,_,_,_,_,_,_,_,_,_,_,_,_,_]) rfl rfl (bool_is hs44) (xO hok 22 rfl ?_)))))))))))))
       refine xO hok 23 rfl (xO hok 24 rfl (xO hok 25 rfl (xO hok 26 rfl (xO hok 27 rfl (xO hok 28 rfl (xO hok 29 rfl (xS hok 30 rfl (wO rfl (wl_nil (we_x [0,1] [] rfl rfl (xO hok 31 rfl (xO hok 32 rfl (xP hok 33 rfl ?_)))))))))))))
       refine xP hok 34 rfl (wx_done hok rfl ?_)
       have hE := (Option.some.inj hm).symm
       refine we_join false hE [6,5,1,57] rfl (asK [0,1] rfl) rfl
    ·
     rintro j_2_57 hE
     try dsimp only
     have hm := hLj_2
     rw [hE] at hm
     refine wc_cond rfl (fun hb57 => ?_) (fun hb57 => ?_)
     ·
      replace hm := iteT hm hb57
      refine wc_keep [] (S' := []) rfl (wc_seq (wc_region (wP rfl (wl_nil (we_then (wc_ret (we_block_ret (we_then_ret (we_then_ret (we_block_ret (we_then_ret ?_)))))))))))
      have hE := (Option.some.inj hm).symm
      replace hE := link_inr hLu1 hE
      replace hE := link_inr hLj_1 hE
      replace hE := hE.symm
      subst hE
      refine ret_one (Hr := []) [] Tryd.results11 (res_tmp rfl) ⟨rfl, rfl, rfl⟩ (asK [] rfl) rfl rfl (.inl rfl)
     ·
      replace hm := iteF hm hb57
      refine wc_keep [6,5,1] (S' := [_,_,_]) rfl (wc_skip (we_block_normal (we_then (wc_region (wP rfl (wP rfl ?_))))))
      obtain ⟨hg22, hm⟩ := gd_some hm
      refine wl_as (d := 22) (v' := .int .i64 ((u1_6 + 1 : Nat) : Int)) (S' := [_,_,_,_]) rfl rfl (nat_add (a := u1_6) (b := 1) hg22) (wl_pure (S' := [_,_,_,_]) rfl rfl rfl rfl rfl (wl_nil ?_))
      have hE := (Option.some.inj hm).symm
      replace hE := link_inl hLu1 hE
      refine we_roundK (_, u1_6 + 1) (Nat.lt_succ_self _) hE [6,5,1] rfl (asK [0,1] rfl) rfl
   ·
    replace hm := iteF hm hb20
    refine wc_keep [] (S' := []) rfl (wc_exit (we_then_exit (we_then_exit (we_block_hit ?_))))
    have hE := (Option.some.inj hm).symm
    replace hE := link_inr hLu1 hE
    refine we_join () hE [] rfl (asK [] rfl) rfl
  ·
   rintro _ hE
   try dsimp only
   have hm := link_inl hLj_1 hE
   try dsimp only at hm
   refine wc_seq (wc_region (wP rfl (wl_nil (we_then (wc_ret ?_)))))
   have hE := (Option.some.inj hm).symm
   replace hE := hE.symm
   subst hE
   refine ret_one (Hr := []) [] Tryd.results11 (res_tmp rfl) ⟨rfl, rfl, rfl⟩ (asK [] rfl) rfl rfl (.inl rfl)
end Go.Proofs.YtohkfpobgjkpdaaDoor
