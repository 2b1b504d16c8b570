/- Walks, printed by a program out of the loaded code. -/
import Derived.Test.YtkakbckmajdggaaXW4
namespace Go.Proofs.Ytkakbckmajdggaa
open Go.RowKit
set_option maxRecDepth 100000 in
set_option maxHeartbeats 4000000 in
theorem w_ropewalkref17_Disk_Crash_s (N : Nat) (qg0 : Nat) (a0 : Int) (qp1 : Option Addr) (qn2 : Nat) (qc3 : Nat) (l1 : List Ropewalkref17_entryD) (a2 : Int) (o2 : List Ropewalkref17_entryD) (hm : m_ropewalkref17_Disk_Crash N a0 l1 a2 = some o2) : Spec Try.prog 57 [.pointer (some ⟨qg0, 0, none⟩), .int .i64 a2] [] [.blk qg0 [.int .i64 a0, .slice qp1 qn2 qc3] 85, .own 87 3 R_Ropewalkref17_entryD (.slice qp1 qn2 qc3) l1] (fun v Φr Hr => ∃ (o0 : Option Addr) (o1 : Nat) (o3 : Nat), v = .tuple #[] ∧ Φr = [] ∧ Hr = [.blk qg0 [.int .i64 a0, .slice o0 o3 o1] 85, .own 87 3 R_Ropewalkref17_entryD (.slice o0 o3 o1) o2, .own 87 3 R_Ropewalkref17_entryD (.slice qp1 qn2 qc3) l1]) := by
 unfold m_ropewalkref17_Disk_Crash at hm
 refine spec_of Try.func57 rfl Try.ntmps57 rfl (S := [_,_]) rfl (fun C => ?_)
 refine wc_seq ?_
 refine wc_region ?_
 refine wl_pure rfl rfl rfl (freshS_eq rfl) rfl ?_
 refine wl_nil ?_
 refine we_then ?_
 refine wc_seq ?_
 obtain ⟨bj_1, hm, hLj_1⟩ := bindO_some hm
 refine wc_cut (σ := (List Ropewalkref17_entryD) × (Option Addr) × Nat × Nat) (fun (j_1_4_l, j_1_4_p, j_1_4_c, j_1_4_n) => bj_1 = j_1_4_l) (fun (j_1_4_l, j_1_4_p, j_1_4_c, j_1_4_n) => [(0, .pointer (some ⟨qg0, 0, none⟩)), (4, .slice j_1_4_p j_1_4_n j_1_4_c)]) (fun (j_1_4_l, j_1_4_p, j_1_4_c, j_1_4_n) => []) (fun (j_1_4_l, j_1_4_p, j_1_4_c, j_1_4_n) => [.blk qg0 [.int .i64 a0, .slice qp1 qn2 qc3] 85, .own 87 3 R_Ropewalkref17_entryD (.slice qp1 qn2 qc3) l1, .own 87 3 R_Ropewalkref17_entryD (.slice j_1_4_p j_1_4_n j_1_4_c) j_1_4_l]) ?_ ?_
 ·
  refine wc_seq ?_
  refine wc_region ?_
  refine wl_pure rfl rfl rfl (freshS_eq rfl) rfl ?_
  refine wl_pure rfl rfl rfl (freshS_eq rfl) rfl ?_
  refine wl_fieldAddr rfl rfl rfl (freshS_eq rfl) rfl rfl tF_85_1 ?_
  refine wl_loadH 0 1 rfl rfl rfl (freshS_eq rfl) rfl rfl rfl (cs := [_]) rfl tS_83 tA_83 rfl rfl ?_
  refine wl_ownLen 1 rfl (fun hl12 _ => ?_)
  refine wl_len rfl rfl rfl (freshS_eq rfl) rfl rfl tE_83 ?_
  refine wl_as (d := 12) (v' := .int .i64 ((l1.length : Nat) : Int)) (S' := [_,_,_,_,_,_,_]) rfl rfl (len_is hl12) ?_
  refine wl_pure rfl rfl rfl (freshS_eq rfl) rfl ?_
  refine wl_nil ?_
  refine we_then ?_
  refine wc_keep [13, 12, 11, 4, 0, 1] (S' := [_,_,_,_,_,_]) rfl ?_
  refine wc_block ?_
  refine wc_rowNil 87 3 R_Ropewalkref17_entryD ?_
  refine wc_pick [2, 0, 1] rfl (H' := [_,_,_]) rfl ?_
  refine wc_loop (σ := Nat × Nat × (List Ropewalkref17_entryD) × (Option Addr) × Nat × Nat) (fun (nu1, u1_13, u1_4_l, u1_4_p, u1_4_c, u1_4_n) => iter (m_ropewalkref17_Disk_Crash_L1 N l1 a2) nu1 (u1_13, u1_4_l) = some bj_1) (fun (nu1, u1_13, u1_4_l, u1_4_p, u1_4_c, u1_4_n) => nu1) (fun (nu1, u1_13, u1_4_l, u1_4_p, u1_4_c, u1_4_n) => [(13, .int .i64 ((u1_13 : Nat) : Int)), (12, .int .i64 ((l1.length : Nat) : Int)), (11, .slice qp1 qn2 qc3), (4, .slice u1_4_p u1_4_n u1_4_c), (0, .pointer (some ⟨qg0, 0, none⟩)), (1, .int .i64 a2)]) (fun (nu1, u1_13, u1_4_l, u1_4_p, u1_4_c, u1_4_n) => []) (fun (nu1, u1_13, u1_4_l, u1_4_p, u1_4_c, u1_4_n) => [.own 87 3 R_Ropewalkref17_entryD (.slice qp1 qn2 qc3) l1, .own 87 3 R_Ropewalkref17_entryD (.slice u1_4_p u1_4_n u1_4_c) u1_4_l, .blk qg0 [.int .i64 a0, .slice qp1 qn2 qc3] 85]) (N, 0, [], none, 0, 0) hm [13, 12, 11, 4, 0, 1] rfl (fun _ _ hφ => ask [] rfl hφ) rfl (fun s_ hm => ?_)
  obtain ⟨nu1, u1_13, u1_4_l, u1_4_p, u1_4_c, u1_4_n⟩ := s_
  try dsimp only at hm ⊢
  obtain ⟨mu1, bu1, hnu1, hq, hLu1⟩ := iter_some hm
  clear hm
  subst hnu1
  replace hm := hq
  clear hq
  unfold m_ropewalkref17_Disk_Crash_L1 at hm
  try dsimp only at hm
  refine wc_seq ?_
  refine wc_region ?_
  refine wl_pure rfl rfl rfl (freshS_eq rfl) rfl ?_
  refine wl_as (d := 14) (v' := .bool (decide (u1_13 < l1.length))) (S' := [_,_,_,_,_,_]) rfl rfl (natlt (a := u1_13) (b := l1.length)) ?_
  refine wl_nil ?_
  refine we_then ?_
  refine wc_seq ?_
  refine wc_cond rfl (fun hb14 => ?_) (fun hb14 => ?_)
  ·
   replace hm := iteT hm hb14
   refine wc_keep [13, 12, 11, 4, 0, 1] (S' := [_,_,_,_,_,_]) rfl ?_
   refine wc_skip ?_
   refine we_then ?_
   refine wc_seq ?_
   refine wc_block ?_
   refine wc_seq ?_
   refine wc_region ?_
   obtain ⟨x15, hx15, hm⟩ := bindO_some hm
   refine wl_indexH 0 u1_13 rfl rfl rfl (freshS_eq rfl) rfl rfl rfl rfl rfl (get_lt hx15) tE_83 tS_87 (fun g15 eg15 => ?_)
   subst eg15
   refine wl_loadRow R_Ropewalkref17_entryD_opens 0 u1_13 0 rfl rfl rfl (freshS_eq rfl) rfl rfl rfl hx15 tS_87 tA_87 (v := fun _ => .agg #[.string x15.name, .string x15.firm, .string x15.loose]) (fun _ => rfl) (fun _ => rfl) (fun _ _ => ?_)
   refine wl_alloc rfl rfl rfl (freshS_eq rfl) rfl tZ_87 rfl (fun g6 => ?_)
   refine wl_store 0 0 rfl rfl rfl rfl rfl rfl rfl tS_87 rfl rfl rfl (all' := [_,_,_]) rfl (H' := [_,_,_,_]) rfl ?_
   refine wl_nil ?_
   refine we_then ?_
   refine wc_keep [6, 13, 12, 11, 4, 0, 1] (S' := [_,_,_,_,_,_,_]) rfl ?_
   refine wc_seq ?_
   refine wc_region ?_
   refine wl_pure rfl rfl rfl (freshS_eq rfl) rfl ?_
   refine wl_pure rfl rfl rfl (freshS_eq rfl) rfl ?_
   refine wl_nil ?_
   refine we_then ?_
   refine wc_keep [7, 6, 13, 12, 11, 4, 0, 1] (S' := [_,_,_,_,_,_,_,_]) rfl ?_
   refine wc_seq ?_
   obtain ⟨bj_2, hm, hLj_2⟩ := bindO_some hm
   refine wc_cut (σ := Int) (fun j_2_7 => bj_2 = j_2_7) (fun j_2_7 => [(7, .int .i64 j_2_7), (6, .pointer (some ⟨g6, 0, none⟩)), (13, .int .i64 ((u1_13 : Nat) : Int)), (12, .int .i64 ((l1.length : Nat) : Int)), (11, .slice (some ⟨g15, 0, none⟩) qn2 qc3), (4, .slice u1_4_p u1_4_n u1_4_c), (0, .pointer (some ⟨qg0, 0, none⟩)), (1, .int .i64 a2)]) (fun j_2_7 => []) (fun j_2_7 => [.blk g6 [.string x15.name, .string x15.firm, .string x15.loose] 87, .own 87 3 R_Ropewalkref17_entryD (.slice (some ⟨g15, 0, none⟩) qn2 qc3) l1, .own 87 3 R_Ropewalkref17_entryD (.slice u1_4_p u1_4_n u1_4_c) u1_4_l, .blk qg0 [.int .i64 a0, .slice (some ⟨g15, 0, none⟩) qn2 qc3] 85]) ?_ ?_
   ·
    refine wc_seq ?_
    refine wc_region ?_
    refine wl_pure rfl rfl rfl (freshS_eq rfl) rfl ?_
    refine wl_pure rfl rfl rfl (freshS_eq rfl) rfl ?_
    refine wl_nil ?_
    refine we_then ?_
    refine wc_keep [19, 7, 6, 13, 12, 11, 4, 0, 1] (S' := [_,_,_,_,_,_,_,_,_]) rfl ?_
    refine wc_cond rfl (fun hb19 => ?_) (fun hb19 => ?_)
    ·
     replace hm := iteT hm hb19
     refine wc_keep [6, 13, 12, 11, 4, 0, 1] (S' := [_,_,_,_,_,_,_]) rfl ?_
     refine wc_region ?_
     refine wl_pure rfl rfl rfl (freshS_eq rfl) rfl ?_
     refine wl_nil ?_
     have hE := (Option.some.inj hm).symm
     refine we_join 0 hE [7, 6, 13, 12, 11, 4, 0, 1] rfl (fun _ _ hφ => ask [] rfl hφ) rfl
    ·
     replace hm := iteF hm hb19
     refine wc_keep [7, 6, 13, 12, 11, 4, 0, 1] (S' := [_,_,_,_,_,_,_,_]) rfl ?_
     refine wc_skip ?_
     have hE := (Option.some.inj hm).symm
     refine we_join a2 hE [7, 6, 13, 12, 11, 4, 0, 1] rfl (fun _ _ hφ => ask [] rfl hφ) rfl
   ·
    rintro j_2_7 hE
    try dsimp only
    have hm := hLj_2
    rw [hE] at hm
    refine wc_seq ?_
    obtain ⟨bj_3, hm, hLj_3⟩ := bindO_some hm
    refine wc_cut (σ := Int) (fun j_3_7 => bj_3 = j_3_7) (fun j_3_7 => [(7, .int .i64 j_3_7), (6, .pointer (some ⟨g6, 0, none⟩)), (13, .int .i64 ((u1_13 : Nat) : Int)), (12, .int .i64 ((l1.length : Nat) : Int)), (11, .slice (some ⟨g15, 0, none⟩) qn2 qc3), (4, .slice u1_4_p u1_4_n u1_4_c), (0, .pointer (some ⟨qg0, 0, none⟩)), (1, .int .i64 a2)]) (fun j_3_7 => []) (fun j_3_7 => [.blk g6 [.string x15.name, .string x15.firm, .string x15.loose] 87, .own 87 3 R_Ropewalkref17_entryD (.slice (some ⟨g15, 0, none⟩) qn2 qc3) l1, .own 87 3 R_Ropewalkref17_entryD (.slice u1_4_p u1_4_n u1_4_c) u1_4_l, .blk qg0 [.int .i64 a0, .slice (some ⟨g15, 0, none⟩) qn2 qc3] 85]) ?_ ?_
    ·
     refine wc_seq ?_
     refine wc_region ?_
     refine wl_pure rfl rfl rfl (freshS_eq rfl) rfl ?_
     refine wl_fieldAddr rfl rfl rfl (freshS_eq rfl) rfl rfl tF_87_2 ?_
     refine wl_loadH 0 2 rfl rfl rfl (freshS_eq rfl) rfl rfl rfl (cs := [_]) rfl tS_9 tA_9 rfl rfl ?_
     refine wl_reck rfl rfl rfl (freshS_eq rfl) (rk_strLen rfl rfl tT_9) ?_
     refine wl_pure rfl rfl rfl (freshS_eq rfl) rfl ?_
     refine wl_nil ?_
     refine we_then ?_
     refine wc_keep [24, 7, 6, 13, 12, 11, 4, 0, 1] (S' := [_,_,_,_,_,_,_,_,_]) rfl ?_
     refine wc_cond rfl (fun hb24 => ?_) (fun hb24 => ?_)
     ·
      replace hm := iteT hm hb24
      refine wc_keep [6, 13, 12, 11, 4, 0, 1] (S' := [_,_,_,_,_,_,_]) rfl ?_
      refine wc_region ?_
      refine wl_fieldAddr rfl rfl rfl (freshS_eq rfl) rfl rfl tF_87_2 ?_
      refine wl_loadH 0 2 rfl rfl rfl (freshS_eq rfl) rfl rfl rfl (cs := [_]) rfl tS_9 tA_9 rfl rfl ?_
      refine wl_reck rfl rfl rfl (freshS_eq rfl) (rk_strLen rfl rfl tT_9) ?_
      refine wl_pure rfl rfl rfl (freshS_eq rfl) rfl ?_
      refine wl_nil ?_
      have hE := (Option.some.inj hm).symm
      refine we_join ((x15.loose.size : Nat) : Int) hE [7, 6, 13, 12, 11, 4, 0, 1] rfl (fun _ _ hφ => ask [] rfl hφ) rfl
     ·
      replace hm := iteF hm hb24
      refine wc_keep [7, 6, 13, 12, 11, 4, 0, 1] (S' := [_,_,_,_,_,_,_,_]) rfl ?_
      refine wc_skip ?_
      have hE := (Option.some.inj hm).symm
      refine we_join j_2_7 hE [7, 6, 13, 12, 11, 4, 0, 1] rfl (fun _ _ hφ => ask [] rfl hφ) rfl
    ·
     rintro j_3_7 hE
     try dsimp only
     have hm := hLj_3
     rw [hE] at hm
     obtain ⟨hn36_1, hm⟩ := gd_some hm
     obtain ⟨hg36, hm⟩ := gd_some hm
     obtain ⟨hg37, hm⟩ := gd_some hm
     obtain ⟨hg40, hm⟩ := gd_some hm
     refine wc_draw [0, 1, 2, 3, 4, 5, 6, 7, 9, 10] rfl rfl (fun hok => ?_)
     refine wx_pure hok 0 rfl rfl rfl (freshS_eq rfl) rfl rfl ?_
     refine wx_fieldAddr hok 1 rfl rfl rfl (freshS_eq rfl) rfl rfl rfl tF_87_0 ?_
     refine wx_loadH hok 2 0 0 rfl rfl rfl (freshS_eq rfl) rfl rfl rfl rfl (cs := [_]) rfl tS_9 tA_9 rfl rfl ?_
     refine wx_fieldAddr hok 3 rfl rfl rfl (freshS_eq rfl) rfl rfl rfl tF_87_1 ?_
     refine wx_loadH hok 4 0 1 rfl rfl rfl (freshS_eq rfl) rfl rfl rfl rfl (cs := [_]) rfl tS_9 tA_9 rfl rfl ?_
     refine wx_fieldAddr hok 5 rfl rfl rfl (freshS_eq rfl) rfl rfl rfl tF_87_2 ?_
     refine wx_loadH hok 6 0 2 rfl rfl rfl (freshS_eq rfl) rfl rfl rfl rfl (cs := [_]) rfl tS_9 tA_9 rfl rfl ?_
     refine wx_pure hok 7 rfl rfl rfl (freshS_eq rfl) rfl rfl ?_
     refine wx_step1 hok 8 rfl rfl rfl rfl ?_
     refine wl_reck rfl rfl rfl (freshS_eq rfl) (rk_strTo j_3_7.toNat rfl rfl rfl (toNat_eq hn36_1) hg36 tT_9) ?_
     refine wl_nil ?_
     refine we_x [] [0, 0] rfl rfl ?_
     refine wx_bin hok 9 rfl rfl rfl (freshS_eq rfl) rfl rfl rfl rfl (run_strAdd hg37) ?_
     refine wx_build hok 10 rfl rfl rfl (freshS_eq rfl) rfl rfl tZ_87 tP_87 rfl (out := [_,_,_]) rfl ?_
     refine wx_step1 hok 11 rfl rfl rfl rfl ?_
     refine wl_buildSlice rfl rfl rfl (freshS_eq rfl) rfl tE_83 tS_87 tZ_87 rfl (zs := [.string ((⟨#[]⟩ : ByteArray)), .string ((⟨#[]⟩ : ByteArray)), .string ((⟨#[]⟩ : ByteArray))]) (by kernel_rfl) rfl (out := [_,_,_]) rfl (fun g39 => ?_)
     refine wl_nil ?_
     refine we_x [] [1, 1, 1] rfl rfl ?_
     refine wx_step1 hok 12 rfl rfl rfl rfl ?_
     refine wl_appendH ([(⟨x15.name, x15.firm ++ (x15.loose.extract 0 j_3_7.toNat), (⟨#[]⟩ : ByteArray)⟩ : Ropewalkref17_entryD)]) 3 0 rfl rfl rfl (freshS_eq rfl) rfl rfl rfl rfl rfl (fun F w hφ => ⟨[.string x15.name, .string (x15.firm ++ (x15.loose.extract 0 j_3_7.toNat)), .string ((⟨#[]⟩ : ByteArray))], [], rfl, rfl, ⟨(), rfl, ask_nil⟩, rfl⟩) tE_83 tR_87 rfl rfl (Nat.le_trans hg40 (by decide)) (Nat.le_trans (Nat.mul_le_mul_right _ hg40) (by decide)) (H2 := fun p40 c40 => [.blk g39 [.string x15.name, .string (x15.firm ++ (x15.loose.extract 0 j_3_7.toNat)), .string ((⟨#[]⟩ : ByteArray))] 87, .blk g6 [.string x15.name, .string x15.firm, .string x15.loose] 87, .own 87 3 R_Ropewalkref17_entryD (.slice (some ⟨g15, 0, none⟩) qn2 qc3) l1, .own 87 3 R_Ropewalkref17_entryD (.slice p40 ((u1_4_l ++ ([(⟨x15.name, x15.firm ++ (x15.loose.extract 0 j_3_7.toNat), (⟨#[]⟩ : ByteArray)⟩ : Ropewalkref17_entryD)])).length) c40) (u1_4_l ++ ([(⟨x15.name, x15.firm ++ (x15.loose.extract 0 j_3_7.toNat), (⟨#[]⟩ : ByteArray)⟩ : Ropewalkref17_entryD)])), .blk qg0 [.int .i64 a0, .slice (some ⟨g15, 0, none⟩) qn2 qc3] 85]) (fun _ _ => rfl) (fun p40 c40 => ?_)
     refine wl_drop 0 rfl (H' := [_,_,_,_]) rfl ?_
     refine wl_nil ?_
     refine we_x [] [0, 0, 0] rfl rfl ?_
     refine wx_step1 hok 13 rfl rfl rfl rfl ?_
     refine wl_pure (S' := [_,_,_,_,_,_,_,_,_,_,_,_,_,_,_,_,_,_,_,_]) rfl rfl rfl rfl rfl ?_
     refine wl_nil ?_
     refine we_x [] [] rfl rfl ?_
     refine wx_done hok rfl ?_
     refine we_block_normal ?_
     refine we_then ?_
     refine wc_keep [4, 13, 12, 11, 0, 1] (S' := [_,_,_,_,_,_]) rfl ?_
     refine wc_region ?_
     refine wl_pure rfl rfl rfl (freshS_eq rfl) rfl ?_
     obtain ⟨hg41, hm⟩ := gd_some hm
     refine wl_as (d := 41) (v' := .int .i64 ((u1_13 + 1 : Nat) : Int)) (S' := [_,_,_,_,_,_]) rfl rfl (nat_add (a := u1_13) (b := 1) hg41) ?_
     refine wl_pure (S' := [_,_,_,_,_,_]) rfl rfl rfl rfl rfl ?_
     refine wl_nil ?_
     have hE := (Option.some.inj hm).symm
     replace hE := link_inl hLu1 hE
     refine we_pick [1, 2, 3] rfl (H' := [_,_,_]) rfl ?_
     refine we_roundK (_, u1_13 + 1, (u1_4_l ++ ([(⟨x15.name, x15.firm ++ (x15.loose.extract 0 j_3_7.toNat), (⟨#[]⟩ : ByteArray)⟩ : Ropewalkref17_entryD)])), p40, c40, ((u1_4_l ++ ([(⟨x15.name, x15.firm ++ (x15.loose.extract 0 j_3_7.toNat), (⟨#[]⟩ : ByteArray)⟩ : Ropewalkref17_entryD)])).length)) (Nat.lt_succ_self _) hE [13, 12, 11, 4, 0, 1] rfl (fun _ _ hφ => ask [] rfl hφ) rfl
  ·
   replace hm := iteF hm hb14
   refine wc_keep [4, 0] (S' := [_,_]) rfl ?_
   refine wc_exit ?_
   refine we_then_exit ?_
   refine we_then_exit ?_
   refine we_block_hit ?_
   have hE := (Option.some.inj hm).symm
   replace hE := link_inr hLu1 hE
   refine we_pick [2, 0, 1] rfl (H' := [_,_,_]) rfl ?_
   refine we_join (u1_4_l, u1_4_p, u1_4_c, u1_4_n) hE [0, 4] rfl (fun _ _ hφ => ask [] rfl hφ) rfl
 ·
  rintro ⟨j_1_4_l, j_1_4_p, j_1_4_c, j_1_4_n⟩ hE
  try dsimp only
  have hm := hLj_1
  rw [hE] at hm
  refine wc_region ?_
  refine wl_pure rfl rfl rfl (freshS_eq rfl) rfl ?_
  refine wl_pure rfl rfl rfl (freshS_eq rfl) rfl ?_
  refine wl_pure rfl rfl rfl (freshS_eq rfl) rfl ?_
  refine wl_fieldAddr rfl rfl rfl (freshS_eq rfl) rfl rfl tF_85_1 ?_
  refine wl_store 0 1 rfl rfl rfl rfl rfl rfl rfl tS_83 rfl rfl rfl (all' := [_,_]) rfl (H' := [_,_,_]) rfl ?_
  refine wl_nil ?_
  have hE := (Option.some.inj hm).symm
  replace hE := hE.symm
  subst hE
  refine ret_none (Hr := [_, _, _]) [0, 2, 1] Try.results57 ⟨j_1_4_p, j_1_4_c, j_1_4_n, rfl, rfl, rfl⟩ (fun _ _ hφ => ask [] rfl hφ) rfl rfl (.inr rfl)
set_option maxRecDepth 100000 in
set_option maxHeartbeats 4000000 in
theorem w_ropewalklaw17_both_errors_s (N : Nat) (qg0 : Nat) (a0 : Int) (qb1 : Nat) (e1 : List (ByteArray × Disk_rowsD)) (qg2 : Nat) (a2 : Int) (qp3 : Option Addr) (qn4 : Nat) (qc5 : Nat) (l3 : List Ropewalkref17_entryD) (a4 : Int) (a5 : ByteArray) (a6 : ByteArray) (qp6 : Option Addr) (qc7 : Nat) (l7 : List Int) (a8 : Int) (o0 : Int) (o1 : Nat) (o2 : List (ByteArray × Disk_rowsD)) (o5 : List Ropewalkref17_entryD) (hm : m_ropewalklaw17_both_errors N a0 e1 a2 l3 a4 a5 a6 l7 a8 = some (o0, o1, o2, o5)) : Spec Try.prog 27 [.agg #[.pointer (some ⟨qg0, 0, none⟩), .pointer (some ⟨qg2, 0, none⟩)], .agg #[.int .i64 a4, .string a5, .string a6, .slice qp6 l7.length qc7, .int .i64 a8]] [.sli 1 R_u8 qp6 qc7 l7] [.blk qg0 [.int .i64 a0, .map (some qb1)] 59, mapP (keyStr (tStr_run tT_9)) true R_Disk_rowsD qb1 e1, .blk qg2 [.int .i64 a2, .slice qp3 qn4 qc5] 85, .own 87 3 R_Ropewalkref17_entryD (.slice qp3 qn4 qc5) l3] (fun v Φr Hr => ∃ (o3 : Option Addr) (o4 : Nat) (o6 : Nat), v = .tuple #[.int .i64 o0, .int .i64 ((o1 : Nat) : Int)] ∧ Φr = [] ∧ Hr = [.blk qg0 [.int .i64 a0, .map (some qb1)] 59, mapP (keyStr (tStr_run tT_9)) true R_Disk_rowsD qb1 o2, .blk qg2 [.int .i64 a2, .slice o3 o6 o4] 85, .own 87 3 R_Ropewalkref17_entryD (.slice o3 o6 o4) o5]) := by
 unfold m_ropewalklaw17_both_errors at hm
 refine spec_of Try.func27 rfl Try.ntmps27 rfl (S := [_,_]) rfl (fun C => ?_)
 refine wc_seq ?_
 refine wc_region ?_
 refine wl_box rfl rfl rfl (freshS_eq rfl) rfl rfl rfl (fun g2 => ?_)
 refine wl_box rfl rfl rfl (freshS_eq rfl) rfl rfl rfl (fun g3 => ?_)
 refine wl_pure rfl rfl rfl (freshS_eq rfl) rfl ?_
 refine wl_pure rfl rfl rfl (freshS_eq rfl) rfl ?_
 refine wl_nil ?_
 refine we_then ?_
 refine wc_keep [3, 2] (S' := [_,_]) rfl ?_
 refine wc_seq ?_
 refine wc_region ?_
 refine wl_fieldAddr rfl rfl rfl (freshS_eq rfl) rfl rfl tF_54_0 ?_
 refine wl_loadH 0 0 rfl rfl rfl (freshS_eq rfl) rfl rfl rfl (cs := [_]) rfl tS_3 tA_3 rfl rfl ?_
 obtain ⟨v9, hc9, hm⟩ := bindO_some hm
 refine wl_call [] [0, 1, 2, 3, 4, 5] rfl rfl rfl (freshS_eq rfl) rfl rfl fn_23 rfl (w_ropewalkkit_Pick_s N a4 7 _ hc9) (fun _ _ hφ => ask [] rfl hφ) rfl (H' := [_,_,_,_,_,_]) rfl ?_
 rintro _ _ _ ⟨rfl, rfl, rfl⟩
 refine wl_pure rfl rfl rfl (freshS_eq rfl) rfl ?_
 refine wl_nil ?_
 refine we_then ?_
 refine wc_keep [6, 3, 2] (S' := [_,_,_]) rfl ?_
 refine wc_seq ?_
 refine wc_seq ?_
 refine wc_region ?_
 refine wl_pure rfl rfl rfl (freshS_eq rfl) rfl ?_
 refine wl_pure rfl rfl rfl (freshS_eq rfl) rfl ?_
 refine wl_nil ?_
 refine we_then ?_
 refine wc_keep [11, 6, 3, 2] (S' := [_,_,_,_]) rfl ?_
 refine wc_cond rfl (fun hb11 => ?_) (fun hb11 => ?_)
 ·
  replace hm := iteT hm hb11
  refine wc_keep [3, 2] (S' := [_,_]) rfl ?_
  refine wc_seq ?_
  obtain ⟨⟨v18_0, v18_1⟩, hc18, hm⟩ := bindO_some hm
  try dsimp only at hm
  obtain ⟨⟨v25_0, v25_1⟩, hc25, hm⟩ := bindO_some hm
  try dsimp only at hm
  refine wc_draw [0, 1, 2, 3, 4, 5, 7, 8, 9, 10, 11, 12] rfl rfl (fun hok => ?_)
  refine wx_fieldAddr hok 0 rfl rfl rfl (freshS_eq rfl) rfl rfl rfl tF_44_0 ?_
  refine wx_loadH hok 1 1 0 rfl rfl rfl (freshS_eq rfl) rfl rfl rfl rfl (cs := [_]) rfl tS_24 tA_24 rfl rfl ?_
  refine wx_fieldAddr hok 2 rfl rfl rfl (freshS_eq rfl) rfl rfl rfl tF_54_1 ?_
  refine wx_loadH hok 3 0 1 rfl rfl rfl (freshS_eq rfl) rfl rfl rfl rfl (cs := [_]) rfl tS_9 tA_9 rfl rfl ?_
  refine wx_fieldAddr hok 4 rfl rfl rfl (freshS_eq rfl) rfl rfl rfl tF_54_3 ?_
  refine wx_loadH hok 5 0 3 rfl rfl rfl (freshS_eq rfl) rfl rfl rfl rfl (cs := [_]) rfl tS_27 tA_27 rfl rfl ?_
  refine wx_fieldAddr hok 7 rfl rfl rfl (freshS_eq rfl) rfl rfl rfl tF_44_1 ?_
  refine wx_loadH hok 8 1 1 rfl rfl rfl (freshS_eq rfl) rfl rfl rfl rfl (cs := [_]) rfl tS_42 tA_42 rfl rfl ?_
  refine wx_fieldAddr hok 9 rfl rfl rfl (freshS_eq rfl) rfl rfl rfl tF_54_1 ?_
  refine wx_loadH hok 10 0 1 rfl rfl rfl (freshS_eq rfl) rfl rfl rfl rfl (cs := [_]) rfl tS_9 tA_9 rfl rfl ?_
  refine wx_fieldAddr hok 11 rfl rfl rfl (freshS_eq rfl) rfl rfl rfl tF_54_3 ?_
  refine wx_loadH hok 12 0 3 rfl rfl rfl (freshS_eq rfl) rfl rfl rfl rfl (cs := [_]) rfl tS_27 tA_27 rfl rfl ?_
  refine wx_step1 hok 6 rfl rfl rfl rfl ?_
  refine wl_call [2, 3] [0, 1, 4, 5] rfl rfl rfl (freshS_eq rfl) rfl rfl fn_11 rfl (w_disk_Disk_Append_s N qg0 a0 qb1 e1 a5 qp6 qc7 l7 _ _ hc18) (fun _ _ hφ => ask [0] rfl hφ) rfl (H' := [_,_,_,_]) rfl ?_
  rintro _ _ _ ⟨rfl, rfl, rfl⟩
  refine wl_nil ?_
  refine we_x [0] [2, 2, 3] rfl rfl ?_
  refine wx_step1 hok 13 rfl rfl rfl rfl ?_
  refine wl_call [4, 5] [0, 1, 2, 3] rfl rfl rfl (freshS_eq rfl) rfl rfl fn_52 rfl (w_ropewalkref17_Disk_Append_s N qg2 a2 qp3 qn4 qc5 l3 a5 qp6 qc7 l7 _ _ hc25) (fun _ _ hφ => ask [0] rfl hφ) rfl (H' := [_,_,_,_]) rfl ?_
  rintro _ _ _ ⟨p25_0, c25_1, c25_2, rfl, rfl, rfl⟩
  refine wl_nil ?_
  refine we_x [0] [4, 4, 5] rfl rfl ?_
  refine wx_step1 hok 14 rfl rfl rfl rfl ?_
  refine wl_pure rfl rfl rfl (freshS_eq rfl) rfl ?_
  refine wl_nil ?_
  refine we_x [0] [4, 4, 5] rfl rfl ?_
  refine wx_step1 hok 15 rfl rfl rfl rfl ?_
  refine wl_pure rfl rfl rfl (freshS_eq rfl) rfl ?_
  refine wl_nil ?_
  refine we_x [0] [] rfl rfl ?_
  refine wx_done hok rfl ?_
  refine we_then ?_
  refine wc_keep [5, 4] (S' := [_,_]) rfl ?_
  refine wc_ret ?_
  refine we_then_ret ?_
  have hE := (Option.some.inj hm).symm
  obtain ⟨hE0, hF1⟩ := Prod.mk.inj hE
  obtain ⟨hE1, hF2⟩ := Prod.mk.inj hF1
  obtain ⟨hE2, hE3⟩ := Prod.mk.inj hF2
  clear hE hF1 hF2
  replace hE0 := hE0.symm
  subst hE0
  replace hE1 := hE1.symm
  subst hE1
  replace hE2 := hE2.symm
  subst hE2
  replace hE3 := hE3.symm
  subst hE3
  refine ret_two (Hr := [_, _, _, _]) [2, 3, 0, 1] Try.results27 (res_tmp rfl) (res_tmp rfl) ⟨p25_0, c25_1, c25_2, rfl, rfl, rfl⟩ (fun _ _ hφ => ask [] rfl hφ) rfl rfl (.inl rfl)
 ·
  replace hm := iteF hm hb11
  refine wc_keep [6, 3, 2] (S' := [_,_,_]) rfl ?_
  refine wc_skip ?_
  refine we_then ?_
  refine wc_seq ?_
  refine wc_seq ?_
  refine wc_region ?_
  refine wl_pure rfl rfl rfl (freshS_eq rfl) rfl ?_
  refine wl_pure rfl rfl rfl (freshS_eq rfl) rfl ?_
  refine wl_nil ?_
  refine we_then ?_
  refine wc_keep [27, 6, 3, 2] (S' := [_,_,_,_]) rfl ?_
  refine wc_cond rfl (fun hb27 => ?_) (fun hb27 => ?_)
  ·
   replace hm := iteT hm hb27
   refine wc_keep [3, 2] (S' := [_,_]) rfl ?_
   refine wc_seq ?_
   obtain ⟨⟨v32_0, v32_1⟩, hc32, hm⟩ := bindO_some hm
   try dsimp only at hm
   obtain ⟨⟨v37_0, v37_1⟩, hc37, hm⟩ := bindO_some hm
   try dsimp only at hm
   refine wc_draw [0, 1, 2, 3, 5, 6, 7, 8] rfl rfl (fun hok => ?_)
   refine wx_fieldAddr hok 0 rfl rfl rfl (freshS_eq rfl) rfl rfl rfl tF_44_0 ?_
   refine wx_loadH hok 1 1 0 rfl rfl rfl (freshS_eq rfl) rfl rfl rfl rfl (cs := [_]) rfl tS_24 tA_24 rfl rfl ?_
   refine wx_fieldAddr hok 2 rfl rfl rfl (freshS_eq rfl) rfl rfl rfl tF_54_1 ?_
   refine wx_loadH hok 3 0 1 rfl rfl rfl (freshS_eq rfl) rfl rfl rfl rfl (cs := [_]) rfl tS_9 tA_9 rfl rfl ?_
   refine wx_fieldAddr hok 5 rfl rfl rfl (freshS_eq rfl) rfl rfl rfl tF_44_1 ?_
   refine wx_loadH hok 6 1 1 rfl rfl rfl (freshS_eq rfl) rfl rfl rfl rfl (cs := [_]) rfl tS_42 tA_42 rfl rfl ?_
   refine wx_fieldAddr hok 7 rfl rfl rfl (freshS_eq rfl) rfl rfl rfl tF_54_1 ?_
   refine wx_loadH hok 8 0 1 rfl rfl rfl (freshS_eq rfl) rfl rfl rfl rfl (cs := [_]) rfl tS_9 tA_9 rfl rfl ?_
   refine wx_step1 hok 4 rfl rfl rfl rfl ?_
   refine wl_call [2, 3] [0, 1, 4, 5] rfl rfl rfl (freshS_eq rfl) rfl rfl fn_12 rfl (w_disk_Disk_Sync_s N qg0 a0 qb1 e1 a5 _ _ hc32) (fun _ _ hφ => ask [] rfl hφ) rfl (H' := [_,_,_,_]) rfl ?_
   rintro _ _ _ ⟨rfl, rfl, rfl⟩
   refine wl_nil ?_
   refine we_x [0] [2, 3] rfl rfl ?_
   refine wx_step1 hok 9 rfl rfl rfl rfl ?_
   refine wl_call [4, 5] [0, 1, 2, 3] rfl rfl rfl (freshS_eq rfl) rfl rfl fn_53 rfl (w_ropewalkref17_Disk_Sync_s N qg2 a2 qp3 qn4 qc5 l3 a5 _ _ hc37) (fun _ _ hφ => ask [] rfl hφ) rfl (H' := [_,_,_,_]) rfl ?_
   rintro _ _ _ ⟨p37_0, c37_1, c37_2, rfl, rfl, rfl⟩
   refine wl_nil ?_
   refine we_x [0] [4, 5] rfl rfl ?_
   refine wx_step1 hok 10 rfl rfl rfl rfl ?_
   refine wl_pure rfl rfl rfl (freshS_eq rfl) rfl ?_
   refine wl_nil ?_
   refine we_x [0] [4, 5] rfl rfl ?_
   refine wx_step1 hok 11 rfl rfl rfl rfl ?_
   refine wl_pure rfl rfl rfl (freshS_eq rfl) rfl ?_
   refine wl_nil ?_
   refine we_x [0] [] rfl rfl ?_
   refine wx_done hok rfl ?_
   refine we_then ?_
   refine wc_keep [5, 4] (S' := [_,_]) rfl ?_
   refine wc_ret ?_
   refine we_then_ret ?_
   have hE := (Option.some.inj hm).symm
   obtain ⟨hE0, hF1⟩ := Prod.mk.inj hE
   obtain ⟨hE1, hF2⟩ := Prod.mk.inj hF1
   obtain ⟨hE2, hE3⟩ := Prod.mk.inj hF2
   clear hE hF1 hF2
   replace hE0 := hE0.symm
   subst hE0
   replace hE1 := hE1.symm
   subst hE1
   replace hE2 := hE2.symm
   subst hE2
   replace hE3 := hE3.symm
   subst hE3
   refine ret_two (Hr := [_, _, _, _]) [2, 3, 0, 1] Try.results27 (res_tmp rfl) (res_tmp rfl) ⟨p37_0, c37_1, c37_2, rfl, rfl, rfl⟩ (fun _ _ hφ => ask [] rfl hφ) rfl rfl (.inl rfl)
  ·
   replace hm := iteF hm hb27
   refine wc_keep [6, 3, 2] (S' := [_,_,_]) rfl ?_
   refine wc_skip ?_
   refine we_then ?_
   refine wc_seq ?_
   refine wc_seq ?_
   refine wc_region ?_
   refine wl_pure rfl rfl rfl (freshS_eq rfl) rfl ?_
   refine wl_pure rfl rfl rfl (freshS_eq rfl) rfl ?_
   refine wl_nil ?_
   refine we_then ?_
   refine wc_keep [39, 6, 3, 2] (S' := [_,_,_,_]) rfl ?_
   refine wc_cond rfl (fun hb39 => ?_) (fun hb39 => ?_)
   ·
    replace hm := iteT hm hb39
    refine wc_keep [3, 2] (S' := [_,_]) rfl ?_
    refine wc_seq ?_
    obtain ⟨⟨v46_0, v46_1⟩, hc46, hm⟩ := bindO_some hm
    try dsimp only at hm
    obtain ⟨⟨v53_0, v53_1⟩, hc53, hm⟩ := bindO_some hm
    try dsimp only at hm
    refine wc_draw [0, 1, 2, 3, 4, 5, 7, 8, 9, 10, 11, 12] rfl rfl (fun hok => ?_)
    refine wx_fieldAddr hok 0 rfl rfl rfl (freshS_eq rfl) rfl rfl rfl tF_44_0 ?_
    refine wx_loadH hok 1 1 0 rfl rfl rfl (freshS_eq rfl) rfl rfl rfl rfl (cs := [_]) rfl tS_24 tA_24 rfl rfl ?_
    refine wx_fieldAddr hok 2 rfl rfl rfl (freshS_eq rfl) rfl rfl rfl tF_54_1 ?_
    refine wx_loadH hok 3 0 1 rfl rfl rfl (freshS_eq rfl) rfl rfl rfl rfl (cs := [_]) rfl tS_9 tA_9 rfl rfl ?_
    refine wx_fieldAddr hok 4 rfl rfl rfl (freshS_eq rfl) rfl rfl rfl tF_54_4 ?_
    refine wx_loadH hok 5 0 4 rfl rfl rfl (freshS_eq rfl) rfl rfl rfl rfl (cs := [_]) rfl tS_3 tA_3 rfl rfl ?_
    refine wx_fieldAddr hok 7 rfl rfl rfl (freshS_eq rfl) rfl rfl rfl tF_44_1 ?_
    refine wx_loadH hok 8 1 1 rfl rfl rfl (freshS_eq rfl) rfl rfl rfl rfl (cs := [_]) rfl tS_42 tA_42 rfl rfl ?_
    refine wx_fieldAddr hok 9 rfl rfl rfl (freshS_eq rfl) rfl rfl rfl tF_54_1 ?_
    refine wx_loadH hok 10 0 1 rfl rfl rfl (freshS_eq rfl) rfl rfl rfl rfl (cs := [_]) rfl tS_9 tA_9 rfl rfl ?_
    refine wx_fieldAddr hok 11 rfl rfl rfl (freshS_eq rfl) rfl rfl rfl tF_54_4 ?_
    refine wx_loadH hok 12 0 4 rfl rfl rfl (freshS_eq rfl) rfl rfl rfl rfl (cs := [_]) rfl tS_3 tA_3 rfl rfl ?_
    refine wx_step1 hok 6 rfl rfl rfl rfl ?_
    refine wl_call [2, 3] [0, 1, 4, 5] rfl rfl rfl (freshS_eq rfl) rfl rfl fn_30 rfl (w_disk_Disk_Cut_v3_s N qg0 a0 qb1 e1 a5 a8 _ _ hc46) (fun _ _ hφ => ask [] rfl hφ) rfl (H' := [_,_,_,_]) rfl ?_
    rintro _ _ _ ⟨rfl, rfl, rfl⟩
    refine wl_nil ?_
    refine we_x [0] [2, 2, 3] rfl rfl ?_
    refine wx_step1 hok 13 rfl rfl rfl rfl ?_
    refine wl_call [4, 5] [0, 1, 2, 3] rfl rfl rfl (freshS_eq rfl) rfl rfl fn_54 rfl (w_ropewalkref17_Disk_Cut_s N qg2 a2 qp3 qn4 qc5 l3 a5 a8 _ _ hc53) (fun _ _ hφ => ask [] rfl hφ) rfl (H' := [_,_,_,_]) rfl ?_
    rintro _ _ _ ⟨p53_0, c53_1, c53_2, rfl, rfl, rfl⟩
    refine wl_nil ?_
    refine we_x [0] [4, 4, 5] rfl rfl ?_
    refine wx_step1 hok 14 rfl rfl rfl rfl ?_
    refine wl_pure rfl rfl rfl (freshS_eq rfl) rfl ?_
    refine wl_nil ?_
    refine we_x [0] [4, 4, 5] rfl rfl ?_
    refine wx_step1 hok 15 rfl rfl rfl rfl ?_
    refine wl_pure rfl rfl rfl (freshS_eq rfl) rfl ?_
    refine wl_nil ?_
    refine we_x [0] [] rfl rfl ?_
    refine wx_done hok rfl ?_
    refine we_then ?_
    refine wc_keep [5, 4] (S' := [_,_]) rfl ?_
    refine wc_ret ?_
    refine we_then_ret ?_
    have hE := (Option.some.inj hm).symm
    obtain ⟨hE0, hF1⟩ := Prod.mk.inj hE
    obtain ⟨hE1, hF2⟩ := Prod.mk.inj hF1
    obtain ⟨hE2, hE3⟩ := Prod.mk.inj hF2
    clear hE hF1 hF2
    replace hE0 := hE0.symm
    subst hE0
    replace hE1 := hE1.symm
    subst hE1
    replace hE2 := hE2.symm
    subst hE2
    replace hE3 := hE3.symm
    subst hE3
    refine ret_two (Hr := [_, _, _, _]) [2, 3, 0, 1] Try.results27 (res_tmp rfl) (res_tmp rfl) ⟨p53_0, c53_1, c53_2, rfl, rfl, rfl⟩ (fun _ _ hφ => ask [] rfl hφ) rfl rfl (.inl rfl)
   ·
    replace hm := iteF hm hb39
    refine wc_keep [6, 3, 2] (S' := [_,_,_]) rfl ?_
    refine wc_skip ?_
    refine we_then ?_
    refine wc_seq ?_
    refine wc_seq ?_
    refine wc_region ?_
    refine wl_pure rfl rfl rfl (freshS_eq rfl) rfl ?_
    refine wl_pure rfl rfl rfl (freshS_eq rfl) rfl ?_
    refine wl_nil ?_
    refine we_then ?_
    refine wc_keep [55, 6, 3, 2] (S' := [_,_,_,_]) rfl ?_
    refine wc_cond rfl (fun hb55 => ?_) (fun hb55 => ?_)
    ·
     replace hm := iteT hm hb55
     refine wc_keep [3, 2] (S' := [_,_]) rfl ?_
     refine wc_seq ?_
     obtain ⟨⟨v62_0, v62_1⟩, hc62, hm⟩ := bindO_some hm
     try dsimp only at hm
     obtain ⟨⟨v69_0, v69_1⟩, hc69, hm⟩ := bindO_some hm
     try dsimp only at hm
     refine wc_draw [0, 1, 2, 3, 4, 5, 7, 8, 9, 10, 11, 12] rfl rfl (fun hok => ?_)
     refine wx_fieldAddr hok 0 rfl rfl rfl (freshS_eq rfl) rfl rfl rfl tF_44_0 ?_
     refine wx_loadH hok 1 1 0 rfl rfl rfl (freshS_eq rfl) rfl rfl rfl rfl (cs := [_]) rfl tS_24 tA_24 rfl rfl ?_
     refine wx_fieldAddr hok 2 rfl rfl rfl (freshS_eq rfl) rfl rfl rfl tF_54_1 ?_
     refine wx_loadH hok 3 0 1 rfl rfl rfl (freshS_eq rfl) rfl rfl rfl rfl (cs := [_]) rfl tS_9 tA_9 rfl rfl ?_
     refine wx_fieldAddr hok 4 rfl rfl rfl (freshS_eq rfl) rfl rfl rfl tF_54_2 ?_
     refine wx_loadH hok 5 0 2 rfl rfl rfl (freshS_eq rfl) rfl rfl rfl rfl (cs := [_]) rfl tS_9 tA_9 rfl rfl ?_
     refine wx_fieldAddr hok 7 rfl rfl rfl (freshS_eq rfl) rfl rfl rfl tF_44_1 ?_
     refine wx_loadH hok 8 1 1 rfl rfl rfl (freshS_eq rfl) rfl rfl rfl rfl (cs := [_]) rfl tS_42 tA_42 rfl rfl ?_
     refine wx_fieldAddr hok 9 rfl rfl rfl (freshS_eq rfl) rfl rfl rfl tF_54_1 ?_
     refine wx_loadH hok 10 0 1 rfl rfl rfl (freshS_eq rfl) rfl rfl rfl rfl (cs := [_]) rfl tS_9 tA_9 rfl rfl ?_
     refine wx_fieldAddr hok 11 rfl rfl rfl (freshS_eq rfl) rfl rfl rfl tF_54_2 ?_
     refine wx_loadH hok 12 0 2 rfl rfl rfl (freshS_eq rfl) rfl rfl rfl rfl (cs := [_]) rfl tS_9 tA_9 rfl rfl ?_
     refine wx_step1 hok 6 rfl rfl rfl rfl ?_
     refine wl_call [2, 3] [0, 1, 4, 5] rfl rfl rfl (freshS_eq rfl) rfl rfl fn_29 rfl (w_disk_Disk_Rename_v3_s N qg0 a0 qb1 e1 a5 a6 _ _ hc62) (fun _ _ hφ => ask [] rfl hφ) rfl (H' := [_,_,_,_]) rfl ?_
     rintro _ _ _ ⟨rfl, rfl, rfl⟩
     refine wl_nil ?_
     refine we_x [0] [2, 2, 3] rfl rfl ?_
     refine wx_step1 hok 13 rfl rfl rfl rfl ?_
     refine wl_call [4, 5] [0, 1, 2, 3] rfl rfl rfl (freshS_eq rfl) rfl rfl fn_55 rfl (w_ropewalkref17_Disk_Rename_s N qg2 a2 qp3 qn4 qc5 l3 a5 a6 _ _ hc69) (fun _ _ hφ => ask [] rfl hφ) rfl (H' := [_,_,_,_]) rfl ?_
     rintro _ _ _ ⟨p69_0, c69_1, c69_2, rfl, rfl, rfl⟩
     refine wl_nil ?_
     refine we_x [0] [4, 4, 5] rfl rfl ?_
     refine wx_step1 hok 14 rfl rfl rfl rfl ?_
     refine wl_pure rfl rfl rfl (freshS_eq rfl) rfl ?_
     refine wl_nil ?_
     refine we_x [0] [4, 4, 5] rfl rfl ?_
     refine wx_step1 hok 15 rfl rfl rfl rfl ?_
     refine wl_pure rfl rfl rfl (freshS_eq rfl) rfl ?_
     refine wl_nil ?_
     refine we_x [0] [] rfl rfl ?_
     refine wx_done hok rfl ?_
     refine we_then ?_
     refine wc_keep [5, 4] (S' := [_,_]) rfl ?_
     refine wc_ret ?_
     refine we_then_ret ?_
     have hE := (Option.some.inj hm).symm
     obtain ⟨hE0, hF1⟩ := Prod.mk.inj hE
     obtain ⟨hE1, hF2⟩ := Prod.mk.inj hF1
     obtain ⟨hE2, hE3⟩ := Prod.mk.inj hF2
     clear hE hF1 hF2
     replace hE0 := hE0.symm
     subst hE0
     replace hE1 := hE1.symm
     subst hE1
     replace hE2 := hE2.symm
     subst hE2
     replace hE3 := hE3.symm
     subst hE3
     refine ret_two (Hr := [_, _, _, _]) [2, 3, 0, 1] Try.results27 (res_tmp rfl) (res_tmp rfl) ⟨p69_0, c69_1, c69_2, rfl, rfl, rfl⟩ (fun _ _ hφ => ask [] rfl hφ) rfl rfl (.inl rfl)
    ·
     replace hm := iteF hm hb55
     refine wc_keep [6, 3, 2] (S' := [_,_,_]) rfl ?_
     refine wc_skip ?_
     refine we_then ?_
     refine wc_seq ?_
     refine wc_seq ?_
     refine wc_region ?_
     refine wl_pure rfl rfl rfl (freshS_eq rfl) rfl ?_
     refine wl_pure rfl rfl rfl (freshS_eq rfl) rfl ?_
     refine wl_nil ?_
     refine we_then ?_
     refine wc_keep [71, 3, 2] (S' := [_,_,_]) rfl ?_
     refine wc_cond rfl (fun hb71 => ?_) (fun hb71 => ?_)
     ·
      replace hm := iteT hm hb71
      refine wc_keep [3, 2] (S' := [_,_]) rfl ?_
      refine wc_seq ?_
      obtain ⟨⟨v76_0, v76_1⟩, hc76, hm⟩ := bindO_some hm
      try dsimp only at hm
      obtain ⟨⟨v81_0, v81_1⟩, hc81, hm⟩ := bindO_some hm
      try dsimp only at hm
      refine wc_draw [0, 1, 2, 3, 5, 6, 7, 8] rfl rfl (fun hok => ?_)
      refine wx_fieldAddr hok 0 rfl rfl rfl (freshS_eq rfl) rfl rfl rfl tF_44_0 ?_
      refine wx_loadH hok 1 1 0 rfl rfl rfl (freshS_eq rfl) rfl rfl rfl rfl (cs := [_]) rfl tS_24 tA_24 rfl rfl ?_
      refine wx_fieldAddr hok 2 rfl rfl rfl (freshS_eq rfl) rfl rfl rfl tF_54_1 ?_
      refine wx_loadH hok 3 0 1 rfl rfl rfl (freshS_eq rfl) rfl rfl rfl rfl (cs := [_]) rfl tS_9 tA_9 rfl rfl ?_
      refine wx_fieldAddr hok 5 rfl rfl rfl (freshS_eq rfl) rfl rfl rfl tF_44_1 ?_
      refine wx_loadH hok 6 1 1 rfl rfl rfl (freshS_eq rfl) rfl rfl rfl rfl (cs := [_]) rfl tS_42 tA_42 rfl rfl ?_
      refine wx_fieldAddr hok 7 rfl rfl rfl (freshS_eq rfl) rfl rfl rfl tF_54_1 ?_
      refine wx_loadH hok 8 0 1 rfl rfl rfl (freshS_eq rfl) rfl rfl rfl rfl (cs := [_]) rfl tS_9 tA_9 rfl rfl ?_
      refine wx_step1 hok 4 rfl rfl rfl rfl ?_
      refine wl_call [2, 3] [0, 1, 4, 5] rfl rfl rfl (freshS_eq rfl) rfl rfl fn_31 rfl (w_disk_Disk_Remove_v3_s N qg0 a0 qb1 e1 a5 _ _ hc76) (fun _ _ hφ => ask [] rfl hφ) rfl (H' := [_,_,_,_]) rfl ?_
      rintro _ _ _ ⟨rfl, rfl, rfl⟩
      refine wl_nil ?_
      refine we_x [0] [2, 3] rfl rfl ?_
      refine wx_step1 hok 9 rfl rfl rfl rfl ?_
      refine wl_call [4, 5] [0, 1, 2, 3] rfl rfl rfl (freshS_eq rfl) rfl rfl fn_56 rfl (w_ropewalkref17_Disk_Remove_s N qg2 a2 qp3 qn4 qc5 l3 a5 _ _ hc81) (fun _ _ hφ => ask [] rfl hφ) rfl (H' := [_,_,_,_]) rfl ?_
      rintro _ _ _ ⟨p81_0, c81_1, c81_2, rfl, rfl, rfl⟩
      refine wl_nil ?_
      refine we_x [0] [4, 5] rfl rfl ?_
      refine wx_step1 hok 10 rfl rfl rfl rfl ?_
      refine wl_pure rfl rfl rfl (freshS_eq rfl) rfl ?_
      refine wl_nil ?_
      refine we_x [0] [4, 5] rfl rfl ?_
      refine wx_step1 hok 11 rfl rfl rfl rfl ?_
      refine wl_pure rfl rfl rfl (freshS_eq rfl) rfl ?_
      refine wl_nil ?_
      refine we_x [0] [] rfl rfl ?_
      refine wx_done hok rfl ?_
      refine we_then ?_
      refine wc_keep [5, 4] (S' := [_,_]) rfl ?_
      refine wc_ret ?_
      refine we_then_ret ?_
      have hE := (Option.some.inj hm).symm
      obtain ⟨hE0, hF1⟩ := Prod.mk.inj hE
      obtain ⟨hE1, hF2⟩ := Prod.mk.inj hF1
      obtain ⟨hE2, hE3⟩ := Prod.mk.inj hF2
      clear hE hF1 hF2
      replace hE0 := hE0.symm
      subst hE0
      replace hE1 := hE1.symm
      subst hE1
      replace hE2 := hE2.symm
      subst hE2
      replace hE3 := hE3.symm
      subst hE3
      refine ret_two (Hr := [_, _, _, _]) [2, 3, 0, 1] Try.results27 (res_tmp rfl) (res_tmp rfl) ⟨p81_0, c81_1, c81_2, rfl, rfl, rfl⟩ (fun _ _ hφ => ask [] rfl hφ) rfl rfl (.inl rfl)
     ·
      replace hm := iteF hm hb71
      refine wc_keep [3, 2] (S' := [_,_]) rfl ?_
      refine wc_skip ?_
      refine we_then ?_
      refine wc_seq ?_
      refine wc_region ?_
      refine wl_fieldAddr rfl rfl rfl (freshS_eq rfl) rfl rfl tF_44_0 ?_
      refine wl_loadH 1 0 rfl rfl rfl (freshS_eq rfl) rfl rfl rfl (cs := [_]) rfl tS_24 tA_24 rfl rfl ?_
      refine wl_fieldAddr rfl rfl rfl (freshS_eq rfl) rfl rfl tF_54_4 ?_
      refine wl_loadH 0 4 rfl rfl rfl (freshS_eq rfl) rfl rfl rfl (cs := [_]) rfl tS_3 tA_3 rfl rfl ?_
      obtain ⟨v86, hc86, hm⟩ := bindO_some hm
      refine wl_call [2, 3] [0, 1, 4, 5] rfl rfl rfl (freshS_eq rfl) rfl rfl fn_13 rfl (w_disk_Disk_Crash_s N qg0 a0 qb1 e1 a8 _ hc86) (fun _ _ hφ => ask [] rfl hφ) rfl (H' := [_,_,_,_]) rfl ?_
      rintro _ _ _ ⟨rfl, rfl, rfl⟩
      refine wl_nil ?_
      refine we_then ?_
      refine wc_keep [3, 2] (S' := [_,_]) rfl ?_
      refine wc_seq ?_
      refine wc_region ?_
      refine wl_fieldAddr rfl rfl rfl (freshS_eq rfl) rfl rfl tF_44_1 ?_
      refine wl_loadH 3 1 rfl rfl rfl (freshS_eq rfl) rfl rfl rfl (cs := [_]) rfl tS_42 tA_42 rfl rfl ?_
      refine wl_fieldAddr rfl rfl rfl (freshS_eq rfl) rfl rfl tF_54_4 ?_
      refine wl_loadH 2 4 rfl rfl rfl (freshS_eq rfl) rfl rfl rfl (cs := [_]) rfl tS_3 tA_3 rfl rfl ?_
      obtain ⟨v91, hc91, hm⟩ := bindO_some hm
      refine wl_call [4, 5] [0, 1, 2, 3] rfl rfl rfl (freshS_eq rfl) rfl rfl fn_57 rfl (w_ropewalkref17_Disk_Crash_s N qg2 a2 qp3 qn4 qc5 l3 a8 _ hc91) (fun _ _ hφ => ask [] rfl hφ) rfl (H' := [_,_,_,_]) rfl ?_
      rintro _ _ _ ⟨p91_0, c91_1, c91_2, rfl, rfl, rfl⟩
      refine wl_nil ?_
      refine we_then ?_
      refine wc_keep [] (S' := []) rfl ?_
      refine wc_seq ?_
      refine wc_region ?_
      refine wl_pure rfl rfl rfl (freshS_eq rfl) rfl ?_
      refine wl_pure rfl rfl rfl (freshS_eq rfl) rfl ?_
      refine wl_nil ?_
      refine we_then ?_
      refine wc_ret ?_
      have hE := (Option.some.inj hm).symm
      obtain ⟨hE0, hF1⟩ := Prod.mk.inj hE
      obtain ⟨hE1, hF2⟩ := Prod.mk.inj hF1
      obtain ⟨hE2, hE3⟩ := Prod.mk.inj hF2
      clear hE hF1 hF2
      replace hE0 := hE0.symm
      subst hE0
      replace hE1 := hE1.symm
      subst hE1
      replace hE2 := hE2.symm
      subst hE2
      replace hE3 := hE3.symm
      subst hE3
      refine ret_two (Hr := [_, _, _, _]) [3, 4, 0, 1] Try.results27 (res_tmp rfl) (res_tmp rfl) ⟨p91_0, c91_1, c91_2, rfl, rfl, rfl⟩ (fun _ _ hφ => ask [] rfl hφ) rfl rfl (.inl rfl)
set_option maxRecDepth 100000 in
set_option maxHeartbeats 4000000 in
theorem w_ropewalkref17_Disk_List_s (N : Nat) (qg0 : Nat) (a0 : Int) (qp1 : Option Addr) (qn2 : Nat) (qc3 : Nat) (l1 : List Ropewalkref17_entryD) (o2 : List ByteArray) (hm : m_ropewalkref17_Disk_List N a0 l1 = some o2) : Spec Try.prog 50 [.pointer (some ⟨qg0, 0, none⟩)] [] [.blk qg0 [.int .i64 a0, .slice qp1 qn2 qc3] 85, .own 87 3 R_Ropewalkref17_entryD (.slice qp1 qn2 qc3) l1] (fun v Φr Hr => ∃ (o0 : Option Addr) (o1 : Nat) (o3 : Nat), v = .slice o0 o3 o1 ∧ Φr = [] ∧ Hr = [.own 9 1 R_str (.slice o0 o3 o1) o2, .blk qg0 [.int .i64 a0, .slice qp1 qn2 qc3] 85, .own 87 3 R_Ropewalkref17_entryD (.slice qp1 qn2 qc3) l1]) := by
 unfold m_ropewalkref17_Disk_List at hm
 refine spec_of Try.func50 rfl Try.ntmps50 rfl (S := [_]) rfl (fun C => ?_)
 refine wc_seq ?_
 refine wc_region ?_
 refine wl_pure rfl rfl rfl (freshS_eq rfl) rfl ?_
 refine wl_nil ?_
 refine we_then ?_
 refine wc_keep [0] (S' := [_]) rfl ?_
 refine wc_seq ?_
 refine wc_region ?_
 refine wl_pure rfl rfl rfl (freshS_eq rfl) rfl ?_
 refine wl_nil ?_
 refine we_then ?_
 refine wc_seq ?_
 obtain ⟨bj_1, hm, hLj_1⟩ := bindO_some hm
 refine wc_cut (σ := (List ByteArray) × (Option Addr) × Nat × Nat) (fun (j_1_3_l, j_1_3_p, j_1_3_c, j_1_3_n) => bj_1 = j_1_3_l) (fun (j_1_3_l, j_1_3_p, j_1_3_c, j_1_3_n) => [(3, .slice j_1_3_p j_1_3_n j_1_3_c)]) (fun (j_1_3_l, j_1_3_p, j_1_3_c, j_1_3_n) => []) (fun (j_1_3_l, j_1_3_p, j_1_3_c, j_1_3_n) => [.own 9 1 R_str (.slice j_1_3_p j_1_3_n j_1_3_c) j_1_3_l, .blk qg0 [.int .i64 a0, .slice qp1 qn2 qc3] 85, .own 87 3 R_Ropewalkref17_entryD (.slice qp1 qn2 qc3) l1]) ?_ ?_
 ·
  refine wc_block ?_
  refine wc_rowNil 9 1 R_str ?_
  refine wc_loop (σ := Nat × (List ByteArray) × (Option Addr) × Nat × Nat) (fun (nu1, u1_3_l, u1_3_p, u1_3_c, u1_3_n) => iter (m_ropewalkref17_Disk_List_L1 N l1) nu1 u1_3_l = some bj_1) (fun (nu1, u1_3_l, u1_3_p, u1_3_c, u1_3_n) => nu1) (fun (nu1, u1_3_l, u1_3_p, u1_3_c, u1_3_n) => [(3, .slice u1_3_p u1_3_n u1_3_c), (0, .pointer (some ⟨qg0, 0, none⟩))]) (fun (nu1, u1_3_l, u1_3_p, u1_3_c, u1_3_n) => []) (fun (nu1, u1_3_l, u1_3_p, u1_3_c, u1_3_n) => [.own 9 1 R_str (.slice u1_3_p u1_3_n u1_3_c) u1_3_l, .blk qg0 [.int .i64 a0, .slice qp1 qn2 qc3] 85, .own 87 3 R_Ropewalkref17_entryD (.slice qp1 qn2 qc3) l1]) (N, [], none, 0, 0) hm [3, 0] rfl (fun _ _ hφ => ask [] rfl hφ) rfl (fun s_ hm => ?_)
  obtain ⟨nu1, u1_3_l, u1_3_p, u1_3_c, u1_3_n⟩ := s_
  try dsimp only at hm ⊢
  obtain ⟨mu1, bu1, hnu1, hq, hLu1⟩ := iter_some hm
  clear hm
  subst hnu1
  replace hm := hq
  clear hq
  unfold m_ropewalkref17_Disk_List_L1 at hm
  try dsimp only at hm
  refine wc_seq ?_
  refine wc_seq ?_
  refine wc_region ?_
  refine wl_pure rfl rfl rfl (freshS_eq rfl) rfl ?_
  refine wl_ownLen 0 rfl (fun hl9 _ => ?_)
  refine wl_len rfl rfl rfl (freshS_eq rfl) rfl rfl tE_26 ?_
  refine wl_as (d := 9) (v' := .int .i64 ((u1_3_l.length : Nat) : Int)) (S' := [_,_,_]) rfl rfl (len_is hl9) ?_
  refine wl_pure rfl rfl rfl (freshS_eq rfl) rfl ?_
  refine wl_pure rfl rfl rfl (freshS_eq rfl) rfl ?_
  refine wl_fieldAddr rfl rfl rfl (freshS_eq rfl) rfl rfl tF_85_1 ?_
  refine wl_loadH 1 1 rfl rfl rfl (freshS_eq rfl) rfl rfl rfl (cs := [_]) rfl tS_83 tA_83 rfl rfl ?_
  refine wl_ownLen 2 rfl (fun hl14 _ => ?_)
  refine wl_len rfl rfl rfl (freshS_eq rfl) rfl rfl tE_83 ?_
  refine wl_as (d := 14) (v' := .int .i64 ((l1.length : Nat) : Int)) (S' := [_,_,_,_,_,_,_,_]) rfl rfl (len_is hl14) ?_
  refine wl_pure rfl rfl rfl (freshS_eq rfl) rfl ?_
  refine wl_as (d := 15) (v' := .bool (decide (u1_3_l.length < l1.length))) (S' := [_,_,_,_,_,_,_,_,_]) rfl rfl (natlt (a := u1_3_l.length) (b := l1.length)) ?_
  refine wl_nil ?_
  refine we_then ?_
  refine wc_keep [15, 3, 0] (S' := [_,_,_]) rfl ?_
  refine wc_cond rfl (fun hb15 => ?_) (fun hb15 => ?_)
  ·
   replace hm := iteT hm hb15
   refine wc_keep [3, 0] (S' := [_,_]) rfl ?_
   refine wc_skip ?_
   refine we_then ?_
   refine wc_block ?_
   refine wc_seq ?_
   refine wc_region ?_
   refine wl_pure rfl rfl rfl (freshS_eq rfl) rfl ?_
   refine wl_nil ?_
   refine we_then ?_
   refine wc_seq ?_
   obtain ⟨bj_2, hm, hLj_2⟩ := bindO_some hm
   refine wc_cut (σ := ByteArray) (fun j_2_4 => bj_2 = j_2_4) (fun j_2_4 => [(3, .slice u1_3_p u1_3_n u1_3_c), (0, .pointer (some ⟨qg0, 0, none⟩)), (4, .string j_2_4)]) (fun j_2_4 => []) (fun j_2_4 => [.own 9 1 R_str (.slice u1_3_p u1_3_n u1_3_c) u1_3_l, .blk qg0 [.int .i64 a0, .slice qp1 qn2 qc3] 85, .own 87 3 R_Ropewalkref17_entryD (.slice qp1 qn2 qc3) l1]) ?_ ?_
   ·
    refine wc_seq ?_
    refine wc_region ?_
    refine wl_pure rfl rfl rfl (freshS_eq rfl) rfl ?_
    refine wl_pure rfl rfl rfl (freshS_eq rfl) rfl ?_
    refine wl_fieldAddr rfl rfl rfl (freshS_eq rfl) rfl rfl tF_85_1 ?_
    refine wl_loadH 1 1 rfl rfl rfl (freshS_eq rfl) rfl rfl rfl (cs := [_]) rfl tS_83 tA_83 rfl rfl ?_
    refine wl_ownLen 2 rfl (fun hl20 _ => ?_)
    refine wl_len rfl rfl rfl (freshS_eq rfl) rfl rfl tE_83 ?_
    refine wl_as (d := 20) (v' := .int .i64 ((l1.length : Nat) : Int)) (S' := [_,_,_,_,_,_,_]) rfl rfl (len_is hl20) ?_
    refine wl_pure rfl rfl rfl (freshS_eq rfl) rfl ?_
    refine wl_nil ?_
    refine we_then ?_
    refine wc_keep [21, 20, 19, 4, 3, 0] (S' := [_,_,_,_,_,_]) rfl ?_
    refine wc_block ?_
    refine wc_pick [2, 0, 1] rfl (H' := [_,_,_]) rfl ?_
    refine wc_loop (σ := Nat × Nat × ByteArray) (fun (nu2, u2_21, u2_4) => iter (m_ropewalkref17_Disk_List_L2 N l1 u1_3_l) nu2 (u2_21, u2_4) = some bj_2) (fun (nu2, u2_21, u2_4) => nu2) (fun (nu2, u2_21, u2_4) => [(21, .int .i64 ((u2_21 : Nat) : Int)), (20, .int .i64 ((l1.length : Nat) : Int)), (19, .slice qp1 qn2 qc3), (4, .string u2_4), (3, .slice u1_3_p u1_3_n u1_3_c), (0, .pointer (some ⟨qg0, 0, none⟩))]) (fun (nu2, u2_21, u2_4) => []) (fun (nu2, u2_21, u2_4) => [.own 87 3 R_Ropewalkref17_entryD (.slice qp1 qn2 qc3) l1, .own 9 1 R_str (.slice u1_3_p u1_3_n u1_3_c) u1_3_l, .blk qg0 [.int .i64 a0, .slice qp1 qn2 qc3] 85]) (N, 0, (⟨#[]⟩ : ByteArray)) hm [21, 20, 19, 4, 3, 0] rfl (fun _ _ hφ => ask [] rfl hφ) rfl (fun s_ hm => ?_)
    obtain ⟨nu2, u2_21, u2_4⟩ := s_
    try dsimp only at hm ⊢
    obtain ⟨mu2, bu2, hnu2, hq, hLu2⟩ := iter_some hm
    clear hm
    subst hnu2
    replace hm := hq
    clear hq
    unfold m_ropewalkref17_Disk_List_L2 at hm
    try dsimp only at hm
    refine wc_seq ?_
    refine wc_region ?_
    refine wl_pure rfl rfl rfl (freshS_eq rfl) rfl ?_
    refine wl_as (d := 22) (v' := .bool (decide (u2_21 < l1.length))) (S' := [_,_,_,_,_,_]) rfl rfl (natlt (a := u2_21) (b := l1.length)) ?_
    refine wl_nil ?_
    refine we_then ?_
    refine wc_seq ?_
    refine wc_cond rfl (fun hb22 => ?_) (fun hb22 => ?_)
    ·
     replace hm := iteT hm hb22
     refine wc_keep [21, 20, 19, 4, 3, 0] (S' := [_,_,_,_,_,_]) rfl ?_
     refine wc_skip ?_
     refine we_then ?_
     refine wc_seq ?_
     obtain ⟨bj_3, hm, hLj_3⟩ := bindO_some hm
     unfold m_ropewalkref17_Disk_List_C3 at hm
     refine wc_cut (σ := ByteArray) (fun j_3_4 => bj_3 = j_3_4) (fun j_3_4 => [(21, .int .i64 ((u2_21 : Nat) : Int)), (20, .int .i64 ((l1.length : Nat) : Int)), (19, .slice qp1 qn2 qc3), (4, .string j_3_4), (3, .slice u1_3_p u1_3_n u1_3_c), (0, .pointer (some ⟨qg0, 0, none⟩))]) (fun j_3_4 => []) (fun j_3_4 => [.own 87 3 R_Ropewalkref17_entryD (.slice qp1 qn2 qc3) l1, .own 9 1 R_str (.slice u1_3_p u1_3_n u1_3_c) u1_3_l, .blk qg0 [.int .i64 a0, .slice qp1 qn2 qc3] 85]) ?_ ?_
     ·
      refine wc_block ?_
      refine wc_seq ?_
      refine wc_region ?_
      obtain ⟨x23, hx23, hm⟩ := bindO_some hm
      refine wl_indexH 0 u2_21 rfl rfl rfl (freshS_eq rfl) rfl rfl rfl rfl rfl (get_lt hx23) tE_83 tS_87 (fun g23 eg23 => ?_)
      subst eg23
      refine wl_loadRow R_Ropewalkref17_entryD_opens 0 u2_21 0 rfl rfl rfl (freshS_eq rfl) rfl rfl rfl hx23 tS_87 tA_87 (v := fun _ => .agg #[.string x23.name, .string x23.firm, .string x23.loose]) (fun _ => rfl) (fun _ => rfl) (fun _ _ => ?_)
      refine wl_alloc rfl rfl rfl (freshS_eq rfl) rfl tZ_87 rfl (fun g6 => ?_)
      refine wl_store 0 0 rfl rfl rfl rfl rfl rfl rfl tS_87 rfl rfl rfl (all' := [_,_,_]) rfl (H' := [_,_,_,_]) rfl ?_
      refine wl_nil ?_
      refine we_then ?_
      refine wc_keep [6, 21, 20, 19, 4, 3, 0] (S' := [_,_,_,_,_,_,_]) rfl ?_
      refine wc_seq ?_
      obtain ⟨bj_4, hm, hLj_4⟩ := bindO_some hm
      refine wc_cut (σ := Bool) (fun j_4_7 => bj_4 = j_4_7) (fun j_4_7 => [(6, .pointer (some ⟨g6, 0, none⟩)), (21, .int .i64 ((u2_21 : Nat) : Int)), (20, .int .i64 ((l1.length : Nat) : Int)), (19, .slice (some ⟨g23, 0, none⟩) qn2 qc3), (4, .string u2_4), (3, .slice u1_3_p u1_3_n u1_3_c), (0, .pointer (some ⟨qg0, 0, none⟩)), (7, .bool j_4_7)]) (fun j_4_7 => []) (fun j_4_7 => [.blk g6 [.string x23.name, .string x23.firm, .string x23.loose] 87, .own 87 3 R_Ropewalkref17_entryD (.slice (some ⟨g23, 0, none⟩) qn2 qc3) l1, .own 9 1 R_str (.slice u1_3_p u1_3_n u1_3_c) u1_3_l, .blk qg0 [.int .i64 a0, .slice (some ⟨g23, 0, none⟩) qn2 qc3] 85]) ?_ ?_
      ·
       rcases ite_some hm with ⟨hs28, hm⟩ | ⟨hs28, hm⟩
       ·
        refine wc_draw [0, 1, 2, 3, 4, 5, 6, 7, 8, 9, 10, 11, 12, 13] rfl rfl (fun hok => ?_)
        refine wx_pure hok 0 rfl rfl rfl (freshS_eq rfl) rfl rfl ?_
        refine wx_ownLen 2 rfl (fun hl26 _ => ?_)
        refine wx_len hok 1 rfl rfl rfl (freshS_eq rfl) rfl rfl rfl tE_26 ?_
        refine wx_as (d := 26) (v' := .int .i64 ((u1_3_l.length : Nat) : Int)) (S' := [_,_,_,_,_,_,_,_]) rfl rfl (len_is hl26) ?_
        refine wx_pure hok 2 rfl rfl rfl (freshS_eq rfl) rfl rfl ?_
        refine wx_as (d := 27) (v' := .bool (u1_3_l.length == 0)) (S' := [_,_,_,_,_,_,_,_,_]) rfl rfl (nateq (a := u1_3_l.length) (b := 0)) ?_
        refine wx_pure hok 3 rfl rfl rfl (freshS_eq rfl) rfl rfl ?_
        refine wx_as (d := 28) (v' := .bool true) (S' := [_,_,_,_,_,_,_,_,_,_]) rfl rfl (bool_is hs28) ?_
        refine wx_off hok 4 rfl rfl rfl (freshS_eq rfl) rfl ?_
        refine wx_off hok 5 rfl rfl rfl (freshS_eq rfl) rfl ?_
        refine wx_off hok 6 rfl rfl rfl (freshS_eq rfl) rfl ?_
        refine wx_off hok 7 rfl rfl rfl (freshS_eq rfl) rfl ?_
        refine wx_off hok 8 rfl rfl rfl (freshS_eq rfl) rfl ?_
        refine wx_off hok 9 rfl rfl rfl (freshS_eq rfl) rfl ?_
        refine wx_off hok 10 rfl rfl rfl (freshS_eq rfl) rfl ?_
        refine wx_off hok 11 rfl rfl rfl (freshS_eq rfl) rfl ?_
        refine wx_off hok 12 rfl rfl rfl (freshS_eq rfl) rfl ?_
        refine wx_pure hok 13 rfl rfl rfl (freshS_eq rfl) rfl rfl ?_
        refine wx_step1 hok 14 rfl rfl rfl rfl ?_
        refine wl_pure rfl rfl rfl (freshS_eq rfl) rfl ?_
        refine wl_nil ?_
        refine we_x [] [] rfl rfl ?_
        refine wx_done hok rfl ?_
        have hE := (Option.some.inj hm).symm
        refine we_join true hE [6, 21, 20, 19, 4, 3, 0, 7] rfl (fun _ _ hφ => ask [] rfl hφ) rfl
       ·
        obtain ⟨hg34, hm⟩ := gd_some hm
        obtain ⟨hn35, hm⟩ := gd_some hm
        obtain ⟨x35, hx35, hm⟩ := bindO_some hm
        refine wc_draw [0, 1, 2, 3, 4, 5, 6, 7, 8, 9, 10, 11, 12, 13] rfl rfl (fun hok => ?_)
        refine wx_pure hok 0 rfl rfl rfl (freshS_eq rfl) rfl rfl ?_
        refine wx_ownLen 2 rfl (fun hl26 _ => ?_)
        refine wx_len hok 1 rfl rfl rfl (freshS_eq rfl) rfl rfl rfl tE_26 ?_
        refine wx_as (d := 26) (v' := .int .i64 ((u1_3_l.length : Nat) : Int)) (S' := [_,_,_,_,_,_,_,_]) rfl rfl (len_is hl26) ?_
        refine wx_pure hok 2 rfl rfl rfl (freshS_eq rfl) rfl rfl ?_
        refine wx_as (d := 27) (v' := .bool (u1_3_l.length == 0)) (S' := [_,_,_,_,_,_,_,_,_]) rfl rfl (nateq (a := u1_3_l.length) (b := 0)) ?_
        refine wx_pure hok 3 rfl rfl rfl (freshS_eq rfl) rfl rfl ?_
        refine wx_as (d := 28) (v' := .bool false) (S' := [_,_,_,_,_,_,_,_,_,_]) rfl rfl (bool_is hs28) ?_
        refine wx_fieldAddr hok 4 rfl rfl rfl (freshS_eq rfl) rfl rfl rfl tF_87_0 ?_
        refine wx_loadH hok 5 0 0 rfl rfl rfl (freshS_eq rfl) rfl rfl rfl rfl (cs := [_]) rfl tS_9 tA_9 rfl rfl ?_
        refine wx_pure hok 6 rfl rfl rfl (freshS_eq rfl) rfl rfl ?_
        refine wx_pure hok 7 rfl rfl rfl (freshS_eq rfl) rfl rfl ?_
        refine wx_ownLen 2 rfl (fun hl33 _ => ?_)
        refine wx_len hok 8 rfl rfl rfl (freshS_eq rfl) rfl rfl rfl tE_26 ?_
        refine wx_as (d := 33) (v' := .int .i64 ((u1_3_l.length : Nat) : Int)) (S' := [_,_,_,_,_,_,_,_,_,_,_,_,_,_,_]) rfl rfl (len_is hl33) ?_
        refine wx_pure hok 9 rfl rfl rfl (freshS_eq rfl) rfl rfl ?_
        refine wx_as (d := 34) (v' := .int .i64 (((u1_3_l.length : Nat) : Int) - 1)) (S' := [_,_,_,_,_,_,_,_,_,_,_,_,_,_,_,_]) rfl rfl (i64_in hg34) ?_
        refine wx_indexH hok 10 2 ((((u1_3_l.length : Nat) : Int) - 1).toNat) rfl rfl rfl (freshS_eq rfl) rfl rfl rfl rfl rfl (toNat_eq hn35) (get_lt hx35) tE_26 tS_9 (fun g35 eg35 => ?_)
        subst eg35
        refine wx_loadRow hok 11 R_str_opens 2 ((((u1_3_l.length : Nat) : Int) - 1).toNat) 0 rfl rfl rfl (freshS_eq rfl) rfl rfl rfl rfl hx35 tS_9 tA_9 (v := .string x35) rfl rfl (fun _ => ?_)
        refine wx_bin hok 12 rfl rfl rfl (freshS_eq rfl) rfl rfl rfl rfl run_strGtr ?_
        refine wx_pure hok 13 rfl rfl rfl (freshS_eq rfl) rfl rfl ?_
        refine wx_step1 hok 14 rfl rfl rfl rfl ?_
        refine wl_pure rfl rfl rfl (freshS_eq rfl) rfl ?_
        refine wl_nil ?_
        refine we_x [] [] rfl rfl ?_
        refine wx_done hok rfl ?_
        have hE := (Option.some.inj hm).symm
        refine we_join (!(Op.bytesLess x23.name.toList x35.toList || x23.name.toList == x35.toList)) hE [6, 21, 20, 19, 4, 3, 0, 7] rfl (fun _ _ hφ => ask [] rfl hφ) rfl
      ·
       rintro j_4_7 hE
       try dsimp only
       have hm := hLj_4
       rw [hE] at hm
       refine wc_seq ?_
       obtain ⟨bj_5, hm, hLj_5⟩ := bindO_some hm
       refine wc_cut (σ := Bool) (fun j_5_49 => bj_5 = j_5_49) (fun j_5_49 => [(6, .pointer (some ⟨g6, 0, none⟩)), (21, .int .i64 ((u2_21 : Nat) : Int)), (20, .int .i64 ((l1.length : Nat) : Int)), (19, .slice (some ⟨g23, 0, none⟩) qn2 qc3), (4, .string u2_4), (3, .slice u1_3_p u1_3_n u1_3_c), (0, .pointer (some ⟨qg0, 0, none⟩)), (49, .bool j_5_49)]) (fun j_5_49 => []) (fun j_5_49 => [.blk g6 [.string x23.name, .string x23.firm, .string x23.loose] 87, .own 87 3 R_Ropewalkref17_entryD (.slice (some ⟨g23, 0, none⟩) qn2 qc3) l1, .own 9 1 R_str (.slice u1_3_p u1_3_n u1_3_c) u1_3_l, .blk qg0 [.int .i64 a0, .slice (some ⟨g23, 0, none⟩) qn2 qc3] 85]) ?_ ?_
       ·
        refine wc_region ?_
        refine wl_pure rfl rfl rfl (freshS_eq rfl) rfl ?_
        refine wl_pure rfl rfl rfl (freshS_eq rfl) rfl ?_
        refine wl_split (d := 40) (S' := [_,_,_,_,_,_,_,_,_]) rfl rfl (fun hs40 => ?_) (fun hs40 => ?_)
        ·
         replace hm := iteT hm hs40
         refine wl_pure rfl rfl rfl (freshS_eq rfl) rfl ?_
         refine wl_pure rfl rfl rfl (freshS_eq rfl) rfl ?_
         refine wl_pure rfl rfl rfl (freshS_eq rfl) rfl ?_
         refine wl_split (d := 43) (S' := [_,_,_,_,_,_,_,_,_,_,_,_]) rfl rfl (fun hs43 => ?_) (fun hs43 => ?_)
         ·
          replace hm := iteT hm hs43
          refine wl_off rfl rfl rfl (freshS_eq rfl) ?_
          refine wl_off rfl rfl rfl (freshS_eq rfl) ?_
          refine wl_off rfl rfl rfl (freshS_eq rfl) ?_
          refine wl_off rfl rfl rfl (freshS_eq rfl) ?_
          refine wl_pure rfl rfl rfl (freshS_eq rfl) rfl ?_
          refine wl_pure rfl rfl rfl (freshS_eq rfl) rfl ?_
          refine wl_nil ?_
          have hE := (Option.some.inj hm).symm
          refine we_join true hE [6, 21, 20, 19, 4, 3, 0, 49] rfl (fun _ _ hφ => ask [] rfl hφ) rfl
         ·
          replace hm := iteF hm hs43
          refine wl_fieldAddr rfl rfl rfl (freshS_eq rfl) rfl rfl tF_87_0 ?_
          refine wl_loadH 0 0 rfl rfl rfl (freshS_eq rfl) rfl rfl rfl (cs := [_]) rfl tS_9 tA_9 rfl rfl ?_
          refine wl_pure rfl rfl rfl (freshS_eq rfl) rfl ?_
          refine wl_bin rfl rfl rfl (freshS_eq rfl) rfl rfl rfl run_strLss ?_
          refine wl_pure rfl rfl rfl (freshS_eq rfl) rfl ?_
          refine wl_pure rfl rfl rfl (freshS_eq rfl) rfl ?_
          refine wl_nil ?_
          have hE := (Option.some.inj hm).symm
          refine we_join (Op.bytesLess x23.name.toList u2_4.toList) hE [6, 21, 20, 19, 4, 3, 0, 49] rfl (fun _ _ hφ => ask [] rfl hφ) rfl
        ·
         replace hm := iteF hm hs40
         refine wl_off rfl rfl rfl (freshS_eq rfl) ?_
         refine wl_off rfl rfl rfl (freshS_eq rfl) ?_
         refine wl_off rfl rfl rfl (freshS_eq rfl) ?_
         refine wl_off rfl rfl rfl (freshS_eq rfl) ?_
         refine wl_off rfl rfl rfl (freshS_eq rfl) ?_
         refine wl_off rfl rfl rfl (freshS_eq rfl) ?_
         refine wl_off rfl rfl rfl (freshS_eq rfl) ?_
         refine wl_off rfl rfl rfl (freshS_eq rfl) ?_
         refine wl_pure rfl rfl rfl (freshS_eq rfl) rfl ?_
         refine wl_nil ?_
         have hE := (Option.some.inj hm).symm
         refine we_join false hE [6, 21, 20, 19, 4, 3, 0, 49] rfl (fun _ _ hφ => ask [] rfl hφ) rfl
       ·
        rintro j_5_49 hE
        try dsimp only
        have hm := hLj_5
        rw [hE] at hm
        refine wc_cond rfl (fun hb49 => ?_) (fun hb49 => ?_)
        ·
         replace hm := iteT hm hb49
         refine wc_keep [6, 21, 20, 19, 3, 0] (S' := [_,_,_,_,_,_]) rfl ?_
         refine wc_region ?_
         refine wl_fieldAddr rfl rfl rfl (freshS_eq rfl) rfl rfl tF_87_0 ?_
         refine wl_loadH 0 0 rfl rfl rfl (freshS_eq rfl) rfl rfl rfl (cs := [_]) rfl tS_9 tA_9 rfl rfl ?_
         refine wl_pure rfl rfl rfl (freshS_eq rfl) rfl ?_
         refine wl_nil ?_
         refine we_block_normal ?_
         have hE := (Option.some.inj hm).symm
         refine we_pick [1, 2, 3] rfl (H' := [_,_,_]) rfl ?_
         refine we_join x23.name hE [21, 20, 19, 4, 3, 0] rfl (fun _ _ hφ => ask [] rfl hφ) rfl
        ·
         replace hm := iteF hm hb49
         refine wc_keep [21, 20, 19, 4, 3, 0] (S' := [_,_,_,_,_,_]) rfl ?_
         refine wc_skip ?_
         refine we_block_normal ?_
         have hE := (Option.some.inj hm).symm
         refine we_pick [1, 2, 3] rfl (H' := [_,_,_]) rfl ?_
         refine we_join u2_4 hE [21, 20, 19, 4, 3, 0] rfl (fun _ _ hφ => ask [] rfl hφ) rfl
     ·
      rintro j_3_4 hE
      try dsimp only
      have hm := hLj_3
      rw [hE] at hm
      refine wc_region ?_
      refine wl_pure rfl rfl rfl (freshS_eq rfl) rfl ?_
      obtain ⟨hg52, hm⟩ := gd_some hm
      refine wl_as (d := 52) (v' := .int .i64 ((u2_21 + 1 : Nat) : Int)) (S' := [_,_,_,_,_,_]) rfl rfl (nat_add (a := u2_21) (b := 1) hg52) ?_
      refine wl_pure (S' := [_,_,_,_,_,_]) rfl rfl rfl rfl rfl ?_
      refine wl_nil ?_
      have hE := (Option.some.inj hm).symm
      replace hE := link_inl hLu2 hE
      refine we_roundK (_, u2_21 + 1, j_3_4) (Nat.lt_succ_self _) hE [21, 20, 19, 4, 3, 0] rfl (fun _ _ hφ => ask [] rfl hφ) rfl
    ·
     replace hm := iteF hm hb22
     refine wc_keep [4, 3, 0] (S' := [_,_,_]) rfl ?_
     refine wc_exit ?_
     refine we_then_exit ?_
     refine we_then_exit ?_
     refine we_block_hit ?_
     have hE := (Option.some.inj hm).symm
     replace hE := link_inr hLu2 hE
     refine we_pick [1, 2, 0] rfl (H' := [_,_,_]) rfl ?_
     refine we_join u2_4 hE [3, 0, 4] rfl (fun _ _ hφ => ask [] rfl hφ) rfl
   ·
    rintro j_2_4 hE
    try dsimp only
    have hm := hLj_2
    rw [hE] at hm
    refine wc_region ?_
    refine wl_pure rfl rfl rfl (freshS_eq rfl) rfl ?_
    refine wl_pure rfl rfl rfl (freshS_eq rfl) rfl ?_
    refine wl_buildSlice rfl rfl rfl (freshS_eq rfl) rfl tE_26 tS_9 tZ_9 rfl (zs := [.string ((⟨#[]⟩ : ByteArray))]) (by kernel_rfl) rfl (out := [_]) rfl (fun g55 => ?_)
    obtain ⟨hg56, hm⟩ := gd_some hm
    refine wl_appendH [j_2_4] 1 0 rfl rfl rfl (freshS_eq rfl) rfl rfl rfl rfl rfl (fun F w hφ => ⟨[.string j_2_4], [], rfl, rfl, ⟨(), rfl, ask_nil⟩, rfl⟩) tE_26 tR_9 rfl rfl (Nat.le_trans hg56 (by decide)) (Nat.le_trans (Nat.mul_le_mul_right _ hg56) (by decide)) (H2 := fun p56 c56 => [.blk g55 [.string j_2_4] 9, .own 9 1 R_str (.slice p56 ((u1_3_l ++ [j_2_4]).length) c56) (u1_3_l ++ [j_2_4]), .blk qg0 [.int .i64 a0, .slice qp1 qn2 qc3] 85, .own 87 3 R_Ropewalkref17_entryD (.slice qp1 qn2 qc3) l1]) (fun _ _ => rfl) (fun p56 c56 => ?_)
    refine wl_drop 0 rfl (H' := [_,_,_]) rfl ?_
    refine wl_pure (S' := [_,_,_,_,_,_]) rfl rfl rfl rfl rfl ?_
    refine wl_nil ?_
    refine we_block_normal ?_
    have hE := (Option.some.inj hm).symm
    replace hE := link_inl hLu1 hE
    refine we_roundK (_, u1_3_l ++ [j_2_4], p56, c56, (u1_3_l ++ [j_2_4]).length) (Nat.lt_succ_self _) hE [3, 0] rfl (fun _ _ hφ => ask [] rfl hφ) rfl
  ·
   replace hm := iteF hm hb15
   refine wc_keep [3] (S' := [_]) rfl ?_
   refine wc_exit ?_
   refine we_then_exit ?_
   refine we_then_exit ?_
   refine we_block_hit ?_
   have hE := (Option.some.inj hm).symm
   replace hE := link_inr hLu1 hE
   refine we_join (u1_3_l, u1_3_p, u1_3_c, u1_3_n) hE [3] rfl (fun _ _ hφ => ask [] rfl hφ) rfl
 ·
  rintro ⟨j_1_3_l, j_1_3_p, j_1_3_c, j_1_3_n⟩ hE
  try dsimp only
  have hm := hLj_1
  rw [hE] at hm
  refine wc_seq ?_
  refine wc_region ?_
  refine wl_pure rfl rfl rfl (freshS_eq rfl) rfl ?_
  refine wl_pure rfl rfl rfl (freshS_eq rfl) rfl ?_
  refine wl_nil ?_
  refine we_then ?_
  refine wc_keep [2] (S' := [_]) rfl ?_
  refine wc_ret ?_
  have hE := (Option.some.inj hm).symm
  replace hE := hE.symm
  subst hE
  refine ret_one (Hr := [_, _, _]) [0, 1, 2] Try.results50 (res_tmp rfl) ⟨j_1_3_p, j_1_3_c, j_1_3_n, rfl, rfl, rfl⟩ (fun _ _ hφ => ask [] rfl hφ) rfl rfl (.inl rfl)
set_option maxRecDepth 100000 in
set_option maxHeartbeats 4000000 in
theorem w_ropewalkref17_Disk_Read_s (N : Nat) (qg0 : Nat) (a0 : Int) (qp1 : Option Addr) (qn2 : Nat) (qc3 : Nat) (l1 : List Ropewalkref17_entryD) (a2 : ByteArray) (o2 : List Int) (o3 : Nat) (hm : m_ropewalkref17_Disk_Read N a0 l1 a2 = some (o2, o3)) : Spec Try.prog 73 [.pointer (some ⟨qg0, 0, none⟩), .string a2] [] [.blk qg0 [.int .i64 a0, .slice qp1 qn2 qc3] 85, .own 87 3 R_Ropewalkref17_entryD (.slice qp1 qn2 qc3) l1] (fun v Φr Hr => ∃ (o0 : Option Addr) (o1 : Nat), v = .tuple #[.slice o0 o2.length o1, .int .i64 ((o3 : Nat) : Int)] ∧ Φr = [.sli 1 R_u8 o0 o1 o2] ∧ Hr = [.blk qg0 [.int .i64 a0, .slice qp1 qn2 qc3] 85, .own 87 3 R_Ropewalkref17_entryD (.slice qp1 qn2 qc3) l1]) := by
 unfold m_ropewalkref17_Disk_Read at hm
 refine spec_of Try.func73 rfl Try.ntmps73 rfl (S := [_,_]) rfl (fun C => ?_)
 refine wc_seq ?_
 refine wc_region ?_
 refine wl_pure rfl rfl rfl (freshS_eq rfl) rfl ?_
 refine wl_pure rfl rfl rfl (freshS_eq rfl) rfl ?_
 refine wl_nil ?_
 refine we_then ?_
 refine wc_keep [0, 1] (S' := [_,_]) rfl ?_
 refine wc_seq ?_
 refine wc_region ?_
 refine wl_pure rfl rfl rfl (freshS_eq rfl) rfl ?_
 refine wl_pure rfl rfl rfl (freshS_eq rfl) rfl ?_
 obtain ⟨⟨v12_0, v12_1, v12_2, v12_3, v12_4⟩, hc12, hm⟩ := bindO_some hm
 try dsimp only at hm
 refine wl_call [0, 1] [] rfl rfl rfl (freshS_eq rfl) rfl rfl fn_75 rfl (w_ropewalkref17_Disk_split_s N qg0 a0 qp1 qn2 qc3 l1 a2 _ _ _ _ _ hc12) (fun _ _ hφ => ask [] rfl hφ) rfl (H' := []) rfl ?_
 rintro _ _ _ ⟨p12_0, c12_1, c12_2, rfl, rfl, rfl⟩
 refine wl_pure rfl rfl rfl (freshS_eq rfl) rfl ?_
 refine wl_pure rfl rfl rfl (freshS_eq rfl) rfl ?_
 refine wl_pure rfl rfl rfl (freshS_eq rfl) rfl ?_
 refine wl_pure rfl rfl rfl (freshS_eq rfl) rfl ?_
 refine wl_alloc rfl rfl rfl (freshS_eq rfl) rfl tZ_87 rfl (fun g6 => ?_)
 refine wl_store 0 0 rfl rfl rfl rfl rfl rfl rfl tS_87 rfl rfl rfl (all' := [_,_,_]) rfl (H' := [_,_,_,_]) rfl ?_
 refine wl_pure rfl rfl rfl (freshS_eq rfl) rfl ?_
 refine wl_pure rfl rfl rfl (freshS_eq rfl) rfl ?_
 refine wl_nil ?_
 refine we_then ?_
 refine wc_keep [8, 6] (S' := [_,_]) rfl ?_
 refine wc_seq ?_
 refine wc_seq ?_
 refine wc_region ?_
 refine wl_pure rfl rfl rfl (freshS_eq rfl) rfl ?_
 refine wl_nil ?_
 refine we_then ?_
 refine wc_keep [16, 6] (S' := [_,_]) rfl ?_
 refine wc_cond rfl (fun hb16 => ?_) (fun hb16 => ?_)
 ·
  replace hm := iteT hm hb16
  refine wc_keep [6] (S' := [_]) rfl ?_
  refine wc_seq ?_
  refine wc_region ?_
  refine wl_loadH 0 0 rfl rfl rfl (freshS_eq rfl) rfl rfl rfl (cs := [_,_,_]) rfl tS_87 tA_87 rfl rfl ?_
  obtain ⟨_, hc18, hm⟩ := bindO_some hm
  try dsimp only at hm
  refine wl_call [] [0, 1, 2, 3] rfl rfl rfl (freshS_eq rfl) rfl rfl fn_74 rfl (w_ropewalkref17_entry_whole_s N v12_0 v12_1 v12_2 hc18) (fun _ _ hφ => ask [] rfl hφ) rfl (H' := [_,_,_,_]) rfl ?_
  rintro _ _ _ ⟨rfl, rfl, rfl⟩
  obtain ⟨hb19, hm⟩ := gd_some hm
  refine wl_strBytes (R := R_u8) rfl rfl rfl (freshS_eq rfl) rfl rfl tD_9 tD_27 tD_5 hb19 (fun _ _ _ => ⟨(), rfl, fun _ h => by cases h⟩) (fun g19 c19 => ?_)
  refine wl_pure rfl rfl rfl (freshS_eq rfl) rfl ?_
  refine wl_pure rfl rfl rfl (freshS_eq rfl) rfl ?_
  refine wl_nil ?_
  refine we_then ?_
  refine wc_keep [5, 4] (S' := [_,_]) rfl ?_
  refine wc_ret ?_
  refine we_then_ret ?_
  have hE := (Option.some.inj hm).symm
  obtain ⟨hE0, hE1⟩ := Prod.mk.inj hE
  clear hE
  replace hE0 := hE0.symm
  subst hE0
  replace hE1 := hE1.symm
  subst hE1
  refine ret_two (Hr := [_, _]) [2, 3] Try.results73 (res_tmp rfl) (res_tmp rfl) ⟨some ⟨g19, 0, none⟩, c19, rfl, rfl, rfl⟩ (fun _ _ hφ => ask [0] rfl hφ) rfl rfl (.inl rfl)
 ·
  replace hm := iteF hm hb16
  refine wc_keep [] (S' := []) rfl ?_
  refine wc_skip ?_
  refine we_then ?_
  refine wc_seq ?_
  refine wc_region ?_
  refine wl_pure rfl rfl rfl (freshS_eq rfl) rfl ?_
  refine wl_pure rfl rfl rfl (freshS_eq rfl) rfl ?_
  refine wl_nil ?_
  refine we_then ?_
  refine wc_ret ?_
  have hE := (Option.some.inj hm).symm
  obtain ⟨hE0, hE1⟩ := Prod.mk.inj hE
  clear hE
  replace hE0 := hE0.symm
  subst hE0
  replace hE1 := hE1.symm
  subst hE1
  refine we_fact (.sli 1 R_u8 none 0 ([] : List Int)) (fun _ _ _ => sli_none) ?_
  refine ret_two (Hr := [_, _]) [2, 3] Try.results73 (res_tmp rfl) (res_tmp rfl) ⟨none, 0, rfl, rfl, rfl⟩ (fun _ _ hφ => ask [0] rfl hφ) rfl rfl (.inl rfl)
set_option maxRecDepth 100000 in
set_option maxHeartbeats 4000000 in
theorem w_ropewalklaw17_both_file_s (N : Nat) (qg0 : Nat) (a0 : Int) (qb1 : Nat) (e1 : List (ByteArray × Disk_rowsD)) (qg2 : Nat) (a2 : Int) (qp3 : Option Addr) (qn4 : Nat) (qc5 : Nat) (l3 : List Ropewalkref17_entryD) (a4 : ByteArray) (o0 : Bool) (o1 : List (ByteArray × Disk_rowsD)) (hm : m_ropewalklaw17_both_file N a0 e1 a2 l3 a4 = some (o0, o1)) : Spec Try.prog 48 [.agg #[.pointer (some ⟨qg0, 0, none⟩), .pointer (some ⟨qg2, 0, none⟩)], .string a4] [] [.blk qg0 [.int .i64 a0, .map (some qb1)] 59, mapP (keyStr (tStr_run tT_9)) true R_Disk_rowsD qb1 e1, .blk qg2 [.int .i64 a2, .slice qp3 qn4 qc5] 85, .own 87 3 R_Ropewalkref17_entryD (.slice qp3 qn4 qc5) l3] (fun v Φr Hr => v = .bool o0 ∧ Φr = [] ∧ Hr = [.blk qg0 [.int .i64 a0, .map (some qb1)] 59, mapP (keyStr (tStr_run tT_9)) true R_Disk_rowsD qb1 o1, .blk qg2 [.int .i64 a2, .slice qp3 qn4 qc5] 85, .own 87 3 R_Ropewalkref17_entryD (.slice qp3 qn4 qc5) l3]) := by
 unfold m_ropewalklaw17_both_file at hm
 refine spec_of Try.func48 rfl Try.ntmps48 rfl (S := [_,_]) rfl (fun C => ?_)
 refine wc_seq ?_
 refine wc_region ?_
 refine wl_box rfl rfl rfl (freshS_eq rfl) rfl rfl rfl (fun g2 => ?_)
 refine wl_pure rfl rfl rfl (freshS_eq rfl) rfl ?_
 refine wl_nil ?_
 refine we_then ?_
 refine wc_keep [2, 1] (S' := [_,_]) rfl ?_
 refine wc_seq ?_
 refine wc_region ?_
 refine wl_fieldAddr rfl rfl rfl (freshS_eq rfl) rfl rfl tF_44_0 ?_
 refine wl_loadH 0 0 rfl rfl rfl (freshS_eq rfl) rfl rfl rfl (cs := [_]) rfl tS_24 tA_24 rfl rfl ?_
 refine wl_pure rfl rfl rfl (freshS_eq rfl) rfl ?_
 obtain ⟨⟨v13_0, v13_1, v13_2⟩, hc13, hm⟩ := bindO_some hm
 try dsimp only at hm
 refine wl_call [1, 2] [0, 3, 4] rfl rfl rfl (freshS_eq rfl) rfl rfl fn_17 rfl (w_disk_Disk_Read_s N qg0 a0 qb1 e1 a4 _ _ _ hc13) (fun _ _ hφ => ask [] rfl hφ) rfl (H' := [_,_,_]) rfl ?_
 rintro _ _ _ ⟨p13_0, c13_1, c13_2, rfl, rfl, rfl⟩
 refine wl_pure rfl rfl rfl (freshS_eq rfl) rfl ?_
 refine wl_pure rfl rfl rfl (freshS_eq rfl) rfl ?_
 refine wl_pure rfl rfl rfl (freshS_eq rfl) rfl ?_
 refine wl_pure rfl rfl rfl (freshS_eq rfl) rfl ?_
 refine wl_pure rfl rfl rfl (freshS_eq rfl) rfl ?_
 refine wl_nil ?_
 refine we_then ?_
 refine wc_keep [6, 5, 2, 1] (S' := [_,_,_,_]) rfl ?_
 refine wc_seq ?_
 refine wc_region ?_
 refine wl_fieldAddr rfl rfl rfl (freshS_eq rfl) rfl rfl tF_44_1 ?_
 refine wl_loadH 3 1 rfl rfl rfl (freshS_eq rfl) rfl rfl rfl (cs := [_]) rfl tS_42 tA_42 rfl rfl ?_
 refine wl_pure rfl rfl rfl (freshS_eq rfl) rfl ?_
 obtain ⟨⟨v20_0, v20_1⟩, hc20, hm⟩ := bindO_some hm
 try dsimp only at hm
 refine wl_call [4, 5] [0, 1, 2, 3] rfl rfl rfl (freshS_eq rfl) rfl rfl fn_73 rfl (w_ropewalkref17_Disk_Read_s N qg2 a2 qp3 qn4 qc5 l3 a4 _ _ hc20) (fun _ _ hφ => ask [] rfl hφ) rfl (H' := [_,_,_,_]) rfl ?_
 rintro _ _ _ ⟨p20_0, c20_1, rfl, rfl, rfl⟩
 refine wl_pure rfl rfl rfl (freshS_eq rfl) rfl ?_
 refine wl_pure rfl rfl rfl (freshS_eq rfl) rfl ?_
 refine wl_pure rfl rfl rfl (freshS_eq rfl) rfl ?_
 refine wl_pure rfl rfl rfl (freshS_eq rfl) rfl ?_
 refine wl_pure rfl rfl rfl (freshS_eq rfl) rfl ?_
 refine wl_nil ?_
 refine we_then ?_
 refine wc_keep [8, 7, 6, 5] (S' := [_,_,_,_]) rfl ?_
 refine wc_seq ?_
 refine wc_region ?_
 refine wl_pure rfl rfl rfl (freshS_eq rfl) rfl ?_
 refine wl_pure rfl rfl rfl (freshS_eq rfl) rfl ?_
 refine wl_pure rfl rfl rfl (freshS_eq rfl) rfl ?_
 refine wl_as (d := 25) (v' := .bool (v13_1 == v20_1)) (S' := [_,_,_,_,_,_]) rfl rfl (nateq (a := v13_1) (b := v20_1)) ?_
 refine wl_pure rfl rfl rfl (freshS_eq rfl) rfl ?_
 refine wl_split (d := 26) (S' := [_,_,_,_,_,_,_]) rfl rfl (fun hs26 => ?_) (fun hs26 => ?_)
 ·
  replace hm := iteT hm hs26
  refine wl_pure rfl rfl rfl (freshS_eq rfl) rfl ?_
  refine wl_pure rfl rfl rfl (freshS_eq rfl) rfl ?_
  refine wl_ownLen 2 rfl (fun hzc13_2 _ => ?_)
  subst hzc13_2
  obtain ⟨v29, hc29, hm⟩ := bindO_some hm
  refine wl_lend [] [0, 1, 2, 3, 4, 5] [2] rfl rfl rfl (freshS_eq rfl) rfl rfl fn_18 rfl (w_ropewalkkit_SameBytes_s N p13_0 c13_1 v13_0 p20_0 c20_1 v20_0 _ hc29) (fun F w hφ hh => (ask_cons (own_sli (hh _ (mem_at (k := 0) rfl))) (ask_cons (hφ _ (mem_at (k := 0) rfl)) ask_nil))) (fun _ _ _ hR => by obtain ⟨rfl, rfl, rfl⟩ := hR; exact ⟨rfl, (fun _ h => free_nil h)⟩) rfl rfl (H' := [_,_,_,_,_,_]) rfl ?_
  rintro _ _ _ ⟨rfl, rfl, rfl⟩
  refine wl_pure rfl rfl rfl (freshS_eq rfl) rfl ?_
  refine wl_pure rfl rfl rfl (freshS_eq rfl) rfl ?_
  refine wl_nil ?_
  refine we_then ?_
  refine wc_keep [4] (S' := [_]) rfl ?_
  refine wc_ret ?_
  have hE := (Option.some.inj hm).symm
  obtain ⟨hE0, hE1⟩ := Prod.mk.inj hE
  clear hE
  replace hE0 := hE0.symm
  subst hE0
  replace hE1 := hE1.symm
  subst hE1
  refine ret_one (Hr := [_, _, _, _]) [3, 4, 0, 1] Try.results48 (res_tmp rfl) ⟨rfl, rfl, rfl⟩ (fun _ _ hφ => ask [] rfl hφ) rfl rfl (.inl rfl)
 ·
  replace hm := iteF hm hs26
  refine wl_off rfl rfl rfl (freshS_eq rfl) ?_
  refine wl_off rfl rfl rfl (freshS_eq rfl) ?_
  refine wl_off rfl rfl rfl (freshS_eq rfl) ?_
  refine wl_pure rfl rfl rfl (freshS_eq rfl) rfl ?_
  refine wl_pure rfl rfl rfl (freshS_eq rfl) rfl ?_
  refine wl_nil ?_
  refine we_then ?_
  refine wc_keep [4] (S' := [_]) rfl ?_
  refine wc_ret ?_
  have hE := (Option.some.inj hm).symm
  obtain ⟨hE0, hE1⟩ := Prod.mk.inj hE
  clear hE
  replace hE0 := hE0.symm
  subst hE0
  replace hE1 := hE1.symm
  subst hE1
  refine ret_one (Hr := [_, _, _, _]) [3, 4, 0, 1] Try.results48 (res_tmp rfl) ⟨rfl, rfl, rfl⟩ (fun _ _ hφ => ask [] rfl hφ) rfl rfl (.inl rfl)
set_option maxRecDepth 100000 in
set_option maxHeartbeats 4000000 in
theorem w_ropewalklaw17_both_agree_s (N : Nat) (qg0 : Nat) (a0 : Int) (qb1 : Nat) (e1 : List (ByteArray × Disk_rowsD)) (qg2 : Nat) (a2 : Int) (qp3 : Option Addr) (qn4 : Nat) (qc5 : Nat) (l3 : List Ropewalkref17_entryD) (o0 : Bool) (o1 : List (ByteArray × Disk_rowsD)) (hm : m_ropewalklaw17_both_agree N a0 e1 a2 l3 = some (o0, o1)) : Spec Try.prog 26 [.agg #[.pointer (some ⟨qg0, 0, none⟩), .pointer (some ⟨qg2, 0, none⟩)]] [] [.blk qg0 [.int .i64 a0, .map (some qb1)] 59, mapP (keyStr (tStr_run tT_9)) true R_Disk_rowsD qb1 e1, .blk qg2 [.int .i64 a2, .slice qp3 qn4 qc5] 85, .own 87 3 R_Ropewalkref17_entryD (.slice qp3 qn4 qc5) l3] (fun v Φr Hr => v = .bool o0 ∧ Φr = [] ∧ Hr = [.blk qg0 [.int .i64 a0, .map (some qb1)] 59, mapP (keyStr (tStr_run tT_9)) true R_Disk_rowsD qb1 o1, .blk qg2 [.int .i64 a2, .slice qp3 qn4 qc5] 85, .own 87 3 R_Ropewalkref17_entryD (.slice qp3 qn4 qc5) l3]) := by
 unfold m_ropewalklaw17_both_agree at hm
 refine spec_of Try.func26 rfl Try.ntmps26 rfl (S := [_]) rfl (fun C => ?_)
 refine wc_seq ?_
 refine wc_region ?_
 refine wl_box rfl rfl rfl (freshS_eq rfl) rfl rfl rfl (fun g1 => ?_)
 refine wl_pure rfl rfl rfl (freshS_eq rfl) rfl ?_
 refine wl_nil ?_
 refine we_then ?_
 refine wc_keep [1] (S' := [_]) rfl ?_
 refine wc_seq ?_
 refine wc_region ?_
 refine wl_fieldAddr rfl rfl rfl (freshS_eq rfl) rfl rfl tF_44_1 ?_
 refine wl_loadH 0 1 rfl rfl rfl (freshS_eq rfl) rfl rfl rfl (cs := [_]) rfl tS_42 tA_42 rfl rfl ?_
 obtain ⟨v8, hc8, hm⟩ := bindO_some hm
 refine wl_call [3, 4] [0, 1, 2] rfl rfl rfl (freshS_eq rfl) rfl rfl fn_50 rfl (w_ropewalkref17_Disk_List_s N qg2 a2 qp3 qn4 qc5 l3 _ hc8) (fun _ _ hφ => ask [] rfl hφ) rfl (H' := [_,_,_]) rfl ?_
 rintro _ _ _ ⟨p8_0, c8_1, c8_2, rfl, rfl, rfl⟩
 refine wl_pure rfl rfl rfl (freshS_eq rfl) rfl ?_
 refine wl_nil ?_
 refine we_then ?_
 refine wc_keep [3, 1] (S' := [_,_]) rfl ?_
 refine wc_seq ?_
 obtain ⟨bj_1, hm, hLj_1⟩ := bindO_some hm
 unfold m_ropewalklaw17_both_agree_C1 at hm
 refine wc_cut (σ := Bool) (fun j_1_4 => bj_1 = j_1_4) (fun j_1_4 => [(3, .slice p8_0 c8_2 c8_1), (1, .pointer (some ⟨g1, 0, none⟩)), (4, .bool j_1_4)]) (fun j_1_4 => []) (fun j_1_4 => [.own 9 1 R_str (.slice p8_0 c8_2 c8_1) v8, .blk g1 [.pointer (some ⟨qg0, 0, none⟩), .pointer (some ⟨qg2, 0, none⟩)] 44, .blk qg0 [.int .i64 a0, .map (some qb1)] 59, mapP (keyStr (tStr_run tT_9)) true R_Disk_rowsD qb1 e1, .blk qg2 [.int .i64 a2, .slice qp3 qn4 qc5] 85, .own 87 3 R_Ropewalkref17_entryD (.slice qp3 qn4 qc5) l3]) ?_ ?_
 ·
  obtain ⟨v11, hc11, hm⟩ := bindO_some hm
  obtain ⟨v13, hc13, hm⟩ := bindO_some hm
  rcases ite_some hm with ⟨hs14, hm⟩ | ⟨hs14, hm⟩
  ·
   obtain ⟨v17, hc17, hm⟩ := bindO_some hm
   obtain ⟨v20, hc20, hm⟩ := bindO_some hm
   refine wc_draw [0, 1, 3, 5, 6, 7, 9, 10, 12, 13] rfl rfl (fun hok => ?_)
   refine wx_fieldAddr hok 0 rfl rfl rfl (freshS_eq rfl) rfl rfl rfl tF_44_0 ?_
   refine wx_loadH hok 1 3 0 rfl rfl rfl (freshS_eq rfl) rfl rfl rfl rfl (cs := [_]) rfl tS_24 tA_24 rfl rfl ?_
   refine wx_pure hok 3 rfl rfl rfl (freshS_eq rfl) rfl rfl ?_
   refine wx_step1 hok 2 rfl rfl rfl rfl ?_
   refine wl_call [4, 5] [0, 1, 2, 3] rfl rfl rfl (freshS_eq rfl) rfl rfl fn_15 rfl (w_disk_Disk_List_s N qg0 a0 qb1 e1 _ hc11) (fun _ _ hφ => ask [] rfl hφ) rfl (H' := [_,_,_,_]) rfl ?_
   rintro _ _ _ ⟨p11_0, c11_1, c11_2, rfl, rfl, rfl⟩
   refine wl_nil ?_
   refine we_x [] [] rfl rfl ?_
   refine wx_step1 hok 4 rfl rfl rfl rfl ?_
   refine wl_ownLen 0 rfl (fun hzc11_2 _ => ?_)
   subst hzc11_2
   refine wl_ownLen 3 rfl (fun hzc8_2 _ => ?_)
   subst hzc8_2
   refine wl_lend [] [0, 1, 2, 3, 4, 5, 6] [0, 3] rfl rfl rfl (freshS_eq rfl) rfl rfl fn_14 rfl (w_ropewalkkit_SameTexts_s N p11_0 c11_1 v11 p8_0 c8_1 v8 _ hc13) (fun F w hφ hh => (ask_cons (own_sli (hh _ (mem_at (k := 0) rfl))) (ask_cons (own_sli (hh _ (mem_at (k := 1) rfl))) ask_nil))) (fun _ _ _ hR => by obtain ⟨rfl, rfl, rfl⟩ := hR; exact ⟨rfl, (fun _ h => free_nil h)⟩) rfl rfl (H' := [_,_,_,_,_,_,_]) rfl ?_
   rintro _ _ _ ⟨rfl, rfl, rfl⟩
   refine wl_nil ?_
   refine we_x [] [6] rfl rfl ?_
   refine wx_pure hok 5 rfl rfl rfl (freshS_eq rfl) rfl rfl ?_
   refine wx_as (d := 14) (v' := .bool true) (S' := [_,_,_,_,_,_,_]) rfl rfl (bool_is hs14) ?_
   refine wx_fieldAddr hok 6 rfl rfl rfl (freshS_eq rfl) rfl rfl rfl tF_44_0 ?_
   refine wx_loadH hok 7 6 0 rfl rfl rfl (freshS_eq rfl) rfl rfl rfl rfl (cs := [_]) rfl tS_24 tA_24 rfl rfl ?_
   refine wx_fieldAddr hok 9 rfl rfl rfl (freshS_eq rfl) rfl rfl rfl tF_44_1 ?_
   refine wx_loadH hok 10 6 1 rfl rfl rfl (freshS_eq rfl) rfl rfl rfl rfl (cs := [_]) rfl tS_42 tA_42 rfl rfl ?_
   refine wx_step1 hok 8 rfl rfl rfl rfl ?_
   refine wl_call [1, 2] [0, 3, 4, 5, 6] rfl rfl rfl (freshS_eq rfl) rfl rfl fn_19 rfl (w_disk_Disk_Used_s N qg0 a0 qb1 e1 _ hc17) (fun _ _ hφ => ask [] rfl hφ) rfl (H' := [_,_,_,_,_]) rfl ?_
   rintro _ _ _ ⟨rfl, rfl, rfl⟩
   refine wl_nil ?_
   refine we_x [] [6, 6] rfl rfl ?_
   refine wx_step1 hok 11 rfl rfl rfl rfl ?_
   refine wl_call [4, 5] [0, 1, 2, 3, 6] rfl rfl rfl (freshS_eq rfl) rfl rfl fn_51 rfl (w_ropewalkref17_Disk_Used_s N qg2 a2 qp3 qn4 qc5 l3 _ hc20) (fun _ _ hφ => ask [] rfl hφ) rfl (H' := [_,_,_,_,_]) rfl ?_
   rintro _ _ _ ⟨rfl, rfl, rfl⟩
   refine wl_nil ?_
   refine we_x [] [6, 6] rfl rfl ?_
   refine wx_pure hok 12 rfl rfl rfl (freshS_eq rfl) rfl rfl ?_
   refine wx_as (d := 21) (v' := .bool (v17 == v20)) (S' := [_,_,_,_,_,_,_,_,_,_,_,_,_,_]) rfl rfl (nateq (a := v17) (b := v20)) ?_
   refine wx_pure hok 13 rfl rfl rfl (freshS_eq rfl) rfl rfl ?_
   refine wx_step1 hok 14 rfl rfl rfl rfl ?_
   refine wl_pure rfl rfl rfl (freshS_eq rfl) rfl ?_
   refine wl_nil ?_
   refine we_x [] [] rfl rfl ?_
   refine wx_done hok rfl ?_
   have hE := (Option.some.inj hm).symm
   refine we_pick [5, 6, 2, 3, 0, 1] rfl (H' := [_,_,_,_,_,_]) rfl ?_
   refine we_join (v17 == v20) hE [3, 1, 4] rfl (fun _ _ hφ => ask [] rfl hφ) rfl
  ·
   refine wc_draw [0, 1, 3, 5, 6, 7, 9, 10, 12, 13] rfl rfl (fun hok => ?_)
   refine wx_fieldAddr hok 0 rfl rfl rfl (freshS_eq rfl) rfl rfl rfl tF_44_0 ?_
   refine wx_loadH hok 1 3 0 rfl rfl rfl (freshS_eq rfl) rfl rfl rfl rfl (cs := [_]) rfl tS_24 tA_24 rfl rfl ?_
   refine wx_pure hok 3 rfl rfl rfl (freshS_eq rfl) rfl rfl ?_
   refine wx_step1 hok 2 rfl rfl rfl rfl ?_
   refine wl_call [4, 5] [0, 1, 2, 3] rfl rfl rfl (freshS_eq rfl) rfl rfl fn_15 rfl (w_disk_Disk_List_s N qg0 a0 qb1 e1 _ hc11) (fun _ _ hφ => ask [] rfl hφ) rfl (H' := [_,_,_,_]) rfl ?_
   rintro _ _ _ ⟨p11_0, c11_1, c11_2, rfl, rfl, rfl⟩
   refine wl_nil ?_
   refine we_x [] [] rfl rfl ?_
   refine wx_step1 hok 4 rfl rfl rfl rfl ?_
   refine wl_ownLen 0 rfl (fun hzc11_2 _ => ?_)
   subst hzc11_2
   refine wl_ownLen 3 rfl (fun hzc8_2 _ => ?_)
   subst hzc8_2
   refine wl_lend [] [0, 1, 2, 3, 4, 5, 6] [0, 3] rfl rfl rfl (freshS_eq rfl) rfl rfl fn_14 rfl (w_ropewalkkit_SameTexts_s N p11_0 c11_1 v11 p8_0 c8_1 v8 _ hc13) (fun F w hφ hh => (ask_cons (own_sli (hh _ (mem_at (k := 0) rfl))) (ask_cons (own_sli (hh _ (mem_at (k := 1) rfl))) ask_nil))) (fun _ _ _ hR => by obtain ⟨rfl, rfl, rfl⟩ := hR; exact ⟨rfl, (fun _ h => free_nil h)⟩) rfl rfl (H' := [_,_,_,_,_,_,_]) rfl ?_
   rintro _ _ _ ⟨rfl, rfl, rfl⟩
   refine wl_nil ?_
   refine we_x [] [6] rfl rfl ?_
   refine wx_pure hok 5 rfl rfl rfl (freshS_eq rfl) rfl rfl ?_
   refine wx_as (d := 14) (v' := .bool false) (S' := [_,_,_,_,_,_,_]) rfl rfl (bool_is hs14) ?_
   refine wx_off hok 6 rfl rfl rfl (freshS_eq rfl) rfl ?_
   refine wx_off hok 7 rfl rfl rfl (freshS_eq rfl) rfl ?_
   refine wx_off hok 9 rfl rfl rfl (freshS_eq rfl) rfl ?_
   refine wx_off hok 10 rfl rfl rfl (freshS_eq rfl) rfl ?_
   refine wx_step1 hok 8 rfl rfl rfl rfl ?_
   refine wl_off rfl rfl rfl (freshS_eq rfl) ?_
   refine wl_nil ?_
   refine we_x [] [6] rfl rfl ?_
   refine wx_step1 hok 11 rfl rfl rfl rfl ?_
   refine wl_off rfl rfl rfl (freshS_eq rfl) ?_
   refine wl_nil ?_
   refine we_x [] [6] rfl rfl ?_
   refine wx_off hok 12 rfl rfl rfl (freshS_eq rfl) rfl ?_
   refine wx_pure hok 13 rfl rfl rfl (freshS_eq rfl) rfl rfl ?_
   refine wx_step1 hok 14 rfl rfl rfl rfl ?_
   refine wl_pure rfl rfl rfl (freshS_eq rfl) rfl ?_
   refine wl_nil ?_
   refine we_x [] [] rfl rfl ?_
   refine wx_done hok rfl ?_
   have hE := (Option.some.inj hm).symm
   refine we_pick [3, 6, 1, 2, 4, 5] rfl (H' := [_,_,_,_,_,_]) rfl ?_
   refine we_join false hE [3, 1, 4] rfl (fun _ _ hφ => ask [] rfl hφ) rfl
 ·
  rintro j_1_4 hE
  try dsimp only
  have hm := hLj_1
  rw [hE] at hm
  refine wc_seq ?_
  obtain ⟨bj_2, hm, hLj_2⟩ := bindO_some hm
  refine wc_cut (σ := Bool × (List (ByteArray × Disk_rowsD))) (fun (j_2_4, j_2_r0_f1_m) => bj_2 = (j_2_4, j_2_r0_f1_m)) (fun (j_2_4, j_2_r0_f1_m) => [(4, .bool j_2_4)]) (fun (j_2_4, j_2_r0_f1_m) => []) (fun (j_2_4, j_2_r0_f1_m) => [.blk qg0 [.int .i64 a0, .map (some qb1)] 59, mapP (keyStr (tStr_run tT_9)) true R_Disk_rowsD qb1 j_2_r0_f1_m, .blk qg2 [.int .i64 a2, .slice qp3 qn4 qc5] 85, .own 87 3 R_Ropewalkref17_entryD (.slice qp3 qn4 qc5) l3]) ?_ ?_
  ·
   refine wc_seq ?_
   refine wc_region ?_
   refine wl_pure rfl rfl rfl (freshS_eq rfl) rfl ?_
   refine wl_nil ?_
   refine we_then ?_
   refine wc_block ?_
   refine wc_loop (σ := Nat × Nat × (List (ByteArray × Disk_rowsD)) × Bool) (fun (nu1, u1_5, u1_1_f0_f1_m, u1_4) => iter (m_ropewalklaw17_both_agree_L1 N v8 a0 a2 l3) nu1 (u1_5, u1_1_f0_f1_m, u1_4) = some bj_2) (fun (nu1, u1_5, u1_1_f0_f1_m, u1_4) => nu1) (fun (nu1, u1_5, u1_1_f0_f1_m, u1_4) => [(5, .int .i64 ((u1_5 : Nat) : Int)), (3, .slice p8_0 c8_2 c8_1), (1, .pointer (some ⟨g1, 0, none⟩)), (4, .bool u1_4)]) (fun (nu1, u1_5, u1_1_f0_f1_m, u1_4) => []) (fun (nu1, u1_5, u1_1_f0_f1_m, u1_4) => [.own 9 1 R_str (.slice p8_0 c8_2 c8_1) v8, .blk g1 [.pointer (some ⟨qg0, 0, none⟩), .pointer (some ⟨qg2, 0, none⟩)] 44, .blk qg0 [.int .i64 a0, .map (some qb1)] 59, mapP (keyStr (tStr_run tT_9)) true R_Disk_rowsD qb1 u1_1_f0_f1_m, .blk qg2 [.int .i64 a2, .slice qp3 qn4 qc5] 85, .own 87 3 R_Ropewalkref17_entryD (.slice qp3 qn4 qc5) l3]) (N, 0, e1, j_1_4) hm [5, 3, 1, 4] rfl (fun _ _ hφ => ask [] rfl hφ) rfl (fun s_ hm => ?_)
   obtain ⟨nu1, u1_5, u1_1_f0_f1_m, u1_4⟩ := s_
   try dsimp only at hm ⊢
   obtain ⟨mu1, bu1, hnu1, hq, hLu1⟩ := iter_some hm
   clear hm
   subst hnu1
   replace hm := hq
   clear hq
   unfold m_ropewalklaw17_both_agree_L1 at hm
   try dsimp only at hm
   refine wc_seq ?_
   refine wc_seq ?_
   obtain ⟨bj_3, hm, hLj_3⟩ := bindO_some hm
   refine wc_cut (σ := Bool) (fun j_3_29 => bj_3 = j_3_29) (fun j_3_29 => [(5, .int .i64 ((u1_5 : Nat) : Int)), (3, .slice p8_0 c8_2 c8_1), (1, .pointer (some ⟨g1, 0, none⟩)), (4, .bool u1_4), (29, .bool j_3_29)]) (fun j_3_29 => []) (fun j_3_29 => [.own 9 1 R_str (.slice p8_0 c8_2 c8_1) v8, .blk g1 [.pointer (some ⟨qg0, 0, none⟩), .pointer (some ⟨qg2, 0, none⟩)] 44, .blk qg0 [.int .i64 a0, .map (some qb1)] 59, mapP (keyStr (tStr_run tT_9)) true R_Disk_rowsD qb1 u1_1_f0_f1_m, .blk qg2 [.int .i64 a2, .slice qp3 qn4 qc5] 85, .own 87 3 R_Ropewalkref17_entryD (.slice qp3 qn4 qc5) l3]) ?_ ?_
   ·
    refine wc_region ?_
    refine wl_pure rfl rfl rfl (freshS_eq rfl) rfl ?_
    refine wl_pure rfl rfl rfl (freshS_eq rfl) rfl ?_
    refine wl_ownLen 0 rfl (fun hl25 _ => ?_)
    refine wl_len rfl rfl rfl (freshS_eq rfl) rfl rfl tE_26 ?_
    refine wl_as (d := 25) (v' := .int .i64 ((v8.length : Nat) : Int)) (S' := [_,_,_,_,_,_]) rfl rfl (len_is hl25) ?_
    refine wl_pure rfl rfl rfl (freshS_eq rfl) rfl ?_
    refine wl_as (d := 26) (v' := .bool (decide (u1_5 < v8.length))) (S' := [_,_,_,_,_,_,_]) rfl rfl (natlt (a := u1_5) (b := v8.length)) ?_
    refine wl_pure rfl rfl rfl (freshS_eq rfl) rfl ?_
    refine wl_split (d := 27) (S' := [_,_,_,_,_,_,_,_]) rfl rfl (fun hs27 => ?_) (fun hs27 => ?_)
    ·
     replace hm := iteT hm hs27
     refine wl_pure rfl rfl rfl (freshS_eq rfl) rfl ?_
     refine wl_pure rfl rfl rfl (freshS_eq rfl) rfl ?_
     refine wl_nil ?_
     have hE := (Option.some.inj hm).symm
     refine we_join u1_4 hE [5, 3, 1, 4, 29] rfl (fun _ _ hφ => ask [] rfl hφ) rfl
    ·
     replace hm := iteF hm hs27
     refine wl_off rfl rfl rfl (freshS_eq rfl) ?_
     refine wl_pure rfl rfl rfl (freshS_eq rfl) rfl ?_
     refine wl_nil ?_
     have hE := (Option.some.inj hm).symm
     refine we_join false hE [5, 3, 1, 4, 29] rfl (fun _ _ hφ => ask [] rfl hφ) rfl
   ·
    rintro j_3_29 hE
    try dsimp only
    have hm := hLj_3
    rw [hE] at hm
    refine wc_cond rfl (fun hb29 => ?_) (fun hb29 => ?_)
    ·
     replace hm := iteT hm hb29
     refine wc_keep [5, 3, 1] (S' := [_,_,_]) rfl ?_
     refine wc_skip ?_
     refine we_then ?_
     refine wc_seq ?_
     refine wc_block ?_
     obtain ⟨x35, hx35, hm⟩ := bindO_some hm
     obtain ⟨⟨v37_0, v37_1⟩, hc37, hm⟩ := bindO_some hm
     try dsimp only at hm
     refine wc_draw [0, 1, 2, 3, 4] rfl rfl (fun hok => ?_)
     refine wx_loadH hok 0 1 0 rfl rfl rfl (freshS_eq rfl) rfl rfl rfl rfl (cs := [_,_]) rfl tS_44 tA_44 rfl rfl ?_
     refine wx_pure hok 1 rfl rfl rfl (freshS_eq rfl) rfl rfl ?_
     refine wx_pure hok 2 rfl rfl rfl (freshS_eq rfl) rfl rfl ?_
     refine wx_indexH hok 3 0 u1_5 rfl rfl rfl (freshS_eq rfl) rfl rfl rfl rfl rfl rfl (get_lt hx35) tE_26 tS_9 (fun g35 eg35 => ?_)
     subst eg35
     refine wx_loadRow hok 4 R_str_opens 0 u1_5 0 rfl rfl rfl (freshS_eq rfl) rfl rfl rfl rfl hx35 tS_9 tA_9 (v := .string x35) rfl rfl (fun _ => ?_)
     refine wx_step1 hok 5 rfl rfl rfl rfl ?_
     refine wl_call [2, 3, 4, 5] [0, 1] rfl rfl rfl (freshS_eq rfl) rfl rfl fn_48 rfl (w_ropewalklaw17_both_file_s N qg0 a0 qb1 u1_1_f0_f1_m qg2 a2 qp3 qn4 qc5 l3 x35 _ _ hc37) (fun _ _ hφ => ask [] rfl hφ) rfl (H' := [_,_]) rfl ?_
     rintro _ _ _ ⟨rfl, rfl, rfl⟩
     refine wl_nil ?_
     refine we_x [] [] rfl rfl ?_
     refine wx_step1 hok 6 rfl rfl rfl rfl ?_
     refine wl_pure rfl rfl rfl (freshS_eq rfl) rfl ?_
     refine wl_nil ?_
     refine we_x [] [] rfl rfl ?_
     refine wx_done hok rfl ?_
     refine we_block_normal ?_
     refine we_then ?_
     refine wc_keep [4, 5, 3, 1] (S' := [_,_,_,_]) rfl ?_
     refine wc_region ?_
     refine wl_pure rfl rfl rfl (freshS_eq rfl) rfl ?_
     refine wl_pure rfl rfl rfl (freshS_eq rfl) rfl ?_
     obtain ⟨hg31, hm⟩ := gd_some hm
     refine wl_as (d := 31) (v' := .int .i64 ((u1_5 + 1 : Nat) : Int)) (S' := [_,_,_,_,_]) rfl rfl (nat_add (a := u1_5) (b := 1) hg31) ?_
     refine wl_pure (S' := [_,_,_,_,_]) rfl rfl rfl rfl rfl ?_
     refine wl_nil ?_
     have hE := (Option.some.inj hm).symm
     replace hE := link_inl hLu1 hE
     refine we_pick [4, 5, 0, 1, 2, 3] rfl (H' := [_,_,_,_,_,_]) rfl ?_
     refine we_roundK (_, u1_5 + 1, v37_1, v37_0) (Nat.lt_succ_self _) hE [5, 3, 1, 4] rfl (fun _ _ hφ => ask [] rfl hφ) rfl
    ·
     replace hm := iteF hm hb29
     refine wc_keep [4] (S' := [_]) rfl ?_
     refine wc_exit ?_
     refine we_then_exit ?_
     refine we_then_exit ?_
     refine we_block_hit ?_
     have hE := (Option.some.inj hm).symm
     replace hE := link_inr hLu1 hE
     refine we_pick [2, 3, 4, 5] rfl (H' := [_,_,_,_]) rfl ?_
     refine we_join (u1_4, u1_1_f0_f1_m) hE [4] rfl (fun _ _ hφ => ask [] rfl hφ) rfl
  ·
   rintro ⟨j_2_4, j_2_r0_f1_m⟩ hE
   try dsimp only
   have hm := hLj_2
   rw [hE] at hm
   try dsimp only at hm
   refine wc_seq ?_
   refine wc_region ?_
   refine wl_pure rfl rfl rfl (freshS_eq rfl) rfl ?_
   refine wl_pure rfl rfl rfl (freshS_eq rfl) rfl ?_
   refine wl_nil ?_
   refine we_then ?_
   refine wc_keep [2] (S' := [_]) rfl ?_
   refine wc_ret ?_
   have hE := (Option.some.inj hm).symm
   obtain ⟨hE0, hE1⟩ := Prod.mk.inj hE
   clear hE
   replace hE0 := hE0.symm
   subst hE0
   replace hE1 := hE1.symm
   subst hE1
   refine ret_one (Hr := [_, _, _, _]) [0, 1, 2, 3] Try.results26 (res_tmp rfl) ⟨rfl, rfl, rfl⟩ (fun _ _ hφ => ask [] rfl hφ) rfl rfl (.inl rfl)
set_option maxRecDepth 100000 in
set_option maxHeartbeats 4000000 in
theorem w_ropewalklaw17_both_goes_s (N : Nat) (qg0 : Nat) (a0 : Int) (qb1 : Nat) (e1 : List (ByteArray × Disk_rowsD)) (qg2 : Nat) (a2 : Int) (qp3 : Option Addr) (qn4 : Nat) (qc5 : Nat) (l3 : List Ropewalkref17_entryD) (qp6 : Option Addr) (qc7 : Nat) (l4 : List Ropewalklaw17_DoD) (a5 : Int) (a6 : Int) (o0 : Bool) (o1 : List (ByteArray × Disk_rowsD)) (o4 : List Ropewalkref17_entryD) (hm : m_ropewalklaw17_both_goes N a0 e1 a2 l3 l4 a5 a6 = some (o0, o1, o4)) : Spec Try.prog 22 [.agg #[.pointer (some ⟨qg0, 0, none⟩), .pointer (some ⟨qg2, 0, none⟩)], .slice qp6 l4.length qc7, .int .i64 a5, .int .i64 a6] [.sli 5 R_Ropewalklaw17_DoD qp6 qc7 l4] [.blk qg0 [.int .i64 a0, .map (some qb1)] 59, mapP (keyStr (tStr_run tT_9)) true R_Disk_rowsD qb1 e1, .blk qg2 [.int .i64 a2, .slice qp3 qn4 qc5] 85, .own 87 3 R_Ropewalkref17_entryD (.slice qp3 qn4 qc5) l3] (fun v Φr Hr => ∃ (o2 : Option Addr) (o3 : Nat) (o5 : Nat), v = .bool o0 ∧ Φr = [] ∧ Hr = [.blk qg0 [.int .i64 a0, .map (some qb1)] 59, mapP (keyStr (tStr_run tT_9)) true R_Disk_rowsD qb1 o1, .blk qg2 [.int .i64 a2, .slice o2 o5 o3] 85, .own 87 3 R_Ropewalkref17_entryD (.slice o2 o5 o3) o4]) := by
 unfold m_ropewalklaw17_both_goes at hm
 refine spec_of Try.func22 rfl Try.ntmps22 rfl (S := [_,_,_,_]) rfl (fun C => ?_)
 refine wc_seq ?_
 refine wc_region ?_
 refine wl_box rfl rfl rfl (freshS_eq rfl) rfl rfl rfl (fun g4 => ?_)
 refine wl_pure rfl rfl rfl (freshS_eq rfl) rfl ?_
 refine wl_nil ?_
 refine we_then ?_
 refine wc_keep [4, 1, 2, 3] (S' := [_,_,_,_]) rfl ?_
 refine wc_seq ?_
 obtain ⟨bj_1, hm, hLj_1⟩ := bindS_some hm
 refine wc_cut (σ := (List (ByteArray × Disk_rowsD)) × (List Ropewalkref17_entryD) × (Option Addr) × Nat × Nat) (fun (j_1_r0_f1_m, j_1_r2_f1_l, j_1_r2_f1_p, j_1_r2_f1_c, j_1_r2_f1_n) => bj_1 = .inl (j_1_r0_f1_m, j_1_r2_f1_l)) (fun (j_1_r0_f1_m, j_1_r2_f1_l, j_1_r2_f1_p, j_1_r2_f1_c, j_1_r2_f1_n) => []) (fun (j_1_r0_f1_m, j_1_r2_f1_l, j_1_r2_f1_p, j_1_r2_f1_c, j_1_r2_f1_n) => []) (fun (j_1_r0_f1_m, j_1_r2_f1_l, j_1_r2_f1_p, j_1_r2_f1_c, j_1_r2_f1_n) => [.blk qg0 [.int .i64 a0, .map (some qb1)] 59, mapP (keyStr (tStr_run tT_9)) true R_Disk_rowsD qb1 j_1_r0_f1_m, .blk qg2 [.int .i64 a2, .slice j_1_r2_f1_p j_1_r2_f1_n j_1_r2_f1_c] 85, .own 87 3 R_Ropewalkref17_entryD (.slice j_1_r2_f1_p j_1_r2_f1_n j_1_r2_f1_c) j_1_r2_f1_l]) ?_ ?_
 ·
  refine wc_seq ?_
  refine wc_region ?_
  refine wl_pure rfl rfl rfl (freshS_eq rfl) rfl ?_
  refine wl_pure rfl rfl rfl (freshS_eq rfl) rfl ?_
  refine wl_nil ?_
  refine we_then ?_
  refine wc_keep [9, 4, 1, 3] (S' := [_,_,_,_]) rfl ?_
  refine wc_block ?_
  refine wc_loop (σ := Nat × Int × (List (ByteArray × Disk_rowsD)) × (List Ropewalkref17_entryD) × (Option Addr) × Nat × Nat) (fun (nu1, u1_9, u1_4_f0_f1_m, u1_4_f1_f1_l, u1_4_f1_f1_p, u1_4_f1_f1_c, u1_4_f1_f1_n) => iter (m_ropewalklaw17_both_goes_L1 N a6 l4 a0 a2) nu1 (u1_9, u1_4_f0_f1_m, u1_4_f1_f1_l) = some bj_1) (fun (nu1, u1_9, u1_4_f0_f1_m, u1_4_f1_f1_l, u1_4_f1_f1_p, u1_4_f1_f1_c, u1_4_f1_f1_n) => nu1) (fun (nu1, u1_9, u1_4_f0_f1_m, u1_4_f1_f1_l, u1_4_f1_f1_p, u1_4_f1_f1_c, u1_4_f1_f1_n) => [(9, .int .i64 u1_9), (4, .pointer (some ⟨g4, 0, none⟩)), (1, .slice qp6 l4.length qc7), (3, .int .i64 a6)]) (fun (nu1, u1_9, u1_4_f0_f1_m, u1_4_f1_f1_l, u1_4_f1_f1_p, u1_4_f1_f1_c, u1_4_f1_f1_n) => [.sli 5 R_Ropewalklaw17_DoD qp6 qc7 l4]) (fun (nu1, u1_9, u1_4_f0_f1_m, u1_4_f1_f1_l, u1_4_f1_f1_p, u1_4_f1_f1_c, u1_4_f1_f1_n) => [.blk g4 [.pointer (some ⟨qg0, 0, none⟩), .pointer (some ⟨qg2, 0, none⟩)] 44, .blk qg0 [.int .i64 a0, .map (some qb1)] 59, mapP (keyStr (tStr_run tT_9)) true R_Disk_rowsD qb1 u1_4_f0_f1_m, .blk qg2 [.int .i64 a2, .slice u1_4_f1_f1_p u1_4_f1_f1_n u1_4_f1_f1_c] 85, .own 87 3 R_Ropewalkref17_entryD (.slice u1_4_f1_f1_p u1_4_f1_f1_n u1_4_f1_f1_c) u1_4_f1_f1_l]) (N, a5, e1, l3, qp3, qc5, qn4) hm [9, 4, 1, 3] rfl (fun _ _ hφ => ask [0] rfl hφ) rfl (fun s_ hm => ?_)
  obtain ⟨nu1, u1_9, u1_4_f0_f1_m, u1_4_f1_f1_l, u1_4_f1_f1_p, u1_4_f1_f1_c, u1_4_f1_f1_n⟩ := s_
  try dsimp only at hm ⊢
  obtain ⟨mu1, bu1, hnu1, hq, hLu1⟩ := iter_some hm
  clear hm
  subst hnu1
  replace hm := hq
  clear hq
  unfold m_ropewalklaw17_both_goes_L1 at hm
  try dsimp only at hm
  refine wc_seq ?_
  refine wc_seq ?_
  refine wc_region ?_
  refine wl_pure rfl rfl rfl (freshS_eq rfl) rfl ?_
  refine wl_pure rfl rfl rfl (freshS_eq rfl) rfl ?_
  refine wl_pure rfl rfl rfl (freshS_eq rfl) rfl ?_
  refine wl_nil ?_
  refine we_then ?_
  refine wc_keep [15, 9, 4, 1, 3] (S' := [_,_,_,_,_]) rfl ?_
  refine wc_cond rfl (fun hb15 => ?_) (fun hb15 => ?_)
  ·
   replace hm := iteT hm hb15
   refine wc_keep [9, 4, 1, 3] (S' := [_,_,_,_]) rfl ?_
   refine wc_skip ?_
   refine we_then ?_
   refine wc_seq ?_
   refine wc_block ?_
   refine wc_seq ?_
   obtain ⟨hn22, hm⟩ := gd_some hm
   obtain ⟨x22, hx22, hm⟩ := bindO_some hm
   obtain ⟨⟨v24_0, v24_1, v24_2, v24_3⟩, hc24, hm⟩ := bindO_some hm
   try dsimp only at hm
   refine wc_draw [0, 1, 2, 3, 4, 6, 7, 8] rfl rfl (fun hok => ?_)
   refine wx_loadH hok 0 0 0 rfl rfl rfl (freshS_eq rfl) rfl rfl rfl rfl (cs := [_,_]) rfl tS_44 tA_44 rfl rfl ?_
   refine wx_pure hok 1 rfl rfl rfl (freshS_eq rfl) rfl rfl ?_
   refine wx_pure hok 2 rfl rfl rfl (freshS_eq rfl) rfl rfl ?_
   refine wx_indexA hok 3 0 u1_9.toNat rfl rfl rfl (freshS_eq rfl) rfl rfl rfl rfl rfl (toNat_eq hn22) hx22 tE_40 tS_54 (fun b22 q22 cs22 hlx22 => ?_)
   refine wx_openR R_Ropewalklaw17_DoD_opens 1 rfl (fun r22 er22 _ => ?_)
   subst er22
   refine wx_load hok 4 1 0 rfl rfl rfl (freshS_eq rfl) rfl rfl rfl rfl (cs := [_,_,_,_,_]) rfl tS_54 tA_54 rfl rfl ?_
   refine wx_step1 hok 5 rfl rfl rfl rfl ?_
   refine wl_call [1, 2, 3, 4] [0] rfl rfl rfl (freshS_eq rfl) rfl rfl fn_27 rfl (w_ropewalklaw17_both_errors_s N qg0 a0 qb1 u1_4_f0_f1_m qg2 a2 u1_4_f1_f1_p u1_4_f1_f1_n u1_4_f1_f1_c u1_4_f1_f1_l x22.op x22.name x22.to_ r22.1 r22.2 x22.b x22.n _ _ _ _ hc24) (fun _ _ hφ => ask [0] rfl hφ) rfl (H' := [_]) rfl ?_
   rintro _ _ _ ⟨p24_0, c24_1, c24_2, rfl, rfl, rfl⟩
   refine wl_nil ?_
   refine we_x [0, 1, 2, 3] [] rfl rfl ?_
   refine wx_pure hok 6 rfl rfl rfl (freshS_eq rfl) rfl rfl ?_
   refine wx_pure hok 7 rfl rfl rfl (freshS_eq rfl) rfl rfl ?_
   refine wx_pure hok 8 rfl rfl rfl (freshS_eq rfl) rfl rfl ?_
   refine wx_step1 hok 9 rfl rfl rfl rfl ?_
   refine wl_pure rfl rfl rfl (freshS_eq rfl) rfl ?_
   refine wl_nil ?_
   refine we_x [0, 1, 2, 3] [] rfl rfl ?_
   refine wx_step1 hok 10 rfl rfl rfl rfl ?_
   refine wl_pure rfl rfl rfl (freshS_eq rfl) rfl ?_
   refine wl_nil ?_
   refine we_x [0, 1, 2, 3] [] rfl rfl ?_
   refine wx_done hok rfl ?_
   refine we_then ?_
   refine wc_keep [11, 10, 9, 4, 1, 3] (S' := [_,_,_,_,_,_]) rfl ?_
   refine wc_seq ?_
   obtain ⟨bj_2, hm, hLj_2⟩ := bindO_some hm
   unfold m_ropewalklaw17_both_goes_C2 at hm
   refine wc_cut (σ := (List (ByteArray × Disk_rowsD)) × Bool) (fun (j_2_4_f0_f1_m, j_2_44) => bj_2 = (j_2_4_f0_f1_m, j_2_44)) (fun (j_2_4_f0_f1_m, j_2_44) => [(9, .int .i64 u1_9), (4, .pointer (some ⟨g4, 0, none⟩)), (1, .slice qp6 l4.length qc7), (3, .int .i64 a6), (44, .bool j_2_44)]) (fun (j_2_4_f0_f1_m, j_2_44) => [.sli 5 R_Ropewalklaw17_DoD qp6 qc7 l4]) (fun (j_2_4_f0_f1_m, j_2_44) => [.blk g4 [.pointer (some ⟨qg0, 0, none⟩), .pointer (some ⟨qg2, 0, none⟩)] 44, .blk qg0 [.int .i64 a0, .map (some qb1)] 59, mapP (keyStr (tStr_run tT_9)) true R_Disk_rowsD qb1 j_2_4_f0_f1_m, .blk qg2 [.int .i64 a2, .slice p24_0 c24_2 c24_1] 85, .own 87 3 R_Ropewalkref17_entryD (.slice p24_0 c24_2 c24_1) v24_3]) ?_ ?_
   ·
    rcases ite_some hm with ⟨hs30, hm⟩ | ⟨hs30, hm⟩
    ·
     refine wc_draw [0, 1, 2, 3, 4, 6, 7, 8, 9, 10, 11, 12, 13, 14, 16, 17] rfl rfl (fun hok => ?_)
     refine wx_pure hok 0 rfl rfl rfl (freshS_eq rfl) rfl rfl ?_
     refine wx_pure hok 1 rfl rfl rfl (freshS_eq rfl) rfl rfl ?_
     refine wx_pure hok 2 rfl rfl rfl (freshS_eq rfl) rfl rfl ?_
     refine wx_pure hok 3 rfl rfl rfl (freshS_eq rfl) rfl rfl ?_
     refine wx_as (d := 30) (v' := .bool true) (S' := [_,_,_,_,_,_,_,_,_]) rfl rfl (bool_is hs30) ?_
     refine wx_off hok 4 rfl rfl rfl (freshS_eq rfl) rfl ?_
     refine wx_step1 hok 5 rfl rfl rfl rfl ?_
     refine wl_off rfl rfl rfl (freshS_eq rfl) ?_
     refine wl_nil ?_
     refine we_x [0, 1, 2, 3] [] rfl rfl ?_
     refine wx_off hok 6 rfl rfl rfl (freshS_eq rfl) rfl ?_
     refine wx_pure hok 7 rfl rfl rfl (freshS_eq rfl) rfl rfl ?_
     refine wx_pure hok 8 rfl rfl rfl (freshS_eq rfl) rfl rfl ?_
     refine wx_off hok 9 rfl rfl rfl (freshS_eq rfl) rfl ?_
     refine wx_off hok 10 rfl rfl rfl (freshS_eq rfl) rfl ?_
     refine wx_off hok 11 rfl rfl rfl (freshS_eq rfl) rfl ?_
     refine wx_off hok 12 rfl rfl rfl (freshS_eq rfl) rfl ?_
     refine wx_off hok 13 rfl rfl rfl (freshS_eq rfl) rfl ?_
     refine wx_off hok 14 rfl rfl rfl (freshS_eq rfl) rfl ?_
     refine wx_step1 hok 15 rfl rfl rfl rfl ?_
     refine wl_off rfl rfl rfl (freshS_eq rfl) ?_
     refine wl_nil ?_
     refine we_x [0, 1, 2, 3] [] rfl rfl ?_
     refine wx_off hok 16 rfl rfl rfl (freshS_eq rfl) rfl ?_
     refine wx_pure hok 17 rfl rfl rfl (freshS_eq rfl) rfl rfl ?_
     refine wx_done hok rfl ?_
     have hE := (Option.some.inj hm).symm
     refine we_pick [4, 0, 1, 2, 3] rfl (H' := [_,_,_,_,_]) rfl ?_
     refine we_join (v24_2, true) hE [9, 4, 1, 3, 44] rfl (fun _ _ hφ => ask [3] rfl hφ) rfl
    ·
     obtain ⟨⟨v32_0, v32_1⟩, hc32, hm⟩ := bindO_some hm
     try dsimp only at hm
     rcases ite_some hm with ⟨hs35, hm⟩ | ⟨hs35, hm⟩
     ·
      refine wc_draw [0, 1, 2, 3, 4, 6, 7, 8, 9, 10, 11, 12, 13, 14, 16, 17] rfl rfl (fun hok => ?_)
      refine wx_pure hok 0 rfl rfl rfl (freshS_eq rfl) rfl rfl ?_
      refine wx_pure hok 1 rfl rfl rfl (freshS_eq rfl) rfl rfl ?_
      refine wx_pure hok 2 rfl rfl rfl (freshS_eq rfl) rfl rfl ?_
      refine wx_pure hok 3 rfl rfl rfl (freshS_eq rfl) rfl rfl ?_
      refine wx_as (d := 30) (v' := .bool false) (S' := [_,_,_,_,_,_,_,_,_]) rfl rfl (bool_is hs30) ?_
      refine wx_loadH hok 4 4 0 rfl rfl rfl (freshS_eq rfl) rfl rfl rfl rfl (cs := [_,_]) rfl tS_44 tA_44 rfl rfl ?_
      refine wx_step1 hok 5 rfl rfl rfl rfl ?_
      refine wl_call [0, 1, 2, 3] [4] rfl rfl rfl (freshS_eq rfl) rfl rfl fn_26 rfl (w_ropewalklaw17_both_agree_s N qg0 a0 qb1 v24_2 qg2 a2 p24_0 c24_2 c24_1 v24_3 _ _ hc32) (fun _ _ hφ => ask [] rfl hφ) rfl (H' := [_]) rfl ?_
      rintro _ _ _ ⟨rfl, rfl, rfl⟩
      refine wl_nil ?_
      refine we_x [0, 1, 2, 3] [] rfl rfl ?_
      refine wx_pure hok 6 rfl rfl rfl (freshS_eq rfl) rfl rfl ?_
      refine wx_pure hok 7 rfl rfl rfl (freshS_eq rfl) rfl rfl ?_
      refine wx_pure hok 8 rfl rfl rfl (freshS_eq rfl) rfl rfl ?_
      refine wx_as (d := 35) (v' := .bool true) (S' := [_,_,_,_,_,_,_,_,_,_,_,_,_,_]) rfl rfl (bool_is hs35) ?_
      refine wx_off hok 9 rfl rfl rfl (freshS_eq rfl) rfl ?_
      refine wx_off hok 10 rfl rfl rfl (freshS_eq rfl) rfl ?_
      refine wx_off hok 11 rfl rfl rfl (freshS_eq rfl) rfl ?_
      refine wx_off hok 12 rfl rfl rfl (freshS_eq rfl) rfl ?_
      refine wx_off hok 13 rfl rfl rfl (freshS_eq rfl) rfl ?_
      refine wx_off hok 14 rfl rfl rfl (freshS_eq rfl) rfl ?_
      refine wx_step1 hok 15 rfl rfl rfl rfl ?_
      refine wl_off rfl rfl rfl (freshS_eq rfl) ?_
      refine wl_nil ?_
      refine we_x [0, 1, 2, 3] [4] rfl rfl ?_
      refine wx_off hok 16 rfl rfl rfl (freshS_eq rfl) rfl ?_
      refine wx_pure hok 17 rfl rfl rfl (freshS_eq rfl) rfl rfl ?_
      refine wx_done hok rfl ?_
      have hE := (Option.some.inj hm).symm
      refine we_pick [4, 0, 1, 2, 3] rfl (H' := [_,_,_,_,_]) rfl ?_
      refine we_join (v32_1, true) hE [9, 4, 1, 3, 44] rfl (fun _ _ hφ => ask [3] rfl hφ) rfl
     ·
      obtain ⟨hn39, hm⟩ := gd_some hm
      obtain ⟨x39, hx39, hm⟩ := bindO_some hm
      obtain ⟨⟨v42_0, v42_1⟩, hc42, hm⟩ := bindO_some hm
      try dsimp only at hm
      refine wc_draw [0, 1, 2, 3, 4, 6, 7, 8, 9, 10, 11, 12, 13, 14, 16, 17] rfl rfl (fun hok => ?_)
      refine wx_pure hok 0 rfl rfl rfl (freshS_eq rfl) rfl rfl ?_
      refine wx_pure hok 1 rfl rfl rfl (freshS_eq rfl) rfl rfl ?_
      refine wx_pure hok 2 rfl rfl rfl (freshS_eq rfl) rfl rfl ?_
      refine wx_pure hok 3 rfl rfl rfl (freshS_eq rfl) rfl rfl ?_
      refine wx_as (d := 30) (v' := .bool false) (S' := [_,_,_,_,_,_,_,_,_]) rfl rfl (bool_is hs30) ?_
      refine wx_loadH hok 4 4 0 rfl rfl rfl (freshS_eq rfl) rfl rfl rfl rfl (cs := [_,_]) rfl tS_44 tA_44 rfl rfl ?_
      refine wx_step1 hok 5 rfl rfl rfl rfl ?_
      refine wl_call [0, 1, 2, 3] [4] rfl rfl rfl (freshS_eq rfl) rfl rfl fn_26 rfl (w_ropewalklaw17_both_agree_s N qg0 a0 qb1 v24_2 qg2 a2 p24_0 c24_2 c24_1 v24_3 _ _ hc32) (fun _ _ hφ => ask [] rfl hφ) rfl (H' := [_]) rfl ?_
      rintro _ _ _ ⟨rfl, rfl, rfl⟩
      refine wl_nil ?_
      refine we_x [0, 1, 2, 3] [] rfl rfl ?_
      refine wx_pure hok 6 rfl rfl rfl (freshS_eq rfl) rfl rfl ?_
      refine wx_pure hok 7 rfl rfl rfl (freshS_eq rfl) rfl rfl ?_
      refine wx_pure hok 8 rfl rfl rfl (freshS_eq rfl) rfl rfl ?_
      refine wx_as (d := 35) (v' := .bool false) (S' := [_,_,_,_,_,_,_,_,_,_,_,_,_,_]) rfl rfl (bool_is hs35) ?_
      refine wx_loadH hok 9 4 0 rfl rfl rfl (freshS_eq rfl) rfl rfl rfl rfl (cs := [_,_]) rfl tS_44 tA_44 rfl rfl ?_
      refine wx_pure hok 10 rfl rfl rfl (freshS_eq rfl) rfl rfl ?_
      refine wx_pure hok 11 rfl rfl rfl (freshS_eq rfl) rfl rfl ?_
      refine wx_indexA hok 12 3 u1_9.toNat rfl rfl rfl (freshS_eq rfl) rfl rfl rfl rfl rfl (toNat_eq hn39) hx39 tE_40 tS_54 (fun b39 q39 cs39 hlx39 => ?_)
      refine wx_openR R_Ropewalklaw17_DoD_opens 1 rfl (fun r39 er39 _ => ?_)
      subst er39
      refine wx_fieldAddr hok 13 rfl rfl rfl (freshS_eq rfl) rfl rfl rfl tF_54_2 ?_
      refine wx_load hok 14 1 2 rfl rfl rfl (freshS_eq rfl) rfl rfl rfl rfl (cs := [_]) rfl tS_9 tA_9 rfl rfl ?_
      refine wx_step1 hok 15 rfl rfl rfl rfl ?_
      refine wl_call [0, 1, 2, 3] [4] rfl rfl rfl (freshS_eq rfl) rfl rfl fn_48 rfl (w_ropewalklaw17_both_file_s N qg0 a0 qb1 v32_1 qg2 a2 p24_0 c24_2 c24_1 v24_3 x39.to_ _ _ hc42) (fun _ _ hφ => ask [] rfl hφ) rfl (H' := [_]) rfl ?_
      rintro _ _ _ ⟨rfl, rfl, rfl⟩
      refine wl_nil ?_
      refine we_x [0, 1, 2, 3, 4, 5, 6] [4] rfl rfl ?_
      refine wx_pure hok 16 rfl rfl rfl (freshS_eq rfl) rfl rfl ?_
      refine wx_pure hok 17 rfl rfl rfl (freshS_eq rfl) rfl rfl ?_
      refine wx_done hok rfl ?_
      have hE := (Option.some.inj hm).symm
      refine we_pick [4, 0, 1, 2, 3] rfl (H' := [_,_,_,_,_]) rfl ?_
      refine we_join (v42_1, !v42_0) hE [9, 4, 1, 3, 44] rfl (fun _ _ hφ => ask [6] rfl hφ) rfl
   ·
    rintro ⟨j_2_4_f0_f1_m, j_2_44⟩ hE
    try dsimp only
    have hm := hLj_2
    rw [hE] at hm
    try dsimp only at hm
    refine wc_cond rfl (fun hb44 => ?_) (fun hb44 => ?_)
    ·
     replace hm := iteT hm hb44
     refine wc_keep [] (S' := []) rfl ?_
     refine wc_seq ?_
     refine wc_region ?_
     refine wl_pure rfl rfl rfl (freshS_eq rfl) rfl ?_
     refine wl_nil ?_
     refine we_then ?_
     refine wc_ret ?_
     refine we_block_ret ?_
     refine we_then_ret ?_
     refine we_then_ret ?_
     refine we_block_ret ?_
     refine we_then_ret ?_
     have hE := (Option.some.inj hm).symm
     replace hE := link_inr hLu1 hE
     replace hE := link_inr hLj_1 hE
     obtain ⟨hE0, hF1⟩ := Prod.mk.inj hE
     obtain ⟨hE1, hE2⟩ := Prod.mk.inj hF1
     clear hE hF1
     replace hE0 := hE0.symm
     subst hE0
     replace hE1 := hE1.symm
     subst hE1
     replace hE2 := hE2.symm
     subst hE2
     refine ret_one (Hr := [_, _, _, _]) [1, 2, 3, 4] Try.results22 (res_tmp rfl) ⟨p24_0, c24_1, c24_2, rfl, rfl, rfl⟩ (fun _ _ hφ => ask [] rfl hφ) rfl rfl (.inl rfl)
    ·
     replace hm := iteF hm hb44
     refine wc_keep [9, 4, 1, 3] (S' := [_,_,_,_]) rfl ?_
     refine wc_skip ?_
     refine we_block_normal ?_
     refine we_then ?_
     refine wc_region ?_
     refine wl_pure rfl rfl rfl (freshS_eq rfl) rfl ?_
     refine wl_pure rfl rfl rfl (freshS_eq rfl) rfl ?_
     obtain ⟨hg17, hm⟩ := gd_some hm
     refine wl_as (d := 17) (v' := .int .i64 (u1_9 + 1)) (S' := [_,_,_,_,_]) rfl rfl (i64_in hg17) ?_
     refine wl_pure (S' := [_,_,_,_,_]) rfl rfl rfl rfl rfl ?_
     refine wl_nil ?_
     have hE := (Option.some.inj hm).symm
     replace hE := link_inl hLu1 hE
     refine we_roundK (_, u1_9 + 1, j_2_4_f0_f1_m, v24_3, p24_0, c24_1, c24_2) (Nat.lt_succ_self _) hE [9, 4, 1, 3] rfl (fun _ _ hφ => ask [0] rfl hφ) rfl
  ·
   replace hm := iteF hm hb15
   refine wc_keep [] (S' := []) rfl ?_
   refine wc_exit ?_
   refine we_then_exit ?_
   refine we_then_exit ?_
   refine we_block_hit ?_
   have hE := (Option.some.inj hm).symm
   replace hE := link_inr hLu1 hE
   refine we_pick [1, 2, 3, 4] rfl (H' := [_,_,_,_]) rfl ?_
   refine we_join (u1_4_f0_f1_m, u1_4_f1_f1_l, u1_4_f1_f1_p, u1_4_f1_f1_c, u1_4_f1_f1_n) hE [] rfl (fun _ _ hφ => ask [] rfl hφ) rfl
 ·
  rintro ⟨j_1_r0_f1_m, j_1_r2_f1_l, j_1_r2_f1_p, j_1_r2_f1_c, j_1_r2_f1_n⟩ hE
  try dsimp only
  have hm := link_inl hLj_1 hE
  try dsimp only at hm
  refine wc_seq ?_
  refine wc_region ?_
  refine wl_pure rfl rfl rfl (freshS_eq rfl) rfl ?_
  refine wl_nil ?_
  refine we_then ?_
  refine wc_ret ?_
  have hE := (Option.some.inj hm).symm
  obtain ⟨hE0, hF1⟩ := Prod.mk.inj hE
  obtain ⟨hE1, hE2⟩ := Prod.mk.inj hF1
  clear hE hF1
  replace hE0 := hE0.symm
  subst hE0
  replace hE1 := hE1.symm
  subst hE1
  replace hE2 := hE2.symm
  subst hE2
  refine ret_one (Hr := [_, _, _, _]) [0, 1, 2, 3] Try.results22 (res_tmp rfl) ⟨j_1_r2_f1_p, j_1_r2_f1_c, j_1_r2_f1_n, rfl, rfl, rfl⟩ (fun _ _ hφ => ask [] rfl hφ) rfl rfl (.inl rfl)
set_option maxRecDepth 100000 in
set_option maxHeartbeats 4000000 in
theorem w_ropewalklaw17_DiskLives_s (N : Nat) (a0 : Int) (qp0 : Option Addr) (qc1 : Nat) (l1 : List Ropewalklaw17_DoD) (o0 : Bool) (hm : m_ropewalklaw17_DiskLives N a0 l1 = some o0) : Spec Try.prog 4 [.int .i64 a0, .slice qp0 l1.length qc1] [.sli 5 R_Ropewalklaw17_DoD qp0 qc1 l1] [] (fun v Φr Hr => v = .bool o0 ∧ Φr = [] ∧ Hr = []) := by
 unfold m_ropewalklaw17_DiskLives at hm
 refine spec_of Try.func4 rfl Try.ntmps4 rfl (S := [_,_]) rfl (fun C => ?_)
 refine wc_seq ?_
 refine wc_region ?_
 refine wl_pure rfl rfl rfl (freshS_eq rfl) rfl ?_
 refine wl_nil ?_
 refine we_then ?_
 refine wc_keep [0, 1] (S' := [_,_]) rfl ?_
 refine wc_seq ?_
 refine wc_region ?_
 refine wl_pure rfl rfl rfl (freshS_eq rfl) rfl ?_
 obtain ⟨_, hc7, hm⟩ := bindO_some hm
 try dsimp only at hm
 refine wl_call [] [] rfl rfl rfl (freshS_eq rfl) rfl rfl fn_20 rfl (w_ropewalklaw17_short_s N qp0 qc1 l1 hc7) (fun _ _ hφ => ask [0] rfl hφ) rfl (H' := []) rfl ?_
 rintro _ _ _ ⟨p7_0, rfl, rfl, rfl⟩
 refine wl_pure rfl rfl rfl (freshS_eq rfl) rfl ?_
 refine wl_nil ?_
 refine we_then ?_
 refine wc_keep [5, 0] (S' := [_,_]) rfl ?_
 refine wc_seq ?_
 refine wc_region ?_
 refine wl_pure rfl rfl rfl (freshS_eq rfl) rfl ?_
 obtain ⟨v9, hc9, hm⟩ := bindO_some hm
 refine wl_call [] [] rfl rfl rfl (freshS_eq rfl) rfl rfl fn_21 rfl (w_ropewalklaw17_begin_s N a0 _ hc9) (fun _ _ hφ => ask [] rfl hφ) rfl (H' := []) rfl ?_
 rintro _ _ _ ⟨c9_0, c9_1, c9_2, rfl, rfl, rfl⟩
 refine wl_pure rfl rfl rfl (freshS_eq rfl) rfl ?_
 refine wl_pure rfl rfl rfl (freshS_eq rfl) rfl ?_
 refine wl_len rfl rfl rfl (freshS_eq rfl) rfl rfl tE_40 ?_
 refine wl_rowNil 87 3 R_Ropewalkref17_entryD ?_
 obtain ⟨⟨v13_0, v13_1, v13_2⟩, hc13, hm⟩ := bindO_some hm
 try dsimp only at hm
 refine wl_call [1, 2, 3, 0] [] rfl rfl rfl (freshS_eq rfl) rfl rfl fn_22 rfl (w_ropewalklaw17_both_goes_s N c9_0 (maxI a0 0) c9_1 ([] : List (ByteArray × Disk_rowsD)) c9_2 v9 none 0 0 [] p7_0 qc1 (l1.take (min l1.length 60)) 0 (((l1.take (min l1.length 60)).length : Nat) : Int) _ _ _ hc13) (fun _ _ hφ => ask [0] rfl hφ) rfl (H' := []) rfl ?_
 rintro _ _ _ ⟨p13_0, c13_1, c13_2, rfl, rfl, rfl⟩
 refine wl_pure rfl rfl rfl (freshS_eq rfl) rfl ?_
 refine wl_split (d := 14) (S' := [_,_,_,_,_,_,_,_]) rfl rfl (fun hs14 => ?_) (fun hs14 => ?_)
 ·
  replace hm := iteT hm hs14
  obtain ⟨v15, hc15, hm⟩ := bindO_some hm
  refine wl_call [] [0, 1, 2, 3] rfl rfl rfl (freshS_eq rfl) rfl rfl fn_9 rfl (w_ropewalklaw17_awake_s N _ hc15) (fun _ _ hφ => ask [] rfl hφ) rfl (H' := [_,_,_,_]) rfl ?_
  rintro _ _ _ ⟨rfl, rfl, rfl⟩
  refine wl_pure rfl rfl rfl (freshS_eq rfl) rfl ?_
  refine wl_pure rfl rfl rfl (freshS_eq rfl) rfl ?_
  refine wl_nil ?_
  refine we_then ?_
  refine wc_keep [4] (S' := [_]) rfl ?_
  refine wc_ret ?_
  have hE := (Option.some.inj hm).symm
  replace hE := hE.symm
  subst hE
  refine ret_one (Hr := []) [] Try.results4 (res_tmp rfl) ⟨rfl, rfl, rfl⟩ (fun _ _ hφ => ask [] rfl hφ) rfl rfl (.inl rfl)
 ·
  replace hm := iteF hm hs14
  refine wl_off rfl rfl rfl (freshS_eq rfl) ?_
  refine wl_pure rfl rfl rfl (freshS_eq rfl) rfl ?_
  refine wl_pure rfl rfl rfl (freshS_eq rfl) rfl ?_
  refine wl_nil ?_
  refine we_then ?_
  refine wc_keep [4] (S' := [_]) rfl ?_
  refine wc_ret ?_
  have hE := (Option.some.inj hm).symm
  replace hE := hE.symm
  subst hE
  refine ret_one (Hr := []) [] Try.results4 (res_tmp rfl) ⟨rfl, rfl, rfl⟩ (fun _ _ hφ => ask [] rfl hφ) rfl rfl (.inl rfl)
set_option maxRecDepth 100000 in
set_option maxHeartbeats 4000000 in
theorem w_ropewalkref17_Disk_Copy_s (N : Nat) (qg0 : Nat) (a0 : Int) (qp1 : Option Addr) (qn2 : Nat) (qc3 : Nat) (l1 : List Ropewalkref17_entryD) (o1 : Int) (o4 : List Ropewalkref17_entryD) (hm : m_ropewalkref17_Disk_Copy N a0 l1 = some (o1, o4)) : Spec Try.prog 25 [.pointer (some ⟨qg0, 0, none⟩)] [] [.blk qg0 [.int .i64 a0, .slice qp1 qn2 qc3] 85, .own 87 3 R_Ropewalkref17_entryD (.slice qp1 qn2 qc3) l1] (fun v Φr Hr => ∃ (o0 : Nat) (o2 : Option Addr) (o3 : Nat) (o5 : Nat), v = .pointer (some ⟨o0, 0, none⟩) ∧ Φr = [] ∧ Hr = [.blk o0 [.int .i64 o1, .slice o2 o5 o3] 85, .own 87 3 R_Ropewalkref17_entryD (.slice o2 o5 o3) o4, .blk qg0 [.int .i64 a0, .slice qp1 qn2 qc3] 85, .own 87 3 R_Ropewalkref17_entryD (.slice qp1 qn2 qc3) l1]) := by
 unfold m_ropewalkref17_Disk_Copy at hm
 refine spec_of Try.func25 rfl Try.ntmps25 rfl (S := [_]) rfl (fun C => ?_)
 refine wc_seq ?_
 refine wc_region ?_
 refine wl_pure rfl rfl rfl (freshS_eq rfl) rfl ?_
 refine wl_nil ?_
 refine we_then ?_
 refine wc_keep [0] (S' := [_]) rfl ?_
 refine wc_seq ?_
 refine wc_region ?_
 refine wl_pure rfl rfl rfl (freshS_eq rfl) rfl ?_
 refine wl_pure rfl rfl rfl (freshS_eq rfl) rfl ?_
 refine wl_fieldAddr rfl rfl rfl (freshS_eq rfl) rfl rfl tF_85_0 ?_
 refine wl_loadH 0 0 rfl rfl rfl (freshS_eq rfl) rfl rfl rfl (cs := [_]) rfl tS_3 tA_3 rfl rfl ?_
 obtain ⟨v10, hc10, hm⟩ := bindO_some hm
 refine wl_call [] [0, 1] rfl rfl rfl (freshS_eq rfl) rfl rfl fn_47 rfl (w_ropewalkref17_New_s N a0 _ hc10) (fun _ _ hφ => ask [] rfl hφ) rfl (H' := [_,_]) rfl ?_
 rintro _ _ _ ⟨c10_0, rfl, rfl, rfl⟩
 refine wl_pure rfl rfl rfl (freshS_eq rfl) rfl ?_
 refine wl_nil ?_
 refine we_then ?_
 refine wc_keep [3, 0] (S' := [_,_]) rfl ?_
 refine wc_seq ?_
 obtain ⟨bj_1, hm, hLj_1⟩ := bindO_some hm
 refine wc_cut (σ := (List Ropewalkref17_entryD) × (Option Addr) × Nat × Nat) (fun (j_1_3_f1_l, j_1_3_f1_p, j_1_3_f1_c, j_1_3_f1_n) => bj_1 = j_1_3_f1_l) (fun (j_1_3_f1_l, j_1_3_f1_p, j_1_3_f1_c, j_1_3_f1_n) => [(3, .pointer (some ⟨c10_0, 0, none⟩))]) (fun (j_1_3_f1_l, j_1_3_f1_p, j_1_3_f1_c, j_1_3_f1_n) => []) (fun (j_1_3_f1_l, j_1_3_f1_p, j_1_3_f1_c, j_1_3_f1_n) => [.blk c10_0 [.int .i64 v10, .slice j_1_3_f1_p j_1_3_f1_n j_1_3_f1_c] 85, .own 87 3 R_Ropewalkref17_entryD (.slice j_1_3_f1_p j_1_3_f1_n j_1_3_f1_c) j_1_3_f1_l, .blk qg0 [.int .i64 a0, .slice qp1 qn2 qc3] 85, .own 87 3 R_Ropewalkref17_entryD (.slice qp1 qn2 qc3) l1]) ?_ ?_
 ·
  refine wc_seq ?_
  refine wc_region ?_
  refine wl_pure rfl rfl rfl (freshS_eq rfl) rfl ?_
  refine wl_pure rfl rfl rfl (freshS_eq rfl) rfl ?_
  refine wl_fieldAddr rfl rfl rfl (freshS_eq rfl) rfl rfl tF_85_1 ?_
  refine wl_loadH 1 1 rfl rfl rfl (freshS_eq rfl) rfl rfl rfl (cs := [_]) rfl tS_83 tA_83 rfl rfl ?_
  refine wl_ownLen 2 rfl (fun hl15 _ => ?_)
  refine wl_len rfl rfl rfl (freshS_eq rfl) rfl rfl tE_83 ?_
  refine wl_as (d := 15) (v' := .int .i64 ((l1.length : Nat) : Int)) (S' := [_,_,_,_,_,_]) rfl rfl (len_is hl15) ?_
  refine wl_pure rfl rfl rfl (freshS_eq rfl) rfl ?_
  refine wl_nil ?_
  refine we_then ?_
  refine wc_keep [16, 15, 14, 3] (S' := [_,_,_,_]) rfl ?_
  refine wc_block ?_
  refine wc_rowNil 87 3 R_Ropewalkref17_entryD ?_
  refine wc_pick [3, 1, 0, 2] rfl (H' := [_,_,_,_]) rfl ?_
  refine wc_loop (σ := Nat × Nat × (List Ropewalkref17_entryD) × (Option Addr) × Nat × Nat) (fun (nu1, u1_16, u1_3_f1_l, u1_3_f1_p, u1_3_f1_c, u1_3_f1_n) => iter (m_ropewalkref17_Disk_Copy_L1 N l1) nu1 (u1_16, u1_3_f1_l) = some bj_1) (fun (nu1, u1_16, u1_3_f1_l, u1_3_f1_p, u1_3_f1_c, u1_3_f1_n) => nu1) (fun (nu1, u1_16, u1_3_f1_l, u1_3_f1_p, u1_3_f1_c, u1_3_f1_n) => [(16, .int .i64 ((u1_16 : Nat) : Int)), (15, .int .i64 ((l1.length : Nat) : Int)), (14, .slice qp1 qn2 qc3), (3, .pointer (some ⟨c10_0, 0, none⟩))]) (fun (nu1, u1_16, u1_3_f1_l, u1_3_f1_p, u1_3_f1_c, u1_3_f1_n) => []) (fun (nu1, u1_16, u1_3_f1_l, u1_3_f1_p, u1_3_f1_c, u1_3_f1_n) => [.own 87 3 R_Ropewalkref17_entryD (.slice qp1 qn2 qc3) l1, .blk c10_0 [.int .i64 v10, .slice u1_3_f1_p u1_3_f1_n u1_3_f1_c] 85, .own 87 3 R_Ropewalkref17_entryD (.slice u1_3_f1_p u1_3_f1_n u1_3_f1_c) u1_3_f1_l, .blk qg0 [.int .i64 a0, .slice qp1 qn2 qc3] 85]) (N, 0, [], none, 0, 0) hm [16, 15, 14, 3] rfl (fun _ _ hφ => ask [] rfl hφ) rfl (fun s_ hm => ?_)
  obtain ⟨nu1, u1_16, u1_3_f1_l, u1_3_f1_p, u1_3_f1_c, u1_3_f1_n⟩ := s_
  try dsimp only at hm ⊢
  obtain ⟨mu1, bu1, hnu1, hq, hLu1⟩ := iter_some hm
  clear hm
  subst hnu1
  replace hm := hq
  clear hq
  unfold m_ropewalkref17_Disk_Copy_L1 at hm
  try dsimp only at hm
  refine wc_seq ?_
  refine wc_region ?_
  refine wl_pure rfl rfl rfl (freshS_eq rfl) rfl ?_
  refine wl_as (d := 17) (v' := .bool (decide (u1_16 < l1.length))) (S' := [_,_,_,_]) rfl rfl (natlt (a := u1_16) (b := l1.length)) ?_
  refine wl_nil ?_
  refine we_then ?_
  refine wc_seq ?_
  refine wc_cond rfl (fun hb17 => ?_) (fun hb17 => ?_)
  ·
   replace hm := iteT hm hb17
   refine wc_keep [16, 15, 14, 3] (S' := [_,_,_,_]) rfl ?_
   refine wc_skip ?_
   refine we_then ?_
   refine wc_seq ?_
   refine wc_block ?_
   refine wc_seq ?_
   refine wc_region ?_
   obtain ⟨x18, hx18, hm⟩ := bindO_some hm
   refine wl_indexH 0 u1_16 rfl rfl rfl (freshS_eq rfl) rfl rfl rfl rfl rfl (get_lt hx18) tE_83 tS_87 (fun g18 eg18 => ?_)
   subst eg18
   refine wl_loadRow R_Ropewalkref17_entryD_opens 0 u1_16 0 rfl rfl rfl (freshS_eq rfl) rfl rfl rfl hx18 tS_87 tA_87 (v := fun _ => .agg #[.string x18.name, .string x18.firm, .string x18.loose]) (fun _ => rfl) (fun _ => rfl) (fun _ _ => ?_)
   refine wl_alloc rfl rfl rfl (freshS_eq rfl) rfl tZ_87 rfl (fun g5 => ?_)
   refine wl_store 0 0 rfl rfl rfl rfl rfl rfl rfl tS_87 rfl rfl rfl (all' := [_,_,_]) rfl (H' := [_,_,_,_,_]) rfl ?_
   refine wl_nil ?_
   refine we_then ?_
   refine wc_keep [5, 16, 15, 14, 3] (S' := [_,_,_,_,_]) rfl ?_
   obtain ⟨hg27, hm⟩ := gd_some hm
   refine wc_draw [0, 1, 2, 3, 4, 5, 8, 9] rfl rfl (fun hok => ?_)
   refine wx_pure hok 0 rfl rfl rfl (freshS_eq rfl) rfl rfl ?_
   refine wx_pure hok 1 rfl rfl rfl (freshS_eq rfl) rfl rfl ?_
   refine wx_pure hok 2 rfl rfl rfl (freshS_eq rfl) rfl rfl ?_
   refine wx_fieldAddr hok 3 rfl rfl rfl (freshS_eq rfl) rfl rfl rfl tF_85_1 ?_
   refine wx_loadH hok 4 2 1 rfl rfl rfl (freshS_eq rfl) rfl rfl rfl rfl (cs := [_]) rfl tS_83 tA_83 rfl rfl ?_
   refine wx_loadH hok 5 0 0 rfl rfl rfl (freshS_eq rfl) rfl rfl rfl rfl (cs := [_,_,_]) rfl tS_87 tA_87 rfl rfl ?_
   refine wx_step1 hok 6 rfl rfl rfl rfl ?_
   refine wl_buildSlice rfl rfl rfl (freshS_eq rfl) rfl tE_83 tS_87 tZ_87 rfl (zs := [.string ((⟨#[]⟩ : ByteArray)), .string ((⟨#[]⟩ : ByteArray)), .string ((⟨#[]⟩ : ByteArray))]) (by kernel_rfl) rfl (out := [_,_,_]) rfl (fun g26 => ?_)
   refine wl_nil ?_
   refine we_x [] [3] rfl rfl ?_
   refine wx_step1 hok 7 rfl rfl rfl rfl ?_
   refine wl_appendH [x18] 4 0 rfl rfl rfl (freshS_eq rfl) rfl rfl rfl rfl rfl (fun F w hφ => ⟨[.string x18.name, .string x18.firm, .string x18.loose], [], rfl, rfl, ⟨(), rfl, ask_nil⟩, rfl⟩) tE_83 tR_87 rfl rfl (Nat.le_trans hg27 (by decide)) (Nat.le_trans (Nat.mul_le_mul_right _ hg27) (by decide)) (H2 := fun p27 c27 => [.blk g26 [.string x18.name, .string x18.firm, .string x18.loose] 87, .blk g5 [.string x18.name, .string x18.firm, .string x18.loose] 87, .own 87 3 R_Ropewalkref17_entryD (.slice (some ⟨g18, 0, none⟩) qn2 qc3) l1, .blk c10_0 [.int .i64 v10, .slice u1_3_f1_p u1_3_f1_n u1_3_f1_c] 85, .own 87 3 R_Ropewalkref17_entryD (.slice p27 ((u1_3_f1_l ++ [x18]).length) c27) (u1_3_f1_l ++ [x18]), .blk qg0 [.int .i64 a0, .slice (some ⟨g18, 0, none⟩) qn2 qc3] 85]) (fun _ _ => rfl) (fun p27 c27 => ?_)
   refine wl_drop 0 rfl (H' := [_,_,_,_,_]) rfl ?_
   refine wl_nil ?_
   refine we_x [] [0] rfl rfl ?_
   refine wx_pure hok 8 rfl rfl rfl (freshS_eq rfl) rfl rfl ?_
   refine wx_fieldAddr hok 9 rfl rfl rfl (freshS_eq rfl) rfl rfl rfl tF_85_1 ?_
   refine wx_step1 hok 10 rfl rfl rfl rfl ?_
   refine wl_store 2 1 rfl rfl rfl rfl rfl rfl rfl tS_83 rfl rfl rfl (all' := [_,_]) rfl (H' := [_,_,_,_,_]) rfl ?_
   refine wl_nil ?_
   refine we_x [] [] rfl rfl ?_
   refine wx_done hok rfl ?_
   refine we_block_normal ?_
   refine we_then ?_
   refine wc_keep [16, 15, 14, 3] (S' := [_,_,_,_]) rfl ?_
   refine wc_region ?_
   refine wl_pure rfl rfl rfl (freshS_eq rfl) rfl ?_
   obtain ⟨hg30, hm⟩ := gd_some hm
   refine wl_as (d := 30) (v' := .int .i64 ((u1_16 + 1 : Nat) : Int)) (S' := [_,_,_,_]) rfl rfl (nat_add (a := u1_16) (b := 1) hg30) ?_
   refine wl_pure (S' := [_,_,_,_]) rfl rfl rfl rfl rfl ?_
   refine wl_nil ?_
   have hE := (Option.some.inj hm).symm
   replace hE := link_inl hLu1 hE
   refine we_pick [1, 2, 3, 4] rfl (H' := [_,_,_,_]) rfl ?_
   refine we_roundK (_, u1_16 + 1, u1_3_f1_l ++ [x18], p27, c27, (u1_3_f1_l ++ [x18]).length) (Nat.lt_succ_self _) hE [16, 15, 14, 3] rfl (fun _ _ hφ => ask [] rfl hφ) rfl
  ·
   replace hm := iteF hm hb17
   refine wc_keep [3] (S' := [_]) rfl ?_
   refine wc_exit ?_
   refine we_then_exit ?_
   refine we_then_exit ?_
   refine we_block_hit ?_
   have hE := (Option.some.inj hm).symm
   replace hE := link_inr hLu1 hE
   refine we_pick [1, 2, 3, 0] rfl (H' := [_,_,_,_]) rfl ?_
   refine we_join (u1_3_f1_l, u1_3_f1_p, u1_3_f1_c, u1_3_f1_n) hE [3] rfl (fun _ _ hφ => ask [] rfl hφ) rfl
 ·
  rintro ⟨j_1_3_f1_l, j_1_3_f1_p, j_1_3_f1_c, j_1_3_f1_n⟩ hE
  try dsimp only
  have hm := hLj_1
  rw [hE] at hm
  refine wc_seq ?_
  refine wc_region ?_
  refine wl_pure rfl rfl rfl (freshS_eq rfl) rfl ?_
  refine wl_pure rfl rfl rfl (freshS_eq rfl) rfl ?_
  refine wl_nil ?_
  refine we_then ?_
  refine wc_keep [2] (S' := [_]) rfl ?_
  refine wc_ret ?_
  have hE := (Option.some.inj hm).symm
  obtain ⟨hE0, hE1⟩ := Prod.mk.inj hE
  clear hE
  replace hE0 := hE0.symm
  subst hE0
  replace hE1 := hE1.symm
  subst hE1
  refine ret_one (Hr := [_, _, _, _]) [0, 1, 2, 3] Try.results25 (res_tmp rfl) ⟨c10_0, j_1_3_f1_p, j_1_3_f1_c, j_1_3_f1_n, rfl, rfl, rfl⟩ (fun _ _ hφ => ask [] rfl hφ) rfl rfl (.inl rfl)
end Go.Proofs.Ytkakbckmajdggaa
