import Derived.Test.YtkakbckmajdggaaXW2
namespace Go.Proofs.Ytkakbckmajdggaa
open Go.RowKit
set_option maxRecDepth 100000
set_option maxHeartbeats 4000000
theorem w_ropewalkref17_New_s (N : Nat) (a0 : Int) (o1 : Int) (hm : m_ropewalkref17_New N a0 = some o1) : Spec Try.prog 47 [.int .i64 a0] [] [] (fun v Φr Hr => ∃ (o0 : Nat), v = .pointer (some ⟨o0,0, none⟩) ∧ Φr = [] ∧ Hr = [.blk o0 [.int .i64 o1, .slice none 0 0] 85]) := by
 unfold m_ropewalkref17_New at hm
 refine spec_of Try.func47 rfl Try.ntmps47 rfl (S := [_]) rfl (fun C => (wc_seq (wc_region (wP rfl (wl_nil (we_then (wc_keep [0] (S' := [_]) rfl (wc_seq ?_))))))))
 obtain ⟨bj_1, hm, hLj_1⟩ := bindO_some hm
 refine wc_cut (σ := Int) (fun j_1_0 => bj_1 = j_1_0) (fun j_1_0 => [(0, .int .i64 j_1_0)]) (fun j_1_0 => []) (fun j_1_0 => []) ?_ ?_
 ·
  refine wc_seq (wc_region (wP rfl (wP rfl (wl_nil (we_then (wc_keep [4,0] (S' := [_,_]) rfl ?_))))))
  refine wc_cond rfl (fun hb4 => ?_) (fun hb4 => ?_)
  ·
   replace hm := iteT hm hb4
   refine wc_keep [] (S' := []) rfl (wc_region (wP rfl (wl_nil ?_)))
   have hE := (Option.some.inj hm).symm
   refine we_join 0 hE [0] rfl (asK [] rfl) rfl
  ·
   replace hm := iteF hm hb4
   refine wc_keep [0] (S' := [_]) rfl (wc_skip ?_)
   have hE := (Option.some.inj hm).symm
   refine we_join a0 hE [0] rfl (asK [] rfl) rfl
 ·
  rintro j_1_0 hE
  try dsimp only
  have hm := hLj_1
  rw [hE] at hm
  refine wc_seq (wc_region (wP rfl (wl_build rfl rfl rfl (freshS_eq rfl) rfl tZ_85 tP_85 rfl (out := [_,_]) rfl (wB rfl (fun g7 => (wP rfl (wl_nil (we_then (wc_keep [2] (S' := [_]) rfl (wc_ret ?_))))))))))
  have hE := (Option.some.inj hm).symm
  replace hE := hE.symm
  subst hE
  refine ret_one (Hr := [_]) [0] Try.results47 (res_tmp rfl) ⟨g7, rfl, rfl, rfl⟩ (asK [] rfl) rfl rfl (.inl rfl)
theorem w_ropewalklaw17_begin_s (N : Nat) (a0 : Int) (o3 : Int) (hm : m_ropewalklaw17_begin N a0 = some o3) : Spec Try.prog 21 [.int .i64 a0] [] [] (fun v Φr Hr => ∃ (o0 : Nat) (o1 : Nat) (o2 : Nat), v = .agg #[.pointer (some ⟨o0,0, none⟩), .pointer (some ⟨o2,0, none⟩)] ∧ Φr = [] ∧ Hr = [.blk o0 [.int .i64 (maxI a0 0), .map (some o1)] 59, mapP (keyStr (tStr_run tT_9)) true R_Disk_rowsD o1 ([] : List (ByteArray × Disk_rowsD)), .blk o2 [.int .i64 o3, .slice none 0 0] 85]) := by
 unfold m_ropewalklaw17_begin at hm
 refine spec_of Try.func21 rfl Try.ntmps21 rfl (S := [_]) rfl (fun C => (wc_seq (wc_region (wl_alloc rfl rfl rfl (freshS_eq rfl) rfl tZ_44 rfl (fun g2 => (wl_nil (we_then (wc_seq (wc_region (wP rfl ?_))))))))))
 obtain ⟨_, hc4, hm⟩ := bindO_some hm
 try dsimp only at hm
 refine wC [] [0] rfl fn_10 rfl (w_disk_New_s N a0 hc4) (asK [] rfl) rfl (H' := [_]) rfl ?_
 rintro _ _ _ ⟨c4_0, c4_1, rfl, rfl, rfl⟩
 refine wP rfl ?_
 obtain ⟨v6, hc6, hm⟩ := bindO_some hm
 refine wC [] [0,1,2] rfl fn_47 rfl (w_ropewalkref17_New_s N a0 _ hc6) (asK [] rfl) rfl (H' := [_,_,_]) rfl ?_
 rintro _ _ _ ⟨c6_0, rfl, rfl, rfl⟩
 refine wl_build rfl rfl rfl (freshS_eq rfl) rfl tZ_44 tP_44 rfl (out := [_,_]) rfl (wS 3 0 rfl tS_44 (all' := [_,_]) rfl (H' := [_,_,_,_]) rfl (wl_nil (we_then (wc_keep [2] (S' := [_]) rfl (wc_ret ?_)))))
 have hE := (Option.some.inj hm).symm
 replace hE := hE.symm
 subst hE
 refine ret_one (Hr := [_,_,_]) [1,2,0] Try.results21 (res_cell 3 rfl rfl tS_44 tA_44 rfl rfl) ⟨c4_0, c4_1, c6_0, rfl, rfl, rfl⟩ (asK [] rfl) rfl rfl (.inl rfl)
theorem w_ropewalkref17_Disk_split_s (N : Nat) (qg0 : Nat) (a0 : Int) (qp1 : Option Addr) (qn2 : Nat) (qc3 : Nat) (l1 : List Ropewalkref17_entryD) (a2 : ByteArray) (o0 : ByteArray) (o1 : ByteArray) (o2 : ByteArray) (o5 : List Ropewalkref17_entryD) (o7 : Bool) (hm : m_ropewalkref17_Disk_split N a0 l1 a2 = some (o0, o1, o2, o5, o7)) : Spec Try.prog 75 [.pointer (some ⟨qg0,0, none⟩), .string a2] [] [.blk qg0 [.int .i64 a0, .slice qp1 qn2 qc3] 85, .own 87 3 R_Ropewalkref17_entryD (.slice qp1 qn2 qc3) l1] (fun v Φr Hr => ∃ (o3 : Option Addr) (o4 : Nat) (o6 : Nat), v = .tuple #[.agg #[.string o0, .string o1, .string o2], .slice o3 o6 o4, .bool o7] ∧ Φr = [] ∧ Hr = [.own 87 3 R_Ropewalkref17_entryD (.slice o3 o6 o4) o5, .blk qg0 [.int .i64 a0, .slice qp1 qn2 qc3] 85, .own 87 3 R_Ropewalkref17_entryD (.slice qp1 qn2 qc3) l1]) := by
 unfold m_ropewalkref17_Disk_split at hm
 refine spec_of Try.func75 rfl Try.ntmps75 rfl (S := [_,_]) rfl (fun C => (wc_seq (wc_region (wl_alloc rfl rfl rfl (freshS_eq rfl) rfl tZ_87 rfl (fun g4 => (wP rfl (wP rfl (wl_nil (we_then (wc_keep [4,0,1] (S' := [_,_,_]) rfl (wc_seq (wc_region (wP rfl (wl_build rfl rfl rfl (freshS_eq rfl) rfl tZ_87 tP_87 rfl (out := [_,_,_]) rfl (wl_alloc rfl rfl rfl (freshS_eq rfl) rfl tZ_87 rfl (fun g7 => ?_))))))))))))))))
 refine wS 0 0 rfl tS_87 (all' := [_,_,_]) rfl (H' := [_,_,_,_]) rfl (wl_nil (we_then (wc_keep [7,4,0,1] (S' := [_,_,_,_]) rfl (wc_seq (wc_region (wP rfl (wl_nil (we_then (wc_seq (wc_region (wP rfl (wl_nil (we_then ?_)))))))))))))
 refine wc_seq ?_
 obtain ⟨bj_1, hm, hLj_1⟩ := bindO_some hm
 refine wc_cut (σ := ByteArray × ByteArray × ByteArray × Bool × (List Ropewalkref17_entryD) × (Option Addr) × Nat × Nat) (fun (j_1_7_f0, j_1_7_f1, j_1_7_f2, j_1_8, j_1_9_l, j_1_9_p, j_1_9_c, j_1_9_n) => bj_1 = (j_1_7_f0, j_1_7_f1, j_1_7_f2, j_1_8, j_1_9_l)) (fun (j_1_7_f0, j_1_7_f1, j_1_7_f2, j_1_8, j_1_9_l, j_1_9_p, j_1_9_c, j_1_9_n) => [(7, .pointer (some ⟨g7,0, none⟩)), (4, .pointer (some ⟨g4,0, none⟩)), (8, .bool j_1_8), (9, .slice j_1_9_p j_1_9_n j_1_9_c)]) (fun (j_1_7_f0, j_1_7_f1, j_1_7_f2, j_1_8, j_1_9_l, j_1_9_p, j_1_9_c, j_1_9_n) => []) (fun (j_1_7_f0, j_1_7_f1, j_1_7_f2, j_1_8, j_1_9_l, j_1_9_p, j_1_9_c, j_1_9_n) => [.blk g7 [.string j_1_7_f0, .string j_1_7_f1, .string j_1_7_f2] 87, .blk g4 [.string ((⟨#[]⟩ : ByteArray)), .string ((⟨#[]⟩ : ByteArray)), .string ((⟨#[]⟩ : ByteArray))] 87, .own 87 3 R_Ropewalkref17_entryD (.slice j_1_9_p j_1_9_n j_1_9_c) j_1_9_l, .blk qg0 [.int .i64 a0, .slice qp1 qn2 qc3] 85, .own 87 3 R_Ropewalkref17_entryD (.slice qp1 qn2 qc3) l1]) ?_ ?_
 ·
  refine wc_seq (wc_region (wP rfl (wP rfl (wF rfl tF_85_1 (wD 2 1 rfl tS_83 tA_83 rfl (wl_ownLen 3 rfl (fun hl18 _ => (wN rfl tE_83 (wl_as (d := 18) (v' := .int .i64 ((l1.length : Nat) : Int)) (S' := [_,_,_,_,_,_,_,_,_,_]) rfl rfl (len_is hl18) (wP rfl (wl_nil (we_then (wc_keep [19,18,17,9,8,7,4,1] (S' := [_,_,_,_,_,_,_,_]) rfl (wc_block ?_))))))))))))))
  refine wc_rowNil 87 3 R_Ropewalkref17_entryD (wc_pick [4,0,1,2,3] rfl (H' := [_,_,_,_,_]) rfl (wc_loop (σ := Nat × Nat × (List Ropewalkref17_entryD) × Bool × ByteArray × ByteArray × ByteArray × (Option Addr) × Nat × Nat) (fun (nu1, u1_19, u1_9_l, u1_8, u1_7_f0, u1_7_f1, u1_7_f2, u1_9_p, u1_9_c, u1_9_n) => iter (m_ropewalkref17_Disk_split_L1 N l1 a2) nu1 (u1_19, u1_9_l, u1_8, u1_7_f0, u1_7_f1, u1_7_f2) = some bj_1) (fun (nu1, u1_19, u1_9_l, u1_8, u1_7_f0, u1_7_f1, u1_7_f2, u1_9_p, u1_9_c, u1_9_n) => nu1) (fun (nu1, u1_19, u1_9_l, u1_8, u1_7_f0, u1_7_f1, u1_7_f2, u1_9_p, u1_9_c, u1_9_n) => [(19, .int .i64 ((u1_19 : Nat) : Int)), (18, .int .i64 ((l1.length : Nat) : Int)), (17, .slice qp1 qn2 qc3), (9, .slice u1_9_p u1_9_n u1_9_c), (8, .bool u1_8), (7, .pointer (some ⟨g7,0, none⟩)), (4, .pointer (some ⟨g4,0, none⟩)), (1, .string a2)]) (fun (nu1, u1_19, u1_9_l, u1_8, u1_7_f0, u1_7_f1, u1_7_f2, u1_9_p, u1_9_c, u1_9_n) => []) (fun (nu1, u1_19, u1_9_l, u1_8, u1_7_f0, u1_7_f1, u1_7_f2, u1_9_p, u1_9_c, u1_9_n) => [.own 87 3 R_Ropewalkref17_entryD (.slice qp1 qn2 qc3) l1, .own 87 3 R_Ropewalkref17_entryD (.slice u1_9_p u1_9_n u1_9_c) u1_9_l, .blk g7 [.string u1_7_f0, .string u1_7_f1, .string u1_7_f2] 87, .blk g4 [.string ((⟨#[]⟩ : ByteArray)), .string ((⟨#[]⟩ : ByteArray)), .string ((⟨#[]⟩ : ByteArray))] 87, .blk qg0 [.int .i64 a0, .slice qp1 qn2 qc3] 85]) (N, 0,[], false, a2, (⟨#[]⟩ : ByteArray), (⟨#[]⟩ : ByteArray), none, 0,0) hm [19,18,17,9,8,7,4,1] rfl (asK [] rfl) rfl (fun s_ hm => ?_)))
  obtain ⟨nu1, u1_19, u1_9_l, u1_8, u1_7_f0, u1_7_f1, u1_7_f2, u1_9_p, u1_9_c, u1_9_n⟩ := s_
  try dsimp only at hm ⊢
  obtain ⟨mu1, bu1, hnu1, hq, hLu1⟩ := iter_some hm
  clear hm
  subst hnu1
  replace hm := hq
  clear hq
  unfold m_ropewalkref17_Disk_split_L1 at hm
  try dsimp only at hm
  refine wc_seq (wc_region (wP rfl (wl_as (d := 20) (v' := .bool (decide (u1_19 < l1.length))) (S' := [_,_,_,_,_,_,_,_]) rfl rfl (natlt (a := u1_19) (b := l1.length)) (wl_nil (we_then (wc_seq ?_))))))
  refine wc_cond rfl (fun hb20 => ?_) (fun hb20 => ?_)
  ·
   replace hm := iteT hm hb20
   refine wc_keep [19,18,17,9,8,7,4,1] (S' := [_,_,_,_,_,_,_,_]) rfl (wc_skip (we_then (wc_seq ?_)))
   obtain ⟨bj_2, hm, hLj_2⟩ := bindO_some hm
   refine wc_cut (σ := (List Ropewalkref17_entryD) × Bool × ByteArray × ByteArray × ByteArray × (Option Addr) × Nat × Nat) (fun (j_2_9_l, j_2_8, j_2_7_f0, j_2_7_f1, j_2_7_f2, j_2_9_p, j_2_9_c, j_2_9_n) => bj_2 = (j_2_9_l, j_2_8, j_2_7_f0, j_2_7_f1, j_2_7_f2)) (fun (j_2_9_l, j_2_8, j_2_7_f0, j_2_7_f1, j_2_7_f2, j_2_9_p, j_2_9_c, j_2_9_n) => [(19, .int .i64 ((u1_19 : Nat) : Int)), (18, .int .i64 ((l1.length : Nat) : Int)), (17, .slice qp1 qn2 qc3), (9, .slice j_2_9_p j_2_9_n j_2_9_c), (8, .bool j_2_8), (7, .pointer (some ⟨g7,0, none⟩)), (4, .pointer (some ⟨g4,0, none⟩)), (1, .string a2)]) (fun (j_2_9_l, j_2_8, j_2_7_f0, j_2_7_f1, j_2_7_f2, j_2_9_p, j_2_9_c, j_2_9_n) => []) (fun (j_2_9_l, j_2_8, j_2_7_f0, j_2_7_f1, j_2_7_f2, j_2_9_p, j_2_9_c, j_2_9_n) => [.own 87 3 R_Ropewalkref17_entryD (.slice qp1 qn2 qc3) l1, .own 87 3 R_Ropewalkref17_entryD (.slice j_2_9_p j_2_9_n j_2_9_c) j_2_9_l, .blk g7 [.string j_2_7_f0, .string j_2_7_f1, .string j_2_7_f2] 87, .blk g4 [.string ((⟨#[]⟩ : ByteArray)), .string ((⟨#[]⟩ : ByteArray)), .string ((⟨#[]⟩ : ByteArray))] 87, .blk qg0 [.int .i64 a0, .slice qp1 qn2 qc3] 85]) ?_ ?_
   ·
    refine wc_block (wc_seq (wc_region ?_))
    obtain ⟨x21, hx21, hm⟩ := bindO_some hm
    refine wl_indexH 0 u1_19 rfl rfl rfl (freshS_eq rfl) rfl rfl rfl rfl rfl (get_lt hx21) tE_83 tS_87 (fun g21 eg21 => ?_)
    subst eg21
    refine wl_loadRow R_Ropewalkref17_entryD_opens 0 u1_19 0 rfl rfl rfl (freshS_eq rfl) rfl rfl rfl hx21 tS_87 tA_87 (v := fun _ => .agg #[.string x21.name, .string x21.firm, .string x21.loose]) (fun _ => rfl) (fun _ => rfl) (fun _ _ => (wl_alloc rfl rfl rfl (freshS_eq rfl) rfl tZ_87 rfl (fun g11 => (wS 0 0 rfl tS_87 (all' := [_,_,_]) rfl (H' := [_,_,_,_,_,_]) rfl (wl_nil (we_then (wc_keep [11,19,18,17,9,8,7,4,1] (S' := [_,_,_,_,_,_,_,_,_]) rfl (wc_seq (wc_seq (wc_region (wF rfl tF_87_0 (wD 0 0 rfl tS_9 tA_9 rfl (wP rfl (wP rfl (wl_nil ?_)))))))))))))))
    refine we_then (wc_keep [26,11,19,18,17,9,8,7,4,1] (S' := [_,_,_,_,_,_,_,_,_,_]) rfl ?_)
    refine wc_cond rfl (fun hb26 => ?_) (fun hb26 => ?_)
    ·
     replace hm := iteT hm hb26
     refine wc_keep [11,19,18,17,9,8,7,4,1] (S' := [_,_,_,_,_,_,_,_,_]) rfl (wc_seq (wc_region (wP rfl (wl_loadH 0 0 rfl rfl rfl (freshS_eq rfl) rfl rfl rfl (cs := [_,_,_]) rfl tS_87 tA_87 rfl rfl (wl_buildSlice rfl rfl rfl (freshS_eq rfl) rfl tE_83 tS_87 tZ_87 rfl (zs := [.string ((⟨#[]⟩ : ByteArray)), .string ((⟨#[]⟩ : ByteArray)), .string ((⟨#[]⟩ : ByteArray))]) (by kernel_rfl) rfl (out := [_,_,_]) rfl (fun g29 => ?_))))))
     obtain ⟨hg30, hm⟩ := gd_some hm
     refine wl_appendH [x21] 3 0 rfl rfl rfl (freshS_eq rfl) rfl rfl rfl rfl rfl (fun F w hφ => ⟨[.string x21.name, .string x21.firm, .string x21.loose],[], rfl, rfl, ⟨(), rfl, ask_nil⟩, rfl⟩) tE_83 tR_87 rfl rfl (Nat.le_trans hg30 (by decide)) (Nat.le_trans (Nat.mul_le_mul_right _ hg30) (by decide)) (H2 := fun p30 c30 => [_,_,_, .own 87 3 R_Ropewalkref17_entryD (.slice p30 ((u1_9_l ++ [x21]).length) c30) (u1_9_l ++ [x21]), _,_,_]) (fun _ _ => rfl) (fun p30 c30 => (wl_drop 0 rfl (H' := [_,_,_,_,_,_]) rfl (wl_pure (S' := [_,_,_,_,_,_,_,_,_,_,_,_]) rfl rfl rfl rfl rfl (wl_nil (we_then (wc_keep [9,19,18,17,8,7,4,1] (S' := [_,_,_,_,_,_,_,_]) rfl (wc_exit (we_then_exit (we_block_hit ?_)))))))))
     have hE := (Option.some.inj hm).symm
     refine we_pick [1,2,3,4,5] rfl (H' := [_,_,_,_,_]) rfl ?_
     refine we_join (u1_9_l ++ [x21], u1_8, u1_7_f0, u1_7_f1, u1_7_f2, p30, c30, (u1_9_l ++ [x21]).length) hE [19,18,17,9,8,7,4,1] rfl (asK [] rfl) rfl
    ·
     replace hm := iteF hm hb26
     refine wc_keep [11,19,18,17,9,7,4,1] (S' := [_,_,_,_,_,_,_,_]) rfl (wc_skip (we_then (wc_seq (wc_region (wl_loadH 0 0 rfl rfl rfl (freshS_eq rfl) rfl rfl rfl (cs := [_,_,_]) rfl tS_87 tA_87 rfl rfl (wS 3 0 rfl tS_87 (all' := [_,_,_]) rfl (H' := [_,_,_,_,_,_]) rfl (wl_nil (we_then (wc_keep [19,18,17,9,7,4,1] (S' := [_,_,_,_,_,_,_]) rfl (wc_region (wP rfl (wl_nil (we_block_normal ?_)))))))))))))
     have hE := (Option.some.inj hm).symm
     refine we_pick [1,2,3,4,5] rfl (H' := [_,_,_,_,_]) rfl ?_
     refine we_join (u1_9_l, true, x21.name, x21.firm, x21.loose, u1_9_p, u1_9_c, u1_9_n) hE [19,18,17,9,8,7,4,1] rfl (asK [] rfl) rfl
   ·
    rintro ⟨j_2_9_l, j_2_8, j_2_7_f0, j_2_7_f1, j_2_7_f2, j_2_9_p, j_2_9_c, j_2_9_n⟩ hE
    try dsimp only
    have hm := hLj_2
    rw [hE] at hm
    try dsimp only at hm
    refine wc_region (wP rfl ?_)
    obtain ⟨hg32, hm⟩ := gd_some hm
    refine wl_as (d := 32) (v' := .int .i64 ((u1_19 + 1 : Nat) : Int)) (S' := [_,_,_,_,_,_,_,_]) rfl rfl (nat_add (a := u1_19) (b := 1) hg32) (wl_pure (S' := [_,_,_,_,_,_,_,_]) rfl rfl rfl rfl rfl (wl_nil ?_))
    have hE := (Option.some.inj hm).symm
    replace hE := link_inl hLu1 hE
    refine we_roundK (_, u1_19 + 1, j_2_9_l, j_2_8, j_2_7_f0, j_2_7_f1, j_2_7_f2, j_2_9_p, j_2_9_c, j_2_9_n) (Nat.lt_succ_self _) hE [19,18,17,9,8,7,4,1] rfl (asK [] rfl) rfl
  ·
   replace hm := iteF hm hb20
   refine wc_keep [9,8,7,4] (S' := [_,_,_,_]) rfl (wc_exit (we_then_exit (we_then_exit (we_block_hit ?_))))
   have hE := (Option.some.inj hm).symm
   replace hE := link_inr hLu1 hE
   refine we_pick [2,3,1,4,0] rfl (H' := [_,_,_,_,_]) rfl ?_
   refine we_join (u1_7_f0, u1_7_f1, u1_7_f2, u1_8, u1_9_l, u1_9_p, u1_9_c, u1_9_n) hE [7,4,8,9] rfl (asK [] rfl) rfl
 ·
  rintro ⟨j_1_7_f0, j_1_7_f1, j_1_7_f2, j_1_8, j_1_9_l, j_1_9_p, j_1_9_c, j_1_9_n⟩ hE
  try dsimp only
  have hm := hLj_1
  rw [hE] at hm
  try dsimp only at hm
  refine wc_seq (wc_region (wl_loadH 0 0 rfl rfl rfl (freshS_eq rfl) rfl rfl rfl (cs := [_,_,_]) rfl tS_87 tA_87 rfl rfl (wP rfl (wP rfl (wS 1 0 rfl tS_87 (all' := [_,_,_]) rfl (H' := [_,_,_,_,_]) rfl (wP rfl (wP rfl (wl_nil (we_then (wc_keep [6,5,4] (S' := [_,_,_]) rfl (wc_ret ?_)))))))))))
  have hE := (Option.some.inj hm).symm
  obtain ⟨hE0, hF1⟩ := Prod.mk.inj hE
  obtain ⟨hE1, hF2⟩ := Prod.mk.inj hF1
  obtain ⟨hE2, hF3⟩ := Prod.mk.inj hF2
  obtain ⟨hE3, hE4⟩ := Prod.mk.inj hF3
  clear hE hF1 hF2 hF3
  replace hE0 := hE0.symm
  subst hE0
  replace hE1 := hE1.symm
  subst hE1
  replace hE2 := hE2.symm
  subst hE2
  replace hE3 := hE3.symm
  subst hE3
  replace hE4 := hE4.symm
  subst hE4
  refine ret_three (Hr := [_,_,_]) [2,3,4] Try.results75 (res_cell 1 rfl rfl tS_87 tA_87 rfl rfl) (res_tmp rfl) (res_tmp rfl) ⟨j_1_9_p, j_1_9_c, j_1_9_n, rfl, rfl, rfl⟩ (asK [] rfl) rfl rfl (.inl rfl)
theorem w_ropewalkref17_fit_s (N : Nat) (a0 : ByteArray) (o0 : Bool) (hm : m_ropewalkref17_fit N a0 = some o0) : Spec Try.prog 76 [.string a0] [] [] (fun v Φr Hr => v = .bool o0 ∧ Φr = [] ∧ Hr = []) := by
 unfold m_ropewalkref17_fit at hm
 refine spec_of Try.func76 rfl Try.ntmps76 rfl (S := [_]) rfl (fun C => (wc_seq (wc_region (wP rfl (wl_nil (we_then (wc_keep [0] (S' := [_]) rfl (wc_seq (wc_region (wP rfl (wl_nil (we_then (wc_seq (wc_region ?_))))))))))))))
 refine wP rfl (wl_nil (we_then (wc_seq ?_)))
 obtain ⟨bj_1, hm, hLj_1⟩ := bindO_some hm
 refine wc_cut (σ := Nat) (fun j_1_4 => bj_1 = j_1_4) (fun j_1_4 => [(0, .string a0), (4, .int .i64 ((j_1_4 : Nat) : Int))]) (fun j_1_4 => []) (fun j_1_4 => []) ?_ ?_
 ·
  refine wc_seq (wc_region (wP rfl (wl_nil (we_then (wc_block (wc_loop (σ := Nat × Nat × Nat) (fun (nu1, u1_5, u1_4) => iter (m_ropewalkref17_fit_L1 N a0) nu1 (u1_5, u1_4) = some bj_1) (fun (nu1, u1_5, u1_4) => nu1) (fun (nu1, u1_5, u1_4) => [(5, .int .i64 ((u1_5 : Nat) : Int)), (4, .int .i64 ((u1_4 : Nat) : Int)), (3, .string ((⟨#[97,98,99,100,101,102,103,104,105,106,107,108,109,110,111,112,113,114,115,116,117,118,119,120,121,122,48,49,50,51,52,53,54,55,56,57,46,45]⟩ : ByteArray))), (0, .string a0)]) (fun (nu1, u1_5, u1_4) => []) (fun (nu1, u1_5, u1_4) => []) (N, 0,0) hm [5,4,3,0] rfl (asK [] rfl) rfl (fun s_ hm => ?_)))))))
  obtain ⟨nu1, u1_5, u1_4⟩ := s_
  try dsimp only at hm ⊢
  obtain ⟨mu1, bu1, hnu1, hq, hLu1⟩ := iter_some hm
  clear hm
  subst hnu1
  replace hm := hq
  clear hq
  unfold m_ropewalkref17_fit_L1 at hm
  try dsimp only at hm
  refine wc_seq (wc_seq (wc_region (wP rfl (wP rfl (wl_reck rfl rfl rfl (freshS_eq rfl) (rk_strLen rfl rfl tT_9) (wP rfl (wl_as (d := 10) (v' := .bool (decide (u1_5 < a0.size))) (S' := [_,_,_,_,_,_,_]) rfl rfl (natlt (a := u1_5) (b := a0.size)) (wl_nil (we_then (wc_keep [10,5,4,3,0] (S' := [_,_,_,_,_]) rfl ?_))))))))))
  refine wc_cond rfl (fun hb10 => ?_) (fun hb10 => ?_)
  ·
   replace hm := iteT hm hb10
   refine wc_keep [5,4,3,0] (S' := [_,_,_,_]) rfl (wc_skip (we_then (wc_seq ?_)))
   obtain ⟨bj_2, hm, hLj_2⟩ := bindO_some hm
   refine wc_cut (σ := Nat) (fun j_2_4 => bj_2 = j_2_4) (fun j_2_4 => [(5, .int .i64 ((u1_5 : Nat) : Int)), (4, .int .i64 ((j_2_4 : Nat) : Int)), (3, .string ((⟨#[97,98,99,100,101,102,103,104,105,106,107,108,109,110,111,112,113,114,115,116,117,118,119,120,121,122,48,49,50,51,52,53,54,55,56,57,46,45]⟩ : ByteArray))), (0, .string a0)]) (fun j_2_4 => []) (fun j_2_4 => []) ?_ ?_
   ·
    refine wc_block (wc_seq (wc_region (wP rfl (wl_nil (we_then (wc_block (wc_loop (σ := Nat × Nat × Nat) (fun (nu2, u2_6, u2_4) => iter (m_ropewalkref17_fit_L2 N a0 u1_5) nu2 (u2_6, u2_4) = some bj_2) (fun (nu2, u2_6, u2_4) => nu2) (fun (nu2, u2_6, u2_4) => [(6, .int .i64 ((u2_6 : Nat) : Int)), (5, .int .i64 ((u1_5 : Nat) : Int)), (4, .int .i64 ((u2_4 : Nat) : Int)), (3, .string ((⟨#[97,98,99,100,101,102,103,104,105,106,107,108,109,110,111,112,113,114,115,116,117,118,119,120,121,122,48,49,50,51,52,53,54,55,56,57,46,45]⟩ : ByteArray))), (0, .string a0)]) (fun (nu2, u2_6, u2_4) => []) (fun (nu2, u2_6, u2_4) => []) (N, 0, u1_4) hm [6,5,4,3,0] rfl (asK [] rfl) rfl (fun s_ hm => ?_))))))))
    obtain ⟨nu2, u2_6, u2_4⟩ := s_
    try dsimp only at hm ⊢
    obtain ⟨mu2, bu2, hnu2, hq, hLu2⟩ := iter_some hm
    clear hm
    subst hnu2
    replace hm := hq
    clear hq
    unfold m_ropewalkref17_fit_L2 at hm
    try dsimp only at hm
    refine wc_seq (wc_seq (wc_region (wP rfl (wP rfl (wl_reck rfl rfl rfl (freshS_eq rfl) (rk_strLen rfl rfl tT_9) (wP rfl (wl_as (d := 16) (v' := .bool (decide (u2_6 < ((⟨#[97,98,99,100,101,102,103,104,105,106,107,108,109,110,111,112,113,114,115,116,117,118,119,120,121,122,48,49,50,51,52,53,54,55,56,57,46,45]⟩ : ByteArray).size)))) (S' := [_,_,_,_,_,_,_,_]) rfl rfl (natlt (a := u2_6) (b := (⟨#[97,98,99,100,101,102,103,104,105,106,107,108,109,110,111,112,113,114,115,116,117,118,119,120,121,122,48,49,50,51,52,53,54,55,56,57,46,45]⟩ : ByteArray).size)) (wl_nil (we_then (wc_keep [16,6,5,4,3,0] (S' := [_,_,_,_,_,_]) rfl ?_))))))))))
    refine wc_cond rfl (fun hb16 => ?_) (fun hb16 => ?_)
    ·
     replace hm := iteT hm hb16
     refine wc_keep [6,5,4,3,0] (S' := [_,_,_,_,_]) rfl (wc_skip (we_then (wc_seq ?_)))
     obtain ⟨bj_3, hm, hLj_3⟩ := bindO_some hm
     refine wc_cut (σ := Nat) (fun j_3_4 => bj_3 = j_3_4) (fun j_3_4 => [(6, .int .i64 ((u2_6 : Nat) : Int)), (5, .int .i64 ((u1_5 : Nat) : Int)), (4, .int .i64 ((j_3_4 : Nat) : Int)), (3, .string ((⟨#[97,98,99,100,101,102,103,104,105,106,107,108,109,110,111,112,113,114,115,116,117,118,119,120,121,122,48,49,50,51,52,53,54,55,56,57,46,45]⟩ : ByteArray))), (0, .string a0)]) (fun j_3_4 => []) (fun j_3_4 => []) ?_ ?_
     ·
      refine wc_block (wc_seq ?_)
      obtain ⟨x21, hx21, hm⟩ := bindO_some hm
      obtain ⟨x24, hx24, hm⟩ := bindO_some hm
      refine wc_draw [0,1,2,3,4,5,6] rfl rfl (fun hok => (xP hok 0 rfl (xP hok 1 rfl (wx_reck hok 2 rfl rfl rfl (freshS_eq rfl) rfl (rk_strAt u1_5 rfl rfl rfl rfl hx21 tT_9) (xP hok 3 rfl (xP hok 4 rfl (wx_reck hok 5 rfl rfl rfl (freshS_eq rfl) rfl (rk_strAt u2_6 rfl rfl rfl rfl hx24 tT_9) (xP hok 6 rfl (wx_as (d := 25) (v' := .bool (x21.toNat == x24.toNat)) (S' := [_,_,_,_,_,_,_,_,_,_,_]) rfl rfl (nateq (a := x21.toNat) (b := x24.toNat)) (wx_done hok rfl (we_then (wc_keep [25,6,5,4,3,0] (S' := [_,_,_,_,_,_]) rfl ?_))))))))))))
      refine wc_cond rfl (fun hb25 => ?_) (fun hb25 => ?_)
      ·
       replace hm := iteT hm hb25
       refine wc_keep [6,5,4,3,0] (S' := [_,_,_,_,_]) rfl (wc_region (wP rfl (wP rfl ?_)))
       obtain ⟨hg27, hm⟩ := gd_some hm
       refine wl_as (d := 27) (v' := .int .i64 ((u2_4 + 1 : Nat) : Int)) (S' := [_,_,_,_,_,_]) rfl rfl (nat_add (a := u2_4) (b := 1) hg27) (wl_pure (S' := [_,_,_,_,_,_]) rfl rfl rfl rfl rfl (wl_nil (we_block_normal ?_)))
       have hE := (Option.some.inj hm).symm
       refine we_join (u2_4 + 1) hE [6,5,4,3,0] rfl (asK [] rfl) rfl
      ·
       replace hm := iteF hm hb25
       refine wc_keep [6,5,4,3,0] (S' := [_,_,_,_,_]) rfl (wc_skip (we_block_normal ?_))
       have hE := (Option.some.inj hm).symm
       refine we_join u2_4 hE [6,5,4,3,0] rfl (asK [] rfl) rfl
     ·
      rintro j_3_4 hE
      try dsimp only
      have hm := hLj_3
      rw [hE] at hm
      refine wc_region (wP rfl (wP rfl ?_))
      obtain ⟨hg18, hm⟩ := gd_some hm
      refine wl_as (d := 18) (v' := .int .i64 ((u2_6 + 1 : Nat) : Int)) (S' := [_,_,_,_,_,_]) rfl rfl (nat_add (a := u2_6) (b := 1) hg18) (wl_pure (S' := [_,_,_,_,_,_]) rfl rfl rfl rfl rfl (wl_nil ?_))
      have hE := (Option.some.inj hm).symm
      replace hE := link_inl hLu2 hE
      refine we_roundK (_, u2_6 + 1, j_3_4) (Nat.lt_succ_self _) hE [6,5,4,3,0] rfl (asK [] rfl) rfl
    ·
     replace hm := iteF hm hb16
     refine wc_keep [5,4,3,0] (S' := [_,_,_,_]) rfl (wc_exit (we_then_exit (we_then_exit (we_block_hit (we_block_normal ?_)))))
     have hE := (Option.some.inj hm).symm
     replace hE := link_inr hLu2 hE
     refine we_join u2_4 hE [5,4,3,0] rfl (asK [] rfl) rfl
   ·
    rintro j_2_4 hE
    try dsimp only
    have hm := hLj_2
    rw [hE] at hm
    refine wc_region (wP rfl (wP rfl ?_))
    obtain ⟨hg12, hm⟩ := gd_some hm
    refine wl_as (d := 12) (v' := .int .i64 ((u1_5 + 1 : Nat) : Int)) (S' := [_,_,_,_,_]) rfl rfl (nat_add (a := u1_5) (b := 1) hg12) (wl_pure (S' := [_,_,_,_,_]) rfl rfl rfl rfl rfl (wl_nil ?_))
    have hE := (Option.some.inj hm).symm
    replace hE := link_inl hLu1 hE
    refine we_roundK (_, u1_5 + 1, j_2_4) (Nat.lt_succ_self _) hE [5,4,3,0] rfl (asK [] rfl) rfl
  ·
   replace hm := iteF hm hb10
   refine wc_keep [4,0] (S' := [_,_]) rfl (wc_exit (we_then_exit (we_then_exit (we_block_hit ?_))))
   have hE := (Option.some.inj hm).symm
   replace hE := link_inr hLu1 hE
   refine we_join u1_4 hE [0,4] rfl (asK [] rfl) rfl
 ·
  rintro j_1_4 hE
  try dsimp only
  have hm := hLj_1
  rw [hE] at hm
  refine wc_seq (wc_region (wP rfl (wP rfl (wl_reck rfl rfl rfl (freshS_eq rfl) (rk_strLen rfl rfl tT_9) (wP rfl (wl_as (d := 31) (v' := .bool (j_1_4 == a0.size)) (S' := [_,_,_,_,_]) rfl rfl (nateq (a := j_1_4) (b := a0.size)) (wP rfl ?_)))))))
  refine wl_split (d := 32) (S' := [_,_,_,_,_,_]) rfl rfl (fun hs32 => ?_) (fun hs32 => ?_)
  ·
   replace hm := iteT hm hs32
   refine wP rfl (wP rfl (wl_as (d := 34) (v' := .bool (decide (0 < j_1_4))) (S' := [_,_,_,_,_,_,_,_]) rfl rfl (natgt (a := j_1_4) (b := 0)) (wP rfl (wP rfl ?_))))
   refine wl_split (d := 36) (S' := [_,_,_,_,_,_,_,_,_,_]) rfl rfl (fun hs36 => ?_) (fun hs36 => ?_)
   ·
    replace hm := iteT hm hs36
    refine wP rfl (wP rfl (wl_as (d := 38) (v' := .bool (decide (j_1_4 ≤ 30))) (S' := [_,_,_,_,_,_,_,_,_,_,_,_]) rfl rfl (natle (a := j_1_4) (b := 30)) (wP rfl (wP rfl (wl_nil (we_then (wc_keep [2] (S' := [_]) rfl (wc_ret ?_))))))))
    have hE := (Option.some.inj hm).symm
    replace hE := hE.symm
    subst hE
    refine ret_one (Hr := []) [] Try.results76 (res_tmp rfl) ⟨rfl, rfl, rfl⟩ (asK [] rfl) rfl rfl (.inl rfl)
   ·
    replace hm := iteF hm hs36
    refine wO rfl (wO rfl (wP rfl (wP rfl (wl_nil (we_then (wc_keep [2] (S' := [_]) rfl (wc_ret ?_)))))))
    have hE := (Option.some.inj hm).symm
    replace hE := hE.symm
    subst hE
    refine ret_one (Hr := []) [] Try.results76 (res_tmp rfl) ⟨rfl, rfl, rfl⟩ (asK [] rfl) rfl rfl (.inl rfl)
  ·
   replace hm := iteF hm hs32
   refine wO rfl (wO rfl (wP rfl (wP rfl (wO rfl (wO rfl (wP rfl (wP rfl (wl_nil (we_then (wc_keep [2] (S' := [_]) rfl (wc_ret ?_)))))))))))
   have hE := (Option.some.inj hm).symm
   replace hE := hE.symm
   subst hE
   refine ret_one (Hr := []) [] Try.results76 (res_tmp rfl) ⟨rfl, rfl, rfl⟩ (asK [] rfl) rfl rfl (.inl rfl)
theorem w_ropewalkref17_entry_whole_s (N : Nat) (a0 : ByteArray) (a1 : ByteArray) (a2 : ByteArray)  (hm : m_ropewalkref17_entry_whole N a0 a1 a2 = some ()) : Spec Try.prog 74 [.agg #[.string a0, .string a1, .string a2]] [] [] (fun v Φr Hr => v = .string (a1 ++ a2) ∧ Φr = [] ∧ Hr = []) := by
 unfold m_ropewalkref17_entry_whole at hm
 refine spec_of Try.func74 rfl Try.ntmps74 rfl (S := [_]) rfl (fun C => (wc_seq (wc_region (wB rfl (fun g1 => (wP rfl (wl_nil (we_then (wc_keep [1] (S' := [_]) rfl (wc_seq (wc_region (wF rfl tF_87_1 (wD 0 1 rfl tS_9 tA_9 rfl (wF rfl tF_87_2 (wD 0 2 rfl tS_9 tA_9 rfl ?_)))))))))))))))
 obtain ⟨hg7, hm⟩ := gd_some hm
 refine wl_bin rfl rfl rfl (freshS_eq rfl) rfl rfl rfl (run_strAdd hg7) (wP rfl (wl_nil (we_then (wc_keep [2] (S' := [_]) rfl (wc_ret ?_)))))
 have hE := (Option.some.inj hm).symm
 refine ret_one (Hr := []) [] Try.results74 (res_tmp rfl) ⟨rfl, rfl, rfl⟩ (asK [] rfl) rfl rfl (.inl rfl)
theorem w_ropewalkref17_Disk_Used_s (N : Nat) (qg0 : Nat) (a0 : Int) (qp1 : Option Addr) (qn2 : Nat) (qc3 : Nat) (l1 : List Ropewalkref17_entryD) (o0 : Nat) (hm : m_ropewalkref17_Disk_Used N a0 l1 = some o0) : Spec Try.prog 51 [.pointer (some ⟨qg0,0, none⟩)] [] [.blk qg0 [.int .i64 a0, .slice qp1 qn2 qc3] 85, .own 87 3 R_Ropewalkref17_entryD (.slice qp1 qn2 qc3) l1] (fun v Φr Hr => v = .int .i64 ((o0 : Nat) : Int) ∧ Φr = [] ∧ Hr = [.blk qg0 [.int .i64 a0, .slice qp1 qn2 qc3] 85, .own 87 3 R_Ropewalkref17_entryD (.slice qp1 qn2 qc3) l1]) := by
 unfold m_ropewalkref17_Disk_Used at hm
 refine spec_of Try.func51 rfl Try.ntmps51 rfl (S := [_]) rfl (fun C => (wc_seq (wc_region (wP rfl (wl_nil (we_then (wc_keep [0] (S' := [_]) rfl (wc_seq (wc_region (wP rfl (wl_nil (we_then (wc_seq ?_)))))))))))))
 obtain ⟨bj_1, hm, hLj_1⟩ := bindO_some hm
 refine wc_cut (σ := Nat) (fun j_1_3 => bj_1 = j_1_3) (fun j_1_3 => [(3, .int .i64 ((j_1_3 : Nat) : Int))]) (fun j_1_3 => []) (fun j_1_3 => [.blk qg0 [.int .i64 a0, .slice qp1 qn2 qc3] 85, .own 87 3 R_Ropewalkref17_entryD (.slice qp1 qn2 qc3) l1]) ?_ ?_
 ·
  refine wc_seq (wc_region (wP rfl (wP rfl (wF rfl tF_85_1 (wD 0 1 rfl tS_83 tA_83 rfl (wl_ownLen 1 rfl (fun hl10 _ => (wN rfl tE_83 (wl_as (d := 10) (v' := .int .i64 ((l1.length : Nat) : Int)) (S' := [_,_,_,_,_,_]) rfl rfl (len_is hl10) (wP rfl (wl_nil (we_then (wc_keep [11,10,9,3] (S' := [_,_,_,_]) rfl (wc_block ?_))))))))))))))
  refine wc_pick [1,0] rfl (H' := [_,_]) rfl (wc_loop (σ := Nat × Nat × Nat) (fun (nu1, u1_11, u1_3) => iter (m_ropewalkref17_Disk_Used_L1 N l1) nu1 (u1_11, u1_3) = some bj_1) (fun (nu1, u1_11, u1_3) => nu1) (fun (nu1, u1_11, u1_3) => [(11, .int .i64 ((u1_11 : Nat) : Int)), (10, .int .i64 ((l1.length : Nat) : Int)), (9, .slice qp1 qn2 qc3), (3, .int .i64 ((u1_3 : Nat) : Int))]) (fun (nu1, u1_11, u1_3) => []) (fun (nu1, u1_11, u1_3) => [.own 87 3 R_Ropewalkref17_entryD (.slice qp1 qn2 qc3) l1, .blk qg0 [.int .i64 a0, .slice qp1 qn2 qc3] 85]) (N, 0,0) hm [11,10,9,3] rfl (asK [] rfl) rfl (fun s_ hm => ?_))
  obtain ⟨nu1, u1_11, u1_3⟩ := s_
  try dsimp only at hm ⊢
  obtain ⟨mu1, bu1, hnu1, hq, hLu1⟩ := iter_some hm
  clear hm
  subst hnu1
  replace hm := hq
  clear hq
  unfold m_ropewalkref17_Disk_Used_L1 at hm
  try dsimp only at hm
  refine wc_seq (wc_region (wP rfl (wl_as (d := 12) (v' := .bool (decide (u1_11 < l1.length))) (S' := [_,_,_,_]) rfl rfl (natlt (a := u1_11) (b := l1.length)) (wl_nil (we_then (wc_seq ?_))))))
  refine wc_cond rfl (fun hb12 => ?_) (fun hb12 => ?_)
  ·
   replace hm := iteT hm hb12
   refine wc_keep [11,10,9,3] (S' := [_,_,_,_]) rfl (wc_skip (we_then (wc_seq (wc_block (wc_seq (wc_region ?_))))))
   obtain ⟨x13, hx13, hm⟩ := bindO_some hm
   refine wl_indexH 0 u1_11 rfl rfl rfl (freshS_eq rfl) rfl rfl rfl rfl rfl (get_lt hx13) tE_83 tS_87 (fun g13 eg13 => ?_)
   subst eg13
   refine wl_loadRow R_Ropewalkref17_entryD_opens 0 u1_11 0 rfl rfl rfl (freshS_eq rfl) rfl rfl rfl hx13 tS_87 tA_87 (v := fun _ => .agg #[.string x13.name, .string x13.firm, .string x13.loose]) (fun _ => rfl) (fun _ => rfl) (fun _ _ => (wl_alloc rfl rfl rfl (freshS_eq rfl) rfl tZ_87 rfl (fun g5 => (wS 0 0 rfl tS_87 (all' := [_,_,_]) rfl (H' := [_,_,_]) rfl (wl_nil (we_then (wc_keep [5,11,10,9,3] (S' := [_,_,_,_,_]) rfl (wc_region (wP rfl (wl_loadH 0 0 rfl rfl rfl (freshS_eq rfl) rfl rfl rfl (cs := [_,_,_]) rfl tS_87 tA_87 rfl rfl ?_))))))))))
   obtain ⟨_, hc17, hm⟩ := bindO_some hm
   try dsimp only at hm
   refine wC [] [0,1,2] rfl fn_74 rfl (w_ropewalkref17_entry_whole_s N x13.name x13.firm x13.loose hc17) (asK [] rfl) rfl (H' := [_,_,_]) rfl ?_
   rintro _ _ _ ⟨rfl, rfl, rfl⟩
   refine wl_reck rfl rfl rfl (freshS_eq rfl) (rk_strLen rfl rfl tT_9) (wP rfl ?_)
   obtain ⟨hg19, hm⟩ := gd_some hm
   refine wl_as (d := 19) (v' := .int .i64 ((u1_3 + ((x13.firm ++ x13.loose).size) : Nat) : Int)) (S' := [_,_,_,_,_,_,_,_,_]) rfl rfl (nat_add (a := u1_3) (b := (x13.firm ++ x13.loose).size) hg19) (wl_pure (S' := [_,_,_,_,_,_,_,_,_]) rfl rfl rfl rfl rfl (wl_nil (we_block_normal (we_then (wc_keep [3,11,10,9] (S' := [_,_,_,_]) rfl (wc_region (wP rfl ?_)))))))
   obtain ⟨hg20, hm⟩ := gd_some hm
   refine wl_as (d := 20) (v' := .int .i64 ((u1_11 + 1 : Nat) : Int)) (S' := [_,_,_,_]) rfl rfl (nat_add (a := u1_11) (b := 1) hg20) (wl_pure (S' := [_,_,_,_]) rfl rfl rfl rfl rfl (wl_nil ?_))
   have hE := (Option.some.inj hm).symm
   replace hE := link_inl hLu1 hE
   refine we_pick [1,2] rfl (H' := [_,_]) rfl ?_
   refine we_roundK (_, u1_11 + 1, u1_3 + ((x13.firm ++ x13.loose).size)) (Nat.lt_succ_self _) hE [11,10,9,3] rfl (asK [] rfl) rfl
  ·
   replace hm := iteF hm hb12
   refine wc_keep [3] (S' := [_]) rfl (wc_exit (we_then_exit (we_then_exit (we_block_hit ?_))))
   have hE := (Option.some.inj hm).symm
   replace hE := link_inr hLu1 hE
   refine we_pick [1,0] rfl (H' := [_,_]) rfl ?_
   refine we_join u1_3 hE [3] rfl (asK [] rfl) rfl
 ·
  rintro j_1_3 hE
  try dsimp only
  have hm := hLj_1
  rw [hE] at hm
  refine wc_seq (wc_region (wP rfl (wP rfl (wl_nil (we_then (wc_keep [2] (S' := [_]) rfl (wc_ret ?_)))))))
  have hE := (Option.some.inj hm).symm
  replace hE := hE.symm
  subst hE
  refine ret_one (Hr := [_,_]) [0,1] Try.results51 (res_tmp rfl) ⟨rfl, rfl, rfl⟩ (asK [] rfl) rfl rfl (.inl rfl)
theorem w_ropewalkref17_Disk_Append_s (N : Nat) (qg0 : Nat) (a0 : Int) (qp1 : Option Addr) (qn2 : Nat) (qc3 : Nat) (l1 : List Ropewalkref17_entryD) (a2 : ByteArray) (qp4 : Option Addr) (qc5 : Nat) (l3 : List Int) (o0 : Nat) (o3 : List Ropewalkref17_entryD) (hm : m_ropewalkref17_Disk_Append N a0 l1 a2 l3 = some (o0, o3)) : Spec Try.prog 52 [.pointer (some ⟨qg0,0, none⟩), .string a2, .slice qp4 l3.length qc5] [.sli 1 R_u8 qp4 qc5 l3] [.blk qg0 [.int .i64 a0, .slice qp1 qn2 qc3] 85, .own 87 3 R_Ropewalkref17_entryD (.slice qp1 qn2 qc3) l1] (fun v Φr Hr => ∃ (o1 : Option Addr) (o2 : Nat) (o4 : Nat), v = .int .i64 ((o0 : Nat) : Int) ∧ Φr = [] ∧ Hr = [.blk qg0 [.int .i64 a0, .slice o1 o4 o2] 85, .own 87 3 R_Ropewalkref17_entryD (.slice o1 o4 o2) o3]) := by
 unfold m_ropewalkref17_Disk_Append at hm
 refine spec_of Try.func52 rfl Try.ntmps52 rfl (S := [_,_,_]) rfl (fun C => (wc_seq (wc_region (wP rfl (wl_nil (we_then (wc_keep [0,1,2] (S' := [_,_,_]) rfl (wc_seq (wc_region (wP rfl (wP rfl ?_)))))))))))
 obtain ⟨⟨v13_0, v13_1, v13_2, v13_3, v13_4⟩, hc13, hm⟩ := bindO_some hm
 try dsimp only at hm
 refine wC [0,1] [] rfl fn_75 rfl (w_ropewalkref17_Disk_split_s N qg0 a0 qp1 qn2 qc3 l1 a2 _ _ _ _ _ hc13) (asK [] rfl) rfl (H' := []) rfl ?_
 rintro _ _ _ ⟨p13_0, c13_1, c13_2, rfl, rfl, rfl⟩
 refine wP rfl (wP rfl (wP rfl (wP rfl (wl_alloc rfl rfl rfl (freshS_eq rfl) rfl tZ_87 rfl (fun g7 => (wS 0 0 rfl tS_87 (all' := [_,_,_]) rfl (H' := [_,_,_,_]) rfl (wP rfl (wP rfl (wl_nil (we_then (wc_keep [8,7,0,1,2] (S' := [_,_,_,_,_]) rfl (wc_seq (wc_region (wF rfl tF_87_2 ?_))))))))))))))
 refine wD 0 2 rfl tS_9 tA_9 rfl (wP rfl (wl_bytesStr 0 rfl rfl rfl (freshS_eq rfl) rfl rfl rfl tD_27 tD_5 tD_9 (fun _ _ _ _ h => by obtain ⟨_, h, _⟩ := h; exact h) ?_))
 obtain ⟨hg21, hm⟩ := gd_some hm
 refine wl_bin rfl rfl rfl (freshS_eq rfl) rfl rfl rfl (run_strAdd hg21) (wF rfl tF_87_2 (wS 0 2 rfl tS_9 (all' := [_,_,_]) rfl (H' := [_,_,_,_]) rfl (wl_nil (we_then (wc_keep [8,7,0,1,2] (S' := [_,_,_,_,_]) rfl (wc_seq (wc_block (wc_seq (wc_region (wP rfl ?_))))))))))
 obtain ⟨v25, hc25, hm⟩ := bindO_some hm
 refine wC [] [0,1,2,3] rfl fn_76 rfl (w_ropewalkref17_fit_s N a2 _ hc25) (asK [] rfl) rfl (H' := [_,_,_,_]) rfl ?_
 rintro _ _ _ ⟨rfl, rfl, rfl⟩
 refine wP rfl (wP rfl (wl_nil (we_then (wc_keep [23,8,7,0,2] (S' := [_,_,_,_,_]) rfl ?_))))
 refine wc_cond rfl (fun hb23 => ?_) (fun hb23 => ?_)
 ·
  replace hm := iteT hm hb23
  refine wc_keep [] (S' := []) rfl (wc_seq (wc_region (wP rfl (wl_nil (we_then (wc_ret (we_block_ret (we_then_ret ?_))))))))
  have hE := (Option.some.inj hm).symm
  obtain ⟨hE0, hE1⟩ := Prod.mk.inj hE
  clear hE
  replace hE0 := hE0.symm
  subst hE0
  replace hE1 := hE1.symm
  subst hE1
  refine ret_one (Hr := [_,_]) [2,3] Try.results52 (res_tmp rfl) ⟨qp1, qc3, qn2, rfl, rfl, rfl⟩ (asK [] rfl) rfl rfl (.inl rfl)
 ·
  replace hm := iteF hm hb23
  refine wc_keep [8,7,0,2] (S' := [_,_,_,_]) rfl (wc_seq (wc_region (wl_loadH 0 0 rfl rfl rfl (freshS_eq rfl) rfl rfl rfl (cs := [_,_,_]) rfl tS_87 tA_87 rfl rfl ?_)))
  obtain ⟨_, hc29, hm⟩ := bindO_some hm
  try dsimp only at hm
  refine wC [] [0,1,2,3] rfl fn_74 rfl (w_ropewalkref17_entry_whole_s N v13_0 v13_1 (v13_2 ++ (strOfNums l3)) hc29) (asK [] rfl) rfl (H' := [_,_,_,_]) rfl ?_
  rintro _ _ _ ⟨rfl, rfl, rfl⟩
  refine wl_reck rfl rfl rfl (freshS_eq rfl) (rk_strLen rfl rfl tT_9) (wP rfl (wl_as (d := 31) (v' := .bool (decide (4194304 < ((v13_1 ++ (v13_2 ++ (strOfNums l3))).size)))) (S' := [_,_,_,_,_,_,_]) rfl rfl (natgt (a := (v13_1 ++ (v13_2 ++ (strOfNums l3))).size) (b := 4194304)) (wP rfl (wl_nil (we_then (wc_keep [27,8,7,0,2] (S' := [_,_,_,_,_]) rfl ?_))))))
  refine wc_cond rfl (fun hb27 => ?_) (fun hb27 => ?_)
  ·
   replace hm := iteT hm hb27
   refine wc_keep [] (S' := []) rfl (wc_seq (wc_region (wP rfl (wl_nil (we_then (wc_ret (we_block_ret (we_then_ret ?_))))))))
   have hE := (Option.some.inj hm).symm
   obtain ⟨hE0, hE1⟩ := Prod.mk.inj hE
   clear hE
   replace hE0 := hE0.symm
   subst hE0
   replace hE1 := hE1.symm
   subst hE1
   refine ret_one (Hr := [_,_]) [2,3] Try.results52 (res_tmp rfl) ⟨qp1, qc3, qn2, rfl, rfl, rfl⟩ (asK [] rfl) rfl rfl (.inl rfl)
  ·
   replace hm := iteF hm hb27
   refine wc_keep [8,7,0,2] (S' := [_,_,_,_]) rfl (wc_seq ?_)
   obtain ⟨v34, hc34, hm⟩ := bindO_some hm
   obtain ⟨hg37, hm⟩ := gd_some hm
   refine wc_draw [0,2,3,4,5,6,7,8,9] rfl rfl (fun hok => (xP hok 0 rfl (xP hok 2 rfl (wx_len hok 3 rfl rfl rfl (freshS_eq rfl) rfl rfl rfl tE_27 (xP hok 5 rfl (xP hok 6 rfl (wx_fieldAddr hok 7 rfl rfl rfl (freshS_eq rfl) rfl rfl rfl tF_85_0 (wx_loadH hok 8 2 0 rfl rfl rfl (freshS_eq rfl) rfl rfl rfl rfl (cs := [_]) rfl tS_3 tA_3 rfl rfl (xS hok 1 rfl (wC [2,3] [0,1] rfl fn_51 rfl (w_ropewalkref17_Disk_Used_s N qg0 a0 qp1 qn2 qc3 l1 _ hc34) (asK [] rfl) rfl (H' := [_,_]) rfl ?_))))))))))
   rintro _ _ _ ⟨rfl, rfl, rfl⟩
   refine wl_nil (we_x [0] [0] rfl rfl (xP hok 4 rfl (wx_as (d := 37) (v' := .int .i64 ((v34 + l3.length : Nat) : Int)) (S' := [_,_,_,_,_,_,_,_,_,_,_,_]) rfl rfl (nat_add (a := v34) (b := l3.length) hg37) (xP hok 9 rfl (xS hok 10 rfl (wP rfl (wl_nil (we_x [0] [0] rfl rfl (wx_done hok rfl (we_then (wc_keep [32,8,7,0] (S' := [_,_,_,_]) rfl ?_)))))))))))
   refine wc_cond rfl (fun hb32 => ?_) (fun hb32 => ?_)
   ·
    replace hm := iteT hm hb32
    refine wc_keep [] (S' := []) rfl (wc_seq (wc_region (wP rfl (wl_nil (we_then (wc_ret (we_block_ret (we_then_ret ?_))))))))
    have hE := (Option.some.inj hm).symm
    obtain ⟨hE0, hE1⟩ := Prod.mk.inj hE
    clear hE
    replace hE0 := hE0.symm
    subst hE0
    replace hE1 := hE1.symm
    subst hE1
    refine ret_one (Hr := [_,_]) [0,1] Try.results52 (res_tmp rfl) ⟨qp1, qc3, qn2, rfl, rfl, rfl⟩ (asK [] rfl) rfl rfl (.inl rfl)
   ·
    replace hm := iteF hm hb32
    refine wc_keep [8,7,0] (S' := [_,_,_]) rfl (wc_skip (we_block_normal (we_then (wc_seq (wc_region (wP rfl (wP rfl (wl_loadH 2 0 rfl rfl rfl (freshS_eq rfl) rfl rfl rfl (cs := [_,_,_]) rfl tS_87 tA_87 rfl rfl (wl_buildSlice rfl rfl rfl (freshS_eq rfl) rfl tE_83 tS_87 tZ_87 rfl (zs := [.string ((⟨#[]⟩ : ByteArray)), .string ((⟨#[]⟩ : ByteArray)), .string ((⟨#[]⟩ : ByteArray))]) (by kernel_rfl) rfl (out := [_,_,_]) rfl (fun g46 => ?_))))))))))
    obtain ⟨hg47, hm⟩ := gd_some hm
    refine wl_appendH ([(⟨v13_0, v13_1, v13_2 ++ (strOfNums l3)⟩ : Ropewalkref17_entryD)]) 4 0 rfl rfl rfl (freshS_eq rfl) rfl rfl rfl rfl rfl (fun F w hφ => ⟨[.string v13_0, .string v13_1, .string (v13_2 ++ (strOfNums l3))],[], rfl, rfl, ⟨(), rfl, ask_nil⟩, rfl⟩) tE_83 tR_87 rfl rfl (Nat.le_trans hg47 (by decide)) (Nat.le_trans (Nat.mul_le_mul_right _ hg47) (by decide)) (H2 := fun p47 c47 => [_,_,_,_, .own 87 3 R_Ropewalkref17_entryD (.slice p47 ((v13_3 ++ ([(⟨v13_0, v13_1, v13_2 ++ (strOfNums l3)⟩ : Ropewalkref17_entryD)])).length) c47) (v13_3 ++ ([(⟨v13_0, v13_1, v13_2 ++ (strOfNums l3)⟩ : Ropewalkref17_entryD)]))]) (fun _ _ => rfl) (fun p47 c47 => (wl_drop 0 rfl (H' := [_,_,_,_]) rfl (wP rfl (wF rfl tF_85_1 (wS 0 1 rfl tS_83 (all' := [_,_]) rfl (H' := [_,_,_,_]) rfl (wl_nil (we_then (wc_keep [] (S' := []) rfl (wc_seq (wc_region (wP rfl (wl_nil (we_then (wc_ret ?_))))))))))))))
    have hE := (Option.some.inj hm).symm
    obtain ⟨hE0, hE1⟩ := Prod.mk.inj hE
    clear hE
    replace hE0 := hE0.symm
    subst hE0
    replace hE1 := hE1.symm
    subst hE1
    refine ret_one (Hr := [_,_]) [0,3] Try.results52 (res_tmp rfl) ⟨p47, c47, (v13_3 ++ ([(⟨v13_0, v13_1, v13_2 ++ (strOfNums l3)⟩ : Ropewalkref17_entryD)])).length, rfl, rfl, rfl⟩ (asK [] rfl) rfl rfl (.inl rfl)
theorem w_ropewalkref17_Disk_Sync_s (N : Nat) (qg0 : Nat) (a0 : Int) (qp1 : Option Addr) (qn2 : Nat) (qc3 : Nat) (l1 : List Ropewalkref17_entryD) (a2 : ByteArray) (o0 : Nat) (o3 : List Ropewalkref17_entryD) (hm : m_ropewalkref17_Disk_Sync N a0 l1 a2 = some (o0, o3)) : Spec Try.prog 53 [.pointer (some ⟨qg0,0, none⟩), .string a2] [] [.blk qg0 [.int .i64 a0, .slice qp1 qn2 qc3] 85, .own 87 3 R_Ropewalkref17_entryD (.slice qp1 qn2 qc3) l1] (fun v Φr Hr => ∃ (o1 : Option Addr) (o2 : Nat) (o4 : Nat), v = .int .i64 ((o0 : Nat) : Int) ∧ Φr = [] ∧ Hr = [.blk qg0 [.int .i64 a0, .slice o1 o4 o2] 85, .own 87 3 R_Ropewalkref17_entryD (.slice o1 o4 o2) o3]) := by
 unfold m_ropewalkref17_Disk_Sync at hm
 refine spec_of Try.func53 rfl Try.ntmps53 rfl (S := [_,_]) rfl (fun C => (wc_seq (wc_region (wP rfl (wl_nil (we_then (wc_keep [0,1] (S' := [_,_]) rfl (wc_seq (wc_region (wP rfl (wP rfl ?_)))))))))))
 obtain ⟨⟨v11_0, v11_1, v11_2, v11_3, v11_4⟩, hc11, hm⟩ := bindO_some hm
 try dsimp only at hm
 refine wC [0,1] [] rfl fn_75 rfl (w_ropewalkref17_Disk_split_s N qg0 a0 qp1 qn2 qc3 l1 a2 _ _ _ _ _ hc11) (asK [] rfl) rfl (H' := []) rfl ?_
 rintro _ _ _ ⟨p11_0, c11_1, c11_2, rfl, rfl, rfl⟩
 refine wP rfl (wP rfl (wP rfl (wP rfl (wl_alloc rfl rfl rfl (freshS_eq rfl) rfl tZ_87 rfl (fun g5 => (wS 0 0 rfl tS_87 (all' := [_,_,_]) rfl (H' := [_,_,_,_]) rfl (wP rfl (wP rfl (wl_nil (we_then (wc_keep [7,6,5,0,1] (S' := [_,_,_,_,_]) rfl (wc_seq (wc_seq (wc_region ?_))))))))))))))
 refine wP rfl (wP rfl (wl_nil (we_then (wc_keep [16,6,5,0,1] (S' := [_,_,_,_,_]) rfl ?_))))
 refine wc_cond rfl (fun hb16 => ?_) (fun hb16 => ?_)
 ·
  replace hm := iteT hm hb16
  refine wc_keep [] (S' := []) rfl (wc_seq (wc_region (wP rfl (wl_nil (we_then (wc_ret (we_then_ret ?_)))))))
  have hE := (Option.some.inj hm).symm
  obtain ⟨hE0, hE1⟩ := Prod.mk.inj hE
  clear hE
  replace hE0 := hE0.symm
  subst hE0
  replace hE1 := hE1.symm
  subst hE1
  refine ret_one (Hr := [_,_]) [2,3] Try.results53 (res_tmp rfl) ⟨qp1, qc3, qn2, rfl, rfl, rfl⟩ (asK [] rfl) rfl rfl (.inl rfl)
 ·
  replace hm := iteF hm hb16
  refine wc_keep [6,5,0,1] (S' := [_,_,_,_]) rfl (wc_skip (we_then (wc_seq (wc_region (wP rfl (wP rfl (wP rfl (wl_loadH 0 0 rfl rfl rfl (freshS_eq rfl) rfl rfl rfl (cs := [_,_,_]) rfl tS_87 tA_87 rfl rfl ?_))))))))
  obtain ⟨_, hc21, hm⟩ := bindO_some hm
  try dsimp only at hm
  refine wC [] [0,1,2,3] rfl fn_74 rfl (w_ropewalkref17_entry_whole_s N v11_0 v11_1 v11_2 hc21) (asK [] rfl) rfl (H' := [_,_,_,_]) rfl ?_
  rintro _ _ _ ⟨rfl, rfl, rfl⟩
  refine wl_build rfl rfl rfl (freshS_eq rfl) rfl tZ_87 tP_87 rfl (out := [_,_,_]) rfl (wl_buildSlice rfl rfl rfl (freshS_eq rfl) rfl tE_83 tS_87 tZ_87 rfl (zs := [.string ((⟨#[]⟩ : ByteArray)), .string ((⟨#[]⟩ : ByteArray)), .string ((⟨#[]⟩ : ByteArray))]) (by kernel_rfl) rfl (out := [_,_,_]) rfl (fun g23 => ?_))
  obtain ⟨hg24, hm⟩ := gd_some hm
  refine wl_appendH ([(⟨a2, v11_1 ++ v11_2, (⟨#[]⟩ : ByteArray)⟩ : Ropewalkref17_entryD)]) 2 0 rfl rfl rfl (freshS_eq rfl) rfl rfl rfl rfl rfl (fun F w hφ => ⟨[.string a2, .string (v11_1 ++ v11_2), .string ((⟨#[]⟩ : ByteArray))],[], rfl, rfl, ⟨(), rfl, ask_nil⟩, rfl⟩) tE_83 tR_87 rfl rfl (Nat.le_trans hg24 (by decide)) (Nat.le_trans (Nat.mul_le_mul_right _ hg24) (by decide)) (H2 := fun p24 c24 => [_,_, .own 87 3 R_Ropewalkref17_entryD (.slice p24 ((v11_3 ++ ([(⟨a2, v11_1 ++ v11_2, (⟨#[]⟩ : ByteArray)⟩ : Ropewalkref17_entryD)])).length) c24) (v11_3 ++ ([(⟨a2, v11_1 ++ v11_2, (⟨#[]⟩ : ByteArray)⟩ : Ropewalkref17_entryD)])), _,_]) (fun _ _ => rfl) (fun p24 c24 => (wl_drop 0 rfl (H' := [_,_,_,_]) rfl (wP rfl (wF rfl tF_85_1 (wS 2 1 rfl tS_83 (all' := [_,_]) rfl (H' := [_,_,_,_]) rfl (wl_nil (we_then (wc_keep [] (S' := []) rfl (wc_seq (wc_region (wP rfl (wl_nil (we_then (wc_ret ?_))))))))))))))
  have hE := (Option.some.inj hm).symm
  obtain ⟨hE0, hE1⟩ := Prod.mk.inj hE
  clear hE
  replace hE0 := hE0.symm
  subst hE0
  replace hE1 := hE1.symm
  subst hE1
  refine ret_one (Hr := [_,_]) [2,1] Try.results53 (res_tmp rfl) ⟨p24, c24, (v11_3 ++ ([(⟨a2, v11_1 ++ v11_2, (⟨#[]⟩ : ByteArray)⟩ : Ropewalkref17_entryD)])).length, rfl, rfl, rfl⟩ (asK [] rfl) rfl rfl (.inl rfl)
theorem w_ropewalkref17_Disk_Cut_s (N : Nat) (qg0 : Nat) (a0 : Int) (qp1 : Option Addr) (qn2 : Nat) (qc3 : Nat) (l1 : List Ropewalkref17_entryD) (a2 : ByteArray) (a3 : Int) (o0 : Nat) (o3 : List Ropewalkref17_entryD) (hm : m_ropewalkref17_Disk_Cut N a0 l1 a2 a3 = some (o0, o3)) : Spec Try.prog 54 [.pointer (some ⟨qg0,0, none⟩), .string a2, .int .i64 a3] [] [.blk qg0 [.int .i64 a0, .slice qp1 qn2 qc3] 85, .own 87 3 R_Ropewalkref17_entryD (.slice qp1 qn2 qc3) l1] (fun v Φr Hr => ∃ (o1 : Option Addr) (o2 : Nat) (o4 : Nat), v = .int .i64 ((o0 : Nat) : Int) ∧ Φr = [] ∧ Hr = [.blk qg0 [.int .i64 a0, .slice o1 o4 o2] 85, .own 87 3 R_Ropewalkref17_entryD (.slice o1 o4 o2) o3]) := by
 unfold m_ropewalkref17_Disk_Cut at hm
 refine spec_of Try.func54 rfl Try.ntmps54 rfl (S := [_,_,_]) rfl (fun C => (wc_seq (wc_region (wP rfl (wl_nil (we_then (wc_keep [0,1,2] (S' := [_,_,_]) rfl (wc_seq (wc_region (wP rfl (wP rfl ?_)))))))))))
 obtain ⟨⟨v14_0, v14_1, v14_2, v14_3, v14_4⟩, hc14, hm⟩ := bindO_some hm
 try dsimp only at hm
 refine wC [0,1] [] rfl fn_75 rfl (w_ropewalkref17_Disk_split_s N qg0 a0 qp1 qn2 qc3 l1 a2 _ _ _ _ _ hc14) (asK [] rfl) rfl (H' := []) rfl ?_
 rintro _ _ _ ⟨p14_0, c14_1, c14_2, rfl, rfl, rfl⟩
 refine wP rfl (wP rfl (wP rfl (wP rfl (wl_alloc rfl rfl rfl (freshS_eq rfl) rfl tZ_87 rfl (fun g7 => (wS 0 0 rfl tS_87 (all' := [_,_,_]) rfl (H' := [_,_,_,_]) rfl (wP rfl (wP rfl (wl_nil (we_then (wc_keep [9,8,7,0,1,2] (S' := [_,_,_,_,_,_]) rfl (wc_seq (wc_region (wl_loadH 0 0 rfl rfl rfl (freshS_eq rfl) rfl rfl rfl (cs := [_,_,_]) rfl tS_87 tA_87 rfl rfl ?_))))))))))))))
 obtain ⟨_, hc19, hm⟩ := bindO_some hm
 try dsimp only at hm
 refine wC [] [0,1,2,3] rfl fn_74 rfl (w_ropewalkref17_entry_whole_s N v14_0 v14_1 v14_2 hc19) (asK [] rfl) rfl (H' := [_,_,_,_]) rfl ?_
 rintro _ _ _ ⟨rfl, rfl, rfl⟩
 refine wP rfl (wl_nil (we_then (wc_keep [10,9,8,0,1,2] (S' := [_,_,_,_,_,_]) rfl (wc_seq (wc_block (wc_seq (wc_region (wP rfl (wP rfl (wP rfl (wl_nil (we_then (wc_keep [20,10,8,0,1,2] (S' := [_,_,_,_,_,_]) rfl ?_)))))))))))))
 refine wc_cond rfl (fun hb20 => ?_) (fun hb20 => ?_)
 ·
  replace hm := iteT hm hb20
  refine wc_keep [] (S' := []) rfl (wc_seq (wc_region (wP rfl (wl_nil (we_then (wc_ret (we_block_ret (we_then_ret ?_))))))))
  have hE := (Option.some.inj hm).symm
  obtain ⟨hE0, hE1⟩ := Prod.mk.inj hE
  clear hE
  replace hE0 := hE0.symm
  subst hE0
  replace hE1 := hE1.symm
  subst hE1
  refine ret_one (Hr := [_,_]) [2,3] Try.results54 (res_tmp rfl) ⟨qp1, qc3, qn2, rfl, rfl, rfl⟩ (asK [] rfl) rfl rfl (.inl rfl)
 ·
  replace hm := iteF hm hb20
  refine wc_keep [10,8,0,1,2] (S' := [_,_,_,_,_]) rfl (wc_seq ?_)
  obtain ⟨bj_1, hm, hLj_1⟩ := bindO_some hm
  refine wc_cut (σ := Bool) (fun j_1_23 => bj_1 = j_1_23) (fun j_1_23 => [(10, .string (v14_1 ++ v14_2)), (8, .slice p14_0 c14_2 c14_1), (0, .pointer (some ⟨qg0,0, none⟩)), (1, .string a2), (2, .int .i64 a3), (23, .bool j_1_23)]) (fun j_1_23 => []) (fun j_1_23 => [.own 87 3 R_Ropewalkref17_entryD (.slice p14_0 c14_2 c14_1) v14_3, .blk qg0 [.int .i64 a0, .slice qp1 qn2 qc3] 85, .own 87 3 R_Ropewalkref17_entryD (.slice qp1 qn2 qc3) l1]) ?_ ?_
  ·
   refine wc_region (wP rfl (wP rfl (wP rfl ?_)))
   refine wl_split (d := 26) (S' := [_,_,_,_,_,_,_]) rfl rfl (fun hs26 => ?_) (fun hs26 => ?_)
   ·
    replace hm := iteT hm hs26
    refine wO rfl (wO rfl (wO rfl (wO rfl (wP rfl (wP rfl (wl_nil ?_))))))
    have hE := (Option.some.inj hm).symm
    refine we_pick [1,2,3] rfl (H' := [_,_,_]) rfl ?_
    refine we_join true hE [10,8,0,1,2,23] rfl (asK [] rfl) rfl
   ·
    replace hm := iteF hm hs26
    refine wP rfl (wP rfl (wl_reck rfl rfl rfl (freshS_eq rfl) (rk_strLen rfl rfl tT_9) (wP rfl (wP rfl (wP rfl (wl_nil ?_))))))
    have hE := (Option.some.inj hm).symm
    refine we_pick [1,2,3] rfl (H' := [_,_,_]) rfl ?_
    refine we_join (decide (a3 > (((v14_1 ++ v14_2).size : Nat) : Int))) hE [10,8,0,1,2,23] rfl (asK [] rfl) rfl
  ·
   rintro j_1_23 hE
   try dsimp only
   have hm := hLj_1
   rw [hE] at hm
   refine wc_cond rfl (fun hb23 => ?_) (fun hb23 => ?_)
   ·
    replace hm := iteT hm hb23
    refine wc_keep [] (S' := []) rfl (wc_seq (wc_region (wP rfl (wl_nil (we_then (wc_ret (we_block_ret (we_then_ret ?_))))))))
    have hE := (Option.some.inj hm).symm
    obtain ⟨hE0, hE1⟩ := Prod.mk.inj hE
    clear hE
    replace hE0 := hE0.symm
    subst hE0
    replace hE1 := hE1.symm
    subst hE1
    refine ret_one (Hr := [_,_]) [1,2] Try.results54 (res_tmp rfl) ⟨qp1, qc3, qn2, rfl, rfl, rfl⟩ (asK [] rfl) rfl rfl (.inl rfl)
   ·
    replace hm := iteF hm hb23
    refine wc_keep [10,8,0,1,2] (S' := [_,_,_,_,_]) rfl (wc_skip (we_block_normal (we_then (wc_seq (wc_region (wP rfl (wP rfl (wP rfl (wP rfl (wP rfl ?_))))))))))
    obtain ⟨hn37_1, hm⟩ := gd_some hm
    obtain ⟨hg37, hm⟩ := gd_some hm
    refine wl_reck rfl rfl rfl (freshS_eq rfl) (rk_strTo a3.toNat rfl rfl rfl (toNat_eq hn37_1) hg37 tT_9) (wl_build rfl rfl rfl (freshS_eq rfl) rfl tZ_87 tP_87 rfl (out := [_,_,_]) rfl (wl_buildSlice rfl rfl rfl (freshS_eq rfl) rfl tE_83 tS_87 tZ_87 rfl (zs := [.string ((⟨#[]⟩ : ByteArray)), .string ((⟨#[]⟩ : ByteArray)), .string ((⟨#[]⟩ : ByteArray))]) (by kernel_rfl) rfl (out := [_,_,_]) rfl (fun g39 => ?_)))
    obtain ⟨hg40, hm⟩ := gd_some hm
    refine wl_appendH ([(⟨a2, (v14_1 ++ v14_2).extract 0 a3.toNat, (⟨#[]⟩ : ByteArray)⟩ : Ropewalkref17_entryD)]) 1 0 rfl rfl rfl (freshS_eq rfl) rfl rfl rfl rfl rfl (fun F w hφ => ⟨[.string a2, .string ((v14_1 ++ v14_2).extract 0 a3.toNat), .string ((⟨#[]⟩ : ByteArray))],[], rfl, rfl, ⟨(), rfl, ask_nil⟩, rfl⟩) tE_83 tR_87 rfl rfl (Nat.le_trans hg40 (by decide)) (Nat.le_trans (Nat.mul_le_mul_right _ hg40) (by decide)) (H2 := fun p40 c40 => [_, .own 87 3 R_Ropewalkref17_entryD (.slice p40 ((v14_3 ++ ([(⟨a2, (v14_1 ++ v14_2).extract 0 a3.toNat, (⟨#[]⟩ : ByteArray)⟩ : Ropewalkref17_entryD)])).length) c40) (v14_3 ++ ([(⟨a2, (v14_1 ++ v14_2).extract 0 a3.toNat, (⟨#[]⟩ : ByteArray)⟩ : Ropewalkref17_entryD)])), _,_]) (fun _ _ => rfl) (fun p40 c40 => (wl_drop 0 rfl (H' := [_,_,_]) rfl (wP rfl (wF rfl tF_85_1 (wS 1 1 rfl tS_83 (all' := [_,_]) rfl (H' := [_,_,_]) rfl (wl_nil (we_then (wc_keep [] (S' := []) rfl (wc_seq (wc_region (wP rfl (wl_nil (we_then (wc_ret ?_))))))))))))))
    have hE := (Option.some.inj hm).symm
    obtain ⟨hE0, hE1⟩ := Prod.mk.inj hE
    clear hE
    replace hE0 := hE0.symm
    subst hE0
    replace hE1 := hE1.symm
    subst hE1
    refine ret_one (Hr := [_,_]) [1,0] Try.results54 (res_tmp rfl) ⟨p40, c40, (v14_3 ++ ([(⟨a2, (v14_1 ++ v14_2).extract 0 a3.toNat, (⟨#[]⟩ : ByteArray)⟩ : Ropewalkref17_entryD)])).length, rfl, rfl, rfl⟩ (asK [] rfl) rfl rfl (.inl rfl)
theorem w_ropewalkref17_Disk_Rename_s (N : Nat) (qg0 : Nat) (a0 : Int) (qp1 : Option Addr) (qn2 : Nat) (qc3 : Nat) (l1 : List Ropewalkref17_entryD) (a2 : ByteArray) (a3 : ByteArray) (o0 : Nat) (o3 : List Ropewalkref17_entryD) (hm : m_ropewalkref17_Disk_Rename N a0 l1 a2 a3 = some (o0, o3)) : Spec Try.prog 55 [.pointer (some ⟨qg0,0, none⟩), .string a2, .string a3] [] [.blk qg0 [.int .i64 a0, .slice qp1 qn2 qc3] 85, .own 87 3 R_Ropewalkref17_entryD (.slice qp1 qn2 qc3) l1] (fun v Φr Hr => ∃ (o1 : Option Addr) (o2 : Nat) (o4 : Nat), v = .int .i64 ((o0 : Nat) : Int) ∧ Φr = [] ∧ Hr = [.blk qg0 [.int .i64 a0, .slice o1 o4 o2] 85, .own 87 3 R_Ropewalkref17_entryD (.slice o1 o4 o2) o3]) := by
 unfold m_ropewalkref17_Disk_Rename at hm
 refine spec_of Try.func55 rfl Try.ntmps55 rfl (S := [_,_,_]) rfl (fun C => (wc_seq (wc_region (wP rfl (wl_nil (we_then (wc_keep [0,1,2] (S' := [_,_,_]) rfl (wc_seq (wc_seq ?_)))))))))
 obtain ⟨bj_1, hm, hLj_1⟩ := bindO_some hm
 refine wc_cut (σ := Bool) (fun j_1_20 => bj_1 = j_1_20) (fun j_1_20 => [(0, .pointer (some ⟨qg0,0, none⟩)), (1, .string a2), (2, .string a3), (20, .bool j_1_20)]) (fun j_1_20 => []) (fun j_1_20 => [.blk qg0 [.int .i64 a0, .slice qp1 qn2 qc3] 85, .own 87 3 R_Ropewalkref17_entryD (.slice qp1 qn2 qc3) l1]) ?_ ?_
 ·
  refine wc_region (wP rfl ?_)
  obtain ⟨v15, hc15, hm⟩ := bindO_some hm
  refine wC [] [0,1] rfl fn_76 rfl (w_ropewalkref17_fit_s N a2 _ hc15) (asK [] rfl) rfl (H' := [_,_]) rfl ?_
  rintro _ _ _ ⟨rfl, rfl, rfl⟩
  refine wP rfl ?_
  refine wl_split (d := 16) (S' := [_,_,_,_,_]) rfl rfl (fun hs16 => ?_) (fun hs16 => ?_)
  ·
   replace hm := iteT hm hs16
   refine wP rfl ?_
   obtain ⟨v18, hc18, hm⟩ := bindO_some hm
   refine wC [] [0,1] rfl fn_76 rfl (w_ropewalkref17_fit_s N a3 _ hc18) (asK [] rfl) rfl (H' := [_,_]) rfl ?_
   rintro _ _ _ ⟨rfl, rfl, rfl⟩
   refine wP rfl (wP rfl (wl_nil ?_))
   have hE := (Option.some.inj hm).symm
   refine we_join (!v18) hE [0,1,2,20] rfl (asK [] rfl) rfl
  ·
   replace hm := iteF hm hs16
   refine wO rfl (wO rfl (wP rfl (wP rfl (wl_nil ?_))))
   have hE := (Option.some.inj hm).symm
   refine we_join true hE [0,1,2,20] rfl (asK [] rfl) rfl
 ·
  rintro j_1_20 hE
  try dsimp only
  have hm := hLj_1
  rw [hE] at hm
  refine wc_cond rfl (fun hb20 => ?_) (fun hb20 => ?_)
  ·
   replace hm := iteT hm hb20
   refine wc_keep [] (S' := []) rfl (wc_seq (wc_region (wP rfl (wl_nil (we_then (wc_ret (we_then_ret ?_)))))))
   have hE := (Option.some.inj hm).symm
   obtain ⟨hE0, hE1⟩ := Prod.mk.inj hE
   clear hE
   replace hE0 := hE0.symm
   subst hE0
   replace hE1 := hE1.symm
   subst hE1
   refine ret_one (Hr := [_,_]) [0,1] Try.results55 (res_tmp rfl) ⟨qp1, qc3, qn2, rfl, rfl, rfl⟩ (asK [] rfl) rfl rfl (.inl rfl)
  ·
   replace hm := iteF hm hb20
   refine wc_keep [0,1,2] (S' := [_,_,_]) rfl (wc_skip (we_then (wc_seq (wc_region (wP rfl (wP rfl ?_))))))
   obtain ⟨⟨v24_0, v24_1, v24_2, v24_3, v24_4⟩, hc24, hm⟩ := bindO_some hm
   try dsimp only at hm
   refine wC [0,1] [] rfl fn_75 rfl (w_ropewalkref17_Disk_split_s N qg0 a0 qp1 qn2 qc3 l1 a2 _ _ _ _ _ hc24) (asK [] rfl) rfl (H' := []) rfl ?_
   rintro _ _ _ ⟨p24_0, c24_1, c24_2, rfl, rfl, rfl⟩
   refine wP rfl (wP rfl (wP rfl (wP rfl (wl_alloc rfl rfl rfl (freshS_eq rfl) rfl tZ_87 rfl (fun g7 => (wS 0 0 rfl tS_87 (all' := [_,_,_]) rfl (H' := [_,_,_,_]) rfl (wP rfl (wP rfl (wl_nil (we_then (wc_keep [9,8,7,0,2] (S' := [_,_,_,_,_]) rfl (wc_seq (wc_seq (wc_region ?_))))))))))))))
   refine wP rfl (wP rfl (wl_nil (we_then (wc_keep [29,8,7,0,2] (S' := [_,_,_,_,_]) rfl ?_))))
   refine wc_cond rfl (fun hb29 => ?_) (fun hb29 => ?_)
   ·
    replace hm := iteT hm hb29
    refine wc_keep [] (S' := []) rfl (wc_seq (wc_region (wP rfl (wl_nil (we_then (wc_ret (we_then_ret ?_)))))))
    have hE := (Option.some.inj hm).symm
    obtain ⟨hE0, hE1⟩ := Prod.mk.inj hE
    clear hE
    replace hE0 := hE0.symm
    subst hE0
    replace hE1 := hE1.symm
    subst hE1
    refine ret_one (Hr := [_,_]) [2,3] Try.results55 (res_tmp rfl) ⟨qp1, qc3, qn2, rfl, rfl, rfl⟩ (asK [] rfl) rfl rfl (.inl rfl)
   ·
    replace hm := iteF hm hb29
    refine wc_keep [8,7,0,2] (S' := [_,_,_,_]) rfl (wc_skip (we_then (wc_seq (wc_region (wP rfl (wl_build rfl rfl rfl (freshS_eq rfl) rfl tZ_85 tP_85 rfl (out := [_,_]) rfl (wl_alloc rfl rfl rfl (freshS_eq rfl) rfl tZ_85 rfl (fun g10 => (wS 0 0 rfl tS_85 (all' := [_,_]) rfl (H' := [_,_,_,_,_]) rfl (wl_nil (we_then (wc_keep [10,7,0,2] (S' := [_,_,_,_]) rfl (wc_seq (wc_region ?_))))))))))))))
    refine wP rfl ?_
    obtain ⟨⟨v34_0, v34_1, v34_2, v34_3, v34_4⟩, hc34, hm⟩ := bindO_some hm
    try dsimp only at hm
    refine wC [0,2] [1,3,4] rfl fn_75 rfl (w_ropewalkref17_Disk_split_s N g10 0 p24_0 c24_2 c24_1 v24_3 a3 _ _ _ _ _ hc34) (asK [] rfl) rfl (H' := [_,_,_]) rfl ?_
    rintro _ _ _ ⟨p34_0, c34_1, c34_2, rfl, rfl, rfl⟩
    refine wP rfl (wP rfl (wP rfl (wP rfl (wl_alloc rfl rfl rfl (freshS_eq rfl) rfl tZ_87 rfl (fun g11 => (wS 0 0 rfl tS_87 (all' := [_,_,_]) rfl (H' := [_,_,_,_,_,_,_]) rfl (wP rfl (wP rfl (wl_nil (we_then (wc_keep [12,7,0,2] (S' := [_,_,_,_]) rfl (wc_seq (wc_region (wP rfl ?_))))))))))))))
    refine wP rfl (wP rfl (wF rfl tF_87_1 (wD 4 1 rfl tS_9 tA_9 rfl (wF rfl tF_87_2 (wD 4 2 rfl tS_9 tA_9 rfl (wl_build rfl rfl rfl (freshS_eq rfl) rfl tZ_87 tP_87 rfl (out := [_,_,_]) rfl (wl_buildSlice rfl rfl rfl (freshS_eq rfl) rfl tE_83 tS_87 tZ_87 rfl (zs := [.string ((⟨#[]⟩ : ByteArray)), .string ((⟨#[]⟩ : ByteArray)), .string ((⟨#[]⟩ : ByteArray))]) (by kernel_rfl) rfl (out := [_,_,_]) rfl (fun g46 => ?_))))))))
    obtain ⟨hg47, hm⟩ := gd_some hm
    refine wl_appendH ([(⟨a3, v24_1, v24_2⟩ : Ropewalkref17_entryD)]) 2 0 rfl rfl rfl (freshS_eq rfl) rfl rfl rfl rfl rfl (fun F w hφ => ⟨[.string a3, .string v24_1, .string v24_2],[], rfl, rfl, ⟨(), rfl, ask_nil⟩, rfl⟩) tE_83 tR_87 rfl rfl (Nat.le_trans hg47 (by decide)) (Nat.le_trans (Nat.mul_le_mul_right _ hg47) (by decide)) (H2 := fun p47 c47 => [_,_, .own 87 3 R_Ropewalkref17_entryD (.slice p47 ((v34_3 ++ ([(⟨a3, v24_1, v24_2⟩ : Ropewalkref17_entryD)])).length) c47) (v34_3 ++ ([(⟨a3, v24_1, v24_2⟩ : Ropewalkref17_entryD)])), _,_,_,_,_]) (fun _ _ => rfl) (fun p47 c47 => (wl_drop 0 rfl (H' := [_,_,_,_,_,_,_]) rfl (wP rfl (wF rfl tF_85_1 (wS 5 1 rfl tS_83 (all' := [_,_]) rfl (H' := [_,_,_,_,_,_,_]) rfl (wl_nil (we_then (wc_keep [] (S' := []) rfl (wc_seq (wc_region (wP rfl (wl_nil (we_then (wc_ret ?_))))))))))))))
    have hE := (Option.some.inj hm).symm
    obtain ⟨hE0, hE1⟩ := Prod.mk.inj hE
    clear hE
    replace hE0 := hE0.symm
    subst hE0
    replace hE1 := hE1.symm
    subst hE1
    refine ret_one (Hr := [_,_]) [5,1] Try.results55 (res_tmp rfl) ⟨p47, c47, (v34_3 ++ ([(⟨a3, v24_1, v24_2⟩ : Ropewalkref17_entryD)])).length, rfl, rfl, rfl⟩ (asK [] rfl) rfl rfl (.inl rfl)
theorem w_ropewalkref17_Disk_Remove_s (N : Nat) (qg0 : Nat) (a0 : Int) (qp1 : Option Addr) (qn2 : Nat) (qc3 : Nat) (l1 : List Ropewalkref17_entryD) (a2 : ByteArray) (o0 : Nat) (o3 : List Ropewalkref17_entryD) (hm : m_ropewalkref17_Disk_Remove N a0 l1 a2 = some (o0, o3)) : Spec Try.prog 56 [.pointer (some ⟨qg0,0, none⟩), .string a2] [] [.blk qg0 [.int .i64 a0, .slice qp1 qn2 qc3] 85, .own 87 3 R_Ropewalkref17_entryD (.slice qp1 qn2 qc3) l1] (fun v Φr Hr => ∃ (o1 : Option Addr) (o2 : Nat) (o4 : Nat), v = .int .i64 ((o0 : Nat) : Int) ∧ Φr = [] ∧ Hr = [.blk qg0 [.int .i64 a0, .slice o1 o4 o2] 85, .own 87 3 R_Ropewalkref17_entryD (.slice o1 o4 o2) o3]) := by
 unfold m_ropewalkref17_Disk_Remove at hm
 refine spec_of Try.func56 rfl Try.ntmps56 rfl (S := [_,_]) rfl (fun C => (wc_seq (wc_region (wP rfl (wl_nil (we_then (wc_keep [0,1] (S' := [_,_]) rfl (wc_seq (wc_region (wP rfl (wP rfl ?_)))))))))))
 obtain ⟨⟨v11_0, v11_1, v11_2, v11_3, v11_4⟩, hc11, hm⟩ := bindO_some hm
 try dsimp only at hm
 refine wC [0,1] [] rfl fn_75 rfl (w_ropewalkref17_Disk_split_s N qg0 a0 qp1 qn2 qc3 l1 a2 _ _ _ _ _ hc11) (asK [] rfl) rfl (H' := []) rfl ?_
 rintro _ _ _ ⟨p11_0, c11_1, c11_2, rfl, rfl, rfl⟩
 refine wP rfl (wP rfl (wP rfl (wP rfl (wl_alloc rfl rfl rfl (freshS_eq rfl) rfl tZ_87 rfl (fun g5 => (wS 0 0 rfl tS_87 (all' := [_,_,_]) rfl (H' := [_,_,_,_]) rfl (wP rfl (wP rfl (wl_nil (we_then (wc_keep [7,6,0] (S' := [_,_,_]) rfl (wc_seq (wc_seq (wc_region ?_))))))))))))))
 refine wP rfl (wP rfl (wl_nil (we_then (wc_keep [16,6,0] (S' := [_,_,_]) rfl ?_))))
 refine wc_cond rfl (fun hb16 => ?_) (fun hb16 => ?_)
 ·
  replace hm := iteT hm hb16
  refine wc_keep [] (S' := []) rfl (wc_seq (wc_region (wP rfl (wl_nil (we_then (wc_ret (we_then_ret ?_)))))))
  have hE := (Option.some.inj hm).symm
  obtain ⟨hE0, hE1⟩ := Prod.mk.inj hE
  clear hE
  replace hE0 := hE0.symm
  subst hE0
  replace hE1 := hE1.symm
  subst hE1
  refine ret_one (Hr := [_,_]) [2,3] Try.results56 (res_tmp rfl) ⟨qp1, qc3, qn2, rfl, rfl, rfl⟩ (asK [] rfl) rfl rfl (.inl rfl)
 ·
  replace hm := iteF hm hb16
  refine wc_keep [6,0] (S' := [_,_]) rfl (wc_skip (we_then (wc_seq (wc_region (wP rfl (wP rfl (wP rfl (wF rfl tF_85_1 (wS 2 1 rfl tS_83 (all' := [_,_]) rfl (H' := [_,_,_,_]) rfl (wl_nil (we_then (wc_keep [] (S' := []) rfl (wc_seq ?_)))))))))))))
  refine wc_region (wP rfl (wl_nil (we_then (wc_ret ?_))))
  have hE := (Option.some.inj hm).symm
  obtain ⟨hE0, hE1⟩ := Prod.mk.inj hE
  clear hE
  replace hE0 := hE0.symm
  subst hE0
  replace hE1 := hE1.symm
  subst hE1
  refine ret_one (Hr := [_,_]) [2,1] Try.results56 (res_tmp rfl) ⟨p11_0, c11_1, c11_2, rfl, rfl, rfl⟩ (asK [] rfl) rfl rfl (.inl rfl)
theorem w_ropewalkref17_Disk_Crash_s (N : Nat) (qg0 : Nat) (a0 : Int) (qp1 : Option Addr) (qn2 : Nat) (qc3 : Nat) (l1 : List Ropewalkref17_entryD) (a2 : Int) (o2 : List Ropewalkref17_entryD) (hm : m_ropewalkref17_Disk_Crash N a0 l1 a2 = some o2) : Spec Try.prog 57 [.pointer (some ⟨qg0,0, none⟩), .int .i64 a2] [] [.blk qg0 [.int .i64 a0, .slice qp1 qn2 qc3] 85, .own 87 3 R_Ropewalkref17_entryD (.slice qp1 qn2 qc3) l1] (fun v Φr Hr => ∃ (o0 : Option Addr) (o1 : Nat) (o3 : Nat), v = .tuple #[] ∧ Φr = [] ∧ Hr = [.blk qg0 [.int .i64 a0, .slice o0 o3 o1] 85, .own 87 3 R_Ropewalkref17_entryD (.slice o0 o3 o1) o2, .own 87 3 R_Ropewalkref17_entryD (.slice qp1 qn2 qc3) l1]) := by
 unfold m_ropewalkref17_Disk_Crash at hm
 refine spec_of Try.func57 rfl Try.ntmps57 rfl (S := [_,_]) rfl (fun C => (wc_seq (wc_region (wP rfl (wl_nil (we_then (wc_seq ?_)))))))
 obtain ⟨bj_1, hm, hLj_1⟩ := bindO_some hm
 refine wc_cut (σ := (List Ropewalkref17_entryD) × (Option Addr) × Nat × Nat) (fun (j_1_4_l, j_1_4_p, j_1_4_c, j_1_4_n) => bj_1 = j_1_4_l) (fun (j_1_4_l, j_1_4_p, j_1_4_c, j_1_4_n) => [(0, .pointer (some ⟨qg0,0, none⟩)), (4, .slice j_1_4_p j_1_4_n j_1_4_c)]) (fun (j_1_4_l, j_1_4_p, j_1_4_c, j_1_4_n) => []) (fun (j_1_4_l, j_1_4_p, j_1_4_c, j_1_4_n) => [.blk qg0 [.int .i64 a0, .slice qp1 qn2 qc3] 85, .own 87 3 R_Ropewalkref17_entryD (.slice qp1 qn2 qc3) l1, .own 87 3 R_Ropewalkref17_entryD (.slice j_1_4_p j_1_4_n j_1_4_c) j_1_4_l]) ?_ ?_
 ·
  refine wc_seq (wc_region (wP rfl (wP rfl (wF rfl tF_85_1 (wD 0 1 rfl tS_83 tA_83 rfl (wl_ownLen 1 rfl (fun hl12 _ => (wN rfl tE_83 (wl_as (d := 12) (v' := .int .i64 ((l1.length : Nat) : Int)) (S' := [_,_,_,_,_,_,_]) rfl rfl (len_is hl12) (wP rfl (wl_nil (we_then (wc_keep [13,12,11,4,0,1] (S' := [_,_,_,_,_,_]) rfl (wc_block ?_))))))))))))))
  refine wc_rowNil 87 3 R_Ropewalkref17_entryD (wc_pick [2,0,1] rfl (H' := [_,_,_]) rfl (wc_loop (σ := Nat × Nat × (List Ropewalkref17_entryD) × (Option Addr) × Nat × Nat) (fun (nu1, u1_13, u1_4_l, u1_4_p, u1_4_c, u1_4_n) => iter (m_ropewalkref17_Disk_Crash_L1 N l1 a2) nu1 (u1_13, u1_4_l) = some bj_1) (fun (nu1, u1_13, u1_4_l, u1_4_p, u1_4_c, u1_4_n) => nu1) (fun (nu1, u1_13, u1_4_l, u1_4_p, u1_4_c, u1_4_n) => [(13, .int .i64 ((u1_13 : Nat) : Int)), (12, .int .i64 ((l1.length : Nat) : Int)), (11, .slice qp1 qn2 qc3), (4, .slice u1_4_p u1_4_n u1_4_c), (0, .pointer (some ⟨qg0,0, none⟩)), (1, .int .i64 a2)]) (fun (nu1, u1_13, u1_4_l, u1_4_p, u1_4_c, u1_4_n) => []) (fun (nu1, u1_13, u1_4_l, u1_4_p, u1_4_c, u1_4_n) => [.own 87 3 R_Ropewalkref17_entryD (.slice qp1 qn2 qc3) l1, .own 87 3 R_Ropewalkref17_entryD (.slice u1_4_p u1_4_n u1_4_c) u1_4_l, .blk qg0 [.int .i64 a0, .slice qp1 qn2 qc3] 85]) (N, 0,[], none, 0,0) hm [13,12,11,4,0,1] rfl (asK [] rfl) rfl (fun s_ hm => ?_)))
  obtain ⟨nu1, u1_13, u1_4_l, u1_4_p, u1_4_c, u1_4_n⟩ := s_
  try dsimp only at hm ⊢
  obtain ⟨mu1, bu1, hnu1, hq, hLu1⟩ := iter_some hm
  clear hm
  subst hnu1
  replace hm := hq
  clear hq
  unfold m_ropewalkref17_Disk_Crash_L1 at hm
  try dsimp only at hm
  refine wc_seq (wc_region (wP rfl (wl_as (d := 14) (v' := .bool (decide (u1_13 < l1.length))) (S' := [_,_,_,_,_,_]) rfl rfl (natlt (a := u1_13) (b := l1.length)) (wl_nil (we_then (wc_seq ?_))))))
  refine wc_cond rfl (fun hb14 => ?_) (fun hb14 => ?_)
  ·
   replace hm := iteT hm hb14
   refine wc_keep [13,12,11,4,0,1] (S' := [_,_,_,_,_,_]) rfl (wc_skip (we_then (wc_seq (wc_block (wc_seq (wc_region ?_))))))
   obtain ⟨x15, hx15, hm⟩ := bindO_some hm
   refine wl_indexH 0 u1_13 rfl rfl rfl (freshS_eq rfl) rfl rfl rfl rfl rfl (get_lt hx15) tE_83 tS_87 (fun g15 eg15 => ?_)
   subst eg15
   refine wl_loadRow R_Ropewalkref17_entryD_opens 0 u1_13 0 rfl rfl rfl (freshS_eq rfl) rfl rfl rfl hx15 tS_87 tA_87 (v := fun _ => .agg #[.string x15.name, .string x15.firm, .string x15.loose]) (fun _ => rfl) (fun _ => rfl) (fun _ _ => (wl_alloc rfl rfl rfl (freshS_eq rfl) rfl tZ_87 rfl (fun g6 => (wS 0 0 rfl tS_87 (all' := [_,_,_]) rfl (H' := [_,_,_,_]) rfl (wl_nil (we_then (wc_keep [6,13,12,11,4,0,1] (S' := [_,_,_,_,_,_,_]) rfl (wc_seq (wc_region (wP rfl (wP rfl (wl_nil (we_then (wc_keep [7,6,13,12,11,4,0,1] (S' := [_,_,_,_,_,_,_,_]) rfl (wc_seq ?_)))))))))))))))
   obtain ⟨bj_2, hm, hLj_2⟩ := bindO_some hm
   refine wc_cut (σ := Int) (fun j_2_7 => bj_2 = j_2_7) (fun j_2_7 => [(7, .int .i64 j_2_7), (6, .pointer (some ⟨g6,0, none⟩)), (13, .int .i64 ((u1_13 : Nat) : Int)), (12, .int .i64 ((l1.length : Nat) : Int)), (11, .slice (some ⟨g15,0, none⟩) qn2 qc3), (4, .slice u1_4_p u1_4_n u1_4_c), (0, .pointer (some ⟨qg0,0, none⟩)), (1, .int .i64 a2)]) (fun j_2_7 => []) (fun j_2_7 => [.blk g6 [.string x15.name, .string x15.firm, .string x15.loose] 87, .own 87 3 R_Ropewalkref17_entryD (.slice (some ⟨g15,0, none⟩) qn2 qc3) l1, .own 87 3 R_Ropewalkref17_entryD (.slice u1_4_p u1_4_n u1_4_c) u1_4_l, .blk qg0 [.int .i64 a0, .slice (some ⟨g15,0, none⟩) qn2 qc3] 85]) ?_ ?_
   ·
    refine wc_seq (wc_region (wP rfl (wP rfl (wl_nil (we_then (wc_keep [19,7,6,13,12,11,4,0,1] (S' := [_,_,_,_,_,_,_,_,_]) rfl ?_))))))
    refine wc_cond rfl (fun hb19 => ?_) (fun hb19 => ?_)
    ·
     replace hm := iteT hm hb19
     refine wc_keep [6,13,12,11,4,0,1] (S' := [_,_,_,_,_,_,_]) rfl (wc_region (wP rfl (wl_nil ?_)))
     have hE := (Option.some.inj hm).symm
     refine we_join 0 hE [7,6,13,12,11,4,0,1] rfl (asK [] rfl) rfl
    ·
     replace hm := iteF hm hb19
     refine wc_keep [7,6,13,12,11,4,0,1] (S' := [_,_,_,_,_,_,_,_]) rfl (wc_skip ?_)
     have hE := (Option.some.inj hm).symm
     refine we_join a2 hE [7,6,13,12,11,4,0,1] rfl (asK [] rfl) rfl
   ·
    rintro j_2_7 hE
    try dsimp only
    have hm := hLj_2
    rw [hE] at hm
    refine wc_seq ?_
    obtain ⟨bj_3, hm, hLj_3⟩ := bindO_some hm
    refine wc_cut (σ := Int) (fun j_3_7 => bj_3 = j_3_7) (fun j_3_7 => [(7, .int .i64 j_3_7), (6, .pointer (some ⟨g6,0, none⟩)), (13, .int .i64 ((u1_13 : Nat) : Int)), (12, .int .i64 ((l1.length : Nat) : Int)), (11, .slice (some ⟨g15,0, none⟩) qn2 qc3), (4, .slice u1_4_p u1_4_n u1_4_c), (0, .pointer (some ⟨qg0,0, none⟩)), (1, .int .i64 a2)]) (fun j_3_7 => []) (fun j_3_7 => [.blk g6 [.string x15.name, .string x15.firm, .string x15.loose] 87, .own 87 3 R_Ropewalkref17_entryD (.slice (some ⟨g15,0, none⟩) qn2 qc3) l1, .own 87 3 R_Ropewalkref17_entryD (.slice u1_4_p u1_4_n u1_4_c) u1_4_l, .blk qg0 [.int .i64 a0, .slice (some ⟨g15,0, none⟩) qn2 qc3] 85]) ?_ ?_
    ·
     refine wc_seq (wc_region (wP rfl (wF rfl tF_87_2 (wD 0 2 rfl tS_9 tA_9 rfl (wl_reck rfl rfl rfl (freshS_eq rfl) (rk_strLen rfl rfl tT_9) (wP rfl (wl_nil (we_then (wc_keep [24,7,6,13,12,11,4,0,1] (S' := [_,_,_,_,_,_,_,_,_]) rfl ?_)))))))))
     refine wc_cond rfl (fun hb24 => ?_) (fun hb24 => ?_)
     ·
      replace hm := iteT hm hb24
      refine wc_keep [6,13,12,11,4,0,1] (S' := [_,_,_,_,_,_,_]) rfl (wc_region (wF rfl tF_87_2 (wD 0 2 rfl tS_9 tA_9 rfl (wl_reck rfl rfl rfl (freshS_eq rfl) (rk_strLen rfl rfl tT_9) (wP rfl (wl_nil ?_))))))
      have hE := (Option.some.inj hm).symm
      refine we_join ((x15.loose.size : Nat) : Int) hE [7,6,13,12,11,4,0,1] rfl (asK [] rfl) rfl
     ·
      replace hm := iteF hm hb24
      refine wc_keep [7,6,13,12,11,4,0,1] (S' := [_,_,_,_,_,_,_,_]) rfl (wc_skip ?_)
      have hE := (Option.some.inj hm).symm
      refine we_join j_2_7 hE [7,6,13,12,11,4,0,1] rfl (asK [] rfl) rfl
    ·
     rintro j_3_7 hE
     try dsimp only
     have hm := hLj_3
     rw [hE] at hm
     obtain ⟨hn36_1, hm⟩ := gd_some hm
     obtain ⟨hg36, hm⟩ := gd_some hm
     obtain ⟨hg37, hm⟩ := gd_some hm
     obtain ⟨hg40, hm⟩ := gd_some hm
     refine wc_draw [0,1,2,3,4,5,6,7,9,10] rfl rfl (fun hok => (xP hok 0 rfl (wx_fieldAddr hok 1 rfl rfl rfl (freshS_eq rfl) rfl rfl rfl tF_87_0 (wx_loadH hok 2 0 0 rfl rfl rfl (freshS_eq rfl) rfl rfl rfl rfl (cs := [_]) rfl tS_9 tA_9 rfl rfl (wx_fieldAddr hok 3 rfl rfl rfl (freshS_eq rfl) rfl rfl rfl tF_87_1 (wx_loadH hok 4 0 1 rfl rfl rfl (freshS_eq rfl) rfl rfl rfl rfl (cs := [_]) rfl tS_9 tA_9 rfl rfl (wx_fieldAddr hok 5 rfl rfl rfl (freshS_eq rfl) rfl rfl rfl tF_87_2 (wx_loadH hok 6 0 2 rfl rfl rfl (freshS_eq rfl) rfl rfl rfl rfl (cs := [_]) rfl tS_9 tA_9 rfl rfl (xP hok 7 rfl (xS hok 8 rfl (wl_reck rfl rfl rfl (freshS_eq rfl) (rk_strTo j_3_7.toNat rfl rfl rfl (toNat_eq hn36_1) hg36 tT_9) (wl_nil (we_x [] [0,0] rfl rfl (wx_bin hok 9 rfl rfl rfl (freshS_eq rfl) rfl rfl rfl rfl (run_strAdd hg37) ?_))))))))))))))
     refine wx_build hok 10 rfl rfl rfl (freshS_eq rfl) rfl rfl tZ_87 tP_87 rfl (out := [_,_,_]) rfl (xS hok 11 rfl (wl_buildSlice rfl rfl rfl (freshS_eq rfl) rfl tE_83 tS_87 tZ_87 rfl (zs := [.string ((⟨#[]⟩ : ByteArray)), .string ((⟨#[]⟩ : ByteArray)), .string ((⟨#[]⟩ : ByteArray))]) (by kernel_rfl) rfl (out := [_,_,_]) rfl (fun g39 => (wl_nil (we_x [] [1,1,1] rfl rfl (xS hok 12 rfl (wl_appendH ([(⟨x15.name, x15.firm ++ (x15.loose.extract 0 j_3_7.toNat), (⟨#[]⟩ : ByteArray)⟩ : Ropewalkref17_entryD)]) 3 0 rfl rfl rfl (freshS_eq rfl) rfl rfl rfl rfl rfl (fun F w hφ => ⟨[.string x15.name, .string (x15.firm ++ (x15.loose.extract 0 j_3_7.toNat)), .string ((⟨#[]⟩ : ByteArray))],[], rfl, rfl, ⟨(), rfl, ask_nil⟩, rfl⟩) tE_83 tR_87 rfl rfl (Nat.le_trans hg40 (by decide)) (Nat.le_trans (Nat.mul_le_mul_right _ hg40) (by decide)) (H2 := fun p40 c40 => [_,_,_, .own 87 3 R_Ropewalkref17_entryD (.slice p40 ((u1_4_l ++ ([(⟨x15.name, x15.firm ++ (x15.loose.extract 0 j_3_7.toNat), (⟨#[]⟩ : ByteArray)⟩ : Ropewalkref17_entryD)])).length) c40) (u1_4_l ++ ([(⟨x15.name, x15.firm ++ (x15.loose.extract 0 j_3_7.toNat), (⟨#[]⟩ : ByteArray)⟩ : Ropewalkref17_entryD)])), _]) (fun _ _ => rfl) (fun p40 c40 => (wl_drop 0 rfl (H' := [_,_,_,_]) rfl (wl_nil (we_x [] [0,0,0] rfl rfl (xS hok 13 rfl (wl_pure (S' := [_,_,_,_,_,_,_,_,_,_,_,_,_,_,_,_,_,_,_,_]) rfl rfl rfl rfl rfl (wl_nil (we_x [] [] rfl rfl ?_)))))))))))))))
     refine wx_done hok rfl (we_block_normal (we_then (wc_keep [4,13,12,11,0,1] (S' := [_,_,_,_,_,_]) rfl (wc_region (wP rfl ?_)))))
     obtain ⟨hg41, hm⟩ := gd_some hm
     refine wl_as (d := 41) (v' := .int .i64 ((u1_13 + 1 : Nat) : Int)) (S' := [_,_,_,_,_,_]) rfl rfl (nat_add (a := u1_13) (b := 1) hg41) (wl_pure (S' := [_,_,_,_,_,_]) rfl rfl rfl rfl rfl (wl_nil ?_))
     have hE := (Option.some.inj hm).symm
     replace hE := link_inl hLu1 hE
     refine we_pick [1,2,3] rfl (H' := [_,_,_]) rfl ?_
     refine we_roundK (_, u1_13 + 1, (u1_4_l ++ ([(⟨x15.name, x15.firm ++ (x15.loose.extract 0 j_3_7.toNat), (⟨#[]⟩ : ByteArray)⟩ : Ropewalkref17_entryD)])), p40, c40, ((u1_4_l ++ ([(⟨x15.name, x15.firm ++ (x15.loose.extract 0 j_3_7.toNat), (⟨#[]⟩ : ByteArray)⟩ : Ropewalkref17_entryD)])).length)) (Nat.lt_succ_self _) hE [13,12,11,4,0,1] rfl (asK [] rfl) rfl
  ·
   replace hm := iteF hm hb14
   refine wc_keep [4,0] (S' := [_,_]) rfl (wc_exit (we_then_exit (we_then_exit (we_block_hit ?_))))
   have hE := (Option.some.inj hm).symm
   replace hE := link_inr hLu1 hE
   refine we_pick [2,0,1] rfl (H' := [_,_,_]) rfl ?_
   refine we_join (u1_4_l, u1_4_p, u1_4_c, u1_4_n) hE [0,4] rfl (asK [] rfl) rfl
 ·
  rintro ⟨j_1_4_l, j_1_4_p, j_1_4_c, j_1_4_n⟩ hE
  try dsimp only
  have hm := hLj_1
  rw [hE] at hm
  refine wc_region (wP rfl (wP rfl (wP rfl (wF rfl tF_85_1 (wS 0 1 rfl tS_83 (all' := [_,_]) rfl (H' := [_,_,_]) rfl (wl_nil ?_))))))
  have hE := (Option.some.inj hm).symm
  replace hE := hE.symm
  subst hE
  refine ret_none (Hr := [_,_,_]) [0,2,1] Try.results57 ⟨j_1_4_p, j_1_4_c, j_1_4_n, rfl, rfl, rfl⟩ (asK [] rfl) rfl rfl (.inr rfl)
theorem w_ropewalklaw17_both_errors_s (N : Nat) (qg0 : Nat) (a0 : Int) (qb1 : Nat) (e1 : List (ByteArray × Disk_rowsD)) (qg2 : Nat) (a2 : Int) (qp3 : Option Addr) (qn4 : Nat) (qc5 : Nat) (l3 : List Ropewalkref17_entryD) (a4 : Int) (a5 : ByteArray) (a6 : ByteArray) (qp6 : Option Addr) (qc7 : Nat) (l7 : List Int) (a8 : Int) (o0 : Int) (o1 : Nat) (o2 : List (ByteArray × Disk_rowsD)) (o5 : List Ropewalkref17_entryD) (hm : m_ropewalklaw17_both_errors N a0 e1 a2 l3 a4 a5 a6 l7 a8 = some (o0, o1, o2, o5)) : Spec Try.prog 27 [.agg #[.pointer (some ⟨qg0,0, none⟩), .pointer (some ⟨qg2,0, none⟩)], .agg #[.int .i64 a4, .string a5, .string a6, .slice qp6 l7.length qc7, .int .i64 a8]] [.sli 1 R_u8 qp6 qc7 l7] [.blk qg0 [.int .i64 a0, .map (some qb1)] 59, mapP (keyStr (tStr_run tT_9)) true R_Disk_rowsD qb1 e1, .blk qg2 [.int .i64 a2, .slice qp3 qn4 qc5] 85, .own 87 3 R_Ropewalkref17_entryD (.slice qp3 qn4 qc5) l3] (fun v Φr Hr => ∃ (o3 : Option Addr) (o4 : Nat) (o6 : Nat), v = .tuple #[.int .i64 o0, .int .i64 ((o1 : Nat) : Int)] ∧ Φr = [] ∧ Hr = [.blk qg0 [.int .i64 a0, .map (some qb1)] 59, mapP (keyStr (tStr_run tT_9)) true R_Disk_rowsD qb1 o2, .blk qg2 [.int .i64 a2, .slice o3 o6 o4] 85, .own 87 3 R_Ropewalkref17_entryD (.slice o3 o6 o4) o5]) := by
 unfold m_ropewalklaw17_both_errors at hm
 refine spec_of Try.func27 rfl Try.ntmps27 rfl (S := [_,_]) rfl (fun C => (wc_seq (wc_region (wB rfl (fun g2 => (wB rfl (fun g3 => (wP rfl (wP rfl (wl_nil (we_then (wc_keep [3,2] (S' := [_,_]) rfl (wc_seq (wc_region (wF rfl tF_54_0 (wD 0 0 rfl tS_3 tA_3 rfl ?_))))))))))))))))
 obtain ⟨v9, hc9, hm⟩ := bindO_some hm
 refine wC [] [0,1,2,3,4,5] rfl fn_23 rfl (w_ropewalkkit_Pick_s N a4 7 _ hc9) (asK [] rfl) rfl (H' := [_,_,_,_,_,_]) rfl ?_
 rintro _ _ _ ⟨rfl, rfl, rfl⟩
 refine wP rfl (wl_nil (we_then (wc_keep [6,3,2] (S' := [_,_,_]) rfl (wc_seq (wc_seq (wc_region (wP rfl (wP rfl (wl_nil (we_then (wc_keep [11,6,3,2] (S' := [_,_,_,_]) rfl ?_)))))))))))
 refine wc_cond rfl (fun hb11 => ?_) (fun hb11 => ?_)
 ·
  replace hm := iteT hm hb11
  refine wc_keep [3,2] (S' := [_,_]) rfl (wc_seq ?_)
  obtain ⟨⟨v18_0, v18_1⟩, hc18, hm⟩ := bindO_some hm
  try dsimp only at hm
  obtain ⟨⟨v25_0, v25_1⟩, hc25, hm⟩ := bindO_some hm
  try dsimp only at hm
  refine wc_draw [0,1,2,3,4,5,7,8,9,10,11,12] rfl rfl (fun hok => (wx_fieldAddr hok 0 rfl rfl rfl (freshS_eq rfl) rfl rfl rfl tF_44_0 (wx_loadH hok 1 1 0 rfl rfl rfl (freshS_eq rfl) rfl rfl rfl rfl (cs := [_]) rfl tS_24 tA_24 rfl rfl (wx_fieldAddr hok 2 rfl rfl rfl (freshS_eq rfl) rfl rfl rfl tF_54_1 (wx_loadH hok 3 0 1 rfl rfl rfl (freshS_eq rfl) rfl rfl rfl rfl (cs := [_]) rfl tS_9 tA_9 rfl rfl (wx_fieldAddr hok 4 rfl rfl rfl (freshS_eq rfl) rfl rfl rfl tF_54_3 (wx_loadH hok 5 0 3 rfl rfl rfl (freshS_eq rfl) rfl rfl rfl rfl (cs := [_]) rfl tS_27 tA_27 rfl rfl (wx_fieldAddr hok 7 rfl rfl rfl (freshS_eq rfl) rfl rfl rfl tF_44_1 (wx_loadH hok 8 1 1 rfl rfl rfl (freshS_eq rfl) rfl rfl rfl rfl (cs := [_]) rfl tS_42 tA_42 rfl rfl (wx_fieldAddr hok 9 rfl rfl rfl (freshS_eq rfl) rfl rfl rfl tF_54_1 (wx_loadH hok 10 0 1 rfl rfl rfl (freshS_eq rfl) rfl rfl rfl rfl (cs := [_]) rfl tS_9 tA_9 rfl rfl (wx_fieldAddr hok 11 rfl rfl rfl (freshS_eq rfl) rfl rfl rfl tF_54_3 (wx_loadH hok 12 0 3 rfl rfl rfl (freshS_eq rfl) rfl rfl rfl rfl (cs := [_]) rfl tS_27 tA_27 rfl rfl (xS hok 6 rfl ?_))))))))))))))
  refine wC [2,3] [0,1,4,5] rfl fn_11 rfl (w_disk_Disk_Append_s N qg0 a0 qb1 e1 a5 qp6 qc7 l7 _ _ hc18) (asK [0] rfl) rfl (H' := [_,_,_,_]) rfl ?_
  rintro _ _ _ ⟨rfl, rfl, rfl⟩
  refine wl_nil (we_x [0] [2,2,3] rfl rfl (xS hok 13 rfl (wC [4,5] [0,1,2,3] rfl fn_52 rfl (w_ropewalkref17_Disk_Append_s N qg2 a2 qp3 qn4 qc5 l3 a5 qp6 qc7 l7 _ _ hc25) (asK [0] rfl) rfl (H' := [_,_,_,_]) rfl ?_)))
  rintro _ _ _ ⟨p25_0, c25_1, c25_2, rfl, rfl, rfl⟩
  refine wl_nil (we_x [0] [4,4,5] rfl rfl (xS hok 14 rfl (wP rfl (wl_nil (we_x [0] [4,4,5] rfl rfl (xS hok 15 rfl (wP rfl (wl_nil (we_x [0] [] rfl rfl (wx_done hok rfl (we_then (wc_keep [5,4] (S' := [_,_]) rfl (wc_ret ?_)))))))))))))
  refine we_then_ret ?_
  have hE := (Option.some.inj hm).symm
  obtain ⟨hE0, hF1⟩ := Prod.mk.inj hE
  obtain ⟨hE1, hF2⟩ := Prod.mk.inj hF1
  obtain ⟨hE2, hE3⟩ := Prod.mk.inj hF2
  clear hE hF1 hF2
  replace hE0 := hE0.symm
  subst hE0
  replace hE1 := hE1.symm
  subst hE1
  replace hE2 := hE2.symm
  subst hE2
  replace hE3 := hE3.symm
  subst hE3
  refine ret_two (Hr := [_,_,_,_]) [2,3,0,1] Try.results27 (res_tmp rfl) (res_tmp rfl) ⟨p25_0, c25_1, c25_2, rfl, rfl, rfl⟩ (asK [] rfl) rfl rfl (.inl rfl)
 ·
  replace hm := iteF hm hb11
  refine wc_keep [6,3,2] (S' := [_,_,_]) rfl (wc_skip (we_then (wc_seq (wc_seq (wc_region (wP rfl (wP rfl (wl_nil (we_then (wc_keep [27,6,3,2] (S' := [_,_,_,_]) rfl ?_))))))))))
  refine wc_cond rfl (fun hb27 => ?_) (fun hb27 => ?_)
  ·
   replace hm := iteT hm hb27
   refine wc_keep [3,2] (S' := [_,_]) rfl (wc_seq ?_)
   obtain ⟨⟨v32_0, v32_1⟩, hc32, hm⟩ := bindO_some hm
   try dsimp only at hm
   obtain ⟨⟨v37_0, v37_1⟩, hc37, hm⟩ := bindO_some hm
   try dsimp only at hm
   refine wc_draw [0,1,2,3,5,6,7,8] rfl rfl (fun hok => (wx_fieldAddr hok 0 rfl rfl rfl (freshS_eq rfl) rfl rfl rfl tF_44_0 (wx_loadH hok 1 1 0 rfl rfl rfl (freshS_eq rfl) rfl rfl rfl rfl (cs := [_]) rfl tS_24 tA_24 rfl rfl (wx_fieldAddr hok 2 rfl rfl rfl (freshS_eq rfl) rfl rfl rfl tF_54_1 (wx_loadH hok 3 0 1 rfl rfl rfl (freshS_eq rfl) rfl rfl rfl rfl (cs := [_]) rfl tS_9 tA_9 rfl rfl (wx_fieldAddr hok 5 rfl rfl rfl (freshS_eq rfl) rfl rfl rfl tF_44_1 (wx_loadH hok 6 1 1 rfl rfl rfl (freshS_eq rfl) rfl rfl rfl rfl (cs := [_]) rfl tS_42 tA_42 rfl rfl (wx_fieldAddr hok 7 rfl rfl rfl (freshS_eq rfl) rfl rfl rfl tF_54_1 (wx_loadH hok 8 0 1 rfl rfl rfl (freshS_eq rfl) rfl rfl rfl rfl (cs := [_]) rfl tS_9 tA_9 rfl rfl (xS hok 4 rfl (wC [2,3] [0,1,4,5] rfl fn_12 rfl (w_disk_Disk_Sync_s N qg0 a0 qb1 e1 a5 _ _ hc32) (asK [] rfl) rfl (H' := [_,_,_,_]) rfl ?_)))))))))))
   rintro _ _ _ ⟨rfl, rfl, rfl⟩
   refine wl_nil (we_x [0] [2,3] rfl rfl (xS hok 9 rfl (wC [4,5] [0,1,2,3] rfl fn_53 rfl (w_ropewalkref17_Disk_Sync_s N qg2 a2 qp3 qn4 qc5 l3 a5 _ _ hc37) (asK [] rfl) rfl (H' := [_,_,_,_]) rfl ?_)))
   rintro _ _ _ ⟨p37_0, c37_1, c37_2, rfl, rfl, rfl⟩
   refine wl_nil (we_x [0] [4,5] rfl rfl (xS hok 10 rfl (wP rfl (wl_nil (we_x [0] [4,5] rfl rfl (xS hok 11 rfl (wP rfl (wl_nil (we_x [0] [] rfl rfl (wx_done hok rfl (we_then (wc_keep [5,4] (S' := [_,_]) rfl (wc_ret ?_)))))))))))))
   refine we_then_ret ?_
   have hE := (Option.some.inj hm).symm
   obtain ⟨hE0, hF1⟩ := Prod.mk.inj hE
   obtain ⟨hE1, hF2⟩ := Prod.mk.inj hF1
   obtain ⟨hE2, hE3⟩ := Prod.mk.inj hF2
   clear hE hF1 hF2
   replace hE0 := hE0.symm
   subst hE0
   replace hE1 := hE1.symm
   subst hE1
   replace hE2 := hE2.symm
   subst hE2
   replace hE3 := hE3.symm
   subst hE3
   refine ret_two (Hr := [_,_,_,_]) [2,3,0,1] Try.results27 (res_tmp rfl) (res_tmp rfl) ⟨p37_0, c37_1, c37_2, rfl, rfl, rfl⟩ (asK [] rfl) rfl rfl (.inl rfl)
  ·
   replace hm := iteF hm hb27
   refine wc_keep [6,3,2] (S' := [_,_,_]) rfl (wc_skip (we_then (wc_seq (wc_seq (wc_region (wP rfl (wP rfl (wl_nil (we_then (wc_keep [39,6,3,2] (S' := [_,_,_,_]) rfl ?_))))))))))
   refine wc_cond rfl (fun hb39 => ?_) (fun hb39 => ?_)
   ·
    replace hm := iteT hm hb39
    refine wc_keep [3,2] (S' := [_,_]) rfl (wc_seq ?_)
    obtain ⟨⟨v46_0, v46_1⟩, hc46, hm⟩ := bindO_some hm
    try dsimp only at hm
    obtain ⟨⟨v53_0, v53_1⟩, hc53, hm⟩ := bindO_some hm
    try dsimp only at hm
    refine wc_draw [0,1,2,3,4,5,7,8,9,10,11,12] rfl rfl (fun hok => (wx_fieldAddr hok 0 rfl rfl rfl (freshS_eq rfl) rfl rfl rfl tF_44_0 (wx_loadH hok 1 1 0 rfl rfl rfl (freshS_eq rfl) rfl rfl rfl rfl (cs := [_]) rfl tS_24 tA_24 rfl rfl (wx_fieldAddr hok 2 rfl rfl rfl (freshS_eq rfl) rfl rfl rfl tF_54_1 (wx_loadH hok 3 0 1 rfl rfl rfl (freshS_eq rfl) rfl rfl rfl rfl (cs := [_]) rfl tS_9 tA_9 rfl rfl (wx_fieldAddr hok 4 rfl rfl rfl (freshS_eq rfl) rfl rfl rfl tF_54_4 (wx_loadH hok 5 0 4 rfl rfl rfl (freshS_eq rfl) rfl rfl rfl rfl (cs := [_]) rfl tS_3 tA_3 rfl rfl (wx_fieldAddr hok 7 rfl rfl rfl (freshS_eq rfl) rfl rfl rfl tF_44_1 (wx_loadH hok 8 1 1 rfl rfl rfl (freshS_eq rfl) rfl rfl rfl rfl (cs := [_]) rfl tS_42 tA_42 rfl rfl (wx_fieldAddr hok 9 rfl rfl rfl (freshS_eq rfl) rfl rfl rfl tF_54_1 (wx_loadH hok 10 0 1 rfl rfl rfl (freshS_eq rfl) rfl rfl rfl rfl (cs := [_]) rfl tS_9 tA_9 rfl rfl (wx_fieldAddr hok 11 rfl rfl rfl (freshS_eq rfl) rfl rfl rfl tF_54_4 (wx_loadH hok 12 0 4 rfl rfl rfl (freshS_eq rfl) rfl rfl rfl rfl (cs := [_]) rfl tS_3 tA_3 rfl rfl (xS hok 6 rfl ?_))))))))))))))
    refine wC [2,3] [0,1,4,5] rfl fn_30 rfl (w_disk_Disk_Cut_v3_s N qg0 a0 qb1 e1 a5 a8 _ _ hc46) (asK [] rfl) rfl (H' := [_,_,_,_]) rfl ?_
    rintro _ _ _ ⟨rfl, rfl, rfl⟩
    refine wl_nil (we_x [0] [2,2,3] rfl rfl (xS hok 13 rfl (wC [4,5] [0,1,2,3] rfl fn_54 rfl (w_ropewalkref17_Disk_Cut_s N qg2 a2 qp3 qn4 qc5 l3 a5 a8 _ _ hc53) (asK [] rfl) rfl (H' := [_,_,_,_]) rfl ?_)))
    rintro _ _ _ ⟨p53_0, c53_1, c53_2, rfl, rfl, rfl⟩
    refine wl_nil (we_x [0] [4,4,5] rfl rfl (xS hok 14 rfl (wP rfl (wl_nil (we_x [0] [4,4,5] rfl rfl (xS hok 15 rfl (wP rfl (wl_nil (we_x [0] [] rfl rfl (wx_done hok rfl (we_then (wc_keep [5,4] (S' := [_,_]) rfl (wc_ret ?_)))))))))))))
    refine we_then_ret ?_
    have hE := (Option.some.inj hm).symm
    obtain ⟨hE0, hF1⟩ := Prod.mk.inj hE
    obtain ⟨hE1, hF2⟩ := Prod.mk.inj hF1
    obtain ⟨hE2, hE3⟩ := Prod.mk.inj hF2
    clear hE hF1 hF2
    replace hE0 := hE0.symm
    subst hE0
    replace hE1 := hE1.symm
    subst hE1
    replace hE2 := hE2.symm
    subst hE2
    replace hE3 := hE3.symm
    subst hE3
    refine ret_two (Hr := [_,_,_,_]) [2,3,0,1] Try.results27 (res_tmp rfl) (res_tmp rfl) ⟨p53_0, c53_1, c53_2, rfl, rfl, rfl⟩ (asK [] rfl) rfl rfl (.inl rfl)
   ·
    replace hm := iteF hm hb39
    refine wc_keep [6,3,2] (S' := [_,_,_]) rfl (wc_skip (we_then (wc_seq (wc_seq (wc_region (wP rfl (wP rfl (wl_nil (we_then (wc_keep [55,6,3,2] (S' := [_,_,_,_]) rfl ?_))))))))))
    refine wc_cond rfl (fun hb55 => ?_) (fun hb55 => ?_)
    ·
     replace hm := iteT hm hb55
     refine wc_keep [3,2] (S' := [_,_]) rfl (wc_seq ?_)
     obtain ⟨⟨v62_0, v62_1⟩, hc62, hm⟩ := bindO_some hm
     try dsimp only at hm
     obtain ⟨⟨v69_0, v69_1⟩, hc69, hm⟩ := bindO_some hm
     try dsimp only at hm
     refine wc_draw [0,1,2,3,4,5,7,8,9,10,11,12] rfl rfl (fun hok => (wx_fieldAddr hok 0 rfl rfl rfl (freshS_eq rfl) rfl rfl rfl tF_44_0 (wx_loadH hok 1 1 0 rfl rfl rfl (freshS_eq rfl) rfl rfl rfl rfl (cs := [_]) rfl tS_24 tA_24 rfl rfl (wx_fieldAddr hok 2 rfl rfl rfl (freshS_eq rfl) rfl rfl rfl tF_54_1 (wx_loadH hok 3 0 1 rfl rfl rfl (freshS_eq rfl) rfl rfl rfl rfl (cs := [_]) rfl tS_9 tA_9 rfl rfl (wx_fieldAddr hok 4 rfl rfl rfl (freshS_eq rfl) rfl rfl rfl tF_54_2 (wx_loadH hok 5 0 2 rfl rfl rfl (freshS_eq rfl) rfl rfl rfl rfl (cs := [_]) rfl tS_9 tA_9 rfl rfl (wx_fieldAddr hok 7 rfl rfl rfl (freshS_eq rfl) rfl rfl rfl tF_44_1 (wx_loadH hok 8 1 1 rfl rfl rfl (freshS_eq rfl) rfl rfl rfl rfl (cs := [_]) rfl tS_42 tA_42 rfl rfl (wx_fieldAddr hok 9 rfl rfl rfl (freshS_eq rfl) rfl rfl rfl tF_54_1 (wx_loadH hok 10 0 1 rfl rfl rfl (freshS_eq rfl) rfl rfl rfl rfl (cs := [_]) rfl tS_9 tA_9 rfl rfl (wx_fieldAddr hok 11 rfl rfl rfl (freshS_eq rfl) rfl rfl rfl tF_54_2 (wx_loadH hok 12 0 2 rfl rfl rfl (freshS_eq rfl) rfl rfl rfl rfl (cs := [_]) rfl tS_9 tA_9 rfl rfl (xS hok 6 rfl ?_))))))))))))))
     refine wC [2,3] [0,1,4,5] rfl fn_29 rfl (w_disk_Disk_Rename_v3_s N qg0 a0 qb1 e1 a5 a6 _ _ hc62) (asK [] rfl) rfl (H' := [_,_,_,_]) rfl ?_
     rintro _ _ _ ⟨rfl, rfl, rfl⟩
     refine wl_nil (we_x [0] [2,2,3] rfl rfl (xS hok 13 rfl (wC [4,5] [0,1,2,3] rfl fn_55 rfl (w_ropewalkref17_Disk_Rename_s N qg2 a2 qp3 qn4 qc5 l3 a5 a6 _ _ hc69) (asK [] rfl) rfl (H' := [_,_,_,_]) rfl ?_)))
     rintro _ _ _ ⟨p69_0, c69_1, c69_2, rfl, rfl, rfl⟩
     refine wl_nil (we_x [0] [4,4,5] rfl rfl (xS hok 14 rfl (wP rfl (wl_nil (we_x [0] [4,4,5] rfl rfl (xS hok 15 rfl (wP rfl (wl_nil (we_x [0] [] rfl rfl (wx_done hok rfl (we_then (wc_keep [5,4] (S' := [_,_]) rfl (wc_ret ?_)))))))))))))
     refine we_then_ret ?_
     have hE := (Option.some.inj hm).symm
     obtain ⟨hE0, hF1⟩ := Prod.mk.inj hE
     obtain ⟨hE1, hF2⟩ := Prod.mk.inj hF1
     obtain ⟨hE2, hE3⟩ := Prod.mk.inj hF2
     clear hE hF1 hF2
     replace hE0 := hE0.symm
     subst hE0
     replace hE1 := hE1.symm
     subst hE1
     replace hE2 := hE2.symm
     subst hE2
     replace hE3 := hE3.symm
     subst hE3
     refine ret_two (Hr := [_,_,_,_]) [2,3,0,1] Try.results27 (res_tmp rfl) (res_tmp rfl) ⟨p69_0, c69_1, c69_2, rfl, rfl, rfl⟩ (asK [] rfl) rfl rfl (.inl rfl)
    ·
     replace hm := iteF hm hb55
     refine wc_keep [6,3,2] (S' := [_,_,_]) rfl (wc_skip (we_then (wc_seq (wc_seq (wc_region (wP rfl (wP rfl (wl_nil (we_then (wc_keep [71,3,2] (S' := [_,_,_]) rfl ?_))))))))))
     refine wc_cond rfl (fun hb71 => ?_) (fun hb71 => ?_)
     ·
      replace hm := iteT hm hb71
      refine wc_keep [3,2] (S' := [_,_]) rfl (wc_seq ?_)
      obtain ⟨⟨v76_0, v76_1⟩, hc76, hm⟩ := bindO_some hm
      try dsimp only at hm
      obtain ⟨⟨v81_0, v81_1⟩, hc81, hm⟩ := bindO_some hm
      try dsimp only at hm
      refine wc_draw [0,1,2,3,5,6,7,8] rfl rfl (fun hok => (wx_fieldAddr hok 0 rfl rfl rfl (freshS_eq rfl) rfl rfl rfl tF_44_0 (wx_loadH hok 1 1 0 rfl rfl rfl (freshS_eq rfl) rfl rfl rfl rfl (cs := [_]) rfl tS_24 tA_24 rfl rfl (wx_fieldAddr hok 2 rfl rfl rfl (freshS_eq rfl) rfl rfl rfl tF_54_1 (wx_loadH hok 3 0 1 rfl rfl rfl (freshS_eq rfl) rfl rfl rfl rfl (cs := [_]) rfl tS_9 tA_9 rfl rfl (wx_fieldAddr hok 5 rfl rfl rfl (freshS_eq rfl) rfl rfl rfl tF_44_1 (wx_loadH hok 6 1 1 rfl rfl rfl (freshS_eq rfl) rfl rfl rfl rfl (cs := [_]) rfl tS_42 tA_42 rfl rfl (wx_fieldAddr hok 7 rfl rfl rfl (freshS_eq rfl) rfl rfl rfl tF_54_1 (wx_loadH hok 8 0 1 rfl rfl rfl (freshS_eq rfl) rfl rfl rfl rfl (cs := [_]) rfl tS_9 tA_9 rfl rfl (xS hok 4 rfl (wC [2,3] [0,1,4,5] rfl fn_31 rfl (w_disk_Disk_Remove_v3_s N qg0 a0 qb1 e1 a5 _ _ hc76) (asK [] rfl) rfl (H' := [_,_,_,_]) rfl ?_)))))))))))
      rintro _ _ _ ⟨rfl, rfl, rfl⟩
      refine wl_nil (we_x [0] [2,3] rfl rfl (xS hok 9 rfl (wC [4,5] [0,1,2,3] rfl fn_56 rfl (w_ropewalkref17_Disk_Remove_s N qg2 a2 qp3 qn4 qc5 l3 a5 _ _ hc81) (asK [] rfl) rfl (H' := [_,_,_,_]) rfl ?_)))
      rintro _ _ _ ⟨p81_0, c81_1, c81_2, rfl, rfl, rfl⟩
      refine wl_nil (we_x [0] [4,5] rfl rfl (xS hok 10 rfl (wP rfl (wl_nil (we_x [0] [4,5] rfl rfl (xS hok 11 rfl (wP rfl (wl_nil (we_x [0] [] rfl rfl (wx_done hok rfl (we_then (wc_keep [5,4] (S' := [_,_]) rfl (wc_ret ?_)))))))))))))
      refine we_then_ret ?_
      have hE := (Option.some.inj hm).symm
      obtain ⟨hE0, hF1⟩ := Prod.mk.inj hE
      obtain ⟨hE1, hF2⟩ := Prod.mk.inj hF1
      obtain ⟨hE2, hE3⟩ := Prod.mk.inj hF2
      clear hE hF1 hF2
      replace hE0 := hE0.symm
      subst hE0
      replace hE1 := hE1.symm
      subst hE1
      replace hE2 := hE2.symm
      subst hE2
      replace hE3 := hE3.symm
      subst hE3
      refine ret_two (Hr := [_,_,_,_]) [2,3,0,1] Try.results27 (res_tmp rfl) (res_tmp rfl) ⟨p81_0, c81_1, c81_2, rfl, rfl, rfl⟩ (asK [] rfl) rfl rfl (.inl rfl)
     ·
      replace hm := iteF hm hb71
      refine wc_keep [3,2] (S' := [_,_]) rfl (wc_skip (we_then (wc_seq (wc_region (wF rfl tF_44_0 (wD 1 0 rfl tS_24 tA_24 rfl (wF rfl tF_54_4 (wD 0 4 rfl tS_3 tA_3 rfl ?_))))))))
      obtain ⟨v86, hc86, hm⟩ := bindO_some hm
      refine wC [2,3] [0,1,4,5] rfl fn_13 rfl (w_disk_Disk_Crash_s N qg0 a0 qb1 e1 a8 _ hc86) (asK [] rfl) rfl (H' := [_,_,_,_]) rfl ?_
      rintro _ _ _ ⟨rfl, rfl, rfl⟩
      refine wl_nil (we_then (wc_keep [3,2] (S' := [_,_]) rfl (wc_seq (wc_region (wF rfl tF_44_1 (wD 3 1 rfl tS_42 tA_42 rfl (wF rfl tF_54_4 (wD 2 4 rfl tS_3 tA_3 rfl ?_))))))))
      obtain ⟨v91, hc91, hm⟩ := bindO_some hm
      refine wC [4,5] [0,1,2,3] rfl fn_57 rfl (w_ropewalkref17_Disk_Crash_s N qg2 a2 qp3 qn4 qc5 l3 a8 _ hc91) (asK [] rfl) rfl (H' := [_,_,_,_]) rfl ?_
      rintro _ _ _ ⟨p91_0, c91_1, c91_2, rfl, rfl, rfl⟩
      refine wl_nil (we_then (wc_keep [] (S' := []) rfl (wc_seq (wc_region (wP rfl (wP rfl (wl_nil (we_then (wc_ret ?_)))))))))
      have hE := (Option.some.inj hm).symm
      obtain ⟨hE0, hF1⟩ := Prod.mk.inj hE
      obtain ⟨hE1, hF2⟩ := Prod.mk.inj hF1
      obtain ⟨hE2, hE3⟩ := Prod.mk.inj hF2
      clear hE hF1 hF2
      replace hE0 := hE0.symm
      subst hE0
      replace hE1 := hE1.symm
      subst hE1
      replace hE2 := hE2.symm
      subst hE2
      replace hE3 := hE3.symm
      subst hE3
      refine ret_two (Hr := [_,_,_,_]) [3,4,0,1] Try.results27 (res_tmp rfl) (res_tmp rfl) ⟨p91_0, c91_1, c91_2, rfl, rfl, rfl⟩ (asK [] rfl) rfl rfl (.inl rfl)
theorem w_ropewalkref17_Disk_List_s (N : Nat) (qg0 : Nat) (a0 : Int) (qp1 : Option Addr) (qn2 : Nat) (qc3 : Nat) (l1 : List Ropewalkref17_entryD) (o2 : List ByteArray) (hm : m_ropewalkref17_Disk_List N a0 l1 = some o2) : Spec Try.prog 50 [.pointer (some ⟨qg0,0, none⟩)] [] [.blk qg0 [.int .i64 a0, .slice qp1 qn2 qc3] 85, .own 87 3 R_Ropewalkref17_entryD (.slice qp1 qn2 qc3) l1] (fun v Φr Hr => ∃ (o0 : Option Addr) (o1 : Nat) (o3 : Nat), v = .slice o0 o3 o1 ∧ Φr = [] ∧ Hr = [.own 9 1 R_str (.slice o0 o3 o1) o2, .blk qg0 [.int .i64 a0, .slice qp1 qn2 qc3] 85, .own 87 3 R_Ropewalkref17_entryD (.slice qp1 qn2 qc3) l1]) := by
 unfold m_ropewalkref17_Disk_List at hm
 refine spec_of Try.func50 rfl Try.ntmps50 rfl (S := [_]) rfl (fun C => (wc_seq (wc_region (wP rfl (wl_nil (we_then (wc_keep [0] (S' := [_]) rfl (wc_seq (wc_region (wP rfl (wl_nil (we_then (wc_seq ?_)))))))))))))
 obtain ⟨bj_1, hm, hLj_1⟩ := bindO_some hm
 refine wc_cut (σ := (List ByteArray) × (Option Addr) × Nat × Nat) (fun (j_1_3_l, j_1_3_p, j_1_3_c, j_1_3_n) => bj_1 = j_1_3_l) (fun (j_1_3_l, j_1_3_p, j_1_3_c, j_1_3_n) => [(3, .slice j_1_3_p j_1_3_n j_1_3_c)]) (fun (j_1_3_l, j_1_3_p, j_1_3_c, j_1_3_n) => []) (fun (j_1_3_l, j_1_3_p, j_1_3_c, j_1_3_n) => [.own 9 1 R_str (.slice j_1_3_p j_1_3_n j_1_3_c) j_1_3_l, .blk qg0 [.int .i64 a0, .slice qp1 qn2 qc3] 85, .own 87 3 R_Ropewalkref17_entryD (.slice qp1 qn2 qc3) l1]) ?_ ?_
 ·
  refine wc_block (wc_rowNil 9 1 R_str (wc_loop (σ := Nat × (List ByteArray) × (Option Addr) × Nat × Nat) (fun (nu1, u1_3_l, u1_3_p, u1_3_c, u1_3_n) => iter (m_ropewalkref17_Disk_List_L1 N l1) nu1 u1_3_l = some bj_1) (fun (nu1, u1_3_l, u1_3_p, u1_3_c, u1_3_n) => nu1) (fun (nu1, u1_3_l, u1_3_p, u1_3_c, u1_3_n) => [(3, .slice u1_3_p u1_3_n u1_3_c), (0, .pointer (some ⟨qg0,0, none⟩))]) (fun (nu1, u1_3_l, u1_3_p, u1_3_c, u1_3_n) => []) (fun (nu1, u1_3_l, u1_3_p, u1_3_c, u1_3_n) => [.own 9 1 R_str (.slice u1_3_p u1_3_n u1_3_c) u1_3_l, .blk qg0 [.int .i64 a0, .slice qp1 qn2 qc3] 85, .own 87 3 R_Ropewalkref17_entryD (.slice qp1 qn2 qc3) l1]) (N, [], none, 0,0) hm [3,0] rfl (asK [] rfl) rfl (fun s_ hm => ?_)))
  obtain ⟨nu1, u1_3_l, u1_3_p, u1_3_c, u1_3_n⟩ := s_
  try dsimp only at hm ⊢
  obtain ⟨mu1, bu1, hnu1, hq, hLu1⟩ := iter_some hm
  clear hm
  subst hnu1
  replace hm := hq
  clear hq
  unfold m_ropewalkref17_Disk_List_L1 at hm
  try dsimp only at hm
  refine wc_seq (wc_seq (wc_region (wP rfl (wl_ownLen 0 rfl (fun hl9 _ => (wN rfl tE_26 (wl_as (d := 9) (v' := .int .i64 ((u1_3_l.length : Nat) : Int)) (S' := [_,_,_]) rfl rfl (len_is hl9) (wP rfl (wP rfl (wF rfl tF_85_1 (wD 1 1 rfl tS_83 tA_83 rfl (wl_ownLen 2 rfl (fun hl14 _ => (wN rfl tE_83 (wl_as (d := 14) (v' := .int .i64 ((l1.length : Nat) : Int)) (S' := [_,_,_,_,_,_,_,_]) rfl rfl (len_is hl14) ?_)))))))))))))))
  refine wP rfl (wl_as (d := 15) (v' := .bool (decide (u1_3_l.length < l1.length))) (S' := [_,_,_,_,_,_,_,_,_]) rfl rfl (natlt (a := u1_3_l.length) (b := l1.length)) (wl_nil (we_then (wc_keep [15,3,0] (S' := [_,_,_]) rfl ?_))))
  refine wc_cond rfl (fun hb15 => ?_) (fun hb15 => ?_)
  ·
   replace hm := iteT hm hb15
   refine wc_keep [3,0] (S' := [_,_]) rfl (wc_skip (we_then (wc_block (wc_seq (wc_region (wP rfl (wl_nil (we_then (wc_seq ?_)))))))))
   obtain ⟨bj_2, hm, hLj_2⟩ := bindO_some hm
   refine wc_cut (σ := ByteArray) (fun j_2_4 => bj_2 = j_2_4) (fun j_2_4 => [(3, .slice u1_3_p u1_3_n u1_3_c), (0, .pointer (some ⟨qg0,0, none⟩)), (4, .string j_2_4)]) (fun j_2_4 => []) (fun j_2_4 => [.own 9 1 R_str (.slice u1_3_p u1_3_n u1_3_c) u1_3_l, .blk qg0 [.int .i64 a0, .slice qp1 qn2 qc3] 85, .own 87 3 R_Ropewalkref17_entryD (.slice qp1 qn2 qc3) l1]) ?_ ?_
   ·
    refine wc_seq (wc_region (wP rfl (wP rfl (wF rfl tF_85_1 (wD 1 1 rfl tS_83 tA_83 rfl (wl_ownLen 2 rfl (fun hl20 _ => (wN rfl tE_83 (wl_as (d := 20) (v' := .int .i64 ((l1.length : Nat) : Int)) (S' := [_,_,_,_,_,_,_]) rfl rfl (len_is hl20) (wP rfl (wl_nil (we_then (wc_keep [21,20,19,4,3,0] (S' := [_,_,_,_,_,_]) rfl (wc_block ?_))))))))))))))
    refine wc_pick [2,0,1] rfl (H' := [_,_,_]) rfl (wc_loop (σ := Nat × Nat × ByteArray) (fun (nu2, u2_21, u2_4) => iter (m_ropewalkref17_Disk_List_L2 N l1 u1_3_l) nu2 (u2_21, u2_4) = some bj_2) (fun (nu2, u2_21, u2_4) => nu2) (fun (nu2, u2_21, u2_4) => [(21, .int .i64 ((u2_21 : Nat) : Int)), (20, .int .i64 ((l1.length : Nat) : Int)), (19, .slice qp1 qn2 qc3), (4, .string u2_4), (3, .slice u1_3_p u1_3_n u1_3_c), (0, .pointer (some ⟨qg0,0, none⟩))]) (fun (nu2, u2_21, u2_4) => []) (fun (nu2, u2_21, u2_4) => [.own 87 3 R_Ropewalkref17_entryD (.slice qp1 qn2 qc3) l1, .own 9 1 R_str (.slice u1_3_p u1_3_n u1_3_c) u1_3_l, .blk qg0 [.int .i64 a0, .slice qp1 qn2 qc3] 85]) (N, 0, (⟨#[]⟩ : ByteArray)) hm [21,20,19,4,3,0] rfl (asK [] rfl) rfl (fun s_ hm => ?_))
    obtain ⟨nu2, u2_21, u2_4⟩ := s_
    try dsimp only at hm ⊢
    obtain ⟨mu2, bu2, hnu2, hq, hLu2⟩ := iter_some hm
    clear hm
    subst hnu2
    replace hm := hq
    clear hq
    unfold m_ropewalkref17_Disk_List_L2 at hm
    try dsimp only at hm
    refine wc_seq (wc_region (wP rfl (wl_as (d := 22) (v' := .bool (decide (u2_21 < l1.length))) (S' := [_,_,_,_,_,_]) rfl rfl (natlt (a := u2_21) (b := l1.length)) (wl_nil (we_then (wc_seq ?_))))))
    refine wc_cond rfl (fun hb22 => ?_) (fun hb22 => ?_)
    ·
     replace hm := iteT hm hb22
     refine wc_keep [21,20,19,4,3,0] (S' := [_,_,_,_,_,_]) rfl (wc_skip (we_then (wc_seq ?_)))
     obtain ⟨bj_3, hm, hLj_3⟩ := bindO_some hm
     unfold m_ropewalkref17_Disk_List_C3 at hm
     refine wc_cut (σ := ByteArray) (fun j_3_4 => bj_3 = j_3_4) (fun j_3_4 => [(21, .int .i64 ((u2_21 : Nat) : Int)), (20, .int .i64 ((l1.length : Nat) : Int)), (19, .slice qp1 qn2 qc3), (4, .string j_3_4), (3, .slice u1_3_p u1_3_n u1_3_c), (0, .pointer (some ⟨qg0,0, none⟩))]) (fun j_3_4 => []) (fun j_3_4 => [.own 87 3 R_Ropewalkref17_entryD (.slice qp1 qn2 qc3) l1, .own 9 1 R_str (.slice u1_3_p u1_3_n u1_3_c) u1_3_l, .blk qg0 [.int .i64 a0, .slice qp1 qn2 qc3] 85]) ?_ ?_
     ·
      refine wc_block (wc_seq (wc_region ?_))
      obtain ⟨x23, hx23, hm⟩ := bindO_some hm
      refine wl_indexH 0 u2_21 rfl rfl rfl (freshS_eq rfl) rfl rfl rfl rfl rfl (get_lt hx23) tE_83 tS_87 (fun g23 eg23 => ?_)
      subst eg23
      refine wl_loadRow R_Ropewalkref17_entryD_opens 0 u2_21 0 rfl rfl rfl (freshS_eq rfl) rfl rfl rfl hx23 tS_87 tA_87 (v := fun _ => .agg #[.string x23.name, .string x23.firm, .string x23.loose]) (fun _ => rfl) (fun _ => rfl) (fun _ _ => (wl_alloc rfl rfl rfl (freshS_eq rfl) rfl tZ_87 rfl (fun g6 => (wS 0 0 rfl tS_87 (all' := [_,_,_]) rfl (H' := [_,_,_,_]) rfl (wl_nil (we_then (wc_keep [6,21,20,19,4,3,0] (S' := [_,_,_,_,_,_,_]) rfl (wc_seq ?_))))))))
      obtain ⟨bj_4, hm, hLj_4⟩ := bindO_some hm
      refine wc_cut (σ := Bool) (fun j_4_7 => bj_4 = j_4_7) (fun j_4_7 => [(6, .pointer (some ⟨g6,0, none⟩)), (21, .int .i64 ((u2_21 : Nat) : Int)), (20, .int .i64 ((l1.length : Nat) : Int)), (19, .slice (some ⟨g23,0, none⟩) qn2 qc3), (4, .string u2_4), (3, .slice u1_3_p u1_3_n u1_3_c), (0, .pointer (some ⟨qg0,0, none⟩)), (7, .bool j_4_7)]) (fun j_4_7 => []) (fun j_4_7 => [.blk g6 [.string x23.name, .string x23.firm, .string x23.loose] 87, .own 87 3 R_Ropewalkref17_entryD (.slice (some ⟨g23,0, none⟩) qn2 qc3) l1, .own 9 1 R_str (.slice u1_3_p u1_3_n u1_3_c) u1_3_l, .blk qg0 [.int .i64 a0, .slice (some ⟨g23,0, none⟩) qn2 qc3] 85]) ?_ ?_
      ·
       rcases ite_some hm with ⟨hs28, hm⟩ | ⟨hs28, hm⟩
       ·
        refine wc_draw [0,1,2,3,4,5,6,7,8,9,10,11,12,13] rfl rfl (fun hok => (xP hok 0 rfl (wx_ownLen 2 rfl (fun hl26 _ => (wx_len hok 1 rfl rfl rfl (freshS_eq rfl) rfl rfl rfl tE_26 (wx_as (d := 26) (v' := .int .i64 ((u1_3_l.length : Nat) : Int)) (S' := [_,_,_,_,_,_,_,_]) rfl rfl (len_is hl26) (xP hok 2 rfl (wx_as (d := 27) (v' := .bool (u1_3_l.length == 0)) (S' := [_,_,_,_,_,_,_,_,_]) rfl rfl (nateq (a := u1_3_l.length) (b := 0)) (xP hok 3 rfl (wx_as (d := 28) (v' := .bool true) (S' := [_,_,_,_,_,_,_,_,_,_]) rfl rfl (bool_is hs28) (xO hok 4 rfl (xO hok 5 rfl (xO hok 6 rfl (xO hok 7 rfl (xO hok 8 rfl ?_)))))))))))))))
        refine xO hok 9 rfl (xO hok 10 rfl (xO hok 11 rfl (xO hok 12 rfl (xP hok 13 rfl (xS hok 14 rfl (wP rfl (wl_nil (we_x [] [] rfl rfl (wx_done hok rfl ?_)))))))))
        have hE := (Option.some.inj hm).symm
        refine we_join true hE [6,21,20,19,4,3,0,7] rfl (asK [] rfl) rfl
       ·
        obtain ⟨hg34, hm⟩ := gd_some hm
        obtain ⟨hn35, hm⟩ := gd_some hm
        obtain ⟨x35, hx35, hm⟩ := bindO_some hm
        refine wc_draw [0,1,2,3,4,5,6,7,8,9,10,11,12,13] rfl rfl (fun hok => (xP hok 0 rfl (wx_ownLen 2 rfl (fun hl26 _ => (wx_len hok 1 rfl rfl rfl (freshS_eq rfl) rfl rfl rfl tE_26 (wx_as (d := 26) (v' := .int .i64 ((u1_3_l.length : Nat) : Int)) (S' := [_,_,_,_,_,_,_,_]) rfl rfl (len_is hl26) (xP hok 2 rfl (wx_as (d := 27) (v' := .bool (u1_3_l.length == 0)) (S' := [_,_,_,_,_,_,_,_,_]) rfl rfl (nateq (a := u1_3_l.length) (b := 0)) (xP hok 3 rfl (wx_as (d := 28) (v' := .bool false) (S' := [_,_,_,_,_,_,_,_,_,_]) rfl rfl (bool_is hs28) (wx_fieldAddr hok 4 rfl rfl rfl (freshS_eq rfl) rfl rfl rfl tF_87_0 (wx_loadH hok 5 0 0 rfl rfl rfl (freshS_eq rfl) rfl rfl rfl rfl (cs := [_]) rfl tS_9 tA_9 rfl rfl (xP hok 6 rfl (xP hok 7 rfl (wx_ownLen 2 rfl (fun hl33 _ => ?_))))))))))))))))
        refine wx_len hok 8 rfl rfl rfl (freshS_eq rfl) rfl rfl rfl tE_26 (wx_as (d := 33) (v' := .int .i64 ((u1_3_l.length : Nat) : Int)) (S' := [_,_,_,_,_,_,_,_,_,_,_,_,_,_,_]) rfl rfl (len_is hl33) (xP hok 9 rfl (wx_as (d := 34) (v' := .int .i64 (((u1_3_l.length : Nat) : Int) - 1)) (S' := [_,_,_,_,_,_,_,_,_,_,_,_,_,_,_,_]) rfl rfl (i64_in hg34) (wx_indexH hok 10 2 ((((u1_3_l.length : Nat) : Int) - 1).toNat) rfl rfl rfl (freshS_eq rfl) rfl rfl rfl rfl rfl (toNat_eq hn35) (get_lt hx35) tE_26 tS_9 (fun g35 eg35 => ?_)))))
        subst eg35
        refine wx_loadRow hok 11 R_str_opens 2 ((((u1_3_l.length : Nat) : Int) - 1).toNat) 0 rfl rfl rfl (freshS_eq rfl) rfl rfl rfl rfl hx35 tS_9 tA_9 (v := .string x35) rfl rfl (fun _ => (wx_bin hok 12 rfl rfl rfl (freshS_eq rfl) rfl rfl rfl rfl run_strGtr (xP hok 13 rfl (xS hok 14 rfl (wP rfl (wl_nil (we_x [] [] rfl rfl (wx_done hok rfl ?_))))))))
        have hE := (Option.some.inj hm).symm
        refine we_join (!(Op.bytesLess x23.name.toList x35.toList || x23.name.toList == x35.toList)) hE [6,21,20,19,4,3,0,7] rfl (asK [] rfl) rfl
      ·
       rintro j_4_7 hE
       try dsimp only
       have hm := hLj_4
       rw [hE] at hm
       refine wc_seq ?_
       obtain ⟨bj_5, hm, hLj_5⟩ := bindO_some hm
       refine wc_cut (σ := Bool) (fun j_5_49 => bj_5 = j_5_49) (fun j_5_49 => [(6, .pointer (some ⟨g6,0, none⟩)), (21, .int .i64 ((u2_21 : Nat) : Int)), (20, .int .i64 ((l1.length : Nat) : Int)), (19, .slice (some ⟨g23,0, none⟩) qn2 qc3), (4, .string u2_4), (3, .slice u1_3_p u1_3_n u1_3_c), (0, .pointer (some ⟨qg0,0, none⟩)), (49, .bool j_5_49)]) (fun j_5_49 => []) (fun j_5_49 => [.blk g6 [.string x23.name, .string x23.firm, .string x23.loose] 87, .own 87 3 R_Ropewalkref17_entryD (.slice (some ⟨g23,0, none⟩) qn2 qc3) l1, .own 9 1 R_str (.slice u1_3_p u1_3_n u1_3_c) u1_3_l, .blk qg0 [.int .i64 a0, .slice (some ⟨g23,0, none⟩) qn2 qc3] 85]) ?_ ?_
       ·
        refine wc_region (wP rfl (wP rfl ?_))
        refine wl_split (d := 40) (S' := [_,_,_,_,_,_,_,_,_]) rfl rfl (fun hs40 => ?_) (fun hs40 => ?_)
        ·
         replace hm := iteT hm hs40
         refine wP rfl (wP rfl (wP rfl ?_))
         refine wl_split (d := 43) (S' := [_,_,_,_,_,_,_,_,_,_,_,_]) rfl rfl (fun hs43 => ?_) (fun hs43 => ?_)
         ·
          replace hm := iteT hm hs43
          refine wO rfl (wO rfl (wO rfl (wO rfl (wP rfl (wP rfl (wl_nil ?_))))))
          have hE := (Option.some.inj hm).symm
          refine we_join true hE [6,21,20,19,4,3,0,49] rfl (asK [] rfl) rfl
         ·
          replace hm := iteF hm hs43
          refine wF rfl tF_87_0 (wD 0 0 rfl tS_9 tA_9 rfl (wP rfl (wl_bin rfl rfl rfl (freshS_eq rfl) rfl rfl rfl run_strLss (wP rfl (wP rfl (wl_nil ?_))))))
          have hE := (Option.some.inj hm).symm
          refine we_join (Op.bytesLess x23.name.toList u2_4.toList) hE [6,21,20,19,4,3,0,49] rfl (asK [] rfl) rfl
        ·
         replace hm := iteF hm hs40
         refine wO rfl (wO rfl (wO rfl (wO rfl (wO rfl (wO rfl (wO rfl (wO rfl (wP rfl (wl_nil ?_)))))))))
         have hE := (Option.some.inj hm).symm
         refine we_join false hE [6,21,20,19,4,3,0,49] rfl (asK [] rfl) rfl
       ·
        rintro j_5_49 hE
        try dsimp only
        have hm := hLj_5
        rw [hE] at hm
        refine wc_cond rfl (fun hb49 => ?_) (fun hb49 => ?_)
        ·
         replace hm := iteT hm hb49
         refine wc_keep [6,21,20,19,3,0] (S' := [_,_,_,_,_,_]) rfl (wc_region (wF rfl tF_87_0 (wD 0 0 rfl tS_9 tA_9 rfl (wP rfl (wl_nil (we_block_normal ?_))))))
         have hE := (Option.some.inj hm).symm
         refine we_pick [1,2,3] rfl (H' := [_,_,_]) rfl ?_
         refine we_join x23.name hE [21,20,19,4,3,0] rfl (asK [] rfl) rfl
        ·
         replace hm := iteF hm hb49
         refine wc_keep [21,20,19,4,3,0] (S' := [_,_,_,_,_,_]) rfl (wc_skip (we_block_normal ?_))
         have hE := (Option.some.inj hm).symm
         refine we_pick [1,2,3] rfl (H' := [_,_,_]) rfl ?_
         refine we_join u2_4 hE [21,20,19,4,3,0] rfl (asK [] rfl) rfl
     ·
      rintro j_3_4 hE
      try dsimp only
      have hm := hLj_3
      rw [hE] at hm
      refine wc_region (wP rfl ?_)
      obtain ⟨hg52, hm⟩ := gd_some hm
      refine wl_as (d := 52) (v' := .int .i64 ((u2_21 + 1 : Nat) : Int)) (S' := [_,_,_,_,_,_]) rfl rfl (nat_add (a := u2_21) (b := 1) hg52) (wl_pure (S' := [_,_,_,_,_,_]) rfl rfl rfl rfl rfl (wl_nil ?_))
      have hE := (Option.some.inj hm).symm
      replace hE := link_inl hLu2 hE
      refine we_roundK (_, u2_21 + 1, j_3_4) (Nat.lt_succ_self _) hE [21,20,19,4,3,0] rfl (asK [] rfl) rfl
    ·
     replace hm := iteF hm hb22
     refine wc_keep [4,3,0] (S' := [_,_,_]) rfl (wc_exit (we_then_exit (we_then_exit (we_block_hit ?_))))
     have hE := (Option.some.inj hm).symm
     replace hE := link_inr hLu2 hE
     refine we_pick [1,2,0] rfl (H' := [_,_,_]) rfl ?_
     refine we_join u2_4 hE [3,0,4] rfl (asK [] rfl) rfl
   ·
    rintro j_2_4 hE
    try dsimp only
    have hm := hLj_2
    rw [hE] at hm
    refine wc_region (wP rfl (wP rfl (wl_buildSlice rfl rfl rfl (freshS_eq rfl) rfl tE_26 tS_9 tZ_9 rfl (zs := [.string ((⟨#[]⟩ : ByteArray))]) (by kernel_rfl) rfl (out := [_]) rfl (fun g55 => ?_))))
    obtain ⟨hg56, hm⟩ := gd_some hm
    refine wl_appendH [j_2_4] 1 0 rfl rfl rfl (freshS_eq rfl) rfl rfl rfl rfl rfl (fun F w hφ => ⟨[.string j_2_4],[], rfl, rfl, ⟨(), rfl, ask_nil⟩, rfl⟩) tE_26 tR_9 rfl rfl (Nat.le_trans hg56 (by decide)) (Nat.le_trans (Nat.mul_le_mul_right _ hg56) (by decide)) (H2 := fun p56 c56 => [_, .own 9 1 R_str (.slice p56 ((u1_3_l ++ [j_2_4]).length) c56) (u1_3_l ++ [j_2_4]), _,_]) (fun _ _ => rfl) (fun p56 c56 => (wl_drop 0 rfl (H' := [_,_,_]) rfl (wl_pure (S' := [_,_,_,_,_,_]) rfl rfl rfl rfl rfl (wl_nil (we_block_normal ?_)))))
    have hE := (Option.some.inj hm).symm
    replace hE := link_inl hLu1 hE
    refine we_roundK (_, u1_3_l ++ [j_2_4], p56, c56, (u1_3_l ++ [j_2_4]).length) (Nat.lt_succ_self _) hE [3,0] rfl (asK [] rfl) rfl
  ·
   replace hm := iteF hm hb15
   refine wc_keep [3] (S' := [_]) rfl (wc_exit (we_then_exit (we_then_exit (we_block_hit ?_))))
   have hE := (Option.some.inj hm).symm
   replace hE := link_inr hLu1 hE
   refine we_join (u1_3_l, u1_3_p, u1_3_c, u1_3_n) hE [3] rfl (asK [] rfl) rfl
 ·
  rintro ⟨j_1_3_l, j_1_3_p, j_1_3_c, j_1_3_n⟩ hE
  try dsimp only
  have hm := hLj_1
  rw [hE] at hm
  refine wc_seq (wc_region (wP rfl (wP rfl (wl_nil (we_then (wc_keep [2] (S' := [_]) rfl (wc_ret ?_)))))))
  have hE := (Option.some.inj hm).symm
  replace hE := hE.symm
  subst hE
  refine ret_one (Hr := [_,_,_]) [0,1,2] Try.results50 (res_tmp rfl) ⟨j_1_3_p, j_1_3_c, j_1_3_n, rfl, rfl, rfl⟩ (asK [] rfl) rfl rfl (.inl rfl)
end Go.Proofs.Ytkakbckmajdggaa
