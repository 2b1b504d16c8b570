/- Walks, printed by a program out of the loaded code. -/
import Derived.Test.YtkakbckmajdggaaXW1
namespace Go.Proofs.Ytkakbckmajdggaa
open Go.RowKit
set_option maxRecDepth 100000 in
set_option maxHeartbeats 4000000 in
theorem w_ropewalklaw17_awake_s (N : Nat)  (o0 : Bool) (hm : m_ropewalklaw17_awake N = some o0) : Spec Try.prog 9 [] [] [] (fun v Φr Hr => v = .bool o0 ∧ Φr = [] ∧ Hr = []) := by
 unfold m_ropewalklaw17_awake at hm
 refine spec_of Try.func9 rfl Try.ntmps9 rfl (S := []) rfl (fun C => ?_)
 refine wc_seq ?_
 refine wc_region ?_
 refine wl_pure rfl rfl rfl (freshS_eq rfl) rfl ?_
 refine wl_nil ?_
 refine we_then ?_
 refine wc_keep [] (S' := []) rfl ?_
 refine wc_seq ?_
 refine wc_region ?_
 obtain ⟨_, hc7, hm⟩ := bindO_some hm
 try dsimp only at hm
 refine wl_call [] [] rfl rfl rfl (freshS_eq rfl) rfl rfl fn_10 rfl (w_disk_New_s N 10 hc7) (fun _ _ hφ => ask [] rfl hφ) rfl (H' := []) rfl ?_
 rintro _ _ _ ⟨c7_0, c7_1, rfl, rfl, rfl⟩
 refine wl_pure rfl rfl rfl (freshS_eq rfl) rfl ?_
 refine wl_nil ?_
 refine we_then ?_
 refine wc_keep [1] (S' := [_]) rfl ?_
 refine wc_seq ?_
 refine wc_region ?_
 refine wl_pure rfl rfl rfl (freshS_eq rfl) rfl ?_
 refine wl_buildSlice rfl rfl rfl (freshS_eq rfl) rfl tE_27 tS_5 tZ_5 rfl (zs := [.int .u8 0, .int .u8 0, .int .u8 0, .int .u8 0]) (by kernel_rfl) rfl (out := [_,_,_,_]) rfl (fun g9 => ?_)
 refine wl_row (sz := 1) (m := 4) R_u8 ([119, 111, 114, 100]) 0 rfl (fun F w hφ => ⟨[.int .u8 119], [.int .u8 111, .int .u8 114, .int .u8 100], rfl, rfl, ⟨(), rfl, ask_nil⟩, ⟨[.int .u8 111], [.int .u8 114, .int .u8 100], rfl, rfl, ⟨(), rfl, ask_nil⟩, ⟨[.int .u8 114], [.int .u8 100], rfl, rfl, ⟨(), rfl, ask_nil⟩, ⟨[.int .u8 100], [], rfl, rfl, ⟨(), rfl, ask_nil⟩, rfl⟩⟩⟩⟩) rfl (by decide) (H' := [_,_,_]) rfl ?_
 refine wl_markRow 0 rfl rfl rfl (freshS_eq rfl) rfl rfl rfl rfl tD_27 tD_5 mkRep_free (H' := [.blk c7_0 [.int .i64 (maxI 10 0), .map (some c7_1)] 59, mapP (keyStr (tStr_run tT_9)) true R_Disk_rowsD c7_1 ([] : List (ByteArray × Disk_rowsD))]) rfl ?_
 obtain ⟨⟨v11_0, v11_1⟩, hc11, hm⟩ := bindO_some hm
 try dsimp only at hm
 refine wl_call [0, 1] [] rfl rfl rfl (freshS_eq rfl) rfl rfl fn_11 rfl (w_disk_Disk_Append_s N c7_0 (maxI 10 0) c7_1 ([] : List (ByteArray × Disk_rowsD)) (⟨#[97]⟩ : ByteArray) (some ⟨g9, 0, none⟩) 4 [119, 111, 114, 100] _ _ hc11) (fun _ _ hφ => ask [0] rfl hφ) rfl (H' := []) rfl ?_
 rintro _ _ _ ⟨rfl, rfl, rfl⟩
 refine wl_pure rfl rfl rfl (freshS_eq rfl) rfl ?_
 obtain ⟨⟨v13_0, v13_1⟩, hc13, hm⟩ := bindO_some hm
 try dsimp only at hm
 refine wl_call [0, 1] [] rfl rfl rfl (freshS_eq rfl) rfl rfl fn_12 rfl (w_disk_Disk_Sync_s N c7_0 (maxI 10 0) c7_1 v11_1 (⟨#[97]⟩ : ByteArray) _ _ hc13) (fun _ _ hφ => ask [] rfl hφ) rfl (H' := []) rfl ?_
 rintro _ _ _ ⟨rfl, rfl, rfl⟩
 refine wl_pure rfl rfl rfl (freshS_eq rfl) rfl ?_
 refine wl_buildSlice rfl rfl rfl (freshS_eq rfl) rfl tE_27 tS_5 tZ_5 rfl (zs := [.int .u8 0, .int .u8 0, .int .u8 0]) (by kernel_rfl) rfl (out := [_,_,_]) rfl (fun g15 => ?_)
 refine wl_row (sz := 1) (m := 3) R_u8 ([105, 110, 103]) 0 rfl (fun F w hφ => ⟨[.int .u8 105], [.int .u8 110, .int .u8 103], rfl, rfl, ⟨(), rfl, ask_nil⟩, ⟨[.int .u8 110], [.int .u8 103], rfl, rfl, ⟨(), rfl, ask_nil⟩, ⟨[.int .u8 103], [], rfl, rfl, ⟨(), rfl, ask_nil⟩, rfl⟩⟩⟩) rfl (by decide) (H' := [_,_,_]) rfl ?_
 refine wl_markRow 0 rfl rfl rfl (freshS_eq rfl) rfl rfl rfl rfl tD_27 tD_5 mkRep_free (H' := [.blk c7_0 [.int .i64 (maxI 10 0), .map (some c7_1)] 59, mapP (keyStr (tStr_run tT_9)) true R_Disk_rowsD c7_1 v13_1]) rfl ?_
 obtain ⟨⟨v17_0, v17_1⟩, hc17, hm⟩ := bindO_some hm
 try dsimp only at hm
 refine wl_call [0, 1] [] rfl rfl rfl (freshS_eq rfl) rfl rfl fn_11 rfl (w_disk_Disk_Append_s N c7_0 (maxI 10 0) c7_1 v13_1 (⟨#[97]⟩ : ByteArray) (some ⟨g15, 0, none⟩) 3 [105, 110, 103] _ _ hc17) (fun _ _ hφ => ask [0] rfl hφ) rfl (H' := []) rfl ?_
 rintro _ _ _ ⟨rfl, rfl, rfl⟩
 refine wl_buildSlice rfl rfl rfl (freshS_eq rfl) rfl tE_66 tS_28 tZ_28 rfl (zs := [.int .i64 0, .int .i64 0, .int .i64 0]) (by kernel_rfl) rfl (out := [_,_,_]) rfl (fun g18 => ?_)
 refine wl_pure rfl rfl rfl (freshS_eq rfl) rfl ?_
 refine wl_nil ?_
 refine we_then ?_
 refine wc_keep [2, 1] (S' := [_,_]) rfl ?_
 refine wc_seq ?_
 refine wc_region ?_
 refine wl_pure rfl rfl rfl (freshS_eq rfl) rfl ?_
 obtain ⟨v20, hc20, hm⟩ := bindO_some hm
 refine wl_call [1, 2] [0] rfl rfl rfl (freshS_eq rfl) rfl rfl fn_13 rfl (w_disk_Disk_Crash_s N c7_0 (maxI 10 0) c7_1 v17_1 1 _ hc20) (fun _ _ hφ => ask [] rfl hφ) rfl (H' := [_]) rfl ?_
 rintro _ _ _ ⟨rfl, rfl, rfl⟩
 refine wl_nil ?_
 refine we_then ?_
 refine wc_keep [2, 1] (S' := [_,_]) rfl ?_
 refine wc_seq ?_
 refine wc_region ?_
 refine wl_pure rfl rfl rfl (freshS_eq rfl) rfl ?_
 obtain ⟨⟨v23_0, v23_1, v23_2⟩, hc23, hm⟩ := bindO_some hm
 try dsimp only at hm
 refine wl_call [0, 1] [2] rfl rfl rfl (freshS_eq rfl) rfl rfl fn_17 rfl (w_disk_Disk_Read_s N c7_0 (maxI 10 0) c7_1 v20 (⟨#[97]⟩ : ByteArray) _ _ _ hc23) (fun _ _ hφ => ask [] rfl hφ) rfl (H' := [_]) rfl ?_
 rintro _ _ _ ⟨p23_0, c23_1, c23_2, rfl, rfl, rfl⟩
 refine wl_pure rfl rfl rfl (freshS_eq rfl) rfl ?_
 refine wl_pure rfl rfl rfl (freshS_eq rfl) rfl ?_
 refine wl_pure rfl rfl rfl (freshS_eq rfl) rfl ?_
 refine wl_pure rfl rfl rfl (freshS_eq rfl) rfl ?_
 refine wl_pure rfl rfl rfl (freshS_eq rfl) rfl ?_
 refine wl_nil ?_
 refine we_then ?_
 refine wc_keep [4, 3, 2, 1] (S' := [_,_,_,_]) rfl ?_
 refine wc_seq ?_
 refine wc_region ?_
 refine wl_pure rfl rfl rfl (freshS_eq rfl) rfl ?_
 refine wl_pure rfl rfl rfl (freshS_eq rfl) rfl ?_
 refine wl_buildSlice rfl rfl rfl (freshS_eq rfl) rfl tE_66 tS_28 tZ_28 rfl (zs := [.int .i64 0]) (by kernel_rfl) rfl (out := [_]) rfl (fun g28 => ?_)
 refine wl_row (sz := 1) (m := 3) R_i64 ([v11_0, (((v13_0 : Nat) : Int)), v17_0]) 4 rfl (fun F w hφ => ⟨[.int .i64 v11_0], [.int .i64 ((v13_0 : Nat) : Int), .int .i64 v17_0], rfl, rfl, ⟨(), rfl, ask_nil⟩, ⟨[.int .i64 ((v13_0 : Nat) : Int)], [.int .i64 v17_0], rfl, rfl, ⟨(), rfl, ask_nil⟩, ⟨[.int .i64 v17_0], [], rfl, rfl, ⟨(), rfl, ask_nil⟩, rfl⟩⟩⟩) rfl (by decide) (H' := [_,_,_,_,_]) rfl ?_
 obtain ⟨hg29, hm⟩ := gd_some hm
 refine wl_appendH ([(((v23_1 : Nat) : Int))]) 4 0 rfl rfl rfl (freshS_eq rfl) rfl rfl rfl rfl rfl (fun F w hφ => ⟨[.int .i64 ((v23_1 : Nat) : Int)], [], rfl, rfl, ⟨(), rfl, ask_nil⟩, rfl⟩) tE_66 tR_28 rfl rfl (Nat.le_trans hg29 (by decide)) (Nat.le_trans (Nat.mul_le_mul_right _ hg29) (by decide)) (H2 := fun p29 c29 => [.blk g28 [.int .i64 ((v23_1 : Nat) : Int)] 28, .own 5 1 R_u8 (.slice p23_0 c23_2 c23_1) v23_0, .blk c7_0 [.int .i64 (maxI 10 0), .map (some c7_1)] 59, mapP (keyStr (tStr_run tT_9)) true R_Disk_rowsD c7_1 v23_2, .own 28 1 R_i64 (.slice p29 ((([v11_0, (((v13_0 : Nat) : Int)), v17_0]) ++ ([(((v23_1 : Nat) : Int))])).length) c29) (([v11_0, (((v13_0 : Nat) : Int)), v17_0]) ++ ([(((v23_1 : Nat) : Int))]))]) (fun _ _ => rfl) (fun p29 c29 => ?_)
 refine wl_drop 0 rfl (H' := [_,_,_,_]) rfl ?_
 refine wl_pure (S' := [_,_,_,_,_,_,_]) rfl rfl rfl rfl rfl ?_
 refine wl_nil ?_
 refine we_then ?_
 refine wc_keep [2, 3, 1] (S' := [_,_,_]) rfl ?_
 refine wc_seq ?_
 obtain ⟨bj_1, hm, hLj_1⟩ := bindS_some hm
 refine wc_cut (σ := Unit) (fun _ => bj_1 = .inl ()) (fun _ => [(3, .slice p23_0 c23_2 c23_1), (1, .pointer (some ⟨c7_0, 0, none⟩))]) (fun _ => []) (fun _ => [.own 5 1 R_u8 (.slice p23_0 c23_2 c23_1) v23_0, .blk c7_0 [.int .i64 (maxI 10 0), .map (some c7_1)] 59, mapP (keyStr (tStr_run tT_9)) true R_Disk_rowsD c7_1 v23_2]) ?_ ?_
 ·
  refine wc_seq ?_
  refine wc_region ?_
  refine wl_pure rfl rfl rfl (freshS_eq rfl) rfl ?_
  refine wl_nil ?_
  refine we_then ?_
  refine wc_block ?_
  refine wc_pick [3, 0, 1, 2] rfl (H' := [_,_,_,_]) rfl ?_
  refine wc_loop (σ := Nat × Nat) (fun (nu1, u1_5) => iter (m_ropewalklaw17_awake_L1 N v11_0 v13_0 v17_0 v23_1) nu1 u1_5 = some bj_1) (fun (nu1, u1_5) => nu1) (fun (nu1, u1_5) => [(5, .int .i64 ((u1_5 : Nat) : Int)), (2, .slice p29 ((([v11_0, (((v13_0 : Nat) : Int)), v17_0]) ++ ([(((v23_1 : Nat) : Int))])).length) c29), (3, .slice p23_0 c23_2 c23_1), (1, .pointer (some ⟨c7_0, 0, none⟩))]) (fun (nu1, u1_5) => []) (fun (nu1, u1_5) => [.own 28 1 R_i64 (.slice p29 ((([v11_0, (((v13_0 : Nat) : Int)), v17_0]) ++ ([(((v23_1 : Nat) : Int))])).length) c29) (([v11_0, (((v13_0 : Nat) : Int)), v17_0]) ++ ([(((v23_1 : Nat) : Int))])), .own 5 1 R_u8 (.slice p23_0 c23_2 c23_1) v23_0, .blk c7_0 [.int .i64 (maxI 10 0), .map (some c7_1)] 59, mapP (keyStr (tStr_run tT_9)) true R_Disk_rowsD c7_1 v23_2]) (N, 0) hm [5, 2, 3, 1] rfl (fun _ _ hφ => ask [] rfl hφ) rfl (fun s_ hm => ?_)
  obtain ⟨nu1, u1_5⟩ := s_
  try dsimp only at hm ⊢
  obtain ⟨mu1, bu1, hnu1, hq, hLu1⟩ := iter_some hm
  clear hm
  subst hnu1
  replace hm := hq
  clear hq
  unfold m_ropewalklaw17_awake_L1 at hm
  try dsimp only at hm
  refine wc_seq ?_
  refine wc_seq ?_
  refine wc_region ?_
  refine wl_pure rfl rfl rfl (freshS_eq rfl) rfl ?_
  refine wl_pure rfl rfl rfl (freshS_eq rfl) rfl ?_
  refine wl_len rfl rfl rfl (freshS_eq rfl) rfl rfl tE_66 ?_
  refine wl_pure rfl rfl rfl (freshS_eq rfl) rfl ?_
  refine wl_as (d := 33) (v' := .bool (decide (u1_5 < ((([v11_0, (((v13_0 : Nat) : Int)), v17_0]) ++ ([(((v23_1 : Nat) : Int))])).length)))) (S' := [_,_,_,_,_,_,_]) rfl rfl (natlt (a := u1_5) (b := (([v11_0, (((v13_0 : Nat) : Int)), v17_0]) ++ ([(((v23_1 : Nat) : Int))])).length)) ?_
  refine wl_nil ?_
  refine we_then ?_
  refine wc_keep [33, 5, 2, 3, 1] (S' := [_,_,_,_,_]) rfl ?_
  refine wc_cond rfl (fun hb33 => ?_) (fun hb33 => ?_)
  ·
   replace hm := iteT hm hb33
   refine wc_keep [5, 2, 3, 1] (S' := [_,_,_,_]) rfl ?_
   refine wc_skip ?_
   refine we_then ?_
   refine wc_seq ?_
   refine wc_block ?_
   refine wc_seq ?_
   refine wc_region ?_
   refine wl_pure rfl rfl rfl (freshS_eq rfl) rfl ?_
   refine wl_pure rfl rfl rfl (freshS_eq rfl) rfl ?_
   obtain ⟨x38, hx38, hm⟩ := bindO_some hm
   refine wl_indexH 0 u1_5 rfl rfl rfl (freshS_eq rfl) rfl rfl rfl rfl rfl (get_lt hx38) tE_66 tS_28 (fun g38 eg38 => ?_)
   subst eg38
   refine wl_loadRow R_i64_opens 0 u1_5 0 rfl rfl rfl (freshS_eq rfl) rfl rfl rfl hx38 tS_28 tA_28 (v := fun _ => .int .i64 x38) (fun _ => rfl) (fun _ => rfl) (fun _ _ => ?_)
   refine wl_pure rfl rfl rfl (freshS_eq rfl) rfl ?_
   refine wl_nil ?_
   refine we_then ?_
   refine wc_keep [40, 5, 2, 3, 1] (S' := [_,_,_,_,_]) rfl ?_
   refine wc_cond rfl (fun hb40 => ?_) (fun hb40 => ?_)
   ·
    replace hm := iteT hm hb40
    refine wc_keep [] (S' := []) rfl ?_
    refine wc_seq ?_
    refine wc_region ?_
    refine wl_pure rfl rfl rfl (freshS_eq rfl) rfl ?_
    refine wl_nil ?_
    refine we_then ?_
    refine wc_ret ?_
    refine we_block_ret ?_
    refine we_then_ret ?_
    refine we_then_ret ?_
    refine we_block_ret ?_
    refine we_then_ret ?_
    have hE := (Option.some.inj hm).symm
    replace hE := link_inr hLu1 hE
    replace hE := link_inr hLj_1 hE
    replace hE := hE.symm
    subst hE
    refine ret_one (Hr := []) [] Try.results9 (res_tmp rfl) ⟨rfl, rfl, rfl⟩ (fun _ _ hφ => ask [] rfl hφ) rfl rfl (.inl rfl)
   ·
    replace hm := iteF hm hb40
    refine wc_keep [5, 2, 3, 1] (S' := [_,_,_,_]) rfl ?_
    refine wc_skip ?_
    refine we_block_normal ?_
    refine we_then ?_
    refine wc_region ?_
    refine wl_pure rfl rfl rfl (freshS_eq rfl) rfl ?_
    refine wl_pure rfl rfl rfl (freshS_eq rfl) rfl ?_
    obtain ⟨hg35, hm⟩ := gd_some hm
    refine wl_as (d := 35) (v' := .int .i64 ((u1_5 + 1 : Nat) : Int)) (S' := [_,_,_,_,_]) rfl rfl (nat_add (a := u1_5) (b := 1) hg35) ?_
    refine wl_pure (S' := [_,_,_,_,_]) rfl rfl rfl rfl rfl ?_
    refine wl_nil ?_
    have hE := (Option.some.inj hm).symm
    replace hE := link_inl hLu1 hE
    refine we_roundK (_, u1_5 + 1) (Nat.lt_succ_self _) hE [5, 2, 3, 1] rfl (fun _ _ hφ => ask [] rfl hφ) rfl
  ·
   replace hm := iteF hm hb33
   refine wc_keep [3, 1] (S' := [_,_]) rfl ?_
   refine wc_exit ?_
   refine we_then_exit ?_
   refine we_then_exit ?_
   refine we_block_hit ?_
   have hE := (Option.some.inj hm).symm
   replace hE := link_inr hLu1 hE
   refine we_pick [1, 2, 3] rfl (H' := [_,_,_]) rfl ?_
   refine we_join () hE [3, 1] rfl (fun _ _ hφ => ask [] rfl hφ) rfl
 ·
  rintro _ hE
  try dsimp only
  have hm := link_inl hLj_1 hE
  try dsimp only at hm
  refine wc_seq ?_
  refine wc_region ?_
  refine wl_pure rfl rfl rfl (freshS_eq rfl) rfl ?_
  obtain ⟨v42, hc42, hm⟩ := bindO_some hm
  refine wl_call [1, 2] [0] rfl rfl rfl (freshS_eq rfl) rfl rfl fn_15 rfl (w_disk_Disk_List_s N c7_0 (maxI 10 0) c7_1 v23_2 _ hc42) (fun _ _ hφ => ask [] rfl hφ) rfl (H' := [_]) rfl ?_
  rintro _ _ _ ⟨p42_0, c42_1, c42_2, rfl, rfl, rfl⟩
  refine wl_pure rfl rfl rfl (freshS_eq rfl) rfl ?_
  refine wl_nil ?_
  refine we_then ?_
  refine wc_keep [6, 3, 1] (S' := [_,_,_]) rfl ?_
  refine wc_seq ?_
  obtain ⟨bj_2, hm, hLj_2⟩ := bindO_some hm
  unfold m_ropewalklaw17_awake_C2 at hm
  refine wc_cut (σ := Bool) (fun j_2_0 => bj_2 = j_2_0) (fun j_2_0 => [(0, .bool j_2_0)]) (fun j_2_0 => []) (fun j_2_0 => []) ?_ ?_
  ·
   refine wc_region ?_
   refine wl_pure rfl rfl rfl (freshS_eq rfl) rfl ?_
   refine wl_ownLen 3 rfl (fun hzc23_2 _ => ?_)
   subst hzc23_2
   refine wl_freeze 3 rfl (H' := [_,_,_]) rfl ?_
   refine wl_fact (.sli 1 R_u8 p23_0 c23_1 v23_0) (fun F w hφ => own_sli (hφ _ (mem_at (k := 0) rfl))) ?_
   refine wl_bytesStr 0 rfl rfl rfl (freshS_eq rfl) rfl rfl rfl tD_27 tD_5 tD_9 (fun _ _ _ _ h => by obtain ⟨_, h, _⟩ := h; exact h) ?_
   refine wl_pure rfl rfl rfl (freshS_eq rfl) rfl ?_
   refine wl_pure rfl rfl rfl (freshS_eq rfl) rfl ?_
   refine wl_split (d := 46) (S' := [_,_,_,_,_,_]) rfl rfl (fun hs46 => ?_) (fun hs46 => ?_)
   ·
    replace hm := iteT hm hs46
    refine wl_pure rfl rfl rfl (freshS_eq rfl) rfl ?_
    obtain ⟨v48, hc48, hm⟩ := bindO_some hm
    refine wl_call [1, 2] [0] rfl rfl rfl (freshS_eq rfl) rfl rfl fn_19 rfl (w_disk_Disk_Used_s N c7_0 (maxI 10 0) c7_1 v23_2 _ hc48) (fun _ _ hφ => ask [] rfl hφ) rfl (H' := [_]) rfl ?_
    rintro _ _ _ ⟨rfl, rfl, rfl⟩
    refine wl_pure rfl rfl rfl (freshS_eq rfl) rfl ?_
    refine wl_as (d := 49) (v' := .bool (v48 == 5)) (S' := [_,_,_,_,_,_,_,_,_]) rfl rfl (nateq (a := v48) (b := 5)) ?_
    refine wl_pure rfl rfl rfl (freshS_eq rfl) rfl ?_
    refine wl_pure rfl rfl rfl (freshS_eq rfl) rfl ?_
    refine wl_split (d := 51) (S' := [_,_,_,_,_,_,_,_,_,_,_]) rfl rfl (fun hs51 => ?_) (fun hs51 => ?_)
    ·
     replace hm := iteT hm hs51
     refine wl_pure rfl rfl rfl (freshS_eq rfl) rfl ?_
     refine wl_buildSlice rfl rfl rfl (freshS_eq rfl) rfl tE_27 tS_5 tZ_5 rfl (zs := [.int .u8 0, .int .u8 0, .int .u8 0, .int .u8 0, .int .u8 0, .int .u8 0]) (by kernel_rfl) rfl (out := [_,_,_,_,_,_]) rfl (fun g53 => ?_)
     refine wl_row (sz := 1) (m := 6) R_u8 ([115, 105, 120, 115, 105, 120]) 0 rfl (fun F w hφ => ⟨[.int .u8 115], [.int .u8 105, .int .u8 120, .int .u8 115, .int .u8 105, .int .u8 120], rfl, rfl, ⟨(), rfl, ask_nil⟩, ⟨[.int .u8 105], [.int .u8 120, .int .u8 115, .int .u8 105, .int .u8 120], rfl, rfl, ⟨(), rfl, ask_nil⟩, ⟨[.int .u8 120], [.int .u8 115, .int .u8 105, .int .u8 120], rfl, rfl, ⟨(), rfl, ask_nil⟩, ⟨[.int .u8 115], [.int .u8 105, .int .u8 120], rfl, rfl, ⟨(), rfl, ask_nil⟩, ⟨[.int .u8 105], [.int .u8 120], rfl, rfl, ⟨(), rfl, ask_nil⟩, ⟨[.int .u8 120], [], rfl, rfl, ⟨(), rfl, ask_nil⟩, rfl⟩⟩⟩⟩⟩⟩) rfl (by decide) (H' := [_,_,_,_]) rfl ?_
     refine wl_markRow 0 rfl rfl rfl (freshS_eq rfl) rfl rfl rfl rfl tD_27 tD_5 mkRep_free (H' := [.blk c7_0 [.int .i64 (maxI 10 0), .map (some c7_1)] 59, mapP (keyStr (tStr_run tT_9)) true R_Disk_rowsD c7_1 v23_2, .own 9 1 R_str (.slice p42_0 c42_2 c42_1) v42]) rfl ?_
     obtain ⟨⟨v55_0, v55_1⟩, hc55, hm⟩ := bindO_some hm
     try dsimp only at hm
     refine wl_call [0, 1] [2] rfl rfl rfl (freshS_eq rfl) rfl rfl fn_11 rfl (w_disk_Disk_Append_s N c7_0 (maxI 10 0) c7_1 v23_2 (⟨#[98]⟩ : ByteArray) (some ⟨g53, 0, none⟩) 6 [115, 105, 120, 115, 105, 120] _ _ hc55) (fun _ _ hφ => ask [0] rfl hφ) rfl (H' := [_]) rfl ?_
     rintro _ _ _ ⟨rfl, rfl, rfl⟩
     refine wl_pure rfl rfl rfl (freshS_eq rfl) rfl ?_
     refine wl_pure rfl rfl rfl (freshS_eq rfl) rfl ?_
     refine wl_pure rfl rfl rfl (freshS_eq rfl) rfl ?_
     refine wl_split (d := 58) (S' := [_,_,_,_,_,_,_,_,_,_,_,_,_,_,_,_,_,_]) rfl rfl (fun hs58 => ?_) (fun hs58 => ?_)
     ·
      replace hm := iteT hm hs58
      refine wl_pure rfl rfl rfl (freshS_eq rfl) rfl ?_
      refine wl_ownLen 2 rfl (fun hl60 _ => ?_)
      refine wl_len rfl rfl rfl (freshS_eq rfl) rfl rfl tE_26 ?_
      refine wl_as (d := 60) (v' := .int .i64 ((v42.length : Nat) : Int)) (S' := [_,_,_,_,_,_,_,_,_,_,_,_,_,_,_,_,_,_,_,_]) rfl rfl (len_is hl60) ?_
      refine wl_pure rfl rfl rfl (freshS_eq rfl) rfl ?_
      refine wl_as (d := 61) (v' := .bool (v42.length == 1)) (S' := [_,_,_,_,_,_,_,_,_,_,_,_,_,_,_,_,_,_,_,_,_]) rfl rfl (nateq (a := v42.length) (b := 1)) ?_
      refine wl_pure rfl rfl rfl (freshS_eq rfl) rfl ?_
      refine wl_pure rfl rfl rfl (freshS_eq rfl) rfl ?_
      refine wl_split (d := 63) (S' := [_,_,_,_,_,_,_,_,_,_,_,_,_,_,_,_,_,_,_,_,_,_,_]) rfl rfl (fun hs63 => ?_) (fun hs63 => ?_)
      ·
       replace hm := iteT hm hs63
       refine wl_pure rfl rfl rfl (freshS_eq rfl) rfl ?_
       obtain ⟨x65, hx65, hm⟩ := bindO_some hm
       refine wl_indexH 2 0 rfl rfl rfl (freshS_eq rfl) rfl rfl rfl rfl rfl (get_lt hx65) tE_26 tS_9 (fun g65 eg65 => ?_)
       subst eg65
       refine wl_loadRow R_str_opens 2 0 0 rfl rfl rfl (freshS_eq rfl) rfl rfl rfl hx65 tS_9 tA_9 (v := fun _ => .string x65) (fun _ => rfl) (fun _ => rfl) (fun _ _ => ?_)
       refine wl_pure rfl rfl rfl (freshS_eq rfl) rfl ?_
       refine wl_pure rfl rfl rfl (freshS_eq rfl) rfl ?_
       refine wl_pure rfl rfl rfl (freshS_eq rfl) rfl ?_
       refine wl_nil ?_
       have hE := (Option.some.inj hm).symm
       refine we_pick [] rfl (H' := []) rfl ?_
       refine we_join (x65.toList == (⟨#[97]⟩ : ByteArray).toList) hE [0] rfl (fun _ _ hφ => ask [] rfl hφ) rfl
      ·
       replace hm := iteF hm hs63
       refine wl_off rfl rfl rfl (freshS_eq rfl) ?_
       refine wl_off rfl rfl rfl (freshS_eq rfl) ?_
       refine wl_off rfl rfl rfl (freshS_eq rfl) ?_
       refine wl_off rfl rfl rfl (freshS_eq rfl) ?_
       refine wl_pure rfl rfl rfl (freshS_eq rfl) rfl ?_
       refine wl_pure rfl rfl rfl (freshS_eq rfl) rfl ?_
       refine wl_nil ?_
       have hE := (Option.some.inj hm).symm
       refine we_pick [] rfl (H' := []) rfl ?_
       refine we_join false hE [0] rfl (fun _ _ hφ => ask [] rfl hφ) rfl
     ·
      replace hm := iteF hm hs58
      refine wl_off rfl rfl rfl (freshS_eq rfl) ?_
      refine wl_off rfl rfl rfl (freshS_eq rfl) ?_
      refine wl_off rfl rfl rfl (freshS_eq rfl) ?_
      refine wl_pure rfl rfl rfl (freshS_eq rfl) rfl ?_
      refine wl_pure rfl rfl rfl (freshS_eq rfl) rfl ?_
      refine wl_off rfl rfl rfl (freshS_eq rfl) ?_
      refine wl_off rfl rfl rfl (freshS_eq rfl) ?_
      refine wl_off rfl rfl rfl (freshS_eq rfl) ?_
      refine wl_off rfl rfl rfl (freshS_eq rfl) ?_
      refine wl_pure rfl rfl rfl (freshS_eq rfl) rfl ?_
      refine wl_pure rfl rfl rfl (freshS_eq rfl) rfl ?_
      refine wl_nil ?_
      have hE := (Option.some.inj hm).symm
      refine we_pick [] rfl (H' := []) rfl ?_
      refine we_join false hE [0] rfl (fun _ _ hφ => ask [] rfl hφ) rfl
    ·
     replace hm := iteF hm hs51
     refine wl_off rfl rfl rfl (freshS_eq rfl) ?_
     refine wl_off rfl rfl rfl (freshS_eq rfl) ?_
     refine wl_off rfl rfl rfl (freshS_eq rfl) ?_
     refine wl_off rfl rfl rfl (freshS_eq rfl) ?_
     refine wl_off rfl rfl rfl (freshS_eq rfl) ?_
     refine wl_pure rfl rfl rfl (freshS_eq rfl) rfl ?_
     refine wl_pure rfl rfl rfl (freshS_eq rfl) rfl ?_
     refine wl_off rfl rfl rfl (freshS_eq rfl) ?_
     refine wl_off rfl rfl rfl (freshS_eq rfl) ?_
     refine wl_off rfl rfl rfl (freshS_eq rfl) ?_
     refine wl_pure rfl rfl rfl (freshS_eq rfl) rfl ?_
     refine wl_pure rfl rfl rfl (freshS_eq rfl) rfl ?_
     refine wl_off rfl rfl rfl (freshS_eq rfl) ?_
     refine wl_off rfl rfl rfl (freshS_eq rfl) ?_
     refine wl_off rfl rfl rfl (freshS_eq rfl) ?_
     refine wl_off rfl rfl rfl (freshS_eq rfl) ?_
     refine wl_pure rfl rfl rfl (freshS_eq rfl) rfl ?_
     refine wl_pure rfl rfl rfl (freshS_eq rfl) rfl ?_
     refine wl_nil ?_
     have hE := (Option.some.inj hm).symm
     refine we_pick [] rfl (H' := []) rfl ?_
     refine we_join false hE [0] rfl (fun _ _ hφ => ask [] rfl hφ) rfl
   ·
    replace hm := iteF hm hs46
    refine wl_off rfl rfl rfl (freshS_eq rfl) ?_
    refine wl_off rfl rfl rfl (freshS_eq rfl) ?_
    refine wl_off rfl rfl rfl (freshS_eq rfl) ?_
    refine wl_pure rfl rfl rfl (freshS_eq rfl) rfl ?_
    refine wl_pure rfl rfl rfl (freshS_eq rfl) rfl ?_
    refine wl_off rfl rfl rfl (freshS_eq rfl) ?_
    refine wl_off rfl rfl rfl (freshS_eq rfl) ?_
    refine wl_off rfl rfl rfl (freshS_eq rfl) ?_
    refine wl_off rfl rfl rfl (freshS_eq rfl) ?_
    refine wl_off rfl rfl rfl (freshS_eq rfl) ?_
    refine wl_pure rfl rfl rfl (freshS_eq rfl) rfl ?_
    refine wl_pure rfl rfl rfl (freshS_eq rfl) rfl ?_
    refine wl_off rfl rfl rfl (freshS_eq rfl) ?_
    refine wl_off rfl rfl rfl (freshS_eq rfl) ?_
    refine wl_off rfl rfl rfl (freshS_eq rfl) ?_
    refine wl_pure rfl rfl rfl (freshS_eq rfl) rfl ?_
    refine wl_pure rfl rfl rfl (freshS_eq rfl) rfl ?_
    refine wl_off rfl rfl rfl (freshS_eq rfl) ?_
    refine wl_off rfl rfl rfl (freshS_eq rfl) ?_
    refine wl_off rfl rfl rfl (freshS_eq rfl) ?_
    refine wl_off rfl rfl rfl (freshS_eq rfl) ?_
    refine wl_pure rfl rfl rfl (freshS_eq rfl) rfl ?_
    refine wl_pure rfl rfl rfl (freshS_eq rfl) rfl ?_
    refine wl_nil ?_
    have hE := (Option.some.inj hm).symm
    refine we_pick [] rfl (H' := []) rfl ?_
    refine we_join false hE [0] rfl (fun _ _ hφ => ask [] rfl hφ) rfl
  ·
   rintro j_2_0 hE
   try dsimp only
   have hm := hLj_2
   rw [hE] at hm
   refine wc_ret ?_
   have hE := (Option.some.inj hm).symm
   replace hE := hE.symm
   subst hE
   refine ret_one (Hr := []) [] Try.results9 (res_tmp rfl) ⟨rfl, rfl, rfl⟩ (fun _ _ hφ => ask [] rfl hφ) rfl rfl (.inl rfl)
set_option maxRecDepth 100000 in
set_option maxHeartbeats 4000000 in
theorem w_disk_Disk_is_v2_s (N : Nat)   (hm : m_disk_Disk_is_v2 N = some ()) : Spec Try.prog 35 [.pointer none] [] [] (fun v Φr Hr => v = .int .i64 1 ∧ Φr = [] ∧ Hr = []) := by
 unfold m_disk_Disk_is_v2 at hm
 refine spec_of Try.func35 rfl Try.ntmps35 rfl (S := [_]) rfl (fun C => ?_)
 refine wc_seq ?_
 refine wc_region ?_
 refine wl_pure rfl rfl rfl (freshS_eq rfl) rfl ?_
 refine wl_nil ?_
 refine we_then ?_
 refine wc_keep [0] (S' := [_]) rfl ?_
 refine wc_seq ?_
 refine wc_seq ?_
 refine wc_region ?_
 refine wl_pure rfl rfl rfl (freshS_eq rfl) rfl ?_
 refine wl_bin rfl rfl rfl (freshS_eq rfl) rfl rfl rfl (eqlP tQ_24 _ _ _) ?_
 refine wl_pure rfl rfl rfl (freshS_eq rfl) rfl ?_
 refine wl_off rfl rfl rfl (freshS_eq rfl) ?_
 refine wl_off rfl rfl rfl (freshS_eq rfl) ?_
 refine wl_off rfl rfl rfl (freshS_eq rfl) ?_
 refine wl_off rfl rfl rfl (freshS_eq rfl) ?_
 refine wl_off rfl rfl rfl (freshS_eq rfl) ?_
 refine wl_pure rfl rfl rfl (freshS_eq rfl) rfl ?_
 refine wl_nil ?_
 refine we_then ?_
 refine wc_keep [11] (S' := [_]) rfl ?_
 refine wc_true rfl ?_
 refine wc_keep [] (S' := []) rfl ?_
 refine wc_seq ?_
 refine wc_region ?_
 refine wl_pure rfl rfl rfl (freshS_eq rfl) rfl ?_
 refine wl_nil ?_
 refine we_then ?_
 refine wc_ret ?_
 refine we_then_ret ?_
 have hE := (Option.some.inj hm).symm
 refine ret_one (Hr := []) [] Try.results35 (res_tmp rfl) ⟨rfl, rfl, rfl⟩ (fun _ _ hφ => ask [] rfl hφ) rfl rfl (.inl rfl)
set_option maxRecDepth 100000 in
set_option maxHeartbeats 4000000 in
theorem w_disk_Disk_Crash_v2_s (N : Nat) (a0 : Int)  (hm : m_disk_Disk_Crash_v2 N a0 = some ()) : Spec Try.prog 13 [.pointer none, .int .i64 a0] [] [] (fun v Φr Hr => v = .tuple #[] ∧ Φr = [] ∧ Hr = []) := by
 unfold m_disk_Disk_Crash_v2 at hm
 refine spec_of Try.func13 rfl Try.ntmps13 rfl (S := [_,_]) rfl (fun C => ?_)
 refine wc_seq ?_
 refine wc_seq ?_
 refine wc_region ?_
 refine wl_pure rfl rfl rfl (freshS_eq rfl) rfl ?_
 obtain ⟨_, hc8, hm⟩ := bindO_some hm
 try dsimp only at hm
 refine wl_call [] [] rfl rfl rfl (freshS_eq rfl) rfl rfl fn_35 rfl (w_disk_Disk_is_v2_s N  hc8) (fun _ _ hφ => ask [] rfl hφ) rfl (H' := []) rfl ?_
 rintro _ _ _ ⟨rfl, rfl, rfl⟩
 refine wl_pure rfl rfl rfl (freshS_eq rfl) rfl ?_
 refine wl_as (d := 9) (v' := .bool true) (S' := [_,_,_,_]) rfl rfl rfl ?_
 refine wl_nil ?_
 refine we_then ?_
 refine wc_keep [9, 0, 1] (S' := [_,_,_]) rfl ?_
 refine wc_true rfl ?_
 refine wc_keep [] (S' := []) rfl ?_
 refine wc_ret ?_
 refine we_then_ret ?_
 have hE := (Option.some.inj hm).symm
 refine ret_none (Hr := []) [] Try.results13 ⟨rfl, rfl, rfl⟩ (fun _ _ hφ => ask [] rfl hφ) rfl rfl (.inl rfl)
set_option maxRecDepth 100000 in
set_option maxHeartbeats 4000000 in
theorem w_disk_Disk_Append_v2_s (N : Nat) (a0 : ByteArray) (qp0 : Option Addr) (qc1 : Nat) (l1 : List Int)  (hm : m_disk_Disk_Append_v2 N a0 l1 = some ()) : Spec Try.prog 11 [.pointer none, .string a0, .slice qp0 l1.length qc1] [.sli 1 R_u8 qp0 qc1 l1] [] (fun v Φr Hr => v = .int .i64 1 ∧ Φr = [] ∧ Hr = []) := by
 unfold m_disk_Disk_Append_v2 at hm
 refine spec_of Try.func11 rfl Try.ntmps11 rfl (S := [_,_,_]) rfl (fun C => ?_)
 refine wc_seq ?_
 refine wc_region ?_
 refine wl_pure rfl rfl rfl (freshS_eq rfl) rfl ?_
 refine wl_nil ?_
 refine we_then ?_
 refine wc_keep [0, 1, 2] (S' := [_,_,_]) rfl ?_
 refine wc_seq ?_
 refine wc_seq ?_
 refine wc_region ?_
 refine wl_pure rfl rfl rfl (freshS_eq rfl) rfl ?_
 obtain ⟨_, hc11, hm⟩ := bindO_some hm
 try dsimp only at hm
 refine wl_call [] [] rfl rfl rfl (freshS_eq rfl) rfl rfl fn_35 rfl (w_disk_Disk_is_v2_s N  hc11) (fun _ _ hφ => ask [] rfl hφ) rfl (H' := []) rfl ?_
 rintro _ _ _ ⟨rfl, rfl, rfl⟩
 refine wl_pure rfl rfl rfl (freshS_eq rfl) rfl ?_
 refine wl_nil ?_
 refine we_then ?_
 refine wc_keep [7, 0, 1, 2] (S' := [_,_,_,_]) rfl ?_
 refine wc_seq ?_
 refine wc_region ?_
 refine wl_pure rfl rfl rfl (freshS_eq rfl) rfl ?_
 refine wl_pure rfl rfl rfl (freshS_eq rfl) rfl ?_
 refine wl_as (d := 13) (v' := .bool true) (S' := [_,_,_,_,_]) rfl rfl rfl ?_
 refine wl_nil ?_
 refine we_then ?_
 refine wc_keep [13, 7, 0, 1, 2] (S' := [_,_,_,_,_]) rfl ?_
 refine wc_true rfl ?_
 refine wc_keep [7] (S' := [_]) rfl ?_
 refine wc_seq ?_
 refine wc_region ?_
 refine wl_pure rfl rfl rfl (freshS_eq rfl) rfl ?_
 refine wl_pure rfl rfl rfl (freshS_eq rfl) rfl ?_
 refine wl_nil ?_
 refine we_then ?_
 refine wc_keep [6] (S' := [_]) rfl ?_
 refine wc_ret ?_
 refine we_then_ret ?_
 have hE := (Option.some.inj hm).symm
 refine ret_one (Hr := []) [] Try.results11 (res_tmp rfl) ⟨rfl, rfl, rfl⟩ (fun _ _ hφ => ask [] rfl hφ) rfl rfl (.inl rfl)
set_option maxRecDepth 100000 in
set_option maxHeartbeats 4000000 in
theorem w_disk_Disk_turn_v3_s (N : Nat) (a0 : ByteArray)  (hm : m_disk_Disk_turn_v3 N a0 = some ()) : Spec Try.prog 41 [.pointer none, .string a0, .func (.func 42) #[] #[]] [] [] (fun v Φr Hr => v = .int .i64 1 ∧ Φr = [] ∧ Hr = []) := by
 unfold m_disk_Disk_turn_v3 at hm
 refine spec_of Try.func41 rfl Try.ntmps41 rfl (S := [_,_,_]) rfl (fun C => ?_)
 refine wc_seq ?_
 refine wc_region ?_
 refine wl_pure rfl rfl rfl (freshS_eq rfl) rfl ?_
 refine wl_nil ?_
 refine we_then ?_
 refine wc_keep [0, 1, 2] (S' := [_,_,_]) rfl ?_
 refine wc_seq ?_
 refine wc_seq ?_
 refine wc_region ?_
 refine wl_pure rfl rfl rfl (freshS_eq rfl) rfl ?_
 obtain ⟨_, hc13, hm⟩ := bindO_some hm
 try dsimp only at hm
 refine wl_call [] [] rfl rfl rfl (freshS_eq rfl) rfl rfl fn_35 rfl (w_disk_Disk_is_v2_s N  hc13) (fun _ _ hφ => ask [] rfl hφ) rfl (H' := []) rfl ?_
 rintro _ _ _ ⟨rfl, rfl, rfl⟩
 refine wl_pure rfl rfl rfl (freshS_eq rfl) rfl ?_
 refine wl_nil ?_
 refine we_then ?_
 refine wc_keep [7, 0, 1, 2] (S' := [_,_,_,_]) rfl ?_
 refine wc_seq ?_
 refine wc_region ?_
 refine wl_pure rfl rfl rfl (freshS_eq rfl) rfl ?_
 refine wl_pure rfl rfl rfl (freshS_eq rfl) rfl ?_
 refine wl_as (d := 15) (v' := .bool true) (S' := [_,_,_,_,_]) rfl rfl rfl ?_
 refine wl_nil ?_
 refine we_then ?_
 refine wc_keep [15, 7, 0, 1, 2] (S' := [_,_,_,_,_]) rfl ?_
 refine wc_true rfl ?_
 refine wc_keep [7] (S' := [_]) rfl ?_
 refine wc_seq ?_
 refine wc_region ?_
 refine wl_pure rfl rfl rfl (freshS_eq rfl) rfl ?_
 refine wl_pure rfl rfl rfl (freshS_eq rfl) rfl ?_
 refine wl_nil ?_
 refine we_then ?_
 refine wc_keep [6] (S' := [_]) rfl ?_
 refine wc_ret ?_
 refine we_then_ret ?_
 have hE := (Option.some.inj hm).symm
 refine ret_one (Hr := []) [] Try.results41 (res_tmp rfl) ⟨rfl, rfl, rfl⟩ (fun _ _ hφ => ask [] rfl hφ) rfl rfl (.inl rfl)
set_option maxRecDepth 100000 in
set_option maxHeartbeats 4000000 in
theorem w_disk_Disk_Sync_v2_s (N : Nat) (a0 : ByteArray)  (hm : m_disk_Disk_Sync_v2 N a0 = some ()) : Spec Try.prog 12 [.pointer none, .string a0] [] [] (fun v Φr Hr => v = .int .i64 1 ∧ Φr = [] ∧ Hr = []) := by
 unfold m_disk_Disk_Sync_v2 at hm
 refine spec_of Try.func12 rfl Try.ntmps12 rfl (S := [_,_]) rfl (fun C => ?_)
 refine wc_seq ?_
 refine wc_region ?_
 refine wl_pure rfl rfl rfl (freshS_eq rfl) rfl ?_
 refine wl_nil ?_
 refine we_then ?_
 refine wc_keep [0, 1] (S' := [_,_]) rfl ?_
 refine wc_seq ?_
 refine wc_region ?_
 refine wl_pure rfl rfl rfl (freshS_eq rfl) rfl ?_
 refine wl_pure rfl rfl rfl (freshS_eq rfl) rfl ?_
 obtain ⟨_, hc7, hm⟩ := bindO_some hm
 try dsimp only at hm
 refine wl_call [] [] rfl rfl rfl (freshS_eq rfl) rfl rfl fn_41 rfl (w_disk_Disk_turn_v3_s N a0 hc7) (fun _ _ hφ => ask [] rfl hφ) rfl (H' := []) rfl ?_
 rintro _ _ _ ⟨rfl, rfl, rfl⟩
 refine wl_pure rfl rfl rfl (freshS_eq rfl) rfl ?_
 refine wl_nil ?_
 refine we_then ?_
 refine wc_keep [4] (S' := [_]) rfl ?_
 refine wc_ret ?_
 have hE := (Option.some.inj hm).symm
 refine ret_one (Hr := []) [] Try.results12 (res_tmp rfl) ⟨rfl, rfl, rfl⟩ (fun _ _ hφ => ask [] rfl hφ) rfl rfl (.inl rfl)
set_option maxRecDepth 100000 in
set_option maxHeartbeats 4000000 in
theorem w_disk_Disk_turn_v4_s (N : Nat) (a0 : ByteArray) (qg0 : Nat) (a1 : Int)  (hm : m_disk_Disk_turn_v4 N a0 a1 = some ()) : Spec Try.prog 41 [.pointer none, .string a0, .func (.func 59) #[] #[.pointer (some ⟨qg0, 0, none⟩)]] [] [.blk qg0 [.int .i64 a1] 3] (fun v Φr Hr => v = .int .i64 1 ∧ Φr = [] ∧ Hr = [.blk qg0 [.int .i64 a1] 3]) := by
 unfold m_disk_Disk_turn_v4 at hm
 refine spec_of Try.func41 rfl Try.ntmps41 rfl (S := [_,_,_]) rfl (fun C => ?_)
 refine wc_seq ?_
 refine wc_region ?_
 refine wl_pure rfl rfl rfl (freshS_eq rfl) rfl ?_
 refine wl_nil ?_
 refine we_then ?_
 refine wc_keep [0, 1, 2] (S' := [_,_,_]) rfl ?_
 refine wc_seq ?_
 refine wc_seq ?_
 refine wc_region ?_
 refine wl_pure rfl rfl rfl (freshS_eq rfl) rfl ?_
 obtain ⟨_, hc13, hm⟩ := bindO_some hm
 try dsimp only at hm
 refine wl_call [] [0] rfl rfl rfl (freshS_eq rfl) rfl rfl fn_35 rfl (w_disk_Disk_is_v2_s N  hc13) (fun _ _ hφ => ask [] rfl hφ) rfl (H' := [_]) rfl ?_
 rintro _ _ _ ⟨rfl, rfl, rfl⟩
 refine wl_pure rfl rfl rfl (freshS_eq rfl) rfl ?_
 refine wl_nil ?_
 refine we_then ?_
 refine wc_keep [7, 0, 1, 2] (S' := [_,_,_,_]) rfl ?_
 refine wc_seq ?_
 refine wc_region ?_
 refine wl_pure rfl rfl rfl (freshS_eq rfl) rfl ?_
 refine wl_pure rfl rfl rfl (freshS_eq rfl) rfl ?_
 refine wl_as (d := 15) (v' := .bool true) (S' := [_,_,_,_,_]) rfl rfl rfl ?_
 refine wl_nil ?_
 refine we_then ?_
 refine wc_keep [15, 7, 0, 1, 2] (S' := [_,_,_,_,_]) rfl ?_
 refine wc_true rfl ?_
 refine wc_keep [7] (S' := [_]) rfl ?_
 refine wc_seq ?_
 refine wc_region ?_
 refine wl_pure rfl rfl rfl (freshS_eq rfl) rfl ?_
 refine wl_pure rfl rfl rfl (freshS_eq rfl) rfl ?_
 refine wl_nil ?_
 refine we_then ?_
 refine wc_keep [6] (S' := [_]) rfl ?_
 refine wc_ret ?_
 refine we_then_ret ?_
 have hE := (Option.some.inj hm).symm
 refine ret_one (Hr := [_]) [0] Try.results41 (res_tmp rfl) ⟨rfl, rfl, rfl⟩ (fun _ _ hφ => ask [] rfl hφ) rfl rfl (.inl rfl)
set_option maxRecDepth 100000 in
set_option maxHeartbeats 4000000 in
theorem w_disk_Disk_Cut_s (N : Nat) (a0 : ByteArray) (a1 : Int)  (hm : m_disk_Disk_Cut N a0 a1 = some ()) : Spec Try.prog 30 [.pointer none, .string a0, .int .i64 a1] [] [] (fun v Φr Hr => v = .int .i64 1 ∧ Φr = [] ∧ Hr = []) := by
 unfold m_disk_Disk_Cut at hm
 refine spec_of Try.func30 rfl Try.ntmps30 rfl (S := [_,_,_]) rfl (fun C => ?_)
 refine wc_seq ?_
 refine wc_region ?_
 refine wl_box rfl rfl rfl (freshS_eq rfl) rfl rfl rfl (fun g5 => ?_)
 refine wl_pure rfl rfl rfl (freshS_eq rfl) rfl ?_
 refine wl_nil ?_
 refine we_then ?_
 refine wc_keep [5, 0, 1] (S' := [_,_,_]) rfl ?_
 refine wc_seq ?_
 refine wc_region ?_
 refine wl_pure rfl rfl rfl (freshS_eq rfl) rfl ?_
 refine wl_pure rfl rfl rfl (freshS_eq rfl) rfl ?_
 refine wl_makeFunc rfl rfl rfl (freshS_eq rfl) rfl rfl ?_
 obtain ⟨_, hc10, hm⟩ := bindO_some hm
 try dsimp only at hm
 refine wl_call [0] [] rfl rfl rfl (freshS_eq rfl) rfl rfl fn_41 rfl (w_disk_Disk_turn_v4_s N a0 g5 a1 hc10) (fun _ _ hφ => ask [] rfl hφ) rfl (H' := []) rfl ?_
 rintro _ _ _ ⟨rfl, rfl, rfl⟩
 refine wl_pure rfl rfl rfl (freshS_eq rfl) rfl ?_
 refine wl_nil ?_
 refine we_then ?_
 refine wc_keep [6] (S' := [_]) rfl ?_
 refine wc_ret ?_
 have hE := (Option.some.inj hm).symm
 refine ret_one (Hr := []) [] Try.results30 (res_tmp rfl) ⟨rfl, rfl, rfl⟩ (fun _ _ hφ => ask [] rfl hφ) rfl rfl (.inl rfl)
set_option maxRecDepth 100000 in
set_option maxHeartbeats 4000000 in
theorem w_disk_Disk_turn_v5_s (N : Nat) (a0 : ByteArray) (qg0 : Nat) (qg1 : Nat) (a1 : ByteArray)  (hm : m_disk_Disk_turn_v5 N a0 a1 = some ()) : Spec Try.prog 41 [.pointer none, .string a0, .func (.func 58) #[] #[.pointer (some ⟨qg0, 0, none⟩), .pointer (some ⟨qg1, 0, none⟩)]] [] [.blk qg0 [.pointer none] 24, .blk qg1 [.string a1] 9] (fun v Φr Hr => v = .int .i64 1 ∧ Φr = [] ∧ Hr = [.blk qg0 [.pointer none] 24, .blk qg1 [.string a1] 9]) := by
 unfold m_disk_Disk_turn_v5 at hm
 refine spec_of Try.func41 rfl Try.ntmps41 rfl (S := [_,_,_]) rfl (fun C => ?_)
 refine wc_seq ?_
 refine wc_region ?_
 refine wl_pure rfl rfl rfl (freshS_eq rfl) rfl ?_
 refine wl_nil ?_
 refine we_then ?_
 refine wc_keep [0, 1, 2] (S' := [_,_,_]) rfl ?_
 refine wc_seq ?_
 refine wc_seq ?_
 refine wc_region ?_
 refine wl_pure rfl rfl rfl (freshS_eq rfl) rfl ?_
 obtain ⟨_, hc13, hm⟩ := bindO_some hm
 try dsimp only at hm
 refine wl_call [] [0, 1] rfl rfl rfl (freshS_eq rfl) rfl rfl fn_35 rfl (w_disk_Disk_is_v2_s N  hc13) (fun _ _ hφ => ask [] rfl hφ) rfl (H' := [_,_]) rfl ?_
 rintro _ _ _ ⟨rfl, rfl, rfl⟩
 refine wl_pure rfl rfl rfl (freshS_eq rfl) rfl ?_
 refine wl_nil ?_
 refine we_then ?_
 refine wc_keep [7, 0, 1, 2] (S' := [_,_,_,_]) rfl ?_
 refine wc_seq ?_
 refine wc_region ?_
 refine wl_pure rfl rfl rfl (freshS_eq rfl) rfl ?_
 refine wl_pure rfl rfl rfl (freshS_eq rfl) rfl ?_
 refine wl_as (d := 15) (v' := .bool true) (S' := [_,_,_,_,_]) rfl rfl rfl ?_
 refine wl_nil ?_
 refine we_then ?_
 refine wc_keep [15, 7, 0, 1, 2] (S' := [_,_,_,_,_]) rfl ?_
 refine wc_true rfl ?_
 refine wc_keep [7] (S' := [_]) rfl ?_
 refine wc_seq ?_
 refine wc_region ?_
 refine wl_pure rfl rfl rfl (freshS_eq rfl) rfl ?_
 refine wl_pure rfl rfl rfl (freshS_eq rfl) rfl ?_
 refine wl_nil ?_
 refine we_then ?_
 refine wc_keep [6] (S' := [_]) rfl ?_
 refine wc_ret ?_
 refine we_then_ret ?_
 have hE := (Option.some.inj hm).symm
 refine ret_one (Hr := [_, _]) [0, 1] Try.results41 (res_tmp rfl) ⟨rfl, rfl, rfl⟩ (fun _ _ hφ => ask [] rfl hφ) rfl rfl (.inl rfl)
set_option maxRecDepth 100000 in
set_option maxHeartbeats 4000000 in
theorem w_disk_Disk_Rename_s (N : Nat) (a0 : ByteArray) (a1 : ByteArray)  (hm : m_disk_Disk_Rename N a0 a1 = some ()) : Spec Try.prog 29 [.pointer none, .string a0, .string a1] [] [] (fun v Φr Hr => v = .int .i64 1 ∧ Φr = [] ∧ Hr = []) := by
 unfold m_disk_Disk_Rename at hm
 refine spec_of Try.func29 rfl Try.ntmps29 rfl (S := [_,_,_]) rfl (fun C => ?_)
 refine wc_seq ?_
 refine wc_region ?_
 refine wl_box rfl rfl rfl (freshS_eq rfl) rfl rfl rfl (fun g3 => ?_)
 refine wl_box rfl rfl rfl (freshS_eq rfl) rfl rfl rfl (fun g5 => ?_)
 refine wl_pure rfl rfl rfl (freshS_eq rfl) rfl ?_
 refine wl_nil ?_
 refine we_then ?_
 refine wc_keep [5, 3, 1] (S' := [_,_,_]) rfl ?_
 refine wc_seq ?_
 refine wc_seq ?_
 refine wc_region ?_
 refine wl_loadH 1 0 rfl rfl rfl (freshS_eq rfl) rfl rfl rfl (cs := [_]) rfl tS_24 tA_24 rfl rfl ?_
 obtain ⟨_, hc9, hm⟩ := bindO_some hm
 try dsimp only at hm
 refine wl_call [] [0, 1] rfl rfl rfl (freshS_eq rfl) rfl rfl fn_35 rfl (w_disk_Disk_is_v2_s N  hc9) (fun _ _ hφ => ask [] rfl hφ) rfl (H' := [_,_]) rfl ?_
 rintro _ _ _ ⟨rfl, rfl, rfl⟩
 refine wl_pure rfl rfl rfl (freshS_eq rfl) rfl ?_
 refine wl_as (d := 10) (v' := .bool false) (S' := [_,_,_,_,_]) rfl rfl rfl ?_
 refine wl_pure rfl rfl rfl (freshS_eq rfl) rfl ?_
 refine wl_off rfl rfl rfl (freshS_eq rfl) ?_
 refine wl_off rfl rfl rfl (freshS_eq rfl) ?_
 refine wl_off rfl rfl rfl (freshS_eq rfl) ?_
 refine wl_off rfl rfl rfl (freshS_eq rfl) ?_
 refine wl_off rfl rfl rfl (freshS_eq rfl) ?_
 refine wl_pure rfl rfl rfl (freshS_eq rfl) rfl ?_
 refine wl_nil ?_
 refine we_then ?_
 refine wc_keep [17, 5, 3, 1] (S' := [_,_,_,_]) rfl ?_
 refine wc_false rfl ?_
 refine wc_keep [5, 3, 1] (S' := [_,_,_]) rfl ?_
 refine wc_skip ?_
 refine we_then ?_
 refine wc_seq ?_
 refine wc_region ?_
 refine wl_loadH 1 0 rfl rfl rfl (freshS_eq rfl) rfl rfl rfl (cs := [_]) rfl tS_24 tA_24 rfl rfl ?_
 refine wl_pure rfl rfl rfl (freshS_eq rfl) rfl ?_
 refine wl_makeFunc rfl rfl rfl (freshS_eq rfl) rfl rfl ?_
 obtain ⟨_, hc21, hm⟩ := bindO_some hm
 try dsimp only at hm
 refine wl_call [1, 0] [] rfl rfl rfl (freshS_eq rfl) rfl rfl fn_41 rfl (w_disk_Disk_turn_v5_s N a0 g3 g5 a1 hc21) (fun _ _ hφ => ask [] rfl hφ) rfl (H' := []) rfl ?_
 rintro _ _ _ ⟨rfl, rfl, rfl⟩
 refine wl_pure rfl rfl rfl (freshS_eq rfl) rfl ?_
 refine wl_nil ?_
 refine we_then ?_
 refine wc_keep [7, 5, 3, 1] (S' := [_,_,_,_]) rfl ?_
 refine wc_seq ?_
 refine wc_seq ?_
 refine wc_region ?_
 refine wl_pure rfl rfl rfl (freshS_eq rfl) rfl ?_
 refine wl_pure rfl rfl rfl (freshS_eq rfl) rfl ?_
 refine wl_as (d := 23) (v' := .bool false) (S' := [_,_,_,_,_]) rfl rfl rfl ?_
 refine wl_pure rfl rfl rfl (freshS_eq rfl) rfl ?_
 refine wl_off rfl rfl rfl (freshS_eq rfl) ?_
 refine wl_off rfl rfl rfl (freshS_eq rfl) ?_
 refine wl_off rfl rfl rfl (freshS_eq rfl) ?_
 refine wl_pure rfl rfl rfl (freshS_eq rfl) rfl ?_
 refine wl_nil ?_
 refine we_then ?_
 refine wc_keep [28, 7, 3, 1] (S' := [_,_,_,_]) rfl ?_
 refine wc_false rfl ?_
 refine wc_keep [7] (S' := [_]) rfl ?_
 refine wc_skip ?_
 refine we_then ?_
 refine wc_seq ?_
 refine wc_region ?_
 refine wl_pure rfl rfl rfl (freshS_eq rfl) rfl ?_
 refine wl_pure rfl rfl rfl (freshS_eq rfl) rfl ?_
 refine wl_nil ?_
 refine we_then ?_
 refine wc_keep [6] (S' := [_]) rfl ?_
 refine wc_ret ?_
 have hE := (Option.some.inj hm).symm
 refine ret_one (Hr := []) [] Try.results29 (res_tmp rfl) ⟨rfl, rfl, rfl⟩ (fun _ _ hφ => ask [] rfl hφ) rfl rfl (.inl rfl)
set_option maxRecDepth 100000 in
set_option maxHeartbeats 4000000 in
theorem w_disk_Disk_turn_v6_s (N : Nat) (a0 : ByteArray)  (hm : m_disk_Disk_turn_v3 N a0 = some ()) : Spec Try.prog 41 [.pointer none, .string a0, .func (.func 60) #[] #[]] [] [] (fun v Φr Hr => v = .int .i64 1 ∧ Φr = [] ∧ Hr = []) := by
 unfold m_disk_Disk_turn_v3 at hm
 refine spec_of Try.func41 rfl Try.ntmps41 rfl (S := [_,_,_]) rfl (fun C => ?_)
 refine wc_seq ?_
 refine wc_region ?_
 refine wl_pure rfl rfl rfl (freshS_eq rfl) rfl ?_
 refine wl_nil ?_
 refine we_then ?_
 refine wc_keep [0, 1, 2] (S' := [_,_,_]) rfl ?_
 refine wc_seq ?_
 refine wc_seq ?_
 refine wc_region ?_
 refine wl_pure rfl rfl rfl (freshS_eq rfl) rfl ?_
 obtain ⟨_, hc13, hm⟩ := bindO_some hm
 try dsimp only at hm
 refine wl_call [] [] rfl rfl rfl (freshS_eq rfl) rfl rfl fn_35 rfl (w_disk_Disk_is_v2_s N  hc13) (fun _ _ hφ => ask [] rfl hφ) rfl (H' := []) rfl ?_
 rintro _ _ _ ⟨rfl, rfl, rfl⟩
 refine wl_pure rfl rfl rfl (freshS_eq rfl) rfl ?_
 refine wl_nil ?_
 refine we_then ?_
 refine wc_keep [7, 0, 1, 2] (S' := [_,_,_,_]) rfl ?_
 refine wc_seq ?_
 refine wc_region ?_
 refine wl_pure rfl rfl rfl (freshS_eq rfl) rfl ?_
 refine wl_pure rfl rfl rfl (freshS_eq rfl) rfl ?_
 refine wl_as (d := 15) (v' := .bool true) (S' := [_,_,_,_,_]) rfl rfl rfl ?_
 refine wl_nil ?_
 refine we_then ?_
 refine wc_keep [15, 7, 0, 1, 2] (S' := [_,_,_,_,_]) rfl ?_
 refine wc_true rfl ?_
 refine wc_keep [7] (S' := [_]) rfl ?_
 refine wc_seq ?_
 refine wc_region ?_
 refine wl_pure rfl rfl rfl (freshS_eq rfl) rfl ?_
 refine wl_pure rfl rfl rfl (freshS_eq rfl) rfl ?_
 refine wl_nil ?_
 refine we_then ?_
 refine wc_keep [6] (S' := [_]) rfl ?_
 refine wc_ret ?_
 refine we_then_ret ?_
 have hE := (Option.some.inj hm).symm
 refine ret_one (Hr := []) [] Try.results41 (res_tmp rfl) ⟨rfl, rfl, rfl⟩ (fun _ _ hφ => ask [] rfl hφ) rfl rfl (.inl rfl)
set_option maxRecDepth 100000 in
set_option maxHeartbeats 4000000 in
theorem w_disk_Disk_Remove_s (N : Nat) (a0 : ByteArray)  (hm : m_disk_Disk_Remove N a0 = some ()) : Spec Try.prog 31 [.pointer none, .string a0] [] [] (fun v Φr Hr => v = .int .i64 1 ∧ Φr = [] ∧ Hr = []) := by
 unfold m_disk_Disk_Remove at hm
 refine spec_of Try.func31 rfl Try.ntmps31 rfl (S := [_,_]) rfl (fun C => ?_)
 refine wc_seq ?_
 refine wc_region ?_
 refine wl_pure rfl rfl rfl (freshS_eq rfl) rfl ?_
 refine wl_nil ?_
 refine we_then ?_
 refine wc_keep [0, 1] (S' := [_,_]) rfl ?_
 refine wc_seq ?_
 refine wc_region ?_
 refine wl_pure rfl rfl rfl (freshS_eq rfl) rfl ?_
 refine wl_pure rfl rfl rfl (freshS_eq rfl) rfl ?_
 obtain ⟨_, hc8, hm⟩ := bindO_some hm
 try dsimp only at hm
 refine wl_call [] [] rfl rfl rfl (freshS_eq rfl) rfl rfl fn_41 rfl (w_disk_Disk_turn_v6_s N a0 hc8) (fun _ _ hφ => ask [] rfl hφ) rfl (H' := []) rfl ?_
 rintro _ _ _ ⟨rfl, rfl, rfl⟩
 refine wl_pure rfl rfl rfl (freshS_eq rfl) rfl ?_
 refine wl_nil ?_
 refine we_then ?_
 refine wc_keep [5, 0, 1] (S' := [_,_,_]) rfl ?_
 refine wc_seq ?_
 refine wc_seq ?_
 refine wc_region ?_
 refine wl_pure rfl rfl rfl (freshS_eq rfl) rfl ?_
 refine wl_pure rfl rfl rfl (freshS_eq rfl) rfl ?_
 refine wl_as (d := 10) (v' := .bool false) (S' := [_,_,_,_]) rfl rfl rfl ?_
 refine wl_nil ?_
 refine we_then ?_
 refine wc_keep [10, 5, 0, 1] (S' := [_,_,_,_]) rfl ?_
 refine wc_false rfl ?_
 refine wc_keep [5] (S' := [_]) rfl ?_
 refine wc_skip ?_
 refine we_then ?_
 refine wc_seq ?_
 refine wc_region ?_
 refine wl_pure rfl rfl rfl (freshS_eq rfl) rfl ?_
 refine wl_pure rfl rfl rfl (freshS_eq rfl) rfl ?_
 refine wl_nil ?_
 refine we_then ?_
 refine wc_keep [4] (S' := [_]) rfl ?_
 refine wc_ret ?_
 have hE := (Option.some.inj hm).symm
 refine ret_one (Hr := []) [] Try.results31 (res_tmp rfl) ⟨rfl, rfl, rfl⟩ (fun _ _ hφ => ask [] rfl hφ) rfl rfl (.inl rfl)
set_option maxRecDepth 100000 in
set_option maxHeartbeats 4000000 in
theorem w_disk_Disk_turn_v7_s (N : Nat) (a0 : ByteArray) (qg0 : Nat) (qp1 : Option Addr) (qn2 : Nat) (qc3 : Nat) (l1 : List Int)  (hm : m_disk_Disk_turn_v7 N a0 l1 = some ()) : Spec Try.prog 41 [.pointer none, .string a0, .func (.func 46) #[] #[.pointer (some ⟨qg0, 0, none⟩)]] [] [.blk qg0 [.slice qp1 qn2 qc3] 27, .own 5 1 R_u8 (.slice qp1 qn2 qc3) l1] (fun v Φr Hr => v = .int .i64 1 ∧ Φr = [] ∧ Hr = [.blk qg0 [.slice qp1 qn2 qc3] 27, .own 5 1 R_u8 (.slice qp1 qn2 qc3) l1]) := by
 unfold m_disk_Disk_turn_v7 at hm
 refine spec_of Try.func41 rfl Try.ntmps41 rfl (S := [_,_,_]) rfl (fun C => ?_)
 refine wc_seq ?_
 refine wc_region ?_
 refine wl_pure rfl rfl rfl (freshS_eq rfl) rfl ?_
 refine wl_nil ?_
 refine we_then ?_
 refine wc_keep [0, 1, 2] (S' := [_,_,_]) rfl ?_
 refine wc_seq ?_
 refine wc_seq ?_
 refine wc_region ?_
 refine wl_pure rfl rfl rfl (freshS_eq rfl) rfl ?_
 obtain ⟨_, hc13, hm⟩ := bindO_some hm
 try dsimp only at hm
 refine wl_call [] [0, 1] rfl rfl rfl (freshS_eq rfl) rfl rfl fn_35 rfl (w_disk_Disk_is_v2_s N  hc13) (fun _ _ hφ => ask [] rfl hφ) rfl (H' := [_,_]) rfl ?_
 rintro _ _ _ ⟨rfl, rfl, rfl⟩
 refine wl_pure rfl rfl rfl (freshS_eq rfl) rfl ?_
 refine wl_nil ?_
 refine we_then ?_
 refine wc_keep [7, 0, 1, 2] (S' := [_,_,_,_]) rfl ?_
 refine wc_seq ?_
 refine wc_region ?_
 refine wl_pure rfl rfl rfl (freshS_eq rfl) rfl ?_
 refine wl_pure rfl rfl rfl (freshS_eq rfl) rfl ?_
 refine wl_as (d := 15) (v' := .bool true) (S' := [_,_,_,_,_]) rfl rfl rfl ?_
 refine wl_nil ?_
 refine we_then ?_
 refine wc_keep [15, 7, 0, 1, 2] (S' := [_,_,_,_,_]) rfl ?_
 refine wc_true rfl ?_
 refine wc_keep [7] (S' := [_]) rfl ?_
 refine wc_seq ?_
 refine wc_region ?_
 refine wl_pure rfl rfl rfl (freshS_eq rfl) rfl ?_
 refine wl_pure rfl rfl rfl (freshS_eq rfl) rfl ?_
 refine wl_nil ?_
 refine we_then ?_
 refine wc_keep [6] (S' := [_]) rfl ?_
 refine wc_ret ?_
 refine we_then_ret ?_
 have hE := (Option.some.inj hm).symm
 refine ret_one (Hr := [_, _]) [0, 1] Try.results41 (res_tmp rfl) ⟨rfl, rfl, rfl⟩ (fun _ _ hφ => ask [] rfl hφ) rfl rfl (.inl rfl)
set_option maxRecDepth 100000 in
set_option maxHeartbeats 4000000 in
theorem w_disk_Disk_Read_v2_s (N : Nat) (a0 : ByteArray)  (hm : m_disk_Disk_Read_v2 N a0 = some ()) : Spec Try.prog 17 [.pointer none, .string a0] [] [] (fun v Φr Hr => v = .tuple #[.slice none 0 0, .int .i64 1] ∧ Φr = [] ∧ Hr = [.own 5 1 R_u8 (.slice none 0 0) []]) := by
 unfold m_disk_Disk_Read_v2 at hm
 refine spec_of Try.func17 rfl Try.ntmps17 rfl (S := [_,_]) rfl (fun C => ?_)
 refine wc_seq ?_
 refine wc_region ?_
 refine wl_alloc rfl rfl rfl (freshS_eq rfl) rfl tZ_27 rfl (fun g4 => ?_)
 refine wl_pure rfl rfl rfl (freshS_eq rfl) rfl ?_
 refine wl_nil ?_
 refine we_then ?_
 refine wc_keep [4, 0, 1] (S' := [_,_,_]) rfl ?_
 refine wc_seq ?_
 refine wc_region ?_
 refine wl_pure rfl rfl rfl (freshS_eq rfl) rfl ?_
 refine wl_pure rfl rfl rfl (freshS_eq rfl) rfl ?_
 refine wl_makeFunc rfl rfl rfl (freshS_eq rfl) rfl rfl ?_
 refine wl_rowNil 5 1 R_u8 ?_
 obtain ⟨_, hc9, hm⟩ := bindO_some hm
 try dsimp only at hm
 refine wl_call [1, 0] [] rfl rfl rfl (freshS_eq rfl) rfl rfl fn_41 rfl (w_disk_Disk_turn_v7_s N a0 g4 none 0 0 [] hc9) (fun _ _ hφ => ask [] rfl hφ) rfl (H' := []) rfl ?_
 rintro _ _ _ ⟨rfl, rfl, rfl⟩
 refine wl_pure rfl rfl rfl (freshS_eq rfl) rfl ?_
 refine wl_nil ?_
 refine we_then ?_
 refine wc_keep [5, 4] (S' := [_,_]) rfl ?_
 refine wc_seq ?_
 refine wc_region ?_
 refine wl_loadH 0 0 rfl rfl rfl (freshS_eq rfl) rfl rfl rfl (cs := [_]) rfl tS_27 tA_27 rfl rfl ?_
 refine wl_pure rfl rfl rfl (freshS_eq rfl) rfl ?_
 refine wl_store 0 0 rfl rfl rfl rfl rfl rfl rfl tS_27 rfl rfl rfl (all' := [_]) rfl (H' := [_,_]) rfl ?_
 refine wl_pure (S' := [_,_,_]) rfl rfl rfl rfl rfl ?_
 refine wl_nil ?_
 refine we_then ?_
 refine wc_keep [5, 4] (S' := [_,_]) rfl ?_
 refine wc_ret ?_
 have hE := (Option.some.inj hm).symm
 refine ret_two (Hr := [_]) [1] Try.results17 (res_cell 0 rfl rfl tS_27 tA_27 rfl rfl) (res_tmp rfl) ⟨rfl, rfl, rfl⟩ (fun _ _ hφ => ask [] rfl hφ) rfl rfl (.inl rfl)
set_option maxRecDepth 100000 in
set_option maxHeartbeats 4000000 in
theorem w_disk_Disk_List_v2_s (N : Nat)   (hm : m_disk_Disk_List_v2 N = some ()) : Spec Try.prog 15 [.pointer none] [] [] (fun v Φr Hr => v = .slice none 0 0 ∧ Φr = [] ∧ Hr = []) := by
 unfold m_disk_Disk_List_v2 at hm
 refine spec_of Try.func15 rfl Try.ntmps15 rfl (S := [_]) rfl (fun C => ?_)
 refine wc_seq ?_
 refine wc_region ?_
 refine wl_pure rfl rfl rfl (freshS_eq rfl) rfl ?_
 refine wl_nil ?_
 refine we_then ?_
 refine wc_keep [0] (S' := [_]) rfl ?_
 refine wc_seq ?_
 refine wc_seq ?_
 refine wc_region ?_
 refine wl_pure rfl rfl rfl (freshS_eq rfl) rfl ?_
 obtain ⟨_, hc4, hm⟩ := bindO_some hm
 try dsimp only at hm
 refine wl_call [] [] rfl rfl rfl (freshS_eq rfl) rfl rfl fn_35 rfl (w_disk_Disk_is_v2_s N  hc4) (fun _ _ hφ => ask [] rfl hφ) rfl (H' := []) rfl ?_
 rintro _ _ _ ⟨rfl, rfl, rfl⟩
 refine wl_pure rfl rfl rfl (freshS_eq rfl) rfl ?_
 refine wl_as (d := 5) (v' := .bool true) (S' := [_,_,_]) rfl rfl rfl ?_
 refine wl_pure rfl rfl rfl (freshS_eq rfl) rfl ?_
 refine wl_off rfl rfl rfl (freshS_eq rfl) ?_
 refine wl_off rfl rfl rfl (freshS_eq rfl) ?_
 refine wl_off rfl rfl rfl (freshS_eq rfl) ?_
 refine wl_off rfl rfl rfl (freshS_eq rfl) ?_
 refine wl_off rfl rfl rfl (freshS_eq rfl) ?_
 refine wl_off rfl rfl rfl (freshS_eq rfl) ?_
 refine wl_pure rfl rfl rfl (freshS_eq rfl) rfl ?_
 refine wl_nil ?_
 refine we_then ?_
 refine wc_keep [13, 0] (S' := [_,_]) rfl ?_
 refine wc_true rfl ?_
 refine wc_keep [] (S' := []) rfl ?_
 refine wc_seq ?_
 refine wc_region ?_
 refine wl_pure rfl rfl rfl (freshS_eq rfl) rfl ?_
 refine wl_nil ?_
 refine we_then ?_
 refine wc_ret ?_
 refine we_then_ret ?_
 have hE := (Option.some.inj hm).symm
 refine ret_one (Hr := []) [] Try.results15 (res_tmp rfl) ⟨rfl, rfl, rfl⟩ (fun _ _ hφ => ask [] rfl hφ) rfl rfl (.inl rfl)
set_option maxRecDepth 100000 in
set_option maxHeartbeats 4000000 in
theorem w_disk_Disk_Used_v2_s (N : Nat)   (hm : m_disk_Disk_Used_v2 N = some ()) : Spec Try.prog 19 [.pointer none] [] [] (fun v Φr Hr => v = .int .i64 0 ∧ Φr = [] ∧ Hr = []) := by
 unfold m_disk_Disk_Used_v2 at hm
 refine spec_of Try.func19 rfl Try.ntmps19 rfl (S := [_]) rfl (fun C => ?_)
 refine wc_seq ?_
 refine wc_region ?_
 refine wl_pure rfl rfl rfl (freshS_eq rfl) rfl ?_
 refine wl_nil ?_
 refine we_then ?_
 refine wc_seq ?_
 refine wc_seq ?_
 refine wc_region ?_
 refine wl_pure rfl rfl rfl (freshS_eq rfl) rfl ?_
 obtain ⟨_, hc6, hm⟩ := bindO_some hm
 try dsimp only at hm
 refine wl_call [] [] rfl rfl rfl (freshS_eq rfl) rfl rfl fn_35 rfl (w_disk_Disk_is_v2_s N  hc6) (fun _ _ hφ => ask [] rfl hφ) rfl (H' := []) rfl ?_
 rintro _ _ _ ⟨rfl, rfl, rfl⟩
 refine wl_pure rfl rfl rfl (freshS_eq rfl) rfl ?_
 refine wl_as (d := 7) (v' := .bool true) (S' := [_,_,_,_]) rfl rfl rfl ?_
 refine wl_nil ?_
 refine we_then ?_
 refine wc_keep [7, 2, 0] (S' := [_,_,_]) rfl ?_
 refine wc_true rfl ?_
 refine wc_keep [] (S' := []) rfl ?_
 refine wc_seq ?_
 refine wc_region ?_
 refine wl_pure rfl rfl rfl (freshS_eq rfl) rfl ?_
 refine wl_nil ?_
 refine we_then ?_
 refine wc_ret ?_
 refine we_then_ret ?_
 have hE := (Option.some.inj hm).symm
 refine ret_one (Hr := []) [] Try.results19 (res_tmp rfl) ⟨rfl, rfl, rfl⟩ (fun _ _ hφ => ask [] rfl hφ) rfl rfl (.inl rfl)
set_option maxRecDepth 100000 in
set_option maxHeartbeats 4000000 in
theorem w_disk_Disk_Copy_s (N : Nat)   (hm : m_disk_Disk_Copy N = some ()) : Spec Try.prog 24 [.pointer none] [] [] (fun v Φr Hr => v = .pointer none ∧ Φr = [] ∧ Hr = []) := by
 unfold m_disk_Disk_Copy at hm
 refine spec_of Try.func24 rfl Try.ntmps24 rfl (S := [_]) rfl (fun C => ?_)
 refine wc_seq ?_
 refine wc_region ?_
 refine wl_pure rfl rfl rfl (freshS_eq rfl) rfl ?_
 refine wl_nil ?_
 refine we_then ?_
 refine wc_keep [0] (S' := [_]) rfl ?_
 refine wc_seq ?_
 refine wc_seq ?_
 refine wc_region ?_
 refine wl_pure rfl rfl rfl (freshS_eq rfl) rfl ?_
 obtain ⟨_, hc7, hm⟩ := bindO_some hm
 try dsimp only at hm
 refine wl_call [] [] rfl rfl rfl (freshS_eq rfl) rfl rfl fn_35 rfl (w_disk_Disk_is_v2_s N  hc7) (fun _ _ hφ => ask [] rfl hφ) rfl (H' := []) rfl ?_
 rintro _ _ _ ⟨rfl, rfl, rfl⟩
 refine wl_pure rfl rfl rfl (freshS_eq rfl) rfl ?_
 refine wl_as (d := 8) (v' := .bool true) (S' := [_,_,_]) rfl rfl rfl ?_
 refine wl_nil ?_
 refine we_then ?_
 refine wc_keep [8, 0] (S' := [_,_]) rfl ?_
 refine wc_true rfl ?_
 refine wc_keep [] (S' := []) rfl ?_
 refine wc_seq ?_
 refine wc_region ?_
 refine wl_pure rfl rfl rfl (freshS_eq rfl) rfl ?_
 refine wl_nil ?_
 refine we_then ?_
 refine wc_ret ?_
 refine we_then_ret ?_
 have hE := (Option.some.inj hm).symm
 refine ret_one (Hr := []) [] Try.results24 (res_tmp rfl) ⟨rfl, rfl, rfl⟩ (fun _ _ hφ => ask [] rfl hφ) rfl rfl (.inl rfl)
set_option maxRecDepth 100000 in
set_option maxHeartbeats 4000000 in
theorem w_ropewalklaw17_silent_s (N : Nat) (a0 : Int) (o0 : Bool) (hm : m_ropewalklaw17_silent N a0 = some o0) : Spec Try.prog 28 [.pointer none, .int .i64 a0] [] [] (fun v Φr Hr => v = .bool o0 ∧ Φr = [] ∧ Hr = []) := by
 unfold m_ropewalklaw17_silent at hm
 refine spec_of Try.func28 rfl Try.ntmps28 rfl (S := [_,_]) rfl (fun C => ?_)
 refine wc_seq ?_
 refine wc_region ?_
 refine wl_pure rfl rfl rfl (freshS_eq rfl) rfl ?_
 refine wl_nil ?_
 refine we_then ?_
 refine wc_keep [0, 1] (S' := [_,_]) rfl ?_
 refine wc_seq ?_
 refine wc_region ?_
 refine wl_pure rfl rfl rfl (freshS_eq rfl) rfl ?_
 refine wl_pure rfl rfl rfl (freshS_eq rfl) rfl ?_
 obtain ⟨_, hc11, hm⟩ := bindO_some hm
 try dsimp only at hm
 refine wl_call [] [] rfl rfl rfl (freshS_eq rfl) rfl rfl fn_13 rfl (w_disk_Disk_Crash_v2_s N a0 hc11) (fun _ _ hφ => ask [] rfl hφ) rfl (H' := []) rfl ?_
 rintro _ _ _ ⟨rfl, rfl, rfl⟩
 refine wl_nil ?_
 refine we_then ?_
 refine wc_keep [0, 1] (S' := [_,_]) rfl ?_
 refine wc_seq ?_
 refine wc_region ?_
 refine wl_pure rfl rfl rfl (freshS_eq rfl) rfl ?_
 refine wl_fact (.sli 1 R_u8 none 0 ([] : List Int)) (fun _ _ _ => sli_none) ?_
 obtain ⟨_, hc13, hm⟩ := bindO_some hm
 try dsimp only at hm
 refine wl_call [] [] rfl rfl rfl (freshS_eq rfl) rfl rfl fn_11 rfl (w_disk_Disk_Append_v2_s N (⟨#[97]⟩ : ByteArray) none 0 ([] : List Int) hc13) (fun _ _ hφ => ask [0] rfl hφ) rfl (H' := []) rfl ?_
 rintro _ _ _ ⟨rfl, rfl, rfl⟩
 refine wl_pure rfl rfl rfl (freshS_eq rfl) rfl ?_
 obtain ⟨_, hc15, hm⟩ := bindO_some hm
 try dsimp only at hm
 refine wl_call [] [] rfl rfl rfl (freshS_eq rfl) rfl rfl fn_12 rfl (w_disk_Disk_Sync_v2_s N (⟨#[97]⟩ : ByteArray) hc15) (fun _ _ hφ => ask [] rfl hφ) rfl (H' := []) rfl ?_
 rintro _ _ _ ⟨rfl, rfl, rfl⟩
 refine wl_pure rfl rfl rfl (freshS_eq rfl) rfl ?_
 refine wl_pure rfl rfl rfl (freshS_eq rfl) rfl ?_
 obtain ⟨_, hc18, hm⟩ := bindO_some hm
 try dsimp only at hm
 refine wl_call [] [] rfl rfl rfl (freshS_eq rfl) rfl rfl fn_30 rfl (w_disk_Disk_Cut_s N (⟨#[97]⟩ : ByteArray) a0 hc18) (fun _ _ hφ => ask [] rfl hφ) rfl (H' := []) rfl ?_
 rintro _ _ _ ⟨rfl, rfl, rfl⟩
 refine wl_pure rfl rfl rfl (freshS_eq rfl) rfl ?_
 obtain ⟨_, hc20, hm⟩ := bindO_some hm
 try dsimp only at hm
 refine wl_call [] [] rfl rfl rfl (freshS_eq rfl) rfl rfl fn_29 rfl (w_disk_Disk_Rename_s N (⟨#[97]⟩ : ByteArray) (⟨#[98]⟩ : ByteArray) hc20) (fun _ _ hφ => ask [] rfl hφ) rfl (H' := []) rfl ?_
 rintro _ _ _ ⟨rfl, rfl, rfl⟩
 refine wl_pure rfl rfl rfl (freshS_eq rfl) rfl ?_
 obtain ⟨_, hc22, hm⟩ := bindO_some hm
 try dsimp only at hm
 refine wl_call [] [] rfl rfl rfl (freshS_eq rfl) rfl rfl fn_31 rfl (w_disk_Disk_Remove_s N (⟨#[97]⟩ : ByteArray) hc22) (fun _ _ hφ => ask [] rfl hφ) rfl (H' := []) rfl ?_
 rintro _ _ _ ⟨rfl, rfl, rfl⟩
 refine wl_buildSlice rfl rfl rfl (freshS_eq rfl) rfl tE_66 tS_28 tZ_28 rfl (zs := [.int .i64 0, .int .i64 0, .int .i64 0, .int .i64 0, .int .i64 0]) (by kernel_rfl) rfl (out := [_,_,_,_,_]) rfl (fun g23 => ?_)
 refine wl_pure rfl rfl rfl (freshS_eq rfl) rfl ?_
 refine wl_nil ?_
 refine we_then ?_
 refine wc_keep [5, 0] (S' := [_,_]) rfl ?_
 refine wc_seq ?_
 refine wc_region ?_
 refine wl_pure rfl rfl rfl (freshS_eq rfl) rfl ?_
 obtain ⟨_, hc26, hm⟩ := bindO_some hm
 try dsimp only at hm
 refine wl_call [] [0] rfl rfl rfl (freshS_eq rfl) rfl rfl fn_17 rfl (w_disk_Disk_Read_v2_s N (⟨#[97]⟩ : ByteArray) hc26) (fun _ _ hφ => ask [] rfl hφ) rfl (H' := [_]) rfl ?_
 rintro _ _ _ ⟨rfl, rfl, rfl⟩
 refine wl_pure rfl rfl rfl (freshS_eq rfl) rfl ?_
 refine wl_pure rfl rfl rfl (freshS_eq rfl) rfl ?_
 refine wl_pure rfl rfl rfl (freshS_eq rfl) rfl ?_
 refine wl_pure rfl rfl rfl (freshS_eq rfl) rfl ?_
 refine wl_pure rfl rfl rfl (freshS_eq rfl) rfl ?_
 refine wl_nil ?_
 refine we_then ?_
 refine wc_keep [7, 6, 5, 0] (S' := [_,_,_,_]) rfl ?_
 refine wc_seq ?_
 refine wc_region ?_
 refine wl_pure rfl rfl rfl (freshS_eq rfl) rfl ?_
 refine wl_pure rfl rfl rfl (freshS_eq rfl) rfl ?_
 refine wl_buildSlice rfl rfl rfl (freshS_eq rfl) rfl tE_66 tS_28 tZ_28 rfl (zs := [.int .i64 0]) (by kernel_rfl) rfl (out := [_]) rfl (fun g31 => ?_)
 refine wl_row (sz := 1) (m := 5) R_i64 ([1, 1, 1, 1, 1]) 2 rfl (fun F w hφ => ⟨[.int .i64 1], [.int .i64 1, .int .i64 1, .int .i64 1, .int .i64 1], rfl, rfl, ⟨(), rfl, ask_nil⟩, ⟨[.int .i64 1], [.int .i64 1, .int .i64 1, .int .i64 1], rfl, rfl, ⟨(), rfl, ask_nil⟩, ⟨[.int .i64 1], [.int .i64 1, .int .i64 1], rfl, rfl, ⟨(), rfl, ask_nil⟩, ⟨[.int .i64 1], [.int .i64 1], rfl, rfl, ⟨(), rfl, ask_nil⟩, ⟨[.int .i64 1], [], rfl, rfl, ⟨(), rfl, ask_nil⟩, rfl⟩⟩⟩⟩⟩) rfl (by decide) (H' := [_,_,_]) rfl ?_
 obtain ⟨hg32, hm⟩ := gd_some hm
 refine wl_appendH [1] 2 0 rfl rfl rfl (freshS_eq rfl) rfl rfl rfl rfl rfl (fun F w hφ => ⟨[.int .i64 1], [], rfl, rfl, ⟨(), rfl, ask_nil⟩, rfl⟩) tE_66 tR_28 rfl rfl (Nat.le_trans hg32 (by decide)) (Nat.le_trans (Nat.mul_le_mul_right _ hg32) (by decide)) (H2 := fun p32 c32 => [.blk g31 [.int .i64 1] 28, .own 5 1 R_u8 (.slice none 0 0) [], .own 28 1 R_i64 (.slice p32 ((([1, 1, 1, 1, 1]) ++ [1]).length) c32) (([1, 1, 1, 1, 1]) ++ [1])]) (fun _ _ => rfl) (fun p32 c32 => ?_)
 refine wl_drop 0 rfl (H' := [_,_]) rfl ?_
 refine wl_pure (S' := [_,_,_,_,_,_,_]) rfl rfl rfl rfl rfl ?_
 refine wl_nil ?_
 refine we_then ?_
 refine wc_keep [5, 6, 0] (S' := [_,_,_]) rfl ?_
 refine wc_seq ?_
 obtain ⟨bj_1, hm, hLj_1⟩ := bindS_some hm
 refine wc_cut (σ := Unit) (fun _ => bj_1 = .inl ()) (fun _ => [(6, .slice none 0 0), (0, .pointer none)]) (fun _ => []) (fun _ => [.own 5 1 R_u8 (.slice none 0 0) []]) ?_ ?_
 ·
  refine wc_seq ?_
  refine wc_region ?_
  refine wl_pure rfl rfl rfl (freshS_eq rfl) rfl ?_
  refine wl_nil ?_
  refine we_then ?_
  refine wc_block ?_
  refine wc_pick [1, 0] rfl (H' := [_,_]) rfl ?_
  refine wc_loop (σ := Nat × Nat) (fun (nu1, u1_8) => iter (m_ropewalklaw17_silent_L1 N) nu1 u1_8 = some bj_1) (fun (nu1, u1_8) => nu1) (fun (nu1, u1_8) => [(8, .int .i64 ((u1_8 : Nat) : Int)), (5, .slice p32 ((([1, 1, 1, 1, 1]) ++ [1]).length) c32), (6, .slice none 0 0), (0, .pointer none)]) (fun (nu1, u1_8) => []) (fun (nu1, u1_8) => [.own 28 1 R_i64 (.slice p32 ((([1, 1, 1, 1, 1]) ++ [1]).length) c32) (([1, 1, 1, 1, 1]) ++ [1]), .own 5 1 R_u8 (.slice none 0 0) []]) (N, 0) hm [8, 5, 6, 0] rfl (fun _ _ hφ => ask [] rfl hφ) rfl (fun s_ hm => ?_)
  obtain ⟨nu1, u1_8⟩ := s_
  try dsimp only at hm ⊢
  obtain ⟨mu1, bu1, hnu1, hq, hLu1⟩ := iter_some hm
  clear hm
  subst hnu1
  replace hm := hq
  clear hq
  unfold m_ropewalklaw17_silent_L1 at hm
  try dsimp only at hm
  refine wc_seq ?_
  refine wc_seq ?_
  refine wc_region ?_
  refine wl_pure rfl rfl rfl (freshS_eq rfl) rfl ?_
  refine wl_pure rfl rfl rfl (freshS_eq rfl) rfl ?_
  refine wl_len rfl rfl rfl (freshS_eq rfl) rfl rfl tE_66 ?_
  refine wl_pure rfl rfl rfl (freshS_eq rfl) rfl ?_
  refine wl_as (d := 36) (v' := .bool (decide (u1_8 < ((([1, 1, 1, 1, 1]) ++ [1]).length)))) (S' := [_,_,_,_,_,_,_]) rfl rfl (natlt (a := u1_8) (b := (([1, 1, 1, 1, 1]) ++ [1]).length)) ?_
  refine wl_nil ?_
  refine we_then ?_
  refine wc_keep [36, 8, 5, 6, 0] (S' := [_,_,_,_,_]) rfl ?_
  refine wc_cond rfl (fun hb36 => ?_) (fun hb36 => ?_)
  ·
   replace hm := iteT hm hb36
   refine wc_keep [8, 5, 6, 0] (S' := [_,_,_,_]) rfl ?_
   refine wc_skip ?_
   refine we_then ?_
   refine wc_seq ?_
   refine wc_block ?_
   refine wc_seq ?_
   refine wc_region ?_
   refine wl_pure rfl rfl rfl (freshS_eq rfl) rfl ?_
   refine wl_pure rfl rfl rfl (freshS_eq rfl) rfl ?_
   obtain ⟨x41, hx41, hm⟩ := bindO_some hm
   refine wl_indexH 0 u1_8 rfl rfl rfl (freshS_eq rfl) rfl rfl rfl rfl rfl (get_lt hx41) tE_66 tS_28 (fun g41 eg41 => ?_)
   subst eg41
   refine wl_loadRow R_i64_opens 0 u1_8 0 rfl rfl rfl (freshS_eq rfl) rfl rfl rfl hx41 tS_28 tA_28 (v := fun _ => .int .i64 x41) (fun _ => rfl) (fun _ => rfl) (fun _ _ => ?_)
   refine wl_pure rfl rfl rfl (freshS_eq rfl) rfl ?_
   refine wl_nil ?_
   refine we_then ?_
   refine wc_keep [43, 8, 5, 6, 0] (S' := [_,_,_,_,_]) rfl ?_
   refine wc_cond rfl (fun hb43 => ?_) (fun hb43 => ?_)
   ·
    replace hm := iteT hm hb43
    refine wc_keep [] (S' := []) rfl ?_
    refine wc_seq ?_
    refine wc_region ?_
    refine wl_pure rfl rfl rfl (freshS_eq rfl) rfl ?_
    refine wl_nil ?_
    refine we_then ?_
    refine wc_ret ?_
    refine we_block_ret ?_
    refine we_then_ret ?_
    refine we_then_ret ?_
    refine we_block_ret ?_
    refine we_then_ret ?_
    have hE := (Option.some.inj hm).symm
    replace hE := link_inr hLu1 hE
    replace hE := link_inr hLj_1 hE
    replace hE := hE.symm
    subst hE
    refine ret_one (Hr := []) [] Try.results28 (res_tmp rfl) ⟨rfl, rfl, rfl⟩ (fun _ _ hφ => ask [] rfl hφ) rfl rfl (.inl rfl)
   ·
    replace hm := iteF hm hb43
    refine wc_keep [8, 5, 6, 0] (S' := [_,_,_,_]) rfl ?_
    refine wc_skip ?_
    refine we_block_normal ?_
    refine we_then ?_
    refine wc_region ?_
    refine wl_pure rfl rfl rfl (freshS_eq rfl) rfl ?_
    refine wl_pure rfl rfl rfl (freshS_eq rfl) rfl ?_
    obtain ⟨hg38, hm⟩ := gd_some hm
    refine wl_as (d := 38) (v' := .int .i64 ((u1_8 + 1 : Nat) : Int)) (S' := [_,_,_,_,_]) rfl rfl (nat_add (a := u1_8) (b := 1) hg38) ?_
    refine wl_pure (S' := [_,_,_,_,_]) rfl rfl rfl rfl rfl ?_
    refine wl_nil ?_
    have hE := (Option.some.inj hm).symm
    replace hE := link_inl hLu1 hE
    refine we_roundK (_, u1_8 + 1) (Nat.lt_succ_self _) hE [8, 5, 6, 0] rfl (fun _ _ hφ => ask [] rfl hφ) rfl
  ·
   replace hm := iteF hm hb36
   refine wc_keep [6, 0] (S' := [_,_]) rfl ?_
   refine wc_exit ?_
   refine we_then_exit ?_
   refine we_then_exit ?_
   refine we_block_hit ?_
   have hE := (Option.some.inj hm).symm
   replace hE := link_inr hLu1 hE
   refine we_pick [1] rfl (H' := [_]) rfl ?_
   refine we_join () hE [6, 0] rfl (fun _ _ hφ => ask [] rfl hφ) rfl
 ·
  rintro _ hE
  try dsimp only
  have hm := link_inl hLj_1 hE
  try dsimp only at hm
  refine wc_seq ?_
  refine wc_region ?_
  refine wl_pure rfl rfl rfl (freshS_eq rfl) rfl ?_
  refine wl_ownLen 0 rfl (fun hl45 _ => ?_)
  refine wl_len rfl rfl rfl (freshS_eq rfl) rfl rfl tE_27 ?_
  refine wl_as (d := 45) (v' := .int .i64 (([].length : Nat) : Int)) (S' := [_,_,_]) rfl rfl (len_is hl45) ?_
  refine wl_pure rfl rfl rfl (freshS_eq rfl) rfl ?_
  obtain ⟨_, hc47, hm⟩ := bindO_some hm
  try dsimp only at hm
  refine wl_call [] [0] rfl rfl rfl (freshS_eq rfl) rfl rfl fn_15 rfl (w_disk_Disk_List_v2_s N  hc47) (fun _ _ hφ => ask [] rfl hφ) rfl (H' := [_]) rfl ?_
  rintro _ _ _ ⟨rfl, rfl, rfl⟩
  refine wl_len rfl rfl rfl (freshS_eq rfl) rfl rfl tE_26 ?_
  refine wl_pure rfl rfl rfl (freshS_eq rfl) rfl ?_
  obtain ⟨hg49, hm⟩ := gd_some hm
  refine wl_as (d := 49) (v' := .int .i64 (([].length + 0 : Nat) : Int)) (S' := [_,_,_,_,_,_,_]) rfl rfl (nat_add (a := [].length) (b := 0) hg49) ?_
  refine wl_pure rfl rfl rfl (freshS_eq rfl) rfl ?_
  obtain ⟨_, hc51, hm⟩ := bindO_some hm
  try dsimp only at hm
  refine wl_call [] [0] rfl rfl rfl (freshS_eq rfl) rfl rfl fn_19 rfl (w_disk_Disk_Used_v2_s N  hc51) (fun _ _ hφ => ask [] rfl hφ) rfl (H' := [_]) rfl ?_
  rintro _ _ _ ⟨rfl, rfl, rfl⟩
  refine wl_pure rfl rfl rfl (freshS_eq rfl) rfl ?_
  obtain ⟨hg52, hm⟩ := gd_some hm
  refine wl_as (d := 52) (v' := .int .i64 ((([].length + 0) + 0 : Nat) : Int)) (S' := [_,_,_,_,_,_,_,_,_,_]) rfl rfl (nat_add (a := [].length + 0) (b := 0) hg52) ?_
  refine wl_pure rfl rfl rfl (freshS_eq rfl) rfl ?_
  refine wl_as (d := 53) (v' := .bool ((([].length + 0) + 0) == 0)) (S' := [_,_,_,_,_,_,_,_,_,_,_]) rfl rfl (nateq (a := ([].length + 0) + 0) (b := 0)) ?_
  refine wl_pure rfl rfl rfl (freshS_eq rfl) rfl ?_
  refine wl_split (d := 54) (S' := [_,_,_,_,_,_,_,_,_,_,_,_]) rfl rfl (fun hs54 => ?_) (fun hs54 => ?_)
  ·
   replace hm := iteT hm hs54
   refine wl_pure rfl rfl rfl (freshS_eq rfl) rfl ?_
   obtain ⟨_, hc56, hm⟩ := bindO_some hm
   try dsimp only at hm
   refine wl_call [] [0] rfl rfl rfl (freshS_eq rfl) rfl rfl fn_24 rfl (w_disk_Disk_Copy_s N  hc56) (fun _ _ hφ => ask [] rfl hφ) rfl (H' := [_]) rfl ?_
   rintro _ _ _ ⟨rfl, rfl, rfl⟩
   refine wl_bin rfl rfl rfl (freshS_eq rfl) rfl rfl rfl (eqlP tQ_24 _ _ _) ?_
   refine wl_pure rfl rfl rfl (freshS_eq rfl) rfl ?_
   refine wl_pure rfl rfl rfl (freshS_eq rfl) rfl ?_
   refine wl_nil ?_
   refine we_then ?_
   refine wc_keep [4] (S' := [_]) rfl ?_
   refine wc_ret ?_
   have hE := (Option.some.inj hm).symm
   replace hE := hE.symm
   subst hE
   refine ret_one (Hr := []) [] Try.results28 (res_tmp rfl) ⟨rfl, rfl, rfl⟩ (fun _ _ hφ => ask [] rfl hφ) rfl rfl (.inl rfl)
  ·
   replace hm := iteF hm hs54
   refine wl_off rfl rfl rfl (freshS_eq rfl) ?_
   refine wl_off rfl rfl rfl (freshS_eq rfl) ?_
   refine wl_off rfl rfl rfl (freshS_eq rfl) ?_
   refine wl_pure rfl rfl rfl (freshS_eq rfl) rfl ?_
   refine wl_pure rfl rfl rfl (freshS_eq rfl) rfl ?_
   refine wl_nil ?_
   refine we_then ?_
   refine wc_keep [4] (S' := [_]) rfl ?_
   refine wc_ret ?_
   have hE := (Option.some.inj hm).symm
   replace hE := hE.symm
   subst hE
   refine ret_one (Hr := []) [] Try.results28 (res_tmp rfl) ⟨rfl, rfl, rfl⟩ (fun _ _ hφ => ask [] rfl hφ) rfl rfl (.inl rfl)
set_option maxRecDepth 100000 in
set_option maxHeartbeats 4000000 in
theorem w_disk_Disk_is_v3_s (N : Nat) (qg0 : Nat) (a0 : Int)  (hm : m_disk_Disk_is_v3 N a0 = some ()) : Spec Try.prog 35 [.pointer (some ⟨qg0, 0, none⟩)] [] [.blk qg0 [.int .i64 a0, .map none] 59] (fun v Φr Hr => v = .int .i64 1 ∧ Φr = [] ∧ Hr = [.blk qg0 [.int .i64 a0, .map none] 59]) := by
 unfold m_disk_Disk_is_v3 at hm
 refine spec_of Try.func35 rfl Try.ntmps35 rfl (S := [_]) rfl (fun C => ?_)
 refine wc_seq ?_
 refine wc_region ?_
 refine wl_pure rfl rfl rfl (freshS_eq rfl) rfl ?_
 refine wl_nil ?_
 refine we_then ?_
 refine wc_keep [0] (S' := [_]) rfl ?_
 refine wc_seq ?_
 refine wc_seq ?_
 refine wc_region ?_
 refine wl_pure rfl rfl rfl (freshS_eq rfl) rfl ?_
 refine wl_bin rfl rfl rfl (freshS_eq rfl) rfl rfl rfl (eqlP tQ_24 _ _ _) ?_
 refine wl_pure rfl rfl rfl (freshS_eq rfl) rfl ?_
 refine wl_pure rfl rfl rfl (freshS_eq rfl) rfl ?_
 refine wl_pure rfl rfl rfl (freshS_eq rfl) rfl ?_
 refine wl_fieldAddr rfl rfl rfl (freshS_eq rfl) rfl rfl tF_59_1 ?_
 refine wl_loadH 0 1 rfl rfl rfl (freshS_eq rfl) rfl rfl rfl (cs := [_]) rfl tS_57 tA_57 rfl rfl ?_
 refine wl_bin rfl rfl rfl (freshS_eq rfl) rfl rfl rfl (eqlM tM_57 _ _ _) ?_
 refine wl_pure rfl rfl rfl (freshS_eq rfl) rfl ?_
 refine wl_nil ?_
 refine we_then ?_
 refine wc_keep [11] (S' := [_]) rfl ?_
 refine wc_true rfl ?_
 refine wc_keep [] (S' := []) rfl ?_
 refine wc_seq ?_
 refine wc_region ?_
 refine wl_pure rfl rfl rfl (freshS_eq rfl) rfl ?_
 refine wl_nil ?_
 refine we_then ?_
 refine wc_ret ?_
 refine we_then_ret ?_
 have hE := (Option.some.inj hm).symm
 refine ret_one (Hr := [_]) [0] Try.results35 (res_tmp rfl) ⟨rfl, rfl, rfl⟩ (fun _ _ hφ => ask [] rfl hφ) rfl rfl (.inl rfl)
set_option maxRecDepth 100000 in
set_option maxHeartbeats 4000000 in
theorem w_disk_Disk_Crash_v3_s (N : Nat) (qg0 : Nat) (a0 : Int) (a1 : Int)  (hm : m_disk_Disk_Crash_v3 N a0 a1 = some ()) : Spec Try.prog 13 [.pointer (some ⟨qg0, 0, none⟩), .int .i64 a1] [] [.blk qg0 [.int .i64 a0, .map none] 59] (fun v Φr Hr => v = .tuple #[] ∧ Φr = [] ∧ Hr = [.blk qg0 [.int .i64 a0, .map none] 59]) := by
 unfold m_disk_Disk_Crash_v3 at hm
 refine spec_of Try.func13 rfl Try.ntmps13 rfl (S := [_,_]) rfl (fun C => ?_)
 refine wc_seq ?_
 refine wc_seq ?_
 refine wc_region ?_
 refine wl_pure rfl rfl rfl (freshS_eq rfl) rfl ?_
 obtain ⟨_, hc8, hm⟩ := bindO_some hm
 try dsimp only at hm
 refine wl_call [0] [] rfl rfl rfl (freshS_eq rfl) rfl rfl fn_35 rfl (w_disk_Disk_is_v3_s N qg0 a0 hc8) (fun _ _ hφ => ask [] rfl hφ) rfl (H' := []) rfl ?_
 rintro _ _ _ ⟨rfl, rfl, rfl⟩
 refine wl_pure rfl rfl rfl (freshS_eq rfl) rfl ?_
 refine wl_as (d := 9) (v' := .bool true) (S' := [_,_,_,_]) rfl rfl rfl ?_
 refine wl_nil ?_
 refine we_then ?_
 refine wc_keep [9, 0, 1] (S' := [_,_,_]) rfl ?_
 refine wc_true rfl ?_
 refine wc_keep [] (S' := []) rfl ?_
 refine wc_ret ?_
 refine we_then_ret ?_
 have hE := (Option.some.inj hm).symm
 refine ret_none (Hr := [_]) [0] Try.results13 ⟨rfl, rfl, rfl⟩ (fun _ _ hφ => ask [] rfl hφ) rfl rfl (.inl rfl)
set_option maxRecDepth 100000 in
set_option maxHeartbeats 4000000 in
theorem w_disk_Disk_Append_v3_s (N : Nat) (qg0 : Nat) (a0 : Int) (a1 : ByteArray) (qp1 : Option Addr) (qc2 : Nat) (l2 : List Int)  (hm : m_disk_Disk_Append_v3 N a0 a1 l2 = some ()) : Spec Try.prog 11 [.pointer (some ⟨qg0, 0, none⟩), .string a1, .slice qp1 l2.length qc2] [.sli 1 R_u8 qp1 qc2 l2] [.blk qg0 [.int .i64 a0, .map none] 59] (fun v Φr Hr => v = .int .i64 1 ∧ Φr = [] ∧ Hr = [.blk qg0 [.int .i64 a0, .map none] 59]) := by
 unfold m_disk_Disk_Append_v3 at hm
 refine spec_of Try.func11 rfl Try.ntmps11 rfl (S := [_,_,_]) rfl (fun C => ?_)
 refine wc_seq ?_
 refine wc_region ?_
 refine wl_pure rfl rfl rfl (freshS_eq rfl) rfl ?_
 refine wl_nil ?_
 refine we_then ?_
 refine wc_keep [0, 1, 2] (S' := [_,_,_]) rfl ?_
 refine wc_seq ?_
 refine wc_seq ?_
 refine wc_region ?_
 refine wl_pure rfl rfl rfl (freshS_eq rfl) rfl ?_
 obtain ⟨_, hc11, hm⟩ := bindO_some hm
 try dsimp only at hm
 refine wl_call [0] [] rfl rfl rfl (freshS_eq rfl) rfl rfl fn_35 rfl (w_disk_Disk_is_v3_s N qg0 a0 hc11) (fun _ _ hφ => ask [] rfl hφ) rfl (H' := []) rfl ?_
 rintro _ _ _ ⟨rfl, rfl, rfl⟩
 refine wl_pure rfl rfl rfl (freshS_eq rfl) rfl ?_
 refine wl_nil ?_
 refine we_then ?_
 refine wc_keep [7, 0, 1, 2] (S' := [_,_,_,_]) rfl ?_
 refine wc_seq ?_
 refine wc_region ?_
 refine wl_pure rfl rfl rfl (freshS_eq rfl) rfl ?_
 refine wl_pure rfl rfl rfl (freshS_eq rfl) rfl ?_
 refine wl_as (d := 13) (v' := .bool true) (S' := [_,_,_,_,_]) rfl rfl rfl ?_
 refine wl_nil ?_
 refine we_then ?_
 refine wc_keep [13, 7, 0, 1, 2] (S' := [_,_,_,_,_]) rfl ?_
 refine wc_true rfl ?_
 refine wc_keep [7] (S' := [_]) rfl ?_
 refine wc_seq ?_
 refine wc_region ?_
 refine wl_pure rfl rfl rfl (freshS_eq rfl) rfl ?_
 refine wl_pure rfl rfl rfl (freshS_eq rfl) rfl ?_
 refine wl_nil ?_
 refine we_then ?_
 refine wc_keep [6] (S' := [_]) rfl ?_
 refine wc_ret ?_
 refine we_then_ret ?_
 have hE := (Option.some.inj hm).symm
 refine ret_one (Hr := [_]) [0] Try.results11 (res_tmp rfl) ⟨rfl, rfl, rfl⟩ (fun _ _ hφ => ask [] rfl hφ) rfl rfl (.inl rfl)
set_option maxRecDepth 100000 in
set_option maxHeartbeats 4000000 in
theorem w_disk_Disk_turn_v8_s (N : Nat) (qg0 : Nat) (a0 : Int) (a1 : ByteArray)  (hm : m_disk_Disk_turn_v8 N a0 a1 = some ()) : Spec Try.prog 41 [.pointer (some ⟨qg0, 0, none⟩), .string a1, .func (.func 42) #[] #[]] [] [.blk qg0 [.int .i64 a0, .map none] 59] (fun v Φr Hr => v = .int .i64 1 ∧ Φr = [] ∧ Hr = [.blk qg0 [.int .i64 a0, .map none] 59]) := by
 unfold m_disk_Disk_turn_v8 at hm
 refine spec_of Try.func41 rfl Try.ntmps41 rfl (S := [_,_,_]) rfl (fun C => ?_)
 refine wc_seq ?_
 refine wc_region ?_
 refine wl_pure rfl rfl rfl (freshS_eq rfl) rfl ?_
 refine wl_nil ?_
 refine we_then ?_
 refine wc_keep [0, 1, 2] (S' := [_,_,_]) rfl ?_
 refine wc_seq ?_
 refine wc_seq ?_
 refine wc_region ?_
 refine wl_pure rfl rfl rfl (freshS_eq rfl) rfl ?_
 obtain ⟨_, hc13, hm⟩ := bindO_some hm
 try dsimp only at hm
 refine wl_call [0] [] rfl rfl rfl (freshS_eq rfl) rfl rfl fn_35 rfl (w_disk_Disk_is_v3_s N qg0 a0 hc13) (fun _ _ hφ => ask [] rfl hφ) rfl (H' := []) rfl ?_
 rintro _ _ _ ⟨rfl, rfl, rfl⟩
 refine wl_pure rfl rfl rfl (freshS_eq rfl) rfl ?_
 refine wl_nil ?_
 refine we_then ?_
 refine wc_keep [7, 0, 1, 2] (S' := [_,_,_,_]) rfl ?_
 refine wc_seq ?_
 refine wc_region ?_
 refine wl_pure rfl rfl rfl (freshS_eq rfl) rfl ?_
 refine wl_pure rfl rfl rfl (freshS_eq rfl) rfl ?_
 refine wl_as (d := 15) (v' := .bool true) (S' := [_,_,_,_,_]) rfl rfl rfl ?_
 refine wl_nil ?_
 refine we_then ?_
 refine wc_keep [15, 7, 0, 1, 2] (S' := [_,_,_,_,_]) rfl ?_
 refine wc_true rfl ?_
 refine wc_keep [7] (S' := [_]) rfl ?_
 refine wc_seq ?_
 refine wc_region ?_
 refine wl_pure rfl rfl rfl (freshS_eq rfl) rfl ?_
 refine wl_pure rfl rfl rfl (freshS_eq rfl) rfl ?_
 refine wl_nil ?_
 refine we_then ?_
 refine wc_keep [6] (S' := [_]) rfl ?_
 refine wc_ret ?_
 refine we_then_ret ?_
 have hE := (Option.some.inj hm).symm
 refine ret_one (Hr := [_]) [0] Try.results41 (res_tmp rfl) ⟨rfl, rfl, rfl⟩ (fun _ _ hφ => ask [] rfl hφ) rfl rfl (.inl rfl)
set_option maxRecDepth 100000 in
set_option maxHeartbeats 4000000 in
theorem w_disk_Disk_Sync_v3_s (N : Nat) (qg0 : Nat) (a0 : Int) (a1 : ByteArray)  (hm : m_disk_Disk_Sync_v3 N a0 a1 = some ()) : Spec Try.prog 12 [.pointer (some ⟨qg0, 0, none⟩), .string a1] [] [.blk qg0 [.int .i64 a0, .map none] 59] (fun v Φr Hr => v = .int .i64 1 ∧ Φr = [] ∧ Hr = [.blk qg0 [.int .i64 a0, .map none] 59]) := by
 unfold m_disk_Disk_Sync_v3 at hm
 refine spec_of Try.func12 rfl Try.ntmps12 rfl (S := [_,_]) rfl (fun C => ?_)
 refine wc_seq ?_
 refine wc_region ?_
 refine wl_pure rfl rfl rfl (freshS_eq rfl) rfl ?_
 refine wl_nil ?_
 refine we_then ?_
 refine wc_keep [0, 1] (S' := [_,_]) rfl ?_
 refine wc_seq ?_
 refine wc_region ?_
 refine wl_pure rfl rfl rfl (freshS_eq rfl) rfl ?_
 refine wl_pure rfl rfl rfl (freshS_eq rfl) rfl ?_
 obtain ⟨_, hc7, hm⟩ := bindO_some hm
 try dsimp only at hm
 refine wl_call [0] [] rfl rfl rfl (freshS_eq rfl) rfl rfl fn_41 rfl (w_disk_Disk_turn_v8_s N qg0 a0 a1 hc7) (fun _ _ hφ => ask [] rfl hφ) rfl (H' := []) rfl ?_
 rintro _ _ _ ⟨rfl, rfl, rfl⟩
 refine wl_pure rfl rfl rfl (freshS_eq rfl) rfl ?_
 refine wl_nil ?_
 refine we_then ?_
 refine wc_keep [4] (S' := [_]) rfl ?_
 refine wc_ret ?_
 have hE := (Option.some.inj hm).symm
 refine ret_one (Hr := [_]) [0] Try.results12 (res_tmp rfl) ⟨rfl, rfl, rfl⟩ (fun _ _ hφ => ask [] rfl hφ) rfl rfl (.inl rfl)
set_option maxRecDepth 100000 in
set_option maxHeartbeats 4000000 in
theorem w_disk_Disk_turn_v9_s (N : Nat) (qg0 : Nat) (a0 : Int) (a1 : ByteArray) (qg1 : Nat) (a2 : Int)  (hm : m_disk_Disk_turn_v9 N a0 a1 a2 = some ()) : Spec Try.prog 41 [.pointer (some ⟨qg0, 0, none⟩), .string a1, .func (.func 59) #[] #[.pointer (some ⟨qg1, 0, none⟩)]] [] [.blk qg0 [.int .i64 a0, .map none] 59, .blk qg1 [.int .i64 a2] 3] (fun v Φr Hr => v = .int .i64 1 ∧ Φr = [] ∧ Hr = [.blk qg0 [.int .i64 a0, .map none] 59, .blk qg1 [.int .i64 a2] 3]) := by
 unfold m_disk_Disk_turn_v9 at hm
 refine spec_of Try.func41 rfl Try.ntmps41 rfl (S := [_,_,_]) rfl (fun C => ?_)
 refine wc_seq ?_
 refine wc_region ?_
 refine wl_pure rfl rfl rfl (freshS_eq rfl) rfl ?_
 refine wl_nil ?_
 refine we_then ?_
 refine wc_keep [0, 1, 2] (S' := [_,_,_]) rfl ?_
 refine wc_seq ?_
 refine wc_seq ?_
 refine wc_region ?_
 refine wl_pure rfl rfl rfl (freshS_eq rfl) rfl ?_
 obtain ⟨_, hc13, hm⟩ := bindO_some hm
 try dsimp only at hm
 refine wl_call [0] [1] rfl rfl rfl (freshS_eq rfl) rfl rfl fn_35 rfl (w_disk_Disk_is_v3_s N qg0 a0 hc13) (fun _ _ hφ => ask [] rfl hφ) rfl (H' := [_]) rfl ?_
 rintro _ _ _ ⟨rfl, rfl, rfl⟩
 refine wl_pure rfl rfl rfl (freshS_eq rfl) rfl ?_
 refine wl_nil ?_
 refine we_then ?_
 refine wc_keep [7, 0, 1, 2] (S' := [_,_,_,_]) rfl ?_
 refine wc_seq ?_
 refine wc_region ?_
 refine wl_pure rfl rfl rfl (freshS_eq rfl) rfl ?_
 refine wl_pure rfl rfl rfl (freshS_eq rfl) rfl ?_
 refine wl_as (d := 15) (v' := .bool true) (S' := [_,_,_,_,_]) rfl rfl rfl ?_
 refine wl_nil ?_
 refine we_then ?_
 refine wc_keep [15, 7, 0, 1, 2] (S' := [_,_,_,_,_]) rfl ?_
 refine wc_true rfl ?_
 refine wc_keep [7] (S' := [_]) rfl ?_
 refine wc_seq ?_
 refine wc_region ?_
 refine wl_pure rfl rfl rfl (freshS_eq rfl) rfl ?_
 refine wl_pure rfl rfl rfl (freshS_eq rfl) rfl ?_
 refine wl_nil ?_
 refine we_then ?_
 refine wc_keep [6] (S' := [_]) rfl ?_
 refine wc_ret ?_
 refine we_then_ret ?_
 have hE := (Option.some.inj hm).symm
 refine ret_one (Hr := [_, _]) [0, 1] Try.results41 (res_tmp rfl) ⟨rfl, rfl, rfl⟩ (fun _ _ hφ => ask [] rfl hφ) rfl rfl (.inl rfl)
set_option maxRecDepth 100000 in
set_option maxHeartbeats 4000000 in
theorem w_disk_Disk_Cut_v2_s (N : Nat) (qg0 : Nat) (a0 : Int) (a1 : ByteArray) (a2 : Int)  (hm : m_disk_Disk_Cut_v2 N a0 a1 a2 = some ()) : Spec Try.prog 30 [.pointer (some ⟨qg0, 0, none⟩), .string a1, .int .i64 a2] [] [.blk qg0 [.int .i64 a0, .map none] 59] (fun v Φr Hr => v = .int .i64 1 ∧ Φr = [] ∧ Hr = [.blk qg0 [.int .i64 a0, .map none] 59]) := by
 unfold m_disk_Disk_Cut_v2 at hm
 refine spec_of Try.func30 rfl Try.ntmps30 rfl (S := [_,_,_]) rfl (fun C => ?_)
 refine wc_seq ?_
 refine wc_region ?_
 refine wl_box rfl rfl rfl (freshS_eq rfl) rfl rfl rfl (fun g5 => ?_)
 refine wl_pure rfl rfl rfl (freshS_eq rfl) rfl ?_
 refine wl_nil ?_
 refine we_then ?_
 refine wc_keep [5, 0, 1] (S' := [_,_,_]) rfl ?_
 refine wc_seq ?_
 refine wc_region ?_
 refine wl_pure rfl rfl rfl (freshS_eq rfl) rfl ?_
 refine wl_pure rfl rfl rfl (freshS_eq rfl) rfl ?_
 refine wl_makeFunc rfl rfl rfl (freshS_eq rfl) rfl rfl ?_
 obtain ⟨_, hc10, hm⟩ := bindO_some hm
 try dsimp only at hm
 refine wl_call [1, 0] [] rfl rfl rfl (freshS_eq rfl) rfl rfl fn_41 rfl (w_disk_Disk_turn_v9_s N qg0 a0 a1 g5 a2 hc10) (fun _ _ hφ => ask [] rfl hφ) rfl (H' := []) rfl ?_
 rintro _ _ _ ⟨rfl, rfl, rfl⟩
 refine wl_pure rfl rfl rfl (freshS_eq rfl) rfl ?_
 refine wl_nil ?_
 refine we_then ?_
 refine wc_keep [6] (S' := [_]) rfl ?_
 refine wc_ret ?_
 have hE := (Option.some.inj hm).symm
 refine ret_one (Hr := [_]) [0] Try.results30 (res_tmp rfl) ⟨rfl, rfl, rfl⟩ (fun _ _ hφ => ask [] rfl hφ) rfl rfl (.inl rfl)
set_option maxRecDepth 100000 in
set_option maxHeartbeats 4000000 in
theorem w_disk_Disk_turn_v10_s (N : Nat) (qg0 : Nat) (a0 : Int) (a1 : ByteArray) (qg1 : Nat) (qg2 : Nat) (a2 : ByteArray)  (hm : m_disk_Disk_turn_v10 N a0 a1 a2 = some ()) : Spec Try.prog 41 [.pointer (some ⟨qg0, 0, none⟩), .string a1, .func (.func 58) #[] #[.pointer (some ⟨qg1, 0, none⟩), .pointer (some ⟨qg2, 0, none⟩)]] [] [.blk qg0 [.int .i64 a0, .map none] 59, .blk qg1 [.pointer (some ⟨qg0, 0, none⟩)] 24, .blk qg2 [.string a2] 9] (fun v Φr Hr => v = .int .i64 1 ∧ Φr = [] ∧ Hr = [.blk qg0 [.int .i64 a0, .map none] 59, .blk qg1 [.pointer (some ⟨qg0, 0, none⟩)] 24, .blk qg2 [.string a2] 9]) := by
 unfold m_disk_Disk_turn_v10 at hm
 refine spec_of Try.func41 rfl Try.ntmps41 rfl (S := [_,_,_]) rfl (fun C => ?_)
 refine wc_seq ?_
 refine wc_region ?_
 refine wl_pure rfl rfl rfl (freshS_eq rfl) rfl ?_
 refine wl_nil ?_
 refine we_then ?_
 refine wc_keep [0, 1, 2] (S' := [_,_,_]) rfl ?_
 refine wc_seq ?_
 refine wc_seq ?_
 refine wc_region ?_
 refine wl_pure rfl rfl rfl (freshS_eq rfl) rfl ?_
 obtain ⟨_, hc13, hm⟩ := bindO_some hm
 try dsimp only at hm
 refine wl_call [0] [1, 2] rfl rfl rfl (freshS_eq rfl) rfl rfl fn_35 rfl (w_disk_Disk_is_v3_s N qg0 a0 hc13) (fun _ _ hφ => ask [] rfl hφ) rfl (H' := [_,_]) rfl ?_
 rintro _ _ _ ⟨rfl, rfl, rfl⟩
 refine wl_pure rfl rfl rfl (freshS_eq rfl) rfl ?_
 refine wl_nil ?_
 refine we_then ?_
 refine wc_keep [7, 0, 1, 2] (S' := [_,_,_,_]) rfl ?_
 refine wc_seq ?_
 refine wc_region ?_
 refine wl_pure rfl rfl rfl (freshS_eq rfl) rfl ?_
 refine wl_pure rfl rfl rfl (freshS_eq rfl) rfl ?_
 refine wl_as (d := 15) (v' := .bool true) (S' := [_,_,_,_,_]) rfl rfl rfl ?_
 refine wl_nil ?_
 refine we_then ?_
 refine wc_keep [15, 7, 0, 1, 2] (S' := [_,_,_,_,_]) rfl ?_
 refine wc_true rfl ?_
 refine wc_keep [7] (S' := [_]) rfl ?_
 refine wc_seq ?_
 refine wc_region ?_
 refine wl_pure rfl rfl rfl (freshS_eq rfl) rfl ?_
 refine wl_pure rfl rfl rfl (freshS_eq rfl) rfl ?_
 refine wl_nil ?_
 refine we_then ?_
 refine wc_keep [6] (S' := [_]) rfl ?_
 refine wc_ret ?_
 refine we_then_ret ?_
 have hE := (Option.some.inj hm).symm
 refine ret_one (Hr := [_, _, _]) [0, 1, 2] Try.results41 (res_tmp rfl) ⟨rfl, rfl, rfl⟩ (fun _ _ hφ => ask [] rfl hφ) rfl rfl (.inl rfl)
set_option maxRecDepth 100000 in
set_option maxHeartbeats 4000000 in
theorem w_disk_Disk_Rename_v2_s (N : Nat) (qg0 : Nat) (a0 : Int) (a1 : ByteArray) (a2 : ByteArray)  (hm : m_disk_Disk_Rename_v2 N a0 a1 a2 = some ()) : Spec Try.prog 29 [.pointer (some ⟨qg0, 0, none⟩), .string a1, .string a2] [] [.blk qg0 [.int .i64 a0, .map none] 59] (fun v Φr Hr => v = .int .i64 1 ∧ Φr = [] ∧ Hr = [.blk qg0 [.int .i64 a0, .map none] 59]) := by
 unfold m_disk_Disk_Rename_v2 at hm
 refine spec_of Try.func29 rfl Try.ntmps29 rfl (S := [_,_,_]) rfl (fun C => ?_)
 refine wc_seq ?_
 refine wc_region ?_
 refine wl_box rfl rfl rfl (freshS_eq rfl) rfl rfl rfl (fun g3 => ?_)
 refine wl_box rfl rfl rfl (freshS_eq rfl) rfl rfl rfl (fun g5 => ?_)
 refine wl_pure rfl rfl rfl (freshS_eq rfl) rfl ?_
 refine wl_nil ?_
 refine we_then ?_
 refine wc_keep [5, 3, 1] (S' := [_,_,_]) rfl ?_
 refine wc_seq ?_
 refine wc_seq ?_
 refine wc_region ?_
 refine wl_loadH 1 0 rfl rfl rfl (freshS_eq rfl) rfl rfl rfl (cs := [_]) rfl tS_24 tA_24 rfl rfl ?_
 obtain ⟨_, hc9, hm⟩ := bindO_some hm
 try dsimp only at hm
 refine wl_call [2] [0, 1] rfl rfl rfl (freshS_eq rfl) rfl rfl fn_35 rfl (w_disk_Disk_is_v3_s N qg0 a0 hc9) (fun _ _ hφ => ask [] rfl hφ) rfl (H' := [_,_]) rfl ?_
 rintro _ _ _ ⟨rfl, rfl, rfl⟩
 refine wl_pure rfl rfl rfl (freshS_eq rfl) rfl ?_
 refine wl_as (d := 10) (v' := .bool false) (S' := [_,_,_,_,_]) rfl rfl rfl ?_
 refine wl_pure rfl rfl rfl (freshS_eq rfl) rfl ?_
 refine wl_off rfl rfl rfl (freshS_eq rfl) ?_
 refine wl_off rfl rfl rfl (freshS_eq rfl) ?_
 refine wl_off rfl rfl rfl (freshS_eq rfl) ?_
 refine wl_off rfl rfl rfl (freshS_eq rfl) ?_
 refine wl_off rfl rfl rfl (freshS_eq rfl) ?_
 refine wl_pure rfl rfl rfl (freshS_eq rfl) rfl ?_
 refine wl_nil ?_
 refine we_then ?_
 refine wc_keep [17, 5, 3, 1] (S' := [_,_,_,_]) rfl ?_
 refine wc_false rfl ?_
 refine wc_keep [5, 3, 1] (S' := [_,_,_]) rfl ?_
 refine wc_skip ?_
 refine we_then ?_
 refine wc_seq ?_
 refine wc_region ?_
 refine wl_loadH 2 0 rfl rfl rfl (freshS_eq rfl) rfl rfl rfl (cs := [_]) rfl tS_24 tA_24 rfl rfl ?_
 refine wl_pure rfl rfl rfl (freshS_eq rfl) rfl ?_
 refine wl_makeFunc rfl rfl rfl (freshS_eq rfl) rfl rfl ?_
 obtain ⟨_, hc21, hm⟩ := bindO_some hm
 try dsimp only at hm
 refine wl_call [0, 2, 1] [] rfl rfl rfl (freshS_eq rfl) rfl rfl fn_41 rfl (w_disk_Disk_turn_v10_s N qg0 a0 a1 g3 g5 a2 hc21) (fun _ _ hφ => ask [] rfl hφ) rfl (H' := []) rfl ?_
 rintro _ _ _ ⟨rfl, rfl, rfl⟩
 refine wl_pure rfl rfl rfl (freshS_eq rfl) rfl ?_
 refine wl_nil ?_
 refine we_then ?_
 refine wc_keep [7, 5, 3, 1] (S' := [_,_,_,_]) rfl ?_
 refine wc_seq ?_
 refine wc_seq ?_
 refine wc_region ?_
 refine wl_pure rfl rfl rfl (freshS_eq rfl) rfl ?_
 refine wl_pure rfl rfl rfl (freshS_eq rfl) rfl ?_
 refine wl_as (d := 23) (v' := .bool false) (S' := [_,_,_,_,_]) rfl rfl rfl ?_
 refine wl_pure rfl rfl rfl (freshS_eq rfl) rfl ?_
 refine wl_off rfl rfl rfl (freshS_eq rfl) ?_
 refine wl_off rfl rfl rfl (freshS_eq rfl) ?_
 refine wl_off rfl rfl rfl (freshS_eq rfl) ?_
 refine wl_pure rfl rfl rfl (freshS_eq rfl) rfl ?_
 refine wl_nil ?_
 refine we_then ?_
 refine wc_keep [28, 7, 3, 1] (S' := [_,_,_,_]) rfl ?_
 refine wc_false rfl ?_
 refine wc_keep [7] (S' := [_]) rfl ?_
 refine wc_skip ?_
 refine we_then ?_
 refine wc_seq ?_
 refine wc_region ?_
 refine wl_pure rfl rfl rfl (freshS_eq rfl) rfl ?_
 refine wl_pure rfl rfl rfl (freshS_eq rfl) rfl ?_
 refine wl_nil ?_
 refine we_then ?_
 refine wc_keep [6] (S' := [_]) rfl ?_
 refine wc_ret ?_
 have hE := (Option.some.inj hm).symm
 refine ret_one (Hr := [_]) [0] Try.results29 (res_tmp rfl) ⟨rfl, rfl, rfl⟩ (fun _ _ hφ => ask [] rfl hφ) rfl rfl (.inl rfl)
set_option maxRecDepth 100000 in
set_option maxHeartbeats 4000000 in
theorem w_disk_Disk_turn_v11_s (N : Nat) (qg0 : Nat) (a0 : Int) (a1 : ByteArray)  (hm : m_disk_Disk_turn_v8 N a0 a1 = some ()) : Spec Try.prog 41 [.pointer (some ⟨qg0, 0, none⟩), .string a1, .func (.func 60) #[] #[]] [] [.blk qg0 [.int .i64 a0, .map none] 59] (fun v Φr Hr => v = .int .i64 1 ∧ Φr = [] ∧ Hr = [.blk qg0 [.int .i64 a0, .map none] 59]) := by
 unfold m_disk_Disk_turn_v8 at hm
 refine spec_of Try.func41 rfl Try.ntmps41 rfl (S := [_,_,_]) rfl (fun C => ?_)
 refine wc_seq ?_
 refine wc_region ?_
 refine wl_pure rfl rfl rfl (freshS_eq rfl) rfl ?_
 refine wl_nil ?_
 refine we_then ?_
 refine wc_keep [0, 1, 2] (S' := [_,_,_]) rfl ?_
 refine wc_seq ?_
 refine wc_seq ?_
 refine wc_region ?_
 refine wl_pure rfl rfl rfl (freshS_eq rfl) rfl ?_
 obtain ⟨_, hc13, hm⟩ := bindO_some hm
 try dsimp only at hm
 refine wl_call [0] [] rfl rfl rfl (freshS_eq rfl) rfl rfl fn_35 rfl (w_disk_Disk_is_v3_s N qg0 a0 hc13) (fun _ _ hφ => ask [] rfl hφ) rfl (H' := []) rfl ?_
 rintro _ _ _ ⟨rfl, rfl, rfl⟩
 refine wl_pure rfl rfl rfl (freshS_eq rfl) rfl ?_
 refine wl_nil ?_
 refine we_then ?_
 refine wc_keep [7, 0, 1, 2] (S' := [_,_,_,_]) rfl ?_
 refine wc_seq ?_
 refine wc_region ?_
 refine wl_pure rfl rfl rfl (freshS_eq rfl) rfl ?_
 refine wl_pure rfl rfl rfl (freshS_eq rfl) rfl ?_
 refine wl_as (d := 15) (v' := .bool true) (S' := [_,_,_,_,_]) rfl rfl rfl ?_
 refine wl_nil ?_
 refine we_then ?_
 refine wc_keep [15, 7, 0, 1, 2] (S' := [_,_,_,_,_]) rfl ?_
 refine wc_true rfl ?_
 refine wc_keep [7] (S' := [_]) rfl ?_
 refine wc_seq ?_
 refine wc_region ?_
 refine wl_pure rfl rfl rfl (freshS_eq rfl) rfl ?_
 refine wl_pure rfl rfl rfl (freshS_eq rfl) rfl ?_
 refine wl_nil ?_
 refine we_then ?_
 refine wc_keep [6] (S' := [_]) rfl ?_
 refine wc_ret ?_
 refine we_then_ret ?_
 have hE := (Option.some.inj hm).symm
 refine ret_one (Hr := [_]) [0] Try.results41 (res_tmp rfl) ⟨rfl, rfl, rfl⟩ (fun _ _ hφ => ask [] rfl hφ) rfl rfl (.inl rfl)
set_option maxRecDepth 100000 in
set_option maxHeartbeats 4000000 in
theorem w_disk_Disk_Remove_v2_s (N : Nat) (qg0 : Nat) (a0 : Int) (a1 : ByteArray)  (hm : m_disk_Disk_Remove_v2 N a0 a1 = some ()) : Spec Try.prog 31 [.pointer (some ⟨qg0, 0, none⟩), .string a1] [] [.blk qg0 [.int .i64 a0, .map none] 59] (fun v Φr Hr => v = .int .i64 1 ∧ Φr = [] ∧ Hr = [.blk qg0 [.int .i64 a0, .map none] 59]) := by
 unfold m_disk_Disk_Remove_v2 at hm
 refine spec_of Try.func31 rfl Try.ntmps31 rfl (S := [_,_]) rfl (fun C => ?_)
 refine wc_seq ?_
 refine wc_region ?_
 refine wl_pure rfl rfl rfl (freshS_eq rfl) rfl ?_
 refine wl_nil ?_
 refine we_then ?_
 refine wc_keep [0, 1] (S' := [_,_]) rfl ?_
 refine wc_seq ?_
 refine wc_region ?_
 refine wl_pure rfl rfl rfl (freshS_eq rfl) rfl ?_
 refine wl_pure rfl rfl rfl (freshS_eq rfl) rfl ?_
 obtain ⟨_, hc8, hm⟩ := bindO_some hm
 try dsimp only at hm
 refine wl_call [0] [] rfl rfl rfl (freshS_eq rfl) rfl rfl fn_41 rfl (w_disk_Disk_turn_v11_s N qg0 a0 a1 hc8) (fun _ _ hφ => ask [] rfl hφ) rfl (H' := []) rfl ?_
 rintro _ _ _ ⟨rfl, rfl, rfl⟩
 refine wl_pure rfl rfl rfl (freshS_eq rfl) rfl ?_
 refine wl_nil ?_
 refine we_then ?_
 refine wc_keep [5, 0, 1] (S' := [_,_,_]) rfl ?_
 refine wc_seq ?_
 refine wc_seq ?_
 refine wc_region ?_
 refine wl_pure rfl rfl rfl (freshS_eq rfl) rfl ?_
 refine wl_pure rfl rfl rfl (freshS_eq rfl) rfl ?_
 refine wl_as (d := 10) (v' := .bool false) (S' := [_,_,_,_]) rfl rfl rfl ?_
 refine wl_nil ?_
 refine we_then ?_
 refine wc_keep [10, 5, 0, 1] (S' := [_,_,_,_]) rfl ?_
 refine wc_false rfl ?_
 refine wc_keep [5] (S' := [_]) rfl ?_
 refine wc_skip ?_
 refine we_then ?_
 refine wc_seq ?_
 refine wc_region ?_
 refine wl_pure rfl rfl rfl (freshS_eq rfl) rfl ?_
 refine wl_pure rfl rfl rfl (freshS_eq rfl) rfl ?_
 refine wl_nil ?_
 refine we_then ?_
 refine wc_keep [4] (S' := [_]) rfl ?_
 refine wc_ret ?_
 have hE := (Option.some.inj hm).symm
 refine ret_one (Hr := [_]) [0] Try.results31 (res_tmp rfl) ⟨rfl, rfl, rfl⟩ (fun _ _ hφ => ask [] rfl hφ) rfl rfl (.inl rfl)
set_option maxRecDepth 100000 in
set_option maxHeartbeats 4000000 in
theorem w_disk_Disk_turn_v12_s (N : Nat) (qg0 : Nat) (a0 : Int) (a1 : ByteArray) (qg1 : Nat) (qp2 : Option Addr) (qn3 : Nat) (qc4 : Nat) (l2 : List Int)  (hm : m_disk_Disk_turn_v12 N a0 a1 l2 = some ()) : Spec Try.prog 41 [.pointer (some ⟨qg0, 0, none⟩), .string a1, .func (.func 46) #[] #[.pointer (some ⟨qg1, 0, none⟩)]] [] [.blk qg0 [.int .i64 a0, .map none] 59, .blk qg1 [.slice qp2 qn3 qc4] 27, .own 5 1 R_u8 (.slice qp2 qn3 qc4) l2] (fun v Φr Hr => v = .int .i64 1 ∧ Φr = [] ∧ Hr = [.blk qg0 [.int .i64 a0, .map none] 59, .blk qg1 [.slice qp2 qn3 qc4] 27, .own 5 1 R_u8 (.slice qp2 qn3 qc4) l2]) := by
 unfold m_disk_Disk_turn_v12 at hm
 refine spec_of Try.func41 rfl Try.ntmps41 rfl (S := [_,_,_]) rfl (fun C => ?_)
 refine wc_seq ?_
 refine wc_region ?_
 refine wl_pure rfl rfl rfl (freshS_eq rfl) rfl ?_
 refine wl_nil ?_
 refine we_then ?_
 refine wc_keep [0, 1, 2] (S' := [_,_,_]) rfl ?_
 refine wc_seq ?_
 refine wc_seq ?_
 refine wc_region ?_
 refine wl_pure rfl rfl rfl (freshS_eq rfl) rfl ?_
 obtain ⟨_, hc13, hm⟩ := bindO_some hm
 try dsimp only at hm
 refine wl_call [0] [1, 2] rfl rfl rfl (freshS_eq rfl) rfl rfl fn_35 rfl (w_disk_Disk_is_v3_s N qg0 a0 hc13) (fun _ _ hφ => ask [] rfl hφ) rfl (H' := [_,_]) rfl ?_
 rintro _ _ _ ⟨rfl, rfl, rfl⟩
 refine wl_pure rfl rfl rfl (freshS_eq rfl) rfl ?_
 refine wl_nil ?_
 refine we_then ?_
 refine wc_keep [7, 0, 1, 2] (S' := [_,_,_,_]) rfl ?_
 refine wc_seq ?_
 refine wc_region ?_
 refine wl_pure rfl rfl rfl (freshS_eq rfl) rfl ?_
 refine wl_pure rfl rfl rfl (freshS_eq rfl) rfl ?_
 refine wl_as (d := 15) (v' := .bool true) (S' := [_,_,_,_,_]) rfl rfl rfl ?_
 refine wl_nil ?_
 refine we_then ?_
 refine wc_keep [15, 7, 0, 1, 2] (S' := [_,_,_,_,_]) rfl ?_
 refine wc_true rfl ?_
 refine wc_keep [7] (S' := [_]) rfl ?_
 refine wc_seq ?_
 refine wc_region ?_
 refine wl_pure rfl rfl rfl (freshS_eq rfl) rfl ?_
 refine wl_pure rfl rfl rfl (freshS_eq rfl) rfl ?_
 refine wl_nil ?_
 refine we_then ?_
 refine wc_keep [6] (S' := [_]) rfl ?_
 refine wc_ret ?_
 refine we_then_ret ?_
 have hE := (Option.some.inj hm).symm
 refine ret_one (Hr := [_, _, _]) [0, 1, 2] Try.results41 (res_tmp rfl) ⟨rfl, rfl, rfl⟩ (fun _ _ hφ => ask [] rfl hφ) rfl rfl (.inl rfl)
set_option maxRecDepth 100000 in
set_option maxHeartbeats 4000000 in
theorem w_disk_Disk_Read_v3_s (N : Nat) (qg0 : Nat) (a0 : Int) (a1 : ByteArray)  (hm : m_disk_Disk_Read_v3 N a0 a1 = some ()) : Spec Try.prog 17 [.pointer (some ⟨qg0, 0, none⟩), .string a1] [] [.blk qg0 [.int .i64 a0, .map none] 59] (fun v Φr Hr => v = .tuple #[.slice none 0 0, .int .i64 1] ∧ Φr = [] ∧ Hr = [.own 5 1 R_u8 (.slice none 0 0) [], .blk qg0 [.int .i64 a0, .map none] 59]) := by
 unfold m_disk_Disk_Read_v3 at hm
 refine spec_of Try.func17 rfl Try.ntmps17 rfl (S := [_,_]) rfl (fun C => ?_)
 refine wc_seq ?_
 refine wc_region ?_
 refine wl_alloc rfl rfl rfl (freshS_eq rfl) rfl tZ_27 rfl (fun g4 => ?_)
 refine wl_pure rfl rfl rfl (freshS_eq rfl) rfl ?_
 refine wl_nil ?_
 refine we_then ?_
 refine wc_keep [4, 0, 1] (S' := [_,_,_]) rfl ?_
 refine wc_seq ?_
 refine wc_region ?_
 refine wl_pure rfl rfl rfl (freshS_eq rfl) rfl ?_
 refine wl_pure rfl rfl rfl (freshS_eq rfl) rfl ?_
 refine wl_makeFunc rfl rfl rfl (freshS_eq rfl) rfl rfl ?_
 refine wl_rowNil 5 1 R_u8 ?_
 obtain ⟨_, hc9, hm⟩ := bindO_some hm
 try dsimp only at hm
 refine wl_call [2, 1, 0] [] rfl rfl rfl (freshS_eq rfl) rfl rfl fn_41 rfl (w_disk_Disk_turn_v12_s N qg0 a0 a1 g4 none 0 0 [] hc9) (fun _ _ hφ => ask [] rfl hφ) rfl (H' := []) rfl ?_
 rintro _ _ _ ⟨rfl, rfl, rfl⟩
 refine wl_pure rfl rfl rfl (freshS_eq rfl) rfl ?_
 refine wl_nil ?_
 refine we_then ?_
 refine wc_keep [5, 4] (S' := [_,_]) rfl ?_
 refine wc_seq ?_
 refine wc_region ?_
 refine wl_loadH 1 0 rfl rfl rfl (freshS_eq rfl) rfl rfl rfl (cs := [_]) rfl tS_27 tA_27 rfl rfl ?_
 refine wl_pure rfl rfl rfl (freshS_eq rfl) rfl ?_
 refine wl_store 1 0 rfl rfl rfl rfl rfl rfl rfl tS_27 rfl rfl rfl (all' := [_]) rfl (H' := [_,_,_]) rfl ?_
 refine wl_pure (S' := [_,_,_]) rfl rfl rfl rfl rfl ?_
 refine wl_nil ?_
 refine we_then ?_
 refine wc_keep [5, 4] (S' := [_,_]) rfl ?_
 refine wc_ret ?_
 have hE := (Option.some.inj hm).symm
 refine ret_two (Hr := [_, _]) [2, 0] Try.results17 (res_cell 1 rfl rfl tS_27 tA_27 rfl rfl) (res_tmp rfl) ⟨rfl, rfl, rfl⟩ (fun _ _ hφ => ask [] rfl hφ) rfl rfl (.inl rfl)
set_option maxRecDepth 100000 in
set_option maxHeartbeats 4000000 in
theorem w_disk_Disk_List_v3_s (N : Nat) (qg0 : Nat) (a0 : Int)  (hm : m_disk_Disk_List_v3 N a0 = some ()) : Spec Try.prog 15 [.pointer (some ⟨qg0, 0, none⟩)] [] [.blk qg0 [.int .i64 a0, .map none] 59] (fun v Φr Hr => v = .slice none 0 0 ∧ Φr = [] ∧ Hr = [.blk qg0 [.int .i64 a0, .map none] 59]) := by
 unfold m_disk_Disk_List_v3 at hm
 refine spec_of Try.func15 rfl Try.ntmps15 rfl (S := [_]) rfl (fun C => ?_)
 refine wc_seq ?_
 refine wc_region ?_
 refine wl_pure rfl rfl rfl (freshS_eq rfl) rfl ?_
 refine wl_nil ?_
 refine we_then ?_
 refine wc_keep [0] (S' := [_]) rfl ?_
 refine wc_seq ?_
 refine wc_seq ?_
 refine wc_region ?_
 refine wl_pure rfl rfl rfl (freshS_eq rfl) rfl ?_
 obtain ⟨_, hc4, hm⟩ := bindO_some hm
 try dsimp only at hm
 refine wl_call [0] [] rfl rfl rfl (freshS_eq rfl) rfl rfl fn_35 rfl (w_disk_Disk_is_v3_s N qg0 a0 hc4) (fun _ _ hφ => ask [] rfl hφ) rfl (H' := []) rfl ?_
 rintro _ _ _ ⟨rfl, rfl, rfl⟩
 refine wl_pure rfl rfl rfl (freshS_eq rfl) rfl ?_
 refine wl_as (d := 5) (v' := .bool true) (S' := [_,_,_]) rfl rfl rfl ?_
 refine wl_pure rfl rfl rfl (freshS_eq rfl) rfl ?_
 refine wl_off rfl rfl rfl (freshS_eq rfl) ?_
 refine wl_off rfl rfl rfl (freshS_eq rfl) ?_
 refine wl_off rfl rfl rfl (freshS_eq rfl) ?_
 refine wl_off rfl rfl rfl (freshS_eq rfl) ?_
 refine wl_off rfl rfl rfl (freshS_eq rfl) ?_
 refine wl_off rfl rfl rfl (freshS_eq rfl) ?_
 refine wl_pure rfl rfl rfl (freshS_eq rfl) rfl ?_
 refine wl_nil ?_
 refine we_then ?_
 refine wc_keep [13, 0] (S' := [_,_]) rfl ?_
 refine wc_true rfl ?_
 refine wc_keep [] (S' := []) rfl ?_
 refine wc_seq ?_
 refine wc_region ?_
 refine wl_pure rfl rfl rfl (freshS_eq rfl) rfl ?_
 refine wl_nil ?_
 refine we_then ?_
 refine wc_ret ?_
 refine we_then_ret ?_
 have hE := (Option.some.inj hm).symm
 refine ret_one (Hr := [_]) [0] Try.results15 (res_tmp rfl) ⟨rfl, rfl, rfl⟩ (fun _ _ hφ => ask [] rfl hφ) rfl rfl (.inl rfl)
set_option maxRecDepth 100000 in
set_option maxHeartbeats 4000000 in
theorem w_disk_Disk_Used_v3_s (N : Nat) (qg0 : Nat) (a0 : Int)  (hm : m_disk_Disk_Used_v3 N a0 = some ()) : Spec Try.prog 19 [.pointer (some ⟨qg0, 0, none⟩)] [] [.blk qg0 [.int .i64 a0, .map none] 59] (fun v Φr Hr => v = .int .i64 0 ∧ Φr = [] ∧ Hr = [.blk qg0 [.int .i64 a0, .map none] 59]) := by
 unfold m_disk_Disk_Used_v3 at hm
 refine spec_of Try.func19 rfl Try.ntmps19 rfl (S := [_]) rfl (fun C => ?_)
 refine wc_seq ?_
 refine wc_region ?_
 refine wl_pure rfl rfl rfl (freshS_eq rfl) rfl ?_
 refine wl_nil ?_
 refine we_then ?_
 refine wc_seq ?_
 refine wc_seq ?_
 refine wc_region ?_
 refine wl_pure rfl rfl rfl (freshS_eq rfl) rfl ?_
 obtain ⟨_, hc6, hm⟩ := bindO_some hm
 try dsimp only at hm
 refine wl_call [0] [] rfl rfl rfl (freshS_eq rfl) rfl rfl fn_35 rfl (w_disk_Disk_is_v3_s N qg0 a0 hc6) (fun _ _ hφ => ask [] rfl hφ) rfl (H' := []) rfl ?_
 rintro _ _ _ ⟨rfl, rfl, rfl⟩
 refine wl_pure rfl rfl rfl (freshS_eq rfl) rfl ?_
 refine wl_as (d := 7) (v' := .bool true) (S' := [_,_,_,_]) rfl rfl rfl ?_
 refine wl_nil ?_
 refine we_then ?_
 refine wc_keep [7, 2, 0] (S' := [_,_,_]) rfl ?_
 refine wc_true rfl ?_
 refine wc_keep [] (S' := []) rfl ?_
 refine wc_seq ?_
 refine wc_region ?_
 refine wl_pure rfl rfl rfl (freshS_eq rfl) rfl ?_
 refine wl_nil ?_
 refine we_then ?_
 refine wc_ret ?_
 refine we_then_ret ?_
 have hE := (Option.some.inj hm).symm
 refine ret_one (Hr := [_]) [0] Try.results19 (res_tmp rfl) ⟨rfl, rfl, rfl⟩ (fun _ _ hφ => ask [] rfl hφ) rfl rfl (.inl rfl)
set_option maxRecDepth 100000 in
set_option maxHeartbeats 4000000 in
theorem w_disk_Disk_Copy_v2_s (N : Nat) (qg0 : Nat) (a0 : Int)  (hm : m_disk_Disk_Copy_v2 N a0 = some ()) : Spec Try.prog 24 [.pointer (some ⟨qg0, 0, none⟩)] [] [.blk qg0 [.int .i64 a0, .map none] 59] (fun v Φr Hr => v = .pointer none ∧ Φr = [] ∧ Hr = [.blk qg0 [.int .i64 a0, .map none] 59]) := by
 unfold m_disk_Disk_Copy_v2 at hm
 refine spec_of Try.func24 rfl Try.ntmps24 rfl (S := [_]) rfl (fun C => ?_)
 refine wc_seq ?_
 refine wc_region ?_
 refine wl_pure rfl rfl rfl (freshS_eq rfl) rfl ?_
 refine wl_nil ?_
 refine we_then ?_
 refine wc_keep [0] (S' := [_]) rfl ?_
 refine wc_seq ?_
 refine wc_seq ?_
 refine wc_region ?_
 refine wl_pure rfl rfl rfl (freshS_eq rfl) rfl ?_
 obtain ⟨_, hc7, hm⟩ := bindO_some hm
 try dsimp only at hm
 refine wl_call [0] [] rfl rfl rfl (freshS_eq rfl) rfl rfl fn_35 rfl (w_disk_Disk_is_v3_s N qg0 a0 hc7) (fun _ _ hφ => ask [] rfl hφ) rfl (H' := []) rfl ?_
 rintro _ _ _ ⟨rfl, rfl, rfl⟩
 refine wl_pure rfl rfl rfl (freshS_eq rfl) rfl ?_
 refine wl_as (d := 8) (v' := .bool true) (S' := [_,_,_]) rfl rfl rfl ?_
 refine wl_nil ?_
 refine we_then ?_
 refine wc_keep [8, 0] (S' := [_,_]) rfl ?_
 refine wc_true rfl ?_
 refine wc_keep [] (S' := []) rfl ?_
 refine wc_seq ?_
 refine wc_region ?_
 refine wl_pure rfl rfl rfl (freshS_eq rfl) rfl ?_
 refine wl_nil ?_
 refine we_then ?_
 refine wc_ret ?_
 refine we_then_ret ?_
 have hE := (Option.some.inj hm).symm
 refine ret_one (Hr := [_]) [0] Try.results24 (res_tmp rfl) ⟨rfl, rfl, rfl⟩ (fun _ _ hφ => ask [] rfl hφ) rfl rfl (.inl rfl)
set_option maxRecDepth 100000 in
set_option maxHeartbeats 4000000 in
theorem w_ropewalklaw17_silent_v2_s (N : Nat) (qg0 : Nat) (a0 : Int) (a1 : Int) (o0 : Bool) (hm : m_ropewalklaw17_silent_v2 N a0 a1 = some o0) : Spec Try.prog 28 [.pointer (some ⟨qg0, 0, none⟩), .int .i64 a1] [] [.blk qg0 [.int .i64 a0, .map none] 59] (fun v Φr Hr => v = .bool o0 ∧ Φr = [] ∧ Hr = [.blk qg0 [.int .i64 a0, .map none] 59]) := by
 unfold m_ropewalklaw17_silent_v2 at hm
 refine spec_of Try.func28 rfl Try.ntmps28 rfl (S := [_,_]) rfl (fun C => ?_)
 refine wc_seq ?_
 refine wc_region ?_
 refine wl_pure rfl rfl rfl (freshS_eq rfl) rfl ?_
 refine wl_nil ?_
 refine we_then ?_
 refine wc_keep [0, 1] (S' := [_,_]) rfl ?_
 refine wc_seq ?_
 refine wc_region ?_
 refine wl_pure rfl rfl rfl (freshS_eq rfl) rfl ?_
 refine wl_pure rfl rfl rfl (freshS_eq rfl) rfl ?_
 obtain ⟨_, hc11, hm⟩ := bindO_some hm
 try dsimp only at hm
 refine wl_call [0] [] rfl rfl rfl (freshS_eq rfl) rfl rfl fn_13 rfl (w_disk_Disk_Crash_v3_s N qg0 a0 a1 hc11) (fun _ _ hφ => ask [] rfl hφ) rfl (H' := []) rfl ?_
 rintro _ _ _ ⟨rfl, rfl, rfl⟩
 refine wl_nil ?_
 refine we_then ?_
 refine wc_keep [0, 1] (S' := [_,_]) rfl ?_
 refine wc_seq ?_
 refine wc_region ?_
 refine wl_pure rfl rfl rfl (freshS_eq rfl) rfl ?_
 refine wl_fact (.sli 1 R_u8 none 0 ([] : List Int)) (fun _ _ _ => sli_none) ?_
 obtain ⟨_, hc13, hm⟩ := bindO_some hm
 try dsimp only at hm
 refine wl_call [0] [] rfl rfl rfl (freshS_eq rfl) rfl rfl fn_11 rfl (w_disk_Disk_Append_v3_s N qg0 a0 (⟨#[97]⟩ : ByteArray) none 0 ([] : List Int) hc13) (fun _ _ hφ => ask [0] rfl hφ) rfl (H' := []) rfl ?_
 rintro _ _ _ ⟨rfl, rfl, rfl⟩
 refine wl_pure rfl rfl rfl (freshS_eq rfl) rfl ?_
 obtain ⟨_, hc15, hm⟩ := bindO_some hm
 try dsimp only at hm
 refine wl_call [0] [] rfl rfl rfl (freshS_eq rfl) rfl rfl fn_12 rfl (w_disk_Disk_Sync_v3_s N qg0 a0 (⟨#[97]⟩ : ByteArray) hc15) (fun _ _ hφ => ask [] rfl hφ) rfl (H' := []) rfl ?_
 rintro _ _ _ ⟨rfl, rfl, rfl⟩
 refine wl_pure rfl rfl rfl (freshS_eq rfl) rfl ?_
 refine wl_pure rfl rfl rfl (freshS_eq rfl) rfl ?_
 obtain ⟨_, hc18, hm⟩ := bindO_some hm
 try dsimp only at hm
 refine wl_call [0] [] rfl rfl rfl (freshS_eq rfl) rfl rfl fn_30 rfl (w_disk_Disk_Cut_v2_s N qg0 a0 (⟨#[97]⟩ : ByteArray) a1 hc18) (fun _ _ hφ => ask [] rfl hφ) rfl (H' := []) rfl ?_
 rintro _ _ _ ⟨rfl, rfl, rfl⟩
 refine wl_pure rfl rfl rfl (freshS_eq rfl) rfl ?_
 obtain ⟨_, hc20, hm⟩ := bindO_some hm
 try dsimp only at hm
 refine wl_call [0] [] rfl rfl rfl (freshS_eq rfl) rfl rfl fn_29 rfl (w_disk_Disk_Rename_v2_s N qg0 a0 (⟨#[97]⟩ : ByteArray) (⟨#[98]⟩ : ByteArray) hc20) (fun _ _ hφ => ask [] rfl hφ) rfl (H' := []) rfl ?_
 rintro _ _ _ ⟨rfl, rfl, rfl⟩
 refine wl_pure rfl rfl rfl (freshS_eq rfl) rfl ?_
 obtain ⟨_, hc22, hm⟩ := bindO_some hm
 try dsimp only at hm
 refine wl_call [0] [] rfl rfl rfl (freshS_eq rfl) rfl rfl fn_31 rfl (w_disk_Disk_Remove_v2_s N qg0 a0 (⟨#[97]⟩ : ByteArray) hc22) (fun _ _ hφ => ask [] rfl hφ) rfl (H' := []) rfl ?_
 rintro _ _ _ ⟨rfl, rfl, rfl⟩
 refine wl_buildSlice rfl rfl rfl (freshS_eq rfl) rfl tE_66 tS_28 tZ_28 rfl (zs := [.int .i64 0, .int .i64 0, .int .i64 0, .int .i64 0, .int .i64 0]) (by kernel_rfl) rfl (out := [_,_,_,_,_]) rfl (fun g23 => ?_)
 refine wl_pure rfl rfl rfl (freshS_eq rfl) rfl ?_
 refine wl_nil ?_
 refine we_then ?_
 refine wc_keep [5, 0] (S' := [_,_]) rfl ?_
 refine wc_seq ?_
 refine wc_region ?_
 refine wl_pure rfl rfl rfl (freshS_eq rfl) rfl ?_
 obtain ⟨_, hc26, hm⟩ := bindO_some hm
 try dsimp only at hm
 refine wl_call [1] [0] rfl rfl rfl (freshS_eq rfl) rfl rfl fn_17 rfl (w_disk_Disk_Read_v3_s N qg0 a0 (⟨#[97]⟩ : ByteArray) hc26) (fun _ _ hφ => ask [] rfl hφ) rfl (H' := [_]) rfl ?_
 rintro _ _ _ ⟨rfl, rfl, rfl⟩
 refine wl_pure rfl rfl rfl (freshS_eq rfl) rfl ?_
 refine wl_pure rfl rfl rfl (freshS_eq rfl) rfl ?_
 refine wl_pure rfl rfl rfl (freshS_eq rfl) rfl ?_
 refine wl_pure rfl rfl rfl (freshS_eq rfl) rfl ?_
 refine wl_pure rfl rfl rfl (freshS_eq rfl) rfl ?_
 refine wl_nil ?_
 refine we_then ?_
 refine wc_keep [7, 6, 5, 0] (S' := [_,_,_,_]) rfl ?_
 refine wc_seq ?_
 refine wc_region ?_
 refine wl_pure rfl rfl rfl (freshS_eq rfl) rfl ?_
 refine wl_pure rfl rfl rfl (freshS_eq rfl) rfl ?_
 refine wl_buildSlice rfl rfl rfl (freshS_eq rfl) rfl tE_66 tS_28 tZ_28 rfl (zs := [.int .i64 0]) (by kernel_rfl) rfl (out := [_]) rfl (fun g31 => ?_)
 refine wl_row (sz := 1) (m := 5) R_i64 ([1, 1, 1, 1, 1]) 3 rfl (fun F w hφ => ⟨[.int .i64 1], [.int .i64 1, .int .i64 1, .int .i64 1, .int .i64 1], rfl, rfl, ⟨(), rfl, ask_nil⟩, ⟨[.int .i64 1], [.int .i64 1, .int .i64 1, .int .i64 1], rfl, rfl, ⟨(), rfl, ask_nil⟩, ⟨[.int .i64 1], [.int .i64 1, .int .i64 1], rfl, rfl, ⟨(), rfl, ask_nil⟩, ⟨[.int .i64 1], [.int .i64 1], rfl, rfl, ⟨(), rfl, ask_nil⟩, ⟨[.int .i64 1], [], rfl, rfl, ⟨(), rfl, ask_nil⟩, rfl⟩⟩⟩⟩⟩) rfl (by decide) (H' := [_,_,_,_]) rfl ?_
 obtain ⟨hg32, hm⟩ := gd_some hm
 refine wl_appendH [1] 3 0 rfl rfl rfl (freshS_eq rfl) rfl rfl rfl rfl rfl (fun F w hφ => ⟨[.int .i64 1], [], rfl, rfl, ⟨(), rfl, ask_nil⟩, rfl⟩) tE_66 tR_28 rfl rfl (Nat.le_trans hg32 (by decide)) (Nat.le_trans (Nat.mul_le_mul_right _ hg32) (by decide)) (H2 := fun p32 c32 => [.blk g31 [.int .i64 1] 28, .own 5 1 R_u8 (.slice none 0 0) [], .blk qg0 [.int .i64 a0, .map none] 59, .own 28 1 R_i64 (.slice p32 ((([1, 1, 1, 1, 1]) ++ [1]).length) c32) (([1, 1, 1, 1, 1]) ++ [1])]) (fun _ _ => rfl) (fun p32 c32 => ?_)
 refine wl_drop 0 rfl (H' := [_,_,_]) rfl ?_
 refine wl_pure (S' := [_,_,_,_,_,_,_]) rfl rfl rfl rfl rfl ?_
 refine wl_nil ?_
 refine we_then ?_
 refine wc_keep [5, 6, 0] (S' := [_,_,_]) rfl ?_
 refine wc_seq ?_
 obtain ⟨bj_1, hm, hLj_1⟩ := bindS_some hm
 refine wc_cut (σ := Unit) (fun _ => bj_1 = .inl ()) (fun _ => [(6, .slice none 0 0), (0, .pointer (some ⟨qg0, 0, none⟩))]) (fun _ => []) (fun _ => [.own 5 1 R_u8 (.slice none 0 0) [], .blk qg0 [.int .i64 a0, .map none] 59]) ?_ ?_
 ·
  refine wc_seq ?_
  refine wc_region ?_
  refine wl_pure rfl rfl rfl (freshS_eq rfl) rfl ?_
  refine wl_nil ?_
  refine we_then ?_
  refine wc_block ?_
  refine wc_pick [2, 0, 1] rfl (H' := [_,_,_]) rfl ?_
  refine wc_loop (σ := Nat × Nat) (fun (nu1, u1_8) => iter (m_ropewalklaw17_silent_v2_L1 N) nu1 u1_8 = some bj_1) (fun (nu1, u1_8) => nu1) (fun (nu1, u1_8) => [(8, .int .i64 ((u1_8 : Nat) : Int)), (5, .slice p32 ((([1, 1, 1, 1, 1]) ++ [1]).length) c32), (6, .slice none 0 0), (0, .pointer (some ⟨qg0, 0, none⟩))]) (fun (nu1, u1_8) => []) (fun (nu1, u1_8) => [.own 28 1 R_i64 (.slice p32 ((([1, 1, 1, 1, 1]) ++ [1]).length) c32) (([1, 1, 1, 1, 1]) ++ [1]), .own 5 1 R_u8 (.slice none 0 0) [], .blk qg0 [.int .i64 a0, .map none] 59]) (N, 0) hm [8, 5, 6, 0] rfl (fun _ _ hφ => ask [] rfl hφ) rfl (fun s_ hm => ?_)
  obtain ⟨nu1, u1_8⟩ := s_
  try dsimp only at hm ⊢
  obtain ⟨mu1, bu1, hnu1, hq, hLu1⟩ := iter_some hm
  clear hm
  subst hnu1
  replace hm := hq
  clear hq
  unfold m_ropewalklaw17_silent_v2_L1 at hm
  try dsimp only at hm
  refine wc_seq ?_
  refine wc_seq ?_
  refine wc_region ?_
  refine wl_pure rfl rfl rfl (freshS_eq rfl) rfl ?_
  refine wl_pure rfl rfl rfl (freshS_eq rfl) rfl ?_
  refine wl_len rfl rfl rfl (freshS_eq rfl) rfl rfl tE_66 ?_
  refine wl_pure rfl rfl rfl (freshS_eq rfl) rfl ?_
  refine wl_as (d := 36) (v' := .bool (decide (u1_8 < ((([1, 1, 1, 1, 1]) ++ [1]).length)))) (S' := [_,_,_,_,_,_,_]) rfl rfl (natlt (a := u1_8) (b := (([1, 1, 1, 1, 1]) ++ [1]).length)) ?_
  refine wl_nil ?_
  refine we_then ?_
  refine wc_keep [36, 8, 5, 6, 0] (S' := [_,_,_,_,_]) rfl ?_
  refine wc_cond rfl (fun hb36 => ?_) (fun hb36 => ?_)
  ·
   replace hm := iteT hm hb36
   refine wc_keep [8, 5, 6, 0] (S' := [_,_,_,_]) rfl ?_
   refine wc_skip ?_
   refine we_then ?_
   refine wc_seq ?_
   refine wc_block ?_
   refine wc_seq ?_
   refine wc_region ?_
   refine wl_pure rfl rfl rfl (freshS_eq rfl) rfl ?_
   refine wl_pure rfl rfl rfl (freshS_eq rfl) rfl ?_
   obtain ⟨x41, hx41, hm⟩ := bindO_some hm
   refine wl_indexH 0 u1_8 rfl rfl rfl (freshS_eq rfl) rfl rfl rfl rfl rfl (get_lt hx41) tE_66 tS_28 (fun g41 eg41 => ?_)
   subst eg41
   refine wl_loadRow R_i64_opens 0 u1_8 0 rfl rfl rfl (freshS_eq rfl) rfl rfl rfl hx41 tS_28 tA_28 (v := fun _ => .int .i64 x41) (fun _ => rfl) (fun _ => rfl) (fun _ _ => ?_)
   refine wl_pure rfl rfl rfl (freshS_eq rfl) rfl ?_
   refine wl_nil ?_
   refine we_then ?_
   refine wc_keep [43, 8, 5, 6, 0] (S' := [_,_,_,_,_]) rfl ?_
   refine wc_cond rfl (fun hb43 => ?_) (fun hb43 => ?_)
   ·
    replace hm := iteT hm hb43
    refine wc_keep [] (S' := []) rfl ?_
    refine wc_seq ?_
    refine wc_region ?_
    refine wl_pure rfl rfl rfl (freshS_eq rfl) rfl ?_
    refine wl_nil ?_
    refine we_then ?_
    refine wc_ret ?_
    refine we_block_ret ?_
    refine we_then_ret ?_
    refine we_then_ret ?_
    refine we_block_ret ?_
    refine we_then_ret ?_
    have hE := (Option.some.inj hm).symm
    replace hE := link_inr hLu1 hE
    replace hE := link_inr hLj_1 hE
    replace hE := hE.symm
    subst hE
    refine ret_one (Hr := [_]) [2] Try.results28 (res_tmp rfl) ⟨rfl, rfl, rfl⟩ (fun _ _ hφ => ask [] rfl hφ) rfl rfl (.inl rfl)
   ·
    replace hm := iteF hm hb43
    refine wc_keep [8, 5, 6, 0] (S' := [_,_,_,_]) rfl ?_
    refine wc_skip ?_
    refine we_block_normal ?_
    refine we_then ?_
    refine wc_region ?_
    refine wl_pure rfl rfl rfl (freshS_eq rfl) rfl ?_
    refine wl_pure rfl rfl rfl (freshS_eq rfl) rfl ?_
    obtain ⟨hg38, hm⟩ := gd_some hm
    refine wl_as (d := 38) (v' := .int .i64 ((u1_8 + 1 : Nat) : Int)) (S' := [_,_,_,_,_]) rfl rfl (nat_add (a := u1_8) (b := 1) hg38) ?_
    refine wl_pure (S' := [_,_,_,_,_]) rfl rfl rfl rfl rfl ?_
    refine wl_nil ?_
    have hE := (Option.some.inj hm).symm
    replace hE := link_inl hLu1 hE
    refine we_roundK (_, u1_8 + 1) (Nat.lt_succ_self _) hE [8, 5, 6, 0] rfl (fun _ _ hφ => ask [] rfl hφ) rfl
  ·
   replace hm := iteF hm hb36
   refine wc_keep [6, 0] (S' := [_,_]) rfl ?_
   refine wc_exit ?_
   refine we_then_exit ?_
   refine we_then_exit ?_
   refine we_block_hit ?_
   have hE := (Option.some.inj hm).symm
   replace hE := link_inr hLu1 hE
   refine we_pick [1, 2] rfl (H' := [_,_]) rfl ?_
   refine we_join () hE [6, 0] rfl (fun _ _ hφ => ask [] rfl hφ) rfl
 ·
  rintro _ hE
  try dsimp only
  have hm := link_inl hLj_1 hE
  try dsimp only at hm
  refine wc_seq ?_
  refine wc_region ?_
  refine wl_pure rfl rfl rfl (freshS_eq rfl) rfl ?_
  refine wl_ownLen 0 rfl (fun hl45 _ => ?_)
  refine wl_len rfl rfl rfl (freshS_eq rfl) rfl rfl tE_27 ?_
  refine wl_as (d := 45) (v' := .int .i64 (([].length : Nat) : Int)) (S' := [_,_,_]) rfl rfl (len_is hl45) ?_
  refine wl_pure rfl rfl rfl (freshS_eq rfl) rfl ?_
  obtain ⟨_, hc47, hm⟩ := bindO_some hm
  try dsimp only at hm
  refine wl_call [1] [0] rfl rfl rfl (freshS_eq rfl) rfl rfl fn_15 rfl (w_disk_Disk_List_v3_s N qg0 a0 hc47) (fun _ _ hφ => ask [] rfl hφ) rfl (H' := [_]) rfl ?_
  rintro _ _ _ ⟨rfl, rfl, rfl⟩
  refine wl_len rfl rfl rfl (freshS_eq rfl) rfl rfl tE_26 ?_
  refine wl_pure rfl rfl rfl (freshS_eq rfl) rfl ?_
  obtain ⟨hg49, hm⟩ := gd_some hm
  refine wl_as (d := 49) (v' := .int .i64 (([].length + 0 : Nat) : Int)) (S' := [_,_,_,_,_,_,_]) rfl rfl (nat_add (a := [].length) (b := 0) hg49) ?_
  refine wl_pure rfl rfl rfl (freshS_eq rfl) rfl ?_
  obtain ⟨_, hc51, hm⟩ := bindO_some hm
  try dsimp only at hm
  refine wl_call [0] [1] rfl rfl rfl (freshS_eq rfl) rfl rfl fn_19 rfl (w_disk_Disk_Used_v3_s N qg0 a0 hc51) (fun _ _ hφ => ask [] rfl hφ) rfl (H' := [_]) rfl ?_
  rintro _ _ _ ⟨rfl, rfl, rfl⟩
  refine wl_pure rfl rfl rfl (freshS_eq rfl) rfl ?_
  obtain ⟨hg52, hm⟩ := gd_some hm
  refine wl_as (d := 52) (v' := .int .i64 ((([].length + 0) + 0 : Nat) : Int)) (S' := [_,_,_,_,_,_,_,_,_,_]) rfl rfl (nat_add (a := [].length + 0) (b := 0) hg52) ?_
  refine wl_pure rfl rfl rfl (freshS_eq rfl) rfl ?_
  refine wl_as (d := 53) (v' := .bool ((([].length + 0) + 0) == 0)) (S' := [_,_,_,_,_,_,_,_,_,_,_]) rfl rfl (nateq (a := ([].length + 0) + 0) (b := 0)) ?_
  refine wl_pure rfl rfl rfl (freshS_eq rfl) rfl ?_
  refine wl_split (d := 54) (S' := [_,_,_,_,_,_,_,_,_,_,_,_]) rfl rfl (fun hs54 => ?_) (fun hs54 => ?_)
  ·
   replace hm := iteT hm hs54
   refine wl_pure rfl rfl rfl (freshS_eq rfl) rfl ?_
   obtain ⟨_, hc56, hm⟩ := bindO_some hm
   try dsimp only at hm
   refine wl_call [0] [1] rfl rfl rfl (freshS_eq rfl) rfl rfl fn_24 rfl (w_disk_Disk_Copy_v2_s N qg0 a0 hc56) (fun _ _ hφ => ask [] rfl hφ) rfl (H' := [_]) rfl ?_
   rintro _ _ _ ⟨rfl, rfl, rfl⟩
   refine wl_bin rfl rfl rfl (freshS_eq rfl) rfl rfl rfl (eqlP tQ_24 _ _ _) ?_
   refine wl_pure rfl rfl rfl (freshS_eq rfl) rfl ?_
   refine wl_pure rfl rfl rfl (freshS_eq rfl) rfl ?_
   refine wl_nil ?_
   refine we_then ?_
   refine wc_keep [4] (S' := [_]) rfl ?_
   refine wc_ret ?_
   have hE := (Option.some.inj hm).symm
   replace hE := hE.symm
   subst hE
   refine ret_one (Hr := [_]) [0] Try.results28 (res_tmp rfl) ⟨rfl, rfl, rfl⟩ (fun _ _ hφ => ask [] rfl hφ) rfl rfl (.inl rfl)
  ·
   replace hm := iteF hm hs54
   refine wl_off rfl rfl rfl (freshS_eq rfl) ?_
   refine wl_off rfl rfl rfl (freshS_eq rfl) ?_
   refine wl_off rfl rfl rfl (freshS_eq rfl) ?_
   refine wl_pure rfl rfl rfl (freshS_eq rfl) rfl ?_
   refine wl_pure rfl rfl rfl (freshS_eq rfl) rfl ?_
   refine wl_nil ?_
   refine we_then ?_
   refine wc_keep [4] (S' := [_]) rfl ?_
   refine wc_ret ?_
   have hE := (Option.some.inj hm).symm
   replace hE := hE.symm
   subst hE
   refine ret_one (Hr := [_]) [0] Try.results28 (res_tmp rfl) ⟨rfl, rfl, rfl⟩ (fun _ _ hφ => ask [] rfl hφ) rfl rfl (.inl rfl)
set_option maxRecDepth 100000 in
set_option maxHeartbeats 4000000 in
theorem w_ropewalklaw17_DiskNil_s (N : Nat) (a0 : Int) (o0 : Bool) (hm : m_ropewalklaw17_DiskNil N a0 = some o0) : Spec Try.prog 6 [.int .i64 a0] [] [] (fun v Φr Hr => v = .bool o0 ∧ Φr = [] ∧ Hr = []) := by
 unfold m_ropewalklaw17_DiskNil at hm
 refine spec_of Try.func6 rfl Try.ntmps6 rfl (S := [_]) rfl (fun C => ?_)
 refine wc_seq ?_
 refine wc_region ?_
 refine wl_pure rfl rfl rfl (freshS_eq rfl) rfl ?_
 refine wl_nil ?_
 refine we_then ?_
 refine wc_keep [0] (S' := [_]) rfl ?_
 refine wc_seq ?_
 refine wc_region ?_
 refine wl_pure rfl rfl rfl (freshS_eq rfl) rfl ?_
 refine wl_nil ?_
 refine we_then ?_
 refine wc_seq ?_
 refine wc_region ?_
 obtain ⟨v4, hc4, hm⟩ := bindO_some hm
 refine wl_call [] [] rfl rfl rfl (freshS_eq rfl) rfl rfl fn_9 rfl (w_ropewalklaw17_awake_s N _ hc4) (fun _ _ hφ => ask [] rfl hφ) rfl (H' := []) rfl ?_
 rintro _ _ _ ⟨rfl, rfl, rfl⟩
 refine wl_pure rfl rfl rfl (freshS_eq rfl) rfl ?_
 refine wl_split (d := 5) (S' := [_,_,_]) rfl rfl (fun hs5 => ?_) (fun hs5 => ?_)
 ·
  replace hm := iteT hm hs5
  refine wl_pure rfl rfl rfl (freshS_eq rfl) rfl ?_
  refine wl_pure rfl rfl rfl (freshS_eq rfl) rfl ?_
  obtain ⟨v8, hc8, hm⟩ := bindO_some hm
  refine wl_call [] [] rfl rfl rfl (freshS_eq rfl) rfl rfl fn_28 rfl (w_ropewalklaw17_silent_s N a0 _ hc8) (fun _ _ hφ => ask [] rfl hφ) rfl (H' := []) rfl ?_
  rintro _ _ _ ⟨rfl, rfl, rfl⟩
  refine wl_pure rfl rfl rfl (freshS_eq rfl) rfl ?_
  refine wl_pure rfl rfl rfl (freshS_eq rfl) rfl ?_
  refine wl_split (d := 10) (S' := [_,_,_,_,_,_,_,_]) rfl rfl (fun hs10 => ?_) (fun hs10 => ?_)
  ·
   replace hm := iteT hm hs10
   refine wl_build rfl rfl rfl (freshS_eq rfl) rfl tZ_59 tP_59 rfl (out := [_,_]) rfl ?_
   refine wl_box rfl rfl rfl (freshS_eq rfl) rfl rfl rfl (fun g12 => ?_)
   refine wl_pure rfl rfl rfl (freshS_eq rfl) rfl ?_
   obtain ⟨v14, hc14, hm⟩ := bindO_some hm
   refine wl_call [0] [] rfl rfl rfl (freshS_eq rfl) rfl rfl fn_28 rfl (w_ropewalklaw17_silent_v2_s N g12 0 a0 _ hc14) (fun _ _ hφ => ask [] rfl hφ) rfl (H' := []) rfl ?_
   rintro _ _ _ ⟨rfl, rfl, rfl⟩
   refine wl_pure rfl rfl rfl (freshS_eq rfl) rfl ?_
   refine wl_pure rfl rfl rfl (freshS_eq rfl) rfl ?_
   refine wl_nil ?_
   refine we_then ?_
   refine wc_keep [2] (S' := [_]) rfl ?_
   refine wc_ret ?_
   have hE := (Option.some.inj hm).symm
   replace hE := hE.symm
   subst hE
   refine ret_one (Hr := []) [] Try.results6 (res_tmp rfl) ⟨rfl, rfl, rfl⟩ (fun _ _ hφ => ask [] rfl hφ) rfl rfl (.inl rfl)
  ·
   replace hm := iteF hm hs10
   refine wl_off rfl rfl rfl (freshS_eq rfl) ?_
   refine wl_off rfl rfl rfl (freshS_eq rfl) ?_
   refine wl_off rfl rfl rfl (freshS_eq rfl) ?_
   refine wl_off rfl rfl rfl (freshS_eq rfl) ?_
   refine wl_pure rfl rfl rfl (freshS_eq rfl) rfl ?_
   refine wl_pure rfl rfl rfl (freshS_eq rfl) rfl ?_
   refine wl_nil ?_
   refine we_then ?_
   refine wc_keep [2] (S' := [_]) rfl ?_
   refine wc_ret ?_
   have hE := (Option.some.inj hm).symm
   replace hE := hE.symm
   subst hE
   refine ret_one (Hr := []) [] Try.results6 (res_tmp rfl) ⟨rfl, rfl, rfl⟩ (fun _ _ hφ => ask [] rfl hφ) rfl rfl (.inl rfl)
 ·
  replace hm := iteF hm hs5
  refine wl_off rfl rfl rfl (freshS_eq rfl) ?_
  refine wl_off rfl rfl rfl (freshS_eq rfl) ?_
  refine wl_off rfl rfl rfl (freshS_eq rfl) ?_
  refine wl_pure rfl rfl rfl (freshS_eq rfl) rfl ?_
  refine wl_pure rfl rfl rfl (freshS_eq rfl) rfl ?_
  refine wl_off rfl rfl rfl (freshS_eq rfl) ?_
  refine wl_off rfl rfl rfl (freshS_eq rfl) ?_
  refine wl_off rfl rfl rfl (freshS_eq rfl) ?_
  refine wl_off rfl rfl rfl (freshS_eq rfl) ?_
  refine wl_pure rfl rfl rfl (freshS_eq rfl) rfl ?_
  refine wl_pure rfl rfl rfl (freshS_eq rfl) rfl ?_
  refine wl_nil ?_
  refine we_then ?_
  refine wc_keep [2] (S' := [_]) rfl ?_
  refine wc_ret ?_
  have hE := (Option.some.inj hm).symm
  replace hE := hE.symm
  subst hE
  refine ret_one (Hr := []) [] Try.results6 (res_tmp rfl) ⟨rfl, rfl, rfl⟩ (fun _ _ hφ => ask [] rfl hφ) rfl rfl (.inl rfl)
set_option maxRecDepth 100000 in
set_option maxHeartbeats 4000000 in
theorem Clone49f_s (p : Option Addr) (c : Nat) (l : List Int) (hb : l.length ≤ 140737488355328) : Spec Try.prog 49 [.slice p l.length c] [.sli 1 R_u8 p c l] [] (fun v Φr Hr => ∃ p' c', v = .slice p' l.length c' ∧ Φr = [] ∧ Hr = [.own 5 1 R_u8 v l]) := by
 refine spec_of Try.func49 rfl Try.ntmps49 rfl (S := [_]) rfl (fun C => ?_)
 refine wc_know (fun F w h => sli_nil (h _ (mem_at (k := 0) rfl))) (fun isnil => ?_)
 refine wc_seq ?_
 refine wc_region ?_
 refine wl_pure rfl rfl rfl (freshS_eq rfl) rfl ?_
 refine wl_nil ?_
 refine we_then ?_
 refine wc_seq ?_
 refine wc_seq ?_
 refine wc_region ?_
 refine wl_pure rfl rfl rfl (freshS_eq rfl) rfl ?_
 refine wl_eqlNil rfl rfl rfl (freshS_eq rfl) rfl rfl rfl tE_27 ?_
 refine wl_nil ?_
 refine we_then ?_
 refine wc_keep [4, 2, 0] (S' := [_,_,_]) rfl ?_
 refine wc_cond rfl (fun h4 => ?_) (fun h4 => ?_)
 ·
  replace h4 := isNone_true h4
  obtain rfl := isnil h4
  subst h4
  refine wc_rowNil 5 1 R_u8 ?_
  refine wc_seq ?_
  refine wc_region ?_
  refine wl_pure (S' := [_,_]) rfl rfl rfl rfl rfl ?_
  refine wl_nil ?_
  refine we_then ?_
  refine wc_ret ?_
  refine we_then_ret ?_
  refine ret_one (Hr := [.own 5 1 R_u8 (.slice none 0 0) []]) [0] Try.results49 (res_tmp rfl) ?_ (fun _ _ hφ => ask [] rfl hφ) rfl rfl (.inl rfl)
  exact ⟨none, 0, rfl, rfl, rfl⟩
 ·
  replace h4 := isNone_false h4
  refine wc_skip ?_
  refine we_then ?_
  refine wc_seq ?_
  refine wc_region ?_
  refine wl_buildSlice rfl rfl rfl (freshS_eq rfl) rfl tE_27 tS_5 tZ_5 rfl (zs := []) (by kernel_rfl) rfl (out := []) rfl (fun g5 => ?_)
  refine wl_pure rfl rfl rfl (freshS_eq rfl) rfl ?_
  refine wl_row (sz := 1) (m := 0) R_u8 [] 0 rfl (fun F w hφ => rfl) rfl (by decide) (H' := [_]) rfl ?_
  refine wl_append 0 0 rfl rfl rfl (freshS_eq rfl) rfl rfl rfl rfl rfl tE_27 tR_5 rfl rfl (by simp; omega) (by simp; omega) (H2 := fun p7 c7 => [.own 5 1 R_u8 (.slice p7 (l).length c7) l]) (fun _ _ => rfl) (fun p7 c7 => ?_)
  refine wl_pure (S' := [_,_,_,_,_]) rfl rfl rfl rfl rfl ?_
  refine wl_nil ?_
  refine we_then ?_
  refine wc_keep [2, 4, 0] (S' := [_,_,_]) rfl ?_
  refine wc_ret ?_
  refine ret_one (Hr := [.own 5 1 R_u8 (.slice p7 (l).length c7) l]) [0] Try.results49 (res_tmp rfl) ?_ (fun _ _ hφ => ask [] rfl hφ) rfl rfl (.inl rfl)
  exact ⟨_, _, rfl, rfl, rfl⟩

set_option maxRecDepth 100000 in
set_option maxHeartbeats 4000000 in
theorem w_disk_Disk_Copy_v3_s (N : Nat) (qg0 : Nat) (a0 : Int) (qb1 : Nat) (e1 : List (ByteArray × Disk_rowsD)) (o2 : List (ByteArray × Disk_rowsD)) (hm : m_disk_Disk_Copy_v3 N a0 e1 = some o2) : Spec Try.prog 24 [.pointer (some ⟨qg0, 0, none⟩)] [] [.blk qg0 [.int .i64 a0, .map (some qb1)] 59, mapP (keyStr (tStr_run tT_9)) true R_Disk_rowsD qb1 e1] (fun v Φr Hr => ∃ (o0 : Nat) (o1 : Nat), v = .pointer (some ⟨o0, 0, none⟩) ∧ Φr = [] ∧ Hr = [.blk o0 [.int .i64 (maxI a0 0), .map (some o1)] 59, mapP (keyStr (tStr_run tT_9)) true R_Disk_rowsD o1 o2, .blk qg0 [.int .i64 a0, .map (some qb1)] 59, mapP (keyStr (tStr_run tT_9)) true R_Disk_rowsD qb1 e1]) := by
 unfold m_disk_Disk_Copy_v3 at hm
 refine spec_of Try.func24 rfl Try.ntmps24 rfl (S := [_]) rfl (fun C => ?_)
 refine wc_seq ?_
 refine wc_region ?_
 refine wl_pure rfl rfl rfl (freshS_eq rfl) rfl ?_
 refine wl_nil ?_
 refine we_then ?_
 refine wc_keep [0] (S' := [_]) rfl ?_
 refine wc_seq ?_
 refine wc_seq ?_
 refine wc_region ?_
 refine wl_pure rfl rfl rfl (freshS_eq rfl) rfl ?_
 obtain ⟨_, hc7, hm⟩ := bindO_some hm
 try dsimp only at hm
 refine wl_call [0, 1] [] rfl rfl rfl (freshS_eq rfl) rfl rfl fn_35 rfl (w_disk_Disk_is_s N qg0 a0 qb1 e1 hc7) (fun _ _ hφ => ask [] rfl hφ) rfl (H' := []) rfl ?_
 rintro _ _ _ ⟨rfl, rfl, rfl⟩
 refine wl_pure rfl rfl rfl (freshS_eq rfl) rfl ?_
 refine wl_as (d := 8) (v' := .bool false) (S' := [_,_,_]) rfl rfl rfl ?_
 refine wl_nil ?_
 refine we_then ?_
 refine wc_keep [8, 0] (S' := [_,_]) rfl ?_
 refine wc_false rfl ?_
 refine wc_keep [0] (S' := [_]) rfl ?_
 refine wc_skip ?_
 refine we_then ?_
 refine wc_seq ?_
 refine wc_region ?_
 refine wl_pure rfl rfl rfl (freshS_eq rfl) rfl ?_
 refine wl_pure rfl rfl rfl (freshS_eq rfl) rfl ?_
 refine wl_fieldAddr rfl rfl rfl (freshS_eq rfl) rfl rfl tF_59_0 ?_
 refine wl_loadH 0 0 rfl rfl rfl (freshS_eq rfl) rfl rfl rfl (cs := [_]) rfl tS_3 tA_3 rfl rfl ?_
 obtain ⟨_, hc13, hm⟩ := bindO_some hm
 try dsimp only at hm
 refine wl_call [] [0, 1] rfl rfl rfl (freshS_eq rfl) rfl rfl fn_10 rfl (w_disk_New_s N a0 hc13) (fun _ _ hφ => ask [] rfl hφ) rfl (H' := [_,_]) rfl ?_
 rintro _ _ _ ⟨c13_0, c13_1, rfl, rfl, rfl⟩
 refine wl_pure rfl rfl rfl (freshS_eq rfl) rfl ?_
 refine wl_nil ?_
 refine we_then ?_
 refine wc_keep [3, 0] (S' := [_,_]) rfl ?_
 refine wc_seq ?_
 obtain ⟨bj_1, hm, hLj_1⟩ := bindO_some hm
 refine wc_cut (σ := List (ByteArray × Disk_rowsD)) (fun j_1_3_f1_m => bj_1 = j_1_3_f1_m) (fun j_1_3_f1_m => [(3, .pointer (some ⟨c13_0, 0, none⟩))]) (fun j_1_3_f1_m => []) (fun j_1_3_f1_m => [.blk c13_0 [.int .i64 (maxI a0 0), .map (some c13_1)] 59, mapP (keyStr (tStr_run tT_9)) true R_Disk_rowsD c13_1 j_1_3_f1_m, .blk qg0 [.int .i64 a0, .map (some qb1)] 59, mapP (keyStr (tStr_run tT_9)) true R_Disk_rowsD qb1 e1]) ?_ ?_
 ·
  refine wc_seq ?_
  refine wc_region ?_
  refine wl_pure rfl rfl rfl (freshS_eq rfl) rfl ?_
  refine wl_pure rfl rfl rfl (freshS_eq rfl) rfl ?_
  refine wl_fieldAddr rfl rfl rfl (freshS_eq rfl) rfl rfl tF_59_1 ?_
  refine wl_loadH 2 1 rfl rfl rfl (freshS_eq rfl) rfl rfl rfl (cs := [_]) rfl tS_57 tA_57 rfl rfl ?_
  refine wl_rangeP 3 rfl rfl rfl (freshS_eq rfl) rfl rfl rfl tM_57 (fun g18 => ?_)
  refine wl_sh [.blk c13_0 [.int .i64 (maxI a0 0), .map (some c13_1)] 59, mapP (keyStr (tStr_run tT_9)) true R_Disk_rowsD c13_1 ([] : List (ByteArray × Disk_rowsD)), .blk qg0 [.int .i64 a0, .map (some qb1)] 59, mapIt (keyStr (tStr_run tT_9)) true R_Disk_rowsD qb1 g18 e1 (List.map (fun x : ByteArray × Disk_rowsD => x.1) e1) none] (fun _ h => h) ?_
  refine wl_nil ?_
  refine we_then ?_
  refine wc_keep [18, 3] (S' := [_,_]) rfl ?_
  refine wc_block ?_
  refine wc_pick [3, 0, 1, 2] rfl (H' := [_,_,_,_]) rfl ?_
  replace hm := ranP_some hm
  refine wc_loop (σ := (List (ByteArray × Disk_rowsD)) × (List ByteArray)) (fun (u1_3_f1_m, u1_18_td) => ∀ ord : List ByteArray, ord.Perm u1_18_td → ranL (m_disk_Disk_Copy_v3_L1 N e1) ord u1_3_f1_m = some bj_1) (fun (u1_3_f1_m, u1_18_td) => u1_18_td.length) (fun (u1_3_f1_m, u1_18_td) => [(18, .pointer (some ⟨g18, 0, none⟩)), (3, .pointer (some ⟨c13_0, 0, none⟩))]) (fun (u1_3_f1_m, u1_18_td) => []) (fun (u1_3_f1_m, u1_18_td) => [mapIt (keyStr (tStr_run tT_9)) true R_Disk_rowsD qb1 g18 e1 u1_18_td none, .blk c13_0 [.int .i64 (maxI a0 0), .map (some c13_1)] 59, mapP (keyStr (tStr_run tT_9)) true R_Disk_rowsD c13_1 u1_3_f1_m, .blk qg0 [.int .i64 a0, .map (some qb1)] 59]) (([] : List (ByteArray × Disk_rowsD)), (List.map (fun x : ByteArray × Disk_rowsD => x.1) e1)) hm [18, 3] rfl (fun _ _ hφ => ask [] rfl hφ) rfl (fun s_ hm => ?_)
  obtain ⟨u1_3_f1_m, u1_18_td⟩ := s_
  try dsimp only at hm ⊢
  refine wc_seq ?_
  refine wc_region ?_
  refine wl_nextP 0 rfl rfl rfl (freshS_eq rfl) rfl rfl rfl (fun htd19 => ?_) (fun k19 kv19 hk19 => ?_)
  ·
   refine wl_sh [mapP (keyStr (tStr_run tT_9)) true R_Disk_rowsD qb1 e1, .blk c13_0 [.int .i64 (maxI a0 0), .map (some c13_1)] 59, mapP (keyStr (tStr_run tT_9)) true R_Disk_rowsD c13_1 u1_3_f1_m, .blk qg0 [.int .i64 a0, .map (some qb1)] 59] (fun _ h => h) ?_
   obtain ⟨bu1, hq, hLu1⟩ := ran_nil hm htd19
   clear hm
   replace hm := hq
   clear hq
   unfold m_disk_Disk_Copy_v3_L1 at hm
   try dsimp only [optE] at hm
   refine wl_pure rfl rfl rfl (freshS_eq rfl) rfl ?_
   refine wl_nil ?_
   refine we_then ?_
   refine wc_keep [20, 18, 3] (S' := [_,_,_]) rfl ?_
   refine wc_seq ?_
   refine wc_false rfl ?_
   refine wc_keep [3] (S' := [_]) rfl ?_
   refine wc_exit ?_
   refine we_then_exit ?_
   refine we_then_exit ?_
   refine we_block_hit ?_
   have hE := (Option.some.inj hm).symm
   replace hE := link_inr hLu1 hE
   refine we_pick [1, 2, 3, 0] rfl (H' := [_,_,_,_]) rfl ?_
   refine we_join u1_3_f1_m hE [3] rfl (fun _ _ hφ => ask [] rfl hφ) rfl
  ·
   refine wl_sh [mapIt (keyStr (tStr_run tT_9)) true R_Disk_rowsD qb1 g18 e1 (rmK u1_18_td k19) (some k19), .blk c13_0 [.int .i64 (maxI a0 0), .map (some c13_1)] 59, mapP (keyStr (tStr_run tT_9)) true R_Disk_rowsD c13_1 u1_3_f1_m, .blk qg0 [.int .i64 a0, .map (some qb1)] 59] (fun _ h => h) ?_
   obtain ⟨bu1, hq, hLu1⟩ := ran_cons hm hk19
   clear hm
   replace hm := hq
   clear hq
   unfold m_disk_Disk_Copy_v3_L1 at hm
   try dsimp only [optE] at hm
   refine wl_pure rfl rfl rfl (freshS_eq rfl) rfl ?_
   refine wl_nil ?_
   refine we_then ?_
   refine wc_keep [20, 18, 3] (S' := [_,_,_]) rfl ?_
   refine wc_seq ?_
   refine wc_true rfl ?_
   refine wc_keep [18, 3] (S' := [_,_]) rfl ?_
   refine wc_skip ?_
   refine we_then ?_
   refine wc_block ?_
   refine wc_seq ?_
   refine wc_region ?_
   obtain ⟨x21, hx21, hm⟩ := bindO_some hm
   refine wl_entryP (a := x21) R_Disk_rowsD_opens 0 rfl rfl rfl (freshS_eq rfl) rfl rfl rfl hx21 (u := fun r21 => .agg #[.slice r21.1.1 x21.firm.length r21.1.2, .slice r21.2.1 x21.loose.length r21.2.2]) (fun _ => rfl) (v := fun r21 => .tuple #[.string k19, .agg #[.slice r21.1.1 x21.firm.length r21.1.2, .slice r21.2.1 x21.loose.length r21.2.2]]) (fun _ => rfl) (H' := [mapIt (keyStr (tStr_run tT_9)) true R_Disk_rowsD qb1 g18 e1 (rmK u1_18_td k19) none, .blk c13_0 [.int .i64 (maxI a0 0), .map (some c13_1)] 59, mapP (keyStr (tStr_run tT_9)) true R_Disk_rowsD c13_1 u1_3_f1_m, .blk qg0 [.int .i64 a0, .map (some qb1)] 59]) rfl (fun r21 _ => ?_)
   refine wl_pure rfl rfl rfl (freshS_eq rfl) rfl ?_
   refine wl_pure rfl rfl rfl (freshS_eq rfl) rfl ?_
   refine wl_alloc rfl rfl rfl (freshS_eq rfl) rfl tZ_69 rfl (fun g5 => ?_)
   refine wl_pure rfl rfl rfl (freshS_eq rfl) rfl ?_
   refine wl_store 0 0 rfl rfl rfl rfl rfl rfl rfl tS_69 rfl rfl rfl (all' := [_,_]) rfl (H' := [_,_,_,_,_]) rfl ?_
   refine wl_nil ?_
   refine we_then ?_
   refine wc_keep [4, 5, 18, 3] (S' := [_,_,_,_]) rfl ?_
   obtain ⟨hg31, hm⟩ := gd_some hm
   obtain ⟨hg34, hm⟩ := gd_some hm
   refine wc_draw [0, 1, 2, 3, 4, 5, 6, 8, 9, 11] rfl rfl (fun hok => ?_)
   refine wx_pure hok 0 rfl rfl rfl (freshS_eq rfl) rfl rfl ?_
   refine wx_pure hok 1 rfl rfl rfl (freshS_eq rfl) rfl rfl ?_
   refine wx_fieldAddr hok 2 rfl rfl rfl (freshS_eq rfl) rfl rfl rfl tF_59_1 ?_
   refine wx_loadH hok 3 2 1 rfl rfl rfl (freshS_eq rfl) rfl rfl rfl rfl (cs := [_]) rfl tS_57 tA_57 rfl rfl ?_
   refine wx_pure hok 4 rfl rfl rfl (freshS_eq rfl) rfl rfl ?_
   refine wx_fieldAddr hok 5 rfl rfl rfl (freshS_eq rfl) rfl rfl rfl tF_69_0 ?_
   refine wx_loadH hok 6 0 0 rfl rfl rfl (freshS_eq rfl) rfl rfl rfl rfl (cs := [_]) rfl tS_27 tA_27 rfl rfl ?_
   refine wx_fieldAddr hok 8 rfl rfl rfl (freshS_eq rfl) rfl rfl rfl tF_69_1 ?_
   refine wx_loadH hok 9 0 1 rfl rfl rfl (freshS_eq rfl) rfl rfl rfl rfl (cs := [_]) rfl tS_27 tA_27 rfl rfl ?_
   refine wx_step1 hok 7 rfl rfl rfl rfl ?_
   refine wl_call [] [0, 1, 2, 3, 4] rfl rfl rfl (freshS_eq rfl) rfl rfl fn_49 rfl (Clone49f_s r21.1.1 r21.1.2 x21.firm hg31) (fun _ _ hφ => ask [0] rfl hφ) rfl (H' := [_,_,_,_,_]) rfl ?_
   rintro _ _ _ ⟨p31, c31, rfl, rfl, rfl⟩
   refine wl_nil ?_
   refine we_x [0, 1] [1, 3] rfl rfl ?_
   refine wx_step1 hok 10 rfl rfl rfl rfl ?_
   refine wl_call [] [0, 1, 2, 3, 4, 5] rfl rfl rfl (freshS_eq rfl) rfl rfl fn_49 rfl (Clone49f_s r21.2.1 r21.2.2 x21.loose hg34) (fun _ _ hφ => ask [1] rfl hφ) rfl (H' := [_,_,_,_,_,_]) rfl ?_
   rintro _ _ _ ⟨p34, c34, rfl, rfl, rfl⟩
   refine wl_nil ?_
   refine we_x [0, 1] [2, 4] rfl rfl ?_
   refine wx_build hok 11 rfl rfl rfl (freshS_eq rfl) rfl rfl tZ_69 tP_69 rfl (out := [_,_]) rfl ?_
   refine wx_step1 hok 12 rfl rfl rfl rfl ?_
   refine wl_freeze 1 rfl (H' := [_,_,_,_,_,_]) rfl ?_
   refine wl_fact (.sli 1 R_u8 p31 c31 x21.firm) (fun F w hφ => own_sli (hφ _ (mem_at (k := 0) rfl))) ?_
   refine wl_freeze 0 rfl (H' := [_,_,_,_,_]) rfl ?_
   refine wl_fact (.sli 1 R_u8 p34 c34 x21.loose) (fun F w hφ => own_sli (hφ _ (mem_at (k := 0) rfl))) ?_
   refine wl_mapPutP (i := k19) (u := x21) (cs := [.slice p31 x21.firm.length c31, .slice p34 x21.loose.length c34]) ltB 3 rfl rfl (.inl rfl) rfl rfl rfl rfl tM_57 trivial rfl (fun F w hφ => ⟨((p31, c31), (p34, c34)), rfl, (ask_cons (hφ _ (mem_at (k := 2) rfl)) (ask_cons (hφ _ (mem_at (k := 0) rfl)) ask_nil))⟩) (H' := [.blk g5 [.slice r21.1.1 x21.firm.length r21.1.2, .slice r21.2.1 x21.loose.length r21.2.2] 69, mapIt (keyStr (tStr_run tT_9)) true R_Disk_rowsD qb1 g18 e1 (rmK u1_18_td k19) none, .blk c13_0 [.int .i64 (maxI a0 0), .map (some c13_1)] 59, mapP (keyStr (tStr_run tT_9)) true R_Disk_rowsD c13_1 (mputP ltB k19 x21 u1_3_f1_m), .blk qg0 [.int .i64 a0, .map (some qb1)] 59]) rfl ?_
   refine wl_nil ?_
   refine we_x [4, 5] [] rfl rfl ?_
   refine wx_done hok rfl ?_
   refine we_block_normal ?_
   have hE := (Option.some.inj hm).symm
   replace hE := ran_inl hLu1 hE
   refine we_pick [1, 2, 3, 4] rfl (H' := [_,_,_,_]) rfl ?_
   refine we_roundK (mputP ltB k19 x21 u1_3_f1_m, rmK u1_18_td k19) (erase_lt hk19) hE [18, 3] rfl (fun _ _ hφ => ask [] rfl hφ) rfl
 ·
  rintro j_1_3_f1_m hE
  try dsimp only
  have hm := hLj_1
  rw [hE] at hm
  refine wc_seq ?_
  refine wc_region ?_
  refine wl_pure rfl rfl rfl (freshS_eq rfl) rfl ?_
  refine wl_pure rfl rfl rfl (freshS_eq rfl) rfl ?_
  refine wl_nil ?_
  refine we_then ?_
  refine wc_keep [2] (S' := [_]) rfl ?_
  refine wc_ret ?_
  have hE := (Option.some.inj hm).symm
  replace hE := hE.symm
  subst hE
  refine ret_one (Hr := [_, _, _, _]) [0, 1, 2, 3] Try.results24 (res_tmp rfl) ⟨c13_0, c13_1, rfl, rfl, rfl⟩ (fun _ _ hφ => ask [] rfl hφ) rfl rfl (.inl rfl)
set_option maxRecDepth 100000 in
set_option maxHeartbeats 4000000 in
theorem w_ropewalkkit_SameBytes_s (N : Nat) (qp0 : Option Addr) (qc1 : Nat) (l0 : List Int) (qp2 : Option Addr) (qc3 : Nat) (l1 : List Int) (o0 : Bool) (hm : m_ropewalkkit_SameBytes N l0 l1 = some o0) : Spec Try.prog 18 [.slice qp0 l0.length qc1, .slice qp2 l1.length qc3] [.sli 1 R_u8 qp0 qc1 l0, .sli 1 R_u8 qp2 qc3 l1] [] (fun v Φr Hr => v = .bool o0 ∧ Φr = [] ∧ Hr = []) := by
 unfold m_ropewalkkit_SameBytes at hm
 refine spec_of Try.func18 rfl Try.ntmps18 rfl (S := [_,_]) rfl (fun C => ?_)
 refine wc_seq ?_
 refine wc_region ?_
 refine wl_pure rfl rfl rfl (freshS_eq rfl) rfl ?_
 refine wl_nil ?_
 refine we_then ?_
 refine wc_keep [0, 1] (S' := [_,_]) rfl ?_
 refine wc_seq ?_
 refine wc_seq ?_
 refine wc_region ?_
 refine wl_pure rfl rfl rfl (freshS_eq rfl) rfl ?_
 refine wl_len rfl rfl rfl (freshS_eq rfl) rfl rfl tE_27 ?_
 refine wl_pure rfl rfl rfl (freshS_eq rfl) rfl ?_
 refine wl_len rfl rfl rfl (freshS_eq rfl) rfl rfl tE_27 ?_
 refine wl_pure rfl rfl rfl (freshS_eq rfl) rfl ?_
 refine wl_as (d := 10) (v' := .bool (l0.length != l1.length)) (S' := [_,_,_,_,_,_]) rfl rfl (natne (a := l0.length) (b := l1.length)) ?_
 refine wl_nil ?_
 refine we_then ?_
 refine wc_keep [10, 0, 1] (S' := [_,_,_]) rfl ?_
 refine wc_cond rfl (fun hb10 => ?_) (fun hb10 => ?_)
 ·
  replace hm := iteT hm hb10
  refine wc_keep [] (S' := []) rfl ?_
  refine wc_seq ?_
  refine wc_region ?_
  refine wl_pure rfl rfl rfl (freshS_eq rfl) rfl ?_
  refine wl_nil ?_
  refine we_then ?_
  refine wc_ret ?_
  refine we_then_ret ?_
  have hE := (Option.some.inj hm).symm
  replace hE := hE.symm
  subst hE
  refine ret_one (Hr := []) [] Try.results18 (res_tmp rfl) ⟨rfl, rfl, rfl⟩ (fun _ _ hφ => ask [] rfl hφ) rfl rfl (.inl rfl)
 ·
  replace hm := iteF hm hb10
  refine wc_keep [0, 1] (S' := [_,_]) rfl ?_
  refine wc_skip ?_
  refine we_then ?_
  refine wc_seq ?_
  obtain ⟨bj_1, hm, hLj_1⟩ := bindS_some hm
  refine wc_cut (σ := Unit) (fun _ => bj_1 = .inl ()) (fun _ => []) (fun _ => []) (fun _ => []) ?_ ?_
  ·
   refine wc_seq ?_
   refine wc_region ?_
   refine wl_pure rfl rfl rfl (freshS_eq rfl) rfl ?_
   refine wl_nil ?_
   refine we_then ?_
   refine wc_block ?_
   refine wc_loop (σ := Nat × Nat) (fun (nu1, u1_5) => iter (m_ropewalkkit_SameBytes_L1 N l0 l1) nu1 u1_5 = some bj_1) (fun (nu1, u1_5) => nu1) (fun (nu1, u1_5) => [(5, .int .i64 ((u1_5 : Nat) : Int)), (0, .slice qp0 l0.length qc1), (1, .slice qp2 l1.length qc3)]) (fun (nu1, u1_5) => [.sli 1 R_u8 qp0 qc1 l0, .sli 1 R_u8 qp2 qc3 l1]) (fun (nu1, u1_5) => []) (N, 0) hm [5, 0, 1] rfl (fun _ _ hφ => ask [0, 1] rfl hφ) rfl (fun s_ hm => ?_)
   obtain ⟨nu1, u1_5⟩ := s_
   try dsimp only at hm ⊢
   obtain ⟨mu1, bu1, hnu1, hq, hLu1⟩ := iter_some hm
   clear hm
   subst hnu1
   replace hm := hq
   clear hq
   unfold m_ropewalkkit_SameBytes_L1 at hm
   try dsimp only at hm
   refine wc_seq ?_
   refine wc_seq ?_
   refine wc_region ?_
   refine wl_pure rfl rfl rfl (freshS_eq rfl) rfl ?_
   refine wl_pure rfl rfl rfl (freshS_eq rfl) rfl ?_
   refine wl_len rfl rfl rfl (freshS_eq rfl) rfl rfl tE_27 ?_
   refine wl_pure rfl rfl rfl (freshS_eq rfl) rfl ?_
   refine wl_as (d := 14) (v' := .bool (decide (u1_5 < l0.length))) (S' := [_,_,_,_,_,_]) rfl rfl (natlt (a := u1_5) (b := l0.length)) ?_
   refine wl_nil ?_
   refine we_then ?_
   refine wc_keep [14, 5, 0, 1] (S' := [_,_,_,_]) rfl ?_
   refine wc_cond rfl (fun hb14 => ?_) (fun hb14 => ?_)
   ·
    replace hm := iteT hm hb14
    refine wc_keep [5, 0, 1] (S' := [_,_,_]) rfl ?_
    refine wc_skip ?_
    refine we_then ?_
    refine wc_seq ?_
    refine wc_block ?_
    refine wc_seq ?_
    obtain ⟨x19, hx19, hm⟩ := bindO_some hm
    obtain ⟨x23, hx23, hm⟩ := bindO_some hm
    refine wc_draw [0, 1, 2, 3, 4, 5, 6, 7, 8] rfl rfl (fun hok => ?_)
    refine wx_pure hok 0 rfl rfl rfl (freshS_eq rfl) rfl rfl ?_
    refine wx_pure hok 1 rfl rfl rfl (freshS_eq rfl) rfl rfl ?_
    refine wx_indexA hok 2 0 u1_5 rfl rfl rfl (freshS_eq rfl) rfl rfl rfl rfl rfl rfl hx19 tE_27 tS_5 (fun b19 q19 cs19 hlx19 => ?_)
    refine wx_openR R_u8_opens 1 rfl (fun r19 er19 _ => ?_)
    subst er19
    refine wx_load hok 3 0 0 rfl rfl rfl (freshS_eq rfl) rfl rfl rfl rfl (cs := [_]) rfl tS_5 tA_5 rfl rfl ?_
    refine wx_pure hok 4 rfl rfl rfl (freshS_eq rfl) rfl rfl ?_
    refine wx_pure hok 5 rfl rfl rfl (freshS_eq rfl) rfl rfl ?_
    refine wx_indexA hok 6 3 u1_5 rfl rfl rfl (freshS_eq rfl) rfl rfl rfl rfl rfl rfl hx23 tE_27 tS_5 (fun b23 q23 cs23 hlx23 => ?_)
    refine wx_openR R_u8_opens 1 rfl (fun r23 er23 _ => ?_)
    subst er23
    refine wx_load hok 7 0 0 rfl rfl rfl (freshS_eq rfl) rfl rfl rfl rfl (cs := [_]) rfl tS_5 tA_5 rfl rfl ?_
    refine wx_pure hok 8 rfl rfl rfl (freshS_eq rfl) rfl rfl ?_
    refine wx_done hok rfl ?_
    refine we_then ?_
    refine wc_keep [25, 5, 0, 1] (S' := [_,_,_,_]) rfl ?_
    refine wc_cond rfl (fun hb25 => ?_) (fun hb25 => ?_)
    ·
     replace hm := iteT hm hb25
     refine wc_keep [] (S' := []) rfl ?_
     refine wc_seq ?_
     refine wc_region ?_
     refine wl_pure rfl rfl rfl (freshS_eq rfl) rfl ?_
     refine wl_nil ?_
     refine we_then ?_
     refine wc_ret ?_
     refine we_block_ret ?_
     refine we_then_ret ?_
     refine we_then_ret ?_
     refine we_block_ret ?_
     refine we_then_ret ?_
     have hE := (Option.some.inj hm).symm
     replace hE := link_inr hLu1 hE
     replace hE := link_inr hLj_1 hE
     replace hE := hE.symm
     subst hE
     refine ret_one (Hr := []) [] Try.results18 (res_tmp rfl) ⟨rfl, rfl, rfl⟩ (fun _ _ hφ => ask [] rfl hφ) rfl rfl (.inl rfl)
    ·
     replace hm := iteF hm hb25
     refine wc_keep [5, 0, 1] (S' := [_,_,_]) rfl ?_
     refine wc_skip ?_
     refine we_block_normal ?_
     refine we_then ?_
     refine wc_region ?_
     refine wl_pure rfl rfl rfl (freshS_eq rfl) rfl ?_
     refine wl_pure rfl rfl rfl (freshS_eq rfl) rfl ?_
     obtain ⟨hg16, hm⟩ := gd_some hm
     refine wl_as (d := 16) (v' := .int .i64 ((u1_5 + 1 : Nat) : Int)) (S' := [_,_,_,_]) rfl rfl (nat_add (a := u1_5) (b := 1) hg16) ?_
     refine wl_pure (S' := [_,_,_,_]) rfl rfl rfl rfl rfl ?_
     refine wl_nil ?_
     have hE := (Option.some.inj hm).symm
     replace hE := link_inl hLu1 hE
     refine we_roundK (_, u1_5 + 1) (Nat.lt_succ_self _) hE [5, 0, 1] rfl (fun _ _ hφ => ask [4, 5] rfl hφ) rfl
   ·
    replace hm := iteF hm hb14
    refine wc_keep [] (S' := []) rfl ?_
    refine wc_exit ?_
    refine we_then_exit ?_
    refine we_then_exit ?_
    refine we_block_hit ?_
    have hE := (Option.some.inj hm).symm
    replace hE := link_inr hLu1 hE
    refine we_join () hE [] rfl (fun _ _ hφ => ask [] rfl hφ) rfl
  ·
   rintro _ hE
   try dsimp only
   have hm := link_inl hLj_1 hE
   try dsimp only at hm
   refine wc_seq ?_
   refine wc_region ?_
   refine wl_pure rfl rfl rfl (freshS_eq rfl) rfl ?_
   refine wl_nil ?_
   refine we_then ?_
   refine wc_ret ?_
   have hE := (Option.some.inj hm).symm
   replace hE := hE.symm
   subst hE
   refine ret_one (Hr := []) [] Try.results18 (res_tmp rfl) ⟨rfl, rfl, rfl⟩ (fun _ _ hφ => ask [] rfl hφ) rfl rfl (.inl rfl)
set_option maxRecDepth 100000 in
set_option maxHeartbeats 4000000 in
theorem w_disk_Disk_Rename_1_s (N : Nat) (qp0 : Option Addr) (qc1 : Nat) (l0 : List Int) (qp2 : Option Addr) (qc3 : Nat) (l1 : List Int) (qg4 : Nat) (qg5 : Nat) (a2 : Int) (qb6 : Nat) (e3 : List (ByteArray × Disk_rowsD)) (qg7 : Nat) (a4 : ByteArray)  (hm : m_disk_Disk_Rename_1 N l0 l1 a2 e3 a4 = some ()) : Spec Try.prog 58 [.agg #[.slice qp0 l0.length qc1, .slice qp2 l1.length qc3], .pointer (some ⟨qg4, 0, none⟩), .pointer (some ⟨qg7, 0, none⟩)] [.sli 1 R_u8 qp0 qc1 l0, .sli 1 R_u8 qp2 qc3 l1] [.blk qg4 [.pointer (some ⟨qg5, 0, none⟩)] 24, .blk qg5 [.int .i64 a2, .map (some qb6)] 59, mapP (keyStr (tStr_run tT_9)) true R_Disk_rowsD qb6 e3, .blk qg7 [.string a4] 9] (fun v Φr Hr => v = .tuple #[.agg #[.slice qp0 l0.length qc1, .slice qp2 l1.length qc3], .int .i64 0] ∧ Φr = [.sli 1 R_u8 qp0 qc1 l0, .sli 1 R_u8 qp2 qc3 l1] ∧ Hr = [.blk qg4 [.pointer (some ⟨qg5, 0, none⟩)] 24, .blk qg5 [.int .i64 a2, .map (some qb6)] 59, mapP (keyStr (tStr_run tT_9)) true R_Disk_rowsD qb6 (mputP ltB a4 (⟨l0, l1⟩ : Disk_rowsD) e3), .blk qg7 [.string a4] 9]) := by
 unfold m_disk_Disk_Rename_1 at hm
 refine spec_of Try.func58 rfl Try.ntmps58 rfl (S := [_,_,_]) rfl (fun C => ?_)
 refine wc_seq ?_
 refine wc_region ?_
 refine wl_box rfl rfl rfl (freshS_eq rfl) rfl rfl rfl (fun g3 => ?_)
 refine wl_alloc rfl rfl rfl (freshS_eq rfl) rfl tZ_69 rfl (fun g4 => ?_)
 refine wl_pure rfl rfl rfl (freshS_eq rfl) rfl ?_
 refine wl_nil ?_
 refine we_then ?_
 refine wc_keep [4, 3, 1, 2] (S' := [_,_,_,_]) rfl ?_
 refine wc_seq ?_
 refine wc_draw [0, 1, 2, 3, 4, 5] rfl rfl (fun hok => ?_)
 refine wx_loadH hok 0 2 0 rfl rfl rfl (freshS_eq rfl) rfl rfl rfl rfl (cs := [_]) rfl tS_24 tA_24 rfl rfl ?_
 refine wx_pure hok 1 rfl rfl rfl (freshS_eq rfl) rfl rfl ?_
 refine wx_fieldAddr hok 2 rfl rfl rfl (freshS_eq rfl) rfl rfl rfl tF_59_1 ?_
 refine wx_loadH hok 3 3 1 rfl rfl rfl (freshS_eq rfl) rfl rfl rfl rfl (cs := [_]) rfl tS_57 tA_57 rfl rfl ?_
 refine wx_loadH hok 4 5 0 rfl rfl rfl (freshS_eq rfl) rfl rfl rfl rfl (cs := [_]) rfl tS_9 tA_9 rfl rfl ?_
 refine wx_loadH hok 5 1 0 rfl rfl rfl (freshS_eq rfl) rfl rfl rfl rfl (cs := [_,_]) rfl tS_69 tA_69 rfl rfl ?_
 refine wx_step1 hok 6 rfl rfl rfl rfl ?_
 refine wl_mapPutP (i := a4) (u := (⟨l0, l1⟩ : Disk_rowsD)) (cs := [.slice qp0 l0.length qc1, .slice qp2 l1.length qc3]) ltB 4 rfl rfl (.inl rfl) rfl rfl rfl rfl tM_57 trivial rfl (fun F w hφ => ⟨((qp0, qc1), (qp2, qc3)), rfl, (ask_cons (hφ _ (mem_at (k := 0) rfl)) (ask_cons (hφ _ (mem_at (k := 1) rfl)) ask_nil))⟩) (H' := [.blk g4 [.slice none 0 0, .slice none 0 0] 69, .blk g3 [.slice qp0 l0.length qc1, .slice qp2 l1.length qc3] 69, .blk qg4 [.pointer (some ⟨qg5, 0, none⟩)] 24, .blk qg5 [.int .i64 a2, .map (some qb6)] 59, mapP (keyStr (tStr_run tT_9)) true R_Disk_rowsD qb6 (mputP ltB a4 (⟨l0, l1⟩ : Disk_rowsD) e3), .blk qg7 [.string a4] 9]) rfl ?_
 refine wl_nil ?_
 refine we_x [0, 1] [] rfl rfl ?_
 refine wx_done hok rfl ?_
 refine we_then ?_
 refine wc_keep [4, 3] (S' := [_,_]) rfl ?_
 refine wc_seq ?_
 refine wc_region ?_
 refine wl_loadH 1 0 rfl rfl rfl (freshS_eq rfl) rfl rfl rfl (cs := [_,_]) rfl tS_69 tA_69 rfl rfl ?_
 refine wl_store 0 0 rfl rfl rfl rfl rfl rfl rfl tS_69 rfl rfl rfl (all' := [_,_]) rfl (H' := [_,_,_,_,_,_]) rfl ?_
 refine wl_pure rfl rfl rfl (freshS_eq rfl) rfl ?_
 refine wl_nil ?_
 refine we_then ?_
 refine wc_keep [5, 4] (S' := [_,_]) rfl ?_
 refine wc_ret ?_
 have hE := (Option.some.inj hm).symm
 refine ret_two (Hr := [_, _, _, _]) [2, 3, 4, 5] Try.results58 (res_cell 0 rfl rfl tS_69 tA_69 rfl rfl) (res_tmp rfl) ⟨rfl, rfl, rfl⟩ (fun _ _ hφ => ask [0, 1] rfl hφ) rfl rfl (.inl rfl)
end Go.Proofs.Ytkakbckmajdggaa
