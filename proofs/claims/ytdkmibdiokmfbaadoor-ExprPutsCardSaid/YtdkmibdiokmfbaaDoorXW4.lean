/- Walks, printed by a program out of the loaded code. -/
import Derived.Test.YtdkmibdiokmfbaaDoorXW3
namespace Go.Proofs.YtdkmibdiokmfbaaDoor
open Go.RowKit
set_option maxRecDepth 100000 in
set_option maxHeartbeats 4000000 in
theorem w_ropewalkref01_Do_s (N : Nat) (a0 : Int) (qp0 : Option Addr) (qc1 : Nat) (l1 : List V) (o0 : Nat) (o1 : Int) (o2 : Nat) (hm : m_ropewalkref01_Do N a0 l1 = some (o0, o1, o2)) : Spec Tryd.prog 30 [.int .u8 a0, .slice qp0 l1.length qc1] [.sli 3 R_V qp0 qc1 l1] [] (fun v Φr Hr => v = .tuple #[.agg #[.int .u8 ((o0 : Nat) : Int), .int .i64 o1, .string ((⟨#[]⟩ : ByteArray))], .int .i64 ((o2 : Nat) : Int)] ∧ Φr = [] ∧ Hr = []) := by
 unfold m_ropewalkref01_Do at hm
 refine spec_of Tryd.func30 rfl Tryd.ntmps30 rfl (S := [_,_]) rfl (fun C => ?_)
 refine wc_seq ?_
 refine wc_region ?_
 refine wl_alloc rfl rfl rfl (freshS_eq rfl) rfl tZ_25 rfl (fun g4 => ?_)
 refine wl_pure rfl rfl rfl (freshS_eq rfl) rfl ?_
 refine wl_nil ?_
 refine we_then ?_
 refine wc_keep [4, 0, 1] (S' := [_,_,_]) rfl ?_
 refine wc_seq ?_
 refine wc_region ?_
 refine wl_pure rfl rfl rfl (freshS_eq rfl) rfl ?_
 refine wl_nil ?_
 refine we_then ?_
 refine wc_seq ?_
 obtain ⟨bj_1, hm, hLj_1⟩ := bindO_some hm
 unfold m_ropewalkref01_Do_C1 at hm
 refine wc_cut (σ := Nat) (fun j_1_6 => bj_1 = j_1_6) (fun j_1_6 => [(4, .pointer (some ⟨g4, 0, none⟩)), (0, .int .u8 a0), (1, .slice qp0 l1.length qc1), (6, .int .i64 ((j_1_6 : Nat) : Int))]) (fun j_1_6 => [.sli 3 R_V qp0 qc1 l1]) (fun j_1_6 => [.blk g4 [.int .u8 0, .int .i64 0, .string ((⟨#[]⟩ : ByteArray))] 25]) ?_ ?_
 ·
  refine wc_seq ?_
  obtain ⟨bj_2, hm, hLj_2⟩ := bindO_some hm
  refine wc_cut (σ := Bool) (fun j_2_18 => bj_2 = j_2_18) (fun j_2_18 => [(4, .pointer (some ⟨g4, 0, none⟩)), (0, .int .u8 a0), (1, .slice qp0 l1.length qc1), (6, .int .i64 2), (18, .bool j_2_18)]) (fun j_2_18 => [.sli 3 R_V qp0 qc1 l1]) (fun j_2_18 => [.blk g4 [.int .u8 0, .int .i64 0, .string ((⟨#[]⟩ : ByteArray))] 25]) ?_ ?_
  ·
   refine wc_region ?_
   refine wl_pure rfl rfl rfl (freshS_eq rfl) rfl ?_
   refine wl_pure rfl rfl rfl (freshS_eq rfl) rfl ?_
   refine wl_pure rfl rfl rfl (freshS_eq rfl) rfl ?_
   refine wl_split (d := 15) (S' := [_,_,_,_,_,_]) rfl rfl (fun hs15 => ?_) (fun hs15 => ?_)
   ·
    replace hm := iteT hm hs15
    refine wl_off rfl rfl rfl (freshS_eq rfl) ?_
    refine wl_off rfl rfl rfl (freshS_eq rfl) ?_
    refine wl_pure rfl rfl rfl (freshS_eq rfl) rfl ?_
    refine wl_nil ?_
    have hE := (Option.some.inj hm).symm
    refine we_join true hE [4, 0, 1, 6, 18] rfl (fun _ _ hφ => ask [0] rfl hφ) rfl
   ·
    replace hm := iteF hm hs15
    refine wl_pure rfl rfl rfl (freshS_eq rfl) rfl ?_
    refine wl_pure rfl rfl rfl (freshS_eq rfl) rfl ?_
    refine wl_pure rfl rfl rfl (freshS_eq rfl) rfl ?_
    refine wl_nil ?_
    have hE := (Option.some.inj hm).symm
    refine we_join (a0 == 11) hE [4, 0, 1, 6, 18] rfl (fun _ _ hφ => ask [0] rfl hφ) rfl
  ·
   rintro j_2_18 hE
   try dsimp only
   have hm := hLj_2
   rw [hE] at hm
   refine wc_cond rfl (fun hb18 => ?_) (fun hb18 => ?_)
   ·
    replace hm := iteT hm hb18
    refine wc_keep [4, 0, 1] (S' := [_,_,_]) rfl ?_
    refine wc_region ?_
    refine wl_pure rfl rfl rfl (freshS_eq rfl) rfl ?_
    refine wl_nil ?_
    have hE := (Option.some.inj hm).symm
    refine we_join 1 hE [4, 0, 1, 6] rfl (fun _ _ hφ => ask [0] rfl hφ) rfl
   ·
    replace hm := iteF hm hb18
    refine wc_keep [4, 0, 1, 6] (S' := [_,_,_,_]) rfl ?_
    refine wc_skip ?_
    have hE := (Option.some.inj hm).symm
    refine we_join 2 hE [4, 0, 1, 6] rfl (fun _ _ hφ => ask [0] rfl hφ) rfl
 ·
  rintro j_1_6 hE
  try dsimp only
  have hm := hLj_1
  rw [hE] at hm
  refine wc_seq ?_
  refine wc_seq ?_
  obtain ⟨bj_3, hm, hLj_3⟩ := bindO_some hm
  refine wc_cut (σ := Bool) (fun j_3_30 => bj_3 = j_3_30) (fun j_3_30 => [(4, .pointer (some ⟨g4, 0, none⟩)), (0, .int .u8 a0), (1, .slice qp0 l1.length qc1), (30, .bool j_3_30)]) (fun j_3_30 => [.sli 3 R_V qp0 qc1 l1]) (fun j_3_30 => [.blk g4 [.int .u8 0, .int .i64 0, .string ((⟨#[]⟩ : ByteArray))] 25]) ?_ ?_
  ·
   refine wc_region ?_
   refine wl_pure rfl rfl rfl (freshS_eq rfl) rfl ?_
   refine wl_pure rfl rfl rfl (freshS_eq rfl) rfl ?_
   refine wl_pure rfl rfl rfl (freshS_eq rfl) rfl ?_
   refine wl_split (d := 21) (S' := [_,_,_,_,_,_]) rfl rfl (fun hs21 => ?_) (fun hs21 => ?_)
   ·
    replace hm := iteT hm hs21
    refine wl_off rfl rfl rfl (freshS_eq rfl) ?_
    refine wl_off rfl rfl rfl (freshS_eq rfl) ?_
    refine wl_pure rfl rfl rfl (freshS_eq rfl) rfl ?_
    refine wl_pure rfl rfl rfl (freshS_eq rfl) rfl ?_
    refine wl_off rfl rfl rfl (freshS_eq rfl) ?_
    refine wl_off rfl rfl rfl (freshS_eq rfl) ?_
    refine wl_off rfl rfl rfl (freshS_eq rfl) ?_
    refine wl_off rfl rfl rfl (freshS_eq rfl) ?_
    refine wl_pure rfl rfl rfl (freshS_eq rfl) rfl ?_
    refine wl_nil ?_
    have hE := (Option.some.inj hm).symm
    refine we_join true hE [4, 0, 1, 30] rfl (fun _ _ hφ => ask [0] rfl hφ) rfl
   ·
    replace hm := iteF hm hs21
    refine wl_pure rfl rfl rfl (freshS_eq rfl) rfl ?_
    refine wl_pure rfl rfl rfl (freshS_eq rfl) rfl ?_
    refine wl_pure rfl rfl rfl (freshS_eq rfl) rfl ?_
    refine wl_pure rfl rfl rfl (freshS_eq rfl) rfl ?_
    refine wl_split (d := 25) (S' := [_,_,_,_,_,_,_,_,_,_]) rfl rfl (fun hs25 => ?_) (fun hs25 => ?_)
    ·
     replace hm := iteT hm hs25
     refine wl_off rfl rfl rfl (freshS_eq rfl) ?_
     refine wl_off rfl rfl rfl (freshS_eq rfl) ?_
     refine wl_off rfl rfl rfl (freshS_eq rfl) ?_
     refine wl_off rfl rfl rfl (freshS_eq rfl) ?_
     refine wl_pure rfl rfl rfl (freshS_eq rfl) rfl ?_
     refine wl_nil ?_
     have hE := (Option.some.inj hm).symm
     refine we_join true hE [4, 0, 1, 30] rfl (fun _ _ hφ => ask [0] rfl hφ) rfl
    ·
     replace hm := iteF hm hs25
     refine wl_pure rfl rfl rfl (freshS_eq rfl) rfl ?_
     refine wl_len rfl rfl rfl (freshS_eq rfl) rfl rfl tE_30 ?_
     refine wl_pure rfl rfl rfl (freshS_eq rfl) rfl ?_
     refine wl_pure rfl rfl rfl (freshS_eq rfl) rfl ?_
     refine wl_as (d := 29) (v' := .bool (l1.length != j_1_6)) (S' := [_,_,_,_,_,_,_,_,_,_,_,_,_,_]) rfl rfl (natne (a := l1.length) (b := j_1_6)) ?_
     refine wl_pure rfl rfl rfl (freshS_eq rfl) rfl ?_
     refine wl_nil ?_
     have hE := (Option.some.inj hm).symm
     refine we_join (l1.length != j_1_6) hE [4, 0, 1, 30] rfl (fun _ _ hφ => ask [0] rfl hφ) rfl
  ·
   rintro j_3_30 hE
   try dsimp only
   have hm := hLj_3
   rw [hE] at hm
   refine wc_cond rfl (fun hb30 => ?_) (fun hb30 => ?_)
   ·
    replace hm := iteT hm hb30
    refine wc_keep [4] (S' := [_]) rfl ?_
    refine wc_seq ?_
    refine wc_region ?_
    refine wl_build rfl rfl rfl (freshS_eq rfl) rfl tZ_25 tP_25 rfl (out := [_,_,_]) rfl ?_
    refine wl_store 0 0 rfl rfl rfl rfl rfl rfl rfl tS_25 rfl rfl rfl (all' := [_,_,_]) rfl (H' := [_]) rfl ?_
    refine wl_pure rfl rfl rfl (freshS_eq rfl) rfl ?_
    refine wl_nil ?_
    refine we_then ?_
    refine wc_keep [5, 4] (S' := [_,_]) rfl ?_
    refine wc_ret ?_
    refine we_then_ret ?_
    have hE := (Option.some.inj hm).symm
    obtain ⟨hE0, hF1⟩ := Prod.mk.inj hE
    obtain ⟨hE1, hE2⟩ := Prod.mk.inj hF1
    clear hE hF1
    replace hE0 := hE0.symm
    subst hE0
    replace hE1 := hE1.symm
    subst hE1
    replace hE2 := hE2.symm
    subst hE2
    refine ret_two (Hr := []) [] Tryd.results30 (res_cell 0 rfl rfl tS_25 tA_25 rfl rfl) (res_tmp rfl) ⟨rfl, rfl, rfl⟩ (fun _ _ hφ => ask [] rfl hφ) rfl rfl (.inl rfl)
   ·
    replace hm := iteF hm hb30
    refine wc_keep [4, 0, 1] (S' := [_,_,_]) rfl ?_
    refine wc_skip ?_
    refine we_then ?_
    refine wc_seq ?_
    refine wc_region ?_
    refine wl_pure rfl rfl rfl (freshS_eq rfl) rfl ?_
    refine wl_nil ?_
    refine we_then ?_
    refine wc_seq ?_
    obtain ⟨bj_4, hm, hLj_4⟩ := bindS_some hm
    refine wc_cut (σ := Bool) (fun j_4_7 => bj_4 = .inl j_4_7) (fun j_4_7 => [(4, .pointer (some ⟨g4, 0, none⟩)), (0, .int .u8 a0), (1, .slice qp0 l1.length qc1), (7, .bool j_4_7)]) (fun j_4_7 => [.sli 3 R_V qp0 qc1 l1]) (fun j_4_7 => [.blk g4 [.int .u8 0, .int .i64 0, .string ((⟨#[]⟩ : ByteArray))] 25]) ?_ ?_
    ·
     refine wc_seq ?_
     refine wc_region ?_
     refine wl_pure rfl rfl rfl (freshS_eq rfl) rfl ?_
     refine wl_nil ?_
     refine we_then ?_
     refine wc_block ?_
     refine wc_loop (σ := Nat × Nat × Bool) (fun (nu1, u1_8, u1_7) => iter (m_ropewalkref01_Do_L1 N l1) nu1 (u1_8, u1_7) = some bj_4) (fun (nu1, u1_8, u1_7) => nu1) (fun (nu1, u1_8, u1_7) => [(8, .int .i64 ((u1_8 : Nat) : Int)), (7, .bool u1_7), (4, .pointer (some ⟨g4, 0, none⟩)), (0, .int .u8 a0), (1, .slice qp0 l1.length qc1)]) (fun (nu1, u1_8, u1_7) => [.sli 3 R_V qp0 qc1 l1]) (fun (nu1, u1_8, u1_7) => [.blk g4 [.int .u8 0, .int .i64 0, .string ((⟨#[]⟩ : ByteArray))] 25]) (N, 0, false) hm [8, 7, 4, 0, 1] rfl (fun _ _ hφ => ask [0] rfl hφ) rfl (fun s_ hm => ?_)
     obtain ⟨nu1, u1_8, u1_7⟩ := s_
     try dsimp only at hm ⊢
     obtain ⟨mu1, bu1, hnu1, hq, hLu1⟩ := iter_some hm
     clear hm
     subst hnu1
     replace hm := hq
     clear hq
     unfold m_ropewalkref01_Do_L1 at hm
     try dsimp only at hm
     refine wc_seq ?_
     refine wc_seq ?_
     refine wc_region ?_
     refine wl_pure rfl rfl rfl (freshS_eq rfl) rfl ?_
     refine wl_pure rfl rfl rfl (freshS_eq rfl) rfl ?_
     refine wl_len rfl rfl rfl (freshS_eq rfl) rfl rfl tE_30 ?_
     refine wl_pure rfl rfl rfl (freshS_eq rfl) rfl ?_
     refine wl_as (d := 35) (v' := .bool (decide (u1_8 < l1.length))) (S' := [_,_,_,_,_,_,_,_]) rfl rfl (natlt (a := u1_8) (b := l1.length)) ?_
     refine wl_nil ?_
     refine we_then ?_
     refine wc_keep [35, 8, 7, 4, 0, 1] (S' := [_,_,_,_,_,_]) rfl ?_
     refine wc_cond rfl (fun hb35 => ?_) (fun hb35 => ?_)
     ·
      replace hm := iteT hm hb35
      refine wc_keep [8, 7, 4, 0, 1] (S' := [_,_,_,_,_]) rfl ?_
      refine wc_skip ?_
      refine we_then ?_
      refine wc_seq ?_
      obtain ⟨bj_5, hm, hLj_5⟩ := bindS_some hm
      unfold m_ropewalkref01_Do_C5 at hm
      refine wc_cut (σ := Bool) (fun j_5_7 => bj_5 = .inl j_5_7) (fun j_5_7 => [(8, .int .i64 ((u1_8 : Nat) : Int)), (7, .bool j_5_7), (4, .pointer (some ⟨g4, 0, none⟩)), (0, .int .u8 a0), (1, .slice qp0 l1.length qc1)]) (fun j_5_7 => [.sli 3 R_V qp0 qc1 l1]) (fun j_5_7 => [.blk g4 [.int .u8 0, .int .i64 0, .string ((⟨#[]⟩ : ByteArray))] 25]) ?_ ?_
      ·
       refine wc_block ?_
       refine wc_seq ?_
       refine wc_seq ?_
       refine wc_region ?_
       refine wl_pure rfl rfl rfl (freshS_eq rfl) rfl ?_
       refine wl_pure rfl rfl rfl (freshS_eq rfl) rfl ?_
       obtain ⟨x40, hx40, hm⟩ := bindO_some hm
       refine wl_indexA 0 u1_8 rfl rfl rfl (freshS_eq rfl) rfl rfl rfl rfl rfl hx40 tE_30 tS_25 (fun b40 q40 cs40 hlx40 => ?_)
       refine wl_open R_V_opens 1 rfl (fun r40 er40 _ => ?_)
       subst er40
       refine wl_load 0 0 rfl rfl rfl (freshS_eq rfl) rfl rfl rfl (cs := [_,_,_]) rfl tS_25 tA_25 rfl rfl ?_
       obtain ⟨v42, hc42, hm⟩ := bindO_some hm
       refine wl_call [] [0] rfl rfl rfl (freshS_eq rfl) rfl rfl fn_31 rfl (w_ropewalkref01_Right_s N x40.k x40.n x40.s _ hc42) (fun _ _ hφ => ask [] rfl hφ) rfl (H' := [_]) rfl ?_
       rintro _ _ _ ⟨rfl, rfl, rfl⟩
       refine wl_pure rfl rfl rfl (freshS_eq rfl) rfl ?_
       refine wl_nil ?_
       refine we_then ?_
       refine wc_keep [43, 8, 7, 4, 0, 1] (S' := [_,_,_,_,_,_]) rfl ?_
       refine wc_cond rfl (fun hb43 => ?_) (fun hb43 => ?_)
       ·
        replace hm := iteT hm hb43
        refine wc_keep [4] (S' := [_]) rfl ?_
        refine wc_seq ?_
        refine wc_region ?_
        refine wl_build rfl rfl rfl (freshS_eq rfl) rfl tZ_25 tP_25 rfl (out := [_,_,_]) rfl ?_
        refine wl_store 0 0 rfl rfl rfl rfl rfl rfl rfl tS_25 rfl rfl rfl (all' := [_,_,_]) rfl (H' := [_]) rfl ?_
        refine wl_pure rfl rfl rfl (freshS_eq rfl) rfl ?_
        refine wl_nil ?_
        refine we_then ?_
        refine wc_keep [5, 4] (S' := [_,_]) rfl ?_
        refine wc_ret ?_
        refine we_then_ret ?_
        refine we_block_ret ?_
        refine we_then_ret ?_
        refine we_then_ret ?_
        refine we_block_ret ?_
        refine we_then_ret ?_
        have hE := (Option.some.inj hm).symm
        replace hE := link_inr hLj_5 hE
        replace hE := link_inr hLu1 hE
        replace hE := link_inr hLj_4 hE
        obtain ⟨hE0, hF1⟩ := Prod.mk.inj hE
        obtain ⟨hE1, hE2⟩ := Prod.mk.inj hF1
        clear hE hF1
        replace hE0 := hE0.symm
        subst hE0
        replace hE1 := hE1.symm
        subst hE1
        replace hE2 := hE2.symm
        subst hE2
        refine ret_two (Hr := []) [] Tryd.results30 (res_cell 0 rfl rfl tS_25 tA_25 rfl rfl) (res_tmp rfl) ⟨rfl, rfl, rfl⟩ (fun _ _ hφ => ask [] rfl hφ) rfl rfl (.inl rfl)
       ·
        replace hm := iteF hm hb43
        refine wc_keep [8, 7, 4, 0, 1] (S' := [_,_,_,_,_]) rfl ?_
        refine wc_skip ?_
        refine we_then ?_
        refine wc_region ?_
        refine wl_pure rfl rfl rfl (freshS_eq rfl) rfl ?_
        refine wl_pure rfl rfl rfl (freshS_eq rfl) rfl ?_
        refine wl_split (d := 46) (S' := [_,_,_,_,_,_]) rfl rfl (fun hs46 => ?_) (fun hs46 => ?_)
        ·
         replace hm := iteT hm hs46
         refine wl_off rfl rfl rfl (freshS_eq rfl) ?_
         refine wl_off rfl rfl rfl (freshS_eq rfl) ?_
         refine wl_off rfl rfl rfl (freshS_eq rfl) ?_
         refine wl_off rfl rfl rfl (freshS_eq rfl) ?_
         refine wl_off rfl rfl rfl (freshS_eq rfl) ?_
         refine wl_off rfl rfl rfl (freshS_eq rfl) ?_
         refine wl_pure rfl rfl rfl (freshS_eq rfl) rfl ?_
         refine wl_pure (S' := [_,_,_,_,_,_,_,_,_,_,_,_,_]) rfl rfl rfl rfl rfl ?_
         refine wl_nil ?_
         refine we_block_normal ?_
         have hE := (Option.some.inj hm).symm
         refine we_join true hE [8, 7, 4, 0, 1] rfl (fun _ _ hφ => ask [2] rfl hφ) rfl
        ·
         replace hm := iteF hm hs46
         refine wl_pure rfl rfl rfl (freshS_eq rfl) rfl ?_
         refine wl_pure rfl rfl rfl (freshS_eq rfl) rfl ?_
         obtain ⟨x49, hx49, hm⟩ := bindO_some hm
         refine wl_indexA 2 u1_8 rfl rfl rfl (freshS_eq rfl) rfl rfl rfl rfl rfl hx49 tE_30 tS_25 (fun b49 q49 cs49 hlx49 => ?_)
         refine wl_open R_V_opens 1 rfl (fun r49 er49 _ => ?_)
         subst er49
         refine wl_fieldAddr rfl rfl rfl (freshS_eq rfl) rfl rfl tF_25_0 ?_
         refine wl_load 0 0 rfl rfl rfl (freshS_eq rfl) rfl rfl rfl (cs := [_]) rfl tS_23 tA_23 rfl rfl ?_
         refine wl_pure rfl rfl rfl (freshS_eq rfl) rfl ?_
         refine wl_pure rfl rfl rfl (freshS_eq rfl) rfl ?_
         refine wl_pure (S' := [_,_,_,_,_,_,_,_,_,_,_,_,_]) rfl rfl rfl rfl rfl ?_
         refine wl_nil ?_
         refine we_block_normal ?_
         have hE := (Option.some.inj hm).symm
         refine we_join (x49.k == 2) hE [8, 7, 4, 0, 1] rfl (fun _ _ hφ => ask [4] rfl hφ) rfl
      ·
       rintro j_5_7 hE
       try dsimp only
       have hm := link_inl hLj_5 hE
       refine wc_region ?_
       refine wl_pure rfl rfl rfl (freshS_eq rfl) rfl ?_
       refine wl_pure rfl rfl rfl (freshS_eq rfl) rfl ?_
       obtain ⟨hg37, hm⟩ := gd_some hm
       refine wl_as (d := 37) (v' := .int .i64 ((u1_8 + 1 : Nat) : Int)) (S' := [_,_,_,_,_,_]) rfl rfl (nat_add (a := u1_8) (b := 1) hg37) ?_
       refine wl_pure (S' := [_,_,_,_,_,_]) rfl rfl rfl rfl rfl ?_
       refine wl_nil ?_
       have hE := (Option.some.inj hm).symm
       replace hE := link_inl hLu1 hE
       refine we_roundK (_, u1_8 + 1, j_5_7) (Nat.lt_succ_self _) hE [8, 7, 4, 0, 1] rfl (fun _ _ hφ => ask [0] rfl hφ) rfl
     ·
      replace hm := iteF hm hb35
      refine wc_keep [7, 4, 0, 1] (S' := [_,_,_,_]) rfl ?_
      refine wc_exit ?_
      refine we_then_exit ?_
      refine we_then_exit ?_
      refine we_block_hit ?_
      have hE := (Option.some.inj hm).symm
      replace hE := link_inr hLu1 hE
      refine we_join u1_7 hE [4, 0, 1, 7] rfl (fun _ _ hφ => ask [0] rfl hφ) rfl
    ·
     rintro j_4_7 hE
     try dsimp only
     have hm := link_inl hLj_4 hE
     refine wc_seq ?_
     obtain ⟨x55, hx55, hm⟩ := bindO_some hm
     obtain ⟨hg60, hm⟩ := gd_some hm
     obtain ⟨hn61, hm⟩ := gd_some hm
     obtain ⟨x61, hx61, hm⟩ := bindO_some hm
     refine wc_cut (σ := Nat × Nat) (fun _ => True) (fun (w_6_10_g, w_6_9_g) => [(10, .pointer (some ⟨w_6_10_g, 0, none⟩)), (9, .pointer (some ⟨w_6_9_g, 0, none⟩)), (4, .pointer (some ⟨g4, 0, none⟩)), (0, .int .u8 a0), (7, .bool j_4_7)]) (fun (w_6_10_g, w_6_9_g) => []) (fun (w_6_10_g, w_6_9_g) => [.blk w_6_10_g [.int .u8 (x61.k), .int .i64 (x61.n), .string x61.s] 25, .blk w_6_9_g [.int .u8 (x55.k), .int .i64 (x55.n), .string x55.s] 25, .blk g4 [.int .u8 0, .int .i64 0, .string ((⟨#[]⟩ : ByteArray))] 25]) ?_ ?_
     ·
      refine wc_draw [0, 1, 2, 3, 4, 5, 6, 7, 8] rfl rfl (fun hok => ?_)
      refine wx_pure hok 0 rfl rfl rfl (freshS_eq rfl) rfl rfl ?_
      refine wx_indexA hok 1 0 0 rfl rfl rfl (freshS_eq rfl) rfl rfl rfl rfl rfl rfl hx55 tE_30 tS_25 (fun b55 q55 cs55 hlx55 => ?_)
      refine wx_openR R_V_opens 1 rfl (fun r55 er55 _ => ?_)
      subst er55
      refine wx_load hok 2 0 0 rfl rfl rfl (freshS_eq rfl) rfl rfl rfl rfl (cs := [_,_,_]) rfl tS_25 tA_25 rfl rfl ?_
      refine wx_pure hok 3 rfl rfl rfl (freshS_eq rfl) rfl rfl ?_
      refine wx_pure hok 4 rfl rfl rfl (freshS_eq rfl) rfl rfl ?_
      refine wx_len hok 5 rfl rfl rfl (freshS_eq rfl) rfl rfl rfl tE_30 ?_
      refine wx_pure hok 6 rfl rfl rfl (freshS_eq rfl) rfl rfl ?_
      refine wx_as (d := 60) (v' := .int .i64 (((l1.length : Nat) : Int) - 1)) (S' := [_,_,_,_,_,_,_,_,_,_]) rfl rfl (i64_in hg60) ?_
      refine wx_indexA hok 7 2 ((((l1.length : Nat) : Int) - 1).toNat) rfl rfl rfl (freshS_eq rfl) rfl rfl rfl rfl rfl (toNat_eq hn61) hx61 tE_30 tS_25 (fun b61 q61 cs61 hlx61 => ?_)
      refine wx_openR R_V_opens 1 rfl (fun r61 er61 _ => ?_)
      subst er61
      refine wx_load hok 8 0 0 rfl rfl rfl (freshS_eq rfl) rfl rfl rfl rfl (cs := [_,_,_]) rfl tS_25 tA_25 rfl rfl ?_
      refine wx_step2 hok 9 10 rfl rfl rfl rfl rfl rfl ?_ ?_
      ·
       refine wl_alloc rfl rfl rfl (freshS_eq rfl) rfl tZ_25 rfl (fun g9 => ?_)
       refine wl_nil ?_
       refine we_x [0, 1, 2, 3, 4] [] rfl rfl ?_
       refine wx_step1 hok 10 rfl rfl rfl rfl ?_
       refine wl_alloc rfl rfl rfl (freshS_eq rfl) rfl tZ_25 rfl (fun g10 => ?_)
       refine wl_nil ?_
       refine we_x [0, 1, 2, 3, 4] [] rfl rfl ?_
       refine wx_step1 hok 11 rfl rfl rfl rfl ?_
       refine wl_store 1 0 rfl rfl rfl rfl rfl rfl rfl tS_25 rfl rfl rfl (all' := [_,_,_]) rfl (H' := [_,_,_]) rfl ?_
       refine wl_nil ?_
       refine we_x [0, 1, 2, 3, 4] [] rfl rfl ?_
       refine wx_step1 hok 12 rfl rfl rfl rfl ?_
       refine wl_store 0 0 rfl rfl rfl rfl rfl rfl rfl tS_25 rfl rfl rfl (all' := [_,_,_]) rfl (H' := [_,_,_]) rfl ?_
       refine wl_nil ?_
       refine we_x [0, 1, 2, 3, 4] [] rfl rfl ?_
       refine wx_done hok rfl ?_
       refine we_join (g10, g9) trivial [10, 9, 4, 0, 7] rfl (fun _ _ hφ => ask [] rfl hφ) rfl
      ·
       refine wl_alloc rfl rfl rfl (freshS_eq rfl) rfl tZ_25 rfl (fun g10 => ?_)
       refine wl_nil ?_
       refine we_x [0, 1, 2, 3, 4] [] rfl rfl ?_
       refine wx_step1 hok 9 rfl rfl rfl rfl ?_
       refine wl_alloc rfl rfl rfl (freshS_eq rfl) rfl tZ_25 rfl (fun g9 => ?_)
       refine wl_nil ?_
       refine we_x [0, 1, 2, 3, 4] [] rfl rfl ?_
       refine wx_step1 hok 11 rfl rfl rfl rfl ?_
       refine wl_store 0 0 rfl rfl rfl rfl rfl rfl rfl tS_25 rfl rfl rfl (all' := [_,_,_]) rfl (H' := [_,_,_]) rfl ?_
       refine wl_nil ?_
       refine we_x [0, 1, 2, 3, 4] [] rfl rfl ?_
       refine wx_step1 hok 12 rfl rfl rfl rfl ?_
       refine wl_store 1 0 rfl rfl rfl rfl rfl rfl rfl tS_25 rfl rfl rfl (all' := [_,_,_]) rfl (H' := [_,_,_]) rfl ?_
       refine wl_nil ?_
       refine we_x [0, 1, 2, 3, 4] [] rfl rfl ?_
       refine wx_done hok rfl ?_
       refine we_pick [1, 0, 2] rfl (H' := [_,_,_]) rfl ?_
       refine we_join (g10, g9) trivial [10, 9, 4, 0, 7] rfl (fun _ _ hφ => ask [] rfl hφ) rfl
     ·
      rintro ⟨w_6_10_g, w_6_9_g⟩ _
      try dsimp only
      refine wc_seq ?_
      refine wc_seq ?_
      obtain ⟨bj_7, hm, hLj_7⟩ := bindO_some hm
      refine wc_cut (σ := Bool) (fun j_7_68 => bj_7 = j_7_68) (fun j_7_68 => [(10, .pointer (some ⟨w_6_10_g, 0, none⟩)), (9, .pointer (some ⟨w_6_9_g, 0, none⟩)), (4, .pointer (some ⟨g4, 0, none⟩)), (0, .int .u8 a0), (7, .bool j_4_7), (68, .bool j_7_68)]) (fun j_7_68 => []) (fun j_7_68 => [.blk w_6_10_g [.int .u8 (x61.k), .int .i64 (x61.n), .string x61.s] 25, .blk w_6_9_g [.int .u8 (x55.k), .int .i64 (x55.n), .string x55.s] 25, .blk g4 [.int .u8 0, .int .i64 0, .string ((⟨#[]⟩ : ByteArray))] 25]) ?_ ?_
      ·
       refine wc_region ?_
       refine wl_pure rfl rfl rfl (freshS_eq rfl) rfl ?_
       refine wl_pure rfl rfl rfl (freshS_eq rfl) rfl ?_
       refine wl_pure rfl rfl rfl (freshS_eq rfl) rfl ?_
       refine wl_split (d := 65) (S' := [_,_,_,_,_,_,_]) rfl rfl (fun hs65 => ?_) (fun hs65 => ?_)
       ·
        replace hm := iteT hm hs65
        refine wl_off rfl rfl rfl (freshS_eq rfl) ?_
        refine wl_off rfl rfl rfl (freshS_eq rfl) ?_
        refine wl_pure rfl rfl rfl (freshS_eq rfl) rfl ?_
        refine wl_nil ?_
        have hE := (Option.some.inj hm).symm
        refine we_join true hE [10, 9, 4, 0, 7, 68] rfl (fun _ _ hφ => ask [] rfl hφ) rfl
       ·
        replace hm := iteF hm hs65
        refine wl_pure rfl rfl rfl (freshS_eq rfl) rfl ?_
        refine wl_pure rfl rfl rfl (freshS_eq rfl) rfl ?_
        refine wl_pure rfl rfl rfl (freshS_eq rfl) rfl ?_
        refine wl_nil ?_
        have hE := (Option.some.inj hm).symm
        refine we_join (a0 == 6) hE [10, 9, 4, 0, 7, 68] rfl (fun _ _ hφ => ask [] rfl hφ) rfl
      ·
       rintro j_7_68 hE
       try dsimp only
       have hm := hLj_7
       rw [hE] at hm
       refine wc_cond rfl (fun hb68 => ?_) (fun hb68 => ?_)
       ·
        replace hm := iteT hm hb68
        refine wc_keep [10, 9, 4, 0] (S' := [_,_,_,_]) rfl ?_
        refine wc_seq ?_
        refine wc_region ?_
        refine wl_loadH 1 0 rfl rfl rfl (freshS_eq rfl) rfl rfl rfl (cs := [_,_,_]) rfl tS_25 tA_25 rfl rfl ?_
        refine wl_loadH 0 0 rfl rfl rfl (freshS_eq rfl) rfl rfl rfl (cs := [_,_,_]) rfl tS_25 tA_25 rfl rfl ?_
        refine wl_bin rfl rfl rfl (freshS_eq rfl) rfl rfl rfl (eqlV _ _ x55 x61) ?_
        refine wl_pure rfl rfl rfl (freshS_eq rfl) rfl ?_
        refine wl_pure rfl rfl rfl (freshS_eq rfl) rfl ?_
        refine wl_bin rfl rfl rfl (freshS_eq rfl) rfl rfl rfl (eqlB _ _ (decide (x55 = x61)) (a0 == 5)) ?_
        obtain ⟨v75, hc75, hm⟩ := bindO_some hm
        refine wl_call [] [0, 1, 2] rfl rfl rfl (freshS_eq rfl) rfl rfl fn_40 rfl (w_ropewalkref01_Truth_s N ((decide (x55 = x61)) == (a0 == 5)) _ hc75) (fun _ _ hφ => ask [] rfl hφ) rfl (H' := [_,_,_]) rfl ?_
        rintro _ _ _ ⟨rfl, rfl, rfl⟩
        refine wl_store 2 0 rfl rfl rfl rfl rfl rfl rfl tS_25 rfl rfl rfl (all' := [_,_,_]) rfl (H' := [_,_,_]) rfl ?_
        refine wl_pure rfl rfl rfl (freshS_eq rfl) rfl ?_
        refine wl_nil ?_
        refine we_then ?_
        refine wc_keep [5, 4] (S' := [_,_]) rfl ?_
        refine wc_ret ?_
        refine we_then_ret ?_
        have hE := (Option.some.inj hm).symm
        obtain ⟨hE0, hF1⟩ := Prod.mk.inj hE
        obtain ⟨hE1, hE2⟩ := Prod.mk.inj hF1
        clear hE hF1
        replace hE0 := hE0.symm
        subst hE0
        replace hE1 := hE1.symm
        subst hE1
        replace hE2 := hE2.symm
        subst hE2
        refine ret_two (Hr := []) [] Tryd.results30 (res_cell 2 rfl rfl tS_25 tA_25 rfl rfl) (res_tmp rfl) ⟨rfl, rfl, rfl⟩ (fun _ _ hφ => ask [] rfl hφ) rfl rfl (.inl rfl)
       ·
        replace hm := iteF hm hb68
        refine wc_keep [10, 9, 4, 0, 7] (S' := [_,_,_,_,_]) rfl ?_
        refine wc_skip ?_
        refine we_then ?_
        refine wc_seq ?_
        refine wc_seq ?_
        refine wc_region ?_
        refine wl_pure rfl rfl rfl (freshS_eq rfl) rfl ?_
        refine wl_nil ?_
        refine we_then ?_
        refine wc_keep [76, 10, 9, 4, 0] (S' := [_,_,_,_,_]) rfl ?_
        refine wc_cond rfl (fun hb76 => ?_) (fun hb76 => ?_)
        ·
         replace hm := iteT hm hb76
         refine wc_keep [4] (S' := [_]) rfl ?_
         refine wc_seq ?_
         refine wc_region ?_
         refine wl_build rfl rfl rfl (freshS_eq rfl) rfl tZ_25 tP_25 rfl (out := [_,_,_]) rfl ?_
         refine wl_store 2 0 rfl rfl rfl rfl rfl rfl rfl tS_25 rfl rfl rfl (all' := [_,_,_]) rfl (H' := [_,_,_]) rfl ?_
         refine wl_pure rfl rfl rfl (freshS_eq rfl) rfl ?_
         refine wl_nil ?_
         refine we_then ?_
         refine wc_keep [5, 4] (S' := [_,_]) rfl ?_
         refine wc_ret ?_
         refine we_then_ret ?_
         have hE := (Option.some.inj hm).symm
         obtain ⟨hE0, hF1⟩ := Prod.mk.inj hE
         obtain ⟨hE1, hE2⟩ := Prod.mk.inj hF1
         clear hE hF1
         replace hE0 := hE0.symm
         subst hE0
         replace hE1 := hE1.symm
         subst hE1
         replace hE2 := hE2.symm
         subst hE2
         refine ret_two (Hr := []) [] Tryd.results30 (res_cell 2 rfl rfl tS_25 tA_25 rfl rfl) (res_tmp rfl) ⟨rfl, rfl, rfl⟩ (fun _ _ hφ => ask [] rfl hφ) rfl rfl (.inl rfl)
        ·
         replace hm := iteF hm hb76
         refine wc_keep [10, 9, 4, 0] (S' := [_,_,_,_]) rfl ?_
         refine wc_skip ?_
         refine we_then ?_
         refine wc_seq ?_
         refine wc_seq ?_
         refine wc_region ?_
         refine wl_pure rfl rfl rfl (freshS_eq rfl) rfl ?_
         refine wl_nil ?_
         refine we_then ?_
         refine wc_block ?_
         refine wc_seq ?_
         refine wc_region ?_
         refine wl_pure rfl rfl rfl (freshS_eq rfl) rfl ?_
         refine wl_pure rfl rfl rfl (freshS_eq rfl) rfl ?_
         refine wl_nil ?_
         refine we_then ?_
         refine wc_keep [79, 78, 10, 9, 4, 0] (S' := [_,_,_,_,_,_]) rfl ?_
         refine wc_cond rfl (fun hb79 => ?_) (fun hb79 => ?_)
         ·
          replace hm := iteT hm hb79
          refine wc_keep [10, 9, 4] (S' := [_,_,_]) rfl ?_
          refine wc_seq ?_
          refine wc_region ?_
          refine wl_fieldAddr rfl rfl rfl (freshS_eq rfl) rfl rfl tF_25_1 ?_
          refine wl_loadH 1 1 rfl rfl rfl (freshS_eq rfl) rfl rfl rfl (cs := [_]) rfl tS_2 tA_2 rfl rfl ?_
          refine wl_fieldAddr rfl rfl rfl (freshS_eq rfl) rfl rfl tF_25_1 ?_
          refine wl_loadH 0 1 rfl rfl rfl (freshS_eq rfl) rfl rfl rfl (cs := [_]) rfl tS_2 tA_2 rfl rfl ?_
          refine wl_pure rfl rfl rfl (freshS_eq rfl) rfl ?_
          obtain ⟨v86, hc86, hm⟩ := bindO_some hm
          refine wl_call [] [0, 1, 2] rfl rfl rfl (freshS_eq rfl) rfl rfl fn_40 rfl (w_ropewalkref01_Truth_s N (decide (x55.n < x61.n)) _ hc86) (fun _ _ hφ => ask [] rfl hφ) rfl (H' := [_,_,_]) rfl ?_
          rintro _ _ _ ⟨rfl, rfl, rfl⟩
          refine wl_store 2 0 rfl rfl rfl rfl rfl rfl rfl tS_25 rfl rfl rfl (all' := [_,_,_]) rfl (H' := [_,_,_]) rfl ?_
          refine wl_pure rfl rfl rfl (freshS_eq rfl) rfl ?_
          refine wl_nil ?_
          refine we_then ?_
          refine wc_keep [5, 4] (S' := [_,_]) rfl ?_
          refine wc_ret ?_
          refine we_block_ret ?_
          refine we_then_ret ?_
          have hE := (Option.some.inj hm).symm
          obtain ⟨hE0, hF1⟩ := Prod.mk.inj hE
          obtain ⟨hE1, hE2⟩ := Prod.mk.inj hF1
          clear hE hF1
          replace hE0 := hE0.symm
          subst hE0
          replace hE1 := hE1.symm
          subst hE1
          replace hE2 := hE2.symm
          subst hE2
          refine ret_two (Hr := []) [] Tryd.results30 (res_cell 2 rfl rfl tS_25 tA_25 rfl rfl) (res_tmp rfl) ⟨rfl, rfl, rfl⟩ (fun _ _ hφ => ask [] rfl hφ) rfl rfl (.inl rfl)
         ·
          replace hm := iteF hm hb79
          refine wc_keep [78, 10, 9, 4, 0] (S' := [_,_,_,_,_]) rfl ?_
          refine wc_seq ?_
          refine wc_region ?_
          refine wl_pure rfl rfl rfl (freshS_eq rfl) rfl ?_
          refine wl_pure rfl rfl rfl (freshS_eq rfl) rfl ?_
          refine wl_nil ?_
          refine we_then ?_
          refine wc_keep [87, 78, 10, 9, 4, 0] (S' := [_,_,_,_,_,_]) rfl ?_
          refine wc_cond rfl (fun hb87 => ?_) (fun hb87 => ?_)
          ·
           replace hm := iteT hm hb87
           refine wc_keep [10, 9, 4] (S' := [_,_,_]) rfl ?_
           refine wc_seq ?_
           refine wc_region ?_
           refine wl_fieldAddr rfl rfl rfl (freshS_eq rfl) rfl rfl tF_25_1 ?_
           refine wl_loadH 1 1 rfl rfl rfl (freshS_eq rfl) rfl rfl rfl (cs := [_]) rfl tS_2 tA_2 rfl rfl ?_
           refine wl_fieldAddr rfl rfl rfl (freshS_eq rfl) rfl rfl tF_25_1 ?_
           refine wl_loadH 0 1 rfl rfl rfl (freshS_eq rfl) rfl rfl rfl (cs := [_]) rfl tS_2 tA_2 rfl rfl ?_
           refine wl_pure rfl rfl rfl (freshS_eq rfl) rfl ?_
           obtain ⟨v94, hc94, hm⟩ := bindO_some hm
           refine wl_call [] [0, 1, 2] rfl rfl rfl (freshS_eq rfl) rfl rfl fn_40 rfl (w_ropewalkref01_Truth_s N (decide (x55.n ≤ x61.n)) _ hc94) (fun _ _ hφ => ask [] rfl hφ) rfl (H' := [_,_,_]) rfl ?_
           rintro _ _ _ ⟨rfl, rfl, rfl⟩
           refine wl_store 2 0 rfl rfl rfl rfl rfl rfl rfl tS_25 rfl rfl rfl (all' := [_,_,_]) rfl (H' := [_,_,_]) rfl ?_
           refine wl_pure rfl rfl rfl (freshS_eq rfl) rfl ?_
           refine wl_nil ?_
           refine we_then ?_
           refine wc_keep [5, 4] (S' := [_,_]) rfl ?_
           refine wc_ret ?_
           refine we_block_ret ?_
           refine we_then_ret ?_
           have hE := (Option.some.inj hm).symm
           obtain ⟨hE0, hF1⟩ := Prod.mk.inj hE
           obtain ⟨hE1, hE2⟩ := Prod.mk.inj hF1
           clear hE hF1
           replace hE0 := hE0.symm
           subst hE0
           replace hE1 := hE1.symm
           subst hE1
           replace hE2 := hE2.symm
           subst hE2
           refine ret_two (Hr := []) [] Tryd.results30 (res_cell 2 rfl rfl tS_25 tA_25 rfl rfl) (res_tmp rfl) ⟨rfl, rfl, rfl⟩ (fun _ _ hφ => ask [] rfl hφ) rfl rfl (.inl rfl)
          ·
           replace hm := iteF hm hb87
           refine wc_keep [78, 10, 9, 4, 0] (S' := [_,_,_,_,_]) rfl ?_
           refine wc_seq ?_
           refine wc_region ?_
           refine wl_pure rfl rfl rfl (freshS_eq rfl) rfl ?_
           refine wl_pure rfl rfl rfl (freshS_eq rfl) rfl ?_
           refine wl_nil ?_
           refine we_then ?_
           refine wc_keep [95, 78, 10, 9, 4, 0] (S' := [_,_,_,_,_,_]) rfl ?_
           refine wc_cond rfl (fun hb95 => ?_) (fun hb95 => ?_)
           ·
            replace hm := iteT hm hb95
            refine wc_keep [10, 9, 4] (S' := [_,_,_]) rfl ?_
            refine wc_seq ?_
            refine wc_region ?_
            refine wl_fieldAddr rfl rfl rfl (freshS_eq rfl) rfl rfl tF_25_1 ?_
            refine wl_loadH 1 1 rfl rfl rfl (freshS_eq rfl) rfl rfl rfl (cs := [_]) rfl tS_2 tA_2 rfl rfl ?_
            refine wl_pure rfl rfl rfl (freshS_eq rfl) rfl ?_
            refine wl_pure rfl rfl rfl (freshS_eq rfl) rfl ?_
            refine wl_split (d := 100) (S' := [_,_,_,_,_,_]) rfl rfl (fun hs100 => ?_) (fun hs100 => ?_)
            ·
             replace hm := iteT hm hs100
             refine wl_fieldAddr rfl rfl rfl (freshS_eq rfl) rfl rfl tF_25_1 ?_
             refine wl_loadH 0 1 rfl rfl rfl (freshS_eq rfl) rfl rfl rfl (cs := [_]) rfl tS_2 tA_2 rfl rfl ?_
             refine wl_pure rfl rfl rfl (freshS_eq rfl) rfl ?_
             refine wl_pure rfl rfl rfl (freshS_eq rfl) rfl ?_
             obtain ⟨v105, hc105, hm⟩ := bindO_some hm
             refine wl_call [] [0, 1, 2] rfl rfl rfl (freshS_eq rfl) rfl rfl fn_40 rfl (w_ropewalkref01_Truth_s N (x61.n != 0) _ hc105) (fun _ _ hφ => ask [] rfl hφ) rfl (H' := [_,_,_]) rfl ?_
             rintro _ _ _ ⟨rfl, rfl, rfl⟩
             refine wl_store 2 0 rfl rfl rfl rfl rfl rfl rfl tS_25 rfl rfl rfl (all' := [_,_,_]) rfl (H' := [_,_,_]) rfl ?_
             refine wl_pure rfl rfl rfl (freshS_eq rfl) rfl ?_
             refine wl_nil ?_
             refine we_then ?_
             refine wc_keep [5, 4] (S' := [_,_]) rfl ?_
             refine wc_ret ?_
             refine we_block_ret ?_
             refine we_then_ret ?_
             have hE := (Option.some.inj hm).symm
             obtain ⟨hE0, hF1⟩ := Prod.mk.inj hE
             obtain ⟨hE1, hE2⟩ := Prod.mk.inj hF1
             clear hE hF1
             replace hE0 := hE0.symm
             subst hE0
             replace hE1 := hE1.symm
             subst hE1
             replace hE2 := hE2.symm
             subst hE2
             refine ret_two (Hr := []) [] Tryd.results30 (res_cell 2 rfl rfl tS_25 tA_25 rfl rfl) (res_tmp rfl) ⟨rfl, rfl, rfl⟩ (fun _ _ hφ => ask [] rfl hφ) rfl rfl (.inl rfl)
            ·
             replace hm := iteF hm hs100
             refine wl_off rfl rfl rfl (freshS_eq rfl) ?_
             refine wl_off rfl rfl rfl (freshS_eq rfl) ?_
             refine wl_off rfl rfl rfl (freshS_eq rfl) ?_
             refine wl_pure rfl rfl rfl (freshS_eq rfl) rfl ?_
             obtain ⟨v105, hc105, hm⟩ := bindO_some hm
             refine wl_call [] [0, 1, 2] rfl rfl rfl (freshS_eq rfl) rfl rfl fn_40 rfl (w_ropewalkref01_Truth_s N false _ hc105) (fun _ _ hφ => ask [] rfl hφ) rfl (H' := [_,_,_]) rfl ?_
             rintro _ _ _ ⟨rfl, rfl, rfl⟩
             refine wl_store 2 0 rfl rfl rfl rfl rfl rfl rfl tS_25 rfl rfl rfl (all' := [_,_,_]) rfl (H' := [_,_,_]) rfl ?_
             refine wl_pure rfl rfl rfl (freshS_eq rfl) rfl ?_
             refine wl_nil ?_
             refine we_then ?_
             refine wc_keep [5, 4] (S' := [_,_]) rfl ?_
             refine wc_ret ?_
             refine we_block_ret ?_
             refine we_then_ret ?_
             have hE := (Option.some.inj hm).symm
             obtain ⟨hE0, hF1⟩ := Prod.mk.inj hE
             obtain ⟨hE1, hE2⟩ := Prod.mk.inj hF1
             clear hE hF1
             replace hE0 := hE0.symm
             subst hE0
             replace hE1 := hE1.symm
             subst hE1
             replace hE2 := hE2.symm
             subst hE2
             refine ret_two (Hr := []) [] Tryd.results30 (res_cell 2 rfl rfl tS_25 tA_25 rfl rfl) (res_tmp rfl) ⟨rfl, rfl, rfl⟩ (fun _ _ hφ => ask [] rfl hφ) rfl rfl (.inl rfl)
           ·
            replace hm := iteF hm hb95
            refine wc_keep [78, 10, 9, 4, 0] (S' := [_,_,_,_,_]) rfl ?_
            refine wc_seq ?_
            refine wc_region ?_
            refine wl_pure rfl rfl rfl (freshS_eq rfl) rfl ?_
            refine wl_pure rfl rfl rfl (freshS_eq rfl) rfl ?_
            refine wl_nil ?_
            refine we_then ?_
            refine wc_keep [106, 78, 10, 9, 4, 0] (S' := [_,_,_,_,_,_]) rfl ?_
            refine wc_cond rfl (fun hb106 => ?_) (fun hb106 => ?_)
            ·
             replace hm := iteT hm hb106
             refine wc_keep [10, 9, 4] (S' := [_,_,_]) rfl ?_
             refine wc_seq ?_
             refine wc_region ?_
             refine wl_fieldAddr rfl rfl rfl (freshS_eq rfl) rfl rfl tF_25_1 ?_
             refine wl_loadH 1 1 rfl rfl rfl (freshS_eq rfl) rfl rfl rfl (cs := [_]) rfl tS_2 tA_2 rfl rfl ?_
             refine wl_pure rfl rfl rfl (freshS_eq rfl) rfl ?_
             refine wl_pure rfl rfl rfl (freshS_eq rfl) rfl ?_
             refine wl_split (d := 111) (S' := [_,_,_,_,_,_]) rfl rfl (fun hs111 => ?_) (fun hs111 => ?_)
             ·
              replace hm := iteT hm hs111
              refine wl_off rfl rfl rfl (freshS_eq rfl) ?_
              refine wl_off rfl rfl rfl (freshS_eq rfl) ?_
              refine wl_off rfl rfl rfl (freshS_eq rfl) ?_
              refine wl_pure rfl rfl rfl (freshS_eq rfl) rfl ?_
              obtain ⟨v116, hc116, hm⟩ := bindO_some hm
              refine wl_call [] [0, 1, 2] rfl rfl rfl (freshS_eq rfl) rfl rfl fn_40 rfl (w_ropewalkref01_Truth_s N true _ hc116) (fun _ _ hφ => ask [] rfl hφ) rfl (H' := [_,_,_]) rfl ?_
              rintro _ _ _ ⟨rfl, rfl, rfl⟩
              refine wl_store 2 0 rfl rfl rfl rfl rfl rfl rfl tS_25 rfl rfl rfl (all' := [_,_,_]) rfl (H' := [_,_,_]) rfl ?_
              refine wl_pure rfl rfl rfl (freshS_eq rfl) rfl ?_
              refine wl_nil ?_
              refine we_then ?_
              refine wc_keep [5, 4] (S' := [_,_]) rfl ?_
              refine wc_ret ?_
              refine we_block_ret ?_
              refine we_then_ret ?_
              have hE := (Option.some.inj hm).symm
              obtain ⟨hE0, hF1⟩ := Prod.mk.inj hE
              obtain ⟨hE1, hE2⟩ := Prod.mk.inj hF1
              clear hE hF1
              replace hE0 := hE0.symm
              subst hE0
              replace hE1 := hE1.symm
              subst hE1
              replace hE2 := hE2.symm
              subst hE2
              refine ret_two (Hr := []) [] Tryd.results30 (res_cell 2 rfl rfl tS_25 tA_25 rfl rfl) (res_tmp rfl) ⟨rfl, rfl, rfl⟩ (fun _ _ hφ => ask [] rfl hφ) rfl rfl (.inl rfl)
             ·
              replace hm := iteF hm hs111
              refine wl_fieldAddr rfl rfl rfl (freshS_eq rfl) rfl rfl tF_25_1 ?_
              refine wl_loadH 0 1 rfl rfl rfl (freshS_eq rfl) rfl rfl rfl (cs := [_]) rfl tS_2 tA_2 rfl rfl ?_
              refine wl_pure rfl rfl rfl (freshS_eq rfl) rfl ?_
              refine wl_pure rfl rfl rfl (freshS_eq rfl) rfl ?_
              obtain ⟨v116, hc116, hm⟩ := bindO_some hm
              refine wl_call [] [0, 1, 2] rfl rfl rfl (freshS_eq rfl) rfl rfl fn_40 rfl (w_ropewalkref01_Truth_s N (x61.n != 0) _ hc116) (fun _ _ hφ => ask [] rfl hφ) rfl (H' := [_,_,_]) rfl ?_
              rintro _ _ _ ⟨rfl, rfl, rfl⟩
              refine wl_store 2 0 rfl rfl rfl rfl rfl rfl rfl tS_25 rfl rfl rfl (all' := [_,_,_]) rfl (H' := [_,_,_]) rfl ?_
              refine wl_pure rfl rfl rfl (freshS_eq rfl) rfl ?_
              refine wl_nil ?_
              refine we_then ?_
              refine wc_keep [5, 4] (S' := [_,_]) rfl ?_
              refine wc_ret ?_
              refine we_block_ret ?_
              refine we_then_ret ?_
              have hE := (Option.some.inj hm).symm
              obtain ⟨hE0, hF1⟩ := Prod.mk.inj hE
              obtain ⟨hE1, hE2⟩ := Prod.mk.inj hF1
              clear hE hF1
              replace hE0 := hE0.symm
              subst hE0
              replace hE1 := hE1.symm
              subst hE1
              replace hE2 := hE2.symm
              subst hE2
              refine ret_two (Hr := []) [] Tryd.results30 (res_cell 2 rfl rfl tS_25 tA_25 rfl rfl) (res_tmp rfl) ⟨rfl, rfl, rfl⟩ (fun _ _ hφ => ask [] rfl hφ) rfl rfl (.inl rfl)
            ·
             replace hm := iteF hm hb106
             refine wc_keep [78, 10, 9, 4, 0] (S' := [_,_,_,_,_]) rfl ?_
             refine wc_seq ?_
             refine wc_region ?_
             refine wl_pure rfl rfl rfl (freshS_eq rfl) rfl ?_
             refine wl_pure rfl rfl rfl (freshS_eq rfl) rfl ?_
             refine wl_nil ?_
             refine we_then ?_
             refine wc_keep [117, 10, 9, 4, 0] (S' := [_,_,_,_,_]) rfl ?_
             refine wc_cond rfl (fun hb117 => ?_) (fun hb117 => ?_)
             ·
              replace hm := iteT hm hb117
              refine wc_keep [9, 4] (S' := [_,_]) rfl ?_
              refine wc_seq ?_
              refine wc_region ?_
              refine wl_fieldAddr rfl rfl rfl (freshS_eq rfl) rfl rfl tF_25_1 ?_
              refine wl_loadH 1 1 rfl rfl rfl (freshS_eq rfl) rfl rfl rfl (cs := [_]) rfl tS_2 tA_2 rfl rfl ?_
              refine wl_pure rfl rfl rfl (freshS_eq rfl) rfl ?_
              obtain ⟨v122, hc122, hm⟩ := bindO_some hm
              refine wl_call [] [0, 1, 2] rfl rfl rfl (freshS_eq rfl) rfl rfl fn_40 rfl (w_ropewalkref01_Truth_s N (x55.n == 0) _ hc122) (fun _ _ hφ => ask [] rfl hφ) rfl (H' := [_,_,_]) rfl ?_
              rintro _ _ _ ⟨rfl, rfl, rfl⟩
              refine wl_store 2 0 rfl rfl rfl rfl rfl rfl rfl tS_25 rfl rfl rfl (all' := [_,_,_]) rfl (H' := [_,_,_]) rfl ?_
              refine wl_pure rfl rfl rfl (freshS_eq rfl) rfl ?_
              refine wl_nil ?_
              refine we_then ?_
              refine wc_keep [5, 4] (S' := [_,_]) rfl ?_
              refine wc_ret ?_
              refine we_block_ret ?_
              refine we_then_ret ?_
              have hE := (Option.some.inj hm).symm
              obtain ⟨hE0, hF1⟩ := Prod.mk.inj hE
              obtain ⟨hE1, hE2⟩ := Prod.mk.inj hF1
              clear hE hF1
              replace hE0 := hE0.symm
              subst hE0
              replace hE1 := hE1.symm
              subst hE1
              replace hE2 := hE2.symm
              subst hE2
              refine ret_two (Hr := []) [] Tryd.results30 (res_cell 2 rfl rfl tS_25 tA_25 rfl rfl) (res_tmp rfl) ⟨rfl, rfl, rfl⟩ (fun _ _ hφ => ask [] rfl hφ) rfl rfl (.inl rfl)
             ·
              replace hm := iteF hm hb117
              refine wc_keep [10, 9, 4, 0] (S' := [_,_,_,_]) rfl ?_
              refine wc_skip ?_
              refine we_block_normal ?_
              refine we_then ?_
              refine wc_seq ?_
              refine wc_region ?_
              refine wl_pure rfl rfl rfl (freshS_eq rfl) rfl ?_
              refine wl_fieldAddr rfl rfl rfl (freshS_eq rfl) rfl rfl tF_25_1 ?_
              refine wl_loadH 1 1 rfl rfl rfl (freshS_eq rfl) rfl rfl rfl (cs := [_]) rfl tS_2 tA_2 rfl rfl ?_
              refine wl_fieldAddr rfl rfl rfl (freshS_eq rfl) rfl rfl tF_25_1 ?_
              refine wl_loadH 0 1 rfl rfl rfl (freshS_eq rfl) rfl rfl rfl (cs := [_]) rfl tS_2 tA_2 rfl rfl ?_
              obtain ⟨⟨v129_0, v129_1⟩, hc129, hm⟩ := bindO_some hm
              try dsimp only at hm
              refine wl_call [] [0, 1, 2] rfl rfl rfl (freshS_eq rfl) rfl rfl fn_41 rfl (w_ropewalkref01_reckoned_s N a0 x55.n x61.n _ _ hc129) (fun _ _ hφ => ask [] rfl hφ) rfl (H' := [_,_,_]) rfl ?_
              rintro _ _ _ ⟨rfl, rfl, rfl⟩
              refine wl_pure rfl rfl rfl (freshS_eq rfl) rfl ?_
              refine wl_pure rfl rfl rfl (freshS_eq rfl) rfl ?_
              refine wl_pure rfl rfl rfl (freshS_eq rfl) rfl ?_
              refine wl_pure rfl rfl rfl (freshS_eq rfl) rfl ?_
              refine wl_pure rfl rfl rfl (freshS_eq rfl) rfl ?_
              refine wl_nil ?_
              refine we_then ?_
              refine wc_keep [12, 11, 4] (S' := [_,_,_]) rfl ?_
              refine wc_seq ?_
              refine wc_seq ?_
              refine wc_region ?_
              refine wl_pure rfl rfl rfl (freshS_eq rfl) rfl ?_
              refine wl_pure rfl rfl rfl (freshS_eq rfl) rfl ?_
              refine wl_nil ?_
              refine we_then ?_
              refine wc_keep [133, 11, 4] (S' := [_,_,_]) rfl ?_
              refine wc_cond rfl (fun hb133 => ?_) (fun hb133 => ?_)
              ·
               replace hm := iteT hm hb133
               refine wc_keep [4] (S' := [_]) rfl ?_
               refine wc_seq ?_
               refine wc_region ?_
               refine wl_build rfl rfl rfl (freshS_eq rfl) rfl tZ_25 tP_25 rfl (out := [_,_,_]) rfl ?_
               refine wl_store 2 0 rfl rfl rfl rfl rfl rfl rfl tS_25 rfl rfl rfl (all' := [_,_,_]) rfl (H' := [_,_,_]) rfl ?_
               refine wl_pure rfl rfl rfl (freshS_eq rfl) rfl ?_
               refine wl_nil ?_
               refine we_then ?_
               refine wc_keep [5, 4] (S' := [_,_]) rfl ?_
               refine wc_ret ?_
               refine we_then_ret ?_
               have hE := (Option.some.inj hm).symm
               obtain ⟨hE0, hF1⟩ := Prod.mk.inj hE
               obtain ⟨hE1, hE2⟩ := Prod.mk.inj hF1
               clear hE hF1
               replace hE0 := hE0.symm
               subst hE0
               replace hE1 := hE1.symm
               subst hE1
               replace hE2 := hE2.symm
               subst hE2
               refine ret_two (Hr := []) [] Tryd.results30 (res_cell 2 rfl rfl tS_25 tA_25 rfl rfl) (res_tmp rfl) ⟨rfl, rfl, rfl⟩ (fun _ _ hφ => ask [] rfl hφ) rfl rfl (.inl rfl)
              ·
               replace hm := iteF hm hb133
               refine wc_keep [11, 4] (S' := [_,_]) rfl ?_
               refine wc_skip ?_
               refine we_then ?_
               refine wc_seq ?_
               refine wc_region ?_
               refine wl_pure rfl rfl rfl (freshS_eq rfl) rfl ?_
               obtain ⟨_, hc136, hm⟩ := bindO_some hm
               try dsimp only at hm
               refine wl_call [] [0, 1, 2] rfl rfl rfl (freshS_eq rfl) rfl rfl fn_42 rfl (w_ropewalkref01_Number_s N v129_0 hc136) (fun _ _ hφ => ask [] rfl hφ) rfl (H' := [_,_,_]) rfl ?_
               rintro _ _ _ ⟨rfl, rfl, rfl⟩
               refine wl_store 2 0 rfl rfl rfl rfl rfl rfl rfl tS_25 rfl rfl rfl (all' := [_,_,_]) rfl (H' := [_,_,_]) rfl ?_
               refine wl_pure rfl rfl rfl (freshS_eq rfl) rfl ?_
               refine wl_nil ?_
               refine we_then ?_
               refine wc_keep [5, 4] (S' := [_,_]) rfl ?_
               refine wc_ret ?_
               have hE := (Option.some.inj hm).symm
               obtain ⟨hE0, hF1⟩ := Prod.mk.inj hE
               obtain ⟨hE1, hE2⟩ := Prod.mk.inj hF1
               clear hE hF1
               replace hE0 := hE0.symm
               subst hE0
               replace hE1 := hE1.symm
               subst hE1
               replace hE2 := hE2.symm
               subst hE2
               refine ret_two (Hr := []) [] Tryd.results30 (res_cell 2 rfl rfl tS_25 tA_25 rfl rfl) (res_tmp rfl) ⟨rfl, rfl, rfl⟩ (fun _ _ hφ => ask [] rfl hφ) rfl rfl (.inl rfl)
set_option maxRecDepth 100000 in
set_option maxHeartbeats 4000000 in
theorem w_ropewalkref09_Eval_s_b (N : Nat) (rc : Int → Int → Int → ByteArray → Int → Int → (List Api_ExprD) → (List V) → Option (Int × Int × ByteArray × Nat)) (ih : ∀ (a0 : Int) (a1 : Int) (a2 : Int) (a3 : ByteArray) (a4 : Int) (a5 : Int) (qp0 : Option Addr) (qc1 : Nat) (l6 : List Api_ExprD) (qp2 : Option Addr) (qc3 : Nat) (l7 : List V) (o0 : Int) (o1 : Int) (o2 : ByteArray) (o3 : Nat), rc a0 a1 a2 a3 a4 a5 l6 l7 = some (o0, o1, o2, o3) → Spec Tryd.prog 11 [.agg #[.int .u8 a0, .int .u8 a1, .int .i64 a2, .string a3, .int .i64 a4, .int .u8 a5, .slice qp0 l6.length qc1], .slice qp2 l7.length qc3] [.sli 7 R_Api_ExprD qp0 qc1 l6, .sli 3 R_V qp2 qc3 l7] [] (fun v Φr Hr => v = .tuple #[.agg #[.int .u8 o0, .int .i64 o1, .string o2], .int .i64 ((o3 : Nat) : Int)] ∧ Φr = [] ∧ Hr = [])) (a0 : Int) (a1 : Int) (a2 : Int) (a3 : ByteArray) (a4 : Int) (a5 : Int) (qp0 : Option Addr) (qc1 : Nat) (l6 : List Api_ExprD) (qp2 : Option Addr) (qc3 : Nat) (l7 : List V) (o0 : Int) (o1 : Int) (o2 : ByteArray) (o3 : Nat) (hm : m_ropewalkref09_Eval_b N rc a0 a1 a2 a3 a4 a5 l6 l7 = some (o0, o1, o2, o3)) : Spec Tryd.prog 11 [.agg #[.int .u8 a0, .int .u8 a1, .int .i64 a2, .string a3, .int .i64 a4, .int .u8 a5, .slice qp0 l6.length qc1], .slice qp2 l7.length qc3] [.sli 7 R_Api_ExprD qp0 qc1 l6, .sli 3 R_V qp2 qc3 l7] [] (fun v Φr Hr => v = .tuple #[.agg #[.int .u8 o0, .int .i64 o1, .string o2], .int .i64 ((o3 : Nat) : Int)] ∧ Φr = [] ∧ Hr = []) := by
 unfold m_ropewalkref09_Eval_b at hm
 refine spec_of Tryd.func11 rfl Tryd.ntmps11 rfl (S := [_,_]) rfl (fun C => ?_)
 refine wc_seq ?_
 refine wc_region ?_
 refine wl_box rfl rfl rfl (freshS_eq rfl) rfl rfl rfl (fun g2 => ?_)
 refine wl_alloc rfl rfl rfl (freshS_eq rfl) rfl tZ_25 rfl (fun g4 => ?_)
 refine wl_pure rfl rfl rfl (freshS_eq rfl) rfl ?_
 refine wl_nil ?_
 refine we_then ?_
 refine wc_keep [4, 2, 1] (S' := [_,_,_]) rfl ?_
 refine wc_seq ?_
 refine wc_region ?_
 refine wl_build rfl rfl rfl (freshS_eq rfl) rfl tZ_25 tP_25 rfl (out := [_,_,_]) rfl ?_
 refine wl_alloc rfl rfl rfl (freshS_eq rfl) rfl tZ_25 rfl (fun g6 => ?_)
 refine wl_store 0 0 rfl rfl rfl rfl rfl rfl rfl tS_25 rfl rfl rfl (all' := [_,_,_]) rfl (H' := [_,_,_]) rfl ?_
 refine wl_nil ?_
 refine we_then ?_
 refine wc_keep [6, 4, 2, 1] (S' := [_,_,_,_]) rfl ?_
 refine wc_seq ?_
 obtain ⟨bj_1, hm, hLj_1⟩ := bindS_some hm
 unfold m_ropewalkref09_Eval_C1 at hm
 refine wc_cut (σ := Int × Int × ByteArray) (fun (j_1_6_f0, j_1_6_f1, j_1_6_f2) => bj_1 = .inl (j_1_6_f0, j_1_6_f1, j_1_6_f2)) (fun (j_1_6_f0, j_1_6_f1, j_1_6_f2) => [(6, .pointer (some ⟨g6, 0, none⟩)), (4, .pointer (some ⟨g4, 0, none⟩))]) (fun (j_1_6_f0, j_1_6_f1, j_1_6_f2) => []) (fun (j_1_6_f0, j_1_6_f1, j_1_6_f2) => [.blk g6 [.int .u8 j_1_6_f0, .int .i64 j_1_6_f1, .string j_1_6_f2] 25, .blk g4 [.int .u8 0, .int .i64 0, .string ((⟨#[]⟩ : ByteArray))] 25]) ?_ ?_
 ·
  refine wc_seq ?_
  refine wc_region ?_
  refine wl_fieldAddr rfl rfl rfl (freshS_eq rfl) rfl rfl tF_29_0 ?_
  refine wl_loadH 2 0 rfl rfl rfl (freshS_eq rfl) rfl rfl rfl (cs := [_]) rfl tS_22 tA_22 rfl rfl ?_
  refine wl_nil ?_
  refine we_then ?_
  refine wc_keep [13, 6, 4, 2, 1] (S' := [_,_,_,_,_]) rfl ?_
  refine wc_block ?_
  refine wc_seq ?_
  refine wc_region ?_
  refine wl_pure rfl rfl rfl (freshS_eq rfl) rfl ?_
  refine wl_pure rfl rfl rfl (freshS_eq rfl) rfl ?_
  refine wl_nil ?_
  refine we_then ?_
  refine wc_keep [14, 13, 6, 4, 2, 1] (S' := [_,_,_,_,_,_]) rfl ?_
  refine wc_cond rfl (fun hb14 => ?_) (fun hb14 => ?_)
  ·
   replace hm := iteT hm hb14
   refine wc_keep [6, 4, 2] (S' := [_,_,_]) rfl ?_
   refine wc_region ?_
   refine wl_fieldAddr rfl rfl rfl (freshS_eq rfl) rfl rfl tF_29_1 ?_
   refine wl_loadH 2 1 rfl rfl rfl (freshS_eq rfl) rfl rfl rfl (cs := [_,_,_]) rfl tS_25 tA_25 rfl rfl ?_
   refine wl_store 0 0 rfl rfl rfl rfl rfl rfl rfl tS_25 rfl rfl rfl (all' := [_,_,_]) rfl (H' := [_,_,_]) rfl ?_
   refine wl_nil ?_
   refine we_block_normal ?_
   have hE := (Option.some.inj hm).symm
   refine we_pick [0, 1] rfl (H' := [_,_]) rfl ?_
   refine we_join (a1, a2, a3) hE [6, 4] rfl (fun _ _ hφ => ask [] rfl hφ) rfl
  ·
   replace hm := iteF hm hb14
   refine wc_keep [13, 6, 4, 2, 1] (S' := [_,_,_,_,_]) rfl ?_
   refine wc_seq ?_
   refine wc_region ?_
   refine wl_pure rfl rfl rfl (freshS_eq rfl) rfl ?_
   refine wl_pure rfl rfl rfl (freshS_eq rfl) rfl ?_
   refine wl_nil ?_
   refine we_then ?_
   refine wc_keep [18, 13, 6, 4, 2, 1] (S' := [_,_,_,_,_,_]) rfl ?_
   refine wc_cond rfl (fun hb18 => ?_) (fun hb18 => ?_)
   ·
    replace hm := iteT hm hb18
    refine wc_keep [6, 4, 2, 1] (S' := [_,_,_,_]) rfl ?_
    refine wc_seq ?_
    obtain ⟨bj_2, hm, hLj_2⟩ := bindO_some hm
    refine wc_cut (σ := Bool) (fun j_2_29 => bj_2 = j_2_29) (fun j_2_29 => [(6, .pointer (some ⟨g6, 0, none⟩)), (4, .pointer (some ⟨g4, 0, none⟩)), (2, .pointer (some ⟨g2, 0, none⟩)), (1, .slice qp2 l7.length qc3), (29, .bool j_2_29)]) (fun j_2_29 => [.sli 7 R_Api_ExprD qp0 qc1 l6, .sli 3 R_V qp2 qc3 l7]) (fun j_2_29 => [.blk g6 [.int .u8 0, .int .i64 0, .string ((⟨#[]⟩ : ByteArray))] 25, .blk g4 [.int .u8 0, .int .i64 0, .string ((⟨#[]⟩ : ByteArray))] 25, .blk g2 [.int .u8 a0, .int .u8 a1, .int .i64 a2, .string a3, .int .i64 a4, .int .u8 a5, .slice qp0 l6.length qc1] 29]) ?_ ?_
    ·
     refine wc_region ?_
     refine wl_fieldAddr rfl rfl rfl (freshS_eq rfl) rfl rfl tF_29_2 ?_
     refine wl_loadH 2 4 rfl rfl rfl (freshS_eq rfl) rfl rfl rfl (cs := [_]) rfl tS_3 tA_3 rfl rfl ?_
     refine wl_pure rfl rfl rfl (freshS_eq rfl) rfl ?_
     refine wl_pure rfl rfl rfl (freshS_eq rfl) rfl ?_
     refine wl_split (d := 23) (S' := [_,_,_,_,_,_,_]) rfl rfl (fun hs23 => ?_) (fun hs23 => ?_)
     ·
      replace hm := iteT hm hs23
      refine wl_fieldAddr rfl rfl rfl (freshS_eq rfl) rfl rfl tF_29_2 ?_
      refine wl_loadH 2 4 rfl rfl rfl (freshS_eq rfl) rfl rfl rfl (cs := [_]) rfl tS_3 tA_3 rfl rfl ?_
      refine wl_pure rfl rfl rfl (freshS_eq rfl) rfl ?_
      refine wl_len rfl rfl rfl (freshS_eq rfl) rfl rfl tE_30 ?_
      refine wl_pure rfl rfl rfl (freshS_eq rfl) rfl ?_
      refine wl_pure rfl rfl rfl (freshS_eq rfl) rfl ?_
      refine wl_nil ?_
      have hE := (Option.some.inj hm).symm
      refine we_join (decide (a4 < ((l7.length : Nat) : Int))) hE [6, 4, 2, 1, 29] rfl (fun _ _ hφ => ask [0, 1] rfl hφ) rfl
     ·
      replace hm := iteF hm hs23
      refine wl_off rfl rfl rfl (freshS_eq rfl) ?_
      refine wl_off rfl rfl rfl (freshS_eq rfl) ?_
      refine wl_off rfl rfl rfl (freshS_eq rfl) ?_
      refine wl_off rfl rfl rfl (freshS_eq rfl) ?_
      refine wl_off rfl rfl rfl (freshS_eq rfl) ?_
      refine wl_pure rfl rfl rfl (freshS_eq rfl) rfl ?_
      refine wl_nil ?_
      have hE := (Option.some.inj hm).symm
      refine we_join false hE [6, 4, 2, 1, 29] rfl (fun _ _ hφ => ask [0, 1] rfl hφ) rfl
    ·
     rintro j_2_29 hE
     try dsimp only
     have hm := hLj_2
     rw [hE] at hm
     refine wc_cond rfl (fun hb29 => ?_) (fun hb29 => ?_)
     ·
      replace hm := iteT hm hb29
      refine wc_keep [6, 4, 2, 1] (S' := [_,_,_,_]) rfl ?_
      refine wc_region ?_
      refine wl_pure rfl rfl rfl (freshS_eq rfl) rfl ?_
      refine wl_fieldAddr rfl rfl rfl (freshS_eq rfl) rfl rfl tF_29_2 ?_
      refine wl_loadH 2 4 rfl rfl rfl (freshS_eq rfl) rfl rfl rfl (cs := [_]) rfl tS_3 tA_3 rfl rfl ?_
      obtain ⟨hn33, hm⟩ := gd_some hm
      obtain ⟨x33, hx33, hm⟩ := bindO_some hm
      refine wl_indexA 1 a4.toNat rfl rfl rfl (freshS_eq rfl) rfl rfl rfl rfl (toNat_eq hn33) hx33 tE_30 tS_25 (fun b33 q33 cs33 hlx33 => ?_)
      refine wl_open R_V_opens 1 rfl (fun r33 er33 _ => ?_)
      subst er33
      refine wl_load 0 0 rfl rfl rfl (freshS_eq rfl) rfl rfl rfl (cs := [_,_,_]) rfl tS_25 tA_25 rfl rfl ?_
      refine wl_store 0 0 rfl rfl rfl rfl rfl rfl rfl tS_25 rfl rfl rfl (all' := [_,_,_]) rfl (H' := [_,_,_]) rfl ?_
      refine wl_nil ?_
      refine we_block_normal ?_
      have hE := (Option.some.inj hm).symm
      refine we_pick [0, 1] rfl (H' := [_,_]) rfl ?_
      refine we_join (x33.k, x33.n, x33.s) hE [6, 4] rfl (fun _ _ hφ => ask [] rfl hφ) rfl
     ·
      replace hm := iteF hm hb29
      refine wc_keep [6, 4] (S' := [_,_]) rfl ?_
      refine wc_skip ?_
      refine we_block_normal ?_
      have hE := (Option.some.inj hm).symm
      refine we_pick [0, 1] rfl (H' := [_,_]) rfl ?_
      refine we_join (0, 0, (⟨#[]⟩ : ByteArray)) hE [6, 4] rfl (fun _ _ hφ => ask [] rfl hφ) rfl
   ·
    replace hm := iteF hm hb18
    refine wc_keep [13, 6, 4, 2, 1] (S' := [_,_,_,_,_]) rfl ?_
    refine wc_seq ?_
    refine wc_region ?_
    refine wl_pure rfl rfl rfl (freshS_eq rfl) rfl ?_
    refine wl_pure rfl rfl rfl (freshS_eq rfl) rfl ?_
    refine wl_nil ?_
    refine we_then ?_
    refine wc_keep [35, 6, 4, 2, 1] (S' := [_,_,_,_,_]) rfl ?_
    refine wc_cond rfl (fun hb35 => ?_) (fun hb35 => ?_)
    ·
     replace hm := iteT hm hb35
     refine wc_keep [4, 2, 1] (S' := [_,_,_]) rfl ?_
     refine wc_seq ?_
     refine wc_region ?_
     refine wl_pure rfl rfl rfl (freshS_eq rfl) rfl ?_
     refine wl_nil ?_
     refine we_then ?_
     refine wc_seq ?_
     obtain ⟨bj_3, hm, hLj_3⟩ := bindS_some hm
     refine wc_cut (σ := (List V) × (Option Addr) × Nat × Nat) (fun (j_3_7_l, j_3_7_p, j_3_7_c, j_3_7_n) => bj_3 = .inl j_3_7_l) (fun (j_3_7_l, j_3_7_p, j_3_7_c, j_3_7_n) => [(4, .pointer (some ⟨g4, 0, none⟩)), (2, .pointer (some ⟨g2, 0, none⟩)), (7, .slice j_3_7_p j_3_7_n j_3_7_c)]) (fun (j_3_7_l, j_3_7_p, j_3_7_c, j_3_7_n) => [.sli 7 R_Api_ExprD qp0 qc1 l6]) (fun (j_3_7_l, j_3_7_p, j_3_7_c, j_3_7_n) => [.blk g4 [.int .u8 0, .int .i64 0, .string ((⟨#[]⟩ : ByteArray))] 25, .blk g2 [.int .u8 a0, .int .u8 a1, .int .i64 a2, .string a3, .int .i64 a4, .int .u8 a5, .slice qp0 l6.length qc1] 29, .own 25 3 R_V (.slice j_3_7_p j_3_7_n j_3_7_c) j_3_7_l]) ?_ ?_
     ·
      refine wc_seq ?_
      refine wc_region ?_
      refine wl_pure rfl rfl rfl (freshS_eq rfl) rfl ?_
      refine wl_nil ?_
      refine we_then ?_
      refine wc_block ?_
      refine wc_rowNil 25 3 R_V ?_
      refine wc_pick [0, 2, 3] rfl (H' := [_,_,_]) rfl ?_
      refine wc_loop (σ := Nat × Nat × (List V) × (Option Addr) × Nat × Nat) (fun (nu1, u1_8, u1_7_l, u1_7_p, u1_7_c, u1_7_n) => iter (m_ropewalkref09_Eval_L1 N l6 rc l7) nu1 (u1_8, u1_7_l) = some bj_3) (fun (nu1, u1_8, u1_7_l, u1_7_p, u1_7_c, u1_7_n) => nu1) (fun (nu1, u1_8, u1_7_l, u1_7_p, u1_7_c, u1_7_n) => [(8, .int .i64 ((u1_8 : Nat) : Int)), (7, .slice u1_7_p u1_7_n u1_7_c), (4, .pointer (some ⟨g4, 0, none⟩)), (2, .pointer (some ⟨g2, 0, none⟩)), (1, .slice qp2 l7.length qc3)]) (fun (nu1, u1_8, u1_7_l, u1_7_p, u1_7_c, u1_7_n) => [.sli 7 R_Api_ExprD qp0 qc1 l6, .sli 3 R_V qp2 qc3 l7]) (fun (nu1, u1_8, u1_7_l, u1_7_p, u1_7_c, u1_7_n) => [.own 25 3 R_V (.slice u1_7_p u1_7_n u1_7_c) u1_7_l, .blk g4 [.int .u8 0, .int .i64 0, .string ((⟨#[]⟩ : ByteArray))] 25, .blk g2 [.int .u8 a0, .int .u8 a1, .int .i64 a2, .string a3, .int .i64 a4, .int .u8 a5, .slice qp0 l6.length qc1] 29]) (N, 0, [], none, 0, 0) hm [8, 7, 4, 2, 1] rfl (fun _ _ hφ => ask [0, 1] rfl hφ) rfl (fun s_ hm => ?_)
      obtain ⟨nu1, u1_8, u1_7_l, u1_7_p, u1_7_c, u1_7_n⟩ := s_
      try dsimp only at hm ⊢
      obtain ⟨mu1, bu1, hnu1, hq, hLu1⟩ := iter_some hm
      clear hm
      subst hnu1
      replace hm := hq
      clear hq
      unfold m_ropewalkref09_Eval_L1 at hm
      try dsimp only at hm
      refine wc_seq ?_
      refine wc_seq ?_
      refine wc_region ?_
      refine wl_pure rfl rfl rfl (freshS_eq rfl) rfl ?_
      refine wl_fieldAddr rfl rfl rfl (freshS_eq rfl) rfl rfl tF_29_4 ?_
      refine wl_loadH 2 6 rfl rfl rfl (freshS_eq rfl) rfl rfl rfl (cs := [_]) rfl tS_27 tA_27 rfl rfl ?_
      refine wl_len rfl rfl rfl (freshS_eq rfl) rfl rfl tE_27 ?_
      refine wl_pure rfl rfl rfl (freshS_eq rfl) rfl ?_
      refine wl_as (d := 41) (v' := .bool (decide (u1_8 < l6.length))) (S' := [_,_,_,_,_,_,_,_,_]) rfl rfl (natlt (a := u1_8) (b := l6.length)) ?_
      refine wl_nil ?_
      refine we_then ?_
      refine wc_keep [41, 8, 7, 4, 2, 1] (S' := [_,_,_,_,_,_]) rfl ?_
      refine wc_cond rfl (fun hb41 => ?_) (fun hb41 => ?_)
      ·
       replace hm := iteT hm hb41
       refine wc_keep [8, 7, 4, 2, 1] (S' := [_,_,_,_,_]) rfl ?_
       refine wc_skip ?_
       refine we_then ?_
       refine wc_seq ?_
       refine wc_block ?_
       refine wc_seq ?_
       refine wc_region ?_
       refine wl_fieldAddr rfl rfl rfl (freshS_eq rfl) rfl rfl tF_29_4 ?_
       refine wl_loadH 2 6 rfl rfl rfl (freshS_eq rfl) rfl rfl rfl (cs := [_]) rfl tS_27 tA_27 rfl rfl ?_
       refine wl_pure rfl rfl rfl (freshS_eq rfl) rfl ?_
       obtain ⟨x48, hx48, hm⟩ := bindO_some hm
       refine wl_indexA 0 u1_8 rfl rfl rfl (freshS_eq rfl) rfl rfl rfl rfl rfl hx48 tE_27 tS_29 (fun b48 q48 cs48 hlx48 => ?_)
       refine wl_open R_Api_ExprD_opens 1 rfl (fun r48 er48 _ => ?_)
       subst er48
       refine wl_load 1 0 rfl rfl rfl (freshS_eq rfl) rfl rfl rfl (cs := [_,_,_,_,_,_,_]) rfl tS_29 tA_29 rfl rfl ?_
       refine wl_pure rfl rfl rfl (freshS_eq rfl) rfl ?_
       obtain ⟨⟨v51_0, v51_1, v51_2, v51_3⟩, hc51, hm⟩ := bindO_some hm
       try dsimp only at hm
       refine wl_call [] [0, 1, 2] rfl rfl rfl (freshS_eq rfl) rfl rfl fn_11 rfl (ih x48.kind x48.value.k x48.value.n x48.value.s x48.var x48.op r48.1 r48.2 x48.kids qp2 qc3 l7 _ _ _ _ hc51) (fun _ _ hφ => ask [0, 4] rfl hφ) rfl (H' := [_,_,_]) rfl ?_
       rintro _ _ _ ⟨rfl, rfl, rfl⟩
       refine wl_pure rfl rfl rfl (freshS_eq rfl) rfl ?_
       refine wl_pure rfl rfl rfl (freshS_eq rfl) rfl ?_
       refine wl_pure rfl rfl rfl (freshS_eq rfl) rfl ?_
       refine wl_alloc rfl rfl rfl (freshS_eq rfl) rfl tZ_25 rfl (fun g9 => ?_)
       refine wl_store 0 0 rfl rfl rfl rfl rfl rfl rfl tS_25 rfl rfl rfl (all' := [_,_,_]) rfl (H' := [_,_,_,_]) rfl ?_
       refine wl_pure rfl rfl rfl (freshS_eq rfl) rfl ?_
       refine wl_nil ?_
       refine we_then ?_
       refine wc_keep [10, 9, 8, 7, 4, 2, 1] (S' := [_,_,_,_,_,_,_]) rfl ?_
       refine wc_seq ?_
       refine wc_seq ?_
       refine wc_region ?_
       refine wl_pure rfl rfl rfl (freshS_eq rfl) rfl ?_
       refine wl_pure rfl rfl rfl (freshS_eq rfl) rfl ?_
       refine wl_as (d := 55) (v' := .bool (v51_3 != 0)) (S' := [_,_,_,_,_,_,_,_]) rfl rfl (natne (a := v51_3) (b := 0)) ?_
       refine wl_nil ?_
       refine we_then ?_
       refine wc_keep [55, 10, 9, 8, 7, 4, 2, 1] (S' := [_,_,_,_,_,_,_,_]) rfl ?_
       refine wc_cond rfl (fun hb55 => ?_) (fun hb55 => ?_)
       ·
        replace hm := iteT hm hb55
        refine wc_keep [10, 4] (S' := [_,_]) rfl ?_
        refine wc_seq ?_
        refine wc_region ?_
        refine wl_build rfl rfl rfl (freshS_eq rfl) rfl tZ_25 tP_25 rfl (out := [_,_,_]) rfl ?_
        refine wl_pure rfl rfl rfl (freshS_eq rfl) rfl ?_
        refine wl_store 2 0 rfl rfl rfl rfl rfl rfl rfl tS_25 rfl rfl rfl (all' := [_,_,_]) rfl (H' := [_,_,_,_]) rfl ?_
        refine wl_pure rfl rfl rfl (freshS_eq rfl) rfl ?_
        refine wl_nil ?_
        refine we_then ?_
        refine wc_keep [5, 4] (S' := [_,_]) rfl ?_
        refine wc_ret ?_
        refine we_then_ret ?_
        refine we_block_ret ?_
        refine we_then_ret ?_
        refine we_then_ret ?_
        refine we_block_ret ?_
        refine we_then_ret ?_
        refine we_block_ret ?_
        refine we_then_ret ?_
        have hE := (Option.some.inj hm).symm
        replace hE := link_inr hLu1 hE
        replace hE := link_inr hLj_3 hE
        replace hE := link_inr hLj_1 hE
        obtain ⟨hE0, hF1⟩ := Prod.mk.inj hE
        obtain ⟨hE1, hF2⟩ := Prod.mk.inj hF1
        obtain ⟨hE2, hE3⟩ := Prod.mk.inj hF2
        clear hE hF1 hF2
        replace hE0 := hE0.symm
        subst hE0
        replace hE1 := hE1.symm
        subst hE1
        replace hE2 := hE2.symm
        subst hE2
        replace hE3 := hE3.symm
        subst hE3
        refine ret_two (Hr := []) [] Tryd.results11 (res_cell 2 rfl rfl tS_25 tA_25 rfl rfl) (res_tmp rfl) ⟨rfl, rfl, rfl⟩ (fun _ _ hφ => ask [] rfl hφ) rfl rfl (.inl rfl)
       ·
        replace hm := iteF hm hb55
        refine wc_keep [9, 8, 7, 4, 2, 1] (S' := [_,_,_,_,_,_]) rfl ?_
        refine wc_skip ?_
        refine we_then ?_
        refine wc_region ?_
        refine wl_pure rfl rfl rfl (freshS_eq rfl) rfl ?_
        refine wl_loadH 0 0 rfl rfl rfl (freshS_eq rfl) rfl rfl rfl (cs := [_,_,_]) rfl tS_25 tA_25 rfl rfl ?_
        refine wl_buildSlice rfl rfl rfl (freshS_eq rfl) rfl tE_30 tS_25 tZ_25 rfl (zs := [.int .u8 0, .int .i64 0, .string ((⟨#[]⟩ : ByteArray))]) (by kernel_rfl) rfl (out := [_,_,_]) rfl (fun g60 => ?_)
        obtain ⟨hg61, hm⟩ := gd_some hm
        refine wl_appendH ([(⟨v51_0, v51_1, v51_2⟩ : V)]) 2 0 rfl rfl rfl (freshS_eq rfl) rfl rfl rfl rfl rfl (fun F w hφ => ⟨[.int .u8 v51_0, .int .i64 v51_1, .string v51_2], [], rfl, rfl, ⟨(), rfl, ask_nil⟩, rfl⟩) tE_30 tR_25 rfl rfl (Nat.le_trans hg61 (by decide)) (Nat.le_trans (Nat.mul_le_mul_right _ hg61) (by decide)) (H2 := fun p61 c61 => [.blk g60 [.int .u8 v51_0, .int .i64 v51_1, .string v51_2] 25, .blk g9 [.int .u8 v51_0, .int .i64 v51_1, .string v51_2] 25, .own 25 3 R_V (.slice p61 ((u1_7_l ++ ([(⟨v51_0, v51_1, v51_2⟩ : V)])).length) c61) (u1_7_l ++ ([(⟨v51_0, v51_1, v51_2⟩ : V)])), .blk g4 [.int .u8 0, .int .i64 0, .string ((⟨#[]⟩ : ByteArray))] 25, .blk g2 [.int .u8 a0, .int .u8 a1, .int .i64 a2, .string a3, .int .i64 a4, .int .u8 a5, .slice qp0 l6.length qc1] 29]) (fun _ _ => rfl) (fun p61 c61 => ?_)
        refine wl_drop 0 rfl (H' := [_,_,_,_]) rfl ?_
        refine wl_pure (S' := [_,_,_,_,_,_,_,_,_]) rfl rfl rfl rfl rfl ?_
        refine wl_nil ?_
        refine we_block_normal ?_
        refine we_then ?_
        refine wc_keep [7, 8, 4, 2, 1] (S' := [_,_,_,_,_]) rfl ?_
        refine wc_region ?_
        refine wl_pure rfl rfl rfl (freshS_eq rfl) rfl ?_
        refine wl_pure rfl rfl rfl (freshS_eq rfl) rfl ?_
        obtain ⟨hg43, hm⟩ := gd_some hm
        refine wl_as (d := 43) (v' := .int .i64 ((u1_8 + 1 : Nat) : Int)) (S' := [_,_,_,_,_,_]) rfl rfl (nat_add (a := u1_8) (b := 1) hg43) ?_
        refine wl_pure (S' := [_,_,_,_,_,_]) rfl rfl rfl rfl rfl ?_
        refine wl_nil ?_
        have hE := (Option.some.inj hm).symm
        replace hE := link_inl hLu1 hE
        refine we_pick [1, 2, 3] rfl (H' := [_,_,_]) rfl ?_
        refine we_roundK (_, u1_8 + 1, (u1_7_l ++ ([(⟨v51_0, v51_1, v51_2⟩ : V)])), p61, c61, ((u1_7_l ++ ([(⟨v51_0, v51_1, v51_2⟩ : V)])).length)) (Nat.lt_succ_self _) hE [8, 7, 4, 2, 1] rfl (fun _ _ hφ => ask [3, 4] rfl hφ) rfl
      ·
       replace hm := iteF hm hb41
       refine wc_keep [7, 4, 2] (S' := [_,_,_]) rfl ?_
       refine wc_exit ?_
       refine we_then_exit ?_
       refine we_then_exit ?_
       refine we_block_hit ?_
       have hE := (Option.some.inj hm).symm
       replace hE := link_inr hLu1 hE
       refine we_pick [1, 2, 0] rfl (H' := [_,_,_]) rfl ?_
       refine we_join (u1_7_l, u1_7_p, u1_7_c, u1_7_n) hE [4, 2, 7] rfl (fun _ _ hφ => ask [0] rfl hφ) rfl
     ·
      rintro ⟨j_3_7_l, j_3_7_p, j_3_7_c, j_3_7_n⟩ hE
      try dsimp only
      have hm := link_inl hLj_3 hE
      refine wc_seq ?_
      refine wc_region ?_
      refine wl_fieldAddr rfl rfl rfl (freshS_eq rfl) rfl rfl tF_29_3 ?_
      refine wl_loadH 1 5 rfl rfl rfl (freshS_eq rfl) rfl rfl rfl (cs := [_]) rfl tS_26 tA_26 rfl rfl ?_
      refine wl_pure rfl rfl rfl (freshS_eq rfl) rfl ?_
      refine wl_ownLen 2 rfl (fun hzj_3_7_n _ => ?_)
      subst hzj_3_7_n
      obtain ⟨⟨v65_0, v65_1, v65_2⟩, hc65, hm⟩ := bindO_some hm
      try dsimp only at hm
      refine wl_lend [] [0, 1, 2] [2] rfl rfl rfl (freshS_eq rfl) rfl rfl fn_30 rfl (w_ropewalkref01_Do_s N a5 j_3_7_p j_3_7_c j_3_7_l _ _ _ hc65) (fun F w hφ hh => (ask_cons (own_sli (hh _ (mem_at (k := 0) rfl))) ask_nil)) (fun _ _ _ hR => by obtain ⟨rfl, rfl, rfl⟩ := hR; exact ⟨rfl, (fun _ h => free_nil h)⟩) rfl rfl (H' := [_,_,_]) rfl ?_
      rintro _ _ _ ⟨rfl, rfl, rfl⟩
      refine wl_pure rfl rfl rfl (freshS_eq rfl) rfl ?_
      refine wl_pure rfl rfl rfl (freshS_eq rfl) rfl ?_
      refine wl_store 0 0 rfl rfl rfl rfl rfl rfl rfl tS_25 rfl rfl rfl (all' := [_,_,_]) rfl (H' := [_,_,_]) rfl ?_
      refine wl_pure rfl rfl rfl (freshS_eq rfl) rfl ?_
      refine wl_nil ?_
      refine we_then ?_
      refine wc_keep [5, 4] (S' := [_,_]) rfl ?_
      refine wc_ret ?_
      refine we_block_ret ?_
      refine we_then_ret ?_
      have hE := (Option.some.inj hm).symm
      replace hE := link_inr hLj_1 hE
      obtain ⟨hE0, hF1⟩ := Prod.mk.inj hE
      obtain ⟨hE1, hF2⟩ := Prod.mk.inj hF1
      obtain ⟨hE2, hE3⟩ := Prod.mk.inj hF2
      clear hE hF1 hF2
      replace hE0 := hE0.symm
      subst hE0
      replace hE1 := hE1.symm
      subst hE1
      replace hE2 := hE2.symm
      subst hE2
      replace hE3 := hE3.symm
      subst hE3
      refine ret_two (Hr := []) [] Tryd.results11 (res_cell 0 rfl rfl tS_25 tA_25 rfl rfl) (res_tmp rfl) ⟨rfl, rfl, rfl⟩ (fun _ _ hφ => ask [] rfl hφ) rfl rfl (.inl rfl)
    ·
     replace hm := iteF hm hb35
     refine wc_keep [6, 4] (S' := [_,_]) rfl ?_
     refine wc_skip ?_
     refine we_block_normal ?_
     have hE := (Option.some.inj hm).symm
     refine we_pick [0, 1] rfl (H' := [_,_]) rfl ?_
     refine we_join (0, 0, (⟨#[]⟩ : ByteArray)) hE [6, 4] rfl (fun _ _ hφ => ask [] rfl hφ) rfl
 ·
  rintro ⟨j_1_6_f0, j_1_6_f1, j_1_6_f2⟩ hE
  try dsimp only
  have hm := link_inl hLj_1 hE
  try dsimp only at hm
  refine wc_seq ?_
  refine wc_seq ?_
  refine wc_region ?_
  refine wl_loadH 0 0 rfl rfl rfl (freshS_eq rfl) rfl rfl rfl (cs := [_,_,_]) rfl tS_25 tA_25 rfl rfl ?_
  obtain ⟨v69, hc69, hm⟩ := bindO_some hm
  refine wl_call [] [0, 1] rfl rfl rfl (freshS_eq rfl) rfl rfl fn_31 rfl (w_ropewalkref01_Right_s N j_1_6_f0 j_1_6_f1 j_1_6_f2 _ hc69) (fun _ _ hφ => ask [] rfl hφ) rfl (H' := [_,_]) rfl ?_
  rintro _ _ _ ⟨rfl, rfl, rfl⟩
  refine wl_pure rfl rfl rfl (freshS_eq rfl) rfl ?_
  refine wl_nil ?_
  refine we_then ?_
  refine wc_keep [70, 6, 4] (S' := [_,_,_]) rfl ?_
  refine wc_cond rfl (fun hb70 => ?_) (fun hb70 => ?_)
  ·
   replace hm := iteT hm hb70
   refine wc_keep [4] (S' := [_]) rfl ?_
   refine wc_seq ?_
   refine wc_region ?_
   refine wl_build rfl rfl rfl (freshS_eq rfl) rfl tZ_25 tP_25 rfl (out := [_,_,_]) rfl ?_
   refine wl_store 1 0 rfl rfl rfl rfl rfl rfl rfl tS_25 rfl rfl rfl (all' := [_,_,_]) rfl (H' := [_,_]) rfl ?_
   refine wl_pure rfl rfl rfl (freshS_eq rfl) rfl ?_
   refine wl_nil ?_
   refine we_then ?_
   refine wc_keep [5, 4] (S' := [_,_]) rfl ?_
   refine wc_ret ?_
   refine we_then_ret ?_
   have hE := (Option.some.inj hm).symm
   obtain ⟨hE0, hF1⟩ := Prod.mk.inj hE
   obtain ⟨hE1, hF2⟩ := Prod.mk.inj hF1
   obtain ⟨hE2, hE3⟩ := Prod.mk.inj hF2
   clear hE hF1 hF2
   replace hE0 := hE0.symm
   subst hE0
   replace hE1 := hE1.symm
   subst hE1
   replace hE2 := hE2.symm
   subst hE2
   replace hE3 := hE3.symm
   subst hE3
   refine ret_two (Hr := []) [] Tryd.results11 (res_cell 1 rfl rfl tS_25 tA_25 rfl rfl) (res_tmp rfl) ⟨rfl, rfl, rfl⟩ (fun _ _ hφ => ask [] rfl hφ) rfl rfl (.inl rfl)
  ·
   replace hm := iteF hm hb70
   refine wc_keep [6, 4] (S' := [_,_]) rfl ?_
   refine wc_skip ?_
   refine we_then ?_
   refine wc_seq ?_
   refine wc_region ?_
   refine wl_loadH 0 0 rfl rfl rfl (freshS_eq rfl) rfl rfl rfl (cs := [_,_,_]) rfl tS_25 tA_25 rfl rfl ?_
   refine wl_store 1 0 rfl rfl rfl rfl rfl rfl rfl tS_25 rfl rfl rfl (all' := [_,_,_]) rfl (H' := [_,_]) rfl ?_
   refine wl_pure rfl rfl rfl (freshS_eq rfl) rfl ?_
   refine wl_nil ?_
   refine we_then ?_
   refine wc_keep [5, 4] (S' := [_,_]) rfl ?_
   refine wc_ret ?_
   have hE := (Option.some.inj hm).symm
   obtain ⟨hE0, hF1⟩ := Prod.mk.inj hE
   obtain ⟨hE1, hF2⟩ := Prod.mk.inj hF1
   obtain ⟨hE2, hE3⟩ := Prod.mk.inj hF2
   clear hE hF1 hF2
   replace hE0 := hE0.symm
   subst hE0
   replace hE1 := hE1.symm
   subst hE1
   replace hE2 := hE2.symm
   subst hE2
   replace hE3 := hE3.symm
   subst hE3
   refine ret_two (Hr := []) [] Tryd.results11 (res_cell 1 rfl rfl tS_25 tA_25 rfl rfl) (res_tmp rfl) ⟨rfl, rfl, rfl⟩ (fun _ _ hφ => ask [] rfl hφ) rfl rfl (.inl rfl)
theorem w_ropewalkref09_Eval_s : ∀ (N : Nat), ∀ (a0 : Int) (a1 : Int) (a2 : Int) (a3 : ByteArray) (a4 : Int) (a5 : Int) (qp0 : Option Addr) (qc1 : Nat) (l6 : List Api_ExprD) (qp2 : Option Addr) (qc3 : Nat) (l7 : List V) (o0 : Int) (o1 : Int) (o2 : ByteArray) (o3 : Nat), m_ropewalkref09_Eval N a0 a1 a2 a3 a4 a5 l6 l7 = some (o0, o1, o2, o3) → Spec Tryd.prog 11 [.agg #[.int .u8 a0, .int .u8 a1, .int .i64 a2, .string a3, .int .i64 a4, .int .u8 a5, .slice qp0 l6.length qc1], .slice qp2 l7.length qc3] [.sli 7 R_Api_ExprD qp0 qc1 l6, .sli 3 R_V qp2 qc3 l7] [] (fun v Φr Hr => v = .tuple #[.agg #[.int .u8 o0, .int .i64 o1, .string o2], .int .i64 ((o3 : Nat) : Int)] ∧ Φr = [] ∧ Hr = []) := by
  intro N
  induction N with
  | zero => intro a0 a1 a2 a3 a4 a5 qp0 qc1 l6 qp2 qc3 l7 o0 o1 o2 o3 hm; cases hm
  | succ N ih => intro a0 a1 a2 a3 a4 a5 qp0 qc1 l6 qp2 qc3 l7 o0 o1 o2 o3 hm; exact w_ropewalkref09_Eval_s_b N (m_ropewalkref09_Eval N) ih a0 a1 a2 a3 a4 a5 qp0 qc1 l6 qp2 qc3 l7 o0 o1 o2 o3 hm
set_option maxRecDepth 100000 in
set_option maxHeartbeats 4000000 in
theorem w_ropewalkref09_All_s (N : Nat) (qp0 : Option Addr) (qc1 : Nat) (l0 : List V) (qp2 : Option Addr) (qc3 : Nat) (l1 : List Api_ExprD) (o2 : List V) (o4 : Nat) (hm : m_ropewalkref09_All N l0 l1 = some (o2, o4)) : Spec Tryd.prog 15 [.slice qp0 l0.length qc1, .slice qp2 l1.length qc3] [.sli 3 R_V qp0 qc1 l0, .sli 7 R_Api_ExprD qp2 qc3 l1] [] (fun v Φr Hr => ∃ (o0 : Option Addr) (o1 : Nat) (o3 : Nat), v = .tuple #[.slice o0 o3 o1, .int .i64 ((o4 : Nat) : Int)] ∧ Φr = [] ∧ Hr = [.own 25 3 R_V (.slice o0 o3 o1) o2]) := by
 unfold m_ropewalkref09_All at hm
 refine spec_of Tryd.func15 rfl Tryd.ntmps15 rfl (S := [_,_]) rfl (fun C => ?_)
 refine wc_seq ?_
 refine wc_region ?_
 refine wl_pure rfl rfl rfl (freshS_eq rfl) rfl ?_
 refine wl_pure rfl rfl rfl (freshS_eq rfl) rfl ?_
 refine wl_nil ?_
 refine we_then ?_
 refine wc_keep [0, 1] (S' := [_,_]) rfl ?_
 refine wc_seq ?_
 refine wc_region ?_
 refine wl_pure rfl rfl rfl (freshS_eq rfl) rfl ?_
 refine wl_nil ?_
 refine we_then ?_
 refine wc_seq ?_
 obtain ⟨bj_1, hm, hLj_1⟩ := bindS_some hm
 refine wc_cut (σ := (List V) × (Option Addr) × Nat × Nat) (fun (j_1_6_l, j_1_6_p, j_1_6_c, j_1_6_n) => bj_1 = .inl j_1_6_l) (fun (j_1_6_l, j_1_6_p, j_1_6_c, j_1_6_n) => [(6, .slice j_1_6_p j_1_6_n j_1_6_c)]) (fun (j_1_6_l, j_1_6_p, j_1_6_c, j_1_6_n) => []) (fun (j_1_6_l, j_1_6_p, j_1_6_c, j_1_6_n) => [.own 25 3 R_V (.slice j_1_6_p j_1_6_n j_1_6_c) j_1_6_l]) ?_ ?_
 ·
  refine wc_seq ?_
  refine wc_region ?_
  refine wl_pure rfl rfl rfl (freshS_eq rfl) rfl ?_
  refine wl_nil ?_
  refine we_then ?_
  refine wc_block ?_
  refine wc_rowNil 25 3 R_V ?_
  refine wc_loop (σ := Nat × Nat × (List V) × (Option Addr) × Nat × Nat) (fun (nu1, u1_7, u1_6_l, u1_6_p, u1_6_c, u1_6_n) => iter (m_ropewalkref09_All_L1 N l1 l0) nu1 (u1_7, u1_6_l) = some bj_1) (fun (nu1, u1_7, u1_6_l, u1_6_p, u1_6_c, u1_6_n) => nu1) (fun (nu1, u1_7, u1_6_l, u1_6_p, u1_6_c, u1_6_n) => [(7, .int .i64 ((u1_7 : Nat) : Int)), (6, .slice u1_6_p u1_6_n u1_6_c), (0, .slice qp0 l0.length qc1), (1, .slice qp2 l1.length qc3)]) (fun (nu1, u1_7, u1_6_l, u1_6_p, u1_6_c, u1_6_n) => [.sli 3 R_V qp0 qc1 l0, .sli 7 R_Api_ExprD qp2 qc3 l1]) (fun (nu1, u1_7, u1_6_l, u1_6_p, u1_6_c, u1_6_n) => [.own 25 3 R_V (.slice u1_6_p u1_6_n u1_6_c) u1_6_l]) (N, 0, [], none, 0, 0) hm [7, 6, 0, 1] rfl (fun _ _ hφ => ask [0, 1] rfl hφ) rfl (fun s_ hm => ?_)
  obtain ⟨nu1, u1_7, u1_6_l, u1_6_p, u1_6_c, u1_6_n⟩ := s_
  try dsimp only at hm ⊢
  obtain ⟨mu1, bu1, hnu1, hq, hLu1⟩ := iter_some hm
  clear hm
  subst hnu1
  replace hm := hq
  clear hq
  unfold m_ropewalkref09_All_L1 at hm
  try dsimp only at hm
  refine wc_seq ?_
  refine wc_seq ?_
  refine wc_region ?_
  refine wl_pure rfl rfl rfl (freshS_eq rfl) rfl ?_
  refine wl_pure rfl rfl rfl (freshS_eq rfl) rfl ?_
  refine wl_len rfl rfl rfl (freshS_eq rfl) rfl rfl tE_27 ?_
  refine wl_pure rfl rfl rfl (freshS_eq rfl) rfl ?_
  refine wl_as (d := 13) (v' := .bool (decide (u1_7 < l1.length))) (S' := [_,_,_,_,_,_,_]) rfl rfl (natlt (a := u1_7) (b := l1.length)) ?_
  refine wl_nil ?_
  refine we_then ?_
  refine wc_keep [13, 7, 6, 0, 1] (S' := [_,_,_,_,_]) rfl ?_
  refine wc_cond rfl (fun hb13 => ?_) (fun hb13 => ?_)
  ·
   replace hm := iteT hm hb13
   refine wc_keep [7, 6, 0, 1] (S' := [_,_,_,_]) rfl ?_
   refine wc_skip ?_
   refine we_then ?_
   refine wc_seq ?_
   refine wc_block ?_
   refine wc_seq ?_
   refine wc_region ?_
   refine wl_pure rfl rfl rfl (freshS_eq rfl) rfl ?_
   refine wl_pure rfl rfl rfl (freshS_eq rfl) rfl ?_
   obtain ⟨x19, hx19, hm⟩ := bindO_some hm
   refine wl_indexA 1 u1_7 rfl rfl rfl (freshS_eq rfl) rfl rfl rfl rfl rfl hx19 tE_27 tS_29 (fun b19 q19 cs19 hlx19 => ?_)
   refine wl_open R_Api_ExprD_opens 1 rfl (fun r19 er19 _ => ?_)
   subst er19
   refine wl_load 1 0 rfl rfl rfl (freshS_eq rfl) rfl rfl rfl (cs := [_,_,_,_,_,_,_]) rfl tS_29 tA_29 rfl rfl ?_
   refine wl_pure rfl rfl rfl (freshS_eq rfl) rfl ?_
   obtain ⟨⟨v22_0, v22_1, v22_2, v22_3⟩, hc22, hm⟩ := bindO_some hm
   try dsimp only at hm
   refine wl_call [] [0] rfl rfl rfl (freshS_eq rfl) rfl rfl fn_11 rfl (w_ropewalkref09_Eval_s N x19.kind x19.value.k x19.value.n x19.value.s x19.var x19.op r19.1 r19.2 x19.kids qp0 qc1 l0 _ _ _ _ hc22) (fun _ _ hφ => ask [0, 3] rfl hφ) rfl (H' := [_]) rfl ?_
   rintro _ _ _ ⟨rfl, rfl, rfl⟩
   refine wl_pure rfl rfl rfl (freshS_eq rfl) rfl ?_
   refine wl_pure rfl rfl rfl (freshS_eq rfl) rfl ?_
   refine wl_pure rfl rfl rfl (freshS_eq rfl) rfl ?_
   refine wl_alloc rfl rfl rfl (freshS_eq rfl) rfl tZ_25 rfl (fun g8 => ?_)
   refine wl_store 0 0 rfl rfl rfl rfl rfl rfl rfl tS_25 rfl rfl rfl (all' := [_,_,_]) rfl (H' := [_,_]) rfl ?_
   refine wl_pure rfl rfl rfl (freshS_eq rfl) rfl ?_
   refine wl_nil ?_
   refine we_then ?_
   refine wc_keep [9, 8, 7, 6, 0, 1] (S' := [_,_,_,_,_,_]) rfl ?_
   refine wc_seq ?_
   refine wc_seq ?_
   refine wc_region ?_
   refine wl_pure rfl rfl rfl (freshS_eq rfl) rfl ?_
   refine wl_pure rfl rfl rfl (freshS_eq rfl) rfl ?_
   refine wl_as (d := 26) (v' := .bool (v22_3 != 0)) (S' := [_,_,_,_,_,_,_]) rfl rfl (natne (a := v22_3) (b := 0)) ?_
   refine wl_nil ?_
   refine we_then ?_
   refine wc_keep [26, 9, 8, 7, 6, 0, 1] (S' := [_,_,_,_,_,_,_]) rfl ?_
   refine wc_cond rfl (fun hb26 => ?_) (fun hb26 => ?_)
   ·
    replace hm := iteT hm hb26
    refine wc_keep [9] (S' := [_]) rfl ?_
    refine wc_seq ?_
    refine wc_region ?_
    refine wl_pure rfl rfl rfl (freshS_eq rfl) rfl ?_
    refine wl_pure rfl rfl rfl (freshS_eq rfl) rfl ?_
    refine wl_pure rfl rfl rfl (freshS_eq rfl) rfl ?_
    refine wl_nil ?_
    refine we_then ?_
    refine wc_keep [5, 4] (S' := [_,_]) rfl ?_
    refine wc_ret ?_
    refine we_then_ret ?_
    refine we_block_ret ?_
    refine we_then_ret ?_
    refine we_then_ret ?_
    refine we_block_ret ?_
    refine we_then_ret ?_
    have hE := (Option.some.inj hm).symm
    replace hE := link_inr hLu1 hE
    replace hE := link_inr hLj_1 hE
    obtain ⟨hE0, hE1⟩ := Prod.mk.inj hE
    clear hE
    replace hE0 := hE0.symm
    subst hE0
    replace hE1 := hE1.symm
    subst hE1
    refine we_rowNil 25 3 R_V ?_
    refine ret_two (Hr := [_]) [0] Tryd.results15 (res_tmp rfl) (res_tmp rfl) ⟨none, 0, 0, rfl, rfl, rfl⟩ (fun _ _ hφ => ask [] rfl hφ) rfl rfl (.inl rfl)
   ·
    replace hm := iteF hm hb26
    refine wc_keep [8, 7, 6, 0, 1] (S' := [_,_,_,_,_]) rfl ?_
    refine wc_skip ?_
    refine we_then ?_
    refine wc_region ?_
    refine wl_pure rfl rfl rfl (freshS_eq rfl) rfl ?_
    refine wl_loadH 0 0 rfl rfl rfl (freshS_eq rfl) rfl rfl rfl (cs := [_,_,_]) rfl tS_25 tA_25 rfl rfl ?_
    refine wl_buildSlice rfl rfl rfl (freshS_eq rfl) rfl tE_30 tS_25 tZ_25 rfl (zs := [.int .u8 0, .int .i64 0, .string ((⟨#[]⟩ : ByteArray))]) (by kernel_rfl) rfl (out := [_,_,_]) rfl (fun g30 => ?_)
    obtain ⟨hg31, hm⟩ := gd_some hm
    refine wl_appendH ([(⟨v22_0, v22_1, v22_2⟩ : V)]) 2 0 rfl rfl rfl (freshS_eq rfl) rfl rfl rfl rfl rfl (fun F w hφ => ⟨[.int .u8 v22_0, .int .i64 v22_1, .string v22_2], [], rfl, rfl, ⟨(), rfl, ask_nil⟩, rfl⟩) tE_30 tR_25 rfl rfl (Nat.le_trans hg31 (by decide)) (Nat.le_trans (Nat.mul_le_mul_right _ hg31) (by decide)) (H2 := fun p31 c31 => [.blk g30 [.int .u8 v22_0, .int .i64 v22_1, .string v22_2] 25, .blk g8 [.int .u8 v22_0, .int .i64 v22_1, .string v22_2] 25, .own 25 3 R_V (.slice p31 ((u1_6_l ++ ([(⟨v22_0, v22_1, v22_2⟩ : V)])).length) c31) (u1_6_l ++ ([(⟨v22_0, v22_1, v22_2⟩ : V)]))]) (fun _ _ => rfl) (fun p31 c31 => ?_)
    refine wl_drop 0 rfl (H' := [_,_]) rfl ?_
    refine wl_pure (S' := [_,_,_,_,_,_,_,_]) rfl rfl rfl rfl rfl ?_
    refine wl_nil ?_
    refine we_block_normal ?_
    refine we_then ?_
    refine wc_keep [6, 7, 0, 1] (S' := [_,_,_,_]) rfl ?_
    refine wc_region ?_
    refine wl_pure rfl rfl rfl (freshS_eq rfl) rfl ?_
    refine wl_pure rfl rfl rfl (freshS_eq rfl) rfl ?_
    obtain ⟨hg15, hm⟩ := gd_some hm
    refine wl_as (d := 15) (v' := .int .i64 ((u1_7 + 1 : Nat) : Int)) (S' := [_,_,_,_,_]) rfl rfl (nat_add (a := u1_7) (b := 1) hg15) ?_
    refine wl_pure (S' := [_,_,_,_,_]) rfl rfl rfl rfl rfl ?_
    refine wl_nil ?_
    have hE := (Option.some.inj hm).symm
    replace hE := link_inl hLu1 hE
    refine we_pick [1] rfl (H' := [_]) rfl ?_
    refine we_roundK (_, u1_7 + 1, (u1_6_l ++ ([(⟨v22_0, v22_1, v22_2⟩ : V)])), p31, c31, ((u1_6_l ++ ([(⟨v22_0, v22_1, v22_2⟩ : V)])).length)) (Nat.lt_succ_self _) hE [7, 6, 0, 1] rfl (fun _ _ hφ => ask [3, 4] rfl hφ) rfl
  ·
   replace hm := iteF hm hb13
   refine wc_keep [6] (S' := [_]) rfl ?_
   refine wc_exit ?_
   refine we_then_exit ?_
   refine we_then_exit ?_
   refine we_block_hit ?_
   have hE := (Option.some.inj hm).symm
   replace hE := link_inr hLu1 hE
   refine we_join (u1_6_l, u1_6_p, u1_6_c, u1_6_n) hE [6] rfl (fun _ _ hφ => ask [] rfl hφ) rfl
 ·
  rintro ⟨j_1_6_l, j_1_6_p, j_1_6_c, j_1_6_n⟩ hE
  try dsimp only
  have hm := link_inl hLj_1 hE
  refine wc_seq ?_
  refine wc_region ?_
  refine wl_pure rfl rfl rfl (freshS_eq rfl) rfl ?_
  refine wl_pure rfl rfl rfl (freshS_eq rfl) rfl ?_
  refine wl_pure rfl rfl rfl (freshS_eq rfl) rfl ?_
  refine wl_nil ?_
  refine we_then ?_
  refine wc_keep [5, 4] (S' := [_,_]) rfl ?_
  refine wc_ret ?_
  have hE := (Option.some.inj hm).symm
  obtain ⟨hE0, hE1⟩ := Prod.mk.inj hE
  clear hE
  replace hE0 := hE0.symm
  subst hE0
  replace hE1 := hE1.symm
  subst hE1
  refine ret_two (Hr := [_]) [0] Tryd.results15 (res_tmp rfl) (res_tmp rfl) ⟨j_1_6_p, j_1_6_c, j_1_6_n, rfl, rfl, rfl⟩ (fun _ _ hφ => ask [] rfl hφ) rfl rfl (.inl rfl)
set_option maxRecDepth 100000 in
set_option maxHeartbeats 4000000 in
theorem w_ropewalkkit_SameValues_s (N : Nat) (qp0 : Option Addr) (qc1 : Nat) (l0 : List V) (qp2 : Option Addr) (qc3 : Nat) (l1 : List V) (o0 : Bool) (hm : m_ropewalkkit_SameValues N l0 l1 = some o0) : Spec Tryd.prog 16 [.slice qp0 l0.length qc1, .slice qp2 l1.length qc3] [.sli 3 R_V qp0 qc1 l0, .sli 3 R_V qp2 qc3 l1] [] (fun v Φr Hr => v = .bool o0 ∧ Φr = [] ∧ Hr = []) := by
 unfold m_ropewalkkit_SameValues at hm
 refine spec_of Tryd.func16 rfl Tryd.ntmps16 rfl (S := [_,_]) rfl (fun C => ?_)
 refine wc_seq ?_
 refine wc_region ?_
 refine wl_pure rfl rfl rfl (freshS_eq rfl) rfl ?_
 refine wl_nil ?_
 refine we_then ?_
 refine wc_keep [0, 1] (S' := [_,_]) rfl ?_
 refine wc_seq ?_
 refine wc_seq ?_
 refine wc_region ?_
 refine wl_pure rfl rfl rfl (freshS_eq rfl) rfl ?_
 refine wl_len rfl rfl rfl (freshS_eq rfl) rfl rfl tE_30 ?_
 refine wl_pure rfl rfl rfl (freshS_eq rfl) rfl ?_
 refine wl_len rfl rfl rfl (freshS_eq rfl) rfl rfl tE_30 ?_
 refine wl_pure rfl rfl rfl (freshS_eq rfl) rfl ?_
 refine wl_as (d := 10) (v' := .bool (l0.length != l1.length)) (S' := [_,_,_,_,_,_]) rfl rfl (natne (a := l0.length) (b := l1.length)) ?_
 refine wl_nil ?_
 refine we_then ?_
 refine wc_keep [10, 0, 1] (S' := [_,_,_]) rfl ?_
 refine wc_cond rfl (fun hb10 => ?_) (fun hb10 => ?_)
 ·
  replace hm := iteT hm hb10
  refine wc_keep [] (S' := []) rfl ?_
  refine wc_seq ?_
  refine wc_region ?_
  refine wl_pure rfl rfl rfl (freshS_eq rfl) rfl ?_
  refine wl_nil ?_
  refine we_then ?_
  refine wc_ret ?_
  refine we_then_ret ?_
  have hE := (Option.some.inj hm).symm
  replace hE := hE.symm
  subst hE
  refine ret_one (Hr := []) [] Tryd.results16 (res_tmp rfl) ⟨rfl, rfl, rfl⟩ (fun _ _ hφ => ask [] rfl hφ) rfl rfl (.inl rfl)
 ·
  replace hm := iteF hm hb10
  refine wc_keep [0, 1] (S' := [_,_]) rfl ?_
  refine wc_skip ?_
  refine we_then ?_
  refine wc_seq ?_
  obtain ⟨bj_1, hm, hLj_1⟩ := bindS_some hm
  refine wc_cut (σ := Unit) (fun _ => bj_1 = .inl ()) (fun _ => []) (fun _ => []) (fun _ => []) ?_ ?_
  ·
   refine wc_seq ?_
   refine wc_region ?_
   refine wl_pure rfl rfl rfl (freshS_eq rfl) rfl ?_
   refine wl_nil ?_
   refine we_then ?_
   refine wc_block ?_
   refine wc_loop (σ := Nat × Nat) (fun (nu1, u1_5) => iter (m_ropewalkkit_SameValues_L1 N l0 l1) nu1 u1_5 = some bj_1) (fun (nu1, u1_5) => nu1) (fun (nu1, u1_5) => [(5, .int .i64 ((u1_5 : Nat) : Int)), (0, .slice qp0 l0.length qc1), (1, .slice qp2 l1.length qc3)]) (fun (nu1, u1_5) => [.sli 3 R_V qp0 qc1 l0, .sli 3 R_V qp2 qc3 l1]) (fun (nu1, u1_5) => []) (N, 0) hm [5, 0, 1] rfl (fun _ _ hφ => ask [0, 1] rfl hφ) rfl (fun s_ hm => ?_)
   obtain ⟨nu1, u1_5⟩ := s_
   try dsimp only at hm ⊢
   obtain ⟨mu1, bu1, hnu1, hq, hLu1⟩ := iter_some hm
   clear hm
   subst hnu1
   replace hm := hq
   clear hq
   unfold m_ropewalkkit_SameValues_L1 at hm
   try dsimp only at hm
   refine wc_seq ?_
   refine wc_seq ?_
   refine wc_region ?_
   refine wl_pure rfl rfl rfl (freshS_eq rfl) rfl ?_
   refine wl_pure rfl rfl rfl (freshS_eq rfl) rfl ?_
   refine wl_len rfl rfl rfl (freshS_eq rfl) rfl rfl tE_30 ?_
   refine wl_pure rfl rfl rfl (freshS_eq rfl) rfl ?_
   refine wl_as (d := 14) (v' := .bool (decide (u1_5 < l0.length))) (S' := [_,_,_,_,_,_]) rfl rfl (natlt (a := u1_5) (b := l0.length)) ?_
   refine wl_nil ?_
   refine we_then ?_
   refine wc_keep [14, 5, 0, 1] (S' := [_,_,_,_]) rfl ?_
   refine wc_cond rfl (fun hb14 => ?_) (fun hb14 => ?_)
   ·
    replace hm := iteT hm hb14
    refine wc_keep [5, 0, 1] (S' := [_,_,_]) rfl ?_
    refine wc_skip ?_
    refine we_then ?_
    refine wc_seq ?_
    refine wc_block ?_
    refine wc_seq ?_
    obtain ⟨x19, hx19, hm⟩ := bindO_some hm
    obtain ⟨x23, hx23, hm⟩ := bindO_some hm
    refine wc_draw [0, 1, 2, 3, 4, 5, 6, 7, 8] rfl rfl (fun hok => ?_)
    refine wx_pure hok 0 rfl rfl rfl (freshS_eq rfl) rfl rfl ?_
    refine wx_pure hok 1 rfl rfl rfl (freshS_eq rfl) rfl rfl ?_
    refine wx_indexA hok 2 0 u1_5 rfl rfl rfl (freshS_eq rfl) rfl rfl rfl rfl rfl rfl hx19 tE_30 tS_25 (fun b19 q19 cs19 hlx19 => ?_)
    refine wx_openR R_V_opens 1 rfl (fun r19 er19 _ => ?_)
    subst er19
    refine wx_load hok 3 0 0 rfl rfl rfl (freshS_eq rfl) rfl rfl rfl rfl (cs := [_,_,_]) rfl tS_25 tA_25 rfl rfl ?_
    refine wx_pure hok 4 rfl rfl rfl (freshS_eq rfl) rfl rfl ?_
    refine wx_pure hok 5 rfl rfl rfl (freshS_eq rfl) rfl rfl ?_
    refine wx_indexA hok 6 3 u1_5 rfl rfl rfl (freshS_eq rfl) rfl rfl rfl rfl rfl rfl hx23 tE_30 tS_25 (fun b23 q23 cs23 hlx23 => ?_)
    refine wx_openR R_V_opens 1 rfl (fun r23 er23 _ => ?_)
    subst er23
    refine wx_load hok 7 0 0 rfl rfl rfl (freshS_eq rfl) rfl rfl rfl rfl (cs := [_,_,_]) rfl tS_25 tA_25 rfl rfl ?_
    refine wx_bin hok 8 rfl rfl rfl (freshS_eq rfl) rfl rfl rfl rfl (neqV _ _ x19 x23) ?_
    refine wx_done hok rfl ?_
    refine we_then ?_
    refine wc_keep [25, 5, 0, 1] (S' := [_,_,_,_]) rfl ?_
    refine wc_cond rfl (fun hb25 => ?_) (fun hb25 => ?_)
    ·
     replace hm := iteT hm hb25
     refine wc_keep [] (S' := []) rfl ?_
     refine wc_seq ?_
     refine wc_region ?_
     refine wl_pure rfl rfl rfl (freshS_eq rfl) rfl ?_
     refine wl_nil ?_
     refine we_then ?_
     refine wc_ret ?_
     refine we_block_ret ?_
     refine we_then_ret ?_
     refine we_then_ret ?_
     refine we_block_ret ?_
     refine we_then_ret ?_
     have hE := (Option.some.inj hm).symm
     replace hE := link_inr hLu1 hE
     replace hE := link_inr hLj_1 hE
     replace hE := hE.symm
     subst hE
     refine ret_one (Hr := []) [] Tryd.results16 (res_tmp rfl) ⟨rfl, rfl, rfl⟩ (fun _ _ hφ => ask [] rfl hφ) rfl rfl (.inl rfl)
    ·
     replace hm := iteF hm hb25
     refine wc_keep [5, 0, 1] (S' := [_,_,_]) rfl ?_
     refine wc_skip ?_
     refine we_block_normal ?_
     refine we_then ?_
     refine wc_region ?_
     refine wl_pure rfl rfl rfl (freshS_eq rfl) rfl ?_
     refine wl_pure rfl rfl rfl (freshS_eq rfl) rfl ?_
     obtain ⟨hg16, hm⟩ := gd_some hm
     refine wl_as (d := 16) (v' := .int .i64 ((u1_5 + 1 : Nat) : Int)) (S' := [_,_,_,_]) rfl rfl (nat_add (a := u1_5) (b := 1) hg16) ?_
     refine wl_pure (S' := [_,_,_,_]) rfl rfl rfl rfl rfl ?_
     refine wl_nil ?_
     have hE := (Option.some.inj hm).symm
     replace hE := link_inl hLu1 hE
     refine we_roundK (_, u1_5 + 1) (Nat.lt_succ_self _) hE [5, 0, 1] rfl (fun _ _ hφ => ask [4, 5] rfl hφ) rfl
   ·
    replace hm := iteF hm hb14
    refine wc_keep [] (S' := []) rfl ?_
    refine wc_exit ?_
    refine we_then_exit ?_
    refine we_then_exit ?_
    refine we_block_hit ?_
    have hE := (Option.some.inj hm).symm
    replace hE := link_inr hLu1 hE
    refine we_join () hE [] rfl (fun _ _ hφ => ask [] rfl hφ) rfl
  ·
   rintro _ hE
   try dsimp only
   have hm := link_inl hLj_1 hE
   try dsimp only at hm
   refine wc_seq ?_
   refine wc_region ?_
   refine wl_pure rfl rfl rfl (freshS_eq rfl) rfl ?_
   refine wl_nil ?_
   refine we_then ?_
   refine wc_ret ?_
   have hE := (Option.some.inj hm).symm
   replace hE := hE.symm
   subst hE
   refine ret_one (Hr := []) [] Tryd.results16 (res_tmp rfl) ⟨rfl, rfl, rfl⟩ (fun _ _ hφ => ask [] rfl hφ) rfl rfl (.inl rfl)
set_option maxRecDepth 100000 in
set_option maxHeartbeats 4000000 in
theorem w_ropewalklaw09_ExprAll_s (N : Nat) (qp0 : Option Addr) (qc1 : Nat) (l0 : List V) (qp2 : Option Addr) (qc3 : Nat) (l1 : List Api_ExprD) (o0 : Bool) (hm : m_ropewalklaw09_ExprAll N l0 l1 = some o0) : Spec Tryd.prog 4 [.slice qp0 l0.length qc1, .slice qp2 l1.length qc3] [.sli 3 R_V qp0 qc1 l0, .sli 7 R_Api_ExprD qp2 qc3 l1] [] (fun v Φr Hr => v = .bool o0 ∧ Φr = [] ∧ Hr = []) := by
 unfold m_ropewalklaw09_ExprAll at hm
 refine spec_of Tryd.func4 rfl Tryd.ntmps4 rfl (S := [_,_]) rfl (fun C => ?_)
 refine wc_seq ?_
 refine wc_region ?_
 refine wl_pure rfl rfl rfl (freshS_eq rfl) rfl ?_
 refine wl_nil ?_
 refine we_then ?_
 refine wc_keep [0, 1] (S' := [_,_]) rfl ?_
 refine wc_seq ?_
 refine wc_seq ?_
 refine wc_region ?_
 obtain ⟨v9, hc9, hm⟩ := bindO_some hm
 refine wl_call [] [] rfl rfl rfl (freshS_eq rfl) rfl rfl fn_6 rfl (w_ropewalklaw09_awake_s N _ hc9) (fun _ _ hφ => ask [] rfl hφ) rfl (H' := []) rfl ?_
 rintro _ _ _ ⟨rfl, rfl, rfl⟩
 refine wl_pure rfl rfl rfl (freshS_eq rfl) rfl ?_
 refine wl_nil ?_
 refine we_then ?_
 refine wc_keep [10, 0, 1] (S' := [_,_,_]) rfl ?_
 refine wc_cond rfl (fun hb10 => ?_) (fun hb10 => ?_)
 ·
  replace hm := iteT hm hb10
  refine wc_keep [] (S' := []) rfl ?_
  refine wc_seq ?_
  refine wc_region ?_
  refine wl_pure rfl rfl rfl (freshS_eq rfl) rfl ?_
  refine wl_nil ?_
  refine we_then ?_
  refine wc_ret ?_
  refine we_then_ret ?_
  have hE := (Option.some.inj hm).symm
  replace hE := hE.symm
  subst hE
  refine ret_one (Hr := []) [] Tryd.results4 (res_tmp rfl) ⟨rfl, rfl, rfl⟩ (fun _ _ hφ => ask [] rfl hφ) rfl rfl (.inl rfl)
 ·
  replace hm := iteF hm hb10
  refine wc_keep [0, 1] (S' := [_,_]) rfl ?_
  refine wc_skip ?_
  refine we_then ?_
  refine wc_seq ?_
  refine wc_seq ?_
  refine wc_region ?_
  refine wl_pure rfl rfl rfl (freshS_eq rfl) rfl ?_
  refine wl_pure rfl rfl rfl (freshS_eq rfl) rfl ?_
  obtain ⟨v13, hc13, hm⟩ := bindO_some hm
  refine wl_call [] [] rfl rfl rfl (freshS_eq rfl) rfl rfl fn_7 rfl (w_ropewalklaw09_light_s N qp0 qc1 l0 qp2 qc3 l1 _ hc13) (fun _ _ hφ => ask [0, 1] rfl hφ) rfl (H' := []) rfl ?_
  rintro _ _ _ ⟨rfl, rfl, rfl⟩
  refine wl_pure rfl rfl rfl (freshS_eq rfl) rfl ?_
  refine wl_nil ?_
  refine we_then ?_
  refine wc_keep [14, 0, 1] (S' := [_,_,_]) rfl ?_
  refine wc_cond rfl (fun hb14 => ?_) (fun hb14 => ?_)
  ·
   replace hm := iteT hm hb14
   refine wc_keep [] (S' := []) rfl ?_
   refine wc_seq ?_
   refine wc_region ?_
   refine wl_pure rfl rfl rfl (freshS_eq rfl) rfl ?_
   refine wl_nil ?_
   refine we_then ?_
   refine wc_ret ?_
   refine we_then_ret ?_
   have hE := (Option.some.inj hm).symm
   replace hE := hE.symm
   subst hE
   refine ret_one (Hr := []) [] Tryd.results4 (res_tmp rfl) ⟨rfl, rfl, rfl⟩ (fun _ _ hφ => ask [] rfl hφ) rfl rfl (.inl rfl)
  ·
   replace hm := iteF hm hb14
   refine wc_keep [0, 1] (S' := [_,_]) rfl ?_
   refine wc_skip ?_
   refine we_then ?_
   refine wc_seq ?_
   refine wc_region ?_
   refine wl_pure rfl rfl rfl (freshS_eq rfl) rfl ?_
   refine wl_pure rfl rfl rfl (freshS_eq rfl) rfl ?_
   obtain ⟨⟨v18_0, v18_1⟩, hc18, hm⟩ := bindO_some hm
   try dsimp only at hm
   refine wl_call [] [] rfl rfl rfl (freshS_eq rfl) rfl rfl fn_14 rfl (w_expr_All_s N qp0 qc1 l0 qp2 qc3 l1 _ _ hc18) (fun _ _ hφ => ask [0, 1] rfl hφ) rfl (H' := []) rfl ?_
   rintro _ _ _ ⟨p18_0, c18_1, c18_2, rfl, rfl, rfl⟩
   refine wl_pure rfl rfl rfl (freshS_eq rfl) rfl ?_
   refine wl_pure rfl rfl rfl (freshS_eq rfl) rfl ?_
   refine wl_pure rfl rfl rfl (freshS_eq rfl) rfl ?_
   refine wl_pure rfl rfl rfl (freshS_eq rfl) rfl ?_
   refine wl_pure rfl rfl rfl (freshS_eq rfl) rfl ?_
   refine wl_nil ?_
   refine we_then ?_
   refine wc_keep [6, 5, 0, 1] (S' := [_,_,_,_]) rfl ?_
   refine wc_seq ?_
   refine wc_region ?_
   refine wl_pure rfl rfl rfl (freshS_eq rfl) rfl ?_
   refine wl_pure rfl rfl rfl (freshS_eq rfl) rfl ?_
   obtain ⟨⟨v24_0, v24_1⟩, hc24, hm⟩ := bindO_some hm
   try dsimp only at hm
   refine wl_call [] [0] rfl rfl rfl (freshS_eq rfl) rfl rfl fn_15 rfl (w_ropewalkref09_All_s N qp0 qc1 l0 qp2 qc3 l1 _ _ hc24) (fun _ _ hφ => ask [0, 1] rfl hφ) rfl (H' := [_]) rfl ?_
   rintro _ _ _ ⟨p24_0, c24_1, c24_2, rfl, rfl, rfl⟩
   refine wl_pure rfl rfl rfl (freshS_eq rfl) rfl ?_
   refine wl_pure rfl rfl rfl (freshS_eq rfl) rfl ?_
   refine wl_pure rfl rfl rfl (freshS_eq rfl) rfl ?_
   refine wl_pure rfl rfl rfl (freshS_eq rfl) rfl ?_
   refine wl_pure rfl rfl rfl (freshS_eq rfl) rfl ?_
   refine wl_nil ?_
   refine we_then ?_
   refine wc_keep [8, 7, 6, 5] (S' := [_,_,_,_]) rfl ?_
   refine wc_seq ?_
   refine wc_region ?_
   refine wl_pure rfl rfl rfl (freshS_eq rfl) rfl ?_
   refine wl_pure rfl rfl rfl (freshS_eq rfl) rfl ?_
   refine wl_pure rfl rfl rfl (freshS_eq rfl) rfl ?_
   refine wl_as (d := 29) (v' := .bool (v18_1 == v24_1)) (S' := [_,_,_,_,_,_]) rfl rfl (nateq (a := v18_1) (b := v24_1)) ?_
   refine wl_pure rfl rfl rfl (freshS_eq rfl) rfl ?_
   refine wl_split (d := 30) (S' := [_,_,_,_,_,_,_]) rfl rfl (fun hs30 => ?_) (fun hs30 => ?_)
   ·
    replace hm := iteT hm hs30
    refine wl_pure rfl rfl rfl (freshS_eq rfl) rfl ?_
    refine wl_pure rfl rfl rfl (freshS_eq rfl) rfl ?_
    refine wl_ownLen 1 rfl (fun hzc18_2 _ => ?_)
    subst hzc18_2
    refine wl_ownLen 0 rfl (fun hzc24_2 _ => ?_)
    subst hzc24_2
    obtain ⟨v33, hc33, hm⟩ := bindO_some hm
    refine wl_lend [] [0, 1] [1, 0] rfl rfl rfl (freshS_eq rfl) rfl rfl fn_16 rfl (w_ropewalkkit_SameValues_s N p18_0 c18_1 v18_0 p24_0 c24_1 v24_0 _ hc33) (fun F w hφ hh => (ask_cons (own_sli (hh _ (mem_at (k := 0) rfl))) (ask_cons (own_sli (hh _ (mem_at (k := 1) rfl))) ask_nil))) (fun _ _ _ hR => by obtain ⟨rfl, rfl, rfl⟩ := hR; exact ⟨rfl, (fun _ h => free_nil h)⟩) rfl rfl (H' := [_,_]) rfl ?_
    rintro _ _ _ ⟨rfl, rfl, rfl⟩
    refine wl_pure rfl rfl rfl (freshS_eq rfl) rfl ?_
    refine wl_pure rfl rfl rfl (freshS_eq rfl) rfl ?_
    refine wl_nil ?_
    refine we_then ?_
    refine wc_keep [4] (S' := [_]) rfl ?_
    refine wc_ret ?_
    have hE := (Option.some.inj hm).symm
    replace hE := hE.symm
    subst hE
    refine ret_one (Hr := []) [] Tryd.results4 (res_tmp rfl) ⟨rfl, rfl, rfl⟩ (fun _ _ hφ => ask [] rfl hφ) rfl rfl (.inl rfl)
   ·
    replace hm := iteF hm hs30
    refine wl_off rfl rfl rfl (freshS_eq rfl) ?_
    refine wl_off rfl rfl rfl (freshS_eq rfl) ?_
    refine wl_off rfl rfl rfl (freshS_eq rfl) ?_
    refine wl_pure rfl rfl rfl (freshS_eq rfl) rfl ?_
    refine wl_pure rfl rfl rfl (freshS_eq rfl) rfl ?_
    refine wl_nil ?_
    refine we_then ?_
    refine wc_keep [4] (S' := [_]) rfl ?_
    refine wc_ret ?_
    have hE := (Option.some.inj hm).symm
    replace hE := hE.symm
    subst hE
    refine ret_one (Hr := []) [] Tryd.results4 (res_tmp rfl) ⟨rfl, rfl, rfl⟩ (fun _ _ hφ => ask [] rfl hφ) rfl rfl (.inl rfl)
set_option maxRecDepth 100000 in
set_option maxHeartbeats 4000000 in
theorem w_ropewalkkit_Pick_s (N : Nat) (a0 : Int) (a1 : Int) (o0 : Int) (hm : m_ropewalkkit_Pick N a0 a1 = some o0) : Spec Tryd.prog 18 [.int .i64 a0, .int .i64 a1] [] [] (fun v Φr Hr => v = .int .i64 o0 ∧ Φr = [] ∧ Hr = []) := by
 unfold m_ropewalkkit_Pick at hm
 refine spec_of Tryd.func18 rfl Tryd.ntmps18 rfl (S := [_,_]) rfl (fun C => ?_)
 refine wc_seq ?_
 refine wc_region ?_
 refine wl_pure rfl rfl rfl (freshS_eq rfl) rfl ?_
 refine wl_nil ?_
 refine we_then ?_
 refine wc_keep [0, 1] (S' := [_,_]) rfl ?_
 refine wc_seq ?_
 refine wc_seq ?_
 refine wc_region ?_
 refine wl_pure rfl rfl rfl (freshS_eq rfl) rfl ?_
 refine wl_pure rfl rfl rfl (freshS_eq rfl) rfl ?_
 refine wl_nil ?_
 refine we_then ?_
 refine wc_keep [6, 0, 1] (S' := [_,_,_]) rfl ?_
 refine wc_cond rfl (fun hb6 => ?_) (fun hb6 => ?_)
 ·
  replace hm := iteT hm hb6
  refine wc_keep [] (S' := []) rfl ?_
  refine wc_seq ?_
  refine wc_region ?_
  refine wl_pure rfl rfl rfl (freshS_eq rfl) rfl ?_
  refine wl_nil ?_
  refine we_then ?_
  refine wc_ret ?_
  refine we_then_ret ?_
  have hE := (Option.some.inj hm).symm
  replace hE := hE.symm
  subst hE
  refine ret_one (Hr := []) [] Tryd.results18 (res_tmp rfl) ⟨rfl, rfl, rfl⟩ (fun _ _ hφ => ask [] rfl hφ) rfl rfl (.inl rfl)
 ·
  replace hm := iteF hm hb6
  refine wc_keep [0, 1] (S' := [_,_]) rfl ?_
  refine wc_skip ?_
  refine we_then ?_
  refine wc_seq ?_
  refine wc_region ?_
  refine wl_pure rfl rfl rfl (freshS_eq rfl) rfl ?_
  refine wl_pure rfl rfl rfl (freshS_eq rfl) rfl ?_
  obtain ⟨hg9, hm⟩ := gd_some hm
  refine wl_bin rfl rfl rfl (freshS_eq rfl) rfl rfl rfl (run_rem hg9) ?_
  refine wl_pure (S' := [_,_,_,_]) rfl rfl rfl rfl rfl ?_
  refine wl_nil ?_
  refine we_then ?_
  refine wc_keep [0, 1] (S' := [_,_]) rfl ?_
  refine wc_seq ?_
  obtain ⟨bj_1, hm, hLj_1⟩ := bindO_some hm
  refine wc_cut (σ := Int) (fun j_1_0 => bj_1 = j_1_0) (fun j_1_0 => [(0, .int .i64 j_1_0)]) (fun j_1_0 => []) (fun j_1_0 => []) ?_ ?_
  ·
   refine wc_seq ?_
   refine wc_region ?_
   refine wl_pure rfl rfl rfl (freshS_eq rfl) rfl ?_
   refine wl_pure rfl rfl rfl (freshS_eq rfl) rfl ?_
   refine wl_nil ?_
   refine we_then ?_
   refine wc_keep [11, 0, 1] (S' := [_,_,_]) rfl ?_
   refine wc_cond rfl (fun hb11 => ?_) (fun hb11 => ?_)
   ·
    replace hm := iteT hm hb11
    refine wc_keep [0, 1] (S' := [_,_]) rfl ?_
    refine wc_region ?_
    refine wl_pure rfl rfl rfl (freshS_eq rfl) rfl ?_
    refine wl_pure rfl rfl rfl (freshS_eq rfl) rfl ?_
    refine wl_pure rfl rfl rfl (freshS_eq rfl) rfl ?_
    obtain ⟨hg14, hm⟩ := gd_some hm
    refine wl_as (d := 14) (v' := .int .i64 ((Int.tmod a0 a1) + a1)) (S' := [_,_,_,_]) rfl rfl (i64_in hg14) ?_
    refine wl_pure (S' := [_,_,_,_]) rfl rfl rfl rfl rfl ?_
    refine wl_nil ?_
    have hE := (Option.some.inj hm).symm
    refine we_join ((Int.tmod a0 a1) + a1) hE [0] rfl (fun _ _ hφ => ask [] rfl hφ) rfl
   ·
    replace hm := iteF hm hb11
    refine wc_keep [0] (S' := [_]) rfl ?_
    refine wc_skip ?_
    have hE := (Option.some.inj hm).symm
    refine we_join (Int.tmod a0 a1) hE [0] rfl (fun _ _ hφ => ask [] rfl hφ) rfl
  ·
   rintro j_1_0 hE
   try dsimp only
   have hm := hLj_1
   rw [hE] at hm
   refine wc_seq ?_
   refine wc_region ?_
   refine wl_pure rfl rfl rfl (freshS_eq rfl) rfl ?_
   refine wl_pure rfl rfl rfl (freshS_eq rfl) rfl ?_
   refine wl_nil ?_
   refine we_then ?_
   refine wc_keep [4] (S' := [_]) rfl ?_
   refine wc_ret ?_
   have hE := (Option.some.inj hm).symm
   replace hE := hE.symm
   subst hE
   refine ret_one (Hr := []) [] Tryd.results18 (res_tmp rfl) ⟨rfl, rfl, rfl⟩ (fun _ _ hφ => ask [] rfl hφ) rfl rfl (.inl rfl)
set_option maxRecDepth 100000 in
set_option maxHeartbeats 4000000 in
theorem w_ropewalklaw09_put_s_b (N : Nat) (rc : Int → Int → Int → ByteArray → Int → Int → (List Api_ExprD) → Int → Int → Int → ByteArray → Option (Int × Int × Int × ByteArray × Int × Int × (List Api_ExprD))) (ih : ∀ (a0 : Int) (a1 : Int) (a2 : Int) (a3 : ByteArray) (a4 : Int) (a5 : Int) (qp0 : Option Addr) (qc1 : Nat) (l6 : List Api_ExprD) (a7 : Int) (a8 : Int) (a9 : Int) (a10 : ByteArray) (o0 : Int) (o1 : Int) (o2 : Int) (o3 : ByteArray) (o4 : Int) (o5 : Int) (o8 : List Api_ExprD), rc a0 a1 a2 a3 a4 a5 l6 a7 a8 a9 a10 = some (o0, o1, o2, o3, o4, o5, o8) → Spec Tryd.prog 19 [.agg #[.int .u8 a0, .int .u8 a1, .int .i64 a2, .string a3, .int .i64 a4, .int .u8 a5, .slice qp0 l6.length qc1], .int .i64 a7, .agg #[.int .u8 a8, .int .i64 a9, .string a10]] [.sli 7 R_Api_ExprD qp0 qc1 l6] [] (fun v Φr Hr => ∃ (o6 : Option Addr) (o7 : Nat) (o9 : Nat), v = .agg #[.int .u8 o0, .int .u8 o1, .int .i64 o2, .string o3, .int .i64 o4, .int .u8 o5, .slice o6 o9 o7] ∧ Φr = [] ∧ Hr = [.own 29 7 R_Api_ExprD (.slice o6 o9 o7) o8])) (a0 : Int) (a1 : Int) (a2 : Int) (a3 : ByteArray) (a4 : Int) (a5 : Int) (qp0 : Option Addr) (qc1 : Nat) (l6 : List Api_ExprD) (a7 : Int) (a8 : Int) (a9 : Int) (a10 : ByteArray) (o0 : Int) (o1 : Int) (o2 : Int) (o3 : ByteArray) (o4 : Int) (o5 : Int) (o8 : List Api_ExprD) (hm : m_ropewalklaw09_put_b N rc a0 a1 a2 a3 a4 a5 l6 a7 a8 a9 a10 = some (o0, o1, o2, o3, o4, o5, o8)) : Spec Tryd.prog 19 [.agg #[.int .u8 a0, .int .u8 a1, .int .i64 a2, .string a3, .int .i64 a4, .int .u8 a5, .slice qp0 l6.length qc1], .int .i64 a7, .agg #[.int .u8 a8, .int .i64 a9, .string a10]] [.sli 7 R_Api_ExprD qp0 qc1 l6] [] (fun v Φr Hr => ∃ (o6 : Option Addr) (o7 : Nat) (o9 : Nat), v = .agg #[.int .u8 o0, .int .u8 o1, .int .i64 o2, .string o3, .int .i64 o4, .int .u8 o5, .slice o6 o9 o7] ∧ Φr = [] ∧ Hr = [.own 29 7 R_Api_ExprD (.slice o6 o9 o7) o8]) := by
 unfold m_ropewalklaw09_put_b at hm
 refine spec_of Tryd.func19 rfl Tryd.ntmps19 rfl (S := [_,_,_]) rfl (fun C => ?_)
 refine wc_seq ?_
 refine wc_region ?_
 refine wl_box rfl rfl rfl (freshS_eq rfl) rfl rfl rfl (fun g3 => ?_)
 refine wl_box rfl rfl rfl (freshS_eq rfl) rfl rfl rfl (fun g5 => ?_)
 refine wl_alloc rfl rfl rfl (freshS_eq rfl) rfl tZ_29 rfl (fun g6 => ?_)
 refine wl_nil ?_
 refine we_then ?_
 refine wc_keep [6, 5, 3, 1] (S' := [_,_,_,_]) rfl ?_
 refine wc_seq ?_
 refine wc_seq ?_
 obtain ⟨bj_1, hm, hLj_1⟩ := bindO_some hm
 refine wc_cut (σ := Bool) (fun j_1_18 => bj_1 = j_1_18) (fun j_1_18 => [(6, .pointer (some ⟨g6, 0, none⟩)), (5, .pointer (some ⟨g5, 0, none⟩)), (3, .pointer (some ⟨g3, 0, none⟩)), (1, .int .i64 a7), (18, .bool j_1_18)]) (fun j_1_18 => [.sli 7 R_Api_ExprD qp0 qc1 l6]) (fun j_1_18 => [.blk g6 [.int .u8 0, .int .u8 0, .int .i64 0, .string ((⟨#[]⟩ : ByteArray)), .int .i64 0, .int .u8 0, .slice none 0 0] 29, .blk g5 [.int .u8 a8, .int .i64 a9, .string a10] 25, .blk g3 [.int .u8 a0, .int .u8 a1, .int .i64 a2, .string a3, .int .i64 a4, .int .u8 a5, .slice qp0 l6.length qc1] 29]) ?_ ?_
 ·
  refine wc_region ?_
  refine wl_fieldAddr rfl rfl rfl (freshS_eq rfl) rfl rfl tF_29_0 ?_
  refine wl_loadH 2 0 rfl rfl rfl (freshS_eq rfl) rfl rfl rfl (cs := [_]) rfl tS_22 tA_22 rfl rfl ?_
  refine wl_pure rfl rfl rfl (freshS_eq rfl) rfl ?_
  refine wl_pure rfl rfl rfl (freshS_eq rfl) rfl ?_
  refine wl_split (d := 13) (S' := [_,_,_,_,_,_,_]) rfl rfl (fun hs13 => ?_) (fun hs13 => ?_)
  ·
   replace hm := iteT hm hs13
   refine wl_fieldAddr rfl rfl rfl (freshS_eq rfl) rfl rfl tF_29_2 ?_
   refine wl_loadH 2 4 rfl rfl rfl (freshS_eq rfl) rfl rfl rfl (cs := [_]) rfl tS_3 tA_3 rfl rfl ?_
   refine wl_pure rfl rfl rfl (freshS_eq rfl) rfl ?_
   refine wl_pure rfl rfl rfl (freshS_eq rfl) rfl ?_
   refine wl_pure rfl rfl rfl (freshS_eq rfl) rfl ?_
   refine wl_nil ?_
   have hE := (Option.some.inj hm).symm
   refine we_join (a4 == a7) hE [6, 5, 3, 1, 18] rfl (fun _ _ hφ => ask [0] rfl hφ) rfl
  ·
   replace hm := iteF hm hs13
   refine wl_off rfl rfl rfl (freshS_eq rfl) ?_
   refine wl_off rfl rfl rfl (freshS_eq rfl) ?_
   refine wl_off rfl rfl rfl (freshS_eq rfl) ?_
   refine wl_off rfl rfl rfl (freshS_eq rfl) ?_
   refine wl_pure rfl rfl rfl (freshS_eq rfl) rfl ?_
   refine wl_nil ?_
   have hE := (Option.some.inj hm).symm
   refine we_join false hE [6, 5, 3, 1, 18] rfl (fun _ _ hφ => ask [0] rfl hφ) rfl
 ·
  rintro j_1_18 hE
  try dsimp only
  have hm := hLj_1
  rw [hE] at hm
  refine wc_cond rfl (fun hb18 => ?_) (fun hb18 => ?_)
  ·
   replace hm := iteT hm hb18
   refine wc_keep [6, 5] (S' := [_,_]) rfl ?_
   refine wc_seq ?_
   refine wc_region ?_
   refine wl_loadH 1 0 rfl rfl rfl (freshS_eq rfl) rfl rfl rfl (cs := [_,_,_]) rfl tS_25 tA_25 rfl rfl ?_
   refine wl_build rfl rfl rfl (freshS_eq rfl) rfl tZ_29 tP_29 rfl (out := [_,_,_,_,_,_,_]) rfl ?_
   refine wl_store 0 0 rfl rfl rfl rfl rfl rfl rfl tS_29 rfl rfl rfl (all' := [_,_,_,_,_,_,_]) rfl (H' := [_,_,_]) rfl ?_
   refine wl_nil ?_
   refine we_then ?_
   refine wc_keep [6] (S' := [_]) rfl ?_
   refine wc_ret ?_
   refine we_then_ret ?_
   have hE := (Option.some.inj hm).symm
   obtain ⟨hE0, hF1⟩ := Prod.mk.inj hE
   obtain ⟨hE1, hF2⟩ := Prod.mk.inj hF1
   obtain ⟨hE2, hF3⟩ := Prod.mk.inj hF2
   obtain ⟨hE3, hF4⟩ := Prod.mk.inj hF3
   obtain ⟨hE4, hF5⟩ := Prod.mk.inj hF4
   obtain ⟨hE5, hE6⟩ := Prod.mk.inj hF5
   clear hE hF1 hF2 hF3 hF4 hF5
   replace hE0 := hE0.symm
   subst hE0
   replace hE1 := hE1.symm
   subst hE1
   replace hE2 := hE2.symm
   subst hE2
   replace hE3 := hE3.symm
   subst hE3
   replace hE4 := hE4.symm
   subst hE4
   replace hE5 := hE5.symm
   subst hE5
   replace hE6 := hE6.symm
   subst hE6
   refine we_rowNil 29 7 R_Api_ExprD ?_
   refine ret_one (Hr := [_]) [0] Tryd.results19 (res_cell 1 rfl rfl tS_29 tA_29 rfl rfl) ⟨none, 0, 0, rfl, rfl, rfl⟩ (fun _ _ hφ => ask [] rfl hφ) rfl rfl (.inl rfl)
  ·
   replace hm := iteF hm hb18
   refine wc_keep [6, 5, 3, 1] (S' := [_,_,_,_]) rfl ?_
   refine wc_skip ?_
   refine we_then ?_
   refine wc_seq ?_
   refine wc_region ?_
   refine wl_loadH 2 0 rfl rfl rfl (freshS_eq rfl) rfl rfl rfl (cs := [_,_,_,_,_,_,_]) rfl tS_29 tA_29 rfl rfl ?_
   refine wl_alloc rfl rfl rfl (freshS_eq rfl) rfl tZ_29 rfl (fun g7 => ?_)
   refine wl_store 0 0 rfl rfl rfl rfl rfl rfl rfl tS_29 rfl rfl rfl (all' := [_,_,_,_,_,_,_]) rfl (H' := [_,_,_,_]) rfl ?_
   refine wl_nil ?_
   refine we_then ?_
   refine wc_keep [7, 6, 5, 3, 1] (S' := [_,_,_,_,_]) rfl ?_
   refine wc_seq ?_
   refine wc_region ?_
   refine wl_fieldAddr rfl rfl rfl (freshS_eq rfl) rfl rfl tF_29_4 ?_
   refine wl_store 0 6 rfl rfl rfl rfl rfl rfl rfl tS_27 rfl rfl rfl (all' := [_,_,_,_,_,_,_]) rfl (H' := [_,_,_,_]) rfl ?_
   refine wl_nil ?_
   refine we_then ?_
   refine wc_keep [7, 6, 5, 3, 1] (S' := [_,_,_,_,_]) rfl ?_
   refine wc_seq ?_
   obtain ⟨bj_2, hm, hLj_2⟩ := bindO_some hm
   refine wc_cut (σ := (List Api_ExprD) × (Option Addr) × Nat × Nat) (fun (j_2_7_f6_l, j_2_7_f6_p, j_2_7_f6_c, j_2_7_f6_n) => bj_2 = j_2_7_f6_l) (fun (j_2_7_f6_l, j_2_7_f6_p, j_2_7_f6_c, j_2_7_f6_n) => [(7, .pointer (some ⟨g7, 0, none⟩)), (6, .pointer (some ⟨g6, 0, none⟩))]) (fun (j_2_7_f6_l, j_2_7_f6_p, j_2_7_f6_c, j_2_7_f6_n) => []) (fun (j_2_7_f6_l, j_2_7_f6_p, j_2_7_f6_c, j_2_7_f6_n) => [.blk g7 [.int .u8 a0, .int .u8 a1, .int .i64 a2, .string a3, .int .i64 a4, .int .u8 a5, .slice j_2_7_f6_p j_2_7_f6_n j_2_7_f6_c] 29, .own 29 7 R_Api_ExprD (.slice j_2_7_f6_p j_2_7_f6_n j_2_7_f6_c) j_2_7_f6_l, .blk g6 [.int .u8 0, .int .u8 0, .int .i64 0, .string ((⟨#[]⟩ : ByteArray)), .int .i64 0, .int .u8 0, .slice none 0 0] 29]) ?_ ?_
   ·
    refine wc_seq ?_
    refine wc_region ?_
    refine wl_pure rfl rfl rfl (freshS_eq rfl) rfl ?_
    refine wl_nil ?_
    refine we_then ?_
    refine wc_block ?_
    refine wc_rowNil 29 7 R_Api_ExprD ?_
    refine wc_pick [1, 0, 2, 3, 4] rfl (H' := [_,_,_,_,_]) rfl ?_
    refine wc_loop (σ := Nat × Nat × (List Api_ExprD) × (Option Addr) × Nat × Nat) (fun (nu1, u1_8, u1_7_f6_l, u1_7_f6_p, u1_7_f6_c, u1_7_f6_n) => iter (m_ropewalklaw09_put_L1 N l6 rc a7 a8 a9 a10) nu1 (u1_8, u1_7_f6_l) = some bj_2) (fun (nu1, u1_8, u1_7_f6_l, u1_7_f6_p, u1_7_f6_c, u1_7_f6_n) => nu1) (fun (nu1, u1_8, u1_7_f6_l, u1_7_f6_p, u1_7_f6_c, u1_7_f6_n) => [(8, .int .i64 ((u1_8 : Nat) : Int)), (7, .pointer (some ⟨g7, 0, none⟩)), (6, .pointer (some ⟨g6, 0, none⟩)), (5, .pointer (some ⟨g5, 0, none⟩)), (3, .pointer (some ⟨g3, 0, none⟩)), (1, .int .i64 a7)]) (fun (nu1, u1_8, u1_7_f6_l, u1_7_f6_p, u1_7_f6_c, u1_7_f6_n) => [.sli 7 R_Api_ExprD qp0 qc1 l6]) (fun (nu1, u1_8, u1_7_f6_l, u1_7_f6_p, u1_7_f6_c, u1_7_f6_n) => [.blk g7 [.int .u8 a0, .int .u8 a1, .int .i64 a2, .string a3, .int .i64 a4, .int .u8 a5, .slice u1_7_f6_p u1_7_f6_n u1_7_f6_c] 29, .own 29 7 R_Api_ExprD (.slice u1_7_f6_p u1_7_f6_n u1_7_f6_c) u1_7_f6_l, .blk g6 [.int .u8 0, .int .u8 0, .int .i64 0, .string ((⟨#[]⟩ : ByteArray)), .int .i64 0, .int .u8 0, .slice none 0 0] 29, .blk g5 [.int .u8 a8, .int .i64 a9, .string a10] 25, .blk g3 [.int .u8 a0, .int .u8 a1, .int .i64 a2, .string a3, .int .i64 a4, .int .u8 a5, .slice qp0 l6.length qc1] 29]) (N, 0, [], none, 0, 0) hm [8, 7, 6, 5, 3, 1] rfl (fun _ _ hφ => ask [0] rfl hφ) rfl (fun s_ hm => ?_)
    obtain ⟨nu1, u1_8, u1_7_f6_l, u1_7_f6_p, u1_7_f6_c, u1_7_f6_n⟩ := s_
    try dsimp only at hm ⊢
    obtain ⟨mu1, bu1, hnu1, hq, hLu1⟩ := iter_some hm
    clear hm
    subst hnu1
    replace hm := hq
    clear hq
    unfold m_ropewalklaw09_put_L1 at hm
    try dsimp only at hm
    refine wc_seq ?_
    refine wc_seq ?_
    refine wc_region ?_
    refine wl_pure rfl rfl rfl (freshS_eq rfl) rfl ?_
    refine wl_fieldAddr rfl rfl rfl (freshS_eq rfl) rfl rfl tF_29_4 ?_
    refine wl_loadH 4 6 rfl rfl rfl (freshS_eq rfl) rfl rfl rfl (cs := [_]) rfl tS_27 tA_27 rfl rfl ?_
    refine wl_len rfl rfl rfl (freshS_eq rfl) rfl rfl tE_27 ?_
    refine wl_pure rfl rfl rfl (freshS_eq rfl) rfl ?_
    refine wl_as (d := 27) (v' := .bool (decide (u1_8 < l6.length))) (S' := [_,_,_,_,_,_,_,_,_,_]) rfl rfl (natlt (a := u1_8) (b := l6.length)) ?_
    refine wl_nil ?_
    refine we_then ?_
    refine wc_keep [27, 8, 7, 6, 5, 3, 1] (S' := [_,_,_,_,_,_,_]) rfl ?_
    refine wc_cond rfl (fun hb27 => ?_) (fun hb27 => ?_)
    ·
     replace hm := iteT hm hb27
     refine wc_keep [8, 7, 6, 5, 3, 1] (S' := [_,_,_,_,_,_]) rfl ?_
     refine wc_skip ?_
     refine we_then ?_
     refine wc_seq ?_
     refine wc_block ?_
     refine wc_seq ?_
     obtain ⟨x33, hx33, hm⟩ := bindO_some hm
     obtain ⟨⟨v37_0, v37_1, v37_2, v37_3, v37_4, v37_5, v37_6⟩, hc37, hm⟩ := bindO_some hm
     try dsimp only at hm
     refine wc_cut (σ := Nat × (Option Addr) × Nat × Nat) (fun _ => True) (fun (w_3_9_g, w_3_9_f6_p, w_3_9_f6_c, w_3_9_f6_n) => [(9, .pointer (some ⟨w_3_9_g, 0, none⟩)), (8, .int .i64 ((u1_8 : Nat) : Int)), (7, .pointer (some ⟨g7, 0, none⟩)), (6, .pointer (some ⟨g6, 0, none⟩)), (5, .pointer (some ⟨g5, 0, none⟩)), (3, .pointer (some ⟨g3, 0, none⟩)), (1, .int .i64 a7)]) (fun (w_3_9_g, w_3_9_f6_p, w_3_9_f6_c, w_3_9_f6_n) => [.sli 7 R_Api_ExprD qp0 qc1 l6]) (fun (w_3_9_g, w_3_9_f6_p, w_3_9_f6_c, w_3_9_f6_n) => [.blk w_3_9_g [.int .u8 v37_0, .int .u8 v37_1, .int .i64 v37_2, .string v37_3, .int .i64 v37_4, .int .u8 v37_5, .slice w_3_9_f6_p w_3_9_f6_n w_3_9_f6_c] 29, .own 29 7 R_Api_ExprD (.slice w_3_9_f6_p w_3_9_f6_n w_3_9_f6_c) v37_6, .blk g7 [.int .u8 a0, .int .u8 a1, .int .i64 a2, .string a3, .int .i64 a4, .int .u8 a5, .slice u1_7_f6_p u1_7_f6_n u1_7_f6_c] 29, .own 29 7 R_Api_ExprD (.slice u1_7_f6_p u1_7_f6_n u1_7_f6_c) u1_7_f6_l, .blk g6 [.int .u8 0, .int .u8 0, .int .i64 0, .string ((⟨#[]⟩ : ByteArray)), .int .i64 0, .int .u8 0, .slice none 0 0] 29, .blk g5 [.int .u8 a8, .int .i64 a9, .string a10] 25, .blk g3 [.int .u8 a0, .int .u8 a1, .int .i64 a2, .string a3, .int .i64 a4, .int .u8 a5, .slice qp0 l6.length qc1] 29]) ?_ ?_
     ·
      refine wc_draw [0, 1, 2, 3, 4, 5, 6] rfl rfl (fun hok => ?_)
      refine wx_fieldAddr hok 0 rfl rfl rfl (freshS_eq rfl) rfl rfl rfl tF_29_4 ?_
      refine wx_loadH hok 1 4 6 rfl rfl rfl (freshS_eq rfl) rfl rfl rfl rfl (cs := [_]) rfl tS_27 tA_27 rfl rfl ?_
      refine wx_pure hok 2 rfl rfl rfl (freshS_eq rfl) rfl rfl ?_
      refine wx_indexA hok 3 0 u1_8 rfl rfl rfl (freshS_eq rfl) rfl rfl rfl rfl rfl rfl hx33 tE_27 tS_29 (fun b33 q33 cs33 hlx33 => ?_)
      refine wx_openR R_Api_ExprD_opens 1 rfl (fun r33 er33 _ => ?_)
      subst er33
      refine wx_load hok 4 1 0 rfl rfl rfl (freshS_eq rfl) rfl rfl rfl rfl (cs := [_,_,_,_,_,_,_]) rfl tS_29 tA_29 rfl rfl ?_
      refine wx_pure hok 5 rfl rfl rfl (freshS_eq rfl) rfl rfl ?_
      refine wx_loadH hok 6 3 0 rfl rfl rfl (freshS_eq rfl) rfl rfl rfl rfl (cs := [_,_,_]) rfl tS_25 tA_25 rfl rfl ?_
      refine wx_step2 hok 7 8 rfl rfl rfl rfl rfl rfl ?_ ?_
      ·
       refine wl_call [] [0, 1, 2, 3, 4] rfl rfl rfl (freshS_eq rfl) rfl rfl fn_19 rfl (ih x33.kind x33.value.k x33.value.n x33.value.s x33.var x33.op r33.1 r33.2 x33.kids a7 a8 a9 a10 _ _ _ _ _ _ _ hc37) (fun _ _ hφ => ask [0] rfl hφ) rfl (H' := [_,_,_,_,_]) rfl ?_
       rintro _ _ _ ⟨p37_0, c37_1, c37_2, rfl, rfl, rfl⟩
       refine wl_nil ?_
       refine we_x [0, 1, 2, 3] [5] rfl rfl ?_
       refine wx_step1 hok 8 rfl rfl rfl rfl ?_
       refine wl_alloc rfl rfl rfl (freshS_eq rfl) rfl tZ_29 rfl (fun g9 => ?_)
       refine wl_nil ?_
       refine we_x [0, 1, 2, 3] [5, 6] rfl rfl ?_
       refine wx_step1 hok 9 rfl rfl rfl rfl ?_
       refine wl_store 0 0 rfl rfl rfl rfl rfl rfl rfl tS_29 rfl rfl rfl (all' := [_,_,_,_,_,_,_]) rfl (H' := [_,_,_,_,_,_,_]) rfl ?_
       refine wl_nil ?_
       refine we_x [0, 1, 2, 3] [] rfl rfl ?_
       refine wx_done hok rfl ?_
       refine we_join (g9, p37_0, c37_1, c37_2) trivial [9, 8, 7, 6, 5, 3, 1] rfl (fun _ _ hφ => ask [3] rfl hφ) rfl
      ·
       refine wl_alloc rfl rfl rfl (freshS_eq rfl) rfl tZ_29 rfl (fun g9 => ?_)
       refine wl_nil ?_
       refine we_x [0, 1, 2, 3] [4, 5] rfl rfl ?_
       refine wx_step1 hok 7 rfl rfl rfl rfl ?_
       refine wl_call [] [0, 1, 2, 3, 4, 5] rfl rfl rfl (freshS_eq rfl) rfl rfl fn_19 rfl (ih x33.kind x33.value.k x33.value.n x33.value.s x33.var x33.op r33.1 r33.2 x33.kids a7 a8 a9 a10 _ _ _ _ _ _ _ hc37) (fun _ _ hφ => ask [0] rfl hφ) rfl (H' := [_,_,_,_,_,_]) rfl ?_
       rintro _ _ _ ⟨p37_0, c37_1, c37_2, rfl, rfl, rfl⟩
       refine wl_nil ?_
       refine we_x [0, 1, 2, 3] [6] rfl rfl ?_
       refine wx_step1 hok 9 rfl rfl rfl rfl ?_
       refine wl_store 1 0 rfl rfl rfl rfl rfl rfl rfl tS_29 rfl rfl rfl (all' := [_,_,_,_,_,_,_]) rfl (H' := [_,_,_,_,_,_,_]) rfl ?_
       refine wl_nil ?_
       refine we_x [0, 1, 2, 3] [] rfl rfl ?_
       refine wx_done hok rfl ?_
       refine we_pick [1, 0, 2, 3, 4, 5, 6] rfl (H' := [_,_,_,_,_,_,_]) rfl ?_
       refine we_join (g9, p37_0, c37_1, c37_2) trivial [9, 8, 7, 6, 5, 3, 1] rfl (fun _ _ hφ => ask [3] rfl hφ) rfl
     ·
      rintro ⟨w_3_9_g, w_3_9_f6_p, w_3_9_f6_c, w_3_9_f6_n⟩ _
      try dsimp only
      refine wc_region ?_
      refine wl_fieldAddr rfl rfl rfl (freshS_eq rfl) rfl rfl tF_29_4 ?_
      refine wl_loadH 2 6 rfl rfl rfl (freshS_eq rfl) rfl rfl rfl (cs := [_]) rfl tS_27 tA_27 rfl rfl ?_
      refine wl_loadH 0 0 rfl rfl rfl (freshS_eq rfl) rfl rfl rfl (cs := [_,_,_,_,_,_,_]) rfl tS_29 tA_29 rfl rfl ?_
      refine wl_buildSlice rfl rfl rfl (freshS_eq rfl) rfl tE_27 tS_29 tZ_29 rfl (zs := [.int .u8 0, .int .u8 0, .int .i64 0, .string ((⟨#[]⟩ : ByteArray)), .int .i64 0, .int .u8 0, .slice none 0 0]) (by kernel_rfl) rfl (out := [_,_,_,_,_,_,_]) rfl (fun g41 => ?_)
      refine wl_ownLen 2 rfl (fun hzw_3_9_f6_n _ => ?_)
      subst hzw_3_9_f6_n
      refine wl_freeze 2 rfl (H' := [_,_,_,_,_,_,_]) rfl ?_
      refine wl_fact (.sli 7 R_Api_ExprD w_3_9_f6_p w_3_9_f6_c v37_6) (fun F w hφ => own_sli (hφ _ (mem_at (k := 0) rfl))) ?_
      obtain ⟨hg42, hm⟩ := gd_some hm
      refine wl_appendH ([(⟨v37_0, (⟨v37_1, v37_2, v37_3⟩ : V), v37_4, v37_5, v37_6⟩ : Api_ExprD)]) 3 0 rfl rfl rfl (freshS_eq rfl) rfl rfl rfl rfl rfl (fun F w hφ => ⟨[.int .u8 v37_0, .int .u8 v37_1, .int .i64 v37_2, .string v37_3, .int .i64 v37_4, .int .u8 v37_5, .slice w_3_9_f6_p v37_6.length w_3_9_f6_c], [], rfl, rfl, (rec_shut (w_3_9_f6_p, w_3_9_f6_c) rfl (ask_cons (hφ _ (mem_at (k := 0) rfl)) ask_nil)), rfl⟩) tE_27 tR_29 rfl rfl (Nat.le_trans hg42 (by decide)) (Nat.le_trans (Nat.mul_le_mul_right _ hg42) (by decide)) (H2 := fun p42 c42 => [.blk g41 [.int .u8 v37_0, .int .u8 v37_1, .int .i64 v37_2, .string v37_3, .int .i64 v37_4, .int .u8 v37_5, .slice w_3_9_f6_p v37_6.length w_3_9_f6_c] 29, .blk w_3_9_g [.int .u8 v37_0, .int .u8 v37_1, .int .i64 v37_2, .string v37_3, .int .i64 v37_4, .int .u8 v37_5, .slice w_3_9_f6_p v37_6.length w_3_9_f6_c] 29, .blk g7 [.int .u8 a0, .int .u8 a1, .int .i64 a2, .string a3, .int .i64 a4, .int .u8 a5, .slice u1_7_f6_p u1_7_f6_n u1_7_f6_c] 29, .own 29 7 R_Api_ExprD (.slice p42 ((u1_7_f6_l ++ ([(⟨v37_0, (⟨v37_1, v37_2, v37_3⟩ : V), v37_4, v37_5, v37_6⟩ : Api_ExprD)])).length) c42) (u1_7_f6_l ++ ([(⟨v37_0, (⟨v37_1, v37_2, v37_3⟩ : V), v37_4, v37_5, v37_6⟩ : Api_ExprD)])), .blk g6 [.int .u8 0, .int .u8 0, .int .i64 0, .string ((⟨#[]⟩ : ByteArray)), .int .i64 0, .int .u8 0, .slice none 0 0] 29, .blk g5 [.int .u8 a8, .int .i64 a9, .string a10] 25, .blk g3 [.int .u8 a0, .int .u8 a1, .int .i64 a2, .string a3, .int .i64 a4, .int .u8 a5, .slice qp0 l6.length qc1] 29]) (fun _ _ => rfl) (fun p42 c42 => ?_)
      refine wl_drop 0 rfl (H' := [_,_,_,_,_,_]) rfl ?_
      refine wl_fieldAddr rfl rfl rfl (freshS_eq rfl) rfl rfl tF_29_4 ?_
      refine wl_store 1 6 rfl rfl rfl rfl rfl rfl rfl tS_27 rfl rfl rfl (all' := [_,_,_,_,_,_,_]) rfl (H' := [_,_,_,_,_,_]) rfl ?_
      refine wl_nil ?_
      refine we_block_normal ?_
      refine we_then ?_
      refine wc_keep [8, 7, 6, 5, 3, 1] (S' := [_,_,_,_,_,_]) rfl ?_
      refine wc_region ?_
      refine wl_pure rfl rfl rfl (freshS_eq rfl) rfl ?_
      refine wl_pure rfl rfl rfl (freshS_eq rfl) rfl ?_
      obtain ⟨hg29, hm⟩ := gd_some hm
      refine wl_as (d := 29) (v' := .int .i64 ((u1_8 + 1 : Nat) : Int)) (S' := [_,_,_,_,_,_,_]) rfl rfl (nat_add (a := u1_8) (b := 1) hg29) ?_
      refine wl_pure (S' := [_,_,_,_,_,_,_]) rfl rfl rfl rfl rfl ?_
      refine wl_nil ?_
      have hE := (Option.some.inj hm).symm
      replace hE := link_inl hLu1 hE
      refine we_pick [1, 2, 3, 4, 5] rfl (H' := [_,_,_,_,_]) rfl ?_
      refine we_roundK (_, u1_8 + 1, (u1_7_f6_l ++ ([(⟨v37_0, (⟨v37_1, v37_2, v37_3⟩ : V), v37_4, v37_5, v37_6⟩ : Api_ExprD)])), p42, c42, ((u1_7_f6_l ++ ([(⟨v37_0, (⟨v37_1, v37_2, v37_3⟩ : V), v37_4, v37_5, v37_6⟩ : Api_ExprD)])).length)) (Nat.lt_succ_self _) hE [8, 7, 6, 5, 3, 1] rfl (fun _ _ hφ => ask [2] rfl hφ) rfl
    ·
     replace hm := iteF hm hb27
     refine wc_keep [7, 6] (S' := [_,_]) rfl ?_
     refine wc_exit ?_
     refine we_then_exit ?_
     refine we_then_exit ?_
     refine we_block_hit ?_
     have hE := (Option.some.inj hm).symm
     replace hE := link_inr hLu1 hE
     refine we_pick [0, 1, 2] rfl (H' := [_,_,_]) rfl ?_
     refine we_join (u1_7_f6_l, u1_7_f6_p, u1_7_f6_c, u1_7_f6_n) hE [7, 6] rfl (fun _ _ hφ => ask [] rfl hφ) rfl
   ·
    rintro ⟨j_2_7_f6_l, j_2_7_f6_p, j_2_7_f6_c, j_2_7_f6_n⟩ hE
    try dsimp only
    have hm := hLj_2
    rw [hE] at hm
    refine wc_seq ?_
    refine wc_region ?_
    refine wl_loadH 0 0 rfl rfl rfl (freshS_eq rfl) rfl rfl rfl (cs := [_,_,_,_,_,_,_]) rfl tS_29 tA_29 rfl rfl ?_
    refine wl_store 2 0 rfl rfl rfl rfl rfl rfl rfl tS_29 rfl rfl rfl (all' := [_,_,_,_,_,_,_]) rfl (H' := [_,_,_]) rfl ?_
    refine wl_nil ?_
    refine we_then ?_
    refine wc_keep [6] (S' := [_]) rfl ?_
    refine wc_ret ?_
    have hE := (Option.some.inj hm).symm
    obtain ⟨hE0, hF1⟩ := Prod.mk.inj hE
    obtain ⟨hE1, hF2⟩ := Prod.mk.inj hF1
    obtain ⟨hE2, hF3⟩ := Prod.mk.inj hF2
    obtain ⟨hE3, hF4⟩ := Prod.mk.inj hF3
    obtain ⟨hE4, hF5⟩ := Prod.mk.inj hF4
    obtain ⟨hE5, hE6⟩ := Prod.mk.inj hF5
    clear hE hF1 hF2 hF3 hF4 hF5
    replace hE0 := hE0.symm
    subst hE0
    replace hE1 := hE1.symm
    subst hE1
    replace hE2 := hE2.symm
    subst hE2
    replace hE3 := hE3.symm
    subst hE3
    replace hE4 := hE4.symm
    subst hE4
    replace hE5 := hE5.symm
    subst hE5
    replace hE6 := hE6.symm
    subst hE6
    refine ret_one (Hr := [_]) [1] Tryd.results19 (res_cell 2 rfl rfl tS_29 tA_29 rfl rfl) ⟨j_2_7_f6_p, j_2_7_f6_c, j_2_7_f6_n, rfl, rfl, rfl⟩ (fun _ _ hφ => ask [] rfl hφ) rfl rfl (.inl rfl)
theorem w_ropewalklaw09_put_s : ∀ (N : Nat), ∀ (a0 : Int) (a1 : Int) (a2 : Int) (a3 : ByteArray) (a4 : Int) (a5 : Int) (qp0 : Option Addr) (qc1 : Nat) (l6 : List Api_ExprD) (a7 : Int) (a8 : Int) (a9 : Int) (a10 : ByteArray) (o0 : Int) (o1 : Int) (o2 : Int) (o3 : ByteArray) (o4 : Int) (o5 : Int) (o8 : List Api_ExprD), m_ropewalklaw09_put N a0 a1 a2 a3 a4 a5 l6 a7 a8 a9 a10 = some (o0, o1, o2, o3, o4, o5, o8) → Spec Tryd.prog 19 [.agg #[.int .u8 a0, .int .u8 a1, .int .i64 a2, .string a3, .int .i64 a4, .int .u8 a5, .slice qp0 l6.length qc1], .int .i64 a7, .agg #[.int .u8 a8, .int .i64 a9, .string a10]] [.sli 7 R_Api_ExprD qp0 qc1 l6] [] (fun v Φr Hr => ∃ (o6 : Option Addr) (o7 : Nat) (o9 : Nat), v = .agg #[.int .u8 o0, .int .u8 o1, .int .i64 o2, .string o3, .int .i64 o4, .int .u8 o5, .slice o6 o9 o7] ∧ Φr = [] ∧ Hr = [.own 29 7 R_Api_ExprD (.slice o6 o9 o7) o8]) := by
  intro N
  induction N with
  | zero => intro a0 a1 a2 a3 a4 a5 qp0 qc1 l6 a7 a8 a9 a10 o0 o1 o2 o3 o4 o5 o8 hm; cases hm
  | succ N ih => intro a0 a1 a2 a3 a4 a5 qp0 qc1 l6 a7 a8 a9 a10 o0 o1 o2 o3 o4 o5 o8 hm; exact w_ropewalklaw09_put_s_b N (m_ropewalklaw09_put N) ih a0 a1 a2 a3 a4 a5 qp0 qc1 l6 a7 a8 a9 a10 o0 o1 o2 o3 o4 o5 o8 hm
end Go.Proofs.YtdkmibdiokmfbaaDoor
