/- Walks, printed by a program out of the loaded code. -/
import Derived.Test.YtdnolbmbmncefaaDoorXW1
namespace Go.Proofs.YtdnolbmbmncefaaDoor
open Go.RowKit
set_option maxRecDepth 100000 in
set_option maxHeartbeats 4000000 in
theorem w_memory_Memory_Add_v2_s (N : Nat) (qg0 : Nat) (qp1 : Option Addr) (qn2 : Nat) (qc3 : Nat) (l0 : List FactD) (a1 : Int) (a2 : Int) (qp4 : Option Addr) (qc5 : Nat) (l3 : List V) (o0 : Int) (o1 : Nat) (o4 : List FactD) (o6 : Int) (hm : m_memory_Memory_Add N l0 a1 a2 l3 = some (o0, o1, o4, o6)) : Spec Tryd.prog 15 [.pointer (some ⟨qg0, 0, none⟩), .int .i64 a2, .slice qp4 l3.length qc5] [.sli 3 R_V qp4 qc5 l3] [.blk qg0 [.slice qp1 qn2 qc3, .int .i64 a1] 60, .own 42 3 R_FactD (.slice qp1 qn2 qc3) l0] (fun v Φr Hr => ∃ (o2 : Option Addr) (o3 : Nat) (o5 : Nat), v = .tuple #[.int .i64 o0, .int .i64 ((o1 : Nat) : Int)] ∧ Φr = [] ∧ Hr = [.blk qg0 [.slice o2 o5 o3, .int .i64 o6] 60, .own 42 3 R_FactD (.slice o2 o5 o3) o4]) := by
 unfold m_memory_Memory_Add at hm
 refine spec_of Tryd.func15 rfl Tryd.ntmps15 rfl (S := [_,_,_]) rfl (fun C => ?_)
 refine wc_seq ?_
 refine wc_region ?_
 refine wl_pure rfl rfl rfl (freshS_eq rfl) rfl ?_
 refine wl_pure rfl rfl rfl (freshS_eq rfl) rfl ?_
 refine wl_nil ?_
 refine we_then ?_
 refine wc_keep [0, 1, 2] (S' := [_,_,_]) rfl ?_
 refine wc_seq ?_
 refine wc_block ?_
 refine wc_seq ?_
 refine wc_region ?_
 refine wl_pure rfl rfl rfl (freshS_eq rfl) rfl ?_
 obtain ⟨_, hc11, hm⟩ := bindO_some hm
 try dsimp only at hm
 refine wl_call [0, 1] [] rfl rfl rfl (freshS_eq rfl) rfl rfl fn_26 rfl (w_memory_Memory_known_s N qg0 qp1 qn2 qc3 l0 a1 hc11) (fun _ _ hφ => ask [] rfl hφ) rfl (H' := []) rfl ?_
 rintro _ _ _ ⟨rfl, rfl, rfl⟩
 refine wl_pure rfl rfl rfl (freshS_eq rfl) rfl ?_
 refine wl_pure rfl rfl rfl (freshS_eq rfl) rfl ?_
 refine wl_nil ?_
 refine we_then ?_
 refine wc_keep [9, 0, 1, 2] (S' := [_,_,_,_]) rfl ?_
 refine wc_cond rfl (fun hb9 => ?_) (fun hb9 => ?_)
 ·
  replace hm := iteT hm hb9
  refine wc_keep [] (S' := []) rfl ?_
  refine wc_seq ?_
  refine wc_region ?_
  refine wl_pure rfl rfl rfl (freshS_eq rfl) rfl ?_
  refine wl_pure rfl rfl rfl (freshS_eq rfl) rfl ?_
  refine wl_nil ?_
  refine we_then ?_
  refine wc_ret ?_
  refine we_block_ret ?_
  refine we_then_ret ?_
  have hE := (Option.some.inj hm).symm
  obtain ⟨hE0, hF1⟩ := Prod.mk.inj hE
  obtain ⟨hE1, hF2⟩ := Prod.mk.inj hF1
  obtain ⟨hE2, hE3⟩ := Prod.mk.inj hF2
  clear hE hF1 hF2
  replace hE0 := hE0.symm
  subst hE0
  replace hE1 := hE1.symm
  subst hE1
  replace hE2 := hE2.symm
  subst hE2
  replace hE3 := hE3.symm
  subst hE3
  refine ret_two (Hr := [_, _]) [0, 1] Tryd.results15 (res_tmp rfl) (res_tmp rfl) ⟨qp1, qc3, qn2, rfl, rfl, rfl⟩ (fun _ _ hφ => ask [] rfl hφ) rfl rfl (.inl rfl)
 ·
  replace hm := iteF hm hb9
  refine wc_keep [0, 1, 2] (S' := [_,_,_]) rfl ?_
  refine wc_seq ?_
  refine wc_region ?_
  refine wl_pure rfl rfl rfl (freshS_eq rfl) rfl ?_
  refine wl_pure rfl rfl rfl (freshS_eq rfl) rfl ?_
  obtain ⟨v16, hc16, hm⟩ := bindO_some hm
  refine wl_call [] [0, 1] rfl rfl rfl (freshS_eq rfl) rfl rfl fn_23 rfl (w_memory_may_v2_s N a2 qp4 qc5 l3 _ hc16) (fun _ _ hφ => ask [0] rfl hφ) rfl (H' := [_,_]) rfl ?_
  rintro _ _ _ ⟨rfl, rfl, rfl⟩
  refine wl_pure rfl rfl rfl (freshS_eq rfl) rfl ?_
  refine wl_pure rfl rfl rfl (freshS_eq rfl) rfl ?_
  refine wl_nil ?_
  refine we_then ?_
  refine wc_keep [13, 0, 1, 2] (S' := [_,_,_,_]) rfl ?_
  refine wc_cond rfl (fun hb13 => ?_) (fun hb13 => ?_)
  ·
   replace hm := iteT hm hb13
   refine wc_keep [] (S' := []) rfl ?_
   refine wc_seq ?_
   refine wc_region ?_
   refine wl_pure rfl rfl rfl (freshS_eq rfl) rfl ?_
   refine wl_pure rfl rfl rfl (freshS_eq rfl) rfl ?_
   refine wl_nil ?_
   refine we_then ?_
   refine wc_ret ?_
   refine we_block_ret ?_
   refine we_then_ret ?_
   have hE := (Option.some.inj hm).symm
   obtain ⟨hE0, hF1⟩ := Prod.mk.inj hE
   obtain ⟨hE1, hF2⟩ := Prod.mk.inj hF1
   obtain ⟨hE2, hE3⟩ := Prod.mk.inj hF2
   clear hE hF1 hF2
   replace hE0 := hE0.symm
   subst hE0
   replace hE1 := hE1.symm
   subst hE1
   replace hE2 := hE2.symm
   subst hE2
   replace hE3 := hE3.symm
   subst hE3
   refine ret_two (Hr := [_, _]) [0, 1] Tryd.results15 (res_tmp rfl) (res_tmp rfl) ⟨qp1, qc3, qn2, rfl, rfl, rfl⟩ (fun _ _ hφ => ask [] rfl hφ) rfl rfl (.inl rfl)
  ·
   replace hm := iteF hm hb13
   refine wc_keep [0, 1, 2] (S' := [_,_,_]) rfl ?_
   refine wc_skip ?_
   refine we_block_normal ?_
   refine we_then ?_
   refine wc_seq ?_
   refine wc_seq ?_
   refine wc_region ?_
   refine wl_pure rfl rfl rfl (freshS_eq rfl) rfl ?_
   refine wl_pure rfl rfl rfl (freshS_eq rfl) rfl ?_
   refine wl_fieldAddr rfl rfl rfl (freshS_eq rfl) rfl rfl tF_60_0 ?_
   refine wl_pure rfl rfl rfl (freshS_eq rfl) rfl ?_
   refine wl_pure rfl rfl rfl (freshS_eq rfl) rfl ?_
   obtain ⟨v23, hc23, hm⟩ := bindO_some hm
   refine wl_call [0, 1] [] rfl rfl rfl (freshS_eq rfl) rfl rfl fn_24 rfl (w_memory_row_says_v2_s N qg0 qp1 qn2 qc3 l0 a1 a2 qp4 qc5 l3 _ hc23) (fun _ _ hφ => ask [0] rfl hφ) rfl (H' := []) rfl ?_
   rintro _ _ _ ⟨rfl, rfl, rfl⟩
   refine wl_pure rfl rfl rfl (freshS_eq rfl) rfl ?_
   refine wl_nil ?_
   refine we_then ?_
   refine wc_keep [8, 0, 1, 2] (S' := [_,_,_,_]) rfl ?_
   refine wc_seq ?_
   refine wc_region ?_
   refine wl_pure rfl rfl rfl (freshS_eq rfl) rfl ?_
   refine wl_pure rfl rfl rfl (freshS_eq rfl) rfl ?_
   refine wl_nil ?_
   refine we_then ?_
   refine wc_keep [25, 8, 0, 1, 2] (S' := [_,_,_,_,_]) rfl ?_
   refine wc_cond rfl (fun hb25 => ?_) (fun hb25 => ?_)
   ·
    replace hm := iteT hm hb25
    refine wc_keep [8, 0] (S' := [_,_]) rfl ?_
    refine wc_seq ?_
    refine wc_region ?_
    refine wl_pure rfl rfl rfl (freshS_eq rfl) rfl ?_
    refine wl_pure rfl rfl rfl (freshS_eq rfl) rfl ?_
    refine wl_fieldAddr rfl rfl rfl (freshS_eq rfl) rfl rfl tF_60_0 ?_
    refine wl_fieldAddr rfl rfl rfl (freshS_eq rfl) rfl rfl tF_58_0 ?_
    refine wl_loadH 0 0 rfl rfl rfl (freshS_eq rfl) rfl rfl rfl (cs := [_]) rfl tS_35 tA_35 rfl rfl ?_
    refine wl_pure rfl rfl rfl (freshS_eq rfl) rfl ?_
    obtain ⟨hn32, hm⟩ := gd_some hm
    obtain ⟨x32, hx32, hm⟩ := bindO_some hm
    refine wl_indexH 1 v23.toNat rfl rfl rfl (freshS_eq rfl) rfl rfl rfl rfl (toNat_eq hn32) (get_lt hx32) tE_35 tS_42 (fun g32 eg32 => ?_)
    subst eg32
    refine wl_fieldAddr rfl rfl rfl (freshS_eq rfl) rfl rfl tF_42_0 ?_
    refine wl_loadRow R_FactD_opens 1 v23.toNat 0 rfl rfl rfl (freshS_eq rfl) rfl rfl rfl hx32 tS_3 tA_3 (v := fun r34 => .int .i64 (x32.id)) (fun _ => rfl) (fun _ => rfl) (fun r34 _ => ?_)
    refine wl_pure rfl rfl rfl (freshS_eq rfl) rfl ?_
    refine wl_pure rfl rfl rfl (freshS_eq rfl) rfl ?_
    refine wl_nil ?_
    refine we_then ?_
    refine wc_keep [7, 6] (S' := [_,_]) rfl ?_
    refine wc_ret ?_
    refine we_then_ret ?_
    have hE := (Option.some.inj hm).symm
    obtain ⟨hE0, hF1⟩ := Prod.mk.inj hE
    obtain ⟨hE1, hF2⟩ := Prod.mk.inj hF1
    obtain ⟨hE2, hE3⟩ := Prod.mk.inj hF2
    clear hE hF1 hF2
    replace hE0 := hE0.symm
    subst hE0
    replace hE1 := hE1.symm
    subst hE1
    replace hE2 := hE2.symm
    subst hE2
    replace hE3 := hE3.symm
    subst hE3
    refine ret_two (Hr := [_, _]) [0, 1] Tryd.results15 (res_tmp rfl) (res_tmp rfl) ⟨some ⟨g32, 0, none⟩, qc3, qn2, rfl, rfl, rfl⟩ (fun _ _ hφ => ask [] rfl hφ) rfl rfl (.inl rfl)
   ·
    replace hm := iteF hm hb25
    refine wc_keep [0, 1, 2] (S' := [_,_,_]) rfl ?_
    refine wc_skip ?_
    refine we_then ?_
    refine wc_seq ?_
    refine wc_seq ?_
    obtain ⟨bj_1, hm, hLj_1⟩ := bindO_some hm
    refine wc_cut (σ := Bool) (fun j_1_48 => bj_1 = j_1_48) (fun j_1_48 => [(0, .pointer (some ⟨qg0, 0, none⟩)), (1, .int .i64 a2), (2, .slice qp4 l3.length qc5), (48, .bool j_1_48)]) (fun j_1_48 => [.sli 3 R_V qp4 qc5 l3]) (fun j_1_48 => [.blk qg0 [.slice qp1 qn2 qc3, .int .i64 a1] 60, .own 42 3 R_FactD (.slice qp1 qn2 qc3) l0]) ?_ ?_
    ·
     refine wc_region ?_
     refine wl_pure rfl rfl rfl (freshS_eq rfl) rfl ?_
     refine wl_pure rfl rfl rfl (freshS_eq rfl) rfl ?_
     refine wl_fieldAddr rfl rfl rfl (freshS_eq rfl) rfl rfl tF_60_0 ?_
     refine wl_fieldAddr rfl rfl rfl (freshS_eq rfl) rfl rfl tF_58_0 ?_
     refine wl_loadH 0 0 rfl rfl rfl (freshS_eq rfl) rfl rfl rfl (cs := [_]) rfl tS_35 tA_35 rfl rfl ?_
     refine wl_ownLen 1 rfl (fun hl40 _ => ?_)
     refine wl_len rfl rfl rfl (freshS_eq rfl) rfl rfl tE_35 ?_
     refine wl_as (d := 40) (v' := .int .i64 ((l0.length : Nat) : Int)) (S' := [_,_,_,_,_,_,_,_]) rfl rfl (len_is hl40) ?_
     refine wl_pure rfl rfl rfl (freshS_eq rfl) rfl ?_
     refine wl_as (d := 41) (v' := .bool (decide (256 ≤ l0.length))) (S' := [_,_,_,_,_,_,_,_,_]) rfl rfl (natge (a := l0.length) (b := 256)) ?_
     refine wl_pure rfl rfl rfl (freshS_eq rfl) rfl ?_
     refine wl_split (d := 42) (S' := [_,_,_,_,_,_,_,_,_,_]) rfl rfl (fun hs42 => ?_) (fun hs42 => ?_)
     ·
      replace hm := iteT hm hs42
      refine wl_off rfl rfl rfl (freshS_eq rfl) ?_
      refine wl_off rfl rfl rfl (freshS_eq rfl) ?_
      refine wl_off rfl rfl rfl (freshS_eq rfl) ?_
      refine wl_off rfl rfl rfl (freshS_eq rfl) ?_
      refine wl_off rfl rfl rfl (freshS_eq rfl) ?_
      refine wl_pure rfl rfl rfl (freshS_eq rfl) rfl ?_
      refine wl_nil ?_
      have hE := (Option.some.inj hm).symm
      refine we_join true hE [0, 1, 2, 48] rfl (fun _ _ hφ => ask [0] rfl hφ) rfl
     ·
      replace hm := iteF hm hs42
      refine wl_pure rfl rfl rfl (freshS_eq rfl) rfl ?_
      refine wl_pure rfl rfl rfl (freshS_eq rfl) rfl ?_
      refine wl_fieldAddr rfl rfl rfl (freshS_eq rfl) rfl rfl tF_60_1 ?_
      refine wl_loadH 0 1 rfl rfl rfl (freshS_eq rfl) rfl rfl rfl (cs := [_]) rfl tS_3 tA_3 rfl rfl ?_
      refine wl_pure rfl rfl rfl (freshS_eq rfl) rfl ?_
      refine wl_pure rfl rfl rfl (freshS_eq rfl) rfl ?_
      refine wl_nil ?_
      have hE := (Option.some.inj hm).symm
      refine we_join (decide (a1 > 1099511627776)) hE [0, 1, 2, 48] rfl (fun _ _ hφ => ask [0] rfl hφ) rfl
    ·
     rintro j_1_48 hE
     try dsimp only
     have hm := hLj_1
     rw [hE] at hm
     refine wc_cond rfl (fun hb48 => ?_) (fun hb48 => ?_)
     ·
      replace hm := iteT hm hb48
      refine wc_keep [] (S' := []) rfl ?_
      refine wc_seq ?_
      refine wc_region ?_
      refine wl_pure rfl rfl rfl (freshS_eq rfl) rfl ?_
      refine wl_pure rfl rfl rfl (freshS_eq rfl) rfl ?_
      refine wl_nil ?_
      refine we_then ?_
      refine wc_ret ?_
      refine we_then_ret ?_
      have hE := (Option.some.inj hm).symm
      obtain ⟨hE0, hF1⟩ := Prod.mk.inj hE
      obtain ⟨hE1, hF2⟩ := Prod.mk.inj hF1
      obtain ⟨hE2, hE3⟩ := Prod.mk.inj hF2
      clear hE hF1 hF2
      replace hE0 := hE0.symm
      subst hE0
      replace hE1 := hE1.symm
      subst hE1
      replace hE2 := hE2.symm
      subst hE2
      replace hE3 := hE3.symm
      subst hE3
      refine ret_two (Hr := [_, _]) [0, 1] Tryd.results15 (res_tmp rfl) (res_tmp rfl) ⟨qp1, qc3, qn2, rfl, rfl, rfl⟩ (fun _ _ hφ => ask [] rfl hφ) rfl rfl (.inl rfl)
     ·
      replace hm := iteF hm hb48
      refine wc_keep [0, 1, 2] (S' := [_,_,_]) rfl ?_
      refine wc_skip ?_
      refine we_then ?_
      refine wc_seq ?_
      obtain ⟨_, hc62, hm⟩ := bindO_some hm
      try dsimp only at hm
      obtain ⟨hg64, hm⟩ := gd_some hm
      refine wc_draw [0, 1, 2, 3, 4, 5, 6, 7, 8, 9, 10, 11, 12, 16, 17, 18] rfl rfl (fun hok => ?_)
      refine wx_pure hok 0 rfl rfl rfl (freshS_eq rfl) rfl rfl ?_
      refine wx_pure hok 1 rfl rfl rfl (freshS_eq rfl) rfl rfl ?_
      refine wx_pure hok 2 rfl rfl rfl (freshS_eq rfl) rfl rfl ?_
      refine wx_fieldAddr hok 3 rfl rfl rfl (freshS_eq rfl) rfl rfl rfl tF_60_0 ?_
      refine wx_fieldAddr hok 4 rfl rfl rfl (freshS_eq rfl) rfl rfl rfl tF_58_0 ?_
      refine wx_loadH hok 5 0 0 rfl rfl rfl (freshS_eq rfl) rfl rfl rfl rfl (cs := [_]) rfl tS_35 tA_35 rfl rfl ?_
      refine wx_pure hok 6 rfl rfl rfl (freshS_eq rfl) rfl rfl ?_
      refine wx_pure hok 7 rfl rfl rfl (freshS_eq rfl) rfl rfl ?_
      refine wx_fieldAddr hok 8 rfl rfl rfl (freshS_eq rfl) rfl rfl rfl tF_60_1 ?_
      refine wx_loadH hok 9 0 1 rfl rfl rfl (freshS_eq rfl) rfl rfl rfl rfl (cs := [_]) rfl tS_3 tA_3 rfl rfl ?_
      refine wx_pure hok 10 rfl rfl rfl (freshS_eq rfl) rfl rfl ?_
      refine wx_pure hok 11 rfl rfl rfl (freshS_eq rfl) rfl rfl ?_
      refine wx_build hok 12 rfl rfl rfl (freshS_eq rfl) rfl rfl tZ_42 tP_42 rfl (out := [_,_,_]) rfl ?_
      refine wx_step1 hok 13 rfl rfl rfl rfl ?_
      refine wl_call [] [0, 1] rfl rfl rfl (freshS_eq rfl) rfl rfl fn_25 rfl (w_memory_own_v2_s N a1 a2 qp4 qc5 l3 hc62) (fun _ _ hφ => ask [0] rfl hφ) rfl (H' := [_,_]) rfl ?_
      rintro _ _ _ ⟨p62_0, c62_1, rfl, rfl, rfl⟩
      refine wl_nil ?_
      refine we_x [0] [1, 1] rfl rfl ?_
      refine wx_step1 hok 14 rfl rfl rfl rfl ?_
      refine wl_buildSlice rfl rfl rfl (freshS_eq rfl) rfl tE_35 tS_42 tZ_42 rfl (zs := [.int .i64 0, .int .i64 0, .slice none 0 0]) (by kernel_rfl) rfl (out := [_,_,_]) rfl (fun g63 => ?_)
      refine wl_nil ?_
      refine we_x [0] [2, 2] rfl rfl ?_
      refine wx_step1 hok 15 rfl rfl rfl rfl ?_
      refine wl_freeze 1 rfl (H' := [_,_,_]) rfl ?_
      refine wl_fact (.sli 3 R_V p62_0 c62_1 l3) (fun F w hφ => own_sli (hφ _ (mem_at (k := 0) rfl))) ?_
      refine wl_appendH ([(⟨a1, a2, l3⟩ : FactD)]) 2 0 rfl rfl rfl (freshS_eq rfl) rfl rfl rfl rfl rfl (fun F w hφ => ⟨[.int .i64 a1, .int .i64 a2, .slice p62_0 l3.length c62_1], [], rfl, rfl, ⟨(p62_0, c62_1), rfl, (ask_cons (hφ _ (mem_at (k := 0) rfl)) ask_nil)⟩, rfl⟩) tE_35 tR_42 rfl rfl (Nat.le_trans hg64 (by decide)) (Nat.le_trans (Nat.mul_le_mul_right _ hg64) (by decide)) (H2 := fun p64 c64 => [.blk g63 [.int .i64 a1, .int .i64 a2, .slice p62_0 l3.length c62_1] 42, .blk qg0 [.slice qp1 qn2 qc3, .int .i64 a1] 60, .own 42 3 R_FactD (.slice p64 ((l0 ++ ([(⟨a1, a2, l3⟩ : FactD)])).length) c64) (l0 ++ ([(⟨a1, a2, l3⟩ : FactD)]))]) (fun _ _ => rfl) (fun p64 c64 => ?_)
      refine wl_drop 0 rfl (H' := [_,_]) rfl ?_
      refine wl_nil ?_
      refine we_x [2] [0] rfl rfl ?_
      refine wx_pure hok 16 rfl rfl rfl (freshS_eq rfl) rfl rfl ?_
      refine wx_fieldAddr hok 17 rfl rfl rfl (freshS_eq rfl) rfl rfl rfl tF_60_0 ?_
      refine wx_fieldAddr hok 18 rfl rfl rfl (freshS_eq rfl) rfl rfl rfl tF_58_0 ?_
      refine wx_step1 hok 19 rfl rfl rfl rfl ?_
      refine wl_store 0 0 rfl rfl rfl rfl rfl rfl rfl tS_35 rfl rfl rfl (all' := [_,_]) rfl (H' := [_,_]) rfl ?_
      refine wl_nil ?_
      refine we_x [0, 1, 2] [] rfl rfl ?_
      refine wx_done hok rfl ?_
      refine we_then ?_
      refine wc_keep [0] (S' := [_]) rfl ?_
      refine wc_seq ?_
      refine wc_region ?_
      refine wl_pure rfl rfl rfl (freshS_eq rfl) rfl ?_
      refine wl_pure rfl rfl rfl (freshS_eq rfl) rfl ?_
      refine wl_fieldAddr rfl rfl rfl (freshS_eq rfl) rfl rfl tF_60_1 ?_
      refine wl_loadH 0 1 rfl rfl rfl (freshS_eq rfl) rfl rfl rfl (cs := [_]) rfl tS_3 tA_3 rfl rfl ?_
      refine wl_pure rfl rfl rfl (freshS_eq rfl) rfl ?_
      obtain ⟨hg72, hm⟩ := gd_some hm
      refine wl_as (d := 72) (v' := .int .i64 (a1 + 1)) (S' := [_,_,_,_,_]) rfl rfl (i64_in hg72) ?_
      refine wl_pure rfl rfl rfl (freshS_eq rfl) rfl ?_
      refine wl_fieldAddr rfl rfl rfl (freshS_eq rfl) rfl rfl tF_60_1 ?_
      refine wl_store 0 1 rfl rfl rfl rfl rfl rfl rfl tS_3 rfl rfl rfl (all' := [_,_]) rfl (H' := [_,_]) rfl ?_
      refine wl_nil ?_
      refine we_then ?_
      refine wc_keep [0] (S' := [_]) rfl ?_
      refine wc_seq ?_
      refine wc_region ?_
      refine wl_pure rfl rfl rfl (freshS_eq rfl) rfl ?_
      refine wl_pure rfl rfl rfl (freshS_eq rfl) rfl ?_
      refine wl_fieldAddr rfl rfl rfl (freshS_eq rfl) rfl rfl tF_60_1 ?_
      refine wl_loadH 0 1 rfl rfl rfl (freshS_eq rfl) rfl rfl rfl (cs := [_]) rfl tS_3 tA_3 rfl rfl ?_
      refine wl_pure rfl rfl rfl (freshS_eq rfl) rfl ?_
      obtain ⟨hg79, hm⟩ := gd_some hm
      refine wl_as (d := 79) (v' := .int .i64 ((a1 + 1) - 1)) (S' := [_,_,_,_,_]) rfl rfl (i64_in hg79) ?_
      refine wl_pure rfl rfl rfl (freshS_eq rfl) rfl ?_
      refine wl_pure rfl rfl rfl (freshS_eq rfl) rfl ?_
      refine wl_nil ?_
      refine we_then ?_
      refine wc_keep [7, 6] (S' := [_,_]) rfl ?_
      refine wc_ret ?_
      have hE := (Option.some.inj hm).symm
      obtain ⟨hE0, hF1⟩ := Prod.mk.inj hE
      obtain ⟨hE1, hF2⟩ := Prod.mk.inj hF1
      obtain ⟨hE2, hE3⟩ := Prod.mk.inj hF2
      clear hE hF1 hF2
      replace hE0 := hE0.symm
      subst hE0
      replace hE1 := hE1.symm
      subst hE1
      replace hE2 := hE2.symm
      subst hE2
      replace hE3 := hE3.symm
      subst hE3
      refine ret_two (Hr := [_, _]) [0, 1] Tryd.results15 (res_tmp rfl) (res_tmp rfl) ⟨p64, c64, (l0 ++ ([(⟨a1, a2, l3⟩ : FactD)])).length, rfl, rfl, rfl⟩ (fun _ _ hφ => ask [] rfl hφ) rfl rfl (.inl rfl)
set_option maxRecDepth 100000 in
set_option maxHeartbeats 4000000 in
theorem w_memory_row_all_s (N : Nat) (qg0 : Nat) (qp1 : Option Addr) (qn2 : Nat) (qc3 : Nat) (l0 : List FactD) (a1 : Int) (o2 : List FactD) (hm : m_memory_row_all N l0 a1 = some o2) : Spec Tryd.prog 27 [.pointer (some ⟨qg0, 0, none⟩)] [] [.blk qg0 [.slice qp1 qn2 qc3, .int .i64 a1] 60, .own 42 3 R_FactD (.slice qp1 qn2 qc3) l0] (fun v Φr Hr => ∃ (o0 : Option Addr) (o1 : Nat) (o3 : Nat), v = .slice o0 o3 o1 ∧ Φr = [] ∧ Hr = [.own 42 3 R_FactD (.slice o0 o3 o1) o2, .blk qg0 [.slice qp1 qn2 qc3, .int .i64 a1] 60, .own 42 3 R_FactD (.slice qp1 qn2 qc3) l0]) := by
 unfold m_memory_row_all at hm
 refine spec_of Tryd.func27 rfl Tryd.ntmps27 rfl (S := [_]) rfl (fun C => ?_)
 refine wc_seq ?_
 refine wc_region ?_
 refine wl_pure rfl rfl rfl (freshS_eq rfl) rfl ?_
 refine wl_nil ?_
 refine we_then ?_
 refine wc_keep [0] (S' := [_]) rfl ?_
 refine wc_seq ?_
 refine wc_region ?_
 refine wl_pure rfl rfl rfl (freshS_eq rfl) rfl ?_
 refine wl_nil ?_
 refine we_then ?_
 refine wc_seq ?_
 obtain ⟨bj_1, hm, hLj_1⟩ := bindO_some hm
 refine wc_cut (σ := (List FactD) × (Option Addr) × Nat × Nat) (fun (j_1_3_l, j_1_3_p, j_1_3_c, j_1_3_n) => bj_1 = j_1_3_l) (fun (j_1_3_l, j_1_3_p, j_1_3_c, j_1_3_n) => [(3, .slice j_1_3_p j_1_3_n j_1_3_c)]) (fun (j_1_3_l, j_1_3_p, j_1_3_c, j_1_3_n) => []) (fun (j_1_3_l, j_1_3_p, j_1_3_c, j_1_3_n) => [.own 42 3 R_FactD (.slice j_1_3_p j_1_3_n j_1_3_c) j_1_3_l, .blk qg0 [.slice qp1 qn2 qc3, .int .i64 a1] 60, .own 42 3 R_FactD (.slice qp1 qn2 qc3) l0]) ?_ ?_
 ·
  refine wc_seq ?_
  refine wc_region ?_
  refine wl_pure rfl rfl rfl (freshS_eq rfl) rfl ?_
  refine wl_pure rfl rfl rfl (freshS_eq rfl) rfl ?_
  refine wl_fieldAddr rfl rfl rfl (freshS_eq rfl) rfl rfl tF_58_0 ?_
  refine wl_loadH 0 0 rfl rfl rfl (freshS_eq rfl) rfl rfl rfl (cs := [_]) rfl tS_35 tA_35 rfl rfl ?_
  refine wl_ownLen 1 rfl (fun hl10 _ => ?_)
  refine wl_len rfl rfl rfl (freshS_eq rfl) rfl rfl tE_35 ?_
  refine wl_as (d := 10) (v' := .int .i64 ((l0.length : Nat) : Int)) (S' := [_,_,_,_,_,_]) rfl rfl (len_is hl10) ?_
  refine wl_pure rfl rfl rfl (freshS_eq rfl) rfl ?_
  refine wl_nil ?_
  refine we_then ?_
  refine wc_keep [11, 10, 9, 3] (S' := [_,_,_,_]) rfl ?_
  refine wc_block ?_
  refine wc_rowNil 42 3 R_FactD ?_
  refine wc_pick [2, 0, 1] rfl (H' := [_,_,_]) rfl ?_
  refine wc_loop (σ := Nat × Nat × (List FactD) × (Option Addr) × Nat × Nat) (fun (nu1, u1_11, u1_3_l, u1_3_p, u1_3_c, u1_3_n) => iter (m_memory_row_all_L1 N l0) nu1 (u1_11, u1_3_l) = some bj_1) (fun (nu1, u1_11, u1_3_l, u1_3_p, u1_3_c, u1_3_n) => nu1) (fun (nu1, u1_11, u1_3_l, u1_3_p, u1_3_c, u1_3_n) => [(11, .int .i64 ((u1_11 : Nat) : Int)), (10, .int .i64 ((l0.length : Nat) : Int)), (9, .slice qp1 qn2 qc3), (3, .slice u1_3_p u1_3_n u1_3_c)]) (fun (nu1, u1_11, u1_3_l, u1_3_p, u1_3_c, u1_3_n) => []) (fun (nu1, u1_11, u1_3_l, u1_3_p, u1_3_c, u1_3_n) => [.own 42 3 R_FactD (.slice qp1 qn2 qc3) l0, .own 42 3 R_FactD (.slice u1_3_p u1_3_n u1_3_c) u1_3_l, .blk qg0 [.slice qp1 qn2 qc3, .int .i64 a1] 60]) (N, 0, [], none, 0, 0) hm [11, 10, 9, 3] rfl (fun _ _ hφ => ask [] rfl hφ) rfl (fun s_ hm => ?_)
  obtain ⟨nu1, u1_11, u1_3_l, u1_3_p, u1_3_c, u1_3_n⟩ := s_
  try dsimp only at hm ⊢
  obtain ⟨mu1, bu1, hnu1, hq, hLu1⟩ := iter_some hm
  clear hm
  subst hnu1
  replace hm := hq
  clear hq
  unfold m_memory_row_all_L1 at hm
  try dsimp only at hm
  refine wc_seq ?_
  refine wc_region ?_
  refine wl_pure rfl rfl rfl (freshS_eq rfl) rfl ?_
  refine wl_as (d := 12) (v' := .bool (decide (u1_11 < l0.length))) (S' := [_,_,_,_]) rfl rfl (natlt (a := u1_11) (b := l0.length)) ?_
  refine wl_nil ?_
  refine we_then ?_
  refine wc_seq ?_
  refine wc_cond rfl (fun hb12 => ?_) (fun hb12 => ?_)
  ·
   replace hm := iteT hm hb12
   refine wc_keep [11, 10, 9, 3] (S' := [_,_,_,_]) rfl ?_
   refine wc_skip ?_
   refine we_then ?_
   refine wc_seq ?_
   refine wc_block ?_
   refine wc_seq ?_
   refine wc_region ?_
   obtain ⟨x13, hx13, hm⟩ := bindO_some hm
   refine wl_indexH 0 u1_11 rfl rfl rfl (freshS_eq rfl) rfl rfl rfl rfl rfl (get_lt hx13) tE_35 tS_42 (fun g13 eg13 => ?_)
   subst eg13
   refine wl_loadRow R_FactD_opens 0 u1_11 0 rfl rfl rfl (freshS_eq rfl) rfl rfl rfl hx13 tS_42 tA_42 (v := fun r14 => .agg #[.int .i64 (x13.id), .int .i64 (x13.ty), .slice r14.1 x13.args.length r14.2]) (fun _ => rfl) (fun _ => rfl) (fun r14 _ => ?_)
   refine wl_alloc rfl rfl rfl (freshS_eq rfl) rfl tZ_42 rfl (fun g5 => ?_)
   refine wl_store 0 0 rfl rfl rfl rfl rfl rfl rfl tS_42 rfl rfl rfl (all' := [_,_,_]) rfl (H' := [_,_,_,_]) rfl ?_
   refine wl_nil ?_
   refine we_then ?_
   refine wc_keep [5, 11, 10, 9, 3] (S' := [_,_,_,_,_]) rfl ?_
   refine wc_region ?_
   refine wl_pure rfl rfl rfl (freshS_eq rfl) rfl ?_
   refine wl_loadH 0 0 rfl rfl rfl (freshS_eq rfl) rfl rfl rfl (cs := [_,_,_]) rfl tS_42 tA_42 rfl rfl ?_
   obtain ⟨_, hc17, hm⟩ := bindO_some hm
   try dsimp only at hm
   refine wl_call [] [0, 1, 2, 3] rfl rfl rfl (freshS_eq rfl) rfl rfl fn_25 rfl (w_memory_own_v2_s N x13.id x13.ty r14.1 r14.2 x13.args hc17) (fun _ _ hφ => ask [0] rfl hφ) rfl (H' := [_,_,_,_]) rfl ?_
   rintro _ _ _ ⟨p17_0, c17_1, rfl, rfl, rfl⟩
   refine wl_buildSlice rfl rfl rfl (freshS_eq rfl) rfl tE_35 tS_42 tZ_42 rfl (zs := [.int .i64 0, .int .i64 0, .slice none 0 0]) (by kernel_rfl) rfl (out := [_,_,_]) rfl (fun g18 => ?_)
   refine wl_freeze 1 rfl (H' := [_,_,_,_,_]) rfl ?_
   refine wl_fact (.sli 3 R_V p17_0 c17_1 x13.args) (fun F w hφ => own_sli (hφ _ (mem_at (k := 0) rfl))) ?_
   obtain ⟨hg19, hm⟩ := gd_some hm
   refine wl_appendH [x13] 3 0 rfl rfl rfl (freshS_eq rfl) rfl rfl rfl rfl rfl (fun F w hφ => ⟨[.int .i64 (x13.id), .int .i64 (x13.ty), .slice p17_0 x13.args.length c17_1], [], rfl, rfl, ⟨(p17_0, c17_1), rfl, (ask_cons (hφ _ (mem_at (k := 0) rfl)) ask_nil)⟩, rfl⟩) tE_35 tR_42 rfl rfl (Nat.le_trans hg19 (by decide)) (Nat.le_trans (Nat.mul_le_mul_right _ hg19) (by decide)) (H2 := fun p19 c19 => [.blk g18 [.int .i64 (x13.id), .int .i64 (x13.ty), .slice p17_0 x13.args.length c17_1] 42, .blk g5 [.int .i64 (x13.id), .int .i64 (x13.ty), .slice r14.1 x13.args.length r14.2] 42, .own 42 3 R_FactD (.slice (some ⟨g13, 0, none⟩) qn2 qc3) l0, .own 42 3 R_FactD (.slice p19 ((u1_3_l ++ [x13]).length) c19) (u1_3_l ++ [x13]), .blk qg0 [.slice (some ⟨g13, 0, none⟩) qn2 qc3, .int .i64 a1] 60]) (fun _ _ => rfl) (fun p19 c19 => ?_)
   refine wl_drop 0 rfl (H' := [_,_,_,_]) rfl ?_
   refine wl_pure (S' := [_,_,_,_,_,_,_,_,_]) rfl rfl rfl rfl rfl ?_
   refine wl_nil ?_
   refine we_block_normal ?_
   refine we_then ?_
   refine wc_keep [3, 11, 10, 9] (S' := [_,_,_,_]) rfl ?_
   refine wc_region ?_
   refine wl_pure rfl rfl rfl (freshS_eq rfl) rfl ?_
   obtain ⟨hg20, hm⟩ := gd_some hm
   refine wl_as (d := 20) (v' := .int .i64 ((u1_11 + 1 : Nat) : Int)) (S' := [_,_,_,_]) rfl rfl (nat_add (a := u1_11) (b := 1) hg20) ?_
   refine wl_pure (S' := [_,_,_,_]) rfl rfl rfl rfl rfl ?_
   refine wl_nil ?_
   have hE := (Option.some.inj hm).symm
   replace hE := link_inl hLu1 hE
   refine we_pick [1, 2, 3] rfl (H' := [_,_,_]) rfl ?_
   refine we_roundK (_, u1_11 + 1, u1_3_l ++ [x13], p19, c19, (u1_3_l ++ [x13]).length) (Nat.lt_succ_self _) hE [11, 10, 9, 3] rfl (fun _ _ hφ => ask [] rfl hφ) rfl
  ·
   replace hm := iteF hm hb12
   refine wc_keep [3] (S' := [_]) rfl ?_
   refine wc_exit ?_
   refine we_then_exit ?_
   refine we_then_exit ?_
   refine we_block_hit ?_
   have hE := (Option.some.inj hm).symm
   replace hE := link_inr hLu1 hE
   refine we_pick [1, 2, 0] rfl (H' := [_,_,_]) rfl ?_
   refine we_join (u1_3_l, u1_3_p, u1_3_c, u1_3_n) hE [3] rfl (fun _ _ hφ => ask [] rfl hφ) rfl
 ·
  rintro ⟨j_1_3_l, j_1_3_p, j_1_3_c, j_1_3_n⟩ hE
  try dsimp only
  have hm := hLj_1
  rw [hE] at hm
  refine wc_seq ?_
  refine wc_region ?_
  refine wl_pure rfl rfl rfl (freshS_eq rfl) rfl ?_
  refine wl_pure rfl rfl rfl (freshS_eq rfl) rfl ?_
  refine wl_nil ?_
  refine we_then ?_
  refine wc_keep [2] (S' := [_]) rfl ?_
  refine wc_ret ?_
  have hE := (Option.some.inj hm).symm
  replace hE := hE.symm
  subst hE
  refine ret_one (Hr := [_, _, _]) [0, 1, 2] Tryd.results27 (res_tmp rfl) ⟨j_1_3_p, j_1_3_c, j_1_3_n, rfl, rfl, rfl⟩ (fun _ _ hφ => ask [] rfl hφ) rfl rfl (.inl rfl)
set_option maxRecDepth 100000 in
set_option maxHeartbeats 4000000 in
theorem w_memory_Memory_All_s (N : Nat) (qg0 : Nat) (qp1 : Option Addr) (qn2 : Nat) (qc3 : Nat) (l0 : List FactD) (a1 : Int) (o2 : List FactD) (hm : m_memory_Memory_All N l0 a1 = some o2) : Spec Tryd.prog 10 [.pointer (some ⟨qg0, 0, none⟩)] [] [.blk qg0 [.slice qp1 qn2 qc3, .int .i64 a1] 60, .own 42 3 R_FactD (.slice qp1 qn2 qc3) l0] (fun v Φr Hr => ∃ (o0 : Option Addr) (o1 : Nat) (o3 : Nat), v = .slice o0 o3 o1 ∧ Φr = [] ∧ Hr = [.own 42 3 R_FactD (.slice o0 o3 o1) o2, .blk qg0 [.slice qp1 qn2 qc3, .int .i64 a1] 60, .own 42 3 R_FactD (.slice qp1 qn2 qc3) l0]) := by
 unfold m_memory_Memory_All at hm
 refine spec_of Tryd.func10 rfl Tryd.ntmps10 rfl (S := [_]) rfl (fun C => ?_)
 refine wc_seq ?_
 refine wc_region ?_
 refine wl_pure rfl rfl rfl (freshS_eq rfl) rfl ?_
 refine wl_nil ?_
 refine we_then ?_
 refine wc_keep [0] (S' := [_]) rfl ?_
 refine wc_seq ?_
 refine wc_seq ?_
 refine wc_region ?_
 refine wl_pure rfl rfl rfl (freshS_eq rfl) rfl ?_
 obtain ⟨_, hc4, hm⟩ := bindO_some hm
 try dsimp only at hm
 refine wl_call [0, 1] [] rfl rfl rfl (freshS_eq rfl) rfl rfl fn_26 rfl (w_memory_Memory_known_s N qg0 qp1 qn2 qc3 l0 a1 hc4) (fun _ _ hφ => ask [] rfl hφ) rfl (H' := []) rfl ?_
 rintro _ _ _ ⟨rfl, rfl, rfl⟩
 refine wl_pure rfl rfl rfl (freshS_eq rfl) rfl ?_
 refine wl_nil ?_
 refine we_then ?_
 refine wc_keep [5, 0] (S' := [_,_]) rfl ?_
 refine wc_cond rfl (fun hb5 => ?_) (fun hb5 => ?_)
 ·
  replace hm := iteT hm hb5
  refine wc_keep [] (S' := []) rfl ?_
  refine wc_seq ?_
  refine wc_region ?_
  refine wl_pure rfl rfl rfl (freshS_eq rfl) rfl ?_
  refine wl_nil ?_
  refine we_then ?_
  refine wc_ret ?_
  refine we_then_ret ?_
  have hE := (Option.some.inj hm).symm
  replace hE := hE.symm
  subst hE
  refine we_rowNil 42 3 R_FactD ?_
  refine ret_one (Hr := [_, _, _]) [0, 1, 2] Tryd.results10 (res_tmp rfl) ⟨none, 0, 0, rfl, rfl, rfl⟩ (fun _ _ hφ => ask [] rfl hφ) rfl rfl (.inl rfl)
 ·
  replace hm := iteF hm hb5
  refine wc_keep [0] (S' := [_]) rfl ?_
  refine wc_skip ?_
  refine we_then ?_
  refine wc_seq ?_
  refine wc_region ?_
  refine wl_pure rfl rfl rfl (freshS_eq rfl) rfl ?_
  refine wl_pure rfl rfl rfl (freshS_eq rfl) rfl ?_
  refine wl_fieldAddr rfl rfl rfl (freshS_eq rfl) rfl rfl tF_60_0 ?_
  obtain ⟨v9, hc9, hm⟩ := bindO_some hm
  refine wl_call [0, 1] [] rfl rfl rfl (freshS_eq rfl) rfl rfl fn_27 rfl (w_memory_row_all_s N qg0 qp1 qn2 qc3 l0 a1 _ hc9) (fun _ _ hφ => ask [] rfl hφ) rfl (H' := []) rfl ?_
  rintro _ _ _ ⟨p9_0, c9_1, c9_2, rfl, rfl, rfl⟩
  refine wl_pure rfl rfl rfl (freshS_eq rfl) rfl ?_
  refine wl_nil ?_
  refine we_then ?_
  refine wc_keep [2] (S' := [_]) rfl ?_
  refine wc_ret ?_
  have hE := (Option.some.inj hm).symm
  replace hE := hE.symm
  subst hE
  refine ret_one (Hr := [_, _, _]) [0, 1, 2] Tryd.results10 (res_tmp rfl) ⟨p9_0, c9_1, c9_2, rfl, rfl, rfl⟩ (fun _ _ hφ => ask [] rfl hφ) rfl rfl (.inl rfl)
set_option maxRecDepth 100000 in
set_option maxHeartbeats 4000000 in
theorem w_memory_Memory_Len_s (N : Nat) (qg0 : Nat) (qp1 : Option Addr) (qn2 : Nat) (qc3 : Nat) (l0 : List FactD) (a1 : Int) (o0 : Nat) (hm : m_memory_Memory_Len N l0 a1 = some o0) : Spec Tryd.prog 21 [.pointer (some ⟨qg0, 0, none⟩)] [] [.blk qg0 [.slice qp1 qn2 qc3, .int .i64 a1] 60, .own 42 3 R_FactD (.slice qp1 qn2 qc3) l0] (fun v Φr Hr => v = .int .i64 ((o0 : Nat) : Int) ∧ Φr = [] ∧ Hr = [.blk qg0 [.slice qp1 qn2 qc3, .int .i64 a1] 60, .own 42 3 R_FactD (.slice qp1 qn2 qc3) l0]) := by
 unfold m_memory_Memory_Len at hm
 refine spec_of Tryd.func21 rfl Tryd.ntmps21 rfl (S := [_]) rfl (fun C => ?_)
 refine wc_seq ?_
 refine wc_region ?_
 refine wl_pure rfl rfl rfl (freshS_eq rfl) rfl ?_
 refine wl_nil ?_
 refine we_then ?_
 refine wc_keep [0] (S' := [_]) rfl ?_
 refine wc_seq ?_
 refine wc_seq ?_
 refine wc_region ?_
 refine wl_pure rfl rfl rfl (freshS_eq rfl) rfl ?_
 obtain ⟨_, hc4, hm⟩ := bindO_some hm
 try dsimp only at hm
 refine wl_call [0, 1] [] rfl rfl rfl (freshS_eq rfl) rfl rfl fn_26 rfl (w_memory_Memory_known_s N qg0 qp1 qn2 qc3 l0 a1 hc4) (fun _ _ hφ => ask [] rfl hφ) rfl (H' := []) rfl ?_
 rintro _ _ _ ⟨rfl, rfl, rfl⟩
 refine wl_pure rfl rfl rfl (freshS_eq rfl) rfl ?_
 refine wl_nil ?_
 refine we_then ?_
 refine wc_keep [5, 0] (S' := [_,_]) rfl ?_
 refine wc_cond rfl (fun hb5 => ?_) (fun hb5 => ?_)
 ·
  replace hm := iteT hm hb5
  refine wc_keep [] (S' := []) rfl ?_
  refine wc_seq ?_
  refine wc_region ?_
  refine wl_pure rfl rfl rfl (freshS_eq rfl) rfl ?_
  refine wl_nil ?_
  refine we_then ?_
  refine wc_ret ?_
  refine we_then_ret ?_
  have hE := (Option.some.inj hm).symm
  replace hE := hE.symm
  subst hE
  refine ret_one (Hr := [_, _]) [0, 1] Tryd.results21 (res_tmp rfl) ⟨rfl, rfl, rfl⟩ (fun _ _ hφ => ask [] rfl hφ) rfl rfl (.inl rfl)
 ·
  replace hm := iteF hm hb5
  refine wc_keep [0] (S' := [_]) rfl ?_
  refine wc_skip ?_
  refine we_then ?_
  refine wc_seq ?_
  refine wc_region ?_
  refine wl_pure rfl rfl rfl (freshS_eq rfl) rfl ?_
  refine wl_pure rfl rfl rfl (freshS_eq rfl) rfl ?_
  refine wl_fieldAddr rfl rfl rfl (freshS_eq rfl) rfl rfl tF_60_0 ?_
  refine wl_fieldAddr rfl rfl rfl (freshS_eq rfl) rfl rfl tF_58_0 ?_
  refine wl_loadH 0 0 rfl rfl rfl (freshS_eq rfl) rfl rfl rfl (cs := [_]) rfl tS_35 tA_35 rfl rfl ?_
  refine wl_ownLen 1 rfl (fun hl11 _ => ?_)
  refine wl_len rfl rfl rfl (freshS_eq rfl) rfl rfl tE_35 ?_
  refine wl_as (d := 11) (v' := .int .i64 ((l0.length : Nat) : Int)) (S' := [_,_,_,_,_,_]) rfl rfl (len_is hl11) ?_
  refine wl_pure rfl rfl rfl (freshS_eq rfl) rfl ?_
  refine wl_nil ?_
  refine we_then ?_
  refine wc_keep [2] (S' := [_]) rfl ?_
  refine wc_ret ?_
  have hE := (Option.some.inj hm).symm
  replace hE := hE.symm
  subst hE
  refine ret_one (Hr := [_, _]) [0, 1] Tryd.results21 (res_tmp rfl) ⟨rfl, rfl, rfl⟩ (fun _ _ hφ => ask [] rfl hφ) rfl rfl (.inl rfl)
set_option maxRecDepth 100000 in
set_option maxHeartbeats 4000000 in
theorem w_memory_Memory_Next_s (N : Nat) (qg0 : Nat) (qp1 : Option Addr) (qn2 : Nat) (qc3 : Nat) (l0 : List FactD) (a1 : Int) (o0 : Int) (hm : m_memory_Memory_Next N l0 a1 = some o0) : Spec Tryd.prog 9 [.pointer (some ⟨qg0, 0, none⟩)] [] [.blk qg0 [.slice qp1 qn2 qc3, .int .i64 a1] 60, .own 42 3 R_FactD (.slice qp1 qn2 qc3) l0] (fun v Φr Hr => v = .int .i64 o0 ∧ Φr = [] ∧ Hr = [.blk qg0 [.slice qp1 qn2 qc3, .int .i64 a1] 60, .own 42 3 R_FactD (.slice qp1 qn2 qc3) l0]) := by
 unfold m_memory_Memory_Next at hm
 refine spec_of Tryd.func9 rfl Tryd.ntmps9 rfl (S := [_]) rfl (fun C => ?_)
 refine wc_seq ?_
 refine wc_region ?_
 refine wl_pure rfl rfl rfl (freshS_eq rfl) rfl ?_
 refine wl_nil ?_
 refine we_then ?_
 refine wc_keep [0] (S' := [_]) rfl ?_
 refine wc_seq ?_
 refine wc_seq ?_
 refine wc_region ?_
 refine wl_pure rfl rfl rfl (freshS_eq rfl) rfl ?_
 obtain ⟨_, hc4, hm⟩ := bindO_some hm
 try dsimp only at hm
 refine wl_call [0, 1] [] rfl rfl rfl (freshS_eq rfl) rfl rfl fn_26 rfl (w_memory_Memory_known_s N qg0 qp1 qn2 qc3 l0 a1 hc4) (fun _ _ hφ => ask [] rfl hφ) rfl (H' := []) rfl ?_
 rintro _ _ _ ⟨rfl, rfl, rfl⟩
 refine wl_pure rfl rfl rfl (freshS_eq rfl) rfl ?_
 refine wl_nil ?_
 refine we_then ?_
 refine wc_keep [5, 0] (S' := [_,_]) rfl ?_
 refine wc_cond rfl (fun hb5 => ?_) (fun hb5 => ?_)
 ·
  replace hm := iteT hm hb5
  refine wc_keep [] (S' := []) rfl ?_
  refine wc_seq ?_
  refine wc_region ?_
  refine wl_pure rfl rfl rfl (freshS_eq rfl) rfl ?_
  refine wl_nil ?_
  refine we_then ?_
  refine wc_ret ?_
  refine we_then_ret ?_
  have hE := (Option.some.inj hm).symm
  replace hE := hE.symm
  subst hE
  refine ret_one (Hr := [_, _]) [0, 1] Tryd.results9 (res_tmp rfl) ⟨rfl, rfl, rfl⟩ (fun _ _ hφ => ask [] rfl hφ) rfl rfl (.inl rfl)
 ·
  replace hm := iteF hm hb5
  refine wc_keep [0] (S' := [_]) rfl ?_
  refine wc_skip ?_
  refine we_then ?_
  refine wc_seq ?_
  refine wc_region ?_
  refine wl_pure rfl rfl rfl (freshS_eq rfl) rfl ?_
  refine wl_pure rfl rfl rfl (freshS_eq rfl) rfl ?_
  refine wl_fieldAddr rfl rfl rfl (freshS_eq rfl) rfl rfl tF_60_1 ?_
  refine wl_loadH 0 1 rfl rfl rfl (freshS_eq rfl) rfl rfl rfl (cs := [_]) rfl tS_3 tA_3 rfl rfl ?_
  refine wl_pure rfl rfl rfl (freshS_eq rfl) rfl ?_
  refine wl_nil ?_
  refine we_then ?_
  refine wc_keep [2] (S' := [_]) rfl ?_
  refine wc_ret ?_
  have hE := (Option.some.inj hm).symm
  replace hE := hE.symm
  subst hE
  refine ret_one (Hr := [_, _]) [0, 1] Tryd.results9 (res_tmp rfl) ⟨rfl, rfl, rfl⟩ (fun _ _ hφ => ask [] rfl hφ) rfl rfl (.inl rfl)
set_option maxRecDepth 100000 in
set_option maxHeartbeats 4000000 in
theorem w_ropewalklaw11_awake_s (N : Nat)  (o0 : Bool) (hm : m_ropewalklaw11_awake N = some o0) : Spec Tryd.prog 5 [] [] [] (fun v Φr Hr => v = .bool o0 ∧ Φr = [] ∧ Hr = []) := by
 unfold m_ropewalklaw11_awake at hm
 refine spec_of Tryd.func5 rfl Tryd.ntmps5 rfl (S := []) rfl (fun C => ?_)
 refine wc_seq ?_
 refine wc_region ?_
 refine wl_pure rfl rfl rfl (freshS_eq rfl) rfl ?_
 refine wl_nil ?_
 refine we_then ?_
 refine wc_keep [] (S' := []) rfl ?_
 refine wc_seq ?_
 refine wc_region ?_
 obtain ⟨_, hc14, hm⟩ := bindO_some hm
 try dsimp only at hm
 refine wl_call [] [] rfl rfl rfl (freshS_eq rfl) rfl rfl fn_6 rfl (w_memory_New_s N  hc14) (fun _ _ hφ => ask [] rfl hφ) rfl (H' := []) rfl ?_
 rintro _ _ _ ⟨c14_0, rfl, rfl, rfl⟩
 refine wl_pure rfl rfl rfl (freshS_eq rfl) rfl ?_
 refine wl_nil ?_
 refine we_then ?_
 refine wc_keep [1] (S' := [_]) rfl ?_
 refine wc_seq ?_
 refine wc_region ?_
 refine wl_pure rfl rfl rfl (freshS_eq rfl) rfl ?_
 obtain ⟨_, hc17, hm⟩ := bindO_some hm
 try dsimp only at hm
 refine wl_call [] [0] rfl rfl rfl (freshS_eq rfl) rfl rfl fn_22 rfl (w_ropewalklaw11_num_s N 5 hc17) (fun _ _ hφ => ask [] rfl hφ) rfl (H' := [_]) rfl ?_
 rintro _ _ _ ⟨rfl, rfl, rfl⟩
 refine wl_buildSlice rfl rfl rfl (freshS_eq rfl) rfl tE_26 tS_55 tZ_55 rfl (zs := [.int .u8 0, .int .i64 0, .string ((⟨#[]⟩ : ByteArray))]) (by kernel_rfl) rfl (out := [_,_,_]) rfl (fun g18 => ?_)
 refine wl_rowNil 42 3 R_FactD ?_
 refine wl_row (sz := 3) (m := 1) R_V ([(⟨1, 5, (⟨#[]⟩ : ByteArray)⟩ : V)]) 1 rfl (fun F w hφ => ⟨[.int .u8 1, .int .i64 5, .string ((⟨#[]⟩ : ByteArray))], [], rfl, rfl, ⟨(), rfl, ask_nil⟩, rfl⟩) rfl (by decide) (H' := [_,_,_]) rfl ?_
 obtain ⟨⟨v19_0, v19_1, v19_2, v19_3⟩, hc19, hm⟩ := bindO_some hm
 try dsimp only at hm
 refine wl_call [2, 0, 1] [] rfl rfl rfl (freshS_eq rfl) rfl rfl fn_15 rfl (w_memory_Memory_Add_s N c14_0 none 0 0 [] 1 0 (some ⟨g18, 0, none⟩) ([(⟨1, 5, (⟨#[]⟩ : ByteArray)⟩ : V)].length) 1 [(⟨1, 5, (⟨#[]⟩ : ByteArray)⟩ : V)] _ _ _ _ hc19) (fun _ _ hφ => ask [] rfl hφ) rfl (H' := []) rfl ?_
 rintro _ _ _ ⟨p19_0, c19_1, c19_2, rfl, rfl, rfl⟩
 refine wl_pure rfl rfl rfl (freshS_eq rfl) rfl ?_
 refine wl_pure rfl rfl rfl (freshS_eq rfl) rfl ?_
 refine wl_pure rfl rfl rfl (freshS_eq rfl) rfl ?_
 refine wl_pure rfl rfl rfl (freshS_eq rfl) rfl ?_
 refine wl_pure rfl rfl rfl (freshS_eq rfl) rfl ?_
 refine wl_nil ?_
 refine we_then ?_
 refine wc_keep [3, 2, 1] (S' := [_,_,_]) rfl ?_
 refine wc_seq ?_
 refine wc_region ?_
 refine wl_pure rfl rfl rfl (freshS_eq rfl) rfl ?_
 refine wl_build rfl rfl rfl (freshS_eq rfl) rfl tZ_55 tP_55 rfl (out := [_,_,_]) rfl ?_
 refine wl_buildSlice rfl rfl rfl (freshS_eq rfl) rfl tE_26 tS_55 tZ_55 rfl (zs := [.int .u8 0, .int .i64 0, .string ((⟨#[]⟩ : ByteArray))]) (by kernel_rfl) rfl (out := [_,_,_]) rfl (fun g25 => ?_)
 refine wl_row (sz := 3) (m := 1) R_V ([(⟨2, 0, (⟨#[97]⟩ : ByteArray)⟩ : V)]) 0 rfl (fun F w hφ => ⟨[.int .u8 2, .int .i64 0, .string ((⟨#[97]⟩ : ByteArray))], [], rfl, rfl, ⟨(), rfl, ask_nil⟩, rfl⟩) rfl (by decide) (H' := [_,_,_,_]) rfl ?_
 obtain ⟨⟨v26_0, v26_1, v26_2, v26_3⟩, hc26, hm⟩ := bindO_some hm
 try dsimp only at hm
 refine wl_call [1, 2, 0] [3] rfl rfl rfl (freshS_eq rfl) rfl rfl fn_15 rfl (w_memory_Memory_Add_s N c14_0 p19_0 c19_2 c19_1 v19_2 v19_3 0 (some ⟨g25, 0, none⟩) ([(⟨2, 0, (⟨#[97]⟩ : ByteArray)⟩ : V)].length) 1 [(⟨2, 0, (⟨#[97]⟩ : ByteArray)⟩ : V)] _ _ _ _ hc26) (fun _ _ hφ => ask [] rfl hφ) rfl (H' := [_]) rfl ?_
 rintro _ _ _ ⟨p26_0, c26_1, c26_2, rfl, rfl, rfl⟩
 refine wl_pure rfl rfl rfl (freshS_eq rfl) rfl ?_
 refine wl_pure rfl rfl rfl (freshS_eq rfl) rfl ?_
 refine wl_pure rfl rfl rfl (freshS_eq rfl) rfl ?_
 refine wl_pure rfl rfl rfl (freshS_eq rfl) rfl ?_
 refine wl_pure rfl rfl rfl (freshS_eq rfl) rfl ?_
 refine wl_nil ?_
 refine we_then ?_
 refine wc_keep [5, 4, 3, 2, 1] (S' := [_,_,_,_,_]) rfl ?_
 refine wc_seq ?_
 refine wc_region ?_
 refine wl_pure rfl rfl rfl (freshS_eq rfl) rfl ?_
 obtain ⟨_, hc31, hm⟩ := bindO_some hm
 try dsimp only at hm
 refine wl_call [] [0, 1, 2, 3] rfl rfl rfl (freshS_eq rfl) rfl rfl fn_22 rfl (w_ropewalklaw11_num_s N 5 hc31) (fun _ _ hφ => ask [] rfl hφ) rfl (H' := [_,_,_,_]) rfl ?_
 rintro _ _ _ ⟨rfl, rfl, rfl⟩
 refine wl_buildSlice rfl rfl rfl (freshS_eq rfl) rfl tE_26 tS_55 tZ_55 rfl (zs := [.int .u8 0, .int .i64 0, .string ((⟨#[]⟩ : ByteArray))]) (by kernel_rfl) rfl (out := [_,_,_]) rfl (fun g32 => ?_)
 refine wl_row (sz := 3) (m := 1) R_V ([(⟨1, 5, (⟨#[]⟩ : ByteArray)⟩ : V)]) 0 rfl (fun F w hφ => ⟨[.int .u8 1, .int .i64 5, .string ((⟨#[]⟩ : ByteArray))], [], rfl, rfl, ⟨(), rfl, ask_nil⟩, rfl⟩) rfl (by decide) (H' := [_,_,_,_,_]) rfl ?_
 obtain ⟨⟨v33_0, v33_1, v33_2, v33_3⟩, hc33, hm⟩ := bindO_some hm
 try dsimp only at hm
 refine wl_call [1, 2, 0] [3, 4] rfl rfl rfl (freshS_eq rfl) rfl rfl fn_15 rfl (w_memory_Memory_Add_s N c14_0 p26_0 c26_2 c26_1 v26_2 v26_3 0 (some ⟨g32, 0, none⟩) ([(⟨1, 5, (⟨#[]⟩ : ByteArray)⟩ : V)].length) 1 [(⟨1, 5, (⟨#[]⟩ : ByteArray)⟩ : V)] _ _ _ _ hc33) (fun _ _ hφ => ask [] rfl hφ) rfl (H' := [_,_]) rfl ?_
 rintro _ _ _ ⟨p33_0, c33_1, c33_2, rfl, rfl, rfl⟩
 refine wl_pure rfl rfl rfl (freshS_eq rfl) rfl ?_
 refine wl_pure rfl rfl rfl (freshS_eq rfl) rfl ?_
 refine wl_pure rfl rfl rfl (freshS_eq rfl) rfl ?_
 refine wl_pure rfl rfl rfl (freshS_eq rfl) rfl ?_
 refine wl_pure rfl rfl rfl (freshS_eq rfl) rfl ?_
 refine wl_nil ?_
 refine we_then ?_
 refine wc_keep [7, 6, 5, 4, 3, 2, 1] (S' := [_,_,_,_,_,_,_]) rfl ?_
 refine wc_seq ?_
 refine wc_region ?_
 refine wl_pure rfl rfl rfl (freshS_eq rfl) rfl ?_
 obtain ⟨⟨v37_0, v37_1⟩, hc37, hm⟩ := bindO_some hm
 try dsimp only at hm
 refine wl_call [0, 1] [2, 3, 4] rfl rfl rfl (freshS_eq rfl) rfl rfl fn_13 rfl (w_memory_Memory_Drop_s N c14_0 p33_0 c33_2 c33_1 v33_2 v33_3 1 _ _ hc37) (fun _ _ hφ => ask [] rfl hφ) rfl (H' := [_,_,_]) rfl ?_
 rintro _ _ _ ⟨p37_0, c37_1, c37_2, rfl, rfl, rfl⟩
 refine wl_pure rfl rfl rfl (freshS_eq rfl) rfl ?_
 refine wl_nil ?_
 refine we_then ?_
 refine wc_keep [8, 7, 6, 5, 4, 3, 2, 1] (S' := [_,_,_,_,_,_,_,_]) rfl ?_
 refine wc_seq ?_
 refine wc_region ?_
 refine wl_pure rfl rfl rfl (freshS_eq rfl) rfl ?_
 obtain ⟨_, hc40, hm⟩ := bindO_some hm
 try dsimp only at hm
 refine wl_call [] [0, 1, 2, 3, 4] rfl rfl rfl (freshS_eq rfl) rfl rfl fn_22 rfl (w_ropewalklaw11_num_s N 5 hc40) (fun _ _ hφ => ask [] rfl hφ) rfl (H' := [_,_,_,_,_]) rfl ?_
 rintro _ _ _ ⟨rfl, rfl, rfl⟩
 refine wl_buildSlice rfl rfl rfl (freshS_eq rfl) rfl tE_26 tS_55 tZ_55 rfl (zs := [.int .u8 0, .int .i64 0, .string ((⟨#[]⟩ : ByteArray))]) (by kernel_rfl) rfl (out := [_,_,_]) rfl (fun g41 => ?_)
 refine wl_row (sz := 3) (m := 1) R_V ([(⟨1, 5, (⟨#[]⟩ : ByteArray)⟩ : V)]) 0 rfl (fun F w hφ => ⟨[.int .u8 1, .int .i64 5, .string ((⟨#[]⟩ : ByteArray))], [], rfl, rfl, ⟨(), rfl, ask_nil⟩, rfl⟩) rfl (by decide) (H' := [_,_,_,_,_,_]) rfl ?_
 obtain ⟨⟨v42_0, v42_1, v42_2, v42_3⟩, hc42, hm⟩ := bindO_some hm
 try dsimp only at hm
 refine wl_call [1, 2, 0] [3, 4, 5] rfl rfl rfl (freshS_eq rfl) rfl rfl fn_15 rfl (w_memory_Memory_Add_s N c14_0 p37_0 c37_2 c37_1 v37_1 v33_3 0 (some ⟨g41, 0, none⟩) ([(⟨1, 5, (⟨#[]⟩ : ByteArray)⟩ : V)].length) 1 [(⟨1, 5, (⟨#[]⟩ : ByteArray)⟩ : V)] _ _ _ _ hc42) (fun _ _ hφ => ask [] rfl hφ) rfl (H' := [_,_,_]) rfl ?_
 rintro _ _ _ ⟨p42_0, c42_1, c42_2, rfl, rfl, rfl⟩
 refine wl_pure rfl rfl rfl (freshS_eq rfl) rfl ?_
 refine wl_pure rfl rfl rfl (freshS_eq rfl) rfl ?_
 refine wl_pure rfl rfl rfl (freshS_eq rfl) rfl ?_
 refine wl_pure rfl rfl rfl (freshS_eq rfl) rfl ?_
 refine wl_pure rfl rfl rfl (freshS_eq rfl) rfl ?_
 refine wl_nil ?_
 refine we_then ?_
 refine wc_keep [10, 9, 8, 7, 6, 5, 4, 3, 2, 1] (S' := [_,_,_,_,_,_,_,_,_,_]) rfl ?_
 refine wc_seq ?_
 refine wc_region ?_
 refine wl_pure rfl rfl rfl (freshS_eq rfl) rfl ?_
 refine wl_fact (.sli 3 R_V none 0 ([] : List V)) (fun _ _ _ => sli_none) ?_
 obtain ⟨⟨v47_0, v47_1, v47_2, v47_3⟩, hc47, hm⟩ := bindO_some hm
 try dsimp only at hm
 refine wl_call [0, 1] [2, 3, 4, 5] rfl rfl rfl (freshS_eq rfl) rfl rfl fn_15 rfl (w_memory_Memory_Add_v2_s N c14_0 p42_0 c42_2 c42_1 v42_2 v42_3 32 none 0 ([] : List V) _ _ _ _ hc47) (fun _ _ hφ => ask [0] rfl hφ) rfl (H' := [_,_,_,_]) rfl ?_
 rintro _ _ _ ⟨p47_0, c47_1, c47_2, rfl, rfl, rfl⟩
 refine wl_pure rfl rfl rfl (freshS_eq rfl) rfl ?_
 refine wl_pure rfl rfl rfl (freshS_eq rfl) rfl ?_
 refine wl_pure rfl rfl rfl (freshS_eq rfl) rfl ?_
 refine wl_pure rfl rfl rfl (freshS_eq rfl) rfl ?_
 refine wl_pure rfl rfl rfl (freshS_eq rfl) rfl ?_
 refine wl_nil ?_
 refine we_then ?_
 refine wc_keep [12, 10, 9, 8, 7, 6, 5, 4, 3, 2, 1] (S' := [_,_,_,_,_,_,_,_,_,_,_]) rfl ?_
 refine wc_seq ?_
 refine wc_region ?_
 refine wl_pure rfl rfl rfl (freshS_eq rfl) rfl ?_
 obtain ⟨v51, hc51, hm⟩ := bindO_some hm
 refine wl_call [0, 1] [2, 3, 4, 5] rfl rfl rfl (freshS_eq rfl) rfl rfl fn_10 rfl (w_memory_Memory_All_s N c14_0 p47_0 c47_2 c47_1 v47_2 v47_3 _ hc51) (fun _ _ hφ => ask [] rfl hφ) rfl (H' := [_,_,_,_]) rfl ?_
 rintro _ _ _ ⟨p51_0, c51_1, c51_2, rfl, rfl, rfl⟩
 refine wl_pure rfl rfl rfl (freshS_eq rfl) rfl ?_
 refine wl_nil ?_
 refine we_then ?_
 refine wc_keep [13, 12, 10, 9, 8, 7, 6, 5, 4, 3, 2, 1] (S' := [_,_,_,_,_,_,_,_,_,_,_,_]) rfl ?_
 refine wc_seq ?_
 obtain ⟨bj_1, hm, hLj_1⟩ := bindO_some hm
 unfold m_ropewalklaw11_awake_C1 at hm
 refine wc_cut (σ := Bool) (fun j_1_0 => bj_1 = j_1_0) (fun j_1_0 => [(0, .bool j_1_0)]) (fun j_1_0 => []) (fun j_1_0 => []) ?_ ?_
 ·
  refine wc_region ?_
  refine wl_pure rfl rfl rfl (freshS_eq rfl) rfl ?_
  refine wl_pure rfl rfl rfl (freshS_eq rfl) rfl ?_
  refine wl_pure rfl rfl rfl (freshS_eq rfl) rfl ?_
  refine wl_split (d := 54) (S' := [_,_,_,_,_,_,_,_,_,_,_,_,_,_]) rfl rfl (fun hs54 => ?_) (fun hs54 => ?_)
  ·
   replace hm := iteT hm hs54
   refine wl_pure rfl rfl rfl (freshS_eq rfl) rfl ?_
   refine wl_pure rfl rfl rfl (freshS_eq rfl) rfl ?_
   refine wl_as (d := 56) (v' := .bool (v19_1 == 0)) (S' := [_,_,_,_,_,_,_,_,_,_,_,_,_,_,_,_]) rfl rfl (nateq (a := v19_1) (b := 0)) ?_
   refine wl_pure rfl rfl rfl (freshS_eq rfl) rfl ?_
   refine wl_pure rfl rfl rfl (freshS_eq rfl) rfl ?_
   refine wl_split (d := 58) (S' := [_,_,_,_,_,_,_,_,_,_,_,_,_,_,_,_,_,_]) rfl rfl (fun hs58 => ?_) (fun hs58 => ?_)
   ·
    replace hm := iteT hm hs58
    refine wl_pure rfl rfl rfl (freshS_eq rfl) rfl ?_
    refine wl_pure rfl rfl rfl (freshS_eq rfl) rfl ?_
    refine wl_pure rfl rfl rfl (freshS_eq rfl) rfl ?_
    refine wl_pure rfl rfl rfl (freshS_eq rfl) rfl ?_
    refine wl_split (d := 62) (S' := [_,_,_,_,_,_,_,_,_,_,_,_,_,_,_,_,_,_,_,_,_,_]) rfl rfl (fun hs62 => ?_) (fun hs62 => ?_)
    ·
     replace hm := iteT hm hs62
     refine wl_pure rfl rfl rfl (freshS_eq rfl) rfl ?_
     refine wl_pure rfl rfl rfl (freshS_eq rfl) rfl ?_
     refine wl_as (d := 64) (v' := .bool (v26_1 == 0)) (S' := [_,_,_,_,_,_,_,_,_,_,_,_,_,_,_,_,_,_,_,_,_,_,_,_]) rfl rfl (nateq (a := v26_1) (b := 0)) ?_
     refine wl_pure rfl rfl rfl (freshS_eq rfl) rfl ?_
     refine wl_pure rfl rfl rfl (freshS_eq rfl) rfl ?_
     refine wl_split (d := 66) (S' := [_,_,_,_,_,_,_,_,_,_,_,_,_,_,_,_,_,_,_,_,_,_,_,_,_,_]) rfl rfl (fun hs66 => ?_) (fun hs66 => ?_)
     ·
      replace hm := iteT hm hs66
      refine wl_pure rfl rfl rfl (freshS_eq rfl) rfl ?_
      refine wl_pure rfl rfl rfl (freshS_eq rfl) rfl ?_
      refine wl_pure rfl rfl rfl (freshS_eq rfl) rfl ?_
      refine wl_pure rfl rfl rfl (freshS_eq rfl) rfl ?_
      refine wl_split (d := 70) (S' := [_,_,_,_,_,_,_,_,_,_,_,_,_,_,_,_,_,_,_,_,_,_,_,_,_,_,_,_,_,_]) rfl rfl (fun hs70 => ?_) (fun hs70 => ?_)
      ·
       replace hm := iteT hm hs70
       refine wl_pure rfl rfl rfl (freshS_eq rfl) rfl ?_
       refine wl_pure rfl rfl rfl (freshS_eq rfl) rfl ?_
       refine wl_as (d := 72) (v' := .bool (v33_1 == 7)) (S' := [_,_,_,_,_,_,_,_,_,_,_,_,_,_,_,_,_,_,_,_,_,_,_,_,_,_,_,_,_,_,_,_]) rfl rfl (nateq (a := v33_1) (b := 7)) ?_
       refine wl_pure rfl rfl rfl (freshS_eq rfl) rfl ?_
       refine wl_pure rfl rfl rfl (freshS_eq rfl) rfl ?_
       refine wl_split (d := 74) (S' := [_,_,_,_,_,_,_,_,_,_,_,_,_,_,_,_,_,_,_,_,_,_,_,_,_,_,_,_,_,_,_,_,_,_]) rfl rfl (fun hs74 => ?_) (fun hs74 => ?_)
       ·
        replace hm := iteT hm hs74
        refine wl_pure rfl rfl rfl (freshS_eq rfl) rfl ?_
        refine wl_pure rfl rfl rfl (freshS_eq rfl) rfl ?_
        refine wl_as (d := 76) (v' := .bool (v37_0 == 0)) (S' := [_,_,_,_,_,_,_,_,_,_,_,_,_,_,_,_,_,_,_,_,_,_,_,_,_,_,_,_,_,_,_,_,_,_,_,_]) rfl rfl (nateq (a := v37_0) (b := 0)) ?_
        refine wl_pure rfl rfl rfl (freshS_eq rfl) rfl ?_
        refine wl_pure rfl rfl rfl (freshS_eq rfl) rfl ?_
        refine wl_split (d := 78) (S' := [_,_,_,_,_,_,_,_,_,_,_,_,_,_,_,_,_,_,_,_,_,_,_,_,_,_,_,_,_,_,_,_,_,_,_,_,_,_]) rfl rfl (fun hs78 => ?_) (fun hs78 => ?_)
        ·
         replace hm := iteT hm hs78
         refine wl_pure rfl rfl rfl (freshS_eq rfl) rfl ?_
         refine wl_pure rfl rfl rfl (freshS_eq rfl) rfl ?_
         refine wl_pure rfl rfl rfl (freshS_eq rfl) rfl ?_
         refine wl_pure rfl rfl rfl (freshS_eq rfl) rfl ?_
         refine wl_split (d := 82) (S' := [_,_,_,_,_,_,_,_,_,_,_,_,_,_,_,_,_,_,_,_,_,_,_,_,_,_,_,_,_,_,_,_,_,_,_,_,_,_,_,_,_,_]) rfl rfl (fun hs82 => ?_) (fun hs82 => ?_)
         ·
          replace hm := iteT hm hs82
          refine wl_pure rfl rfl rfl (freshS_eq rfl) rfl ?_
          refine wl_pure rfl rfl rfl (freshS_eq rfl) rfl ?_
          refine wl_as (d := 84) (v' := .bool (v42_1 == 0)) (S' := [_,_,_,_,_,_,_,_,_,_,_,_,_,_,_,_,_,_,_,_,_,_,_,_,_,_,_,_,_,_,_,_,_,_,_,_,_,_,_,_,_,_,_,_]) rfl rfl (nateq (a := v42_1) (b := 0)) ?_
          refine wl_pure rfl rfl rfl (freshS_eq rfl) rfl ?_
          refine wl_pure rfl rfl rfl (freshS_eq rfl) rfl ?_
          refine wl_split (d := 86) (S' := [_,_,_,_,_,_,_,_,_,_,_,_,_,_,_,_,_,_,_,_,_,_,_,_,_,_,_,_,_,_,_,_,_,_,_,_,_,_,_,_,_,_,_,_,_,_]) rfl rfl (fun hs86 => ?_) (fun hs86 => ?_)
          ·
           replace hm := iteT hm hs86
           refine wl_pure rfl rfl rfl (freshS_eq rfl) rfl ?_
           refine wl_pure rfl rfl rfl (freshS_eq rfl) rfl ?_
           refine wl_as (d := 88) (v' := .bool (v47_1 == 2)) (S' := [_,_,_,_,_,_,_,_,_,_,_,_,_,_,_,_,_,_,_,_,_,_,_,_,_,_,_,_,_,_,_,_,_,_,_,_,_,_,_,_,_,_,_,_,_,_,_,_]) rfl rfl (nateq (a := v47_1) (b := 2)) ?_
           refine wl_pure rfl rfl rfl (freshS_eq rfl) rfl ?_
           refine wl_pure rfl rfl rfl (freshS_eq rfl) rfl ?_
           refine wl_split (d := 90) (S' := [_,_,_,_,_,_,_,_,_,_,_,_,_,_,_,_,_,_,_,_,_,_,_,_,_,_,_,_,_,_,_,_,_,_,_,_,_,_,_,_,_,_,_,_,_,_,_,_,_,_]) rfl rfl (fun hs90 => ?_) (fun hs90 => ?_)
           ·
            replace hm := iteT hm hs90
            refine wl_pure rfl rfl rfl (freshS_eq rfl) rfl ?_
            obtain ⟨⟨v92_0, v92_1⟩, hc92, hm⟩ := bindO_some hm
            try dsimp only at hm
            refine wl_call [1, 2] [0, 3, 4, 5, 6] rfl rfl rfl (freshS_eq rfl) rfl rfl fn_13 rfl (w_memory_Memory_Drop_s N c14_0 p47_0 c47_2 c47_1 v47_2 v47_3 1 _ _ hc92) (fun _ _ hφ => ask [] rfl hφ) rfl (H' := [_,_,_,_,_]) rfl ?_
            rintro _ _ _ ⟨p92_0, c92_1, c92_2, rfl, rfl, rfl⟩
            refine wl_pure rfl rfl rfl (freshS_eq rfl) rfl ?_
            refine wl_as (d := 93) (v' := .bool (v92_0 == 6)) (S' := [_,_,_,_,_,_,_,_,_,_,_,_,_,_,_,_,_,_,_,_,_,_,_,_,_,_,_,_,_,_,_,_,_,_,_,_,_,_,_,_,_,_,_,_,_,_,_,_,_,_,_,_,_]) rfl rfl (nateq (a := v92_0) (b := 6)) ?_
            refine wl_pure rfl rfl rfl (freshS_eq rfl) rfl ?_
            refine wl_pure rfl rfl rfl (freshS_eq rfl) rfl ?_
            refine wl_split (d := 95) (S' := [_,_,_,_,_,_,_,_,_,_,_,_,_,_,_,_,_,_,_,_,_,_,_,_,_,_,_,_,_,_,_,_,_,_,_,_,_,_,_,_,_,_,_,_,_,_,_,_,_,_,_,_,_,_,_]) rfl rfl (fun hs95 => ?_) (fun hs95 => ?_)
            ·
             replace hm := iteT hm hs95
             refine wl_pure rfl rfl rfl (freshS_eq rfl) rfl ?_
             refine wl_ownLen 2 rfl (fun hl97 _ => ?_)
             refine wl_len rfl rfl rfl (freshS_eq rfl) rfl rfl tE_35 ?_
             refine wl_as (d := 97) (v' := .int .i64 ((v51.length : Nat) : Int)) (S' := [_,_,_,_,_,_,_,_,_,_,_,_,_,_,_,_,_,_,_,_,_,_,_,_,_,_,_,_,_,_,_,_,_,_,_,_,_,_,_,_,_,_,_,_,_,_,_,_,_,_,_,_,_,_,_,_,_]) rfl rfl (len_is hl97) ?_
             refine wl_pure rfl rfl rfl (freshS_eq rfl) rfl ?_
             refine wl_as (d := 98) (v' := .bool (v51.length == 2)) (S' := [_,_,_,_,_,_,_,_,_,_,_,_,_,_,_,_,_,_,_,_,_,_,_,_,_,_,_,_,_,_,_,_,_,_,_,_,_,_,_,_,_,_,_,_,_,_,_,_,_,_,_,_,_,_,_,_,_,_]) rfl rfl (nateq (a := v51.length) (b := 2)) ?_
             refine wl_pure rfl rfl rfl (freshS_eq rfl) rfl ?_
             refine wl_pure rfl rfl rfl (freshS_eq rfl) rfl ?_
             refine wl_split (d := 100) (S' := [_,_,_,_,_,_,_,_,_,_,_,_,_,_,_,_,_,_,_,_,_,_,_,_,_,_,_,_,_,_,_,_,_,_,_,_,_,_,_,_,_,_,_,_,_,_,_,_,_,_,_,_,_,_,_,_,_,_,_,_]) rfl rfl (fun hs100 => ?_) (fun hs100 => ?_)
             ·
              replace hm := iteT hm hs100
              refine wl_pure rfl rfl rfl (freshS_eq rfl) rfl ?_
              obtain ⟨x102, hx102, hm⟩ := bindO_some hm
              refine wl_indexH 2 0 rfl rfl rfl (freshS_eq rfl) rfl rfl rfl rfl rfl (get_lt hx102) tE_35 tS_42 (fun g102 eg102 => ?_)
              subst eg102
              refine wl_fieldAddr rfl rfl rfl (freshS_eq rfl) rfl rfl tF_42_0 ?_
              refine wl_loadRow R_FactD_opens 2 0 0 rfl rfl rfl (freshS_eq rfl) rfl rfl rfl hx102 tS_3 tA_3 (v := fun r104 => .int .i64 (x102.id)) (fun _ => rfl) (fun _ => rfl) (fun r104 _ => ?_)
              refine wl_pure rfl rfl rfl (freshS_eq rfl) rfl ?_
              refine wl_pure rfl rfl rfl (freshS_eq rfl) rfl ?_
              refine wl_pure rfl rfl rfl (freshS_eq rfl) rfl ?_
              refine wl_split (d := 107) (S' := [_,_,_,_,_,_,_,_,_,_,_,_,_,_,_,_,_,_,_,_,_,_,_,_,_,_,_,_,_,_,_,_,_,_,_,_,_,_,_,_,_,_,_,_,_,_,_,_,_,_,_,_,_,_,_,_,_,_,_,_,_,_,_,_,_,_,_]) rfl rfl (fun hs107 => ?_) (fun hs107 => ?_)
              ·
               replace hm := iteT hm hs107
               refine wl_pure rfl rfl rfl (freshS_eq rfl) rfl ?_
               obtain ⟨x109, hx109, hm⟩ := bindO_some hm
               refine wl_indexK 2 1 rfl rfl rfl (freshS_eq rfl) rfl rfl rfl rfl rfl (get_lt hx109) tE_35 tS_42 ?_
               refine wl_fieldAddr rfl rfl rfl (freshS_eq rfl) rfl rfl tF_42_0 ?_
               refine wl_loadRow R_FactD_opens 2 1 0 rfl rfl rfl (freshS_eq rfl) rfl rfl rfl hx109 tS_3 tA_3 (v := fun r111 => .int .i64 (x109.id)) (fun _ => rfl) (fun _ => rfl) (fun r111 _ => ?_)
               refine wl_pure rfl rfl rfl (freshS_eq rfl) rfl ?_
               refine wl_pure rfl rfl rfl (freshS_eq rfl) rfl ?_
               refine wl_pure rfl rfl rfl (freshS_eq rfl) rfl ?_
               refine wl_split (d := 114) (S' := [_,_,_,_,_,_,_,_,_,_,_,_,_,_,_,_,_,_,_,_,_,_,_,_,_,_,_,_,_,_,_,_,_,_,_,_,_,_,_,_,_,_,_,_,_,_,_,_,_,_,_,_,_,_,_,_,_,_,_,_,_,_,_,_,_,_,_,_,_,_,_,_,_,_]) rfl rfl (fun hs114 => ?_) (fun hs114 => ?_)
               ·
                replace hm := iteT hm hs114
                refine wl_pure rfl rfl rfl (freshS_eq rfl) rfl ?_
                obtain ⟨v116, hc116, hm⟩ := bindO_some hm
                refine wl_call [0, 1] [2, 3, 4, 5, 6] rfl rfl rfl (freshS_eq rfl) rfl rfl fn_21 rfl (w_memory_Memory_Len_s N c14_0 p92_0 c92_2 c92_1 v92_1 v47_3 _ hc116) (fun _ _ hφ => ask [] rfl hφ) rfl (H' := [_,_,_,_,_]) rfl ?_
                rintro _ _ _ ⟨rfl, rfl, rfl⟩
                refine wl_pure rfl rfl rfl (freshS_eq rfl) rfl ?_
                refine wl_as (d := 117) (v' := .bool (v116 == 2)) (S' := [_,_,_,_,_,_,_,_,_,_,_,_,_,_,_,_,_,_,_,_,_,_,_,_,_,_,_,_,_,_,_,_,_,_,_,_,_,_,_,_,_,_,_,_,_,_,_,_,_,_,_,_,_,_,_,_,_,_,_,_,_,_,_,_,_,_,_,_,_,_,_,_,_,_,_,_,_]) rfl rfl (nateq (a := v116) (b := 2)) ?_
                refine wl_pure rfl rfl rfl (freshS_eq rfl) rfl ?_
                refine wl_pure rfl rfl rfl (freshS_eq rfl) rfl ?_
                refine wl_split (d := 119) (S' := [_,_,_,_,_,_,_,_,_,_,_,_,_,_,_,_,_,_,_,_,_,_,_,_,_,_,_,_,_,_,_,_,_,_,_,_,_,_,_,_,_,_,_,_,_,_,_,_,_,_,_,_,_,_,_,_,_,_,_,_,_,_,_,_,_,_,_,_,_,_,_,_,_,_,_,_,_,_,_]) rfl rfl (fun hs119 => ?_) (fun hs119 => ?_)
                ·
                 replace hm := iteT hm hs119
                 refine wl_pure rfl rfl rfl (freshS_eq rfl) rfl ?_
                 obtain ⟨v121, hc121, hm⟩ := bindO_some hm
                 refine wl_call [0, 1] [2, 3, 4, 5, 6] rfl rfl rfl (freshS_eq rfl) rfl rfl fn_9 rfl (w_memory_Memory_Next_s N c14_0 p92_0 c92_2 c92_1 v92_1 v47_3 _ hc121) (fun _ _ hφ => ask [] rfl hφ) rfl (H' := [_,_,_,_,_]) rfl ?_
                 rintro _ _ _ ⟨rfl, rfl, rfl⟩
                 refine wl_pure rfl rfl rfl (freshS_eq rfl) rfl ?_
                 refine wl_pure rfl rfl rfl (freshS_eq rfl) rfl ?_
                 refine wl_pure rfl rfl rfl (freshS_eq rfl) rfl ?_
                 refine wl_nil ?_
                 have hE := (Option.some.inj hm).symm
                 refine we_pick [] rfl (H' := []) rfl ?_
                 refine we_join (v121 == 4) hE [0] rfl (fun _ _ hφ => ask [] rfl hφ) rfl
                ·
                 replace hm := iteF hm hs119
                 refine wl_off rfl rfl rfl (freshS_eq rfl) ?_
                 refine wl_off rfl rfl rfl (freshS_eq rfl) ?_
                 refine wl_off rfl rfl rfl (freshS_eq rfl) ?_
                 refine wl_pure rfl rfl rfl (freshS_eq rfl) rfl ?_
                 refine wl_pure rfl rfl rfl (freshS_eq rfl) rfl ?_
                 refine wl_nil ?_
                 have hE := (Option.some.inj hm).symm
                 refine we_pick [] rfl (H' := []) rfl ?_
                 refine we_join false hE [0] rfl (fun _ _ hφ => ask [] rfl hφ) rfl
               ·
                replace hm := iteF hm hs114
                refine wl_off rfl rfl rfl (freshS_eq rfl) ?_
                refine wl_off rfl rfl rfl (freshS_eq rfl) ?_
                refine wl_off rfl rfl rfl (freshS_eq rfl) ?_
                refine wl_pure rfl rfl rfl (freshS_eq rfl) rfl ?_
                refine wl_pure rfl rfl rfl (freshS_eq rfl) rfl ?_
                refine wl_off rfl rfl rfl (freshS_eq rfl) ?_
                refine wl_off rfl rfl rfl (freshS_eq rfl) ?_
                refine wl_off rfl rfl rfl (freshS_eq rfl) ?_
                refine wl_pure rfl rfl rfl (freshS_eq rfl) rfl ?_
                refine wl_pure rfl rfl rfl (freshS_eq rfl) rfl ?_
                refine wl_nil ?_
                have hE := (Option.some.inj hm).symm
                refine we_pick [] rfl (H' := []) rfl ?_
                refine we_join false hE [0] rfl (fun _ _ hφ => ask [] rfl hφ) rfl
              ·
               replace hm := iteF hm hs107
               refine wl_off rfl rfl rfl (freshS_eq rfl) ?_
               refine wl_off rfl rfl rfl (freshS_eq rfl) ?_
               refine wl_off rfl rfl rfl (freshS_eq rfl) ?_
               refine wl_off rfl rfl rfl (freshS_eq rfl) ?_
               refine wl_off rfl rfl rfl (freshS_eq rfl) ?_
               refine wl_pure rfl rfl rfl (freshS_eq rfl) rfl ?_
               refine wl_pure rfl rfl rfl (freshS_eq rfl) rfl ?_
               refine wl_off rfl rfl rfl (freshS_eq rfl) ?_
               refine wl_off rfl rfl rfl (freshS_eq rfl) ?_
               refine wl_off rfl rfl rfl (freshS_eq rfl) ?_
               refine wl_pure rfl rfl rfl (freshS_eq rfl) rfl ?_
               refine wl_pure rfl rfl rfl (freshS_eq rfl) rfl ?_
               refine wl_off rfl rfl rfl (freshS_eq rfl) ?_
               refine wl_off rfl rfl rfl (freshS_eq rfl) ?_
               refine wl_off rfl rfl rfl (freshS_eq rfl) ?_
               refine wl_pure rfl rfl rfl (freshS_eq rfl) rfl ?_
               refine wl_pure rfl rfl rfl (freshS_eq rfl) rfl ?_
               refine wl_nil ?_
               have hE := (Option.some.inj hm).symm
               refine we_pick [] rfl (H' := []) rfl ?_
               refine we_join false hE [0] rfl (fun _ _ hφ => ask [] rfl hφ) rfl
             ·
              replace hm := iteF hm hs100
              refine wl_off rfl rfl rfl (freshS_eq rfl) ?_
              refine wl_off rfl rfl rfl (freshS_eq rfl) ?_
              refine wl_off rfl rfl rfl (freshS_eq rfl) ?_
              refine wl_off rfl rfl rfl (freshS_eq rfl) ?_
              refine wl_off rfl rfl rfl (freshS_eq rfl) ?_
              refine wl_pure rfl rfl rfl (freshS_eq rfl) rfl ?_
              refine wl_pure rfl rfl rfl (freshS_eq rfl) rfl ?_
              refine wl_off rfl rfl rfl (freshS_eq rfl) ?_
              refine wl_off rfl rfl rfl (freshS_eq rfl) ?_
              refine wl_off rfl rfl rfl (freshS_eq rfl) ?_
              refine wl_off rfl rfl rfl (freshS_eq rfl) ?_
              refine wl_off rfl rfl rfl (freshS_eq rfl) ?_
              refine wl_pure rfl rfl rfl (freshS_eq rfl) rfl ?_
              refine wl_pure rfl rfl rfl (freshS_eq rfl) rfl ?_
              refine wl_off rfl rfl rfl (freshS_eq rfl) ?_
              refine wl_off rfl rfl rfl (freshS_eq rfl) ?_
              refine wl_off rfl rfl rfl (freshS_eq rfl) ?_
              refine wl_pure rfl rfl rfl (freshS_eq rfl) rfl ?_
              refine wl_pure rfl rfl rfl (freshS_eq rfl) rfl ?_
              refine wl_off rfl rfl rfl (freshS_eq rfl) ?_
              refine wl_off rfl rfl rfl (freshS_eq rfl) ?_
              refine wl_off rfl rfl rfl (freshS_eq rfl) ?_
              refine wl_pure rfl rfl rfl (freshS_eq rfl) rfl ?_
              refine wl_pure rfl rfl rfl (freshS_eq rfl) rfl ?_
              refine wl_nil ?_
              have hE := (Option.some.inj hm).symm
              refine we_pick [] rfl (H' := []) rfl ?_
              refine we_join false hE [0] rfl (fun _ _ hφ => ask [] rfl hφ) rfl
            ·
             replace hm := iteF hm hs95
             refine wl_off rfl rfl rfl (freshS_eq rfl) ?_
             refine wl_off rfl rfl rfl (freshS_eq rfl) ?_
             refine wl_off rfl rfl rfl (freshS_eq rfl) ?_
             refine wl_pure rfl rfl rfl (freshS_eq rfl) rfl ?_
             refine wl_pure rfl rfl rfl (freshS_eq rfl) rfl ?_
             refine wl_off rfl rfl rfl (freshS_eq rfl) ?_
             refine wl_off rfl rfl rfl (freshS_eq rfl) ?_
             refine wl_off rfl rfl rfl (freshS_eq rfl) ?_
             refine wl_off rfl rfl rfl (freshS_eq rfl) ?_
             refine wl_off rfl rfl rfl (freshS_eq rfl) ?_
             refine wl_pure rfl rfl rfl (freshS_eq rfl) rfl ?_
             refine wl_pure rfl rfl rfl (freshS_eq rfl) rfl ?_
             refine wl_off rfl rfl rfl (freshS_eq rfl) ?_
             refine wl_off rfl rfl rfl (freshS_eq rfl) ?_
             refine wl_off rfl rfl rfl (freshS_eq rfl) ?_
             refine wl_off rfl rfl rfl (freshS_eq rfl) ?_
             refine wl_off rfl rfl rfl (freshS_eq rfl) ?_
             refine wl_pure rfl rfl rfl (freshS_eq rfl) rfl ?_
             refine wl_pure rfl rfl rfl (freshS_eq rfl) rfl ?_
             refine wl_off rfl rfl rfl (freshS_eq rfl) ?_
             refine wl_off rfl rfl rfl (freshS_eq rfl) ?_
             refine wl_off rfl rfl rfl (freshS_eq rfl) ?_
             refine wl_pure rfl rfl rfl (freshS_eq rfl) rfl ?_
             refine wl_pure rfl rfl rfl (freshS_eq rfl) rfl ?_
             refine wl_off rfl rfl rfl (freshS_eq rfl) ?_
             refine wl_off rfl rfl rfl (freshS_eq rfl) ?_
             refine wl_off rfl rfl rfl (freshS_eq rfl) ?_
             refine wl_pure rfl rfl rfl (freshS_eq rfl) rfl ?_
             refine wl_pure rfl rfl rfl (freshS_eq rfl) rfl ?_
             refine wl_nil ?_
             have hE := (Option.some.inj hm).symm
             refine we_pick [] rfl (H' := []) rfl ?_
             refine we_join false hE [0] rfl (fun _ _ hφ => ask [] rfl hφ) rfl
           ·
            replace hm := iteF hm hs90
            refine wl_off rfl rfl rfl (freshS_eq rfl) ?_
            refine wl_off rfl rfl rfl (freshS_eq rfl) ?_
            refine wl_off rfl rfl rfl (freshS_eq rfl) ?_
            refine wl_pure rfl rfl rfl (freshS_eq rfl) rfl ?_
            refine wl_pure rfl rfl rfl (freshS_eq rfl) rfl ?_
            refine wl_off rfl rfl rfl (freshS_eq rfl) ?_
            refine wl_off rfl rfl rfl (freshS_eq rfl) ?_
            refine wl_off rfl rfl rfl (freshS_eq rfl) ?_
            refine wl_pure rfl rfl rfl (freshS_eq rfl) rfl ?_
            refine wl_pure rfl rfl rfl (freshS_eq rfl) rfl ?_
            refine wl_off rfl rfl rfl (freshS_eq rfl) ?_
            refine wl_off rfl rfl rfl (freshS_eq rfl) ?_
            refine wl_off rfl rfl rfl (freshS_eq rfl) ?_
            refine wl_off rfl rfl rfl (freshS_eq rfl) ?_
            refine wl_off rfl rfl rfl (freshS_eq rfl) ?_
            refine wl_pure rfl rfl rfl (freshS_eq rfl) rfl ?_
            refine wl_pure rfl rfl rfl (freshS_eq rfl) rfl ?_
            refine wl_off rfl rfl rfl (freshS_eq rfl) ?_
            refine wl_off rfl rfl rfl (freshS_eq rfl) ?_
            refine wl_off rfl rfl rfl (freshS_eq rfl) ?_
            refine wl_off rfl rfl rfl (freshS_eq rfl) ?_
            refine wl_off rfl rfl rfl (freshS_eq rfl) ?_
            refine wl_pure rfl rfl rfl (freshS_eq rfl) rfl ?_
            refine wl_pure rfl rfl rfl (freshS_eq rfl) rfl ?_
            refine wl_off rfl rfl rfl (freshS_eq rfl) ?_
            refine wl_off rfl rfl rfl (freshS_eq rfl) ?_
            refine wl_off rfl rfl rfl (freshS_eq rfl) ?_
            refine wl_pure rfl rfl rfl (freshS_eq rfl) rfl ?_
            refine wl_pure rfl rfl rfl (freshS_eq rfl) rfl ?_
            refine wl_off rfl rfl rfl (freshS_eq rfl) ?_
            refine wl_off rfl rfl rfl (freshS_eq rfl) ?_
            refine wl_off rfl rfl rfl (freshS_eq rfl) ?_
            refine wl_pure rfl rfl rfl (freshS_eq rfl) rfl ?_
            refine wl_pure rfl rfl rfl (freshS_eq rfl) rfl ?_
            refine wl_nil ?_
            have hE := (Option.some.inj hm).symm
            refine we_pick [] rfl (H' := []) rfl ?_
            refine we_join false hE [0] rfl (fun _ _ hφ => ask [] rfl hφ) rfl
          ·
           replace hm := iteF hm hs86
           refine wl_off rfl rfl rfl (freshS_eq rfl) ?_
           refine wl_off rfl rfl rfl (freshS_eq rfl) ?_
           refine wl_pure rfl rfl rfl (freshS_eq rfl) rfl ?_
           refine wl_pure rfl rfl rfl (freshS_eq rfl) rfl ?_
           refine wl_off rfl rfl rfl (freshS_eq rfl) ?_
           refine wl_off rfl rfl rfl (freshS_eq rfl) ?_
           refine wl_off rfl rfl rfl (freshS_eq rfl) ?_
           refine wl_pure rfl rfl rfl (freshS_eq rfl) rfl ?_
           refine wl_pure rfl rfl rfl (freshS_eq rfl) rfl ?_
           refine wl_off rfl rfl rfl (freshS_eq rfl) ?_
           refine wl_off rfl rfl rfl (freshS_eq rfl) ?_
           refine wl_off rfl rfl rfl (freshS_eq rfl) ?_
           refine wl_pure rfl rfl rfl (freshS_eq rfl) rfl ?_
           refine wl_pure rfl rfl rfl (freshS_eq rfl) rfl ?_
           refine wl_off rfl rfl rfl (freshS_eq rfl) ?_
           refine wl_off rfl rfl rfl (freshS_eq rfl) ?_
           refine wl_off rfl rfl rfl (freshS_eq rfl) ?_
           refine wl_off rfl rfl rfl (freshS_eq rfl) ?_
           refine wl_off rfl rfl rfl (freshS_eq rfl) ?_
           refine wl_pure rfl rfl rfl (freshS_eq rfl) rfl ?_
           refine wl_pure rfl rfl rfl (freshS_eq rfl) rfl ?_
           refine wl_off rfl rfl rfl (freshS_eq rfl) ?_
           refine wl_off rfl rfl rfl (freshS_eq rfl) ?_
           refine wl_off rfl rfl rfl (freshS_eq rfl) ?_
           refine wl_off rfl rfl rfl (freshS_eq rfl) ?_
           refine wl_off rfl rfl rfl (freshS_eq rfl) ?_
           refine wl_pure rfl rfl rfl (freshS_eq rfl) rfl ?_
           refine wl_pure rfl rfl rfl (freshS_eq rfl) rfl ?_
           refine wl_off rfl rfl rfl (freshS_eq rfl) ?_
           refine wl_off rfl rfl rfl (freshS_eq rfl) ?_
           refine wl_off rfl rfl rfl (freshS_eq rfl) ?_
           refine wl_pure rfl rfl rfl (freshS_eq rfl) rfl ?_
           refine wl_pure rfl rfl rfl (freshS_eq rfl) rfl ?_
           refine wl_off rfl rfl rfl (freshS_eq rfl) ?_
           refine wl_off rfl rfl rfl (freshS_eq rfl) ?_
           refine wl_off rfl rfl rfl (freshS_eq rfl) ?_
           refine wl_pure rfl rfl rfl (freshS_eq rfl) rfl ?_
           refine wl_pure rfl rfl rfl (freshS_eq rfl) rfl ?_
           refine wl_nil ?_
           have hE := (Option.some.inj hm).symm
           refine we_pick [] rfl (H' := []) rfl ?_
           refine we_join false hE [0] rfl (fun _ _ hφ => ask [] rfl hφ) rfl
         ·
          replace hm := iteF hm hs82
          refine wl_off rfl rfl rfl (freshS_eq rfl) ?_
          refine wl_off rfl rfl rfl (freshS_eq rfl) ?_
          refine wl_pure rfl rfl rfl (freshS_eq rfl) rfl ?_
          refine wl_pure rfl rfl rfl (freshS_eq rfl) rfl ?_
          refine wl_off rfl rfl rfl (freshS_eq rfl) ?_
          refine wl_off rfl rfl rfl (freshS_eq rfl) ?_
          refine wl_pure rfl rfl rfl (freshS_eq rfl) rfl ?_
          refine wl_pure rfl rfl rfl (freshS_eq rfl) rfl ?_
          refine wl_off rfl rfl rfl (freshS_eq rfl) ?_
          refine wl_off rfl rfl rfl (freshS_eq rfl) ?_
          refine wl_off rfl rfl rfl (freshS_eq rfl) ?_
          refine wl_pure rfl rfl rfl (freshS_eq rfl) rfl ?_
          refine wl_pure rfl rfl rfl (freshS_eq rfl) rfl ?_
          refine wl_off rfl rfl rfl (freshS_eq rfl) ?_
          refine wl_off rfl rfl rfl (freshS_eq rfl) ?_
          refine wl_off rfl rfl rfl (freshS_eq rfl) ?_
          refine wl_pure rfl rfl rfl (freshS_eq rfl) rfl ?_
          refine wl_pure rfl rfl rfl (freshS_eq rfl) rfl ?_
          refine wl_off rfl rfl rfl (freshS_eq rfl) ?_
          refine wl_off rfl rfl rfl (freshS_eq rfl) ?_
          refine wl_off rfl rfl rfl (freshS_eq rfl) ?_
          refine wl_off rfl rfl rfl (freshS_eq rfl) ?_
          refine wl_off rfl rfl rfl (freshS_eq rfl) ?_
          refine wl_pure rfl rfl rfl (freshS_eq rfl) rfl ?_
          refine wl_pure rfl rfl rfl (freshS_eq rfl) rfl ?_
          refine wl_off rfl rfl rfl (freshS_eq rfl) ?_
          refine wl_off rfl rfl rfl (freshS_eq rfl) ?_
          refine wl_off rfl rfl rfl (freshS_eq rfl) ?_
          refine wl_off rfl rfl rfl (freshS_eq rfl) ?_
          refine wl_off rfl rfl rfl (freshS_eq rfl) ?_
          refine wl_pure rfl rfl rfl (freshS_eq rfl) rfl ?_
          refine wl_pure rfl rfl rfl (freshS_eq rfl) rfl ?_
          refine wl_off rfl rfl rfl (freshS_eq rfl) ?_
          refine wl_off rfl rfl rfl (freshS_eq rfl) ?_
          refine wl_off rfl rfl rfl (freshS_eq rfl) ?_
          refine wl_pure rfl rfl rfl (freshS_eq rfl) rfl ?_
          refine wl_pure rfl rfl rfl (freshS_eq rfl) rfl ?_
          refine wl_off rfl rfl rfl (freshS_eq rfl) ?_
          refine wl_off rfl rfl rfl (freshS_eq rfl) ?_
          refine wl_off rfl rfl rfl (freshS_eq rfl) ?_
          refine wl_pure rfl rfl rfl (freshS_eq rfl) rfl ?_
          refine wl_pure rfl rfl rfl (freshS_eq rfl) rfl ?_
          refine wl_nil ?_
          have hE := (Option.some.inj hm).symm
          refine we_pick [] rfl (H' := []) rfl ?_
          refine we_join false hE [0] rfl (fun _ _ hφ => ask [] rfl hφ) rfl
        ·
         replace hm := iteF hm hs78
         refine wl_off rfl rfl rfl (freshS_eq rfl) ?_
         refine wl_off rfl rfl rfl (freshS_eq rfl) ?_
         refine wl_pure rfl rfl rfl (freshS_eq rfl) rfl ?_
         refine wl_pure rfl rfl rfl (freshS_eq rfl) rfl ?_
         refine wl_off rfl rfl rfl (freshS_eq rfl) ?_
         refine wl_off rfl rfl rfl (freshS_eq rfl) ?_
         refine wl_pure rfl rfl rfl (freshS_eq rfl) rfl ?_
         refine wl_pure rfl rfl rfl (freshS_eq rfl) rfl ?_
         refine wl_off rfl rfl rfl (freshS_eq rfl) ?_
         refine wl_off rfl rfl rfl (freshS_eq rfl) ?_
         refine wl_pure rfl rfl rfl (freshS_eq rfl) rfl ?_
         refine wl_pure rfl rfl rfl (freshS_eq rfl) rfl ?_
         refine wl_off rfl rfl rfl (freshS_eq rfl) ?_
         refine wl_off rfl rfl rfl (freshS_eq rfl) ?_
         refine wl_off rfl rfl rfl (freshS_eq rfl) ?_
         refine wl_pure rfl rfl rfl (freshS_eq rfl) rfl ?_
         refine wl_pure rfl rfl rfl (freshS_eq rfl) rfl ?_
         refine wl_off rfl rfl rfl (freshS_eq rfl) ?_
         refine wl_off rfl rfl rfl (freshS_eq rfl) ?_
         refine wl_off rfl rfl rfl (freshS_eq rfl) ?_
         refine wl_pure rfl rfl rfl (freshS_eq rfl) rfl ?_
         refine wl_pure rfl rfl rfl (freshS_eq rfl) rfl ?_
         refine wl_off rfl rfl rfl (freshS_eq rfl) ?_
         refine wl_off rfl rfl rfl (freshS_eq rfl) ?_
         refine wl_off rfl rfl rfl (freshS_eq rfl) ?_
         refine wl_off rfl rfl rfl (freshS_eq rfl) ?_
         refine wl_off rfl rfl rfl (freshS_eq rfl) ?_
         refine wl_pure rfl rfl rfl (freshS_eq rfl) rfl ?_
         refine wl_pure rfl rfl rfl (freshS_eq rfl) rfl ?_
         refine wl_off rfl rfl rfl (freshS_eq rfl) ?_
         refine wl_off rfl rfl rfl (freshS_eq rfl) ?_
         refine wl_off rfl rfl rfl (freshS_eq rfl) ?_
         refine wl_off rfl rfl rfl (freshS_eq rfl) ?_
         refine wl_off rfl rfl rfl (freshS_eq rfl) ?_
         refine wl_pure rfl rfl rfl (freshS_eq rfl) rfl ?_
         refine wl_pure rfl rfl rfl (freshS_eq rfl) rfl ?_
         refine wl_off rfl rfl rfl (freshS_eq rfl) ?_
         refine wl_off rfl rfl rfl (freshS_eq rfl) ?_
         refine wl_off rfl rfl rfl (freshS_eq rfl) ?_
         refine wl_pure rfl rfl rfl (freshS_eq rfl) rfl ?_
         refine wl_pure rfl rfl rfl (freshS_eq rfl) rfl ?_
         refine wl_off rfl rfl rfl (freshS_eq rfl) ?_
         refine wl_off rfl rfl rfl (freshS_eq rfl) ?_
         refine wl_off rfl rfl rfl (freshS_eq rfl) ?_
         refine wl_pure rfl rfl rfl (freshS_eq rfl) rfl ?_
         refine wl_pure rfl rfl rfl (freshS_eq rfl) rfl ?_
         refine wl_nil ?_
         have hE := (Option.some.inj hm).symm
         refine we_pick [] rfl (H' := []) rfl ?_
         refine we_join false hE [0] rfl (fun _ _ hφ => ask [] rfl hφ) rfl
       ·
        replace hm := iteF hm hs74
        refine wl_off rfl rfl rfl (freshS_eq rfl) ?_
        refine wl_off rfl rfl rfl (freshS_eq rfl) ?_
        refine wl_pure rfl rfl rfl (freshS_eq rfl) rfl ?_
        refine wl_pure rfl rfl rfl (freshS_eq rfl) rfl ?_
        refine wl_off rfl rfl rfl (freshS_eq rfl) ?_
        refine wl_off rfl rfl rfl (freshS_eq rfl) ?_
        refine wl_pure rfl rfl rfl (freshS_eq rfl) rfl ?_
        refine wl_pure rfl rfl rfl (freshS_eq rfl) rfl ?_
        refine wl_off rfl rfl rfl (freshS_eq rfl) ?_
        refine wl_off rfl rfl rfl (freshS_eq rfl) ?_
        refine wl_pure rfl rfl rfl (freshS_eq rfl) rfl ?_
        refine wl_pure rfl rfl rfl (freshS_eq rfl) rfl ?_
        refine wl_off rfl rfl rfl (freshS_eq rfl) ?_
        refine wl_off rfl rfl rfl (freshS_eq rfl) ?_
        refine wl_pure rfl rfl rfl (freshS_eq rfl) rfl ?_
        refine wl_pure rfl rfl rfl (freshS_eq rfl) rfl ?_
        refine wl_off rfl rfl rfl (freshS_eq rfl) ?_
        refine wl_off rfl rfl rfl (freshS_eq rfl) ?_
        refine wl_off rfl rfl rfl (freshS_eq rfl) ?_
        refine wl_pure rfl rfl rfl (freshS_eq rfl) rfl ?_
        refine wl_pure rfl rfl rfl (freshS_eq rfl) rfl ?_
        refine wl_off rfl rfl rfl (freshS_eq rfl) ?_
        refine wl_off rfl rfl rfl (freshS_eq rfl) ?_
        refine wl_off rfl rfl rfl (freshS_eq rfl) ?_
        refine wl_pure rfl rfl rfl (freshS_eq rfl) rfl ?_
        refine wl_pure rfl rfl rfl (freshS_eq rfl) rfl ?_
        refine wl_off rfl rfl rfl (freshS_eq rfl) ?_
        refine wl_off rfl rfl rfl (freshS_eq rfl) ?_
        refine wl_off rfl rfl rfl (freshS_eq rfl) ?_
        refine wl_off rfl rfl rfl (freshS_eq rfl) ?_
        refine wl_off rfl rfl rfl (freshS_eq rfl) ?_
        refine wl_pure rfl rfl rfl (freshS_eq rfl) rfl ?_
        refine wl_pure rfl rfl rfl (freshS_eq rfl) rfl ?_
        refine wl_off rfl rfl rfl (freshS_eq rfl) ?_
        refine wl_off rfl rfl rfl (freshS_eq rfl) ?_
        refine wl_off rfl rfl rfl (freshS_eq rfl) ?_
        refine wl_off rfl rfl rfl (freshS_eq rfl) ?_
        refine wl_off rfl rfl rfl (freshS_eq rfl) ?_
        refine wl_pure rfl rfl rfl (freshS_eq rfl) rfl ?_
        refine wl_pure rfl rfl rfl (freshS_eq rfl) rfl ?_
        refine wl_off rfl rfl rfl (freshS_eq rfl) ?_
        refine wl_off rfl rfl rfl (freshS_eq rfl) ?_
        refine wl_off rfl rfl rfl (freshS_eq rfl) ?_
        refine wl_pure rfl rfl rfl (freshS_eq rfl) rfl ?_
        refine wl_pure rfl rfl rfl (freshS_eq rfl) rfl ?_
        refine wl_off rfl rfl rfl (freshS_eq rfl) ?_
        refine wl_off rfl rfl rfl (freshS_eq rfl) ?_
        refine wl_off rfl rfl rfl (freshS_eq rfl) ?_
        refine wl_pure rfl rfl rfl (freshS_eq rfl) rfl ?_
        refine wl_pure rfl rfl rfl (freshS_eq rfl) rfl ?_
        refine wl_nil ?_
        have hE := (Option.some.inj hm).symm
        refine we_pick [] rfl (H' := []) rfl ?_
        refine we_join false hE [0] rfl (fun _ _ hφ => ask [] rfl hφ) rfl
      ·
       replace hm := iteF hm hs70
       refine wl_off rfl rfl rfl (freshS_eq rfl) ?_
       refine wl_off rfl rfl rfl (freshS_eq rfl) ?_
       refine wl_pure rfl rfl rfl (freshS_eq rfl) rfl ?_
       refine wl_pure rfl rfl rfl (freshS_eq rfl) rfl ?_
       refine wl_off rfl rfl rfl (freshS_eq rfl) ?_
       refine wl_off rfl rfl rfl (freshS_eq rfl) ?_
       refine wl_pure rfl rfl rfl (freshS_eq rfl) rfl ?_
       refine wl_pure rfl rfl rfl (freshS_eq rfl) rfl ?_
       refine wl_off rfl rfl rfl (freshS_eq rfl) ?_
       refine wl_off rfl rfl rfl (freshS_eq rfl) ?_
       refine wl_pure rfl rfl rfl (freshS_eq rfl) rfl ?_
       refine wl_pure rfl rfl rfl (freshS_eq rfl) rfl ?_
       refine wl_off rfl rfl rfl (freshS_eq rfl) ?_
       refine wl_off rfl rfl rfl (freshS_eq rfl) ?_
       refine wl_pure rfl rfl rfl (freshS_eq rfl) rfl ?_
       refine wl_pure rfl rfl rfl (freshS_eq rfl) rfl ?_
       refine wl_off rfl rfl rfl (freshS_eq rfl) ?_
       refine wl_off rfl rfl rfl (freshS_eq rfl) ?_
       refine wl_pure rfl rfl rfl (freshS_eq rfl) rfl ?_
       refine wl_pure rfl rfl rfl (freshS_eq rfl) rfl ?_
       refine wl_off rfl rfl rfl (freshS_eq rfl) ?_
       refine wl_off rfl rfl rfl (freshS_eq rfl) ?_
       refine wl_off rfl rfl rfl (freshS_eq rfl) ?_
       refine wl_pure rfl rfl rfl (freshS_eq rfl) rfl ?_
       refine wl_pure rfl rfl rfl (freshS_eq rfl) rfl ?_
       refine wl_off rfl rfl rfl (freshS_eq rfl) ?_
       refine wl_off rfl rfl rfl (freshS_eq rfl) ?_
       refine wl_off rfl rfl rfl (freshS_eq rfl) ?_
       refine wl_pure rfl rfl rfl (freshS_eq rfl) rfl ?_
       refine wl_pure rfl rfl rfl (freshS_eq rfl) rfl ?_
       refine wl_off rfl rfl rfl (freshS_eq rfl) ?_
       refine wl_off rfl rfl rfl (freshS_eq rfl) ?_
       refine wl_off rfl rfl rfl (freshS_eq rfl) ?_
       refine wl_off rfl rfl rfl (freshS_eq rfl) ?_
       refine wl_off rfl rfl rfl (freshS_eq rfl) ?_
       refine wl_pure rfl rfl rfl (freshS_eq rfl) rfl ?_
       refine wl_pure rfl rfl rfl (freshS_eq rfl) rfl ?_
       refine wl_off rfl rfl rfl (freshS_eq rfl) ?_
       refine wl_off rfl rfl rfl (freshS_eq rfl) ?_
       refine wl_off rfl rfl rfl (freshS_eq rfl) ?_
       refine wl_off rfl rfl rfl (freshS_eq rfl) ?_
       refine wl_off rfl rfl rfl (freshS_eq rfl) ?_
       refine wl_pure rfl rfl rfl (freshS_eq rfl) rfl ?_
       refine wl_pure rfl rfl rfl (freshS_eq rfl) rfl ?_
       refine wl_off rfl rfl rfl (freshS_eq rfl) ?_
       refine wl_off rfl rfl rfl (freshS_eq rfl) ?_
       refine wl_off rfl rfl rfl (freshS_eq rfl) ?_
       refine wl_pure rfl rfl rfl (freshS_eq rfl) rfl ?_
       refine wl_pure rfl rfl rfl (freshS_eq rfl) rfl ?_
       refine wl_off rfl rfl rfl (freshS_eq rfl) ?_
       refine wl_off rfl rfl rfl (freshS_eq rfl) ?_
       refine wl_off rfl rfl rfl (freshS_eq rfl) ?_
       refine wl_pure rfl rfl rfl (freshS_eq rfl) rfl ?_
       refine wl_pure rfl rfl rfl (freshS_eq rfl) rfl ?_
       refine wl_nil ?_
       have hE := (Option.some.inj hm).symm
       refine we_pick [] rfl (H' := []) rfl ?_
       refine we_join false hE [0] rfl (fun _ _ hφ => ask [] rfl hφ) rfl
     ·
      replace hm := iteF hm hs66
      refine wl_off rfl rfl rfl (freshS_eq rfl) ?_
      refine wl_off rfl rfl rfl (freshS_eq rfl) ?_
      refine wl_pure rfl rfl rfl (freshS_eq rfl) rfl ?_
      refine wl_pure rfl rfl rfl (freshS_eq rfl) rfl ?_
      refine wl_off rfl rfl rfl (freshS_eq rfl) ?_
      refine wl_off rfl rfl rfl (freshS_eq rfl) ?_
      refine wl_pure rfl rfl rfl (freshS_eq rfl) rfl ?_
      refine wl_pure rfl rfl rfl (freshS_eq rfl) rfl ?_
      refine wl_off rfl rfl rfl (freshS_eq rfl) ?_
      refine wl_off rfl rfl rfl (freshS_eq rfl) ?_
      refine wl_pure rfl rfl rfl (freshS_eq rfl) rfl ?_
      refine wl_pure rfl rfl rfl (freshS_eq rfl) rfl ?_
      refine wl_off rfl rfl rfl (freshS_eq rfl) ?_
      refine wl_off rfl rfl rfl (freshS_eq rfl) ?_
      refine wl_pure rfl rfl rfl (freshS_eq rfl) rfl ?_
      refine wl_pure rfl rfl rfl (freshS_eq rfl) rfl ?_
      refine wl_off rfl rfl rfl (freshS_eq rfl) ?_
      refine wl_off rfl rfl rfl (freshS_eq rfl) ?_
      refine wl_pure rfl rfl rfl (freshS_eq rfl) rfl ?_
      refine wl_pure rfl rfl rfl (freshS_eq rfl) rfl ?_
      refine wl_off rfl rfl rfl (freshS_eq rfl) ?_
      refine wl_off rfl rfl rfl (freshS_eq rfl) ?_
      refine wl_pure rfl rfl rfl (freshS_eq rfl) rfl ?_
      refine wl_pure rfl rfl rfl (freshS_eq rfl) rfl ?_
      refine wl_off rfl rfl rfl (freshS_eq rfl) ?_
      refine wl_off rfl rfl rfl (freshS_eq rfl) ?_
      refine wl_off rfl rfl rfl (freshS_eq rfl) ?_
      refine wl_pure rfl rfl rfl (freshS_eq rfl) rfl ?_
      refine wl_pure rfl rfl rfl (freshS_eq rfl) rfl ?_
      refine wl_off rfl rfl rfl (freshS_eq rfl) ?_
      refine wl_off rfl rfl rfl (freshS_eq rfl) ?_
      refine wl_off rfl rfl rfl (freshS_eq rfl) ?_
      refine wl_pure rfl rfl rfl (freshS_eq rfl) rfl ?_
      refine wl_pure rfl rfl rfl (freshS_eq rfl) rfl ?_
      refine wl_off rfl rfl rfl (freshS_eq rfl) ?_
      refine wl_off rfl rfl rfl (freshS_eq rfl) ?_
      refine wl_off rfl rfl rfl (freshS_eq rfl) ?_
      refine wl_off rfl rfl rfl (freshS_eq rfl) ?_
      refine wl_off rfl rfl rfl (freshS_eq rfl) ?_
      refine wl_pure rfl rfl rfl (freshS_eq rfl) rfl ?_
      refine wl_pure rfl rfl rfl (freshS_eq rfl) rfl ?_
      refine wl_off rfl rfl rfl (freshS_eq rfl) ?_
      refine wl_off rfl rfl rfl (freshS_eq rfl) ?_
      refine wl_off rfl rfl rfl (freshS_eq rfl) ?_
      refine wl_off rfl rfl rfl (freshS_eq rfl) ?_
      refine wl_off rfl rfl rfl (freshS_eq rfl) ?_
      refine wl_pure rfl rfl rfl (freshS_eq rfl) rfl ?_
      refine wl_pure rfl rfl rfl (freshS_eq rfl) rfl ?_
      refine wl_off rfl rfl rfl (freshS_eq rfl) ?_
      refine wl_off rfl rfl rfl (freshS_eq rfl) ?_
      refine wl_off rfl rfl rfl (freshS_eq rfl) ?_
      refine wl_pure rfl rfl rfl (freshS_eq rfl) rfl ?_
      refine wl_pure rfl rfl rfl (freshS_eq rfl) rfl ?_
      refine wl_off rfl rfl rfl (freshS_eq rfl) ?_
      refine wl_off rfl rfl rfl (freshS_eq rfl) ?_
      refine wl_off rfl rfl rfl (freshS_eq rfl) ?_
      refine wl_pure rfl rfl rfl (freshS_eq rfl) rfl ?_
      refine wl_pure rfl rfl rfl (freshS_eq rfl) rfl ?_
      refine wl_nil ?_
      have hE := (Option.some.inj hm).symm
      refine we_pick [] rfl (H' := []) rfl ?_
      refine we_join false hE [0] rfl (fun _ _ hφ => ask [] rfl hφ) rfl
    ·
     replace hm := iteF hm hs62
     refine wl_off rfl rfl rfl (freshS_eq rfl) ?_
     refine wl_off rfl rfl rfl (freshS_eq rfl) ?_
     refine wl_pure rfl rfl rfl (freshS_eq rfl) rfl ?_
     refine wl_pure rfl rfl rfl (freshS_eq rfl) rfl ?_
     refine wl_off rfl rfl rfl (freshS_eq rfl) ?_
     refine wl_off rfl rfl rfl (freshS_eq rfl) ?_
     refine wl_pure rfl rfl rfl (freshS_eq rfl) rfl ?_
     refine wl_pure rfl rfl rfl (freshS_eq rfl) rfl ?_
     refine wl_off rfl rfl rfl (freshS_eq rfl) ?_
     refine wl_off rfl rfl rfl (freshS_eq rfl) ?_
     refine wl_pure rfl rfl rfl (freshS_eq rfl) rfl ?_
     refine wl_pure rfl rfl rfl (freshS_eq rfl) rfl ?_
     refine wl_off rfl rfl rfl (freshS_eq rfl) ?_
     refine wl_off rfl rfl rfl (freshS_eq rfl) ?_
     refine wl_pure rfl rfl rfl (freshS_eq rfl) rfl ?_
     refine wl_pure rfl rfl rfl (freshS_eq rfl) rfl ?_
     refine wl_off rfl rfl rfl (freshS_eq rfl) ?_
     refine wl_off rfl rfl rfl (freshS_eq rfl) ?_
     refine wl_pure rfl rfl rfl (freshS_eq rfl) rfl ?_
     refine wl_pure rfl rfl rfl (freshS_eq rfl) rfl ?_
     refine wl_off rfl rfl rfl (freshS_eq rfl) ?_
     refine wl_off rfl rfl rfl (freshS_eq rfl) ?_
     refine wl_pure rfl rfl rfl (freshS_eq rfl) rfl ?_
     refine wl_pure rfl rfl rfl (freshS_eq rfl) rfl ?_
     refine wl_off rfl rfl rfl (freshS_eq rfl) ?_
     refine wl_off rfl rfl rfl (freshS_eq rfl) ?_
     refine wl_pure rfl rfl rfl (freshS_eq rfl) rfl ?_
     refine wl_pure rfl rfl rfl (freshS_eq rfl) rfl ?_
     refine wl_off rfl rfl rfl (freshS_eq rfl) ?_
     refine wl_off rfl rfl rfl (freshS_eq rfl) ?_
     refine wl_off rfl rfl rfl (freshS_eq rfl) ?_
     refine wl_pure rfl rfl rfl (freshS_eq rfl) rfl ?_
     refine wl_pure rfl rfl rfl (freshS_eq rfl) rfl ?_
     refine wl_off rfl rfl rfl (freshS_eq rfl) ?_
     refine wl_off rfl rfl rfl (freshS_eq rfl) ?_
     refine wl_off rfl rfl rfl (freshS_eq rfl) ?_
     refine wl_pure rfl rfl rfl (freshS_eq rfl) rfl ?_
     refine wl_pure rfl rfl rfl (freshS_eq rfl) rfl ?_
     refine wl_off rfl rfl rfl (freshS_eq rfl) ?_
     refine wl_off rfl rfl rfl (freshS_eq rfl) ?_
     refine wl_off rfl rfl rfl (freshS_eq rfl) ?_
     refine wl_off rfl rfl rfl (freshS_eq rfl) ?_
     refine wl_off rfl rfl rfl (freshS_eq rfl) ?_
     refine wl_pure rfl rfl rfl (freshS_eq rfl) rfl ?_
     refine wl_pure rfl rfl rfl (freshS_eq rfl) rfl ?_
     refine wl_off rfl rfl rfl (freshS_eq rfl) ?_
     refine wl_off rfl rfl rfl (freshS_eq rfl) ?_
     refine wl_off rfl rfl rfl (freshS_eq rfl) ?_
     refine wl_off rfl rfl rfl (freshS_eq rfl) ?_
     refine wl_off rfl rfl rfl (freshS_eq rfl) ?_
     refine wl_pure rfl rfl rfl (freshS_eq rfl) rfl ?_
     refine wl_pure rfl rfl rfl (freshS_eq rfl) rfl ?_
     refine wl_off rfl rfl rfl (freshS_eq rfl) ?_
     refine wl_off rfl rfl rfl (freshS_eq rfl) ?_
     refine wl_off rfl rfl rfl (freshS_eq rfl) ?_
     refine wl_pure rfl rfl rfl (freshS_eq rfl) rfl ?_
     refine wl_pure rfl rfl rfl (freshS_eq rfl) rfl ?_
     refine wl_off rfl rfl rfl (freshS_eq rfl) ?_
     refine wl_off rfl rfl rfl (freshS_eq rfl) ?_
     refine wl_off rfl rfl rfl (freshS_eq rfl) ?_
     refine wl_pure rfl rfl rfl (freshS_eq rfl) rfl ?_
     refine wl_pure rfl rfl rfl (freshS_eq rfl) rfl ?_
     refine wl_nil ?_
     have hE := (Option.some.inj hm).symm
     refine we_pick [] rfl (H' := []) rfl ?_
     refine we_join false hE [0] rfl (fun _ _ hφ => ask [] rfl hφ) rfl
   ·
    replace hm := iteF hm hs58
    refine wl_off rfl rfl rfl (freshS_eq rfl) ?_
    refine wl_off rfl rfl rfl (freshS_eq rfl) ?_
    refine wl_pure rfl rfl rfl (freshS_eq rfl) rfl ?_
    refine wl_pure rfl rfl rfl (freshS_eq rfl) rfl ?_
    refine wl_off rfl rfl rfl (freshS_eq rfl) ?_
    refine wl_off rfl rfl rfl (freshS_eq rfl) ?_
    refine wl_pure rfl rfl rfl (freshS_eq rfl) rfl ?_
    refine wl_pure rfl rfl rfl (freshS_eq rfl) rfl ?_
    refine wl_off rfl rfl rfl (freshS_eq rfl) ?_
    refine wl_off rfl rfl rfl (freshS_eq rfl) ?_
    refine wl_pure rfl rfl rfl (freshS_eq rfl) rfl ?_
    refine wl_pure rfl rfl rfl (freshS_eq rfl) rfl ?_
    refine wl_off rfl rfl rfl (freshS_eq rfl) ?_
    refine wl_off rfl rfl rfl (freshS_eq rfl) ?_
    refine wl_pure rfl rfl rfl (freshS_eq rfl) rfl ?_
    refine wl_pure rfl rfl rfl (freshS_eq rfl) rfl ?_
    refine wl_off rfl rfl rfl (freshS_eq rfl) ?_
    refine wl_off rfl rfl rfl (freshS_eq rfl) ?_
    refine wl_pure rfl rfl rfl (freshS_eq rfl) rfl ?_
    refine wl_pure rfl rfl rfl (freshS_eq rfl) rfl ?_
    refine wl_off rfl rfl rfl (freshS_eq rfl) ?_
    refine wl_off rfl rfl rfl (freshS_eq rfl) ?_
    refine wl_pure rfl rfl rfl (freshS_eq rfl) rfl ?_
    refine wl_pure rfl rfl rfl (freshS_eq rfl) rfl ?_
    refine wl_off rfl rfl rfl (freshS_eq rfl) ?_
    refine wl_off rfl rfl rfl (freshS_eq rfl) ?_
    refine wl_pure rfl rfl rfl (freshS_eq rfl) rfl ?_
    refine wl_pure rfl rfl rfl (freshS_eq rfl) rfl ?_
    refine wl_off rfl rfl rfl (freshS_eq rfl) ?_
    refine wl_off rfl rfl rfl (freshS_eq rfl) ?_
    refine wl_pure rfl rfl rfl (freshS_eq rfl) rfl ?_
    refine wl_pure rfl rfl rfl (freshS_eq rfl) rfl ?_
    refine wl_off rfl rfl rfl (freshS_eq rfl) ?_
    refine wl_off rfl rfl rfl (freshS_eq rfl) ?_
    refine wl_off rfl rfl rfl (freshS_eq rfl) ?_
    refine wl_pure rfl rfl rfl (freshS_eq rfl) rfl ?_
    refine wl_pure rfl rfl rfl (freshS_eq rfl) rfl ?_
    refine wl_off rfl rfl rfl (freshS_eq rfl) ?_
    refine wl_off rfl rfl rfl (freshS_eq rfl) ?_
    refine wl_off rfl rfl rfl (freshS_eq rfl) ?_
    refine wl_pure rfl rfl rfl (freshS_eq rfl) rfl ?_
    refine wl_pure rfl rfl rfl (freshS_eq rfl) rfl ?_
    refine wl_off rfl rfl rfl (freshS_eq rfl) ?_
    refine wl_off rfl rfl rfl (freshS_eq rfl) ?_
    refine wl_off rfl rfl rfl (freshS_eq rfl) ?_
    refine wl_off rfl rfl rfl (freshS_eq rfl) ?_
    refine wl_off rfl rfl rfl (freshS_eq rfl) ?_
    refine wl_pure rfl rfl rfl (freshS_eq rfl) rfl ?_
    refine wl_pure rfl rfl rfl (freshS_eq rfl) rfl ?_
    refine wl_off rfl rfl rfl (freshS_eq rfl) ?_
    refine wl_off rfl rfl rfl (freshS_eq rfl) ?_
    refine wl_off rfl rfl rfl (freshS_eq rfl) ?_
    refine wl_off rfl rfl rfl (freshS_eq rfl) ?_
    refine wl_off rfl rfl rfl (freshS_eq rfl) ?_
    refine wl_pure rfl rfl rfl (freshS_eq rfl) rfl ?_
    refine wl_pure rfl rfl rfl (freshS_eq rfl) rfl ?_
    refine wl_off rfl rfl rfl (freshS_eq rfl) ?_
    refine wl_off rfl rfl rfl (freshS_eq rfl) ?_
    refine wl_off rfl rfl rfl (freshS_eq rfl) ?_
    refine wl_pure rfl rfl rfl (freshS_eq rfl) rfl ?_
    refine wl_pure rfl rfl rfl (freshS_eq rfl) rfl ?_
    refine wl_off rfl rfl rfl (freshS_eq rfl) ?_
    refine wl_off rfl rfl rfl (freshS_eq rfl) ?_
    refine wl_off rfl rfl rfl (freshS_eq rfl) ?_
    refine wl_pure rfl rfl rfl (freshS_eq rfl) rfl ?_
    refine wl_pure rfl rfl rfl (freshS_eq rfl) rfl ?_
    refine wl_nil ?_
    have hE := (Option.some.inj hm).symm
    refine we_pick [] rfl (H' := []) rfl ?_
    refine we_join false hE [0] rfl (fun _ _ hφ => ask [] rfl hφ) rfl
  ·
   replace hm := iteF hm hs54
   refine wl_off rfl rfl rfl (freshS_eq rfl) ?_
   refine wl_off rfl rfl rfl (freshS_eq rfl) ?_
   refine wl_pure rfl rfl rfl (freshS_eq rfl) rfl ?_
   refine wl_pure rfl rfl rfl (freshS_eq rfl) rfl ?_
   refine wl_off rfl rfl rfl (freshS_eq rfl) ?_
   refine wl_off rfl rfl rfl (freshS_eq rfl) ?_
   refine wl_pure rfl rfl rfl (freshS_eq rfl) rfl ?_
   refine wl_pure rfl rfl rfl (freshS_eq rfl) rfl ?_
   refine wl_off rfl rfl rfl (freshS_eq rfl) ?_
   refine wl_off rfl rfl rfl (freshS_eq rfl) ?_
   refine wl_pure rfl rfl rfl (freshS_eq rfl) rfl ?_
   refine wl_pure rfl rfl rfl (freshS_eq rfl) rfl ?_
   refine wl_off rfl rfl rfl (freshS_eq rfl) ?_
   refine wl_off rfl rfl rfl (freshS_eq rfl) ?_
   refine wl_pure rfl rfl rfl (freshS_eq rfl) rfl ?_
   refine wl_pure rfl rfl rfl (freshS_eq rfl) rfl ?_
   refine wl_off rfl rfl rfl (freshS_eq rfl) ?_
   refine wl_off rfl rfl rfl (freshS_eq rfl) ?_
   refine wl_pure rfl rfl rfl (freshS_eq rfl) rfl ?_
   refine wl_pure rfl rfl rfl (freshS_eq rfl) rfl ?_
   refine wl_off rfl rfl rfl (freshS_eq rfl) ?_
   refine wl_off rfl rfl rfl (freshS_eq rfl) ?_
   refine wl_pure rfl rfl rfl (freshS_eq rfl) rfl ?_
   refine wl_pure rfl rfl rfl (freshS_eq rfl) rfl ?_
   refine wl_off rfl rfl rfl (freshS_eq rfl) ?_
   refine wl_off rfl rfl rfl (freshS_eq rfl) ?_
   refine wl_pure rfl rfl rfl (freshS_eq rfl) rfl ?_
   refine wl_pure rfl rfl rfl (freshS_eq rfl) rfl ?_
   refine wl_off rfl rfl rfl (freshS_eq rfl) ?_
   refine wl_off rfl rfl rfl (freshS_eq rfl) ?_
   refine wl_pure rfl rfl rfl (freshS_eq rfl) rfl ?_
   refine wl_pure rfl rfl rfl (freshS_eq rfl) rfl ?_
   refine wl_off rfl rfl rfl (freshS_eq rfl) ?_
   refine wl_off rfl rfl rfl (freshS_eq rfl) ?_
   refine wl_pure rfl rfl rfl (freshS_eq rfl) rfl ?_
   refine wl_pure rfl rfl rfl (freshS_eq rfl) rfl ?_
   refine wl_off rfl rfl rfl (freshS_eq rfl) ?_
   refine wl_off rfl rfl rfl (freshS_eq rfl) ?_
   refine wl_off rfl rfl rfl (freshS_eq rfl) ?_
   refine wl_pure rfl rfl rfl (freshS_eq rfl) rfl ?_
   refine wl_pure rfl rfl rfl (freshS_eq rfl) rfl ?_
   refine wl_off rfl rfl rfl (freshS_eq rfl) ?_
   refine wl_off rfl rfl rfl (freshS_eq rfl) ?_
   refine wl_off rfl rfl rfl (freshS_eq rfl) ?_
   refine wl_pure rfl rfl rfl (freshS_eq rfl) rfl ?_
   refine wl_pure rfl rfl rfl (freshS_eq rfl) rfl ?_
   refine wl_off rfl rfl rfl (freshS_eq rfl) ?_
   refine wl_off rfl rfl rfl (freshS_eq rfl) ?_
   refine wl_off rfl rfl rfl (freshS_eq rfl) ?_
   refine wl_off rfl rfl rfl (freshS_eq rfl) ?_
   refine wl_off rfl rfl rfl (freshS_eq rfl) ?_
   refine wl_pure rfl rfl rfl (freshS_eq rfl) rfl ?_
   refine wl_pure rfl rfl rfl (freshS_eq rfl) rfl ?_
   refine wl_off rfl rfl rfl (freshS_eq rfl) ?_
   refine wl_off rfl rfl rfl (freshS_eq rfl) ?_
   refine wl_off rfl rfl rfl (freshS_eq rfl) ?_
   refine wl_off rfl rfl rfl (freshS_eq rfl) ?_
   refine wl_off rfl rfl rfl (freshS_eq rfl) ?_
   refine wl_pure rfl rfl rfl (freshS_eq rfl) rfl ?_
   refine wl_pure rfl rfl rfl (freshS_eq rfl) rfl ?_
   refine wl_off rfl rfl rfl (freshS_eq rfl) ?_
   refine wl_off rfl rfl rfl (freshS_eq rfl) ?_
   refine wl_off rfl rfl rfl (freshS_eq rfl) ?_
   refine wl_pure rfl rfl rfl (freshS_eq rfl) rfl ?_
   refine wl_pure rfl rfl rfl (freshS_eq rfl) rfl ?_
   refine wl_off rfl rfl rfl (freshS_eq rfl) ?_
   refine wl_off rfl rfl rfl (freshS_eq rfl) ?_
   refine wl_off rfl rfl rfl (freshS_eq rfl) ?_
   refine wl_pure rfl rfl rfl (freshS_eq rfl) rfl ?_
   refine wl_pure rfl rfl rfl (freshS_eq rfl) rfl ?_
   refine wl_nil ?_
   have hE := (Option.some.inj hm).symm
   refine we_pick [] rfl (H' := []) rfl ?_
   refine we_join false hE [0] rfl (fun _ _ hφ => ask [] rfl hφ) rfl
 ·
  rintro j_1_0 hE
  try dsimp only
  have hm := hLj_1
  rw [hE] at hm
  refine wc_ret ?_
  have hE := (Option.some.inj hm).symm
  replace hE := hE.symm
  subst hE
  refine ret_one (Hr := []) [] Tryd.results5 (res_tmp rfl) ⟨rfl, rfl, rfl⟩ (fun _ _ hφ => ask [] rfl hφ) rfl rfl (.inl rfl)
set_option maxRecDepth 100000 in
set_option maxHeartbeats 4000000 in
theorem w_ropewalkkit_Pick_s (N : Nat) (a0 : Int) (a1 : Int) (o0 : Int) (hm : m_ropewalkkit_Pick N a0 a1 = some o0) : Spec Tryd.prog 12 [.int .i64 a0, .int .i64 a1] [] [] (fun v Φr Hr => v = .int .i64 o0 ∧ Φr = [] ∧ Hr = []) := by
 unfold m_ropewalkkit_Pick at hm
 refine spec_of Tryd.func12 rfl Tryd.ntmps12 rfl (S := [_,_]) rfl (fun C => ?_)
 refine wc_seq ?_
 refine wc_region ?_
 refine wl_pure rfl rfl rfl (freshS_eq rfl) rfl ?_
 refine wl_nil ?_
 refine we_then ?_
 refine wc_keep [0, 1] (S' := [_,_]) rfl ?_
 refine wc_seq ?_
 refine wc_seq ?_
 refine wc_region ?_
 refine wl_pure rfl rfl rfl (freshS_eq rfl) rfl ?_
 refine wl_pure rfl rfl rfl (freshS_eq rfl) rfl ?_
 refine wl_nil ?_
 refine we_then ?_
 refine wc_keep [6, 0, 1] (S' := [_,_,_]) rfl ?_
 refine wc_cond rfl (fun hb6 => ?_) (fun hb6 => ?_)
 ·
  replace hm := iteT hm hb6
  refine wc_keep [] (S' := []) rfl ?_
  refine wc_seq ?_
  refine wc_region ?_
  refine wl_pure rfl rfl rfl (freshS_eq rfl) rfl ?_
  refine wl_nil ?_
  refine we_then ?_
  refine wc_ret ?_
  refine we_then_ret ?_
  have hE := (Option.some.inj hm).symm
  replace hE := hE.symm
  subst hE
  refine ret_one (Hr := []) [] Tryd.results12 (res_tmp rfl) ⟨rfl, rfl, rfl⟩ (fun _ _ hφ => ask [] rfl hφ) rfl rfl (.inl rfl)
 ·
  replace hm := iteF hm hb6
  refine wc_keep [0, 1] (S' := [_,_]) rfl ?_
  refine wc_skip ?_
  refine we_then ?_
  refine wc_seq ?_
  refine wc_region ?_
  refine wl_pure rfl rfl rfl (freshS_eq rfl) rfl ?_
  refine wl_pure rfl rfl rfl (freshS_eq rfl) rfl ?_
  obtain ⟨hg9, hm⟩ := gd_some hm
  refine wl_bin rfl rfl rfl (freshS_eq rfl) rfl rfl rfl (run_rem hg9) ?_
  refine wl_pure (S' := [_,_,_,_]) rfl rfl rfl rfl rfl ?_
  refine wl_nil ?_
  refine we_then ?_
  refine wc_keep [0, 1] (S' := [_,_]) rfl ?_
  refine wc_seq ?_
  obtain ⟨bj_1, hm, hLj_1⟩ := bindO_some hm
  refine wc_cut (σ := Int) (fun j_1_0 => bj_1 = j_1_0) (fun j_1_0 => [(0, .int .i64 j_1_0)]) (fun j_1_0 => []) (fun j_1_0 => []) ?_ ?_
  ·
   refine wc_seq ?_
   refine wc_region ?_
   refine wl_pure rfl rfl rfl (freshS_eq rfl) rfl ?_
   refine wl_pure rfl rfl rfl (freshS_eq rfl) rfl ?_
   refine wl_nil ?_
   refine we_then ?_
   refine wc_keep [11, 0, 1] (S' := [_,_,_]) rfl ?_
   refine wc_cond rfl (fun hb11 => ?_) (fun hb11 => ?_)
   ·
    replace hm := iteT hm hb11
    refine wc_keep [0, 1] (S' := [_,_]) rfl ?_
    refine wc_region ?_
    refine wl_pure rfl rfl rfl (freshS_eq rfl) rfl ?_
    refine wl_pure rfl rfl rfl (freshS_eq rfl) rfl ?_
    refine wl_pure rfl rfl rfl (freshS_eq rfl) rfl ?_
    obtain ⟨hg14, hm⟩ := gd_some hm
    refine wl_as (d := 14) (v' := .int .i64 ((Int.tmod a0 a1) + a1)) (S' := [_,_,_,_]) rfl rfl (i64_in hg14) ?_
    refine wl_pure (S' := [_,_,_,_]) rfl rfl rfl rfl rfl ?_
    refine wl_nil ?_
    have hE := (Option.some.inj hm).symm
    refine we_join ((Int.tmod a0 a1) + a1) hE [0] rfl (fun _ _ hφ => ask [] rfl hφ) rfl
   ·
    replace hm := iteF hm hb11
    refine wc_keep [0] (S' := [_]) rfl ?_
    refine wc_skip ?_
    have hE := (Option.some.inj hm).symm
    refine we_join (Int.tmod a0 a1) hE [0] rfl (fun _ _ hφ => ask [] rfl hφ) rfl
  ·
   rintro j_1_0 hE
   try dsimp only
   have hm := hLj_1
   rw [hE] at hm
   refine wc_seq ?_
   refine wc_region ?_
   refine wl_pure rfl rfl rfl (freshS_eq rfl) rfl ?_
   refine wl_pure rfl rfl rfl (freshS_eq rfl) rfl ?_
   refine wl_nil ?_
   refine we_then ?_
   refine wc_keep [4] (S' := [_]) rfl ?_
   refine wc_ret ?_
   have hE := (Option.some.inj hm).symm
   replace hE := hE.symm
   subst hE
   refine ret_one (Hr := []) [] Tryd.results12 (res_tmp rfl) ⟨rfl, rfl, rfl⟩ (fun _ _ hφ => ask [] rfl hφ) rfl rfl (.inl rfl)
set_option maxRecDepth 100000 in
set_option maxHeartbeats 4000000 in
theorem w_ropewalklaw11_do_s (N : Nat) (qg0 : Nat) (qp1 : Option Addr) (qn2 : Nat) (qc3 : Nat) (l0 : List FactD) (a1 : Int) (a2 : Int) (a3 : Int) (a4 : Int) (qp4 : Option Addr) (qc5 : Nat) (l5 : List V) (o0 : Int) (o1 : Nat) (o4 : List FactD) (o6 : Int) (hm : m_ropewalklaw11_do N l0 a1 a2 a3 a4 l5 = some (o0, o1, o4, o6)) : Spec Tryd.prog 7 [.pointer (some ⟨qg0, 0, none⟩), .agg #[.int .i64 a2, .int .i64 a3, .int .i64 a4, .slice qp4 l5.length qc5]] [.sli 3 R_V qp4 qc5 l5] [.blk qg0 [.slice qp1 qn2 qc3, .int .i64 a1] 60, .own 42 3 R_FactD (.slice qp1 qn2 qc3) l0] (fun v Φr Hr => ∃ (o2 : Option Addr) (o3 : Nat) (o5 : Nat), v = .tuple #[.int .i64 o0, .int .i64 ((o1 : Nat) : Int)] ∧ Φr = [] ∧ Hr = [.blk qg0 [.slice o2 o5 o3, .int .i64 o6] 60, .own 42 3 R_FactD (.slice o2 o5 o3) o4]) := by
 unfold m_ropewalklaw11_do at hm
 refine spec_of Tryd.func7 rfl Tryd.ntmps7 rfl (S := [_,_]) rfl (fun C => ?_)
 refine wc_seq ?_
 refine wc_region ?_
 refine wl_box rfl rfl rfl (freshS_eq rfl) rfl rfl rfl (fun g3 => ?_)
 refine wl_pure rfl rfl rfl (freshS_eq rfl) rfl ?_
 refine wl_pure rfl rfl rfl (freshS_eq rfl) rfl ?_
 refine wl_nil ?_
 refine we_then ?_
 refine wc_keep [3, 0] (S' := [_,_]) rfl ?_
 refine wc_seq ?_
 refine wc_seq ?_
 refine wc_region ?_
 refine wl_fieldAddr rfl rfl rfl (freshS_eq rfl) rfl rfl tF_28_0 ?_
 refine wl_loadH 0 0 rfl rfl rfl (freshS_eq rfl) rfl rfl rfl (cs := [_]) rfl tS_3 tA_3 rfl rfl ?_
 obtain ⟨v8, hc8, hm⟩ := bindO_some hm
 refine wl_call [] [0, 1, 2] rfl rfl rfl (freshS_eq rfl) rfl rfl fn_12 rfl (w_ropewalkkit_Pick_s N a2 3 _ hc8) (fun _ _ hφ => ask [] rfl hφ) rfl (H' := [_,_,_]) rfl ?_
 rintro _ _ _ ⟨rfl, rfl, rfl⟩
 refine wl_pure rfl rfl rfl (freshS_eq rfl) rfl ?_
 refine wl_nil ?_
 refine we_then ?_
 refine wc_keep [9, 3, 0] (S' := [_,_,_]) rfl ?_
 refine wc_cond rfl (fun hb9 => ?_) (fun hb9 => ?_)
 ·
  replace hm := iteT hm hb9
  refine wc_keep [3, 0] (S' := [_,_]) rfl ?_
  refine wc_seq ?_
  refine wc_region ?_
  refine wl_pure rfl rfl rfl (freshS_eq rfl) rfl ?_
  refine wl_fieldAddr rfl rfl rfl (freshS_eq rfl) rfl rfl tF_28_1 ?_
  refine wl_loadH 0 1 rfl rfl rfl (freshS_eq rfl) rfl rfl rfl (cs := [_]) rfl tS_3 tA_3 rfl rfl ?_
  obtain ⟨⟨v13_0, v13_1⟩, hc13, hm⟩ := bindO_some hm
  try dsimp only at hm
  refine wl_call [1, 2] [0] rfl rfl rfl (freshS_eq rfl) rfl rfl fn_13 rfl (w_memory_Memory_Drop_s N qg0 qp1 qn2 qc3 l0 a1 a3 _ _ hc13) (fun _ _ hφ => ask [] rfl hφ) rfl (H' := [_]) rfl ?_
  rintro _ _ _ ⟨p13_0, c13_1, c13_2, rfl, rfl, rfl⟩
  refine wl_pure rfl rfl rfl (freshS_eq rfl) rfl ?_
  refine wl_pure rfl rfl rfl (freshS_eq rfl) rfl ?_
  refine wl_nil ?_
  refine we_then ?_
  refine wc_keep [5, 4] (S' := [_,_]) rfl ?_
  refine wc_ret ?_
  refine we_then_ret ?_
  have hE := (Option.some.inj hm).symm
  obtain ⟨hE0, hF1⟩ := Prod.mk.inj hE
  obtain ⟨hE1, hF2⟩ := Prod.mk.inj hF1
  obtain ⟨hE2, hE3⟩ := Prod.mk.inj hF2
  clear hE hF1 hF2
  replace hE0 := hE0.symm
  subst hE0
  replace hE1 := hE1.symm
  subst hE1
  replace hE2 := hE2.symm
  subst hE2
  replace hE3 := hE3.symm
  subst hE3
  refine ret_two (Hr := [_, _]) [0, 1] Tryd.results7 (res_tmp rfl) (res_tmp rfl) ⟨p13_0, c13_1, c13_2, rfl, rfl, rfl⟩ (fun _ _ hφ => ask [] rfl hφ) rfl rfl (.inl rfl)
 ·
  replace hm := iteF hm hb9
  refine wc_keep [3, 0] (S' := [_,_]) rfl ?_
  refine wc_skip ?_
  refine we_then ?_
  refine wc_seq ?_
  refine wc_region ?_
  refine wl_pure rfl rfl rfl (freshS_eq rfl) rfl ?_
  refine wl_fieldAddr rfl rfl rfl (freshS_eq rfl) rfl rfl tF_28_2 ?_
  refine wl_loadH 0 2 rfl rfl rfl (freshS_eq rfl) rfl rfl rfl (cs := [_]) rfl tS_3 tA_3 rfl rfl ?_
  refine wl_fieldAddr rfl rfl rfl (freshS_eq rfl) rfl rfl tF_28_3 ?_
  refine wl_loadH 0 3 rfl rfl rfl (freshS_eq rfl) rfl rfl rfl (cs := [_]) rfl tS_26 tA_26 rfl rfl ?_
  obtain ⟨⟨v19_0, v19_1, v19_2, v19_3⟩, hc19, hm⟩ := bindO_some hm
  try dsimp only at hm
  refine wl_call [1, 2] [0] rfl rfl rfl (freshS_eq rfl) rfl rfl fn_15 rfl (w_memory_Memory_Add_v2_s N qg0 qp1 qn2 qc3 l0 a1 a4 qp4 qc5 l5 _ _ _ _ hc19) (fun _ _ hφ => ask [0] rfl hφ) rfl (H' := [_]) rfl ?_
  rintro _ _ _ ⟨p19_0, c19_1, c19_2, rfl, rfl, rfl⟩
  refine wl_pure rfl rfl rfl (freshS_eq rfl) rfl ?_
  refine wl_pure rfl rfl rfl (freshS_eq rfl) rfl ?_
  refine wl_pure rfl rfl rfl (freshS_eq rfl) rfl ?_
  refine wl_pure rfl rfl rfl (freshS_eq rfl) rfl ?_
  refine wl_nil ?_
  refine we_then ?_
  refine wc_keep [5, 4] (S' := [_,_]) rfl ?_
  refine wc_ret ?_
  have hE := (Option.some.inj hm).symm
  obtain ⟨hE0, hF1⟩ := Prod.mk.inj hE
  obtain ⟨hE1, hF2⟩ := Prod.mk.inj hF1
  obtain ⟨hE2, hE3⟩ := Prod.mk.inj hF2
  clear hE hF1 hF2
  replace hE0 := hE0.symm
  subst hE0
  replace hE1 := hE1.symm
  subst hE1
  replace hE2 := hE2.symm
  subst hE2
  replace hE3 := hE3.symm
  subst hE3
  refine ret_two (Hr := [_, _]) [0, 1] Tryd.results7 (res_tmp rfl) (res_tmp rfl) ⟨p19_0, c19_1, c19_2, rfl, rfl, rfl⟩ (fun _ _ hφ => ask [] rfl hφ) rfl rfl (.inl rfl)
set_option maxRecDepth 100000 in
set_option maxHeartbeats 4000000 in
theorem w_memory_Of_s0 (N : Nat) (a0 : Int) (qp0 : Option Addr) (qn1 : Nat) (qc2 : Nat) (l1 : List FactD)  (hm : m_memory_Of N a0 l1 = some (.inl ())) : Spec Tryd.prog 8 [.int .i64 a0, .slice qp0 qn1 qc2] [] [.own 42 3 R_FactD (.slice qp0 qn1 qc2) l1] (fun v Φr Hr => v = .tuple #[.pointer none, .int .i64 4] ∧ Φr = [] ∧ Hr = [.own 42 3 R_FactD (.slice qp0 qn1 qc2) l1]) := by
 unfold m_memory_Of at hm
 refine spec_of Tryd.func8 rfl Tryd.ntmps8 rfl (S := [_,_]) rfl (fun C => ?_)
 refine wc_seq ?_
 refine wc_region ?_
 refine wl_pure rfl rfl rfl (freshS_eq rfl) rfl ?_
 refine wl_pure rfl rfl rfl (freshS_eq rfl) rfl ?_
 refine wl_nil ?_
 refine we_then ?_
 refine wc_keep [0, 1] (S' := [_,_]) rfl ?_
 refine wc_seq ?_
 refine wc_seq ?_
 obtain ⟨bj_1, hm, hLj_1⟩ := bindO_some hm
 refine wc_cut (σ := Bool) (fun j_1_20 => bj_1 = j_1_20) (fun j_1_20 => [(0, .int .i64 a0), (1, .slice qp0 qn1 qc2), (20, .bool j_1_20)]) (fun j_1_20 => []) (fun j_1_20 => [.own 42 3 R_FactD (.slice qp0 qn1 qc2) l1]) ?_ ?_
 ·
  refine wc_region ?_
  refine wl_pure rfl rfl rfl (freshS_eq rfl) rfl ?_
  refine wl_pure rfl rfl rfl (freshS_eq rfl) rfl ?_
  refine wl_pure rfl rfl rfl (freshS_eq rfl) rfl ?_
  refine wl_split (d := 12) (S' := [_,_,_,_]) rfl rfl (fun hs12 => ?_) (fun hs12 => ?_)
  ·
   replace hm := iteT hm hs12
   refine wl_off rfl rfl rfl (freshS_eq rfl) ?_
   refine wl_off rfl rfl rfl (freshS_eq rfl) ?_
   refine wl_pure rfl rfl rfl (freshS_eq rfl) rfl ?_
   refine wl_pure rfl rfl rfl (freshS_eq rfl) rfl ?_
   refine wl_off rfl rfl rfl (freshS_eq rfl) ?_
   refine wl_off rfl rfl rfl (freshS_eq rfl) ?_
   refine wl_off rfl rfl rfl (freshS_eq rfl) ?_
   refine wl_pure rfl rfl rfl (freshS_eq rfl) rfl ?_
   refine wl_nil ?_
   have hE := (Option.some.inj hm).symm
   refine we_join true hE [0, 1, 20] rfl (fun _ _ hφ => ask [] rfl hφ) rfl
  ·
   replace hm := iteF hm hs12
   refine wl_pure rfl rfl rfl (freshS_eq rfl) rfl ?_
   refine wl_pure rfl rfl rfl (freshS_eq rfl) rfl ?_
   refine wl_pure rfl rfl rfl (freshS_eq rfl) rfl ?_
   refine wl_pure rfl rfl rfl (freshS_eq rfl) rfl ?_
   refine wl_split (d := 16) (S' := [_,_,_,_,_,_,_,_]) rfl rfl (fun hs16 => ?_) (fun hs16 => ?_)
   ·
    replace hm := iteT hm hs16
    refine wl_off rfl rfl rfl (freshS_eq rfl) ?_
    refine wl_off rfl rfl rfl (freshS_eq rfl) ?_
    refine wl_off rfl rfl rfl (freshS_eq rfl) ?_
    refine wl_pure rfl rfl rfl (freshS_eq rfl) rfl ?_
    refine wl_nil ?_
    have hE := (Option.some.inj hm).symm
    refine we_join true hE [0, 1, 20] rfl (fun _ _ hφ => ask [] rfl hφ) rfl
   ·
    replace hm := iteF hm hs16
    refine wl_pure rfl rfl rfl (freshS_eq rfl) rfl ?_
    refine wl_ownLen 0 rfl (fun hl18 _ => ?_)
    refine wl_len rfl rfl rfl (freshS_eq rfl) rfl rfl tE_35 ?_
    refine wl_as (d := 18) (v' := .int .i64 ((l1.length : Nat) : Int)) (S' := [_,_,_,_,_,_,_,_,_,_]) rfl rfl (len_is hl18) ?_
    refine wl_pure rfl rfl rfl (freshS_eq rfl) rfl ?_
    refine wl_as (d := 19) (v' := .bool (decide (256 < l1.length))) (S' := [_,_,_,_,_,_,_,_,_,_,_]) rfl rfl (natgt (a := l1.length) (b := 256)) ?_
    refine wl_pure rfl rfl rfl (freshS_eq rfl) rfl ?_
    refine wl_nil ?_
    have hE := (Option.some.inj hm).symm
    refine we_join (decide (256 < l1.length)) hE [0, 1, 20] rfl (fun _ _ hφ => ask [] rfl hφ) rfl
 ·
  rintro j_1_20 hE
  try dsimp only
  have hm := hLj_1
  rw [hE] at hm
  refine wc_cond rfl (fun hb20 => ?_) (fun hb20 => ?_)
  ·
   replace hm := iteT hm hb20
   refine wc_keep [] (S' := []) rfl ?_
   refine wc_seq ?_
   refine wc_region ?_
   refine wl_pure rfl rfl rfl (freshS_eq rfl) rfl ?_
   refine wl_pure rfl rfl rfl (freshS_eq rfl) rfl ?_
   refine wl_nil ?_
   refine we_then ?_
   refine wc_ret ?_
   refine we_then_ret ?_
   have hE := (Option.some.inj hm).symm
   replace hE := Sum.inl.inj hE
   refine ret_two (Hr := [_]) [0] Tryd.results8 (res_tmp rfl) (res_tmp rfl) ⟨rfl, rfl, rfl⟩ (fun _ _ hφ => ask [] rfl hφ) rfl rfl (.inl rfl)
  ·
   replace hm := iteF hm hb20
   refine wc_keep [0, 1] (S' := [_,_]) rfl ?_
   refine wc_skip ?_
   refine we_then ?_
   refine wc_seq ?_
   refine wc_region ?_
   refine wl_pure rfl rfl rfl (freshS_eq rfl) rfl ?_
   refine wl_build rfl rfl rfl (freshS_eq rfl) rfl tZ_60 tP_60 rfl (out := [_,_]) rfl ?_
   refine wl_box rfl rfl rfl (freshS_eq rfl) rfl rfl rfl (fun g23 => ?_)
   refine wl_pure rfl rfl rfl (freshS_eq rfl) rfl ?_
   refine wl_nil ?_
   refine we_then ?_
   refine wc_keep [6, 0, 1] (S' := [_,_,_]) rfl ?_
   refine wc_seq ?_
   refine wc_region ?_
   refine wl_pure rfl rfl rfl (freshS_eq rfl) rfl ?_
   refine wl_nil ?_
   refine we_then ?_
   refine wc_seq ?_
   obtain ⟨bj_2, hm, hLj_2⟩ := bindS_some hm
   refine wc_cut (σ := (List FactD) × (Option Addr) × Nat × Nat) (fun (j_2_6_f0_l, j_2_6_f0_p, j_2_6_f0_c, j_2_6_f0_n) => bj_2 = .inl j_2_6_f0_l) (fun (j_2_6_f0_l, j_2_6_f0_p, j_2_6_f0_c, j_2_6_f0_n) => [(6, .pointer (some ⟨g23, 0, none⟩))]) (fun (j_2_6_f0_l, j_2_6_f0_p, j_2_6_f0_c, j_2_6_f0_n) => []) (fun (j_2_6_f0_l, j_2_6_f0_p, j_2_6_f0_c, j_2_6_f0_n) => [.blk g23 [.slice j_2_6_f0_p j_2_6_f0_n j_2_6_f0_c, .int .i64 a0] 60, .own 42 3 R_FactD (.slice j_2_6_f0_p j_2_6_f0_n j_2_6_f0_c) j_2_6_f0_l, .own 42 3 R_FactD (.slice qp0 qn1 qc2) l1]) ?_ ?_
   ·
    refine wc_seq ?_
    refine wc_region ?_
    refine wl_pure rfl rfl rfl (freshS_eq rfl) rfl ?_
    refine wl_ownLen 1 rfl (fun hl25 _ => ?_)
    refine wl_len rfl rfl rfl (freshS_eq rfl) rfl rfl tE_35 ?_
    refine wl_as (d := 25) (v' := .int .i64 ((l1.length : Nat) : Int)) (S' := [_,_,_,_,_]) rfl rfl (len_is hl25) ?_
    refine wl_pure rfl rfl rfl (freshS_eq rfl) rfl ?_
    refine wl_nil ?_
    refine we_then ?_
    refine wc_keep [26, 25, 24, 7, 6, 0] (S' := [_,_,_,_,_,_]) rfl ?_
    refine wc_block ?_
    refine wc_rowNil 42 3 R_FactD ?_
    refine wc_pick [2, 1, 0] rfl (H' := [_,_,_]) rfl ?_
    refine wc_loop (σ := Nat × Nat × Int × (List FactD) × (Option Addr) × Nat × Nat) (fun (nu1, u1_26, u1_7, u1_6_f0_l, u1_6_f0_p, u1_6_f0_c, u1_6_f0_n) => iter (m_memory_Of_L1 N l1 a0) nu1 (u1_26, u1_7, u1_6_f0_l) = some bj_2) (fun (nu1, u1_26, u1_7, u1_6_f0_l, u1_6_f0_p, u1_6_f0_c, u1_6_f0_n) => nu1) (fun (nu1, u1_26, u1_7, u1_6_f0_l, u1_6_f0_p, u1_6_f0_c, u1_6_f0_n) => [(26, .int .i64 ((u1_26 : Nat) : Int)), (25, .int .i64 ((l1.length : Nat) : Int)), (24, .slice qp0 qn1 qc2), (7, .int .i64 u1_7), (6, .pointer (some ⟨g23, 0, none⟩)), (0, .int .i64 a0)]) (fun (nu1, u1_26, u1_7, u1_6_f0_l, u1_6_f0_p, u1_6_f0_c, u1_6_f0_n) => []) (fun (nu1, u1_26, u1_7, u1_6_f0_l, u1_6_f0_p, u1_6_f0_c, u1_6_f0_n) => [.own 42 3 R_FactD (.slice qp0 qn1 qc2) l1, .blk g23 [.slice u1_6_f0_p u1_6_f0_n u1_6_f0_c, .int .i64 a0] 60, .own 42 3 R_FactD (.slice u1_6_f0_p u1_6_f0_n u1_6_f0_c) u1_6_f0_l]) (N, 0, 0, [], none, 0, 0) hm [26, 25, 24, 7, 6, 0] rfl (fun _ _ hφ => ask [] rfl hφ) rfl (fun s_ hm => ?_)
    obtain ⟨nu1, u1_26, u1_7, u1_6_f0_l, u1_6_f0_p, u1_6_f0_c, u1_6_f0_n⟩ := s_
    try dsimp only at hm ⊢
    obtain ⟨mu1, bu1, hnu1, hq, hLu1⟩ := iter_some hm
    clear hm
    subst hnu1
    replace hm := hq
    clear hq
    unfold m_memory_Of_L1 at hm
    try dsimp only at hm
    refine wc_seq ?_
    refine wc_region ?_
    refine wl_pure rfl rfl rfl (freshS_eq rfl) rfl ?_
    refine wl_as (d := 27) (v' := .bool (decide (u1_26 < l1.length))) (S' := [_,_,_,_,_,_]) rfl rfl (natlt (a := u1_26) (b := l1.length)) ?_
    refine wl_nil ?_
    refine we_then ?_
    refine wc_seq ?_
    refine wc_cond rfl (fun hb27 => ?_) (fun hb27 => ?_)
    ·
     replace hm := iteT hm hb27
     refine wc_keep [26, 25, 24, 7, 6, 0] (S' := [_,_,_,_,_,_]) rfl ?_
     refine wc_skip ?_
     refine we_then ?_
     refine wc_seq ?_
     refine wc_block ?_
     refine wc_seq ?_
     refine wc_region ?_
     obtain ⟨x28, hx28, hm⟩ := bindO_some hm
     refine wl_indexH 0 u1_26 rfl rfl rfl (freshS_eq rfl) rfl rfl rfl rfl rfl (get_lt hx28) tE_35 tS_42 (fun g28 eg28 => ?_)
     subst eg28
     refine wl_loadRow R_FactD_opens 0 u1_26 0 rfl rfl rfl (freshS_eq rfl) rfl rfl rfl hx28 tS_42 tA_42 (v := fun r29 => .agg #[.int .i64 (x28.id), .int .i64 (x28.ty), .slice r29.1 x28.args.length r29.2]) (fun _ => rfl) (fun _ => rfl) (fun r29 _ => ?_)
     refine wl_alloc rfl rfl rfl (freshS_eq rfl) rfl tZ_42 rfl (fun g9 => ?_)
     refine wl_store 0 0 rfl rfl rfl rfl rfl rfl rfl tS_42 rfl rfl rfl (all' := [_,_,_]) rfl (H' := [_,_,_,_]) rfl ?_
     refine wl_nil ?_
     refine we_then ?_
     refine wc_keep [9, 26, 25, 24, 7, 6, 0] (S' := [_,_,_,_,_,_,_]) rfl ?_
     refine wc_seq ?_
     refine wc_seq ?_
     obtain ⟨bj_3, hm, hLj_3⟩ := bindO_some hm
     unfold m_memory_Of_C3 at hm
     refine wc_cut (σ := Bool) (fun j_3_58 => bj_3 = j_3_58) (fun j_3_58 => [(9, .pointer (some ⟨g9, 0, none⟩)), (26, .int .i64 ((u1_26 : Nat) : Int)), (25, .int .i64 ((l1.length : Nat) : Int)), (24, .slice (some ⟨g28, 0, none⟩) qn1 qc2), (6, .pointer (some ⟨g23, 0, none⟩)), (0, .int .i64 a0), (58, .bool j_3_58)]) (fun j_3_58 => [.sli 3 R_V r29.1 r29.2 x28.args]) (fun j_3_58 => [.blk g9 [.int .i64 (x28.id), .int .i64 (x28.ty), .slice r29.1 x28.args.length r29.2] 42, .own 42 3 R_FactD (.slice (some ⟨g28, 0, none⟩) qn1 qc2) l1, .blk g23 [.slice u1_6_f0_p u1_6_f0_n u1_6_f0_c, .int .i64 a0] 60, .own 42 3 R_FactD (.slice u1_6_f0_p u1_6_f0_n u1_6_f0_c) u1_6_f0_l]) ?_ ?_
     ·
      rcases ite_some hm with ⟨hs34, hm⟩ | ⟨hs34, hm⟩
      ·
       refine wc_draw [0, 1, 2, 3, 4, 5, 6, 7, 8, 9, 10, 11, 12, 13, 14, 16, 17, 18, 19, 20, 21, 22, 23, 24, 25, 27, 28] rfl rfl (fun hok => ?_)
       refine wx_fieldAddr hok 0 rfl rfl rfl (freshS_eq rfl) rfl rfl rfl tF_42_0 ?_
       refine wx_loadH hok 1 0 0 rfl rfl rfl (freshS_eq rfl) rfl rfl rfl rfl (cs := [_]) rfl tS_3 tA_3 rfl rfl ?_
       refine wx_pure hok 2 rfl rfl rfl (freshS_eq rfl) rfl rfl ?_
       refine wx_pure hok 3 rfl rfl rfl (freshS_eq rfl) rfl rfl ?_
       refine wx_pure hok 4 rfl rfl rfl (freshS_eq rfl) rfl rfl ?_
       refine wx_as (d := 34) (v' := .bool true) (S' := [_,_,_,_,_,_,_,_,_,_,_]) rfl rfl (bool_is hs34) ?_
       refine wx_off hok 5 rfl rfl rfl (freshS_eq rfl) rfl ?_
       refine wx_off hok 6 rfl rfl rfl (freshS_eq rfl) rfl ?_
       refine wx_off hok 7 rfl rfl rfl (freshS_eq rfl) rfl ?_
       refine wx_off hok 8 rfl rfl rfl (freshS_eq rfl) rfl ?_
       refine wx_pure hok 9 rfl rfl rfl (freshS_eq rfl) rfl rfl ?_
       refine wx_pure hok 10 rfl rfl rfl (freshS_eq rfl) rfl rfl ?_
       refine wx_off hok 11 rfl rfl rfl (freshS_eq rfl) rfl ?_
       refine wx_off hok 12 rfl rfl rfl (freshS_eq rfl) rfl ?_
       refine wx_off hok 13 rfl rfl rfl (freshS_eq rfl) rfl ?_
       refine wx_off hok 14 rfl rfl rfl (freshS_eq rfl) rfl ?_
       refine wx_step1 hok 15 rfl rfl rfl rfl ?_
       refine wl_off rfl rfl rfl (freshS_eq rfl) ?_
       refine wl_nil ?_
       refine we_x [0] [0] rfl rfl ?_
       refine wx_off hok 16 rfl rfl rfl (freshS_eq rfl) rfl ?_
       refine wx_pure hok 17 rfl rfl rfl (freshS_eq rfl) rfl rfl ?_
       refine wx_pure hok 18 rfl rfl rfl (freshS_eq rfl) rfl rfl ?_
       refine wx_off hok 19 rfl rfl rfl (freshS_eq rfl) rfl ?_
       refine wx_off hok 20 rfl rfl rfl (freshS_eq rfl) rfl ?_
       refine wx_off hok 21 rfl rfl rfl (freshS_eq rfl) rfl ?_
       refine wx_off hok 22 rfl rfl rfl (freshS_eq rfl) rfl ?_
       refine wx_off hok 23 rfl rfl rfl (freshS_eq rfl) rfl ?_
       refine wx_off hok 24 rfl rfl rfl (freshS_eq rfl) rfl ?_
       refine wx_off hok 25 rfl rfl rfl (freshS_eq rfl) rfl ?_
       refine wx_step1 hok 26 rfl rfl rfl rfl ?_
       refine wl_off rfl rfl rfl (freshS_eq rfl) ?_
       refine wl_nil ?_
       refine we_x [0] [0] rfl rfl ?_
       refine wx_off hok 27 rfl rfl rfl (freshS_eq rfl) rfl ?_
       refine wx_pure hok 28 rfl rfl rfl (freshS_eq rfl) rfl rfl ?_
       refine wx_done hok rfl ?_
       have hE := (Option.some.inj hm).symm
       refine we_join true hE [9, 26, 25, 24, 6, 0, 58] rfl (fun _ _ hφ => ask [0] rfl hφ) rfl
      ·
       rcases ite_some hm with ⟨hs40, hm⟩ | ⟨hs40, hm⟩
       ·
        refine wc_draw [0, 1, 2, 3, 4, 5, 6, 7, 8, 9, 10, 11, 12, 13, 14, 16, 17, 18, 19, 20, 21, 22, 23, 24, 25, 27, 28] rfl rfl (fun hok => ?_)
        refine wx_fieldAddr hok 0 rfl rfl rfl (freshS_eq rfl) rfl rfl rfl tF_42_0 ?_
        refine wx_loadH hok 1 0 0 rfl rfl rfl (freshS_eq rfl) rfl rfl rfl rfl (cs := [_]) rfl tS_3 tA_3 rfl rfl ?_
        refine wx_pure hok 2 rfl rfl rfl (freshS_eq rfl) rfl rfl ?_
        refine wx_pure hok 3 rfl rfl rfl (freshS_eq rfl) rfl rfl ?_
        refine wx_pure hok 4 rfl rfl rfl (freshS_eq rfl) rfl rfl ?_
        refine wx_as (d := 34) (v' := .bool false) (S' := [_,_,_,_,_,_,_,_,_,_,_]) rfl rfl (bool_is hs34) ?_
        refine wx_fieldAddr hok 5 rfl rfl rfl (freshS_eq rfl) rfl rfl rfl tF_42_0 ?_
        refine wx_loadH hok 6 0 0 rfl rfl rfl (freshS_eq rfl) rfl rfl rfl rfl (cs := [_]) rfl tS_3 tA_3 rfl rfl ?_
        refine wx_pure hok 7 rfl rfl rfl (freshS_eq rfl) rfl rfl ?_
        refine wx_pure hok 8 rfl rfl rfl (freshS_eq rfl) rfl rfl ?_
        refine wx_pure hok 9 rfl rfl rfl (freshS_eq rfl) rfl rfl ?_
        refine wx_pure hok 10 rfl rfl rfl (freshS_eq rfl) rfl rfl ?_
        refine wx_as (d := 40) (v' := .bool true) (S' := [_,_,_,_,_,_,_,_,_,_,_,_,_,_,_,_,_]) rfl rfl (bool_is hs40) ?_
        refine wx_off hok 11 rfl rfl rfl (freshS_eq rfl) rfl ?_
        refine wx_off hok 12 rfl rfl rfl (freshS_eq rfl) rfl ?_
        refine wx_off hok 13 rfl rfl rfl (freshS_eq rfl) rfl ?_
        refine wx_off hok 14 rfl rfl rfl (freshS_eq rfl) rfl ?_
        refine wx_step1 hok 15 rfl rfl rfl rfl ?_
        refine wl_off rfl rfl rfl (freshS_eq rfl) ?_
        refine wl_nil ?_
        refine we_x [0] [0, 0] rfl rfl ?_
        refine wx_off hok 16 rfl rfl rfl (freshS_eq rfl) rfl ?_
        refine wx_pure hok 17 rfl rfl rfl (freshS_eq rfl) rfl rfl ?_
        refine wx_pure hok 18 rfl rfl rfl (freshS_eq rfl) rfl rfl ?_
        refine wx_off hok 19 rfl rfl rfl (freshS_eq rfl) rfl ?_
        refine wx_off hok 20 rfl rfl rfl (freshS_eq rfl) rfl ?_
        refine wx_off hok 21 rfl rfl rfl (freshS_eq rfl) rfl ?_
        refine wx_off hok 22 rfl rfl rfl (freshS_eq rfl) rfl ?_
        refine wx_off hok 23 rfl rfl rfl (freshS_eq rfl) rfl ?_
        refine wx_off hok 24 rfl rfl rfl (freshS_eq rfl) rfl ?_
        refine wx_off hok 25 rfl rfl rfl (freshS_eq rfl) rfl ?_
        refine wx_step1 hok 26 rfl rfl rfl rfl ?_
        refine wl_off rfl rfl rfl (freshS_eq rfl) ?_
        refine wl_nil ?_
        refine we_x [0] [0, 0] rfl rfl ?_
        refine wx_off hok 27 rfl rfl rfl (freshS_eq rfl) rfl ?_
        refine wx_pure hok 28 rfl rfl rfl (freshS_eq rfl) rfl rfl ?_
        refine wx_done hok rfl ?_
        have hE := (Option.some.inj hm).symm
        refine we_join true hE [9, 26, 25, 24, 6, 0, 58] rfl (fun _ _ hφ => ask [0] rfl hφ) rfl
       ·
        obtain ⟨v45, hc45, hm⟩ := bindO_some hm
        rcases ite_some hm with ⟨hs48, hm⟩ | ⟨hs48, hm⟩
        ·
         refine wc_draw [0, 1, 2, 3, 4, 5, 6, 7, 8, 9, 10, 11, 12, 13, 14, 16, 17, 18, 19, 20, 21, 22, 23, 24, 25, 27, 28] rfl rfl (fun hok => ?_)
         refine wx_fieldAddr hok 0 rfl rfl rfl (freshS_eq rfl) rfl rfl rfl tF_42_0 ?_
         refine wx_loadH hok 1 0 0 rfl rfl rfl (freshS_eq rfl) rfl rfl rfl rfl (cs := [_]) rfl tS_3 tA_3 rfl rfl ?_
         refine wx_pure hok 2 rfl rfl rfl (freshS_eq rfl) rfl rfl ?_
         refine wx_pure hok 3 rfl rfl rfl (freshS_eq rfl) rfl rfl ?_
         refine wx_pure hok 4 rfl rfl rfl (freshS_eq rfl) rfl rfl ?_
         refine wx_as (d := 34) (v' := .bool false) (S' := [_,_,_,_,_,_,_,_,_,_,_]) rfl rfl (bool_is hs34) ?_
         refine wx_fieldAddr hok 5 rfl rfl rfl (freshS_eq rfl) rfl rfl rfl tF_42_0 ?_
         refine wx_loadH hok 6 0 0 rfl rfl rfl (freshS_eq rfl) rfl rfl rfl rfl (cs := [_]) rfl tS_3 tA_3 rfl rfl ?_
         refine wx_pure hok 7 rfl rfl rfl (freshS_eq rfl) rfl rfl ?_
         refine wx_pure hok 8 rfl rfl rfl (freshS_eq rfl) rfl rfl ?_
         refine wx_pure hok 9 rfl rfl rfl (freshS_eq rfl) rfl rfl ?_
         refine wx_pure hok 10 rfl rfl rfl (freshS_eq rfl) rfl rfl ?_
         refine wx_as (d := 40) (v' := .bool false) (S' := [_,_,_,_,_,_,_,_,_,_,_,_,_,_,_,_,_]) rfl rfl (bool_is hs40) ?_
         refine wx_fieldAddr hok 11 rfl rfl rfl (freshS_eq rfl) rfl rfl rfl tF_42_1 ?_
         refine wx_loadH hok 12 0 1 rfl rfl rfl (freshS_eq rfl) rfl rfl rfl rfl (cs := [_]) rfl tS_3 tA_3 rfl rfl ?_
         refine wx_fieldAddr hok 13 rfl rfl rfl (freshS_eq rfl) rfl rfl rfl tF_42_2 ?_
         refine wx_loadH hok 14 0 2 rfl rfl rfl (freshS_eq rfl) rfl rfl rfl rfl (cs := [_]) rfl tS_26 tA_26 rfl rfl ?_
         refine wx_step1 hok 15 rfl rfl rfl rfl ?_
         refine wl_call [] [0, 1, 2, 3] rfl rfl rfl (freshS_eq rfl) rfl rfl fn_23 rfl (w_memory_may_v2_s N x28.ty r29.1 r29.2 x28.args _ hc45) (fun _ _ hφ => ask [0] rfl hφ) rfl (H' := [_,_,_,_]) rfl ?_
         rintro _ _ _ ⟨rfl, rfl, rfl⟩
         refine wl_nil ?_
         refine we_x [0] [0, 0] rfl rfl ?_
         refine wx_pure hok 16 rfl rfl rfl (freshS_eq rfl) rfl rfl ?_
         refine wx_pure hok 17 rfl rfl rfl (freshS_eq rfl) rfl rfl ?_
         refine wx_pure hok 18 rfl rfl rfl (freshS_eq rfl) rfl rfl ?_
         refine wx_as (d := 48) (v' := .bool true) (S' := [_,_,_,_,_,_,_,_,_,_,_,_,_,_,_,_,_,_,_,_,_,_,_,_,_]) rfl rfl (bool_is hs48) ?_
         refine wx_off hok 19 rfl rfl rfl (freshS_eq rfl) rfl ?_
         refine wx_off hok 20 rfl rfl rfl (freshS_eq rfl) rfl ?_
         refine wx_off hok 21 rfl rfl rfl (freshS_eq rfl) rfl ?_
         refine wx_off hok 22 rfl rfl rfl (freshS_eq rfl) rfl ?_
         refine wx_off hok 23 rfl rfl rfl (freshS_eq rfl) rfl ?_
         refine wx_off hok 24 rfl rfl rfl (freshS_eq rfl) rfl ?_
         refine wx_off hok 25 rfl rfl rfl (freshS_eq rfl) rfl ?_
         refine wx_step1 hok 26 rfl rfl rfl rfl ?_
         refine wl_off rfl rfl rfl (freshS_eq rfl) ?_
         refine wl_nil ?_
         refine we_x [0] [0, 0, 0, 0] rfl rfl ?_
         refine wx_off hok 27 rfl rfl rfl (freshS_eq rfl) rfl ?_
         refine wx_pure hok 28 rfl rfl rfl (freshS_eq rfl) rfl rfl ?_
         refine wx_done hok rfl ?_
         have hE := (Option.some.inj hm).symm
         refine we_join true hE [9, 26, 25, 24, 6, 0, 58] rfl (fun _ _ hφ => ask [0] rfl hφ) rfl
        ·
         obtain ⟨v56, hc56, hm⟩ := bindO_some hm
         refine wc_draw [0, 1, 2, 3, 4, 5, 6, 7, 8, 9, 10, 11, 12, 13, 14, 16, 17, 18, 19, 20, 21, 22, 23, 24, 25, 27, 28] rfl rfl (fun hok => ?_)
         refine wx_fieldAddr hok 0 rfl rfl rfl (freshS_eq rfl) rfl rfl rfl tF_42_0 ?_
         refine wx_loadH hok 1 0 0 rfl rfl rfl (freshS_eq rfl) rfl rfl rfl rfl (cs := [_]) rfl tS_3 tA_3 rfl rfl ?_
         refine wx_pure hok 2 rfl rfl rfl (freshS_eq rfl) rfl rfl ?_
         refine wx_pure hok 3 rfl rfl rfl (freshS_eq rfl) rfl rfl ?_
         refine wx_pure hok 4 rfl rfl rfl (freshS_eq rfl) rfl rfl ?_
         refine wx_as (d := 34) (v' := .bool false) (S' := [_,_,_,_,_,_,_,_,_,_,_]) rfl rfl (bool_is hs34) ?_
         refine wx_fieldAddr hok 5 rfl rfl rfl (freshS_eq rfl) rfl rfl rfl tF_42_0 ?_
         refine wx_loadH hok 6 0 0 rfl rfl rfl (freshS_eq rfl) rfl rfl rfl rfl (cs := [_]) rfl tS_3 tA_3 rfl rfl ?_
         refine wx_pure hok 7 rfl rfl rfl (freshS_eq rfl) rfl rfl ?_
         refine wx_pure hok 8 rfl rfl rfl (freshS_eq rfl) rfl rfl ?_
         refine wx_pure hok 9 rfl rfl rfl (freshS_eq rfl) rfl rfl ?_
         refine wx_pure hok 10 rfl rfl rfl (freshS_eq rfl) rfl rfl ?_
         refine wx_as (d := 40) (v' := .bool false) (S' := [_,_,_,_,_,_,_,_,_,_,_,_,_,_,_,_,_]) rfl rfl (bool_is hs40) ?_
         refine wx_fieldAddr hok 11 rfl rfl rfl (freshS_eq rfl) rfl rfl rfl tF_42_1 ?_
         refine wx_loadH hok 12 0 1 rfl rfl rfl (freshS_eq rfl) rfl rfl rfl rfl (cs := [_]) rfl tS_3 tA_3 rfl rfl ?_
         refine wx_fieldAddr hok 13 rfl rfl rfl (freshS_eq rfl) rfl rfl rfl tF_42_2 ?_
         refine wx_loadH hok 14 0 2 rfl rfl rfl (freshS_eq rfl) rfl rfl rfl rfl (cs := [_]) rfl tS_26 tA_26 rfl rfl ?_
         refine wx_step1 hok 15 rfl rfl rfl rfl ?_
         refine wl_call [] [0, 1, 2, 3] rfl rfl rfl (freshS_eq rfl) rfl rfl fn_23 rfl (w_memory_may_v2_s N x28.ty r29.1 r29.2 x28.args _ hc45) (fun _ _ hφ => ask [0] rfl hφ) rfl (H' := [_,_,_,_]) rfl ?_
         rintro _ _ _ ⟨rfl, rfl, rfl⟩
         refine wl_nil ?_
         refine we_x [0] [0, 0] rfl rfl ?_
         refine wx_pure hok 16 rfl rfl rfl (freshS_eq rfl) rfl rfl ?_
         refine wx_pure hok 17 rfl rfl rfl (freshS_eq rfl) rfl rfl ?_
         refine wx_pure hok 18 rfl rfl rfl (freshS_eq rfl) rfl rfl ?_
         refine wx_as (d := 48) (v' := .bool false) (S' := [_,_,_,_,_,_,_,_,_,_,_,_,_,_,_,_,_,_,_,_,_,_,_,_,_]) rfl rfl (bool_is hs48) ?_
         refine wx_pure hok 19 rfl rfl rfl (freshS_eq rfl) rfl rfl ?_
         refine wx_pure hok 20 rfl rfl rfl (freshS_eq rfl) rfl rfl ?_
         refine wx_fieldAddr hok 21 rfl rfl rfl (freshS_eq rfl) rfl rfl rfl tF_60_0 ?_
         refine wx_fieldAddr hok 22 rfl rfl rfl (freshS_eq rfl) rfl rfl rfl tF_42_1 ?_
         refine wx_loadH hok 23 0 1 rfl rfl rfl (freshS_eq rfl) rfl rfl rfl rfl (cs := [_]) rfl tS_3 tA_3 rfl rfl ?_
         refine wx_fieldAddr hok 24 rfl rfl rfl (freshS_eq rfl) rfl rfl rfl tF_42_2 ?_
         refine wx_loadH hok 25 0 2 rfl rfl rfl (freshS_eq rfl) rfl rfl rfl rfl (cs := [_]) rfl tS_26 tA_26 rfl rfl ?_
         refine wx_step1 hok 26 rfl rfl rfl rfl ?_
         refine wl_call [2, 3] [0, 1] rfl rfl rfl (freshS_eq rfl) rfl rfl fn_24 rfl (w_memory_row_says_v2_s N g23 u1_6_f0_p u1_6_f0_n u1_6_f0_c u1_6_f0_l a0 x28.ty r29.1 r29.2 x28.args _ hc56) (fun _ _ hφ => ask [0] rfl hφ) rfl (H' := [_,_]) rfl ?_
         rintro _ _ _ ⟨rfl, rfl, rfl⟩
         refine wl_nil ?_
         refine we_x [0] [2, 2, 2, 2] rfl rfl ?_
         refine wx_pure hok 27 rfl rfl rfl (freshS_eq rfl) rfl rfl ?_
         refine wx_pure hok 28 rfl rfl rfl (freshS_eq rfl) rfl rfl ?_
         refine wx_done hok rfl ?_
         have hE := (Option.some.inj hm).symm
         refine we_pick [2, 3, 0, 1] rfl (H' := [_,_,_,_]) rfl ?_
         refine we_join (decide (v56 ≥ 0)) hE [9, 26, 25, 24, 6, 0, 58] rfl (fun _ _ hφ => ask [0] rfl hφ) rfl
     ·
      rintro j_3_58 hE
      try dsimp only
      have hm := hLj_3
      rw [hE] at hm
      refine wc_cond rfl (fun hb58 => ?_) (fun hb58 => ?_)
      ·
       replace hm := iteT hm hb58
       refine wc_keep [] (S' := []) rfl ?_
       refine wc_seq ?_
       refine wc_region ?_
       refine wl_pure rfl rfl rfl (freshS_eq rfl) rfl ?_
       refine wl_pure rfl rfl rfl (freshS_eq rfl) rfl ?_
       refine wl_nil ?_
       refine we_then ?_
       refine wc_ret ?_
       refine we_then_ret ?_
       refine we_block_ret ?_
       refine we_then_ret ?_
       refine we_then_ret ?_
       refine we_block_ret ?_
       refine we_then_ret ?_
       have hE := (Option.some.inj hm).symm
       replace hE := link_inr hLu1 hE
       replace hE := link_inr hLj_2 hE
       replace hE := Sum.inl.inj hE
       refine ret_two (Hr := [_]) [1] Tryd.results8 (res_tmp rfl) (res_tmp rfl) ⟨rfl, rfl, rfl⟩ (fun _ _ hφ => ask [] rfl hφ) rfl rfl (.inl rfl)
      ·
       replace hm := iteF hm hb58
       refine wc_keep [9, 26, 25, 24, 6, 0] (S' := [_,_,_,_,_,_]) rfl ?_
       refine wc_skip ?_
       refine we_then ?_
       refine wc_seq ?_
       obtain ⟨_, hc66, hm⟩ := bindO_some hm
       try dsimp only at hm
       obtain ⟨hg68, hm⟩ := gd_some hm
       refine wc_draw [0, 1, 2, 3, 4, 5, 6, 10, 11, 12] rfl rfl (fun hok => ?_)
       refine wx_pure hok 0 rfl rfl rfl (freshS_eq rfl) rfl rfl ?_
       refine wx_pure hok 1 rfl rfl rfl (freshS_eq rfl) rfl rfl ?_
       refine wx_pure hok 2 rfl rfl rfl (freshS_eq rfl) rfl rfl ?_
       refine wx_fieldAddr hok 3 rfl rfl rfl (freshS_eq rfl) rfl rfl rfl tF_60_0 ?_
       refine wx_fieldAddr hok 4 rfl rfl rfl (freshS_eq rfl) rfl rfl rfl tF_58_0 ?_
       refine wx_loadH hok 5 2 0 rfl rfl rfl (freshS_eq rfl) rfl rfl rfl rfl (cs := [_]) rfl tS_35 tA_35 rfl rfl ?_
       refine wx_loadH hok 6 0 0 rfl rfl rfl (freshS_eq rfl) rfl rfl rfl rfl (cs := [_,_,_]) rfl tS_42 tA_42 rfl rfl ?_
       refine wx_step1 hok 7 rfl rfl rfl rfl ?_
       refine wl_call [] [0, 1, 2, 3] rfl rfl rfl (freshS_eq rfl) rfl rfl fn_25 rfl (w_memory_own_v2_s N x28.id x28.ty r29.1 r29.2 x28.args hc66) (fun _ _ hφ => ask [0] rfl hφ) rfl (H' := [_,_,_,_]) rfl ?_
       rintro _ _ _ ⟨p66_0, c66_1, rfl, rfl, rfl⟩
       refine wl_nil ?_
       refine we_x [0] [3] rfl rfl ?_
       refine wx_step1 hok 8 rfl rfl rfl rfl ?_
       refine wl_buildSlice rfl rfl rfl (freshS_eq rfl) rfl tE_35 tS_42 tZ_42 rfl (zs := [.int .i64 0, .int .i64 0, .slice none 0 0]) (by kernel_rfl) rfl (out := [_,_,_]) rfl (fun g67 => ?_)
       refine wl_nil ?_
       refine we_x [0] [2, 4] rfl rfl ?_
       refine wx_step1 hok 9 rfl rfl rfl rfl ?_
       refine wl_freeze 1 rfl (H' := [_,_,_,_,_]) rfl ?_
       refine wl_fact (.sli 3 R_V p66_0 c66_1 x28.args) (fun F w hφ => own_sli (hφ _ (mem_at (k := 0) rfl))) ?_
       refine wl_appendH [x28] 4 0 rfl rfl rfl (freshS_eq rfl) rfl rfl rfl rfl rfl (fun F w hφ => ⟨[.int .i64 (x28.id), .int .i64 (x28.ty), .slice p66_0 x28.args.length c66_1], [], rfl, rfl, ⟨(p66_0, c66_1), rfl, (ask_cons (hφ _ (mem_at (k := 0) rfl)) ask_nil)⟩, rfl⟩) tE_35 tR_42 rfl rfl (Nat.le_trans hg68 (by decide)) (Nat.le_trans (Nat.mul_le_mul_right _ hg68) (by decide)) (H2 := fun p68 c68 => [.blk g67 [.int .i64 (x28.id), .int .i64 (x28.ty), .slice p66_0 x28.args.length c66_1] 42, .blk g9 [.int .i64 (x28.id), .int .i64 (x28.ty), .slice r29.1 x28.args.length r29.2] 42, .own 42 3 R_FactD (.slice (some ⟨g28, 0, none⟩) qn1 qc2) l1, .blk g23 [.slice u1_6_f0_p u1_6_f0_n u1_6_f0_c, .int .i64 a0] 60, .own 42 3 R_FactD (.slice p68 ((u1_6_f0_l ++ [x28]).length) c68) (u1_6_f0_l ++ [x28])]) (fun _ _ => rfl) (fun p68 c68 => ?_)
       refine wl_drop 0 rfl (H' := [_,_,_,_]) rfl ?_
       refine wl_nil ?_
       refine we_x [2] [0] rfl rfl ?_
       refine wx_pure hok 10 rfl rfl rfl (freshS_eq rfl) rfl rfl ?_
       refine wx_fieldAddr hok 11 rfl rfl rfl (freshS_eq rfl) rfl rfl rfl tF_60_0 ?_
       refine wx_fieldAddr hok 12 rfl rfl rfl (freshS_eq rfl) rfl rfl rfl tF_58_0 ?_
       refine wx_step1 hok 13 rfl rfl rfl rfl ?_
       refine wl_store 2 0 rfl rfl rfl rfl rfl rfl rfl tS_35 rfl rfl rfl (all' := [_,_]) rfl (H' := [_,_,_,_]) rfl ?_
       refine wl_nil ?_
       refine we_x [0, 1, 2] [] rfl rfl ?_
       refine wx_done hok rfl ?_
       refine we_then ?_
       refine wc_keep [9, 26, 25, 24, 6, 0] (S' := [_,_,_,_,_,_]) rfl ?_
       refine wc_region ?_
       refine wl_fieldAddr rfl rfl rfl (freshS_eq rfl) rfl rfl tF_42_0 ?_
       refine wl_loadH 0 0 rfl rfl rfl (freshS_eq rfl) rfl rfl rfl (cs := [_]) rfl tS_3 tA_3 rfl rfl ?_
       refine wl_pure rfl rfl rfl (freshS_eq rfl) rfl ?_
       refine wl_nil ?_
       refine we_block_normal ?_
       refine we_then ?_
       refine wc_keep [7, 26, 25, 24, 6, 0] (S' := [_,_,_,_,_,_]) rfl ?_
       refine wc_region ?_
       refine wl_pure rfl rfl rfl (freshS_eq rfl) rfl ?_
       obtain ⟨hg74, hm⟩ := gd_some hm
       refine wl_as (d := 74) (v' := .int .i64 ((u1_26 + 1 : Nat) : Int)) (S' := [_,_,_,_,_,_]) rfl rfl (nat_add (a := u1_26) (b := 1) hg74) ?_
       refine wl_pure (S' := [_,_,_,_,_,_]) rfl rfl rfl rfl rfl ?_
       refine wl_nil ?_
       have hE := (Option.some.inj hm).symm
       replace hE := link_inl hLu1 hE
       refine we_pick [1, 2, 3] rfl (H' := [_,_,_]) rfl ?_
       refine we_roundK (_, u1_26 + 1, x28.id, u1_6_f0_l ++ [x28], p68, c68, (u1_6_f0_l ++ [x28]).length) (Nat.lt_succ_self _) hE [26, 25, 24, 7, 6, 0] rfl (fun _ _ hφ => ask [] rfl hφ) rfl
    ·
     replace hm := iteF hm hb27
     refine wc_keep [6] (S' := [_]) rfl ?_
     refine wc_exit ?_
     refine we_then_exit ?_
     refine we_then_exit ?_
     refine we_block_hit ?_
     have hE := (Option.some.inj hm).symm
     replace hE := link_inr hLu1 hE
     refine we_pick [1, 2, 0] rfl (H' := [_,_,_]) rfl ?_
     refine we_join (u1_6_f0_l, u1_6_f0_p, u1_6_f0_c, u1_6_f0_n) hE [6] rfl (fun _ _ hφ => ask [] rfl hφ) rfl
   ·
    rintro ⟨j_2_6_f0_l, j_2_6_f0_p, j_2_6_f0_c, j_2_6_f0_n⟩ hE
    try dsimp only
    have hm := link_inl hLj_2 hE
    refine wc_seq ?_
    refine wc_region ?_
    refine wl_pure rfl rfl rfl (freshS_eq rfl) rfl ?_
    refine wl_pure rfl rfl rfl (freshS_eq rfl) rfl ?_
    refine wl_pure rfl rfl rfl (freshS_eq rfl) rfl ?_
    refine wl_nil ?_
    refine we_then ?_
    refine wc_keep [5, 4] (S' := [_,_]) rfl ?_
    refine wc_ret ?_
    have hE := (Option.some.inj hm).symm
    cases hE
end Go.Proofs.YtdnolbmbmncefaaDoor
