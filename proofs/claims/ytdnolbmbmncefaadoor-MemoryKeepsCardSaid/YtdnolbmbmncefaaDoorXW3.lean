/- Walks, printed by a program out of the loaded code. -/
import Derived.Test.YtdnolbmbmncefaaDoorXW2
namespace Go.Proofs.YtdnolbmbmncefaaDoor
open Go.RowKit
set_option maxRecDepth 100000 in
set_option maxHeartbeats 4000000 in
theorem w_memory_Of_s1 (N : Nat) (a0 : Int) (qp0 : Option Addr) (qn1 : Nat) (qc2 : Nat) (l1 : List FactD) (o3 : List FactD) (hm : m_memory_Of N a0 l1 = some (.inr o3)) : Spec Tryd.prog 8 [.int .i64 a0, .slice qp0 qn1 qc2] [] [.own 42 3 R_FactD (.slice qp0 qn1 qc2) l1] (fun v Φr Hr => ∃ (o0 : Nat) (o1 : Option Addr) (o2 : Nat) (o4 : Nat), v = .tuple #[.pointer (some ⟨o0, 0, none⟩), .int .i64 0] ∧ Φr = [] ∧ Hr = [.blk o0 [.slice o1 o4 o2, .int .i64 a0] 60, .own 42 3 R_FactD (.slice o1 o4 o2) o3, .own 42 3 R_FactD (.slice qp0 qn1 qc2) l1]) := by
 unfold m_memory_Of at hm
 refine spec_of Tryd.func8 rfl Tryd.ntmps8 rfl (S := [_,_]) rfl (fun C => ?_)
 refine wc_seq ?_
 refine wc_region ?_
 refine wl_pure rfl rfl rfl (freshS_eq rfl) rfl ?_
 refine wl_pure rfl rfl rfl (freshS_eq rfl) rfl ?_
 refine wl_nil ?_
 refine we_then ?_
 refine wc_keep [0, 1] (S' := [_,_]) rfl ?_
 refine wc_seq ?_
 refine wc_seq ?_
 obtain ⟨bj_1, hm, hLj_1⟩ := bindO_some hm
 refine wc_cut (σ := Bool) (fun j_1_20 => bj_1 = j_1_20) (fun j_1_20 => [(0, .int .i64 a0), (1, .slice qp0 qn1 qc2), (20, .bool j_1_20)]) (fun j_1_20 => []) (fun j_1_20 => [.own 42 3 R_FactD (.slice qp0 qn1 qc2) l1]) ?_ ?_
 ·
  refine wc_region ?_
  refine wl_pure rfl rfl rfl (freshS_eq rfl) rfl ?_
  refine wl_pure rfl rfl rfl (freshS_eq rfl) rfl ?_
  refine wl_pure rfl rfl rfl (freshS_eq rfl) rfl ?_
  refine wl_split (d := 12) (S' := [_,_,_,_]) rfl rfl (fun hs12 => ?_) (fun hs12 => ?_)
  ·
   replace hm := iteT hm hs12
   refine wl_off rfl rfl rfl (freshS_eq rfl) ?_
   refine wl_off rfl rfl rfl (freshS_eq rfl) ?_
   refine wl_pure rfl rfl rfl (freshS_eq rfl) rfl ?_
   refine wl_pure rfl rfl rfl (freshS_eq rfl) rfl ?_
   refine wl_off rfl rfl rfl (freshS_eq rfl) ?_
   refine wl_off rfl rfl rfl (freshS_eq rfl) ?_
   refine wl_off rfl rfl rfl (freshS_eq rfl) ?_
   refine wl_pure rfl rfl rfl (freshS_eq rfl) rfl ?_
   refine wl_nil ?_
   have hE := (Option.some.inj hm).symm
   refine we_join true hE [0, 1, 20] rfl (fun _ _ hφ => ask [] rfl hφ) rfl
  ·
   replace hm := iteF hm hs12
   refine wl_pure rfl rfl rfl (freshS_eq rfl) rfl ?_
   refine wl_pure rfl rfl rfl (freshS_eq rfl) rfl ?_
   refine wl_pure rfl rfl rfl (freshS_eq rfl) rfl ?_
   refine wl_pure rfl rfl rfl (freshS_eq rfl) rfl ?_
   refine wl_split (d := 16) (S' := [_,_,_,_,_,_,_,_]) rfl rfl (fun hs16 => ?_) (fun hs16 => ?_)
   ·
    replace hm := iteT hm hs16
    refine wl_off rfl rfl rfl (freshS_eq rfl) ?_
    refine wl_off rfl rfl rfl (freshS_eq rfl) ?_
    refine wl_off rfl rfl rfl (freshS_eq rfl) ?_
    refine wl_pure rfl rfl rfl (freshS_eq rfl) rfl ?_
    refine wl_nil ?_
    have hE := (Option.some.inj hm).symm
    refine we_join true hE [0, 1, 20] rfl (fun _ _ hφ => ask [] rfl hφ) rfl
   ·
    replace hm := iteF hm hs16
    refine wl_pure rfl rfl rfl (freshS_eq rfl) rfl ?_
    refine wl_ownLen 0 rfl (fun hl18 _ => ?_)
    refine wl_len rfl rfl rfl (freshS_eq rfl) rfl rfl tE_35 ?_
    refine wl_as (d := 18) (v' := .int .i64 ((l1.length : Nat) : Int)) (S' := [_,_,_,_,_,_,_,_,_,_]) rfl rfl (len_is hl18) ?_
    refine wl_pure rfl rfl rfl (freshS_eq rfl) rfl ?_
    refine wl_as (d := 19) (v' := .bool (decide (256 < l1.length))) (S' := [_,_,_,_,_,_,_,_,_,_,_]) rfl rfl (natgt (a := l1.length) (b := 256)) ?_
    refine wl_pure rfl rfl rfl (freshS_eq rfl) rfl ?_
    refine wl_nil ?_
    have hE := (Option.some.inj hm).symm
    refine we_join (decide (256 < l1.length)) hE [0, 1, 20] rfl (fun _ _ hφ => ask [] rfl hφ) rfl
 ·
  rintro j_1_20 hE
  try dsimp only
  have hm := hLj_1
  rw [hE] at hm
  refine wc_cond rfl (fun hb20 => ?_) (fun hb20 => ?_)
  ·
   replace hm := iteT hm hb20
   refine wc_keep [] (S' := []) rfl ?_
   refine wc_seq ?_
   refine wc_region ?_
   refine wl_pure rfl rfl rfl (freshS_eq rfl) rfl ?_
   refine wl_pure rfl rfl rfl (freshS_eq rfl) rfl ?_
   refine wl_nil ?_
   refine we_then ?_
   refine wc_ret ?_
   refine we_then_ret ?_
   have hE := (Option.some.inj hm).symm
   cases hE
  ·
   replace hm := iteF hm hb20
   refine wc_keep [0, 1] (S' := [_,_]) rfl ?_
   refine wc_skip ?_
   refine we_then ?_
   refine wc_seq ?_
   refine wc_region ?_
   refine wl_pure rfl rfl rfl (freshS_eq rfl) rfl ?_
   refine wl_build rfl rfl rfl (freshS_eq rfl) rfl tZ_60 tP_60 rfl (out := [_,_]) rfl ?_
   refine wl_box rfl rfl rfl (freshS_eq rfl) rfl rfl rfl (fun g23 => ?_)
   refine wl_pure rfl rfl rfl (freshS_eq rfl) rfl ?_
   refine wl_nil ?_
   refine we_then ?_
   refine wc_keep [6, 0, 1] (S' := [_,_,_]) rfl ?_
   refine wc_seq ?_
   refine wc_region ?_
   refine wl_pure rfl rfl rfl (freshS_eq rfl) rfl ?_
   refine wl_nil ?_
   refine we_then ?_
   refine wc_seq ?_
   obtain ⟨bj_2, hm, hLj_2⟩ := bindS_some hm
   refine wc_cut (σ := (List FactD) × (Option Addr) × Nat × Nat) (fun (j_2_6_f0_l, j_2_6_f0_p, j_2_6_f0_c, j_2_6_f0_n) => bj_2 = .inl j_2_6_f0_l) (fun (j_2_6_f0_l, j_2_6_f0_p, j_2_6_f0_c, j_2_6_f0_n) => [(6, .pointer (some ⟨g23, 0, none⟩))]) (fun (j_2_6_f0_l, j_2_6_f0_p, j_2_6_f0_c, j_2_6_f0_n) => []) (fun (j_2_6_f0_l, j_2_6_f0_p, j_2_6_f0_c, j_2_6_f0_n) => [.blk g23 [.slice j_2_6_f0_p j_2_6_f0_n j_2_6_f0_c, .int .i64 a0] 60, .own 42 3 R_FactD (.slice j_2_6_f0_p j_2_6_f0_n j_2_6_f0_c) j_2_6_f0_l, .own 42 3 R_FactD (.slice qp0 qn1 qc2) l1]) ?_ ?_
   ·
    refine wc_seq ?_
    refine wc_region ?_
    refine wl_pure rfl rfl rfl (freshS_eq rfl) rfl ?_
    refine wl_ownLen 1 rfl (fun hl25 _ => ?_)
    refine wl_len rfl rfl rfl (freshS_eq rfl) rfl rfl tE_35 ?_
    refine wl_as (d := 25) (v' := .int .i64 ((l1.length : Nat) : Int)) (S' := [_,_,_,_,_]) rfl rfl (len_is hl25) ?_
    refine wl_pure rfl rfl rfl (freshS_eq rfl) rfl ?_
    refine wl_nil ?_
    refine we_then ?_
    refine wc_keep [26, 25, 24, 7, 6, 0] (S' := [_,_,_,_,_,_]) rfl ?_
    refine wc_block ?_
    refine wc_rowNil 42 3 R_FactD ?_
    refine wc_pick [2, 1, 0] rfl (H' := [_,_,_]) rfl ?_
    refine wc_loop (σ := Nat × Nat × Int × (List FactD) × (Option Addr) × Nat × Nat) (fun (nu1, u1_26, u1_7, u1_6_f0_l, u1_6_f0_p, u1_6_f0_c, u1_6_f0_n) => iter (m_memory_Of_L1 N l1 a0) nu1 (u1_26, u1_7, u1_6_f0_l) = some bj_2) (fun (nu1, u1_26, u1_7, u1_6_f0_l, u1_6_f0_p, u1_6_f0_c, u1_6_f0_n) => nu1) (fun (nu1, u1_26, u1_7, u1_6_f0_l, u1_6_f0_p, u1_6_f0_c, u1_6_f0_n) => [(26, .int .i64 ((u1_26 : Nat) : Int)), (25, .int .i64 ((l1.length : Nat) : Int)), (24, .slice qp0 qn1 qc2), (7, .int .i64 u1_7), (6, .pointer (some ⟨g23, 0, none⟩)), (0, .int .i64 a0)]) (fun (nu1, u1_26, u1_7, u1_6_f0_l, u1_6_f0_p, u1_6_f0_c, u1_6_f0_n) => []) (fun (nu1, u1_26, u1_7, u1_6_f0_l, u1_6_f0_p, u1_6_f0_c, u1_6_f0_n) => [.own 42 3 R_FactD (.slice qp0 qn1 qc2) l1, .blk g23 [.slice u1_6_f0_p u1_6_f0_n u1_6_f0_c, .int .i64 a0] 60, .own 42 3 R_FactD (.slice u1_6_f0_p u1_6_f0_n u1_6_f0_c) u1_6_f0_l]) (N, 0, 0, [], none, 0, 0) hm [26, 25, 24, 7, 6, 0] rfl (fun _ _ hφ => ask [] rfl hφ) rfl (fun s_ hm => ?_)
    obtain ⟨nu1, u1_26, u1_7, u1_6_f0_l, u1_6_f0_p, u1_6_f0_c, u1_6_f0_n⟩ := s_
    try dsimp only at hm ⊢
    obtain ⟨mu1, bu1, hnu1, hq, hLu1⟩ := iter_some hm
    clear hm
    subst hnu1
    replace hm := hq
    clear hq
    unfold m_memory_Of_L1 at hm
    try dsimp only at hm
    refine wc_seq ?_
    refine wc_region ?_
    refine wl_pure rfl rfl rfl (freshS_eq rfl) rfl ?_
    refine wl_as (d := 27) (v' := .bool (decide (u1_26 < l1.length))) (S' := [_,_,_,_,_,_]) rfl rfl (natlt (a := u1_26) (b := l1.length)) ?_
    refine wl_nil ?_
    refine we_then ?_
    refine wc_seq ?_
    refine wc_cond rfl (fun hb27 => ?_) (fun hb27 => ?_)
    ·
     replace hm := iteT hm hb27
     refine wc_keep [26, 25, 24, 7, 6, 0] (S' := [_,_,_,_,_,_]) rfl ?_
     refine wc_skip ?_
     refine we_then ?_
     refine wc_seq ?_
     refine wc_block ?_
     refine wc_seq ?_
     refine wc_region ?_
     obtain ⟨x28, hx28, hm⟩ := bindO_some hm
     refine wl_indexH 0 u1_26 rfl rfl rfl (freshS_eq rfl) rfl rfl rfl rfl rfl (get_lt hx28) tE_35 tS_42 (fun g28 eg28 => ?_)
     subst eg28
     refine wl_loadRow R_FactD_opens 0 u1_26 0 rfl rfl rfl (freshS_eq rfl) rfl rfl rfl hx28 tS_42 tA_42 (v := fun r29 => .agg #[.int .i64 (x28.id), .int .i64 (x28.ty), .slice r29.1 x28.args.length r29.2]) (fun _ => rfl) (fun _ => rfl) (fun r29 _ => ?_)
     refine wl_alloc rfl rfl rfl (freshS_eq rfl) rfl tZ_42 rfl (fun g9 => ?_)
     refine wl_store 0 0 rfl rfl rfl rfl rfl rfl rfl tS_42 rfl rfl rfl (all' := [_,_,_]) rfl (H' := [_,_,_,_]) rfl ?_
     refine wl_nil ?_
     refine we_then ?_
     refine wc_keep [9, 26, 25, 24, 7, 6, 0] (S' := [_,_,_,_,_,_,_]) rfl ?_
     refine wc_seq ?_
     refine wc_seq ?_
     obtain ⟨bj_3, hm, hLj_3⟩ := bindO_some hm
     refine wc_cut (σ := Bool) (fun j_3_58 => bj_3 = j_3_58) (fun j_3_58 => [(9, .pointer (some ⟨g9, 0, none⟩)), (26, .int .i64 ((u1_26 : Nat) : Int)), (25, .int .i64 ((l1.length : Nat) : Int)), (24, .slice (some ⟨g28, 0, none⟩) qn1 qc2), (6, .pointer (some ⟨g23, 0, none⟩)), (0, .int .i64 a0), (58, .bool j_3_58)]) (fun j_3_58 => [.sli 3 R_V r29.1 r29.2 x28.args]) (fun j_3_58 => [.blk g9 [.int .i64 (x28.id), .int .i64 (x28.ty), .slice r29.1 x28.args.length r29.2] 42, .own 42 3 R_FactD (.slice (some ⟨g28, 0, none⟩) qn1 qc2) l1, .blk g23 [.slice u1_6_f0_p u1_6_f0_n u1_6_f0_c, .int .i64 a0] 60, .own 42 3 R_FactD (.slice u1_6_f0_p u1_6_f0_n u1_6_f0_c) u1_6_f0_l]) ?_ ?_
     ·
      rcases ite_some hm with ⟨hs34, hm⟩ | ⟨hs34, hm⟩
      ·
       refine wc_draw [0, 1, 2, 3, 4, 5, 6, 7, 8, 9, 10, 11, 12, 13, 14, 16, 17, 18, 19, 20, 21, 22, 23, 24, 25, 27, 28] rfl rfl (fun hok => ?_)
       refine wx_fieldAddr hok 0 rfl rfl rfl (freshS_eq rfl) rfl rfl rfl tF_42_0 ?_
       refine wx_loadH hok 1 0 0 rfl rfl rfl (freshS_eq rfl) rfl rfl rfl rfl (cs := [_]) rfl tS_3 tA_3 rfl rfl ?_
       refine wx_pure hok 2 rfl rfl rfl (freshS_eq rfl) rfl rfl ?_
       refine wx_pure hok 3 rfl rfl rfl (freshS_eq rfl) rfl rfl ?_
       refine wx_pure hok 4 rfl rfl rfl (freshS_eq rfl) rfl rfl ?_
       refine wx_as (d := 34) (v' := .bool true) (S' := [_,_,_,_,_,_,_,_,_,_,_]) rfl rfl (bool_is hs34) ?_
       refine wx_off hok 5 rfl rfl rfl (freshS_eq rfl) rfl ?_
       refine wx_off hok 6 rfl rfl rfl (freshS_eq rfl) rfl ?_
       refine wx_off hok 7 rfl rfl rfl (freshS_eq rfl) rfl ?_
       refine wx_off hok 8 rfl rfl rfl (freshS_eq rfl) rfl ?_
       refine wx_pure hok 9 rfl rfl rfl (freshS_eq rfl) rfl rfl ?_
       refine wx_pure hok 10 rfl rfl rfl (freshS_eq rfl) rfl rfl ?_
       refine wx_off hok 11 rfl rfl rfl (freshS_eq rfl) rfl ?_
       refine wx_off hok 12 rfl rfl rfl (freshS_eq rfl) rfl ?_
       refine wx_off hok 13 rfl rfl rfl (freshS_eq rfl) rfl ?_
       refine wx_off hok 14 rfl rfl rfl (freshS_eq rfl) rfl ?_
       refine wx_step1 hok 15 rfl rfl rfl rfl ?_
       refine wl_off rfl rfl rfl (freshS_eq rfl) ?_
       refine wl_nil ?_
       refine we_x [0] [0] rfl rfl ?_
       refine wx_off hok 16 rfl rfl rfl (freshS_eq rfl) rfl ?_
       refine wx_pure hok 17 rfl rfl rfl (freshS_eq rfl) rfl rfl ?_
       refine wx_pure hok 18 rfl rfl rfl (freshS_eq rfl) rfl rfl ?_
       refine wx_off hok 19 rfl rfl rfl (freshS_eq rfl) rfl ?_
       refine wx_off hok 20 rfl rfl rfl (freshS_eq rfl) rfl ?_
       refine wx_off hok 21 rfl rfl rfl (freshS_eq rfl) rfl ?_
       refine wx_off hok 22 rfl rfl rfl (freshS_eq rfl) rfl ?_
       refine wx_off hok 23 rfl rfl rfl (freshS_eq rfl) rfl ?_
       refine wx_off hok 24 rfl rfl rfl (freshS_eq rfl) rfl ?_
       refine wx_off hok 25 rfl rfl rfl (freshS_eq rfl) rfl ?_
       refine wx_step1 hok 26 rfl rfl rfl rfl ?_
       refine wl_off rfl rfl rfl (freshS_eq rfl) ?_
       refine wl_nil ?_
       refine we_x [0] [0] rfl rfl ?_
       refine wx_off hok 27 rfl rfl rfl (freshS_eq rfl) rfl ?_
       refine wx_pure hok 28 rfl rfl rfl (freshS_eq rfl) rfl rfl ?_
       refine wx_done hok rfl ?_
       have hE := (Option.some.inj hm).symm
       refine we_join true hE [9, 26, 25, 24, 6, 0, 58] rfl (fun _ _ hφ => ask [0] rfl hφ) rfl
      ·
       rcases ite_some hm with ⟨hs40, hm⟩ | ⟨hs40, hm⟩
       ·
        refine wc_draw [0, 1, 2, 3, 4, 5, 6, 7, 8, 9, 10, 11, 12, 13, 14, 16, 17, 18, 19, 20, 21, 22, 23, 24, 25, 27, 28] rfl rfl (fun hok => ?_)
        refine wx_fieldAddr hok 0 rfl rfl rfl (freshS_eq rfl) rfl rfl rfl tF_42_0 ?_
        refine wx_loadH hok 1 0 0 rfl rfl rfl (freshS_eq rfl) rfl rfl rfl rfl (cs := [_]) rfl tS_3 tA_3 rfl rfl ?_
        refine wx_pure hok 2 rfl rfl rfl (freshS_eq rfl) rfl rfl ?_
        refine wx_pure hok 3 rfl rfl rfl (freshS_eq rfl) rfl rfl ?_
        refine wx_pure hok 4 rfl rfl rfl (freshS_eq rfl) rfl rfl ?_
        refine wx_as (d := 34) (v' := .bool false) (S' := [_,_,_,_,_,_,_,_,_,_,_]) rfl rfl (bool_is hs34) ?_
        refine wx_fieldAddr hok 5 rfl rfl rfl (freshS_eq rfl) rfl rfl rfl tF_42_0 ?_
        refine wx_loadH hok 6 0 0 rfl rfl rfl (freshS_eq rfl) rfl rfl rfl rfl (cs := [_]) rfl tS_3 tA_3 rfl rfl ?_
        refine wx_pure hok 7 rfl rfl rfl (freshS_eq rfl) rfl rfl ?_
        refine wx_pure hok 8 rfl rfl rfl (freshS_eq rfl) rfl rfl ?_
        refine wx_pure hok 9 rfl rfl rfl (freshS_eq rfl) rfl rfl ?_
        refine wx_pure hok 10 rfl rfl rfl (freshS_eq rfl) rfl rfl ?_
        refine wx_as (d := 40) (v' := .bool true) (S' := [_,_,_,_,_,_,_,_,_,_,_,_,_,_,_,_,_]) rfl rfl (bool_is hs40) ?_
        refine wx_off hok 11 rfl rfl rfl (freshS_eq rfl) rfl ?_
        refine wx_off hok 12 rfl rfl rfl (freshS_eq rfl) rfl ?_
        refine wx_off hok 13 rfl rfl rfl (freshS_eq rfl) rfl ?_
        refine wx_off hok 14 rfl rfl rfl (freshS_eq rfl) rfl ?_
        refine wx_step1 hok 15 rfl rfl rfl rfl ?_
        refine wl_off rfl rfl rfl (freshS_eq rfl) ?_
        refine wl_nil ?_
        refine we_x [0] [0, 0] rfl rfl ?_
        refine wx_off hok 16 rfl rfl rfl (freshS_eq rfl) rfl ?_
        refine wx_pure hok 17 rfl rfl rfl (freshS_eq rfl) rfl rfl ?_
        refine wx_pure hok 18 rfl rfl rfl (freshS_eq rfl) rfl rfl ?_
        refine wx_off hok 19 rfl rfl rfl (freshS_eq rfl) rfl ?_
        refine wx_off hok 20 rfl rfl rfl (freshS_eq rfl) rfl ?_
        refine wx_off hok 21 rfl rfl rfl (freshS_eq rfl) rfl ?_
        refine wx_off hok 22 rfl rfl rfl (freshS_eq rfl) rfl ?_
        refine wx_off hok 23 rfl rfl rfl (freshS_eq rfl) rfl ?_
        refine wx_off hok 24 rfl rfl rfl (freshS_eq rfl) rfl ?_
        refine wx_off hok 25 rfl rfl rfl (freshS_eq rfl) rfl ?_
        refine wx_step1 hok 26 rfl rfl rfl rfl ?_
        refine wl_off rfl rfl rfl (freshS_eq rfl) ?_
        refine wl_nil ?_
        refine we_x [0] [0, 0] rfl rfl ?_
        refine wx_off hok 27 rfl rfl rfl (freshS_eq rfl) rfl ?_
        refine wx_pure hok 28 rfl rfl rfl (freshS_eq rfl) rfl rfl ?_
        refine wx_done hok rfl ?_
        have hE := (Option.some.inj hm).symm
        refine we_join true hE [9, 26, 25, 24, 6, 0, 58] rfl (fun _ _ hφ => ask [0] rfl hφ) rfl
       ·
        obtain ⟨v45, hc45, hm⟩ := bindO_some hm
        rcases ite_some hm with ⟨hs48, hm⟩ | ⟨hs48, hm⟩
        ·
         refine wc_draw [0, 1, 2, 3, 4, 5, 6, 7, 8, 9, 10, 11, 12, 13, 14, 16, 17, 18, 19, 20, 21, 22, 23, 24, 25, 27, 28] rfl rfl (fun hok => ?_)
         refine wx_fieldAddr hok 0 rfl rfl rfl (freshS_eq rfl) rfl rfl rfl tF_42_0 ?_
         refine wx_loadH hok 1 0 0 rfl rfl rfl (freshS_eq rfl) rfl rfl rfl rfl (cs := [_]) rfl tS_3 tA_3 rfl rfl ?_
         refine wx_pure hok 2 rfl rfl rfl (freshS_eq rfl) rfl rfl ?_
         refine wx_pure hok 3 rfl rfl rfl (freshS_eq rfl) rfl rfl ?_
         refine wx_pure hok 4 rfl rfl rfl (freshS_eq rfl) rfl rfl ?_
         refine wx_as (d := 34) (v' := .bool false) (S' := [_,_,_,_,_,_,_,_,_,_,_]) rfl rfl (bool_is hs34) ?_
         refine wx_fieldAddr hok 5 rfl rfl rfl (freshS_eq rfl) rfl rfl rfl tF_42_0 ?_
         refine wx_loadH hok 6 0 0 rfl rfl rfl (freshS_eq rfl) rfl rfl rfl rfl (cs := [_]) rfl tS_3 tA_3 rfl rfl ?_
         refine wx_pure hok 7 rfl rfl rfl (freshS_eq rfl) rfl rfl ?_
         refine wx_pure hok 8 rfl rfl rfl (freshS_eq rfl) rfl rfl ?_
         refine wx_pure hok 9 rfl rfl rfl (freshS_eq rfl) rfl rfl ?_
         refine wx_pure hok 10 rfl rfl rfl (freshS_eq rfl) rfl rfl ?_
         refine wx_as (d := 40) (v' := .bool false) (S' := [_,_,_,_,_,_,_,_,_,_,_,_,_,_,_,_,_]) rfl rfl (bool_is hs40) ?_
         refine wx_fieldAddr hok 11 rfl rfl rfl (freshS_eq rfl) rfl rfl rfl tF_42_1 ?_
         refine wx_loadH hok 12 0 1 rfl rfl rfl (freshS_eq rfl) rfl rfl rfl rfl (cs := [_]) rfl tS_3 tA_3 rfl rfl ?_
         refine wx_fieldAddr hok 13 rfl rfl rfl (freshS_eq rfl) rfl rfl rfl tF_42_2 ?_
         refine wx_loadH hok 14 0 2 rfl rfl rfl (freshS_eq rfl) rfl rfl rfl rfl (cs := [_]) rfl tS_26 tA_26 rfl rfl ?_
         refine wx_step1 hok 15 rfl rfl rfl rfl ?_
         refine wl_call [] [0, 1, 2, 3] rfl rfl rfl (freshS_eq rfl) rfl rfl fn_23 rfl (w_memory_may_v2_s N x28.ty r29.1 r29.2 x28.args _ hc45) (fun _ _ hφ => ask [0] rfl hφ) rfl (H' := [_,_,_,_]) rfl ?_
         rintro _ _ _ ⟨rfl, rfl, rfl⟩
         refine wl_nil ?_
         refine we_x [0] [0, 0] rfl rfl ?_
         refine wx_pure hok 16 rfl rfl rfl (freshS_eq rfl) rfl rfl ?_
         refine wx_pure hok 17 rfl rfl rfl (freshS_eq rfl) rfl rfl ?_
         refine wx_pure hok 18 rfl rfl rfl (freshS_eq rfl) rfl rfl ?_
         refine wx_as (d := 48) (v' := .bool true) (S' := [_,_,_,_,_,_,_,_,_,_,_,_,_,_,_,_,_,_,_,_,_,_,_,_,_]) rfl rfl (bool_is hs48) ?_
         refine wx_off hok 19 rfl rfl rfl (freshS_eq rfl) rfl ?_
         refine wx_off hok 20 rfl rfl rfl (freshS_eq rfl) rfl ?_
         refine wx_off hok 21 rfl rfl rfl (freshS_eq rfl) rfl ?_
         refine wx_off hok 22 rfl rfl rfl (freshS_eq rfl) rfl ?_
         refine wx_off hok 23 rfl rfl rfl (freshS_eq rfl) rfl ?_
         refine wx_off hok 24 rfl rfl rfl (freshS_eq rfl) rfl ?_
         refine wx_off hok 25 rfl rfl rfl (freshS_eq rfl) rfl ?_
         refine wx_step1 hok 26 rfl rfl rfl rfl ?_
         refine wl_off rfl rfl rfl (freshS_eq rfl) ?_
         refine wl_nil ?_
         refine we_x [0] [0, 0, 0, 0] rfl rfl ?_
         refine wx_off hok 27 rfl rfl rfl (freshS_eq rfl) rfl ?_
         refine wx_pure hok 28 rfl rfl rfl (freshS_eq rfl) rfl rfl ?_
         refine wx_done hok rfl ?_
         have hE := (Option.some.inj hm).symm
         refine we_join true hE [9, 26, 25, 24, 6, 0, 58] rfl (fun _ _ hφ => ask [0] rfl hφ) rfl
        ·
         obtain ⟨v56, hc56, hm⟩ := bindO_some hm
         refine wc_draw [0, 1, 2, 3, 4, 5, 6, 7, 8, 9, 10, 11, 12, 13, 14, 16, 17, 18, 19, 20, 21, 22, 23, 24, 25, 27, 28] rfl rfl (fun hok => ?_)
         refine wx_fieldAddr hok 0 rfl rfl rfl (freshS_eq rfl) rfl rfl rfl tF_42_0 ?_
         refine wx_loadH hok 1 0 0 rfl rfl rfl (freshS_eq rfl) rfl rfl rfl rfl (cs := [_]) rfl tS_3 tA_3 rfl rfl ?_
         refine wx_pure hok 2 rfl rfl rfl (freshS_eq rfl) rfl rfl ?_
         refine wx_pure hok 3 rfl rfl rfl (freshS_eq rfl) rfl rfl ?_
         refine wx_pure hok 4 rfl rfl rfl (freshS_eq rfl) rfl rfl ?_
         refine wx_as (d := 34) (v' := .bool false) (S' := [_,_,_,_,_,_,_,_,_,_,_]) rfl rfl (bool_is hs34) ?_
         refine wx_fieldAddr hok 5 rfl rfl rfl (freshS_eq rfl) rfl rfl rfl tF_42_0 ?_
         refine wx_loadH hok 6 0 0 rfl rfl rfl (freshS_eq rfl) rfl rfl rfl rfl (cs := [_]) rfl tS_3 tA_3 rfl rfl ?_
         refine wx_pure hok 7 rfl rfl rfl (freshS_eq rfl) rfl rfl ?_
         refine wx_pure hok 8 rfl rfl rfl (freshS_eq rfl) rfl rfl ?_
         refine wx_pure hok 9 rfl rfl rfl (freshS_eq rfl) rfl rfl ?_
         refine wx_pure hok 10 rfl rfl rfl (freshS_eq rfl) rfl rfl ?_
         refine wx_as (d := 40) (v' := .bool false) (S' := [_,_,_,_,_,_,_,_,_,_,_,_,_,_,_,_,_]) rfl rfl (bool_is hs40) ?_
         refine wx_fieldAddr hok 11 rfl rfl rfl (freshS_eq rfl) rfl rfl rfl tF_42_1 ?_
         refine wx_loadH hok 12 0 1 rfl rfl rfl (freshS_eq rfl) rfl rfl rfl rfl (cs := [_]) rfl tS_3 tA_3 rfl rfl ?_
         refine wx_fieldAddr hok 13 rfl rfl rfl (freshS_eq rfl) rfl rfl rfl tF_42_2 ?_
         refine wx_loadH hok 14 0 2 rfl rfl rfl (freshS_eq rfl) rfl rfl rfl rfl (cs := [_]) rfl tS_26 tA_26 rfl rfl ?_
         refine wx_step1 hok 15 rfl rfl rfl rfl ?_
         refine wl_call [] [0, 1, 2, 3] rfl rfl rfl (freshS_eq rfl) rfl rfl fn_23 rfl (w_memory_may_v2_s N x28.ty r29.1 r29.2 x28.args _ hc45) (fun _ _ hφ => ask [0] rfl hφ) rfl (H' := [_,_,_,_]) rfl ?_
         rintro _ _ _ ⟨rfl, rfl, rfl⟩
         refine wl_nil ?_
         refine we_x [0] [0, 0] rfl rfl ?_
         refine wx_pure hok 16 rfl rfl rfl (freshS_eq rfl) rfl rfl ?_
         refine wx_pure hok 17 rfl rfl rfl (freshS_eq rfl) rfl rfl ?_
         refine wx_pure hok 18 rfl rfl rfl (freshS_eq rfl) rfl rfl ?_
         refine wx_as (d := 48) (v' := .bool false) (S' := [_,_,_,_,_,_,_,_,_,_,_,_,_,_,_,_,_,_,_,_,_,_,_,_,_]) rfl rfl (bool_is hs48) ?_
         refine wx_pure hok 19 rfl rfl rfl (freshS_eq rfl) rfl rfl ?_
         refine wx_pure hok 20 rfl rfl rfl (freshS_eq rfl) rfl rfl ?_
         refine wx_fieldAddr hok 21 rfl rfl rfl (freshS_eq rfl) rfl rfl rfl tF_60_0 ?_
         refine wx_fieldAddr hok 22 rfl rfl rfl (freshS_eq rfl) rfl rfl rfl tF_42_1 ?_
         refine wx_loadH hok 23 0 1 rfl rfl rfl (freshS_eq rfl) rfl rfl rfl rfl (cs := [_]) rfl tS_3 tA_3 rfl rfl ?_
         refine wx_fieldAddr hok 24 rfl rfl rfl (freshS_eq rfl) rfl rfl rfl tF_42_2 ?_
         refine wx_loadH hok 25 0 2 rfl rfl rfl (freshS_eq rfl) rfl rfl rfl rfl (cs := [_]) rfl tS_26 tA_26 rfl rfl ?_
         refine wx_step1 hok 26 rfl rfl rfl rfl ?_
         refine wl_call [2, 3] [0, 1] rfl rfl rfl (freshS_eq rfl) rfl rfl fn_24 rfl (w_memory_row_says_v2_s N g23 u1_6_f0_p u1_6_f0_n u1_6_f0_c u1_6_f0_l a0 x28.ty r29.1 r29.2 x28.args _ hc56) (fun _ _ hφ => ask [0] rfl hφ) rfl (H' := [_,_]) rfl ?_
         rintro _ _ _ ⟨rfl, rfl, rfl⟩
         refine wl_nil ?_
         refine we_x [0] [2, 2, 2, 2] rfl rfl ?_
         refine wx_pure hok 27 rfl rfl rfl (freshS_eq rfl) rfl rfl ?_
         refine wx_pure hok 28 rfl rfl rfl (freshS_eq rfl) rfl rfl ?_
         refine wx_done hok rfl ?_
         have hE := (Option.some.inj hm).symm
         refine we_pick [2, 3, 0, 1] rfl (H' := [_,_,_,_]) rfl ?_
         refine we_join (decide (v56 ≥ 0)) hE [9, 26, 25, 24, 6, 0, 58] rfl (fun _ _ hφ => ask [0] rfl hφ) rfl
     ·
      rintro j_3_58 hE
      try dsimp only
      have hm := hLj_3
      rw [hE] at hm
      refine wc_cond rfl (fun hb58 => ?_) (fun hb58 => ?_)
      ·
       replace hm := iteT hm hb58
       refine wc_keep [] (S' := []) rfl ?_
       refine wc_seq ?_
       refine wc_region ?_
       refine wl_pure rfl rfl rfl (freshS_eq rfl) rfl ?_
       refine wl_pure rfl rfl rfl (freshS_eq rfl) rfl ?_
       refine wl_nil ?_
       refine we_then ?_
       refine wc_ret ?_
       refine we_then_ret ?_
       refine we_block_ret ?_
       refine we_then_ret ?_
       refine we_then_ret ?_
       refine we_block_ret ?_
       refine we_then_ret ?_
       have hE := (Option.some.inj hm).symm
       replace hE := link_inr hLu1 hE
       replace hE := link_inr hLj_2 hE
       cases hE
      ·
       replace hm := iteF hm hb58
       refine wc_keep [9, 26, 25, 24, 6, 0] (S' := [_,_,_,_,_,_]) rfl ?_
       refine wc_skip ?_
       refine we_then ?_
       refine wc_seq ?_
       obtain ⟨_, hc66, hm⟩ := bindO_some hm
       try dsimp only at hm
       obtain ⟨hg68, hm⟩ := gd_some hm
       refine wc_draw [0, 1, 2, 3, 4, 5, 6, 10, 11, 12] rfl rfl (fun hok => ?_)
       refine wx_pure hok 0 rfl rfl rfl (freshS_eq rfl) rfl rfl ?_
       refine wx_pure hok 1 rfl rfl rfl (freshS_eq rfl) rfl rfl ?_
       refine wx_pure hok 2 rfl rfl rfl (freshS_eq rfl) rfl rfl ?_
       refine wx_fieldAddr hok 3 rfl rfl rfl (freshS_eq rfl) rfl rfl rfl tF_60_0 ?_
       refine wx_fieldAddr hok 4 rfl rfl rfl (freshS_eq rfl) rfl rfl rfl tF_58_0 ?_
       refine wx_loadH hok 5 2 0 rfl rfl rfl (freshS_eq rfl) rfl rfl rfl rfl (cs := [_]) rfl tS_35 tA_35 rfl rfl ?_
       refine wx_loadH hok 6 0 0 rfl rfl rfl (freshS_eq rfl) rfl rfl rfl rfl (cs := [_,_,_]) rfl tS_42 tA_42 rfl rfl ?_
       refine wx_step1 hok 7 rfl rfl rfl rfl ?_
       refine wl_call [] [0, 1, 2, 3] rfl rfl rfl (freshS_eq rfl) rfl rfl fn_25 rfl (w_memory_own_v2_s N x28.id x28.ty r29.1 r29.2 x28.args hc66) (fun _ _ hφ => ask [0] rfl hφ) rfl (H' := [_,_,_,_]) rfl ?_
       rintro _ _ _ ⟨p66_0, c66_1, rfl, rfl, rfl⟩
       refine wl_nil ?_
       refine we_x [0] [3] rfl rfl ?_
       refine wx_step1 hok 8 rfl rfl rfl rfl ?_
       refine wl_buildSlice rfl rfl rfl (freshS_eq rfl) rfl tE_35 tS_42 tZ_42 rfl (zs := [.int .i64 0, .int .i64 0, .slice none 0 0]) (by kernel_rfl) rfl (out := [_,_,_]) rfl (fun g67 => ?_)
       refine wl_nil ?_
       refine we_x [0] [2, 4] rfl rfl ?_
       refine wx_step1 hok 9 rfl rfl rfl rfl ?_
       refine wl_freeze 1 rfl (H' := [_,_,_,_,_]) rfl ?_
       refine wl_fact (.sli 3 R_V p66_0 c66_1 x28.args) (fun F w hφ => own_sli (hφ _ (mem_at (k := 0) rfl))) ?_
       refine wl_appendH [x28] 4 0 rfl rfl rfl (freshS_eq rfl) rfl rfl rfl rfl rfl (fun F w hφ => ⟨[.int .i64 (x28.id), .int .i64 (x28.ty), .slice p66_0 x28.args.length c66_1], [], rfl, rfl, ⟨(p66_0, c66_1), rfl, (ask_cons (hφ _ (mem_at (k := 0) rfl)) ask_nil)⟩, rfl⟩) tE_35 tR_42 rfl rfl (Nat.le_trans hg68 (by decide)) (Nat.le_trans (Nat.mul_le_mul_right _ hg68) (by decide)) (H2 := fun p68 c68 => [.blk g67 [.int .i64 (x28.id), .int .i64 (x28.ty), .slice p66_0 x28.args.length c66_1] 42, .blk g9 [.int .i64 (x28.id), .int .i64 (x28.ty), .slice r29.1 x28.args.length r29.2] 42, .own 42 3 R_FactD (.slice (some ⟨g28, 0, none⟩) qn1 qc2) l1, .blk g23 [.slice u1_6_f0_p u1_6_f0_n u1_6_f0_c, .int .i64 a0] 60, .own 42 3 R_FactD (.slice p68 ((u1_6_f0_l ++ [x28]).length) c68) (u1_6_f0_l ++ [x28])]) (fun _ _ => rfl) (fun p68 c68 => ?_)
       refine wl_drop 0 rfl (H' := [_,_,_,_]) rfl ?_
       refine wl_nil ?_
       refine we_x [2] [0] rfl rfl ?_
       refine wx_pure hok 10 rfl rfl rfl (freshS_eq rfl) rfl rfl ?_
       refine wx_fieldAddr hok 11 rfl rfl rfl (freshS_eq rfl) rfl rfl rfl tF_60_0 ?_
       refine wx_fieldAddr hok 12 rfl rfl rfl (freshS_eq rfl) rfl rfl rfl tF_58_0 ?_
       refine wx_step1 hok 13 rfl rfl rfl rfl ?_
       refine wl_store 2 0 rfl rfl rfl rfl rfl rfl rfl tS_35 rfl rfl rfl (all' := [_,_]) rfl (H' := [_,_,_,_]) rfl ?_
       refine wl_nil ?_
       refine we_x [0, 1, 2] [] rfl rfl ?_
       refine wx_done hok rfl ?_
       refine we_then ?_
       refine wc_keep [9, 26, 25, 24, 6, 0] (S' := [_,_,_,_,_,_]) rfl ?_
       refine wc_region ?_
       refine wl_fieldAddr rfl rfl rfl (freshS_eq rfl) rfl rfl tF_42_0 ?_
       refine wl_loadH 0 0 rfl rfl rfl (freshS_eq rfl) rfl rfl rfl (cs := [_]) rfl tS_3 tA_3 rfl rfl ?_
       refine wl_pure rfl rfl rfl (freshS_eq rfl) rfl ?_
       refine wl_nil ?_
       refine we_block_normal ?_
       refine we_then ?_
       refine wc_keep [7, 26, 25, 24, 6, 0] (S' := [_,_,_,_,_,_]) rfl ?_
       refine wc_region ?_
       refine wl_pure rfl rfl rfl (freshS_eq rfl) rfl ?_
       obtain ⟨hg74, hm⟩ := gd_some hm
       refine wl_as (d := 74) (v' := .int .i64 ((u1_26 + 1 : Nat) : Int)) (S' := [_,_,_,_,_,_]) rfl rfl (nat_add (a := u1_26) (b := 1) hg74) ?_
       refine wl_pure (S' := [_,_,_,_,_,_]) rfl rfl rfl rfl rfl ?_
       refine wl_nil ?_
       have hE := (Option.some.inj hm).symm
       replace hE := link_inl hLu1 hE
       refine we_pick [1, 2, 3] rfl (H' := [_,_,_]) rfl ?_
       refine we_roundK (_, u1_26 + 1, x28.id, u1_6_f0_l ++ [x28], p68, c68, (u1_6_f0_l ++ [x28]).length) (Nat.lt_succ_self _) hE [26, 25, 24, 7, 6, 0] rfl (fun _ _ hφ => ask [] rfl hφ) rfl
    ·
     replace hm := iteF hm hb27
     refine wc_keep [6] (S' := [_]) rfl ?_
     refine wc_exit ?_
     refine we_then_exit ?_
     refine we_then_exit ?_
     refine we_block_hit ?_
     have hE := (Option.some.inj hm).symm
     replace hE := link_inr hLu1 hE
     refine we_pick [1, 2, 0] rfl (H' := [_,_,_]) rfl ?_
     refine we_join (u1_6_f0_l, u1_6_f0_p, u1_6_f0_c, u1_6_f0_n) hE [6] rfl (fun _ _ hφ => ask [] rfl hφ) rfl
   ·
    rintro ⟨j_2_6_f0_l, j_2_6_f0_p, j_2_6_f0_c, j_2_6_f0_n⟩ hE
    try dsimp only
    have hm := link_inl hLj_2 hE
    refine wc_seq ?_
    refine wc_region ?_
    refine wl_pure rfl rfl rfl (freshS_eq rfl) rfl ?_
    refine wl_pure rfl rfl rfl (freshS_eq rfl) rfl ?_
    refine wl_pure rfl rfl rfl (freshS_eq rfl) rfl ?_
    refine wl_nil ?_
    refine we_then ?_
    refine wc_keep [5, 4] (S' := [_,_]) rfl ?_
    refine wc_ret ?_
    have hE := (Option.some.inj hm).symm
    replace hE := Sum.inr.inj hE
    replace hE := hE.symm
    subst hE
    refine ret_two (Hr := [_, _, _]) [0, 1, 2] Tryd.results8 (res_tmp rfl) (res_tmp rfl) ⟨g23, j_2_6_f0_p, j_2_6_f0_c, j_2_6_f0_n, rfl, rfl, rfl⟩ (fun _ _ hφ => ask [] rfl hφ) rfl rfl (.inl rfl)
set_option maxRecDepth 100000 in
set_option maxHeartbeats 4000000 in
theorem w_memory_Memory_known_v2_s (N : Nat)   (hm : m_memory_Memory_known_v2 N = some ()) : Spec Tryd.prog 26 [.pointer none] [] [] (fun v Φr Hr => v = .bool false ∧ Φr = [] ∧ Hr = []) := by
 unfold m_memory_Memory_known_v2 at hm
 refine spec_of Tryd.func26 rfl Tryd.ntmps26 rfl (S := [_]) rfl (fun C => ?_)
 refine wc_seq ?_
 refine wc_region ?_
 refine wl_pure rfl rfl rfl (freshS_eq rfl) rfl ?_
 refine wl_nil ?_
 refine we_then ?_
 refine wc_keep [0] (S' := [_]) rfl ?_
 refine wc_seq ?_
 refine wc_region ?_
 refine wl_pure rfl rfl rfl (freshS_eq rfl) rfl ?_
 refine wl_bin rfl rfl rfl (freshS_eq rfl) rfl rfl rfl (neqP tQ_24 _ _ _) ?_
 refine wl_pure rfl rfl rfl (freshS_eq rfl) rfl ?_
 refine wl_off rfl rfl rfl (freshS_eq rfl) ?_
 refine wl_off rfl rfl rfl (freshS_eq rfl) ?_
 refine wl_off rfl rfl rfl (freshS_eq rfl) ?_
 refine wl_off rfl rfl rfl (freshS_eq rfl) ?_
 refine wl_off rfl rfl rfl (freshS_eq rfl) ?_
 refine wl_pure rfl rfl rfl (freshS_eq rfl) rfl ?_
 refine wl_pure rfl rfl rfl (freshS_eq rfl) rfl ?_
 refine wl_nil ?_
 refine we_then ?_
 refine wc_keep [2] (S' := [_]) rfl ?_
 refine wc_ret ?_
 have hE := (Option.some.inj hm).symm
 refine ret_one (Hr := []) [] Tryd.results26 (res_tmp rfl) ⟨rfl, rfl, rfl⟩ (fun _ _ hφ => ask [] rfl hφ) rfl rfl (.inl rfl)
set_option maxRecDepth 100000 in
set_option maxHeartbeats 4000000 in
theorem w_memory_Memory_Drop_v2_s (N : Nat) (a0 : Int)  (hm : m_memory_Memory_Drop_v2 N a0 = some ()) : Spec Tryd.prog 13 [.pointer none, .int .i64 a0] [] [] (fun v Φr Hr => v = .int .i64 1 ∧ Φr = [] ∧ Hr = []) := by
 unfold m_memory_Memory_Drop_v2 at hm
 refine spec_of Tryd.func13 rfl Tryd.ntmps13 rfl (S := [_,_]) rfl (fun C => ?_)
 refine wc_seq ?_
 refine wc_region ?_
 refine wl_pure rfl rfl rfl (freshS_eq rfl) rfl ?_
 refine wl_nil ?_
 refine we_then ?_
 refine wc_keep [0, 1] (S' := [_,_]) rfl ?_
 refine wc_seq ?_
 refine wc_seq ?_
 refine wc_region ?_
 refine wl_pure rfl rfl rfl (freshS_eq rfl) rfl ?_
 obtain ⟨_, hc8, hm⟩ := bindO_some hm
 try dsimp only at hm
 refine wl_call [] [] rfl rfl rfl (freshS_eq rfl) rfl rfl fn_26 rfl (w_memory_Memory_known_v2_s N  hc8) (fun _ _ hφ => ask [] rfl hφ) rfl (H' := []) rfl ?_
 rintro _ _ _ ⟨rfl, rfl, rfl⟩
 refine wl_pure rfl rfl rfl (freshS_eq rfl) rfl ?_
 refine wl_nil ?_
 refine we_then ?_
 refine wc_keep [9, 0, 1] (S' := [_,_,_]) rfl ?_
 refine wc_true rfl ?_
 refine wc_keep [] (S' := []) rfl ?_
 refine wc_seq ?_
 refine wc_region ?_
 refine wl_pure rfl rfl rfl (freshS_eq rfl) rfl ?_
 refine wl_nil ?_
 refine we_then ?_
 refine wc_ret ?_
 refine we_then_ret ?_
 have hE := (Option.some.inj hm).symm
 refine ret_one (Hr := []) [] Tryd.results13 (res_tmp rfl) ⟨rfl, rfl, rfl⟩ (fun _ _ hφ => ask [] rfl hφ) rfl rfl (.inl rfl)
set_option maxRecDepth 100000 in
set_option maxHeartbeats 4000000 in
theorem w_memory_Memory_Add_v3_s (N : Nat) (a0 : Int) (qp0 : Option Addr) (qc1 : Nat) (l1 : List V)  (hm : m_memory_Memory_Add_v3 N a0 l1 = some ()) : Spec Tryd.prog 15 [.pointer none, .int .i64 a0, .slice qp0 l1.length qc1] [.sli 3 R_V qp0 qc1 l1] [] (fun v Φr Hr => v = .tuple #[.int .i64 0, .int .i64 1] ∧ Φr = [] ∧ Hr = []) := by
 unfold m_memory_Memory_Add_v3 at hm
 refine spec_of Tryd.func15 rfl Tryd.ntmps15 rfl (S := [_,_,_]) rfl (fun C => ?_)
 refine wc_seq ?_
 refine wc_region ?_
 refine wl_pure rfl rfl rfl (freshS_eq rfl) rfl ?_
 refine wl_pure rfl rfl rfl (freshS_eq rfl) rfl ?_
 refine wl_nil ?_
 refine we_then ?_
 refine wc_keep [0, 1, 2] (S' := [_,_,_]) rfl ?_
 refine wc_seq ?_
 refine wc_block ?_
 refine wc_seq ?_
 refine wc_region ?_
 refine wl_pure rfl rfl rfl (freshS_eq rfl) rfl ?_
 obtain ⟨_, hc11, hm⟩ := bindO_some hm
 try dsimp only at hm
 refine wl_call [] [] rfl rfl rfl (freshS_eq rfl) rfl rfl fn_26 rfl (w_memory_Memory_known_v2_s N  hc11) (fun _ _ hφ => ask [] rfl hφ) rfl (H' := []) rfl ?_
 rintro _ _ _ ⟨rfl, rfl, rfl⟩
 refine wl_pure rfl rfl rfl (freshS_eq rfl) rfl ?_
 refine wl_pure rfl rfl rfl (freshS_eq rfl) rfl ?_
 refine wl_nil ?_
 refine we_then ?_
 refine wc_keep [9, 0, 1, 2] (S' := [_,_,_,_]) rfl ?_
 refine wc_true rfl ?_
 refine wc_keep [] (S' := []) rfl ?_
 refine wc_seq ?_
 refine wc_region ?_
 refine wl_pure rfl rfl rfl (freshS_eq rfl) rfl ?_
 refine wl_pure rfl rfl rfl (freshS_eq rfl) rfl ?_
 refine wl_nil ?_
 refine we_then ?_
 refine wc_ret ?_
 refine we_block_ret ?_
 refine we_then_ret ?_
 have hE := (Option.some.inj hm).symm
 refine ret_two (Hr := []) [] Tryd.results15 (res_tmp rfl) (res_tmp rfl) ⟨rfl, rfl, rfl⟩ (fun _ _ hφ => ask [] rfl hφ) rfl rfl (.inl rfl)
set_option maxRecDepth 100000 in
set_option maxHeartbeats 4000000 in
theorem w_ropewalklaw11_do_v2_s (N : Nat) (a0 : Int) (a1 : Int) (a2 : Int) (qp0 : Option Addr) (qc1 : Nat) (l3 : List V)  (hm : m_ropewalklaw11_do_v2 N a0 a1 a2 l3 = some ()) : Spec Tryd.prog 7 [.pointer none, .agg #[.int .i64 a0, .int .i64 a1, .int .i64 a2, .slice qp0 l3.length qc1]] [.sli 3 R_V qp0 qc1 l3] [] (fun v Φr Hr => v = .tuple #[.int .i64 0, .int .i64 1] ∧ Φr = [] ∧ Hr = []) := by
 unfold m_ropewalklaw11_do_v2 at hm
 refine spec_of Tryd.func7 rfl Tryd.ntmps7 rfl (S := [_,_]) rfl (fun C => ?_)
 refine wc_seq ?_
 refine wc_region ?_
 refine wl_box rfl rfl rfl (freshS_eq rfl) rfl rfl rfl (fun g3 => ?_)
 refine wl_pure rfl rfl rfl (freshS_eq rfl) rfl ?_
 refine wl_pure rfl rfl rfl (freshS_eq rfl) rfl ?_
 refine wl_nil ?_
 refine we_then ?_
 refine wc_keep [3, 0] (S' := [_,_]) rfl ?_
 refine wc_seq ?_
 refine wc_seq ?_
 refine wc_region ?_
 refine wl_fieldAddr rfl rfl rfl (freshS_eq rfl) rfl rfl tF_28_0 ?_
 refine wl_loadH 0 0 rfl rfl rfl (freshS_eq rfl) rfl rfl rfl (cs := [_]) rfl tS_3 tA_3 rfl rfl ?_
 obtain ⟨v8, hc8, hm⟩ := bindO_some hm
 refine wl_call [] [0] rfl rfl rfl (freshS_eq rfl) rfl rfl fn_12 rfl (w_ropewalkkit_Pick_s N a0 3 _ hc8) (fun _ _ hφ => ask [] rfl hφ) rfl (H' := [_]) rfl ?_
 rintro _ _ _ ⟨rfl, rfl, rfl⟩
 refine wl_pure rfl rfl rfl (freshS_eq rfl) rfl ?_
 refine wl_nil ?_
 refine we_then ?_
 refine wc_keep [9, 3, 0] (S' := [_,_,_]) rfl ?_
 refine wc_cond rfl (fun hb9 => ?_) (fun hb9 => ?_)
 ·
  replace hm := iteT hm hb9
  refine wc_keep [3, 0] (S' := [_,_]) rfl ?_
  refine wc_seq ?_
  refine wc_region ?_
  refine wl_pure rfl rfl rfl (freshS_eq rfl) rfl ?_
  refine wl_fieldAddr rfl rfl rfl (freshS_eq rfl) rfl rfl tF_28_1 ?_
  refine wl_loadH 0 1 rfl rfl rfl (freshS_eq rfl) rfl rfl rfl (cs := [_]) rfl tS_3 tA_3 rfl rfl ?_
  obtain ⟨_, hc13, hm⟩ := bindO_some hm
  try dsimp only at hm
  refine wl_call [] [0] rfl rfl rfl (freshS_eq rfl) rfl rfl fn_13 rfl (w_memory_Memory_Drop_v2_s N a1 hc13) (fun _ _ hφ => ask [] rfl hφ) rfl (H' := [_]) rfl ?_
  rintro _ _ _ ⟨rfl, rfl, rfl⟩
  refine wl_pure rfl rfl rfl (freshS_eq rfl) rfl ?_
  refine wl_pure rfl rfl rfl (freshS_eq rfl) rfl ?_
  refine wl_nil ?_
  refine we_then ?_
  refine wc_keep [5, 4] (S' := [_,_]) rfl ?_
  refine wc_ret ?_
  refine we_then_ret ?_
  have hE := (Option.some.inj hm).symm
  refine ret_two (Hr := []) [] Tryd.results7 (res_tmp rfl) (res_tmp rfl) ⟨rfl, rfl, rfl⟩ (fun _ _ hφ => ask [] rfl hφ) rfl rfl (.inl rfl)
 ·
  replace hm := iteF hm hb9
  refine wc_keep [3, 0] (S' := [_,_]) rfl ?_
  refine wc_skip ?_
  refine we_then ?_
  refine wc_seq ?_
  refine wc_region ?_
  refine wl_pure rfl rfl rfl (freshS_eq rfl) rfl ?_
  refine wl_fieldAddr rfl rfl rfl (freshS_eq rfl) rfl rfl tF_28_2 ?_
  refine wl_loadH 0 2 rfl rfl rfl (freshS_eq rfl) rfl rfl rfl (cs := [_]) rfl tS_3 tA_3 rfl rfl ?_
  refine wl_fieldAddr rfl rfl rfl (freshS_eq rfl) rfl rfl tF_28_3 ?_
  refine wl_loadH 0 3 rfl rfl rfl (freshS_eq rfl) rfl rfl rfl (cs := [_]) rfl tS_26 tA_26 rfl rfl ?_
  obtain ⟨_, hc19, hm⟩ := bindO_some hm
  try dsimp only at hm
  refine wl_call [] [0] rfl rfl rfl (freshS_eq rfl) rfl rfl fn_15 rfl (w_memory_Memory_Add_v3_s N a2 qp0 qc1 l3 hc19) (fun _ _ hφ => ask [0] rfl hφ) rfl (H' := [_]) rfl ?_
  rintro _ _ _ ⟨rfl, rfl, rfl⟩
  refine wl_pure rfl rfl rfl (freshS_eq rfl) rfl ?_
  refine wl_pure rfl rfl rfl (freshS_eq rfl) rfl ?_
  refine wl_pure rfl rfl rfl (freshS_eq rfl) rfl ?_
  refine wl_pure rfl rfl rfl (freshS_eq rfl) rfl ?_
  refine wl_nil ?_
  refine we_then ?_
  refine wc_keep [5, 4] (S' := [_,_]) rfl ?_
  refine wc_ret ?_
  have hE := (Option.some.inj hm).symm
  refine ret_two (Hr := []) [] Tryd.results7 (res_tmp rfl) (res_tmp rfl) ⟨rfl, rfl, rfl⟩ (fun _ _ hφ => ask [] rfl hφ) rfl rfl (.inl rfl)
set_option maxRecDepth 100000 in
set_option maxHeartbeats 4000000 in
theorem w_memory_Memory_Next_v2_s (N : Nat)   (hm : m_memory_Memory_Next_v2 N = some ()) : Spec Tryd.prog 9 [.pointer none] [] [] (fun v Φr Hr => v = .int .i64 0 ∧ Φr = [] ∧ Hr = []) := by
 unfold m_memory_Memory_Next_v2 at hm
 refine spec_of Tryd.func9 rfl Tryd.ntmps9 rfl (S := [_]) rfl (fun C => ?_)
 refine wc_seq ?_
 refine wc_region ?_
 refine wl_pure rfl rfl rfl (freshS_eq rfl) rfl ?_
 refine wl_nil ?_
 refine we_then ?_
 refine wc_keep [0] (S' := [_]) rfl ?_
 refine wc_seq ?_
 refine wc_seq ?_
 refine wc_region ?_
 refine wl_pure rfl rfl rfl (freshS_eq rfl) rfl ?_
 obtain ⟨_, hc4, hm⟩ := bindO_some hm
 try dsimp only at hm
 refine wl_call [] [] rfl rfl rfl (freshS_eq rfl) rfl rfl fn_26 rfl (w_memory_Memory_known_v2_s N  hc4) (fun _ _ hφ => ask [] rfl hφ) rfl (H' := []) rfl ?_
 rintro _ _ _ ⟨rfl, rfl, rfl⟩
 refine wl_pure rfl rfl rfl (freshS_eq rfl) rfl ?_
 refine wl_nil ?_
 refine we_then ?_
 refine wc_keep [5, 0] (S' := [_,_]) rfl ?_
 refine wc_true rfl ?_
 refine wc_keep [] (S' := []) rfl ?_
 refine wc_seq ?_
 refine wc_region ?_
 refine wl_pure rfl rfl rfl (freshS_eq rfl) rfl ?_
 refine wl_nil ?_
 refine we_then ?_
 refine wc_ret ?_
 refine we_then_ret ?_
 have hE := (Option.some.inj hm).symm
 refine ret_one (Hr := []) [] Tryd.results9 (res_tmp rfl) ⟨rfl, rfl, rfl⟩ (fun _ _ hφ => ask [] rfl hφ) rfl rfl (.inl rfl)
set_option maxRecDepth 100000 in
set_option maxHeartbeats 4000000 in
theorem w_memory_Memory_All_v2_s (N : Nat)   (hm : m_memory_Memory_All_v2 N = some ()) : Spec Tryd.prog 10 [.pointer none] [] [] (fun v Φr Hr => v = .slice none 0 0 ∧ Φr = [] ∧ Hr = []) := by
 unfold m_memory_Memory_All_v2 at hm
 refine spec_of Tryd.func10 rfl Tryd.ntmps10 rfl (S := [_]) rfl (fun C => ?_)
 refine wc_seq ?_
 refine wc_region ?_
 refine wl_pure rfl rfl rfl (freshS_eq rfl) rfl ?_
 refine wl_nil ?_
 refine we_then ?_
 refine wc_keep [0] (S' := [_]) rfl ?_
 refine wc_seq ?_
 refine wc_seq ?_
 refine wc_region ?_
 refine wl_pure rfl rfl rfl (freshS_eq rfl) rfl ?_
 obtain ⟨_, hc4, hm⟩ := bindO_some hm
 try dsimp only at hm
 refine wl_call [] [] rfl rfl rfl (freshS_eq rfl) rfl rfl fn_26 rfl (w_memory_Memory_known_v2_s N  hc4) (fun _ _ hφ => ask [] rfl hφ) rfl (H' := []) rfl ?_
 rintro _ _ _ ⟨rfl, rfl, rfl⟩
 refine wl_pure rfl rfl rfl (freshS_eq rfl) rfl ?_
 refine wl_nil ?_
 refine we_then ?_
 refine wc_keep [5, 0] (S' := [_,_]) rfl ?_
 refine wc_true rfl ?_
 refine wc_keep [] (S' := []) rfl ?_
 refine wc_seq ?_
 refine wc_region ?_
 refine wl_pure rfl rfl rfl (freshS_eq rfl) rfl ?_
 refine wl_nil ?_
 refine we_then ?_
 refine wc_ret ?_
 refine we_then_ret ?_
 have hE := (Option.some.inj hm).symm
 refine ret_one (Hr := []) [] Tryd.results10 (res_tmp rfl) ⟨rfl, rfl, rfl⟩ (fun _ _ hφ => ask [] rfl hφ) rfl rfl (.inl rfl)
set_option maxRecDepth 100000 in
set_option maxHeartbeats 4000000 in
theorem w_ropewalkkit_SameValues_s (N : Nat) (qp0 : Option Addr) (qc1 : Nat) (l0 : List V) (qp2 : Option Addr) (qc3 : Nat) (l1 : List V) (o0 : Bool) (hm : m_ropewalkkit_SameValues N l0 l1 = some o0) : Spec Tryd.prog 16 [.slice qp0 l0.length qc1, .slice qp2 l1.length qc3] [.sli 3 R_V qp0 qc1 l0, .sli 3 R_V qp2 qc3 l1] [] (fun v Φr Hr => v = .bool o0 ∧ Φr = [] ∧ Hr = []) := by
 unfold m_ropewalkkit_SameValues at hm
 refine spec_of Tryd.func16 rfl Tryd.ntmps16 rfl (S := [_,_]) rfl (fun C => ?_)
 refine wc_seq ?_
 refine wc_region ?_
 refine wl_pure rfl rfl rfl (freshS_eq rfl) rfl ?_
 refine wl_nil ?_
 refine we_then ?_
 refine wc_keep [0, 1] (S' := [_,_]) rfl ?_
 refine wc_seq ?_
 refine wc_seq ?_
 refine wc_region ?_
 refine wl_pure rfl rfl rfl (freshS_eq rfl) rfl ?_
 refine wl_len rfl rfl rfl (freshS_eq rfl) rfl rfl tE_26 ?_
 refine wl_pure rfl rfl rfl (freshS_eq rfl) rfl ?_
 refine wl_len rfl rfl rfl (freshS_eq rfl) rfl rfl tE_26 ?_
 refine wl_pure rfl rfl rfl (freshS_eq rfl) rfl ?_
 refine wl_as (d := 10) (v' := .bool (l0.length != l1.length)) (S' := [_,_,_,_,_,_]) rfl rfl (natne (a := l0.length) (b := l1.length)) ?_
 refine wl_nil ?_
 refine we_then ?_
 refine wc_keep [10, 0, 1] (S' := [_,_,_]) rfl ?_
 refine wc_cond rfl (fun hb10 => ?_) (fun hb10 => ?_)
 ·
  replace hm := iteT hm hb10
  refine wc_keep [] (S' := []) rfl ?_
  refine wc_seq ?_
  refine wc_region ?_
  refine wl_pure rfl rfl rfl (freshS_eq rfl) rfl ?_
  refine wl_nil ?_
  refine we_then ?_
  refine wc_ret ?_
  refine we_then_ret ?_
  have hE := (Option.some.inj hm).symm
  replace hE := hE.symm
  subst hE
  refine ret_one (Hr := []) [] Tryd.results16 (res_tmp rfl) ⟨rfl, rfl, rfl⟩ (fun _ _ hφ => ask [] rfl hφ) rfl rfl (.inl rfl)
 ·
  replace hm := iteF hm hb10
  refine wc_keep [0, 1] (S' := [_,_]) rfl ?_
  refine wc_skip ?_
  refine we_then ?_
  refine wc_seq ?_
  obtain ⟨bj_1, hm, hLj_1⟩ := bindS_some hm
  refine wc_cut (σ := Unit) (fun _ => bj_1 = .inl ()) (fun _ => []) (fun _ => []) (fun _ => []) ?_ ?_
  ·
   refine wc_seq ?_
   refine wc_region ?_
   refine wl_pure rfl rfl rfl (freshS_eq rfl) rfl ?_
   refine wl_nil ?_
   refine we_then ?_
   refine wc_block ?_
   refine wc_loop (σ := Nat × Nat) (fun (nu1, u1_5) => iter (m_ropewalkkit_SameValues_L1 N l0 l1) nu1 u1_5 = some bj_1) (fun (nu1, u1_5) => nu1) (fun (nu1, u1_5) => [(5, .int .i64 ((u1_5 : Nat) : Int)), (0, .slice qp0 l0.length qc1), (1, .slice qp2 l1.length qc3)]) (fun (nu1, u1_5) => [.sli 3 R_V qp0 qc1 l0, .sli 3 R_V qp2 qc3 l1]) (fun (nu1, u1_5) => []) (N, 0) hm [5, 0, 1] rfl (fun _ _ hφ => ask [0, 1] rfl hφ) rfl (fun s_ hm => ?_)
   obtain ⟨nu1, u1_5⟩ := s_
   try dsimp only at hm ⊢
   obtain ⟨mu1, bu1, hnu1, hq, hLu1⟩ := iter_some hm
   clear hm
   subst hnu1
   replace hm := hq
   clear hq
   unfold m_ropewalkkit_SameValues_L1 at hm
   try dsimp only at hm
   refine wc_seq ?_
   refine wc_seq ?_
   refine wc_region ?_
   refine wl_pure rfl rfl rfl (freshS_eq rfl) rfl ?_
   refine wl_pure rfl rfl rfl (freshS_eq rfl) rfl ?_
   refine wl_len rfl rfl rfl (freshS_eq rfl) rfl rfl tE_26 ?_
   refine wl_pure rfl rfl rfl (freshS_eq rfl) rfl ?_
   refine wl_as (d := 14) (v' := .bool (decide (u1_5 < l0.length))) (S' := [_,_,_,_,_,_]) rfl rfl (natlt (a := u1_5) (b := l0.length)) ?_
   refine wl_nil ?_
   refine we_then ?_
   refine wc_keep [14, 5, 0, 1] (S' := [_,_,_,_]) rfl ?_
   refine wc_cond rfl (fun hb14 => ?_) (fun hb14 => ?_)
   ·
    replace hm := iteT hm hb14
    refine wc_keep [5, 0, 1] (S' := [_,_,_]) rfl ?_
    refine wc_skip ?_
    refine we_then ?_
    refine wc_seq ?_
    refine wc_block ?_
    refine wc_seq ?_
    obtain ⟨x19, hx19, hm⟩ := bindO_some hm
    obtain ⟨x23, hx23, hm⟩ := bindO_some hm
    refine wc_draw [0, 1, 2, 3, 4, 5, 6, 7, 8] rfl rfl (fun hok => ?_)
    refine wx_pure hok 0 rfl rfl rfl (freshS_eq rfl) rfl rfl ?_
    refine wx_pure hok 1 rfl rfl rfl (freshS_eq rfl) rfl rfl ?_
    refine wx_indexA hok 2 0 u1_5 rfl rfl rfl (freshS_eq rfl) rfl rfl rfl rfl rfl rfl hx19 tE_26 tS_55 (fun b19 q19 cs19 hlx19 => ?_)
    refine wx_openR R_V_opens 1 rfl (fun r19 er19 _ => ?_)
    subst er19
    refine wx_load hok 3 0 0 rfl rfl rfl (freshS_eq rfl) rfl rfl rfl rfl (cs := [_,_,_]) rfl tS_55 tA_55 rfl rfl ?_
    refine wx_pure hok 4 rfl rfl rfl (freshS_eq rfl) rfl rfl ?_
    refine wx_pure hok 5 rfl rfl rfl (freshS_eq rfl) rfl rfl ?_
    refine wx_indexA hok 6 3 u1_5 rfl rfl rfl (freshS_eq rfl) rfl rfl rfl rfl rfl rfl hx23 tE_26 tS_55 (fun b23 q23 cs23 hlx23 => ?_)
    refine wx_openR R_V_opens 1 rfl (fun r23 er23 _ => ?_)
    subst er23
    refine wx_load hok 7 0 0 rfl rfl rfl (freshS_eq rfl) rfl rfl rfl rfl (cs := [_,_,_]) rfl tS_55 tA_55 rfl rfl ?_
    refine wx_bin hok 8 rfl rfl rfl (freshS_eq rfl) rfl rfl rfl rfl (neqV _ _ x19 x23) ?_
    refine wx_done hok rfl ?_
    refine we_then ?_
    refine wc_keep [25, 5, 0, 1] (S' := [_,_,_,_]) rfl ?_
    refine wc_cond rfl (fun hb25 => ?_) (fun hb25 => ?_)
    ·
     replace hm := iteT hm hb25
     refine wc_keep [] (S' := []) rfl ?_
     refine wc_seq ?_
     refine wc_region ?_
     refine wl_pure rfl rfl rfl (freshS_eq rfl) rfl ?_
     refine wl_nil ?_
     refine we_then ?_
     refine wc_ret ?_
     refine we_block_ret ?_
     refine we_then_ret ?_
     refine we_then_ret ?_
     refine we_block_ret ?_
     refine we_then_ret ?_
     have hE := (Option.some.inj hm).symm
     replace hE := link_inr hLu1 hE
     replace hE := link_inr hLj_1 hE
     replace hE := hE.symm
     subst hE
     refine ret_one (Hr := []) [] Tryd.results16 (res_tmp rfl) ⟨rfl, rfl, rfl⟩ (fun _ _ hφ => ask [] rfl hφ) rfl rfl (.inl rfl)
    ·
     replace hm := iteF hm hb25
     refine wc_keep [5, 0, 1] (S' := [_,_,_]) rfl ?_
     refine wc_skip ?_
     refine we_block_normal ?_
     refine we_then ?_
     refine wc_region ?_
     refine wl_pure rfl rfl rfl (freshS_eq rfl) rfl ?_
     refine wl_pure rfl rfl rfl (freshS_eq rfl) rfl ?_
     obtain ⟨hg16, hm⟩ := gd_some hm
     refine wl_as (d := 16) (v' := .int .i64 ((u1_5 + 1 : Nat) : Int)) (S' := [_,_,_,_]) rfl rfl (nat_add (a := u1_5) (b := 1) hg16) ?_
     refine wl_pure (S' := [_,_,_,_]) rfl rfl rfl rfl rfl ?_
     refine wl_nil ?_
     have hE := (Option.some.inj hm).symm
     replace hE := link_inl hLu1 hE
     refine we_roundK (_, u1_5 + 1) (Nat.lt_succ_self _) hE [5, 0, 1] rfl (fun _ _ hφ => ask [4, 5] rfl hφ) rfl
   ·
    replace hm := iteF hm hb14
    refine wc_keep [] (S' := []) rfl ?_
    refine wc_exit ?_
    refine we_then_exit ?_
    refine we_then_exit ?_
    refine we_block_hit ?_
    have hE := (Option.some.inj hm).symm
    replace hE := link_inr hLu1 hE
    refine we_join () hE [] rfl (fun _ _ hφ => ask [] rfl hφ) rfl
  ·
   rintro _ hE
   try dsimp only
   have hm := link_inl hLj_1 hE
   try dsimp only at hm
   refine wc_seq ?_
   refine wc_region ?_
   refine wl_pure rfl rfl rfl (freshS_eq rfl) rfl ?_
   refine wl_nil ?_
   refine we_then ?_
   refine wc_ret ?_
   have hE := (Option.some.inj hm).symm
   replace hE := hE.symm
   subst hE
   refine ret_one (Hr := []) [] Tryd.results16 (res_tmp rfl) ⟨rfl, rfl, rfl⟩ (fun _ _ hφ => ask [] rfl hφ) rfl rfl (.inl rfl)
set_option maxRecDepth 100000 in
set_option maxHeartbeats 4000000 in
theorem w_ropewalkkit_SameFact_s (N : Nat) (a0 : Int) (a1 : Int) (qp0 : Option Addr) (qc1 : Nat) (l2 : List V) (a3 : Int) (a4 : Int) (qp2 : Option Addr) (qc3 : Nat) (l5 : List V) (o0 : Bool) (hm : m_ropewalkkit_SameFact N a0 a1 l2 a3 a4 l5 = some o0) : Spec Tryd.prog 20 [.agg #[.int .i64 a0, .int .i64 a1, .slice qp0 l2.length qc1], .agg #[.int .i64 a3, .int .i64 a4, .slice qp2 l5.length qc3]] [.sli 3 R_V qp0 qc1 l2, .sli 3 R_V qp2 qc3 l5] [] (fun v Φr Hr => v = .bool o0 ∧ Φr = [] ∧ Hr = []) := by
 unfold m_ropewalkkit_SameFact at hm
 refine spec_of Tryd.func20 rfl Tryd.ntmps20 rfl (S := [_,_]) rfl (fun C => ?_)
 refine wc_seq ?_
 refine wc_region ?_
 refine wl_box rfl rfl rfl (freshS_eq rfl) rfl rfl rfl (fun g2 => ?_)
 refine wl_box rfl rfl rfl (freshS_eq rfl) rfl rfl rfl (fun g3 => ?_)
 refine wl_pure rfl rfl rfl (freshS_eq rfl) rfl ?_
 refine wl_nil ?_
 refine we_then ?_
 refine wc_keep [3, 2] (S' := [_,_]) rfl ?_
 refine wc_seq ?_
 refine wc_region ?_
 refine wl_fieldAddr rfl rfl rfl (freshS_eq rfl) rfl rfl tF_42_0 ?_
 refine wl_loadH 1 0 rfl rfl rfl (freshS_eq rfl) rfl rfl rfl (cs := [_]) rfl tS_3 tA_3 rfl rfl ?_
 refine wl_fieldAddr rfl rfl rfl (freshS_eq rfl) rfl rfl tF_42_0 ?_
 refine wl_loadH 0 0 rfl rfl rfl (freshS_eq rfl) rfl rfl rfl (cs := [_]) rfl tS_3 tA_3 rfl rfl ?_
 refine wl_pure rfl rfl rfl (freshS_eq rfl) rfl ?_
 refine wl_pure rfl rfl rfl (freshS_eq rfl) rfl ?_
 refine wl_split (d := 10) (S' := [_,_,_,_,_,_,_]) rfl rfl (fun hs10 => ?_) (fun hs10 => ?_)
 ·
  replace hm := iteT hm hs10
  refine wl_fieldAddr rfl rfl rfl (freshS_eq rfl) rfl rfl tF_42_1 ?_
  refine wl_loadH 1 1 rfl rfl rfl (freshS_eq rfl) rfl rfl rfl (cs := [_]) rfl tS_3 tA_3 rfl rfl ?_
  refine wl_fieldAddr rfl rfl rfl (freshS_eq rfl) rfl rfl tF_42_1 ?_
  refine wl_loadH 0 1 rfl rfl rfl (freshS_eq rfl) rfl rfl rfl (cs := [_]) rfl tS_3 tA_3 rfl rfl ?_
  refine wl_pure rfl rfl rfl (freshS_eq rfl) rfl ?_
  refine wl_pure rfl rfl rfl (freshS_eq rfl) rfl ?_
  refine wl_pure rfl rfl rfl (freshS_eq rfl) rfl ?_
  refine wl_split (d := 17) (S' := [_,_,_,_,_,_,_,_,_,_,_,_,_,_]) rfl rfl (fun hs17 => ?_) (fun hs17 => ?_)
  ·
   replace hm := iteT hm hs17
   refine wl_fieldAddr rfl rfl rfl (freshS_eq rfl) rfl rfl tF_42_2 ?_
   refine wl_loadH 1 2 rfl rfl rfl (freshS_eq rfl) rfl rfl rfl (cs := [_]) rfl tS_26 tA_26 rfl rfl ?_
   refine wl_fieldAddr rfl rfl rfl (freshS_eq rfl) rfl rfl tF_42_2 ?_
   refine wl_loadH 0 2 rfl rfl rfl (freshS_eq rfl) rfl rfl rfl (cs := [_]) rfl tS_26 tA_26 rfl rfl ?_
   obtain ⟨v22, hc22, hm⟩ := bindO_some hm
   refine wl_call [] [0, 1] rfl rfl rfl (freshS_eq rfl) rfl rfl fn_16 rfl (w_ropewalkkit_SameValues_s N qp0 qc1 l2 qp2 qc3 l5 _ hc22) (fun _ _ hφ => ask [0, 1] rfl hφ) rfl (H' := [_,_]) rfl ?_
   rintro _ _ _ ⟨rfl, rfl, rfl⟩
   refine wl_pure rfl rfl rfl (freshS_eq rfl) rfl ?_
   refine wl_pure rfl rfl rfl (freshS_eq rfl) rfl ?_
   refine wl_nil ?_
   refine we_then ?_
   refine wc_keep [4] (S' := [_]) rfl ?_
   refine wc_ret ?_
   have hE := (Option.some.inj hm).symm
   replace hE := hE.symm
   subst hE
   refine ret_one (Hr := []) [] Tryd.results20 (res_tmp rfl) ⟨rfl, rfl, rfl⟩ (fun _ _ hφ => ask [] rfl hφ) rfl rfl (.inl rfl)
  ·
   replace hm := iteF hm hs17
   refine wl_off rfl rfl rfl (freshS_eq rfl) ?_
   refine wl_off rfl rfl rfl (freshS_eq rfl) ?_
   refine wl_off rfl rfl rfl (freshS_eq rfl) ?_
   refine wl_off rfl rfl rfl (freshS_eq rfl) ?_
   refine wl_off rfl rfl rfl (freshS_eq rfl) ?_
   refine wl_pure rfl rfl rfl (freshS_eq rfl) rfl ?_
   refine wl_pure rfl rfl rfl (freshS_eq rfl) rfl ?_
   refine wl_nil ?_
   refine we_then ?_
   refine wc_keep [4] (S' := [_]) rfl ?_
   refine wc_ret ?_
   have hE := (Option.some.inj hm).symm
   replace hE := hE.symm
   subst hE
   refine ret_one (Hr := []) [] Tryd.results20 (res_tmp rfl) ⟨rfl, rfl, rfl⟩ (fun _ _ hφ => ask [] rfl hφ) rfl rfl (.inl rfl)
 ·
  replace hm := iteF hm hs10
  refine wl_off rfl rfl rfl (freshS_eq rfl) ?_
  refine wl_off rfl rfl rfl (freshS_eq rfl) ?_
  refine wl_off rfl rfl rfl (freshS_eq rfl) ?_
  refine wl_off rfl rfl rfl (freshS_eq rfl) ?_
  refine wl_off rfl rfl rfl (freshS_eq rfl) ?_
  refine wl_pure rfl rfl rfl (freshS_eq rfl) rfl ?_
  refine wl_pure rfl rfl rfl (freshS_eq rfl) rfl ?_
  refine wl_off rfl rfl rfl (freshS_eq rfl) ?_
  refine wl_off rfl rfl rfl (freshS_eq rfl) ?_
  refine wl_off rfl rfl rfl (freshS_eq rfl) ?_
  refine wl_off rfl rfl rfl (freshS_eq rfl) ?_
  refine wl_off rfl rfl rfl (freshS_eq rfl) ?_
  refine wl_pure rfl rfl rfl (freshS_eq rfl) rfl ?_
  refine wl_pure rfl rfl rfl (freshS_eq rfl) rfl ?_
  refine wl_nil ?_
  refine we_then ?_
  refine wc_keep [4] (S' := [_]) rfl ?_
  refine wc_ret ?_
  have hE := (Option.some.inj hm).symm
  replace hE := hE.symm
  subst hE
  refine ret_one (Hr := []) [] Tryd.results20 (res_tmp rfl) ⟨rfl, rfl, rfl⟩ (fun _ _ hφ => ask [] rfl hφ) rfl rfl (.inl rfl)
set_option maxRecDepth 100000 in
set_option maxHeartbeats 4000000 in
theorem w_ropewalkkit_SameFacts_s (N : Nat) (qp0 : Option Addr) (qn1 : Nat) (qc2 : Nat) (l0 : List FactD) (qp3 : Option Addr) (qc4 : Nat) (l1 : List FactD) (o0 : Bool) (hm : m_ropewalkkit_SameFacts N l0 l1 = some o0) : Spec Tryd.prog 11 [.slice qp0 qn1 qc2, .slice qp3 l1.length qc4] [.sli 3 R_FactD qp3 qc4 l1] [.own 42 3 R_FactD (.slice qp0 qn1 qc2) l0] (fun v Φr Hr => v = .bool o0 ∧ Φr = [] ∧ Hr = [.own 42 3 R_FactD (.slice qp0 qn1 qc2) l0]) := by
 unfold m_ropewalkkit_SameFacts at hm
 refine spec_of Tryd.func11 rfl Tryd.ntmps11 rfl (S := [_,_]) rfl (fun C => ?_)
 refine wc_seq ?_
 refine wc_region ?_
 refine wl_pure rfl rfl rfl (freshS_eq rfl) rfl ?_
 refine wl_nil ?_
 refine we_then ?_
 refine wc_keep [0, 1] (S' := [_,_]) rfl ?_
 refine wc_seq ?_
 refine wc_seq ?_
 refine wc_region ?_
 refine wl_pure rfl rfl rfl (freshS_eq rfl) rfl ?_
 refine wl_ownLen 0 rfl (fun hl7 _ => ?_)
 refine wl_len rfl rfl rfl (freshS_eq rfl) rfl rfl tE_35 ?_
 refine wl_as (d := 7) (v' := .int .i64 ((l0.length : Nat) : Int)) (S' := [_,_,_]) rfl rfl (len_is hl7) ?_
 refine wl_pure rfl rfl rfl (freshS_eq rfl) rfl ?_
 refine wl_len rfl rfl rfl (freshS_eq rfl) rfl rfl tE_35 ?_
 refine wl_pure rfl rfl rfl (freshS_eq rfl) rfl ?_
 refine wl_as (d := 10) (v' := .bool (l0.length != l1.length)) (S' := [_,_,_,_,_,_]) rfl rfl (natne (a := l0.length) (b := l1.length)) ?_
 refine wl_nil ?_
 refine we_then ?_
 refine wc_keep [10, 0, 1] (S' := [_,_,_]) rfl ?_
 refine wc_cond rfl (fun hb10 => ?_) (fun hb10 => ?_)
 ·
  replace hm := iteT hm hb10
  refine wc_keep [] (S' := []) rfl ?_
  refine wc_seq ?_
  refine wc_region ?_
  refine wl_pure rfl rfl rfl (freshS_eq rfl) rfl ?_
  refine wl_nil ?_
  refine we_then ?_
  refine wc_ret ?_
  refine we_then_ret ?_
  have hE := (Option.some.inj hm).symm
  replace hE := hE.symm
  subst hE
  refine ret_one (Hr := [_]) [0] Tryd.results11 (res_tmp rfl) ⟨rfl, rfl, rfl⟩ (fun _ _ hφ => ask [] rfl hφ) rfl rfl (.inl rfl)
 ·
  replace hm := iteF hm hb10
  refine wc_keep [0, 1] (S' := [_,_]) rfl ?_
  refine wc_skip ?_
  refine we_then ?_
  refine wc_seq ?_
  obtain ⟨bj_1, hm, hLj_1⟩ := bindS_some hm
  refine wc_cut (σ := Unit) (fun _ => bj_1 = .inl ()) (fun _ => []) (fun _ => []) (fun _ => [.own 42 3 R_FactD (.slice qp0 qn1 qc2) l0]) ?_ ?_
  ·
   refine wc_seq ?_
   refine wc_region ?_
   refine wl_pure rfl rfl rfl (freshS_eq rfl) rfl ?_
   refine wl_nil ?_
   refine we_then ?_
   refine wc_block ?_
   refine wc_loop (σ := Nat × Nat) (fun (nu1, u1_5) => iter (m_ropewalkkit_SameFacts_L1 N l0 l1) nu1 u1_5 = some bj_1) (fun (nu1, u1_5) => nu1) (fun (nu1, u1_5) => [(5, .int .i64 ((u1_5 : Nat) : Int)), (0, .slice qp0 qn1 qc2), (1, .slice qp3 l1.length qc4)]) (fun (nu1, u1_5) => [.sli 3 R_FactD qp3 qc4 l1]) (fun (nu1, u1_5) => [.own 42 3 R_FactD (.slice qp0 qn1 qc2) l0]) (N, 0) hm [5, 0, 1] rfl (fun _ _ hφ => ask [0] rfl hφ) rfl (fun s_ hm => ?_)
   obtain ⟨nu1, u1_5⟩ := s_
   try dsimp only at hm ⊢
   obtain ⟨mu1, bu1, hnu1, hq, hLu1⟩ := iter_some hm
   clear hm
   subst hnu1
   replace hm := hq
   clear hq
   unfold m_ropewalkkit_SameFacts_L1 at hm
   try dsimp only at hm
   refine wc_seq ?_
   refine wc_seq ?_
   refine wc_region ?_
   refine wl_pure rfl rfl rfl (freshS_eq rfl) rfl ?_
   refine wl_pure rfl rfl rfl (freshS_eq rfl) rfl ?_
   refine wl_ownLen 0 rfl (fun hl13 _ => ?_)
   refine wl_len rfl rfl rfl (freshS_eq rfl) rfl rfl tE_35 ?_
   refine wl_as (d := 13) (v' := .int .i64 ((l0.length : Nat) : Int)) (S' := [_,_,_,_,_]) rfl rfl (len_is hl13) ?_
   refine wl_pure rfl rfl rfl (freshS_eq rfl) rfl ?_
   refine wl_as (d := 14) (v' := .bool (decide (u1_5 < l0.length))) (S' := [_,_,_,_,_,_]) rfl rfl (natlt (a := u1_5) (b := l0.length)) ?_
   refine wl_nil ?_
   refine we_then ?_
   refine wc_keep [14, 5, 0, 1] (S' := [_,_,_,_]) rfl ?_
   refine wc_cond rfl (fun hb14 => ?_) (fun hb14 => ?_)
   ·
    replace hm := iteT hm hb14
    refine wc_keep [5, 0, 1] (S' := [_,_,_]) rfl ?_
    refine wc_skip ?_
    refine we_then ?_
    refine wc_seq ?_
    refine wc_block ?_
    refine wc_seq ?_
    obtain ⟨x19, hx19, hm⟩ := bindO_some hm
    obtain ⟨x23, hx23, hm⟩ := bindO_some hm
    obtain ⟨v25, hc25, hm⟩ := bindO_some hm
    refine wc_draw [0, 1, 2, 4, 5, 6, 7, 9] rfl rfl (fun hok => ?_)
    refine wx_pure hok 0 rfl rfl rfl (freshS_eq rfl) rfl rfl ?_
    refine wx_pure hok 1 rfl rfl rfl (freshS_eq rfl) rfl rfl ?_
    refine wx_indexH hok 2 0 u1_5 rfl rfl rfl (freshS_eq rfl) rfl rfl rfl rfl rfl rfl (get_lt hx19) tE_35 tS_42 (fun g19 eg19 => ?_)
    subst eg19
    refine wx_pure hok 4 rfl rfl rfl (freshS_eq rfl) rfl rfl ?_
    refine wx_pure hok 5 rfl rfl rfl (freshS_eq rfl) rfl rfl ?_
    refine wx_indexA hok 6 0 u1_5 rfl rfl rfl (freshS_eq rfl) rfl rfl rfl rfl rfl rfl hx23 tE_35 tS_42 (fun b23 q23 cs23 hlx23 => ?_)
    refine wx_openR R_FactD_opens 1 rfl (fun r23 er23 _ => ?_)
    subst er23
    refine wx_load hok 7 1 0 rfl rfl rfl (freshS_eq rfl) rfl rfl rfl rfl (cs := [_,_,_]) rfl tS_42 tA_42 rfl rfl ?_
    refine wx_step1 hok 3 rfl rfl rfl rfl ?_
    refine wl_loadRow R_FactD_opens 0 u1_5 0 rfl rfl rfl (freshS_eq rfl) rfl rfl rfl hx19 tS_42 tA_42 (v := fun r20 => .agg #[.int .i64 (x19.id), .int .i64 (x19.ty), .slice r20.1 x19.args.length r20.2]) (fun _ => rfl) (fun _ => rfl) (fun r20 _ => ?_)
    refine wl_nil ?_
    refine we_x [1, 2, 3, 4] [] rfl rfl ?_
    refine wx_step1 hok 8 rfl rfl rfl rfl ?_
    refine wl_call [] [0] rfl rfl rfl (freshS_eq rfl) rfl rfl fn_20 rfl (w_ropewalkkit_SameFact_s N x19.id x19.ty r20.1 r20.2 x19.args x23.id x23.ty r23.1 r23.2 x23.args _ hc25) (fun _ _ hφ => ask [0, 1] rfl hφ) rfl (H' := [_]) rfl ?_
    rintro _ _ _ ⟨rfl, rfl, rfl⟩
    refine wl_nil ?_
    refine we_x [0, 1, 2, 3, 4] [] rfl rfl ?_
    refine wx_pure hok 9 rfl rfl rfl (freshS_eq rfl) rfl rfl ?_
    refine wx_done hok rfl ?_
    refine we_then ?_
    refine wc_keep [26, 5, 0, 1] (S' := [_,_,_,_]) rfl ?_
    refine wc_cond rfl (fun hb26 => ?_) (fun hb26 => ?_)
    ·
     replace hm := iteT hm hb26
     refine wc_keep [] (S' := []) rfl ?_
     refine wc_seq ?_
     refine wc_region ?_
     refine wl_pure rfl rfl rfl (freshS_eq rfl) rfl ?_
     refine wl_nil ?_
     refine we_then ?_
     refine wc_ret ?_
     refine we_block_ret ?_
     refine we_then_ret ?_
     refine we_then_ret ?_
     refine we_block_ret ?_
     refine we_then_ret ?_
     have hE := (Option.some.inj hm).symm
     replace hE := link_inr hLu1 hE
     replace hE := link_inr hLj_1 hE
     replace hE := hE.symm
     subst hE
     refine ret_one (Hr := [_]) [0] Tryd.results11 (res_tmp rfl) ⟨rfl, rfl, rfl⟩ (fun _ _ hφ => ask [] rfl hφ) rfl rfl (.inl rfl)
    ·
     replace hm := iteF hm hb26
     refine wc_keep [5, 0, 1] (S' := [_,_,_]) rfl ?_
     refine wc_skip ?_
     refine we_block_normal ?_
     refine we_then ?_
     refine wc_region ?_
     refine wl_pure rfl rfl rfl (freshS_eq rfl) rfl ?_
     refine wl_pure rfl rfl rfl (freshS_eq rfl) rfl ?_
     obtain ⟨hg16, hm⟩ := gd_some hm
     refine wl_as (d := 16) (v' := .int .i64 ((u1_5 + 1 : Nat) : Int)) (S' := [_,_,_,_]) rfl rfl (nat_add (a := u1_5) (b := 1) hg16) ?_
     refine wl_pure (S' := [_,_,_,_]) rfl rfl rfl rfl rfl ?_
     refine wl_nil ?_
     have hE := (Option.some.inj hm).symm
     replace hE := link_inl hLu1 hE
     refine we_roundK (_, u1_5 + 1) (Nat.lt_succ_self _) hE [5, 0, 1] rfl (fun _ _ hφ => ask [4] rfl hφ) rfl
   ·
    replace hm := iteF hm hb14
    refine wc_keep [] (S' := []) rfl ?_
    refine wc_exit ?_
    refine we_then_exit ?_
    refine we_then_exit ?_
    refine we_block_hit ?_
    have hE := (Option.some.inj hm).symm
    replace hE := link_inr hLu1 hE
    refine we_join () hE [] rfl (fun _ _ hφ => ask [] rfl hφ) rfl
  ·
   rintro _ hE
   try dsimp only
   have hm := link_inl hLj_1 hE
   try dsimp only at hm
   refine wc_seq ?_
   refine wc_region ?_
   refine wl_pure rfl rfl rfl (freshS_eq rfl) rfl ?_
   refine wl_nil ?_
   refine we_then ?_
   refine wc_ret ?_
   have hE := (Option.some.inj hm).symm
   replace hE := hE.symm
   subst hE
   refine ret_one (Hr := [_]) [0] Tryd.results11 (res_tmp rfl) ⟨rfl, rfl, rfl⟩ (fun _ _ hφ => ask [] rfl hφ) rfl rfl (.inl rfl)
set_option maxRecDepth 100000 in
set_option maxHeartbeats 4000000 in
theorem w_ropewalkkit_SameFacts_v2_s (N : Nat) (qp0 : Option Addr) (qn1 : Nat) (qc2 : Nat) (l0 : List FactD) (qp3 : Option Addr) (qn4 : Nat) (qc5 : Nat) (l1 : List FactD) (o0 : Bool) (hm : m_ropewalkkit_SameFacts N l0 l1 = some o0) : Spec Tryd.prog 11 [.slice qp0 qn1 qc2, .slice qp3 qn4 qc5] [] [.own 42 3 R_FactD (.slice qp0 qn1 qc2) l0, .own 42 3 R_FactD (.slice qp3 qn4 qc5) l1] (fun v Φr Hr => v = .bool o0 ∧ Φr = [] ∧ Hr = [.own 42 3 R_FactD (.slice qp0 qn1 qc2) l0, .own 42 3 R_FactD (.slice qp3 qn4 qc5) l1]) := by
 unfold m_ropewalkkit_SameFacts at hm
 refine spec_of Tryd.func11 rfl Tryd.ntmps11 rfl (S := [_,_]) rfl (fun C => ?_)
 refine wc_seq ?_
 refine wc_region ?_
 refine wl_pure rfl rfl rfl (freshS_eq rfl) rfl ?_
 refine wl_nil ?_
 refine we_then ?_
 refine wc_keep [0, 1] (S' := [_,_]) rfl ?_
 refine wc_seq ?_
 refine wc_seq ?_
 refine wc_region ?_
 refine wl_pure rfl rfl rfl (freshS_eq rfl) rfl ?_
 refine wl_ownLen 0 rfl (fun hl7 _ => ?_)
 refine wl_len rfl rfl rfl (freshS_eq rfl) rfl rfl tE_35 ?_
 refine wl_as (d := 7) (v' := .int .i64 ((l0.length : Nat) : Int)) (S' := [_,_,_]) rfl rfl (len_is hl7) ?_
 refine wl_pure rfl rfl rfl (freshS_eq rfl) rfl ?_
 refine wl_ownLen 1 rfl (fun hl9 _ => ?_)
 refine wl_len rfl rfl rfl (freshS_eq rfl) rfl rfl tE_35 ?_
 refine wl_as (d := 9) (v' := .int .i64 ((l1.length : Nat) : Int)) (S' := [_,_,_,_,_]) rfl rfl (len_is hl9) ?_
 refine wl_pure rfl rfl rfl (freshS_eq rfl) rfl ?_
 refine wl_as (d := 10) (v' := .bool (l0.length != l1.length)) (S' := [_,_,_,_,_,_]) rfl rfl (natne (a := l0.length) (b := l1.length)) ?_
 refine wl_nil ?_
 refine we_then ?_
 refine wc_keep [10, 0, 1] (S' := [_,_,_]) rfl ?_
 refine wc_cond rfl (fun hb10 => ?_) (fun hb10 => ?_)
 ·
  replace hm := iteT hm hb10
  refine wc_keep [] (S' := []) rfl ?_
  refine wc_seq ?_
  refine wc_region ?_
  refine wl_pure rfl rfl rfl (freshS_eq rfl) rfl ?_
  refine wl_nil ?_
  refine we_then ?_
  refine wc_ret ?_
  refine we_then_ret ?_
  have hE := (Option.some.inj hm).symm
  replace hE := hE.symm
  subst hE
  refine ret_one (Hr := [_, _]) [0, 1] Tryd.results11 (res_tmp rfl) ⟨rfl, rfl, rfl⟩ (fun _ _ hφ => ask [] rfl hφ) rfl rfl (.inl rfl)
 ·
  replace hm := iteF hm hb10
  refine wc_keep [0, 1] (S' := [_,_]) rfl ?_
  refine wc_skip ?_
  refine we_then ?_
  refine wc_seq ?_
  obtain ⟨bj_1, hm, hLj_1⟩ := bindS_some hm
  refine wc_cut (σ := Unit) (fun _ => bj_1 = .inl ()) (fun _ => []) (fun _ => []) (fun _ => [.own 42 3 R_FactD (.slice qp0 qn1 qc2) l0, .own 42 3 R_FactD (.slice qp3 qn4 qc5) l1]) ?_ ?_
  ·
   refine wc_seq ?_
   refine wc_region ?_
   refine wl_pure rfl rfl rfl (freshS_eq rfl) rfl ?_
   refine wl_nil ?_
   refine we_then ?_
   refine wc_block ?_
   refine wc_loop (σ := Nat × Nat) (fun (nu1, u1_5) => iter (m_ropewalkkit_SameFacts_L1 N l0 l1) nu1 u1_5 = some bj_1) (fun (nu1, u1_5) => nu1) (fun (nu1, u1_5) => [(5, .int .i64 ((u1_5 : Nat) : Int)), (0, .slice qp0 qn1 qc2), (1, .slice qp3 qn4 qc5)]) (fun (nu1, u1_5) => []) (fun (nu1, u1_5) => [.own 42 3 R_FactD (.slice qp0 qn1 qc2) l0, .own 42 3 R_FactD (.slice qp3 qn4 qc5) l1]) (N, 0) hm [5, 0, 1] rfl (fun _ _ hφ => ask [] rfl hφ) rfl (fun s_ hm => ?_)
   obtain ⟨nu1, u1_5⟩ := s_
   try dsimp only at hm ⊢
   obtain ⟨mu1, bu1, hnu1, hq, hLu1⟩ := iter_some hm
   clear hm
   subst hnu1
   replace hm := hq
   clear hq
   unfold m_ropewalkkit_SameFacts_L1 at hm
   try dsimp only at hm
   refine wc_seq ?_
   refine wc_seq ?_
   refine wc_region ?_
   refine wl_pure rfl rfl rfl (freshS_eq rfl) rfl ?_
   refine wl_pure rfl rfl rfl (freshS_eq rfl) rfl ?_
   refine wl_ownLen 0 rfl (fun hl13 _ => ?_)
   refine wl_len rfl rfl rfl (freshS_eq rfl) rfl rfl tE_35 ?_
   refine wl_as (d := 13) (v' := .int .i64 ((l0.length : Nat) : Int)) (S' := [_,_,_,_,_]) rfl rfl (len_is hl13) ?_
   refine wl_pure rfl rfl rfl (freshS_eq rfl) rfl ?_
   refine wl_as (d := 14) (v' := .bool (decide (u1_5 < l0.length))) (S' := [_,_,_,_,_,_]) rfl rfl (natlt (a := u1_5) (b := l0.length)) ?_
   refine wl_nil ?_
   refine we_then ?_
   refine wc_keep [14, 5, 0, 1] (S' := [_,_,_,_]) rfl ?_
   refine wc_cond rfl (fun hb14 => ?_) (fun hb14 => ?_)
   ·
    replace hm := iteT hm hb14
    refine wc_keep [5, 0, 1] (S' := [_,_,_]) rfl ?_
    refine wc_skip ?_
    refine we_then ?_
    refine wc_seq ?_
    refine wc_block ?_
    refine wc_seq ?_
    obtain ⟨x19, hx19, hm⟩ := bindO_some hm
    obtain ⟨x23, hx23, hm⟩ := bindO_some hm
    obtain ⟨v25, hc25, hm⟩ := bindO_some hm
    refine wc_cut (σ := Unit) (fun _ => True) (fun _ => [(26, .bool (!v25)), (5, .int .i64 ((u1_5 : Nat) : Int)), (0, .slice qp0 qn1 qc2), (1, .slice qp3 qn4 qc5)]) (fun _ => []) (fun _ => [.own 42 3 R_FactD (.slice qp0 qn1 qc2) l0, .own 42 3 R_FactD (.slice qp3 qn4 qc5) l1]) ?_ ?_
    ·
     refine wc_draw [0, 1, 2, 4, 5, 6, 9] rfl rfl (fun hok => ?_)
     refine wx_pure hok 0 rfl rfl rfl (freshS_eq rfl) rfl rfl ?_
     refine wx_pure hok 1 rfl rfl rfl (freshS_eq rfl) rfl rfl ?_
     refine wx_indexH hok 2 0 u1_5 rfl rfl rfl (freshS_eq rfl) rfl rfl rfl rfl rfl rfl (get_lt hx19) tE_35 tS_42 (fun g19 eg19 => ?_)
     subst eg19
     refine wx_pure hok 4 rfl rfl rfl (freshS_eq rfl) rfl rfl ?_
     refine wx_pure hok 5 rfl rfl rfl (freshS_eq rfl) rfl rfl ?_
     refine wx_indexH hok 6 1 u1_5 rfl rfl rfl (freshS_eq rfl) rfl rfl rfl rfl rfl rfl (get_lt hx23) tE_35 tS_42 (fun g23 eg23 => ?_)
     subst eg23
     refine wx_step2 hok 3 7 rfl rfl rfl rfl rfl rfl ?_ ?_
     ·
      refine wl_loadRow R_FactD_opens 0 u1_5 0 rfl rfl rfl (freshS_eq rfl) rfl rfl rfl hx19 tS_42 tA_42 (v := fun r20 => .agg #[.int .i64 (x19.id), .int .i64 (x19.ty), .slice r20.1 x19.args.length r20.2]) (fun _ => rfl) (fun _ => rfl) (fun r20 _ => ?_)
      refine wl_nil ?_
      refine we_x [] [] rfl rfl ?_
      refine wx_step1 hok 7 rfl rfl rfl rfl ?_
      refine wl_loadRow R_FactD_opens 1 u1_5 0 rfl rfl rfl (freshS_eq rfl) rfl rfl rfl hx23 tS_42 tA_42 (v := fun r24 => .agg #[.int .i64 (x23.id), .int .i64 (x23.ty), .slice r24.1 x23.args.length r24.2]) (fun _ => rfl) (fun _ => rfl) (fun r24 _ => ?_)
      refine wl_nil ?_
      refine we_x [1] [] rfl rfl ?_
      refine wx_step1 hok 8 rfl rfl rfl rfl ?_
      refine wl_call [] [0, 1] rfl rfl rfl (freshS_eq rfl) rfl rfl fn_20 rfl (w_ropewalkkit_SameFact_s N x19.id x19.ty r20.1 r20.2 x19.args x23.id x23.ty r24.1 r24.2 x23.args _ hc25) (fun _ _ hφ => ask [1, 0] rfl hφ) rfl (H' := [_,_]) rfl ?_
      rintro _ _ _ ⟨rfl, rfl, rfl⟩
      refine wl_nil ?_
      refine we_x [0, 1] [] rfl rfl ?_
      refine wx_pure hok 9 rfl rfl rfl (freshS_eq rfl) rfl rfl ?_
      refine wx_done hok rfl ?_
      refine we_join () trivial [26, 5, 0, 1] rfl (fun _ _ hφ => ask [] rfl hφ) rfl
     ·
      refine wl_loadRow R_FactD_opens 1 u1_5 0 rfl rfl rfl (freshS_eq rfl) rfl rfl rfl hx23 tS_42 tA_42 (v := fun r24 => .agg #[.int .i64 (x23.id), .int .i64 (x23.ty), .slice r24.1 x23.args.length r24.2]) (fun _ => rfl) (fun _ => rfl) (fun r24 _ => ?_)
      refine wl_nil ?_
      refine we_x [] [] rfl rfl ?_
      refine wx_step1 hok 3 rfl rfl rfl rfl ?_
      refine wl_loadRow R_FactD_opens 0 u1_5 0 rfl rfl rfl (freshS_eq rfl) rfl rfl rfl hx19 tS_42 tA_42 (v := fun r20 => .agg #[.int .i64 (x19.id), .int .i64 (x19.ty), .slice r20.1 x19.args.length r20.2]) (fun _ => rfl) (fun _ => rfl) (fun r20 _ => ?_)
      refine wl_nil ?_
      refine we_x [1] [] rfl rfl ?_
      refine wx_step1 hok 8 rfl rfl rfl rfl ?_
      refine wl_call [] [0, 1] rfl rfl rfl (freshS_eq rfl) rfl rfl fn_20 rfl (w_ropewalkkit_SameFact_s N x19.id x19.ty r20.1 r20.2 x19.args x23.id x23.ty r24.1 r24.2 x23.args _ hc25) (fun _ _ hφ => ask [0, 1] rfl hφ) rfl (H' := [_,_]) rfl ?_
      rintro _ _ _ ⟨rfl, rfl, rfl⟩
      refine wl_nil ?_
      refine we_x [0, 1] [] rfl rfl ?_
      refine wx_pure hok 9 rfl rfl rfl (freshS_eq rfl) rfl rfl ?_
      refine wx_done hok rfl ?_
      refine we_join () trivial [26, 5, 0, 1] rfl (fun _ _ hφ => ask [] rfl hφ) rfl
    ·
     rintro _ _
     try dsimp only
     refine wc_cond rfl (fun hb26 => ?_) (fun hb26 => ?_)
     ·
      replace hm := iteT hm hb26
      refine wc_keep [] (S' := []) rfl ?_
      refine wc_seq ?_
      refine wc_region ?_
      refine wl_pure rfl rfl rfl (freshS_eq rfl) rfl ?_
      refine wl_nil ?_
      refine we_then ?_
      refine wc_ret ?_
      refine we_block_ret ?_
      refine we_then_ret ?_
      refine we_then_ret ?_
      refine we_block_ret ?_
      refine we_then_ret ?_
      have hE := (Option.some.inj hm).symm
      replace hE := link_inr hLu1 hE
      replace hE := link_inr hLj_1 hE
      replace hE := hE.symm
      subst hE
      refine ret_one (Hr := [_, _]) [0, 1] Tryd.results11 (res_tmp rfl) ⟨rfl, rfl, rfl⟩ (fun _ _ hφ => ask [] rfl hφ) rfl rfl (.inl rfl)
     ·
      replace hm := iteF hm hb26
      refine wc_keep [5, 0, 1] (S' := [_,_,_]) rfl ?_
      refine wc_skip ?_
      refine we_block_normal ?_
      refine we_then ?_
      refine wc_region ?_
      refine wl_pure rfl rfl rfl (freshS_eq rfl) rfl ?_
      refine wl_pure rfl rfl rfl (freshS_eq rfl) rfl ?_
      obtain ⟨hg16, hm⟩ := gd_some hm
      refine wl_as (d := 16) (v' := .int .i64 ((u1_5 + 1 : Nat) : Int)) (S' := [_,_,_,_]) rfl rfl (nat_add (a := u1_5) (b := 1) hg16) ?_
      refine wl_pure (S' := [_,_,_,_]) rfl rfl rfl rfl rfl ?_
      refine wl_nil ?_
      have hE := (Option.some.inj hm).symm
      replace hE := link_inl hLu1 hE
      refine we_roundK (_, u1_5 + 1) (Nat.lt_succ_self _) hE [5, 0, 1] rfl (fun _ _ hφ => ask [] rfl hφ) rfl
   ·
    replace hm := iteF hm hb14
    refine wc_keep [] (S' := []) rfl ?_
    refine wc_exit ?_
    refine we_then_exit ?_
    refine we_then_exit ?_
    refine we_block_hit ?_
    have hE := (Option.some.inj hm).symm
    replace hE := link_inr hLu1 hE
    refine we_join () hE [] rfl (fun _ _ hφ => ask [] rfl hφ) rfl
  ·
   rintro _ hE
   try dsimp only
   have hm := link_inl hLj_1 hE
   try dsimp only at hm
   refine wc_seq ?_
   refine wc_region ?_
   refine wl_pure rfl rfl rfl (freshS_eq rfl) rfl ?_
   refine wl_nil ?_
   refine we_then ?_
   refine wc_ret ?_
   have hE := (Option.some.inj hm).symm
   replace hE := hE.symm
   subst hE
   refine ret_one (Hr := [_, _]) [0, 1] Tryd.results11 (res_tmp rfl) ⟨rfl, rfl, rfl⟩ (fun _ _ hφ => ask [] rfl hφ) rfl rfl (.inl rfl)
set_option maxRecDepth 100000 in
set_option maxHeartbeats 4000000 in
theorem w_ropewalklaw11_MemoryOf_s (N : Nat) (qp0 : Option Addr) (qc1 : Nat) (l0 : List Ropewalklaw11_DoD) (qp2 : Option Addr) (qc3 : Nat) (l1 : List Ropewalklaw11_DoD) (o0 : Bool) (hm : m_ropewalklaw11_MemoryOf N l0 l1 = some o0) : Spec Tryd.prog 3 [.slice qp0 l0.length qc1, .slice qp2 l1.length qc3] [.sli 4 R_Ropewalklaw11_DoD qp0 qc1 l0, .sli 4 R_Ropewalklaw11_DoD qp2 qc3 l1] [] (fun v Φr Hr => v = .bool o0 ∧ Φr = [] ∧ Hr = []) := by
 unfold m_ropewalklaw11_MemoryOf at hm
 refine spec_of Tryd.func3 rfl Tryd.ntmps3 rfl (S := [_,_]) rfl (fun C => ?_)
 refine wc_seq ?_
 refine wc_region ?_
 refine wl_pure rfl rfl rfl (freshS_eq rfl) rfl ?_
 refine wl_nil ?_
 refine we_then ?_
 refine wc_keep [0, 1] (S' := [_,_]) rfl ?_
 refine wc_seq ?_
 refine wc_seq ?_
 refine wc_region ?_
 obtain ⟨v14, hc14, hm⟩ := bindO_some hm
 refine wl_call [] [] rfl rfl rfl (freshS_eq rfl) rfl rfl fn_5 rfl (w_ropewalklaw11_awake_s N _ hc14) (fun _ _ hφ => ask [] rfl hφ) rfl (H' := []) rfl ?_
 rintro _ _ _ ⟨rfl, rfl, rfl⟩
 refine wl_pure rfl rfl rfl (freshS_eq rfl) rfl ?_
 refine wl_nil ?_
 refine we_then ?_
 refine wc_keep [15, 0, 1] (S' := [_,_,_]) rfl ?_
 refine wc_cond rfl (fun hb15 => ?_) (fun hb15 => ?_)
 ·
  replace hm := iteT hm hb15
  refine wc_keep [] (S' := []) rfl ?_
  refine wc_seq ?_
  refine wc_region ?_
  refine wl_pure rfl rfl rfl (freshS_eq rfl) rfl ?_
  refine wl_nil ?_
  refine we_then ?_
  refine wc_ret ?_
  refine we_then_ret ?_
  have hE := (Option.some.inj hm).symm
  replace hE := hE.symm
  subst hE
  refine ret_one (Hr := []) [] Tryd.results3 (res_tmp rfl) ⟨rfl, rfl, rfl⟩ (fun _ _ hφ => ask [] rfl hφ) rfl rfl (.inl rfl)
 ·
  replace hm := iteF hm hb15
  refine wc_keep [0, 1] (S' := [_,_]) rfl ?_
  refine wc_skip ?_
  refine we_then ?_
  refine wc_seq ?_
  refine wc_region ?_
  obtain ⟨_, hc16, hm⟩ := bindO_some hm
  try dsimp only at hm
  refine wl_call [] [] rfl rfl rfl (freshS_eq rfl) rfl rfl fn_6 rfl (w_memory_New_s N  hc16) (fun _ _ hφ => ask [] rfl hφ) rfl (H' := []) rfl ?_
  rintro _ _ _ ⟨c16_0, rfl, rfl, rfl⟩
  refine wl_pure rfl rfl rfl (freshS_eq rfl) rfl ?_
  refine wl_nil ?_
  refine we_then ?_
  refine wc_keep [5, 0, 1] (S' := [_,_,_]) rfl ?_
  refine wc_seq ?_
  obtain ⟨bj_1, hm, hLj_1⟩ := bindS_some hm
  refine wc_cut (σ := (List FactD) × Int × (Option Addr) × Nat × Nat) (fun (j_1_5_f0_l, j_1_5_f1, j_1_5_f0_p, j_1_5_f0_c, j_1_5_f0_n) => bj_1 = .inl (j_1_5_f0_l, j_1_5_f1)) (fun (j_1_5_f0_l, j_1_5_f1, j_1_5_f0_p, j_1_5_f0_c, j_1_5_f0_n) => [(5, .pointer (some ⟨c16_0, 0, none⟩)), (1, .slice qp2 l1.length qc3)]) (fun (j_1_5_f0_l, j_1_5_f1, j_1_5_f0_p, j_1_5_f0_c, j_1_5_f0_n) => [.sli 4 R_Ropewalklaw11_DoD qp2 qc3 l1]) (fun (j_1_5_f0_l, j_1_5_f1, j_1_5_f0_p, j_1_5_f0_c, j_1_5_f0_n) => [.blk c16_0 [.slice j_1_5_f0_p j_1_5_f0_n j_1_5_f0_c, .int .i64 j_1_5_f1] 60, .own 42 3 R_FactD (.slice j_1_5_f0_p j_1_5_f0_n j_1_5_f0_c) j_1_5_f0_l]) ?_ ?_
  ·
   refine wc_seq ?_
   refine wc_region ?_
   refine wl_pure rfl rfl rfl (freshS_eq rfl) rfl ?_
   refine wl_nil ?_
   refine we_then ?_
   refine wc_block ?_
   refine wc_rowNil 42 3 R_FactD ?_
   refine wc_pick [1, 0] rfl (H' := [_,_]) rfl ?_
   refine wc_loop (σ := Nat × Nat × (List FactD) × Int × (Option Addr) × Nat × Nat) (fun (nu1, u1_6, u1_5_f0_l, u1_5_f1, u1_5_f0_p, u1_5_f0_c, u1_5_f0_n) => iter (m_ropewalklaw11_MemoryOf_L1 N l0) nu1 (u1_6, u1_5_f0_l, u1_5_f1) = some bj_1) (fun (nu1, u1_6, u1_5_f0_l, u1_5_f1, u1_5_f0_p, u1_5_f0_c, u1_5_f0_n) => nu1) (fun (nu1, u1_6, u1_5_f0_l, u1_5_f1, u1_5_f0_p, u1_5_f0_c, u1_5_f0_n) => [(6, .int .i64 ((u1_6 : Nat) : Int)), (5, .pointer (some ⟨c16_0, 0, none⟩)), (0, .slice qp0 l0.length qc1), (1, .slice qp2 l1.length qc3)]) (fun (nu1, u1_6, u1_5_f0_l, u1_5_f1, u1_5_f0_p, u1_5_f0_c, u1_5_f0_n) => [.sli 4 R_Ropewalklaw11_DoD qp0 qc1 l0, .sli 4 R_Ropewalklaw11_DoD qp2 qc3 l1]) (fun (nu1, u1_6, u1_5_f0_l, u1_5_f1, u1_5_f0_p, u1_5_f0_c, u1_5_f0_n) => [.blk c16_0 [.slice u1_5_f0_p u1_5_f0_n u1_5_f0_c, .int .i64 u1_5_f1] 60, .own 42 3 R_FactD (.slice u1_5_f0_p u1_5_f0_n u1_5_f0_c) u1_5_f0_l]) (N, 0, [], 1, none, 0, 0) hm [6, 5, 0, 1] rfl (fun _ _ hφ => ask [0, 1] rfl hφ) rfl (fun s_ hm => ?_)
   obtain ⟨nu1, u1_6, u1_5_f0_l, u1_5_f1, u1_5_f0_p, u1_5_f0_c, u1_5_f0_n⟩ := s_
   try dsimp only at hm ⊢
   obtain ⟨mu1, bu1, hnu1, hq, hLu1⟩ := iter_some hm
   clear hm
   subst hnu1
   replace hm := hq
   clear hq
   unfold m_ropewalklaw11_MemoryOf_L1 at hm
   try dsimp only at hm
   refine wc_seq ?_
   refine wc_seq ?_
   obtain ⟨bj_2, hm, hLj_2⟩ := bindO_some hm
   refine wc_cut (σ := Bool) (fun j_2_24 => bj_2 = j_2_24) (fun j_2_24 => [(6, .int .i64 ((u1_6 : Nat) : Int)), (5, .pointer (some ⟨c16_0, 0, none⟩)), (0, .slice qp0 l0.length qc1), (1, .slice qp2 l1.length qc3), (24, .bool j_2_24)]) (fun j_2_24 => [.sli 4 R_Ropewalklaw11_DoD qp0 qc1 l0, .sli 4 R_Ropewalklaw11_DoD qp2 qc3 l1]) (fun j_2_24 => [.blk c16_0 [.slice u1_5_f0_p u1_5_f0_n u1_5_f0_c, .int .i64 u1_5_f1] 60, .own 42 3 R_FactD (.slice u1_5_f0_p u1_5_f0_n u1_5_f0_c) u1_5_f0_l]) ?_ ?_
   ·
    refine wc_region ?_
    refine wl_pure rfl rfl rfl (freshS_eq rfl) rfl ?_
    refine wl_pure rfl rfl rfl (freshS_eq rfl) rfl ?_
    refine wl_len rfl rfl rfl (freshS_eq rfl) rfl rfl tE_22 ?_
    refine wl_pure rfl rfl rfl (freshS_eq rfl) rfl ?_
    refine wl_as (d := 20) (v' := .bool (decide (u1_6 < l0.length))) (S' := [_,_,_,_,_,_,_]) rfl rfl (natlt (a := u1_6) (b := l0.length)) ?_
    refine wl_pure rfl rfl rfl (freshS_eq rfl) rfl ?_
    refine wl_split (d := 21) (S' := [_,_,_,_,_,_,_,_]) rfl rfl (fun hs21 => ?_) (fun hs21 => ?_)
    ·
     replace hm := iteT hm hs21
     refine wl_pure rfl rfl rfl (freshS_eq rfl) rfl ?_
     refine wl_pure rfl rfl rfl (freshS_eq rfl) rfl ?_
     refine wl_as (d := 23) (v' := .bool (decide (u1_6 < 120))) (S' := [_,_,_,_,_,_,_,_,_,_]) rfl rfl (natlt (a := u1_6) (b := 120)) ?_
     refine wl_pure rfl rfl rfl (freshS_eq rfl) rfl ?_
     refine wl_nil ?_
     have hE := (Option.some.inj hm).symm
     refine we_join (decide (u1_6 < 120)) hE [6, 5, 0, 1, 24] rfl (fun _ _ hφ => ask [0, 1] rfl hφ) rfl
    ·
     replace hm := iteF hm hs21
     refine wl_off rfl rfl rfl (freshS_eq rfl) ?_
     refine wl_off rfl rfl rfl (freshS_eq rfl) ?_
     refine wl_pure rfl rfl rfl (freshS_eq rfl) rfl ?_
     refine wl_nil ?_
     have hE := (Option.some.inj hm).symm
     refine we_join false hE [6, 5, 0, 1, 24] rfl (fun _ _ hφ => ask [0, 1] rfl hφ) rfl
   ·
    rintro j_2_24 hE
    try dsimp only
    have hm := hLj_2
    rw [hE] at hm
    refine wc_cond rfl (fun hb24 => ?_) (fun hb24 => ?_)
    ·
     replace hm := iteT hm hb24
     refine wc_keep [6, 5, 0, 1] (S' := [_,_,_,_]) rfl ?_
     refine wc_skip ?_
     refine we_then ?_
     refine wc_seq ?_
     refine wc_block ?_
     refine wc_seq ?_
     refine wc_seq ?_
     refine wc_region ?_
     refine wl_pure rfl rfl rfl (freshS_eq rfl) rfl ?_
     refine wl_pure rfl rfl rfl (freshS_eq rfl) rfl ?_
     obtain ⟨x29, hx29, hm⟩ := bindO_some hm
     refine wl_indexA 0 u1_6 rfl rfl rfl (freshS_eq rfl) rfl rfl rfl rfl rfl hx29 tE_22 tS_28 (fun b29 q29 cs29 hlx29 => ?_)
     refine wl_open R_Ropewalklaw11_DoD_opens 1 rfl (fun r29 er29 _ => ?_)
     subst er29
     refine wl_fieldAddr rfl rfl rfl (freshS_eq rfl) rfl rfl tF_28_3 ?_
     refine wl_load 1 3 rfl rfl rfl (freshS_eq rfl) rfl rfl rfl (cs := [_]) rfl tS_26 tA_26 rfl rfl ?_
     refine wl_len rfl rfl rfl (freshS_eq rfl) rfl rfl tE_26 ?_
     refine wl_pure rfl rfl rfl (freshS_eq rfl) rfl ?_
     refine wl_as (d := 33) (v' := .bool (decide (20 < x29.args.length))) (S' := [_,_,_,_,_,_,_,_,_,_]) rfl rfl (natgt (a := x29.args.length) (b := 20)) ?_
     refine wl_nil ?_
     refine we_then ?_
     refine wc_keep [33, 6, 5, 0, 1] (S' := [_,_,_,_,_]) rfl ?_
     refine wc_cond rfl (fun hb33 => ?_) (fun hb33 => ?_)
     ·
      replace hm := iteT hm hb33
      refine wc_keep [] (S' := []) rfl ?_
      refine wc_seq ?_
      refine wc_region ?_
      refine wl_pure rfl rfl rfl (freshS_eq rfl) rfl ?_
      refine wl_nil ?_
      refine we_then ?_
      refine wc_ret ?_
      refine we_then_ret ?_
      refine we_block_ret ?_
      refine we_then_ret ?_
      refine we_then_ret ?_
      refine we_block_ret ?_
      refine we_then_ret ?_
      have hE := (Option.some.inj hm).symm
      replace hE := link_inr hLu1 hE
      replace hE := link_inr hLj_1 hE
      replace hE := hE.symm
      subst hE
      refine ret_one (Hr := []) [] Tryd.results3 (res_tmp rfl) ⟨rfl, rfl, rfl⟩ (fun _ _ hφ => ask [] rfl hφ) rfl rfl (.inl rfl)
     ·
      replace hm := iteF hm hb33
      refine wc_keep [6, 5, 0, 1] (S' := [_,_,_,_]) rfl ?_
      refine wc_skip ?_
      refine we_then ?_
      refine wc_region ?_
      refine wl_pure rfl rfl rfl (freshS_eq rfl) rfl ?_
      refine wl_pure rfl rfl rfl (freshS_eq rfl) rfl ?_
      refine wl_pure rfl rfl rfl (freshS_eq rfl) rfl ?_
      obtain ⟨x37, hx37, hm⟩ := bindO_some hm
      refine wl_indexA 3 u1_6 rfl rfl rfl (freshS_eq rfl) rfl rfl rfl rfl rfl hx37 tE_22 tS_28 (fun b37 q37 cs37 hlx37 => ?_)
      refine wl_open R_Ropewalklaw11_DoD_opens 1 rfl (fun r37 er37 _ => ?_)
      subst er37
      refine wl_load 1 0 rfl rfl rfl (freshS_eq rfl) rfl rfl rfl (cs := [_,_,_,_]) rfl tS_28 tA_28 rfl rfl ?_
      obtain ⟨⟨v39_0, v39_1, v39_2, v39_3⟩, hc39, hm⟩ := bindO_some hm
      try dsimp only at hm
      refine wl_call [0, 1] [] rfl rfl rfl (freshS_eq rfl) rfl rfl fn_7 rfl (w_ropewalklaw11_do_s N c16_0 u1_5_f0_p u1_5_f0_n u1_5_f0_c u1_5_f0_l u1_5_f1 x37.op x37.id x37.type r37.1 r37.2 x37.args _ _ _ _ hc39) (fun _ _ hφ => ask [0] rfl hφ) rfl (H' := []) rfl ?_
      rintro _ _ _ ⟨p39_0, c39_1, c39_2, rfl, rfl, rfl⟩
      refine wl_nil ?_
      refine we_block_normal ?_
      refine we_then ?_
      refine wc_keep [6, 5, 0, 1] (S' := [_,_,_,_]) rfl ?_
      refine wc_region ?_
      refine wl_pure rfl rfl rfl (freshS_eq rfl) rfl ?_
      refine wl_pure rfl rfl rfl (freshS_eq rfl) rfl ?_
      obtain ⟨hg26, hm⟩ := gd_some hm
      refine wl_as (d := 26) (v' := .int .i64 ((u1_6 + 1 : Nat) : Int)) (S' := [_,_,_,_,_]) rfl rfl (nat_add (a := u1_6) (b := 1) hg26) ?_
      refine wl_pure (S' := [_,_,_,_,_]) rfl rfl rfl rfl rfl ?_
      refine wl_nil ?_
      have hE := (Option.some.inj hm).symm
      replace hE := link_inl hLu1 hE
      refine we_roundK (_, u1_6 + 1, v39_2, v39_3, p39_0, c39_1, c39_2) (Nat.lt_succ_self _) hE [6, 5, 0, 1] rfl (fun _ _ hφ => ask [6, 7] rfl hφ) rfl
    ·
     replace hm := iteF hm hb24
     refine wc_keep [5, 1] (S' := [_,_]) rfl ?_
     refine wc_exit ?_
     refine we_then_exit ?_
     refine we_then_exit ?_
     refine we_block_hit ?_
     have hE := (Option.some.inj hm).symm
     replace hE := link_inr hLu1 hE
     refine we_join (u1_5_f0_l, u1_5_f1, u1_5_f0_p, u1_5_f0_c, u1_5_f0_n) hE [5, 1] rfl (fun _ _ hφ => ask [1] rfl hφ) rfl
  ·
   rintro ⟨j_1_5_f0_l, j_1_5_f1, j_1_5_f0_p, j_1_5_f0_c, j_1_5_f0_n⟩ hE
   try dsimp only
   have hm := link_inl hLj_1 hE
   try dsimp only at hm
   refine wc_seq ?_
   refine wc_region ?_
   refine wl_pure rfl rfl rfl (freshS_eq rfl) rfl ?_
   obtain ⟨v42, hc42, hm⟩ := bindO_some hm
   refine wl_call [0, 1] [] rfl rfl rfl (freshS_eq rfl) rfl rfl fn_9 rfl (w_memory_Memory_Next_s N c16_0 j_1_5_f0_p j_1_5_f0_n j_1_5_f0_c j_1_5_f0_l j_1_5_f1 _ hc42) (fun _ _ hφ => ask [] rfl hφ) rfl (H' := []) rfl ?_
   rintro _ _ _ ⟨rfl, rfl, rfl⟩
   refine wl_pure rfl rfl rfl (freshS_eq rfl) rfl ?_
   obtain ⟨v44, hc44, hm⟩ := bindO_some hm
   refine wl_call [0, 1] [] rfl rfl rfl (freshS_eq rfl) rfl rfl fn_10 rfl (w_memory_Memory_All_s N c16_0 j_1_5_f0_p j_1_5_f0_n j_1_5_f0_c j_1_5_f0_l j_1_5_f1 _ hc44) (fun _ _ hφ => ask [] rfl hφ) rfl (H' := []) rfl ?_
   rintro _ _ _ ⟨p44_0, c44_1, c44_2, rfl, rfl, rfl⟩
   obtain ⟨_ | v45, hc45, hm⟩ := bindO_some hm
   ·
    try dsimp only at hm
    refine wl_call [0] [1, 2] rfl rfl rfl (freshS_eq rfl) rfl rfl fn_8 rfl (w_memory_Of_s0 N v42 p44_0 c44_2 c44_1 v44 hc45) (fun _ _ hφ => ask [] rfl hφ) rfl (H' := [_,_]) rfl ?_
    rintro _ _ _ ⟨rfl, rfl, rfl⟩
    refine wl_pure rfl rfl rfl (freshS_eq rfl) rfl ?_
    refine wl_pure rfl rfl rfl (freshS_eq rfl) rfl ?_
    refine wl_pure rfl rfl rfl (freshS_eq rfl) rfl ?_
    refine wl_pure rfl rfl rfl (freshS_eq rfl) rfl ?_
    refine wl_pure rfl rfl rfl (freshS_eq rfl) rfl ?_
    refine wl_nil ?_
    refine we_then ?_
    refine wc_keep [8, 7, 5, 1] (S' := [_,_,_,_]) rfl ?_
    refine wc_seq ?_
    refine wc_seq ?_
    refine wc_region ?_
    refine wl_pure rfl rfl rfl (freshS_eq rfl) rfl ?_
    refine wl_pure rfl rfl rfl (freshS_eq rfl) rfl ?_
    refine wl_as (d := 49) (v' := .bool (4 != 0)) (S' := [_,_,_,_,_]) rfl rfl (natne (a := 4) (b := 0)) ?_
    refine wl_nil ?_
    refine we_then ?_
    refine wc_keep [49, 7, 5, 1] (S' := [_,_,_,_]) rfl ?_
    refine wc_cond rfl (fun hb49 => ?_) (fun hb49 => ?_)
    ·
     replace hm := iteT hm hb49
     refine wc_keep [] (S' := []) rfl ?_
     refine wc_seq ?_
     refine wc_region ?_
     refine wl_pure rfl rfl rfl (freshS_eq rfl) rfl ?_
     refine wl_nil ?_
     refine we_then ?_
     refine wc_ret ?_
     refine we_then_ret ?_
     have hE := (Option.some.inj hm).symm
     replace hE := hE.symm
     subst hE
     refine ret_one (Hr := []) [] Tryd.results3 (res_tmp rfl) ⟨rfl, rfl, rfl⟩ (fun _ _ hφ => ask [] rfl hφ) rfl rfl (.inl rfl)
    ·
     replace hm := iteF hm hb49
     refine wc_keep [7, 5, 1] (S' := [_,_,_]) rfl ?_
     refine wc_skip ?_
     refine we_then ?_
     refine wc_seq ?_
     obtain ⟨bj_4, hm, hLj_4⟩ := bindS_some hm
     refine wc_cut (σ := (List FactD) × Int × (Option Addr) × Nat × Nat) (fun (j_4_5_f0_l, j_4_5_f1, j_4_5_f0_p, j_4_5_f0_c, j_4_5_f0_n) => bj_4 = .inl (j_4_5_f0_l, j_4_5_f1)) (fun (j_4_5_f0_l, j_4_5_f1, j_4_5_f0_p, j_4_5_f0_c, j_4_5_f0_n) => [(7, .pointer none), (5, .pointer (some ⟨c16_0, 0, none⟩))]) (fun (j_4_5_f0_l, j_4_5_f1, j_4_5_f0_p, j_4_5_f0_c, j_4_5_f0_n) => []) (fun (j_4_5_f0_l, j_4_5_f1, j_4_5_f0_p, j_4_5_f0_c, j_4_5_f0_n) => [.blk c16_0 [.slice j_4_5_f0_p j_4_5_f0_n j_4_5_f0_c, .int .i64 j_4_5_f1] 60, .own 42 3 R_FactD (.slice j_4_5_f0_p j_4_5_f0_n j_4_5_f0_c) j_4_5_f0_l]) ?_ ?_
     ·
      refine wc_seq ?_
      refine wc_region ?_
      refine wl_pure rfl rfl rfl (freshS_eq rfl) rfl ?_
      refine wl_nil ?_
      refine we_then ?_
      refine wc_block ?_
      refine wc_pick [1, 2] rfl (H' := [_,_]) rfl ?_
      refine wc_loop (σ := Nat × Nat × (List FactD) × Int × (Option Addr) × Nat × Nat) (fun (nu2, u2_9, u2_5_f0_l, u2_5_f1, u2_5_f0_p, u2_5_f0_c, u2_5_f0_n) => iter (m_ropewalklaw11_MemoryOf_L2 N l1) nu2 (u2_9, u2_5_f0_l, u2_5_f1) = some bj_4) (fun (nu2, u2_9, u2_5_f0_l, u2_5_f1, u2_5_f0_p, u2_5_f0_c, u2_5_f0_n) => nu2) (fun (nu2, u2_9, u2_5_f0_l, u2_5_f1, u2_5_f0_p, u2_5_f0_c, u2_5_f0_n) => [(9, .int .i64 ((u2_9 : Nat) : Int)), (7, .pointer none), (5, .pointer (some ⟨c16_0, 0, none⟩)), (1, .slice qp2 l1.length qc3)]) (fun (nu2, u2_9, u2_5_f0_l, u2_5_f1, u2_5_f0_p, u2_5_f0_c, u2_5_f0_n) => [.sli 4 R_Ropewalklaw11_DoD qp2 qc3 l1]) (fun (nu2, u2_9, u2_5_f0_l, u2_5_f1, u2_5_f0_p, u2_5_f0_c, u2_5_f0_n) => [.blk c16_0 [.slice u2_5_f0_p u2_5_f0_n u2_5_f0_c, .int .i64 u2_5_f1] 60, .own 42 3 R_FactD (.slice u2_5_f0_p u2_5_f0_n u2_5_f0_c) u2_5_f0_l]) (N, 0, j_1_5_f0_l, j_1_5_f1, j_1_5_f0_p, j_1_5_f0_c, j_1_5_f0_n) hm [9, 7, 5, 1] rfl (fun _ _ hφ => ask [0] rfl hφ) rfl (fun s_ hm => ?_)
      obtain ⟨nu2, u2_9, u2_5_f0_l, u2_5_f1, u2_5_f0_p, u2_5_f0_c, u2_5_f0_n⟩ := s_
      try dsimp only at hm ⊢
      obtain ⟨mu2, bu2, hnu2, hq, hLu2⟩ := iter_some hm
      clear hm
      subst hnu2
      replace hm := hq
      clear hq
      unfold m_ropewalklaw11_MemoryOf_L2 at hm
      try dsimp only at hm
      refine wc_seq ?_
      refine wc_seq ?_
      obtain ⟨bj_5, hm, hLj_5⟩ := bindO_some hm
      refine wc_cut (σ := Bool) (fun j_5_57 => bj_5 = j_5_57) (fun j_5_57 => [(9, .int .i64 ((u2_9 : Nat) : Int)), (7, .pointer none), (5, .pointer (some ⟨c16_0, 0, none⟩)), (1, .slice qp2 l1.length qc3), (57, .bool j_5_57)]) (fun j_5_57 => [.sli 4 R_Ropewalklaw11_DoD qp2 qc3 l1]) (fun j_5_57 => [.blk c16_0 [.slice u2_5_f0_p u2_5_f0_n u2_5_f0_c, .int .i64 u2_5_f1] 60, .own 42 3 R_FactD (.slice u2_5_f0_p u2_5_f0_n u2_5_f0_c) u2_5_f0_l]) ?_ ?_
      ·
       refine wc_region ?_
       refine wl_pure rfl rfl rfl (freshS_eq rfl) rfl ?_
       refine wl_pure rfl rfl rfl (freshS_eq rfl) rfl ?_
       refine wl_len rfl rfl rfl (freshS_eq rfl) rfl rfl tE_22 ?_
       refine wl_pure rfl rfl rfl (freshS_eq rfl) rfl ?_
       refine wl_as (d := 53) (v' := .bool (decide (u2_9 < l1.length))) (S' := [_,_,_,_,_,_,_]) rfl rfl (natlt (a := u2_9) (b := l1.length)) ?_
       refine wl_pure rfl rfl rfl (freshS_eq rfl) rfl ?_
       refine wl_split (d := 54) (S' := [_,_,_,_,_,_,_,_]) rfl rfl (fun hs54 => ?_) (fun hs54 => ?_)
       ·
        replace hm := iteT hm hs54
        refine wl_pure rfl rfl rfl (freshS_eq rfl) rfl ?_
        refine wl_pure rfl rfl rfl (freshS_eq rfl) rfl ?_
        refine wl_as (d := 56) (v' := .bool (decide (u2_9 < 120))) (S' := [_,_,_,_,_,_,_,_,_,_]) rfl rfl (natlt (a := u2_9) (b := 120)) ?_
        refine wl_pure rfl rfl rfl (freshS_eq rfl) rfl ?_
        refine wl_nil ?_
        have hE := (Option.some.inj hm).symm
        refine we_join (decide (u2_9 < 120)) hE [9, 7, 5, 1, 57] rfl (fun _ _ hφ => ask [0] rfl hφ) rfl
       ·
        replace hm := iteF hm hs54
        refine wl_off rfl rfl rfl (freshS_eq rfl) ?_
        refine wl_off rfl rfl rfl (freshS_eq rfl) ?_
        refine wl_pure rfl rfl rfl (freshS_eq rfl) rfl ?_
        refine wl_nil ?_
        have hE := (Option.some.inj hm).symm
        refine we_join false hE [9, 7, 5, 1, 57] rfl (fun _ _ hφ => ask [0] rfl hφ) rfl
      ·
       rintro j_5_57 hE
       try dsimp only
       have hm := hLj_5
       rw [hE] at hm
       refine wc_cond rfl (fun hb57 => ?_) (fun hb57 => ?_)
       ·
        replace hm := iteT hm hb57
        refine wc_keep [9, 7, 5, 1] (S' := [_,_,_,_]) rfl ?_
        refine wc_skip ?_
        refine we_then ?_
        refine wc_seq ?_
        refine wc_block ?_
        refine wc_seq ?_
        refine wc_seq ?_
        refine wc_region ?_
        refine wl_pure rfl rfl rfl (freshS_eq rfl) rfl ?_
        refine wl_pure rfl rfl rfl (freshS_eq rfl) rfl ?_
        obtain ⟨x62, hx62, hm⟩ := bindO_some hm
        refine wl_indexA 0 u2_9 rfl rfl rfl (freshS_eq rfl) rfl rfl rfl rfl rfl hx62 tE_22 tS_28 (fun b62 q62 cs62 hlx62 => ?_)
        refine wl_open R_Ropewalklaw11_DoD_opens 1 rfl (fun r62 er62 _ => ?_)
        subst er62
        refine wl_fieldAddr rfl rfl rfl (freshS_eq rfl) rfl rfl tF_28_3 ?_
        refine wl_load 1 3 rfl rfl rfl (freshS_eq rfl) rfl rfl rfl (cs := [_]) rfl tS_26 tA_26 rfl rfl ?_
        refine wl_len rfl rfl rfl (freshS_eq rfl) rfl rfl tE_26 ?_
        refine wl_pure rfl rfl rfl (freshS_eq rfl) rfl ?_
        refine wl_as (d := 66) (v' := .bool (decide (20 < x62.args.length))) (S' := [_,_,_,_,_,_,_,_,_,_]) rfl rfl (natgt (a := x62.args.length) (b := 20)) ?_
        refine wl_nil ?_
        refine we_then ?_
        refine wc_keep [66, 9, 7, 5, 1] (S' := [_,_,_,_,_]) rfl ?_
        refine wc_cond rfl (fun hb66 => ?_) (fun hb66 => ?_)
        ·
         replace hm := iteT hm hb66
         refine wc_keep [] (S' := []) rfl ?_
         refine wc_seq ?_
         refine wc_region ?_
         refine wl_pure rfl rfl rfl (freshS_eq rfl) rfl ?_
         refine wl_nil ?_
         refine we_then ?_
         refine wc_ret ?_
         refine we_then_ret ?_
         refine we_block_ret ?_
         refine we_then_ret ?_
         refine we_then_ret ?_
         refine we_block_ret ?_
         refine we_then_ret ?_
         have hE := (Option.some.inj hm).symm
         replace hE := link_inr hLu2 hE
         replace hE := link_inr hLj_4 hE
         replace hE := hE.symm
         subst hE
         refine ret_one (Hr := []) [] Tryd.results3 (res_tmp rfl) ⟨rfl, rfl, rfl⟩ (fun _ _ hφ => ask [] rfl hφ) rfl rfl (.inl rfl)
        ·
         replace hm := iteF hm hb66
         refine wc_keep [9, 7, 5, 1] (S' := [_,_,_,_]) rfl ?_
         refine wc_skip ?_
         refine we_then ?_
         refine wc_seq ?_
         refine wc_region ?_
         refine wl_pure rfl rfl rfl (freshS_eq rfl) rfl ?_
         refine wl_pure rfl rfl rfl (freshS_eq rfl) rfl ?_
         refine wl_pure rfl rfl rfl (freshS_eq rfl) rfl ?_
         obtain ⟨x71, hx71, hm⟩ := bindO_some hm
         refine wl_indexA 3 u2_9 rfl rfl rfl (freshS_eq rfl) rfl rfl rfl rfl rfl hx71 tE_22 tS_28 (fun b71 q71 cs71 hlx71 => ?_)
         refine wl_open R_Ropewalklaw11_DoD_opens 1 rfl (fun r71 er71 _ => ?_)
         subst er71
         refine wl_load 1 0 rfl rfl rfl (freshS_eq rfl) rfl rfl rfl (cs := [_,_,_,_]) rfl tS_28 tA_28 rfl rfl ?_
         obtain ⟨⟨v73_0, v73_1, v73_2, v73_3⟩, hc73, hm⟩ := bindO_some hm
         try dsimp only at hm
         refine wl_call [0, 1] [] rfl rfl rfl (freshS_eq rfl) rfl rfl fn_7 rfl (w_ropewalklaw11_do_s N c16_0 u2_5_f0_p u2_5_f0_n u2_5_f0_c u2_5_f0_l u2_5_f1 x71.op x71.id x71.type r71.1 r71.2 x71.args _ _ _ _ hc73) (fun _ _ hφ => ask [0] rfl hφ) rfl (H' := []) rfl ?_
         rintro _ _ _ ⟨p73_0, c73_1, c73_2, rfl, rfl, rfl⟩
         refine wl_pure rfl rfl rfl (freshS_eq rfl) rfl ?_
         refine wl_pure rfl rfl rfl (freshS_eq rfl) rfl ?_
         refine wl_pure rfl rfl rfl (freshS_eq rfl) rfl ?_
         refine wl_pure rfl rfl rfl (freshS_eq rfl) rfl ?_
         refine wl_pure rfl rfl rfl (freshS_eq rfl) rfl ?_
         refine wl_nil ?_
         refine we_then ?_
         refine wc_keep [11, 10, 9, 7, 5, 1] (S' := [_,_,_,_,_,_]) rfl ?_
         refine wc_seq ?_
         refine wc_region ?_
         refine wl_pure rfl rfl rfl (freshS_eq rfl) rfl ?_
         refine wl_pure rfl rfl rfl (freshS_eq rfl) rfl ?_
         refine wl_pure rfl rfl rfl (freshS_eq rfl) rfl ?_
         obtain ⟨x80, hx80, hm⟩ := bindO_some hm
         refine wl_indexA 6 u2_9 rfl rfl rfl (freshS_eq rfl) rfl rfl rfl rfl rfl hx80 tE_22 tS_28 (fun b80 q80 cs80 hlx80 => ?_)
         refine wl_open R_Ropewalklaw11_DoD_opens 1 rfl (fun r80 er80 _ => ?_)
         subst er80
         refine wl_load 1 0 rfl rfl rfl (freshS_eq rfl) rfl rfl rfl (cs := [_,_,_,_]) rfl tS_28 tA_28 rfl rfl ?_
         obtain ⟨_, hc82, hm⟩ := bindO_some hm
         try dsimp only at hm
         refine wl_call [] [0, 1] rfl rfl rfl (freshS_eq rfl) rfl rfl fn_7 rfl (w_ropewalklaw11_do_v2_s N x80.op x80.id x80.type r80.1 r80.2 x80.args hc82) (fun _ _ hφ => ask [0] rfl hφ) rfl (H' := [_,_]) rfl ?_
         rintro _ _ _ ⟨rfl, rfl, rfl⟩
         refine wl_pure rfl rfl rfl (freshS_eq rfl) rfl ?_
         refine wl_pure rfl rfl rfl (freshS_eq rfl) rfl ?_
         refine wl_pure rfl rfl rfl (freshS_eq rfl) rfl ?_
         refine wl_pure rfl rfl rfl (freshS_eq rfl) rfl ?_
         refine wl_pure rfl rfl rfl (freshS_eq rfl) rfl ?_
         refine wl_nil ?_
         refine we_then ?_
         refine wc_keep [13, 12, 11, 10, 9, 7, 5, 1] (S' := [_,_,_,_,_,_,_,_]) rfl ?_
         refine wc_seq ?_
         obtain ⟨bj_6, hm, hLj_6⟩ := bindO_some hm
         refine wc_cut (σ := Bool) (fun j_6_92 => bj_6 = j_6_92) (fun j_6_92 => [(9, .int .i64 ((u2_9 : Nat) : Int)), (7, .pointer none), (5, .pointer (some ⟨c16_0, 0, none⟩)), (1, .slice qp2 l1.length qc3), (92, .bool j_6_92)]) (fun j_6_92 => [.sli 4 R_Ropewalklaw11_DoD qp2 qc3 l1]) (fun j_6_92 => [.blk c16_0 [.slice p73_0 c73_2 c73_1, .int .i64 v73_3] 60, .own 42 3 R_FactD (.slice p73_0 c73_2 c73_1) v73_2]) ?_ ?_
         ·
          refine wc_region ?_
          refine wl_pure rfl rfl rfl (freshS_eq rfl) rfl ?_
          refine wl_pure rfl rfl rfl (freshS_eq rfl) rfl ?_
          refine wl_pure rfl rfl rfl (freshS_eq rfl) rfl ?_
          refine wl_pure rfl rfl rfl (freshS_eq rfl) rfl ?_
          refine wl_split (d := 88) (S' := [_,_,_,_,_,_,_,_,_,_,_]) rfl rfl (fun hs88 => ?_) (fun hs88 => ?_)
          ·
           replace hm := iteT hm hs88
           refine wl_off rfl rfl rfl (freshS_eq rfl) ?_
           refine wl_off rfl rfl rfl (freshS_eq rfl) ?_
           refine wl_off rfl rfl rfl (freshS_eq rfl) ?_
           refine wl_pure rfl rfl rfl (freshS_eq rfl) rfl ?_
           refine wl_nil ?_
           have hE := (Option.some.inj hm).symm
           refine we_join true hE [9, 7, 5, 1, 92] rfl (fun _ _ hφ => ask [9] rfl hφ) rfl
          ·
           replace hm := iteF hm hs88
           refine wl_pure rfl rfl rfl (freshS_eq rfl) rfl ?_
           refine wl_pure rfl rfl rfl (freshS_eq rfl) rfl ?_
           refine wl_pure rfl rfl rfl (freshS_eq rfl) rfl ?_
           refine wl_as (d := 91) (v' := .bool (v73_1 != 1)) (S' := [_,_,_,_,_,_,_,_,_,_,_,_,_,_]) rfl rfl (natne (a := v73_1) (b := 1)) ?_
           refine wl_pure rfl rfl rfl (freshS_eq rfl) rfl ?_
           refine wl_nil ?_
           have hE := (Option.some.inj hm).symm
           refine we_join (v73_1 != 1) hE [9, 7, 5, 1, 92] rfl (fun _ _ hφ => ask [9] rfl hφ) rfl
         ·
          rintro j_6_92 hE
          try dsimp only
          have hm := hLj_6
          rw [hE] at hm
          refine wc_cond rfl (fun hb92 => ?_) (fun hb92 => ?_)
          ·
           replace hm := iteT hm hb92
           refine wc_keep [] (S' := []) rfl ?_
           refine wc_seq ?_
           refine wc_region ?_
           refine wl_pure rfl rfl rfl (freshS_eq rfl) rfl ?_
           refine wl_nil ?_
           refine we_then ?_
           refine wc_ret ?_
           refine we_block_ret ?_
           refine we_then_ret ?_
           refine we_then_ret ?_
           refine we_block_ret ?_
           refine we_then_ret ?_
           have hE := (Option.some.inj hm).symm
           replace hE := link_inr hLu2 hE
           replace hE := link_inr hLj_4 hE
           replace hE := hE.symm
           subst hE
           refine ret_one (Hr := []) [] Tryd.results3 (res_tmp rfl) ⟨rfl, rfl, rfl⟩ (fun _ _ hφ => ask [] rfl hφ) rfl rfl (.inl rfl)
          ·
           replace hm := iteF hm hb92
           refine wc_keep [9, 7, 5, 1] (S' := [_,_,_,_]) rfl ?_
           refine wc_skip ?_
           refine we_block_normal ?_
           refine we_then ?_
           refine wc_region ?_
           refine wl_pure rfl rfl rfl (freshS_eq rfl) rfl ?_
           refine wl_pure rfl rfl rfl (freshS_eq rfl) rfl ?_
           obtain ⟨hg59, hm⟩ := gd_some hm
           refine wl_as (d := 59) (v' := .int .i64 ((u2_9 + 1 : Nat) : Int)) (S' := [_,_,_,_,_]) rfl rfl (nat_add (a := u2_9) (b := 1) hg59) ?_
           refine wl_pure (S' := [_,_,_,_,_]) rfl rfl rfl rfl rfl ?_
           refine wl_nil ?_
           have hE := (Option.some.inj hm).symm
           replace hE := link_inl hLu2 hE
           refine we_roundK (_, u2_9 + 1, v73_2, v73_3, p73_0, c73_1, c73_2) (Nat.lt_succ_self _) hE [9, 7, 5, 1] rfl (fun _ _ hφ => ask [0] rfl hφ) rfl
       ·
        replace hm := iteF hm hb57
        refine wc_keep [7, 5] (S' := [_,_]) rfl ?_
        refine wc_exit ?_
        refine we_then_exit ?_
        refine we_then_exit ?_
        refine we_block_hit ?_
        have hE := (Option.some.inj hm).symm
        replace hE := link_inr hLu2 hE
        refine we_join (u2_5_f0_l, u2_5_f1, u2_5_f0_p, u2_5_f0_c, u2_5_f0_n) hE [7, 5] rfl (fun _ _ hφ => ask [] rfl hφ) rfl
     ·
      rintro ⟨j_4_5_f0_l, j_4_5_f1, j_4_5_f0_p, j_4_5_f0_c, j_4_5_f0_n⟩ hE
      try dsimp only
      have hm := link_inl hLj_4 hE
      try dsimp only at hm
      refine wc_seq ?_
      refine wc_region ?_
      refine wl_pure rfl rfl rfl (freshS_eq rfl) rfl ?_
      obtain ⟨v94, hc94, hm⟩ := bindO_some hm
      refine wl_call [0, 1] [] rfl rfl rfl (freshS_eq rfl) rfl rfl fn_9 rfl (w_memory_Memory_Next_s N c16_0 j_4_5_f0_p j_4_5_f0_n j_4_5_f0_c j_4_5_f0_l j_4_5_f1 _ hc94) (fun _ _ hφ => ask [] rfl hφ) rfl (H' := []) rfl ?_
      rintro _ _ _ ⟨rfl, rfl, rfl⟩
      refine wl_pure rfl rfl rfl (freshS_eq rfl) rfl ?_
      obtain ⟨_, hc96, hm⟩ := bindO_some hm
      try dsimp only at hm
      refine wl_call [] [0, 1] rfl rfl rfl (freshS_eq rfl) rfl rfl fn_9 rfl (w_memory_Memory_Next_v2_s N  hc96) (fun _ _ hφ => ask [] rfl hφ) rfl (H' := [_,_]) rfl ?_
      rintro _ _ _ ⟨rfl, rfl, rfl⟩
      refine wl_pure rfl rfl rfl (freshS_eq rfl) rfl ?_
      refine wl_pure rfl rfl rfl (freshS_eq rfl) rfl ?_
      refine wl_split (d := 98) (S' := [_,_,_,_,_,_,_]) rfl rfl (fun hs98 => ?_) (fun hs98 => ?_)
      ·
       replace hm := iteT hm hs98
       refine wl_pure rfl rfl rfl (freshS_eq rfl) rfl ?_
       obtain ⟨v100, hc100, hm⟩ := bindO_some hm
       refine wl_call [0, 1] [] rfl rfl rfl (freshS_eq rfl) rfl rfl fn_10 rfl (w_memory_Memory_All_s N c16_0 j_4_5_f0_p j_4_5_f0_n j_4_5_f0_c j_4_5_f0_l j_4_5_f1 _ hc100) (fun _ _ hφ => ask [] rfl hφ) rfl (H' := []) rfl ?_
       rintro _ _ _ ⟨p100_0, c100_1, c100_2, rfl, rfl, rfl⟩
       refine wl_pure rfl rfl rfl (freshS_eq rfl) rfl ?_
       obtain ⟨_, hc102, hm⟩ := bindO_some hm
       try dsimp only at hm
       refine wl_call [] [0, 1, 2] rfl rfl rfl (freshS_eq rfl) rfl rfl fn_10 rfl (w_memory_Memory_All_v2_s N  hc102) (fun _ _ hφ => ask [] rfl hφ) rfl (H' := [_,_,_]) rfl ?_
       rintro _ _ _ ⟨rfl, rfl, rfl⟩
       refine wl_fact (.sli 3 R_FactD none 0 ([] : List FactD)) (fun _ _ _ => sli_none) ?_
       obtain ⟨v103, hc103, hm⟩ := bindO_some hm
       refine wl_call [0] [1, 2] rfl rfl rfl (freshS_eq rfl) rfl rfl fn_11 rfl (w_ropewalkkit_SameFacts_s N p100_0 c100_2 c100_1 v100 none 0 ([] : List FactD) _ hc103) (fun _ _ hφ => ask [0] rfl hφ) rfl (H' := [_,_]) rfl ?_
       rintro _ _ _ ⟨rfl, rfl, rfl⟩
       refine wl_pure rfl rfl rfl (freshS_eq rfl) rfl ?_
       refine wl_pure rfl rfl rfl (freshS_eq rfl) rfl ?_
       refine wl_nil ?_
       refine we_then ?_
       refine wc_keep [4] (S' := [_]) rfl ?_
       refine wc_ret ?_
       have hE := (Option.some.inj hm).symm
       replace hE := hE.symm
       subst hE
       refine ret_one (Hr := []) [] Tryd.results3 (res_tmp rfl) ⟨rfl, rfl, rfl⟩ (fun _ _ hφ => ask [] rfl hφ) rfl rfl (.inl rfl)
      ·
       replace hm := iteF hm hs98
       refine wl_off rfl rfl rfl (freshS_eq rfl) ?_
       refine wl_off rfl rfl rfl (freshS_eq rfl) ?_
       refine wl_off rfl rfl rfl (freshS_eq rfl) ?_
       refine wl_off rfl rfl rfl (freshS_eq rfl) ?_
       refine wl_off rfl rfl rfl (freshS_eq rfl) ?_
       refine wl_pure rfl rfl rfl (freshS_eq rfl) rfl ?_
       refine wl_pure rfl rfl rfl (freshS_eq rfl) rfl ?_
       refine wl_nil ?_
       refine we_then ?_
       refine wc_keep [4] (S' := [_]) rfl ?_
       refine wc_ret ?_
       have hE := (Option.some.inj hm).symm
       replace hE := hE.symm
       subst hE
       refine ret_one (Hr := []) [] Tryd.results3 (res_tmp rfl) ⟨rfl, rfl, rfl⟩ (fun _ _ hφ => ask [] rfl hφ) rfl rfl (.inl rfl)
   ·
    try dsimp only at hm
    refine wl_call [0] [1, 2] rfl rfl rfl (freshS_eq rfl) rfl rfl fn_8 rfl (w_memory_Of_s1 N v42 p44_0 c44_2 c44_1 v44 _ hc45) (fun _ _ hφ => ask [] rfl hφ) rfl (H' := [_,_]) rfl ?_
    rintro _ _ _ ⟨c45_0, p45_1, c45_2, c45_3, rfl, rfl, rfl⟩
    refine wl_pure rfl rfl rfl (freshS_eq rfl) rfl ?_
    refine wl_pure rfl rfl rfl (freshS_eq rfl) rfl ?_
    refine wl_pure rfl rfl rfl (freshS_eq rfl) rfl ?_
    refine wl_pure rfl rfl rfl (freshS_eq rfl) rfl ?_
    refine wl_pure rfl rfl rfl (freshS_eq rfl) rfl ?_
    refine wl_nil ?_
    refine we_then ?_
    refine wc_keep [8, 7, 5, 1] (S' := [_,_,_,_]) rfl ?_
    refine wc_seq ?_
    refine wc_seq ?_
    refine wc_region ?_
    refine wl_pure rfl rfl rfl (freshS_eq rfl) rfl ?_
    refine wl_pure rfl rfl rfl (freshS_eq rfl) rfl ?_
    refine wl_as (d := 49) (v' := .bool (0 != 0)) (S' := [_,_,_,_,_]) rfl rfl (natne (a := 0) (b := 0)) ?_
    refine wl_nil ?_
    refine we_then ?_
    refine wc_keep [49, 7, 5, 1] (S' := [_,_,_,_]) rfl ?_
    refine wc_cond rfl (fun hb49 => ?_) (fun hb49 => ?_)
    ·
     replace hm := iteT hm hb49
     refine wc_keep [] (S' := []) rfl ?_
     refine wc_seq ?_
     refine wc_region ?_
     refine wl_pure rfl rfl rfl (freshS_eq rfl) rfl ?_
     refine wl_nil ?_
     refine we_then ?_
     refine wc_ret ?_
     refine we_then_ret ?_
     have hE := (Option.some.inj hm).symm
     replace hE := hE.symm
     subst hE
     refine ret_one (Hr := []) [] Tryd.results3 (res_tmp rfl) ⟨rfl, rfl, rfl⟩ (fun _ _ hφ => ask [] rfl hφ) rfl rfl (.inl rfl)
    ·
     replace hm := iteF hm hb49
     refine wc_keep [7, 5, 1] (S' := [_,_,_]) rfl ?_
     refine wc_skip ?_
     refine we_then ?_
     refine wc_seq ?_
     obtain ⟨bj_7, hm, hLj_7⟩ := bindS_some hm
     refine wc_cut (σ := (List FactD) × Int × (List FactD) × Int × (Option Addr) × Nat × Nat × (Option Addr) × Nat × Nat) (fun (j_7_7_f0_l, j_7_7_f1, j_7_5_f0_l, j_7_5_f1, j_7_7_f0_p, j_7_7_f0_c, j_7_7_f0_n, j_7_5_f0_p, j_7_5_f0_c, j_7_5_f0_n) => bj_7 = .inl (j_7_7_f0_l, j_7_7_f1, j_7_5_f0_l, j_7_5_f1)) (fun (j_7_7_f0_l, j_7_7_f1, j_7_5_f0_l, j_7_5_f1, j_7_7_f0_p, j_7_7_f0_c, j_7_7_f0_n, j_7_5_f0_p, j_7_5_f0_c, j_7_5_f0_n) => [(7, .pointer (some ⟨c45_0, 0, none⟩)), (5, .pointer (some ⟨c16_0, 0, none⟩))]) (fun (j_7_7_f0_l, j_7_7_f1, j_7_5_f0_l, j_7_5_f1, j_7_7_f0_p, j_7_7_f0_c, j_7_7_f0_n, j_7_5_f0_p, j_7_5_f0_c, j_7_5_f0_n) => []) (fun (j_7_7_f0_l, j_7_7_f1, j_7_5_f0_l, j_7_5_f1, j_7_7_f0_p, j_7_7_f0_c, j_7_7_f0_n, j_7_5_f0_p, j_7_5_f0_c, j_7_5_f0_n) => [.blk c45_0 [.slice j_7_7_f0_p j_7_7_f0_n j_7_7_f0_c, .int .i64 j_7_7_f1] 60, .own 42 3 R_FactD (.slice j_7_7_f0_p j_7_7_f0_n j_7_7_f0_c) j_7_7_f0_l, .blk c16_0 [.slice j_7_5_f0_p j_7_5_f0_n j_7_5_f0_c, .int .i64 j_7_5_f1] 60, .own 42 3 R_FactD (.slice j_7_5_f0_p j_7_5_f0_n j_7_5_f0_c) j_7_5_f0_l]) ?_ ?_
     ·
      refine wc_seq ?_
      refine wc_region ?_
      refine wl_pure rfl rfl rfl (freshS_eq rfl) rfl ?_
      refine wl_nil ?_
      refine we_then ?_
      refine wc_block ?_
      refine wc_pick [0, 1, 3, 4] rfl (H' := [_,_,_,_]) rfl ?_
      refine wc_loop (σ := Nat × Nat × (List FactD) × Int × (List FactD) × Int × (Option Addr) × Nat × Nat × (Option Addr) × Nat × Nat) (fun (nu3, u3_9, u3_7_f0_l, u3_7_f1, u3_5_f0_l, u3_5_f1, u3_7_f0_p, u3_7_f0_c, u3_7_f0_n, u3_5_f0_p, u3_5_f0_c, u3_5_f0_n) => iter (m_ropewalklaw11_MemoryOf_L3 N l1) nu3 (u3_9, u3_7_f0_l, u3_7_f1, u3_5_f0_l, u3_5_f1) = some bj_7) (fun (nu3, u3_9, u3_7_f0_l, u3_7_f1, u3_5_f0_l, u3_5_f1, u3_7_f0_p, u3_7_f0_c, u3_7_f0_n, u3_5_f0_p, u3_5_f0_c, u3_5_f0_n) => nu3) (fun (nu3, u3_9, u3_7_f0_l, u3_7_f1, u3_5_f0_l, u3_5_f1, u3_7_f0_p, u3_7_f0_c, u3_7_f0_n, u3_5_f0_p, u3_5_f0_c, u3_5_f0_n) => [(9, .int .i64 ((u3_9 : Nat) : Int)), (7, .pointer (some ⟨c45_0, 0, none⟩)), (5, .pointer (some ⟨c16_0, 0, none⟩)), (1, .slice qp2 l1.length qc3)]) (fun (nu3, u3_9, u3_7_f0_l, u3_7_f1, u3_5_f0_l, u3_5_f1, u3_7_f0_p, u3_7_f0_c, u3_7_f0_n, u3_5_f0_p, u3_5_f0_c, u3_5_f0_n) => [.sli 4 R_Ropewalklaw11_DoD qp2 qc3 l1]) (fun (nu3, u3_9, u3_7_f0_l, u3_7_f1, u3_5_f0_l, u3_5_f1, u3_7_f0_p, u3_7_f0_c, u3_7_f0_n, u3_5_f0_p, u3_5_f0_c, u3_5_f0_n) => [.blk c45_0 [.slice u3_7_f0_p u3_7_f0_n u3_7_f0_c, .int .i64 u3_7_f1] 60, .own 42 3 R_FactD (.slice u3_7_f0_p u3_7_f0_n u3_7_f0_c) u3_7_f0_l, .blk c16_0 [.slice u3_5_f0_p u3_5_f0_n u3_5_f0_c, .int .i64 u3_5_f1] 60, .own 42 3 R_FactD (.slice u3_5_f0_p u3_5_f0_n u3_5_f0_c) u3_5_f0_l]) (N, 0, v45, v42, j_1_5_f0_l, j_1_5_f1, p45_1, c45_2, c45_3, j_1_5_f0_p, j_1_5_f0_c, j_1_5_f0_n) hm [9, 7, 5, 1] rfl (fun _ _ hφ => ask [0] rfl hφ) rfl (fun s_ hm => ?_)
      obtain ⟨nu3, u3_9, u3_7_f0_l, u3_7_f1, u3_5_f0_l, u3_5_f1, u3_7_f0_p, u3_7_f0_c, u3_7_f0_n, u3_5_f0_p, u3_5_f0_c, u3_5_f0_n⟩ := s_
      try dsimp only at hm ⊢
      obtain ⟨mu3, bu3, hnu3, hq, hLu3⟩ := iter_some hm
      clear hm
      subst hnu3
      replace hm := hq
      clear hq
      unfold m_ropewalklaw11_MemoryOf_L3 at hm
      try dsimp only at hm
      refine wc_seq ?_
      refine wc_seq ?_
      obtain ⟨bj_8, hm, hLj_8⟩ := bindO_some hm
      refine wc_cut (σ := Bool) (fun j_8_57 => bj_8 = j_8_57) (fun j_8_57 => [(9, .int .i64 ((u3_9 : Nat) : Int)), (7, .pointer (some ⟨c45_0, 0, none⟩)), (5, .pointer (some ⟨c16_0, 0, none⟩)), (1, .slice qp2 l1.length qc3), (57, .bool j_8_57)]) (fun j_8_57 => [.sli 4 R_Ropewalklaw11_DoD qp2 qc3 l1]) (fun j_8_57 => [.blk c45_0 [.slice u3_7_f0_p u3_7_f0_n u3_7_f0_c, .int .i64 u3_7_f1] 60, .own 42 3 R_FactD (.slice u3_7_f0_p u3_7_f0_n u3_7_f0_c) u3_7_f0_l, .blk c16_0 [.slice u3_5_f0_p u3_5_f0_n u3_5_f0_c, .int .i64 u3_5_f1] 60, .own 42 3 R_FactD (.slice u3_5_f0_p u3_5_f0_n u3_5_f0_c) u3_5_f0_l]) ?_ ?_
      ·
       refine wc_region ?_
       refine wl_pure rfl rfl rfl (freshS_eq rfl) rfl ?_
       refine wl_pure rfl rfl rfl (freshS_eq rfl) rfl ?_
       refine wl_len rfl rfl rfl (freshS_eq rfl) rfl rfl tE_22 ?_
       refine wl_pure rfl rfl rfl (freshS_eq rfl) rfl ?_
       refine wl_as (d := 53) (v' := .bool (decide (u3_9 < l1.length))) (S' := [_,_,_,_,_,_,_]) rfl rfl (natlt (a := u3_9) (b := l1.length)) ?_
       refine wl_pure rfl rfl rfl (freshS_eq rfl) rfl ?_
       refine wl_split (d := 54) (S' := [_,_,_,_,_,_,_,_]) rfl rfl (fun hs54 => ?_) (fun hs54 => ?_)
       ·
        replace hm := iteT hm hs54
        refine wl_pure rfl rfl rfl (freshS_eq rfl) rfl ?_
        refine wl_pure rfl rfl rfl (freshS_eq rfl) rfl ?_
        refine wl_as (d := 56) (v' := .bool (decide (u3_9 < 120))) (S' := [_,_,_,_,_,_,_,_,_,_]) rfl rfl (natlt (a := u3_9) (b := 120)) ?_
        refine wl_pure rfl rfl rfl (freshS_eq rfl) rfl ?_
        refine wl_nil ?_
        have hE := (Option.some.inj hm).symm
        refine we_join (decide (u3_9 < 120)) hE [9, 7, 5, 1, 57] rfl (fun _ _ hφ => ask [0] rfl hφ) rfl
       ·
        replace hm := iteF hm hs54
        refine wl_off rfl rfl rfl (freshS_eq rfl) ?_
        refine wl_off rfl rfl rfl (freshS_eq rfl) ?_
        refine wl_pure rfl rfl rfl (freshS_eq rfl) rfl ?_
        refine wl_nil ?_
        have hE := (Option.some.inj hm).symm
        refine we_join false hE [9, 7, 5, 1, 57] rfl (fun _ _ hφ => ask [0] rfl hφ) rfl
      ·
       rintro j_8_57 hE
       try dsimp only
       have hm := hLj_8
       rw [hE] at hm
       refine wc_cond rfl (fun hb57 => ?_) (fun hb57 => ?_)
       ·
        replace hm := iteT hm hb57
        refine wc_keep [9, 7, 5, 1] (S' := [_,_,_,_]) rfl ?_
        refine wc_skip ?_
        refine we_then ?_
        refine wc_seq ?_
        refine wc_block ?_
        refine wc_seq ?_
        refine wc_seq ?_
        refine wc_region ?_
        refine wl_pure rfl rfl rfl (freshS_eq rfl) rfl ?_
        refine wl_pure rfl rfl rfl (freshS_eq rfl) rfl ?_
        obtain ⟨x62, hx62, hm⟩ := bindO_some hm
        refine wl_indexA 0 u3_9 rfl rfl rfl (freshS_eq rfl) rfl rfl rfl rfl rfl hx62 tE_22 tS_28 (fun b62 q62 cs62 hlx62 => ?_)
        refine wl_open R_Ropewalklaw11_DoD_opens 1 rfl (fun r62 er62 _ => ?_)
        subst er62
        refine wl_fieldAddr rfl rfl rfl (freshS_eq rfl) rfl rfl tF_28_3 ?_
        refine wl_load 1 3 rfl rfl rfl (freshS_eq rfl) rfl rfl rfl (cs := [_]) rfl tS_26 tA_26 rfl rfl ?_
        refine wl_len rfl rfl rfl (freshS_eq rfl) rfl rfl tE_26 ?_
        refine wl_pure rfl rfl rfl (freshS_eq rfl) rfl ?_
        refine wl_as (d := 66) (v' := .bool (decide (20 < x62.args.length))) (S' := [_,_,_,_,_,_,_,_,_,_]) rfl rfl (natgt (a := x62.args.length) (b := 20)) ?_
        refine wl_nil ?_
        refine we_then ?_
        refine wc_keep [66, 9, 7, 5, 1] (S' := [_,_,_,_,_]) rfl ?_
        refine wc_cond rfl (fun hb66 => ?_) (fun hb66 => ?_)
        ·
         replace hm := iteT hm hb66
         refine wc_keep [] (S' := []) rfl ?_
         refine wc_seq ?_
         refine wc_region ?_
         refine wl_pure rfl rfl rfl (freshS_eq rfl) rfl ?_
         refine wl_nil ?_
         refine we_then ?_
         refine wc_ret ?_
         refine we_then_ret ?_
         refine we_block_ret ?_
         refine we_then_ret ?_
         refine we_then_ret ?_
         refine we_block_ret ?_
         refine we_then_ret ?_
         have hE := (Option.some.inj hm).symm
         replace hE := link_inr hLu3 hE
         replace hE := link_inr hLj_7 hE
         replace hE := hE.symm
         subst hE
         refine ret_one (Hr := []) [] Tryd.results3 (res_tmp rfl) ⟨rfl, rfl, rfl⟩ (fun _ _ hφ => ask [] rfl hφ) rfl rfl (.inl rfl)
        ·
         replace hm := iteF hm hb66
         refine wc_keep [9, 7, 5, 1] (S' := [_,_,_,_]) rfl ?_
         refine wc_skip ?_
         refine we_then ?_
         refine wc_seq ?_
         refine wc_region ?_
         refine wl_pure rfl rfl rfl (freshS_eq rfl) rfl ?_
         refine wl_pure rfl rfl rfl (freshS_eq rfl) rfl ?_
         refine wl_pure rfl rfl rfl (freshS_eq rfl) rfl ?_
         obtain ⟨x71, hx71, hm⟩ := bindO_some hm
         refine wl_indexA 3 u3_9 rfl rfl rfl (freshS_eq rfl) rfl rfl rfl rfl rfl hx71 tE_22 tS_28 (fun b71 q71 cs71 hlx71 => ?_)
         refine wl_open R_Ropewalklaw11_DoD_opens 1 rfl (fun r71 er71 _ => ?_)
         subst er71
         refine wl_load 1 0 rfl rfl rfl (freshS_eq rfl) rfl rfl rfl (cs := [_,_,_,_]) rfl tS_28 tA_28 rfl rfl ?_
         obtain ⟨⟨v73_0, v73_1, v73_2, v73_3⟩, hc73, hm⟩ := bindO_some hm
         try dsimp only at hm
         refine wl_call [2, 3] [0, 1] rfl rfl rfl (freshS_eq rfl) rfl rfl fn_7 rfl (w_ropewalklaw11_do_s N c16_0 u3_5_f0_p u3_5_f0_n u3_5_f0_c u3_5_f0_l u3_5_f1 x71.op x71.id x71.type r71.1 r71.2 x71.args _ _ _ _ hc73) (fun _ _ hφ => ask [0] rfl hφ) rfl (H' := [_,_]) rfl ?_
         rintro _ _ _ ⟨p73_0, c73_1, c73_2, rfl, rfl, rfl⟩
         refine wl_pure rfl rfl rfl (freshS_eq rfl) rfl ?_
         refine wl_pure rfl rfl rfl (freshS_eq rfl) rfl ?_
         refine wl_pure rfl rfl rfl (freshS_eq rfl) rfl ?_
         refine wl_pure rfl rfl rfl (freshS_eq rfl) rfl ?_
         refine wl_pure rfl rfl rfl (freshS_eq rfl) rfl ?_
         refine wl_nil ?_
         refine we_then ?_
         refine wc_keep [11, 10, 9, 7, 5, 1] (S' := [_,_,_,_,_,_]) rfl ?_
         refine wc_seq ?_
         refine wc_region ?_
         refine wl_pure rfl rfl rfl (freshS_eq rfl) rfl ?_
         refine wl_pure rfl rfl rfl (freshS_eq rfl) rfl ?_
         refine wl_pure rfl rfl rfl (freshS_eq rfl) rfl ?_
         obtain ⟨x80, hx80, hm⟩ := bindO_some hm
         refine wl_indexA 6 u3_9 rfl rfl rfl (freshS_eq rfl) rfl rfl rfl rfl rfl hx80 tE_22 tS_28 (fun b80 q80 cs80 hlx80 => ?_)
         refine wl_open R_Ropewalklaw11_DoD_opens 1 rfl (fun r80 er80 _ => ?_)
         subst er80
         refine wl_load 1 0 rfl rfl rfl (freshS_eq rfl) rfl rfl rfl (cs := [_,_,_,_]) rfl tS_28 tA_28 rfl rfl ?_
         obtain ⟨⟨v82_0, v82_1, v82_2, v82_3⟩, hc82, hm⟩ := bindO_some hm
         try dsimp only at hm
         refine wl_call [2, 3] [0, 1] rfl rfl rfl (freshS_eq rfl) rfl rfl fn_7 rfl (w_ropewalklaw11_do_s N c45_0 u3_7_f0_p u3_7_f0_n u3_7_f0_c u3_7_f0_l u3_7_f1 x80.op x80.id x80.type r80.1 r80.2 x80.args _ _ _ _ hc82) (fun _ _ hφ => ask [0] rfl hφ) rfl (H' := [_,_]) rfl ?_
         rintro _ _ _ ⟨p82_0, c82_1, c82_2, rfl, rfl, rfl⟩
         refine wl_pure rfl rfl rfl (freshS_eq rfl) rfl ?_
         refine wl_pure rfl rfl rfl (freshS_eq rfl) rfl ?_
         refine wl_pure rfl rfl rfl (freshS_eq rfl) rfl ?_
         refine wl_pure rfl rfl rfl (freshS_eq rfl) rfl ?_
         refine wl_pure rfl rfl rfl (freshS_eq rfl) rfl ?_
         refine wl_nil ?_
         refine we_then ?_
         refine wc_keep [13, 12, 11, 10, 9, 7, 5, 1] (S' := [_,_,_,_,_,_,_,_]) rfl ?_
         refine wc_seq ?_
         obtain ⟨bj_9, hm, hLj_9⟩ := bindO_some hm
         refine wc_cut (σ := Bool) (fun j_9_92 => bj_9 = j_9_92) (fun j_9_92 => [(9, .int .i64 ((u3_9 : Nat) : Int)), (7, .pointer (some ⟨c45_0, 0, none⟩)), (5, .pointer (some ⟨c16_0, 0, none⟩)), (1, .slice qp2 l1.length qc3), (92, .bool j_9_92)]) (fun j_9_92 => [.sli 4 R_Ropewalklaw11_DoD qp2 qc3 l1]) (fun j_9_92 => [.blk c45_0 [.slice p82_0 c82_2 c82_1, .int .i64 v82_3] 60, .own 42 3 R_FactD (.slice p82_0 c82_2 c82_1) v82_2, .blk c16_0 [.slice p73_0 c73_2 c73_1, .int .i64 v73_3] 60, .own 42 3 R_FactD (.slice p73_0 c73_2 c73_1) v73_2]) ?_ ?_
         ·
          refine wc_region ?_
          refine wl_pure rfl rfl rfl (freshS_eq rfl) rfl ?_
          refine wl_pure rfl rfl rfl (freshS_eq rfl) rfl ?_
          refine wl_pure rfl rfl rfl (freshS_eq rfl) rfl ?_
          refine wl_pure rfl rfl rfl (freshS_eq rfl) rfl ?_
          refine wl_split (d := 88) (S' := [_,_,_,_,_,_,_,_,_,_,_]) rfl rfl (fun hs88 => ?_) (fun hs88 => ?_)
          ·
           replace hm := iteT hm hs88
           refine wl_off rfl rfl rfl (freshS_eq rfl) ?_
           refine wl_off rfl rfl rfl (freshS_eq rfl) ?_
           refine wl_off rfl rfl rfl (freshS_eq rfl) ?_
           refine wl_pure rfl rfl rfl (freshS_eq rfl) rfl ?_
           refine wl_nil ?_
           have hE := (Option.some.inj hm).symm
           refine we_join true hE [9, 7, 5, 1, 92] rfl (fun _ _ hφ => ask [9] rfl hφ) rfl
          ·
           replace hm := iteF hm hs88
           refine wl_pure rfl rfl rfl (freshS_eq rfl) rfl ?_
           refine wl_pure rfl rfl rfl (freshS_eq rfl) rfl ?_
           refine wl_pure rfl rfl rfl (freshS_eq rfl) rfl ?_
           refine wl_as (d := 91) (v' := .bool (v73_1 != v82_1)) (S' := [_,_,_,_,_,_,_,_,_,_,_,_,_,_]) rfl rfl (natne (a := v73_1) (b := v82_1)) ?_
           refine wl_pure rfl rfl rfl (freshS_eq rfl) rfl ?_
           refine wl_nil ?_
           have hE := (Option.some.inj hm).symm
           refine we_join (v73_1 != v82_1) hE [9, 7, 5, 1, 92] rfl (fun _ _ hφ => ask [9] rfl hφ) rfl
         ·
          rintro j_9_92 hE
          try dsimp only
          have hm := hLj_9
          rw [hE] at hm
          refine wc_cond rfl (fun hb92 => ?_) (fun hb92 => ?_)
          ·
           replace hm := iteT hm hb92
           refine wc_keep [] (S' := []) rfl ?_
           refine wc_seq ?_
           refine wc_region ?_
           refine wl_pure rfl rfl rfl (freshS_eq rfl) rfl ?_
           refine wl_nil ?_
           refine we_then ?_
           refine wc_ret ?_
           refine we_block_ret ?_
           refine we_then_ret ?_
           refine we_then_ret ?_
           refine we_block_ret ?_
           refine we_then_ret ?_
           have hE := (Option.some.inj hm).symm
           replace hE := link_inr hLu3 hE
           replace hE := link_inr hLj_7 hE
           replace hE := hE.symm
           subst hE
           refine ret_one (Hr := []) [] Tryd.results3 (res_tmp rfl) ⟨rfl, rfl, rfl⟩ (fun _ _ hφ => ask [] rfl hφ) rfl rfl (.inl rfl)
          ·
           replace hm := iteF hm hb92
           refine wc_keep [9, 7, 5, 1] (S' := [_,_,_,_]) rfl ?_
           refine wc_skip ?_
           refine we_block_normal ?_
           refine we_then ?_
           refine wc_region ?_
           refine wl_pure rfl rfl rfl (freshS_eq rfl) rfl ?_
           refine wl_pure rfl rfl rfl (freshS_eq rfl) rfl ?_
           obtain ⟨hg59, hm⟩ := gd_some hm
           refine wl_as (d := 59) (v' := .int .i64 ((u3_9 + 1 : Nat) : Int)) (S' := [_,_,_,_,_]) rfl rfl (nat_add (a := u3_9) (b := 1) hg59) ?_
           refine wl_pure (S' := [_,_,_,_,_]) rfl rfl rfl rfl rfl ?_
           refine wl_nil ?_
           have hE := (Option.some.inj hm).symm
           replace hE := link_inl hLu3 hE
           refine we_roundK (_, u3_9 + 1, v82_2, v82_3, v73_2, v73_3, p82_0, c82_1, c82_2, p73_0, c73_1, c73_2) (Nat.lt_succ_self _) hE [9, 7, 5, 1] rfl (fun _ _ hφ => ask [0] rfl hφ) rfl
       ·
        replace hm := iteF hm hb57
        refine wc_keep [7, 5] (S' := [_,_]) rfl ?_
        refine wc_exit ?_
        refine we_then_exit ?_
        refine we_then_exit ?_
        refine we_block_hit ?_
        have hE := (Option.some.inj hm).symm
        replace hE := link_inr hLu3 hE
        refine we_join (u3_7_f0_l, u3_7_f1, u3_5_f0_l, u3_5_f1, u3_7_f0_p, u3_7_f0_c, u3_7_f0_n, u3_5_f0_p, u3_5_f0_c, u3_5_f0_n) hE [7, 5] rfl (fun _ _ hφ => ask [] rfl hφ) rfl
     ·
      rintro ⟨j_7_7_f0_l, j_7_7_f1, j_7_5_f0_l, j_7_5_f1, j_7_7_f0_p, j_7_7_f0_c, j_7_7_f0_n, j_7_5_f0_p, j_7_5_f0_c, j_7_5_f0_n⟩ hE
      try dsimp only
      have hm := link_inl hLj_7 hE
      try dsimp only at hm
      refine wc_seq ?_
      refine wc_region ?_
      refine wl_pure rfl rfl rfl (freshS_eq rfl) rfl ?_
      obtain ⟨v94, hc94, hm⟩ := bindO_some hm
      refine wl_call [2, 3] [0, 1] rfl rfl rfl (freshS_eq rfl) rfl rfl fn_9 rfl (w_memory_Memory_Next_s N c16_0 j_7_5_f0_p j_7_5_f0_n j_7_5_f0_c j_7_5_f0_l j_7_5_f1 _ hc94) (fun _ _ hφ => ask [] rfl hφ) rfl (H' := [_,_]) rfl ?_
      rintro _ _ _ ⟨rfl, rfl, rfl⟩
      refine wl_pure rfl rfl rfl (freshS_eq rfl) rfl ?_
      obtain ⟨v96, hc96, hm⟩ := bindO_some hm
      refine wl_call [2, 3] [0, 1] rfl rfl rfl (freshS_eq rfl) rfl rfl fn_9 rfl (w_memory_Memory_Next_s N c45_0 j_7_7_f0_p j_7_7_f0_n j_7_7_f0_c j_7_7_f0_l j_7_7_f1 _ hc96) (fun _ _ hφ => ask [] rfl hφ) rfl (H' := [_,_]) rfl ?_
      rintro _ _ _ ⟨rfl, rfl, rfl⟩
      refine wl_pure rfl rfl rfl (freshS_eq rfl) rfl ?_
      refine wl_pure rfl rfl rfl (freshS_eq rfl) rfl ?_
      refine wl_split (d := 98) (S' := [_,_,_,_,_,_,_]) rfl rfl (fun hs98 => ?_) (fun hs98 => ?_)
      ·
       replace hm := iteT hm hs98
       refine wl_pure rfl rfl rfl (freshS_eq rfl) rfl ?_
       obtain ⟨v100, hc100, hm⟩ := bindO_some hm
       refine wl_call [2, 3] [0, 1] rfl rfl rfl (freshS_eq rfl) rfl rfl fn_10 rfl (w_memory_Memory_All_s N c16_0 j_7_5_f0_p j_7_5_f0_n j_7_5_f0_c j_7_5_f0_l j_7_5_f1 _ hc100) (fun _ _ hφ => ask [] rfl hφ) rfl (H' := [_,_]) rfl ?_
       rintro _ _ _ ⟨p100_0, c100_1, c100_2, rfl, rfl, rfl⟩
       refine wl_pure rfl rfl rfl (freshS_eq rfl) rfl ?_
       obtain ⟨v102, hc102, hm⟩ := bindO_some hm
       refine wl_call [3, 4] [0, 1, 2] rfl rfl rfl (freshS_eq rfl) rfl rfl fn_10 rfl (w_memory_Memory_All_s N c45_0 j_7_7_f0_p j_7_7_f0_n j_7_7_f0_c j_7_7_f0_l j_7_7_f1 _ hc102) (fun _ _ hφ => ask [] rfl hφ) rfl (H' := [_,_,_]) rfl ?_
       rintro _ _ _ ⟨p102_0, c102_1, c102_2, rfl, rfl, rfl⟩
       obtain ⟨v103, hc103, hm⟩ := bindO_some hm
       refine wl_call [3, 0] [1, 2, 4, 5] rfl rfl rfl (freshS_eq rfl) rfl rfl fn_11 rfl (w_ropewalkkit_SameFacts_v2_s N p100_0 c100_2 c100_1 v100 p102_0 c102_2 c102_1 v102 _ hc103) (fun _ _ hφ => ask [] rfl hφ) rfl (H' := [_,_,_,_]) rfl ?_
       rintro _ _ _ ⟨rfl, rfl, rfl⟩
       refine wl_pure rfl rfl rfl (freshS_eq rfl) rfl ?_
       refine wl_pure rfl rfl rfl (freshS_eq rfl) rfl ?_
       refine wl_nil ?_
       refine we_then ?_
       refine wc_keep [4] (S' := [_]) rfl ?_
       refine wc_ret ?_
       have hE := (Option.some.inj hm).symm
       replace hE := hE.symm
       subst hE
       refine ret_one (Hr := []) [] Tryd.results3 (res_tmp rfl) ⟨rfl, rfl, rfl⟩ (fun _ _ hφ => ask [] rfl hφ) rfl rfl (.inl rfl)
      ·
       replace hm := iteF hm hs98
       refine wl_off rfl rfl rfl (freshS_eq rfl) ?_
       refine wl_off rfl rfl rfl (freshS_eq rfl) ?_
       refine wl_off rfl rfl rfl (freshS_eq rfl) ?_
       refine wl_off rfl rfl rfl (freshS_eq rfl) ?_
       refine wl_off rfl rfl rfl (freshS_eq rfl) ?_
       refine wl_pure rfl rfl rfl (freshS_eq rfl) rfl ?_
       refine wl_pure rfl rfl rfl (freshS_eq rfl) rfl ?_
       refine wl_nil ?_
       refine we_then ?_
       refine wc_keep [4] (S' := [_]) rfl ?_
       refine wc_ret ?_
       have hE := (Option.some.inj hm).symm
       replace hE := hE.symm
       subst hE
       refine ret_one (Hr := []) [] Tryd.results3 (res_tmp rfl) ⟨rfl, rfl, rfl⟩ (fun _ _ hφ => ask [] rfl hφ) rfl rfl (.inl rfl)
set_option maxRecDepth 100000 in
set_option maxHeartbeats 4000000 in
theorem w_ropewalkkit_CopyValues_s (N : Nat) (qp0 : Option Addr) (qc1 : Nat) (l0 : List V)  (hm : m_ropewalkkit_CopyValues N l0 = some ()) : Spec Tryd.prog 17 [.slice qp0 l0.length qc1] [.sli 3 R_V qp0 qc1 l0] [] (fun v Φr Hr => ∃ (o0 : Option Addr) (o1 : Nat), v = .slice o0 (l0).length o1 ∧ Φr = [] ∧ Hr = [.own 55 3 R_V (.slice o0 (l0).length o1) l0]) := by
 unfold m_ropewalkkit_CopyValues at hm
 refine spec_of Tryd.func17 rfl Tryd.ntmps17 rfl (S := [_]) rfl (fun C => ?_)
 refine wc_seq ?_
 refine wc_region ?_
 refine wl_pure rfl rfl rfl (freshS_eq rfl) rfl ?_
 refine wl_nil ?_
 refine we_then ?_
 refine wc_keep [0] (S' := [_]) rfl ?_
 refine wc_seq ?_
 refine wc_region ?_
 refine wl_pure rfl rfl rfl (freshS_eq rfl) rfl ?_
 refine wl_nil ?_
 refine we_then ?_
 refine wc_seq ?_
 refine wc_region ?_
 refine wl_pure rfl rfl rfl (freshS_eq rfl) rfl ?_
 refine wl_pure rfl rfl rfl (freshS_eq rfl) rfl ?_
 refine wl_rowNil 55 3 R_V ?_
 obtain ⟨hg6, hm⟩ := gd_some hm
 refine wl_append 0 0 rfl rfl rfl (freshS_eq rfl) rfl rfl rfl rfl rfl tE_26 tR_55 rfl rfl (Nat.le_trans hg6 (by decide)) (Nat.le_trans (Nat.mul_le_mul_right _ hg6) (by decide)) (H2 := fun p6 c6 => [.own 55 3 R_V (.slice p6 (l0).length c6) l0]) (fun _ _ => rfl) (fun p6 c6 => ?_)
 refine wl_pure rfl rfl rfl (freshS_eq rfl) rfl ?_
 refine wl_nil ?_
 refine we_then ?_
 refine wc_keep [2] (S' := [_]) rfl ?_
 refine wc_ret ?_
 have hE := (Option.some.inj hm).symm
 refine ret_one (Hr := [_]) [0] Tryd.results17 (res_tmp rfl) ⟨p6, c6, rfl, rfl, rfl⟩ (fun _ _ hφ => ask [] rfl hφ) rfl rfl (.inl rfl)
set_option maxRecDepth 100000 in
set_option maxHeartbeats 4000000 in
theorem w_memory_Memory_Get_s (N : Nat) (qg0 : Nat) (qp1 : Option Addr) (qn2 : Nat) (qc3 : Nat) (l0 : List FactD) (a1 : Int) (a2 : Int) (o0 : Int) (o1 : Int) (o4 : List V) (o6 : Bool) (hm : m_memory_Memory_Get N l0 a1 a2 = some (o0, o1, o4, o6)) : Spec Tryd.prog 18 [.pointer (some ⟨qg0, 0, none⟩), .int .i64 a2] [] [.blk qg0 [.slice qp1 qn2 qc3, .int .i64 a1] 60, .own 42 3 R_FactD (.slice qp1 qn2 qc3) l0] (fun v Φr Hr => ∃ (o2 : Option Addr) (o3 : Nat) (o5 : Nat), v = .tuple #[.agg #[.int .i64 o0, .int .i64 o1, .slice o2 o5 o3], .bool o6] ∧ Φr = [] ∧ Hr = [.own 55 3 R_V (.slice o2 o5 o3) o4, .blk qg0 [.slice qp1 qn2 qc3, .int .i64 a1] 60, .own 42 3 R_FactD (.slice qp1 qn2 qc3) l0]) := by
 unfold m_memory_Memory_Get at hm
 refine spec_of Tryd.func18 rfl Tryd.ntmps18 rfl (S := [_,_]) rfl (fun C => ?_)
 refine wc_seq ?_
 refine wc_region ?_
 refine wl_alloc rfl rfl rfl (freshS_eq rfl) rfl tZ_42 rfl (fun g4 => ?_)
 refine wl_pure rfl rfl rfl (freshS_eq rfl) rfl ?_
 refine wl_nil ?_
 refine we_then ?_
 refine wc_keep [4, 0, 1] (S' := [_,_,_]) rfl ?_
 refine wc_seq ?_
 refine wc_seq ?_
 refine wc_region ?_
 refine wl_pure rfl rfl rfl (freshS_eq rfl) rfl ?_
 obtain ⟨_, hc9, hm⟩ := bindO_some hm
 try dsimp only at hm
 refine wl_call [1, 2] [0] rfl rfl rfl (freshS_eq rfl) rfl rfl fn_26 rfl (w_memory_Memory_known_s N qg0 qp1 qn2 qc3 l0 a1 hc9) (fun _ _ hφ => ask [] rfl hφ) rfl (H' := [_]) rfl ?_
 rintro _ _ _ ⟨rfl, rfl, rfl⟩
 refine wl_pure rfl rfl rfl (freshS_eq rfl) rfl ?_
 refine wl_nil ?_
 refine we_then ?_
 refine wc_keep [10, 4, 0, 1] (S' := [_,_,_,_]) rfl ?_
 refine wc_cond rfl (fun hb10 => ?_) (fun hb10 => ?_)
 ·
  replace hm := iteT hm hb10
  refine wc_keep [4] (S' := [_]) rfl ?_
  refine wc_seq ?_
  refine wc_region ?_
  refine wl_build rfl rfl rfl (freshS_eq rfl) rfl tZ_42 tP_42 rfl (out := [_,_,_]) rfl ?_
  refine wl_store 2 0 rfl rfl rfl rfl rfl rfl rfl tS_42 rfl rfl rfl (all' := [_,_,_]) rfl (H' := [_,_,_]) rfl ?_
  refine wl_pure rfl rfl rfl (freshS_eq rfl) rfl ?_
  refine wl_nil ?_
  refine we_then ?_
  refine wc_keep [5, 4] (S' := [_,_]) rfl ?_
  refine wc_ret ?_
  refine we_then_ret ?_
  have hE := (Option.some.inj hm).symm
  obtain ⟨hE0, hF1⟩ := Prod.mk.inj hE
  obtain ⟨hE1, hF2⟩ := Prod.mk.inj hF1
  obtain ⟨hE2, hE3⟩ := Prod.mk.inj hF2
  clear hE hF1 hF2
  replace hE0 := hE0.symm
  subst hE0
  replace hE1 := hE1.symm
  subst hE1
  replace hE2 := hE2.symm
  subst hE2
  replace hE3 := hE3.symm
  subst hE3
  refine we_rowNil 55 3 R_V ?_
  refine ret_two (Hr := [_, _, _]) [0, 1, 2] Tryd.results18 (res_cell 3 rfl rfl tS_42 tA_42 rfl rfl) (res_tmp rfl) ⟨none, 0, 0, rfl, rfl, rfl⟩ (fun _ _ hφ => ask [] rfl hφ) rfl rfl (.inl rfl)
 ·
  replace hm := iteF hm hb10
  refine wc_keep [4, 0, 1] (S' := [_,_,_]) rfl ?_
  refine wc_skip ?_
  refine we_then ?_
  refine wc_seq ?_
  refine wc_region ?_
  refine wl_pure rfl rfl rfl (freshS_eq rfl) rfl ?_
  refine wl_pure rfl rfl rfl (freshS_eq rfl) rfl ?_
  refine wl_fieldAddr rfl rfl rfl (freshS_eq rfl) rfl rfl tF_60_0 ?_
  refine wl_pure rfl rfl rfl (freshS_eq rfl) rfl ?_
  obtain ⟨⟨v17_0, v17_1⟩, hc17, hm⟩ := bindO_some hm
  try dsimp only at hm
  refine wl_call [0, 1] [2] rfl rfl rfl (freshS_eq rfl) rfl rfl fn_28 rfl (w_memory_row_at_s N qg0 qp1 qn2 qc3 l0 a1 a2 _ _ hc17) (fun _ _ hφ => ask [] rfl hφ) rfl (H' := [_]) rfl ?_
  rintro _ _ _ ⟨rfl, rfl, rfl⟩
  refine wl_pure rfl rfl rfl (freshS_eq rfl) rfl ?_
  refine wl_pure rfl rfl rfl (freshS_eq rfl) rfl ?_
  refine wl_pure rfl rfl rfl (freshS_eq rfl) rfl ?_
  refine wl_pure rfl rfl rfl (freshS_eq rfl) rfl ?_
  refine wl_pure rfl rfl rfl (freshS_eq rfl) rfl ?_
  refine wl_nil ?_
  refine we_then ?_
  refine wc_keep [7, 6, 4, 0] (S' := [_,_,_,_]) rfl ?_
  refine wc_seq ?_
  refine wc_seq ?_
  refine wc_region ?_
  refine wl_pure rfl rfl rfl (freshS_eq rfl) rfl ?_
  refine wl_pure rfl rfl rfl (freshS_eq rfl) rfl ?_
  refine wl_nil ?_
  refine we_then ?_
  refine wc_keep [21, 6, 4, 0] (S' := [_,_,_,_]) rfl ?_
  refine wc_cond rfl (fun hb21 => ?_) (fun hb21 => ?_)
  ·
   replace hm := iteT hm hb21
   refine wc_keep [4] (S' := [_]) rfl ?_
   refine wc_seq ?_
   refine wc_region ?_
   refine wl_build rfl rfl rfl (freshS_eq rfl) rfl tZ_42 tP_42 rfl (out := [_,_,_]) rfl ?_
   refine wl_store 2 0 rfl rfl rfl rfl rfl rfl rfl tS_42 rfl rfl rfl (all' := [_,_,_]) rfl (H' := [_,_,_]) rfl ?_
   refine wl_pure rfl rfl rfl (freshS_eq rfl) rfl ?_
   refine wl_nil ?_
   refine we_then ?_
   refine wc_keep [5, 4] (S' := [_,_]) rfl ?_
   refine wc_ret ?_
   refine we_then_ret ?_
   have hE := (Option.some.inj hm).symm
   obtain ⟨hE0, hF1⟩ := Prod.mk.inj hE
   obtain ⟨hE1, hF2⟩ := Prod.mk.inj hF1
   obtain ⟨hE2, hE3⟩ := Prod.mk.inj hF2
   clear hE hF1 hF2
   replace hE0 := hE0.symm
   subst hE0
   replace hE1 := hE1.symm
   subst hE1
   replace hE2 := hE2.symm
   subst hE2
   replace hE3 := hE3.symm
   subst hE3
   refine we_rowNil 55 3 R_V ?_
   refine ret_two (Hr := [_, _, _]) [0, 1, 2] Tryd.results18 (res_cell 3 rfl rfl tS_42 tA_42 rfl rfl) (res_tmp rfl) ⟨none, 0, 0, rfl, rfl, rfl⟩ (fun _ _ hφ => ask [] rfl hφ) rfl rfl (.inl rfl)
  ·
   replace hm := iteF hm hb21
   refine wc_keep [6, 4, 0] (S' := [_,_,_]) rfl ?_
   refine wc_skip ?_
   refine we_then ?_
   refine wc_seq ?_
   refine wc_region ?_
   refine wl_pure rfl rfl rfl (freshS_eq rfl) rfl ?_
   refine wl_pure rfl rfl rfl (freshS_eq rfl) rfl ?_
   refine wl_fieldAddr rfl rfl rfl (freshS_eq rfl) rfl rfl tF_60_0 ?_
   refine wl_fieldAddr rfl rfl rfl (freshS_eq rfl) rfl rfl tF_58_0 ?_
   refine wl_loadH 0 0 rfl rfl rfl (freshS_eq rfl) rfl rfl rfl (cs := [_]) rfl tS_35 tA_35 rfl rfl ?_
   refine wl_pure rfl rfl rfl (freshS_eq rfl) rfl ?_
   obtain ⟨hn29, hm⟩ := gd_some hm
   obtain ⟨x29, hx29, hm⟩ := bindO_some hm
   refine wl_indexH 1 v17_0.toNat rfl rfl rfl (freshS_eq rfl) rfl rfl rfl rfl (toNat_eq hn29) (get_lt hx29) tE_35 tS_42 (fun g29 eg29 => ?_)
   subst eg29
   refine wl_loadRow R_FactD_opens 1 v17_0.toNat 0 rfl rfl rfl (freshS_eq rfl) rfl rfl rfl hx29 tS_42 tA_42 (v := fun r30 => .agg #[.int .i64 (x29.id), .int .i64 (x29.ty), .slice r30.1 x29.args.length r30.2]) (fun _ => rfl) (fun _ => rfl) (fun r30 _ => ?_)
   obtain ⟨_, hc31, hm⟩ := bindO_some hm
   try dsimp only at hm
   refine wl_call [] [0, 1, 2] rfl rfl rfl (freshS_eq rfl) rfl rfl fn_25 rfl (w_memory_own_v2_s N x29.id x29.ty r30.1 r30.2 x29.args hc31) (fun _ _ hφ => ask [0] rfl hφ) rfl (H' := [_,_,_]) rfl ?_
   rintro _ _ _ ⟨p31_0, c31_1, rfl, rfl, rfl⟩
   refine wl_store 3 0 rfl rfl rfl rfl rfl rfl rfl tS_42 rfl rfl rfl (all' := [_,_,_]) rfl (H' := [_,_,_,_]) rfl ?_
   refine wl_pure rfl rfl rfl (freshS_eq rfl) rfl ?_
   refine wl_nil ?_
   refine we_then ?_
   refine wc_keep [5, 4] (S' := [_,_]) rfl ?_
   refine wc_ret ?_
   have hE := (Option.some.inj hm).symm
   obtain ⟨hE0, hF1⟩ := Prod.mk.inj hE
   obtain ⟨hE1, hF2⟩ := Prod.mk.inj hF1
   obtain ⟨hE2, hE3⟩ := Prod.mk.inj hF2
   clear hE hF1 hF2
   replace hE0 := hE0.symm
   subst hE0
   replace hE1 := hE1.symm
   subst hE1
   replace hE2 := hE2.symm
   subst hE2
   replace hE3 := hE3.symm
   subst hE3
   refine ret_two (Hr := [_, _, _]) [0, 1, 2] Tryd.results18 (res_cell 3 rfl rfl tS_42 tA_42 rfl rfl) (res_tmp rfl) ⟨p31_0, c31_1, x29.args.length, rfl, rfl, rfl⟩ (fun _ _ hφ => ask [] rfl hφ) rfl rfl (.inl rfl)
set_option maxRecDepth 100000 in
set_option maxHeartbeats 4000000 in
theorem w_memory_Memory_Find_s (N : Nat) (qg0 : Nat) (qp1 : Option Addr) (qn2 : Nat) (qc3 : Nat) (l0 : List FactD) (a1 : Int) (a2 : Int) (qp4 : Option Addr) (qc5 : Nat) (l3 : List V) (o0 : Int) (o1 : Bool) (hm : m_memory_Memory_Find N l0 a1 a2 l3 = some (o0, o1)) : Spec Tryd.prog 19 [.pointer (some ⟨qg0, 0, none⟩), .int .i64 a2, .slice qp4 l3.length qc5] [.sli 3 R_V qp4 qc5 l3] [.blk qg0 [.slice qp1 qn2 qc3, .int .i64 a1] 60, .own 42 3 R_FactD (.slice qp1 qn2 qc3) l0] (fun v Φr Hr => v = .tuple #[.int .i64 o0, .bool o1] ∧ Φr = [] ∧ Hr = [.blk qg0 [.slice qp1 qn2 qc3, .int .i64 a1] 60, .own 42 3 R_FactD (.slice qp1 qn2 qc3) l0]) := by
 unfold m_memory_Memory_Find at hm
 refine spec_of Tryd.func19 rfl Tryd.ntmps19 rfl (S := [_,_,_]) rfl (fun C => ?_)
 refine wc_seq ?_
 refine wc_region ?_
 refine wl_pure rfl rfl rfl (freshS_eq rfl) rfl ?_
 refine wl_pure rfl rfl rfl (freshS_eq rfl) rfl ?_
 refine wl_nil ?_
 refine we_then ?_
 refine wc_keep [0, 1, 2] (S' := [_,_,_]) rfl ?_
 refine wc_seq ?_
 refine wc_seq ?_
 refine wc_region ?_
 refine wl_pure rfl rfl rfl (freshS_eq rfl) rfl ?_
 obtain ⟨_, hc10, hm⟩ := bindO_some hm
 try dsimp only at hm
 refine wl_call [0, 1] [] rfl rfl rfl (freshS_eq rfl) rfl rfl fn_26 rfl (w_memory_Memory_known_s N qg0 qp1 qn2 qc3 l0 a1 hc10) (fun _ _ hφ => ask [] rfl hφ) rfl (H' := []) rfl ?_
 rintro _ _ _ ⟨rfl, rfl, rfl⟩
 refine wl_pure rfl rfl rfl (freshS_eq rfl) rfl ?_
 refine wl_nil ?_
 refine we_then ?_
 refine wc_keep [11, 0, 1, 2] (S' := [_,_,_,_]) rfl ?_
 refine wc_cond rfl (fun hb11 => ?_) (fun hb11 => ?_)
 ·
  replace hm := iteT hm hb11
  refine wc_keep [] (S' := []) rfl ?_
  refine wc_seq ?_
  refine wc_region ?_
  refine wl_pure rfl rfl rfl (freshS_eq rfl) rfl ?_
  refine wl_pure rfl rfl rfl (freshS_eq rfl) rfl ?_
  refine wl_nil ?_
  refine we_then ?_
  refine wc_ret ?_
  refine we_then_ret ?_
  have hE := (Option.some.inj hm).symm
  obtain ⟨hE0, hE1⟩ := Prod.mk.inj hE
  clear hE
  replace hE0 := hE0.symm
  subst hE0
  replace hE1 := hE1.symm
  subst hE1
  refine ret_two (Hr := [_, _]) [0, 1] Tryd.results19 (res_tmp rfl) (res_tmp rfl) ⟨rfl, rfl, rfl⟩ (fun _ _ hφ => ask [] rfl hφ) rfl rfl (.inl rfl)
 ·
  replace hm := iteF hm hb11
  refine wc_keep [0, 1, 2] (S' := [_,_,_]) rfl ?_
  refine wc_skip ?_
  refine we_then ?_
  refine wc_seq ?_
  refine wc_region ?_
  refine wl_pure rfl rfl rfl (freshS_eq rfl) rfl ?_
  refine wl_pure rfl rfl rfl (freshS_eq rfl) rfl ?_
  refine wl_fieldAddr rfl rfl rfl (freshS_eq rfl) rfl rfl tF_60_0 ?_
  refine wl_pure rfl rfl rfl (freshS_eq rfl) rfl ?_
  refine wl_pure rfl rfl rfl (freshS_eq rfl) rfl ?_
  obtain ⟨v17, hc17, hm⟩ := bindO_some hm
  refine wl_call [0, 1] [] rfl rfl rfl (freshS_eq rfl) rfl rfl fn_24 rfl (w_memory_row_says_v2_s N qg0 qp1 qn2 qc3 l0 a1 a2 qp4 qc5 l3 _ hc17) (fun _ _ hφ => ask [0] rfl hφ) rfl (H' := []) rfl ?_
  rintro _ _ _ ⟨rfl, rfl, rfl⟩
  refine wl_pure rfl rfl rfl (freshS_eq rfl) rfl ?_
  refine wl_nil ?_
  refine we_then ?_
  refine wc_keep [8, 0] (S' := [_,_]) rfl ?_
  refine wc_seq ?_
  refine wc_seq ?_
  refine wc_region ?_
  refine wl_pure rfl rfl rfl (freshS_eq rfl) rfl ?_
  refine wl_pure rfl rfl rfl (freshS_eq rfl) rfl ?_
  refine wl_nil ?_
  refine we_then ?_
  refine wc_keep [19, 8, 0] (S' := [_,_,_]) rfl ?_
  refine wc_cond rfl (fun hb19 => ?_) (fun hb19 => ?_)
  ·
   replace hm := iteT hm hb19
   refine wc_keep [] (S' := []) rfl ?_
   refine wc_seq ?_
   refine wc_region ?_
   refine wl_pure rfl rfl rfl (freshS_eq rfl) rfl ?_
   refine wl_pure rfl rfl rfl (freshS_eq rfl) rfl ?_
   refine wl_nil ?_
   refine we_then ?_
   refine wc_ret ?_
   refine we_then_ret ?_
   have hE := (Option.some.inj hm).symm
   obtain ⟨hE0, hE1⟩ := Prod.mk.inj hE
   clear hE
   replace hE0 := hE0.symm
   subst hE0
   replace hE1 := hE1.symm
   subst hE1
   refine ret_two (Hr := [_, _]) [0, 1] Tryd.results19 (res_tmp rfl) (res_tmp rfl) ⟨rfl, rfl, rfl⟩ (fun _ _ hφ => ask [] rfl hφ) rfl rfl (.inl rfl)
  ·
   replace hm := iteF hm hb19
   refine wc_keep [8, 0] (S' := [_,_]) rfl ?_
   refine wc_skip ?_
   refine we_then ?_
   refine wc_seq ?_
   refine wc_region ?_
   refine wl_pure rfl rfl rfl (freshS_eq rfl) rfl ?_
   refine wl_pure rfl rfl rfl (freshS_eq rfl) rfl ?_
   refine wl_fieldAddr rfl rfl rfl (freshS_eq rfl) rfl rfl tF_60_0 ?_
   refine wl_fieldAddr rfl rfl rfl (freshS_eq rfl) rfl rfl tF_58_0 ?_
   refine wl_loadH 0 0 rfl rfl rfl (freshS_eq rfl) rfl rfl rfl (cs := [_]) rfl tS_35 tA_35 rfl rfl ?_
   refine wl_pure rfl rfl rfl (freshS_eq rfl) rfl ?_
   obtain ⟨hn26, hm⟩ := gd_some hm
   obtain ⟨x26, hx26, hm⟩ := bindO_some hm
   refine wl_indexH 1 v17.toNat rfl rfl rfl (freshS_eq rfl) rfl rfl rfl rfl (toNat_eq hn26) (get_lt hx26) tE_35 tS_42 (fun g26 eg26 => ?_)
   subst eg26
   refine wl_fieldAddr rfl rfl rfl (freshS_eq rfl) rfl rfl tF_42_0 ?_
   refine wl_loadRow R_FactD_opens 1 v17.toNat 0 rfl rfl rfl (freshS_eq rfl) rfl rfl rfl hx26 tS_3 tA_3 (v := fun r28 => .int .i64 (x26.id)) (fun _ => rfl) (fun _ => rfl) (fun r28 _ => ?_)
   refine wl_pure rfl rfl rfl (freshS_eq rfl) rfl ?_
   refine wl_pure rfl rfl rfl (freshS_eq rfl) rfl ?_
   refine wl_nil ?_
   refine we_then ?_
   refine wc_keep [7, 6] (S' := [_,_]) rfl ?_
   refine wc_ret ?_
   have hE := (Option.some.inj hm).symm
   obtain ⟨hE0, hE1⟩ := Prod.mk.inj hE
   clear hE
   replace hE0 := hE0.symm
   subst hE0
   replace hE1 := hE1.symm
   subst hE1
   refine ret_two (Hr := [_, _]) [0, 1] Tryd.results19 (res_tmp rfl) (res_tmp rfl) ⟨rfl, rfl, rfl⟩ (fun _ _ hφ => ask [] rfl hφ) rfl rfl (.inl rfl)
set_option maxRecDepth 100000 in
set_option maxHeartbeats 4000000 in
theorem w_ropewalkkit_SameValues_v2_s (N : Nat) (qp0 : Option Addr) (qn1 : Nat) (qc2 : Nat) (l0 : List V) (qp3 : Option Addr) (qc4 : Nat) (l1 : List V) (o0 : Bool) (hm : m_ropewalkkit_SameValues N l0 l1 = some o0) : Spec Tryd.prog 16 [.slice qp0 qn1 qc2, .slice qp3 l1.length qc4] [.sli 3 R_V qp3 qc4 l1] [.own 55 3 R_V (.slice qp0 qn1 qc2) l0] (fun v Φr Hr => v = .bool o0 ∧ Φr = [] ∧ Hr = [.own 55 3 R_V (.slice qp0 qn1 qc2) l0]) := by
 unfold m_ropewalkkit_SameValues at hm
 refine spec_of Tryd.func16 rfl Tryd.ntmps16 rfl (S := [_,_]) rfl (fun C => ?_)
 refine wc_seq ?_
 refine wc_region ?_
 refine wl_pure rfl rfl rfl (freshS_eq rfl) rfl ?_
 refine wl_nil ?_
 refine we_then ?_
 refine wc_keep [0, 1] (S' := [_,_]) rfl ?_
 refine wc_seq ?_
 refine wc_seq ?_
 refine wc_region ?_
 refine wl_pure rfl rfl rfl (freshS_eq rfl) rfl ?_
 refine wl_ownLen 0 rfl (fun hl7 _ => ?_)
 refine wl_len rfl rfl rfl (freshS_eq rfl) rfl rfl tE_26 ?_
 refine wl_as (d := 7) (v' := .int .i64 ((l0.length : Nat) : Int)) (S' := [_,_,_]) rfl rfl (len_is hl7) ?_
 refine wl_pure rfl rfl rfl (freshS_eq rfl) rfl ?_
 refine wl_len rfl rfl rfl (freshS_eq rfl) rfl rfl tE_26 ?_
 refine wl_pure rfl rfl rfl (freshS_eq rfl) rfl ?_
 refine wl_as (d := 10) (v' := .bool (l0.length != l1.length)) (S' := [_,_,_,_,_,_]) rfl rfl (natne (a := l0.length) (b := l1.length)) ?_
 refine wl_nil ?_
 refine we_then ?_
 refine wc_keep [10, 0, 1] (S' := [_,_,_]) rfl ?_
 refine wc_cond rfl (fun hb10 => ?_) (fun hb10 => ?_)
 ·
  replace hm := iteT hm hb10
  refine wc_keep [] (S' := []) rfl ?_
  refine wc_seq ?_
  refine wc_region ?_
  refine wl_pure rfl rfl rfl (freshS_eq rfl) rfl ?_
  refine wl_nil ?_
  refine we_then ?_
  refine wc_ret ?_
  refine we_then_ret ?_
  have hE := (Option.some.inj hm).symm
  replace hE := hE.symm
  subst hE
  refine ret_one (Hr := [_]) [0] Tryd.results16 (res_tmp rfl) ⟨rfl, rfl, rfl⟩ (fun _ _ hφ => ask [] rfl hφ) rfl rfl (.inl rfl)
 ·
  replace hm := iteF hm hb10
  refine wc_keep [0, 1] (S' := [_,_]) rfl ?_
  refine wc_skip ?_
  refine we_then ?_
  refine wc_seq ?_
  obtain ⟨bj_1, hm, hLj_1⟩ := bindS_some hm
  refine wc_cut (σ := Unit) (fun _ => bj_1 = .inl ()) (fun _ => []) (fun _ => []) (fun _ => [.own 55 3 R_V (.slice qp0 qn1 qc2) l0]) ?_ ?_
  ·
   refine wc_seq ?_
   refine wc_region ?_
   refine wl_pure rfl rfl rfl (freshS_eq rfl) rfl ?_
   refine wl_nil ?_
   refine we_then ?_
   refine wc_block ?_
   refine wc_loop (σ := Nat × Nat) (fun (nu1, u1_5) => iter (m_ropewalkkit_SameValues_L1 N l0 l1) nu1 u1_5 = some bj_1) (fun (nu1, u1_5) => nu1) (fun (nu1, u1_5) => [(5, .int .i64 ((u1_5 : Nat) : Int)), (0, .slice qp0 qn1 qc2), (1, .slice qp3 l1.length qc4)]) (fun (nu1, u1_5) => [.sli 3 R_V qp3 qc4 l1]) (fun (nu1, u1_5) => [.own 55 3 R_V (.slice qp0 qn1 qc2) l0]) (N, 0) hm [5, 0, 1] rfl (fun _ _ hφ => ask [0] rfl hφ) rfl (fun s_ hm => ?_)
   obtain ⟨nu1, u1_5⟩ := s_
   try dsimp only at hm ⊢
   obtain ⟨mu1, bu1, hnu1, hq, hLu1⟩ := iter_some hm
   clear hm
   subst hnu1
   replace hm := hq
   clear hq
   unfold m_ropewalkkit_SameValues_L1 at hm
   try dsimp only at hm
   refine wc_seq ?_
   refine wc_seq ?_
   refine wc_region ?_
   refine wl_pure rfl rfl rfl (freshS_eq rfl) rfl ?_
   refine wl_pure rfl rfl rfl (freshS_eq rfl) rfl ?_
   refine wl_ownLen 0 rfl (fun hl13 _ => ?_)
   refine wl_len rfl rfl rfl (freshS_eq rfl) rfl rfl tE_26 ?_
   refine wl_as (d := 13) (v' := .int .i64 ((l0.length : Nat) : Int)) (S' := [_,_,_,_,_]) rfl rfl (len_is hl13) ?_
   refine wl_pure rfl rfl rfl (freshS_eq rfl) rfl ?_
   refine wl_as (d := 14) (v' := .bool (decide (u1_5 < l0.length))) (S' := [_,_,_,_,_,_]) rfl rfl (natlt (a := u1_5) (b := l0.length)) ?_
   refine wl_nil ?_
   refine we_then ?_
   refine wc_keep [14, 5, 0, 1] (S' := [_,_,_,_]) rfl ?_
   refine wc_cond rfl (fun hb14 => ?_) (fun hb14 => ?_)
   ·
    replace hm := iteT hm hb14
    refine wc_keep [5, 0, 1] (S' := [_,_,_]) rfl ?_
    refine wc_skip ?_
    refine we_then ?_
    refine wc_seq ?_
    refine wc_block ?_
    refine wc_seq ?_
    obtain ⟨x19, hx19, hm⟩ := bindO_some hm
    obtain ⟨x23, hx23, hm⟩ := bindO_some hm
    refine wc_draw [0, 1, 2, 3, 4, 5, 6, 7, 8] rfl rfl (fun hok => ?_)
    refine wx_pure hok 0 rfl rfl rfl (freshS_eq rfl) rfl rfl ?_
    refine wx_pure hok 1 rfl rfl rfl (freshS_eq rfl) rfl rfl ?_
    refine wx_indexH hok 2 0 u1_5 rfl rfl rfl (freshS_eq rfl) rfl rfl rfl rfl rfl rfl (get_lt hx19) tE_26 tS_55 (fun g19 eg19 => ?_)
    subst eg19
    refine wx_loadRow hok 3 R_V_opens 0 u1_5 0 rfl rfl rfl (freshS_eq rfl) rfl rfl rfl rfl hx19 tS_55 tA_55 (v := .agg #[.int .u8 (x19.k), .int .i64 (x19.n), .string x19.s]) rfl rfl (fun _ => ?_)
    refine wx_pure hok 4 rfl rfl rfl (freshS_eq rfl) rfl rfl ?_
    refine wx_pure hok 5 rfl rfl rfl (freshS_eq rfl) rfl rfl ?_
    refine wx_indexA hok 6 0 u1_5 rfl rfl rfl (freshS_eq rfl) rfl rfl rfl rfl rfl rfl hx23 tE_26 tS_55 (fun b23 q23 cs23 hlx23 => ?_)
    refine wx_openR R_V_opens 1 rfl (fun r23 er23 _ => ?_)
    subst er23
    refine wx_load hok 7 0 0 rfl rfl rfl (freshS_eq rfl) rfl rfl rfl rfl (cs := [_,_,_]) rfl tS_55 tA_55 rfl rfl ?_
    refine wx_bin hok 8 rfl rfl rfl (freshS_eq rfl) rfl rfl rfl rfl (neqV _ _ x19 x23) ?_
    refine wx_done hok rfl ?_
    refine we_then ?_
    refine wc_keep [25, 5, 0, 1] (S' := [_,_,_,_]) rfl ?_
    refine wc_cond rfl (fun hb25 => ?_) (fun hb25 => ?_)
    ·
     replace hm := iteT hm hb25
     refine wc_keep [] (S' := []) rfl ?_
     refine wc_seq ?_
     refine wc_region ?_
     refine wl_pure rfl rfl rfl (freshS_eq rfl) rfl ?_
     refine wl_nil ?_
     refine we_then ?_
     refine wc_ret ?_
     refine we_block_ret ?_
     refine we_then_ret ?_
     refine we_then_ret ?_
     refine we_block_ret ?_
     refine we_then_ret ?_
     have hE := (Option.some.inj hm).symm
     replace hE := link_inr hLu1 hE
     replace hE := link_inr hLj_1 hE
     replace hE := hE.symm
     subst hE
     refine ret_one (Hr := [_]) [0] Tryd.results16 (res_tmp rfl) ⟨rfl, rfl, rfl⟩ (fun _ _ hφ => ask [] rfl hφ) rfl rfl (.inl rfl)
    ·
     replace hm := iteF hm hb25
     refine wc_keep [5, 0, 1] (S' := [_,_,_]) rfl ?_
     refine wc_skip ?_
     refine we_block_normal ?_
     refine we_then ?_
     refine wc_region ?_
     refine wl_pure rfl rfl rfl (freshS_eq rfl) rfl ?_
     refine wl_pure rfl rfl rfl (freshS_eq rfl) rfl ?_
     obtain ⟨hg16, hm⟩ := gd_some hm
     refine wl_as (d := 16) (v' := .int .i64 ((u1_5 + 1 : Nat) : Int)) (S' := [_,_,_,_]) rfl rfl (nat_add (a := u1_5) (b := 1) hg16) ?_
     refine wl_pure (S' := [_,_,_,_]) rfl rfl rfl rfl rfl ?_
     refine wl_nil ?_
     have hE := (Option.some.inj hm).symm
     replace hE := link_inl hLu1 hE
     refine we_roundK (_, u1_5 + 1) (Nat.lt_succ_self _) hE [5, 0, 1] rfl (fun _ _ hφ => ask [2] rfl hφ) rfl
   ·
    replace hm := iteF hm hb14
    refine wc_keep [] (S' := []) rfl ?_
    refine wc_exit ?_
    refine we_then_exit ?_
    refine we_then_exit ?_
    refine we_block_hit ?_
    have hE := (Option.some.inj hm).symm
    replace hE := link_inr hLu1 hE
    refine we_join () hE [] rfl (fun _ _ hφ => ask [] rfl hφ) rfl
  ·
   rintro _ hE
   try dsimp only
   have hm := link_inl hLj_1 hE
   try dsimp only at hm
   refine wc_seq ?_
   refine wc_region ?_
   refine wl_pure rfl rfl rfl (freshS_eq rfl) rfl ?_
   refine wl_nil ?_
   refine we_then ?_
   refine wc_ret ?_
   have hE := (Option.some.inj hm).symm
   replace hE := hE.symm
   subst hE
   refine ret_one (Hr := [_]) [0] Tryd.results16 (res_tmp rfl) ⟨rfl, rfl, rfl⟩ (fun _ _ hφ => ask [] rfl hφ) rfl rfl (.inl rfl)
end Go.Proofs.YtdnolbmbmncefaaDoor
