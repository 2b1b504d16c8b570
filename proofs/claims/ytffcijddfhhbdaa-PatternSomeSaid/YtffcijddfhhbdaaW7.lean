/- Walks, printed by a program out of the loaded code (wip/sep). -/
import Derived.Test.YtffcijddfhhbdaaW5
import Derived.Test.YtffcijddfhhbdaaMap
namespace Go.Proofs.Ytffcijddfhhbdaa
open Go.RowKit
set_option maxRecDepth 100000 in
set_option maxHeartbeats 4000000 in
theorem awake_s  : Spec Try.prog 5 [] [] [] (fun v Φr Hr => v = .bool true ∧ Φr = [] ∧ Hr = []) := by
 refine spec_of Try.func5 rfl Try.ntmps5 rfl (S := []) rfl (fun C => ?_)
 refine wc_seq ?_
 refine wc_region ?_
 refine wl_pure rfl rfl rfl (freshS_eq rfl) rfl ?_
 refine wl_nil ?_
 refine we_then ?_
 refine wc_seq ?_
 refine wc_region ?_
 refine wl_build rfl rfl rfl (freshS_eq rfl) rfl tZ_48 tP_48 rfl (out := [_,_,_,_,_]) rfl ?_
 refine wl_build rfl rfl rfl (freshS_eq rfl) rfl tZ_48 tP_48 rfl (out := [_,_,_,_,_]) rfl ?_
 refine wl_build rfl rfl rfl (freshS_eq rfl) rfl tZ_48 tP_48 rfl (out := [_,_,_,_,_]) rfl ?_
 refine wl_call [] [] rfl rfl rfl (freshS_eq rfl) rfl rfl fn_13 rfl (num_s _) (fun _ _ hφ => ask [] rfl hφ) rfl (H' := []) rfl ?_
 rintro _ _ _ ⟨rfl, rfl, rfl⟩
 refine wl_build rfl rfl rfl (freshS_eq rfl) rfl tZ_48 tP_48 rfl (out := [_,_,_,_,_]) rfl ?_
 refine wl_buildSlice rfl rfl rfl (freshS_eq rfl) rfl tE_23 tS_48 tZ_48 rfl (zs := [.int .u8 0, .int .i64 0, .int .u8 0, .int .i64 0, .string ⟨#[]⟩, .int .u8 0, .int .i64 0, .int .u8 0, .int .i64 0, .string ⟨#[]⟩, .int .u8 0, .int .i64 0, .int .u8 0, .int .i64 0, .string ⟨#[]⟩, .int .u8 0, .int .i64 0, .int .u8 0, .int .i64 0, .string ⟨#[]⟩]) (by kernel_rfl) rfl (out := [_,_,_,_,_,_,_,_,_,_,_,_,_,_,_,_,_,_,_,_]) rfl (fun g13 => ?_)
 refine wl_build rfl rfl rfl (freshS_eq rfl) rfl tZ_33 tP_33 rfl (out := [_,_,_,_,_,_,_,_,_,_]) rfl ?_
 refine wl_alloc rfl rfl rfl (freshS_eq rfl) rfl tZ_33 rfl (fun g1 => ?_)
 refine wl_store 0 0 rfl rfl rfl rfl rfl rfl rfl tS_33 rfl rfl rfl (all' := [_,_,_,_,_,_,_,_,_,_]) rfl (H' := [_,_]) rfl ?_
 refine wl_nil ?_
 refine we_then ?_
 refine wc_keep [1, 0] (S' := [_,_]) rfl ?_
 refine wc_seq ?_
 refine wc_draw [0, 6, 9, 10, 11] rfl rfl (fun hok => ?_)
 refine wx_memo (σ := Nat × (Option Addr) × Nat × (Option Addr) × Nat × Bool × EnvD × (Option Addr) × Nat × (Option Addr) × Nat × Nat) (fun (g21, p23, c23, p23_2, c23_2, r24, e24, p24, c24, p24_2, c24_2, g2) => MatchR ⟨1, 1, [(⟨1, 0, (⟨0, 0, ⟨#[]⟩⟩ : V)⟩ : ArgD), (⟨2, 0, (⟨0, 0, ⟨#[]⟩⟩ : V)⟩ : ArgD), (⟨3, 0, (⟨0, 0, ⟨#[]⟩⟩ : V)⟩ : ArgD), (⟨4, 0, (⟨1, 5, ⟨#[]⟩⟩ : V)⟩ : ArgD)]⟩ ⟨0, 1, [(⟨1, 1, ⟨#[]⟩⟩ : V), (⟨1, 2, ⟨#[]⟩⟩ : V), (⟨1, 2, ⟨#[]⟩⟩ : V), (⟨1, 5, ⟨#[]⟩⟩ : V)]⟩ ⟨(newOf 1).has, (newOf 1).vals⟩ r24 e24) [12, 11, 10, 9, 8, 7, 6, 5, 4, 3, 2, 1, 0] (fun (g21, p23, c23, p23_2, c23_2, r24, e24, p24, c24, p24_2, c24_2, g2) => [(0, .blk g1 [.int .u8 1, .int .i64 1, .slice (some ⟨g13, 0, none⟩) 4 4, .int .u8 0, .int .u8 0, .int .i64 0, .string ⟨#[]⟩, .int .i64 0, .int .u8 0, .slice none 0 0] 33)]) (fun (g21, p23, c23, p23_2, c23_2, r24, e24, p24, c24, p24_2, c24_2, g2) => []) (fun (g21, p23, c23, p23_2, c23_2, r24, e24, p24, c24, p24_2, c24_2, g2) => [.blk g2 [.slice none 0 0, .slice none 0 0] 41, .own 27 3 vRep (.slice p24_2 e24.vals.length c24_2) e24.vals, .own 4 1 bRep (.slice p24 e24.has.length c24) e24.has, .own 27 3 vRep (.slice p23_2 ((newOf 1).vals.length) c23_2) ((newOf 1).vals), .own 4 1 bRep (.slice p23 ((newOf 1).has.length) c23) ((newOf 1).has), .blk g21 [.int .u8 1, .int .i64 1, .string ⟨#[]⟩, .int .u8 1, .int .i64 2, .string ⟨#[]⟩, .int .u8 1, .int .i64 2, .string ⟨#[]⟩, .int .u8 1, .int .i64 5, .string ⟨#[]⟩] 27, .blk g1 [.int .u8 1, .int .i64 1, .slice (some ⟨g13, 0, none⟩) 4 4, .int .u8 0, .int .u8 0, .int .i64 0, .string ⟨#[]⟩, .int .i64 0, .int .u8 0, .slice none 0 0] 33, .blk g13 [.int .u8 1, .int .i64 0, .int .u8 0, .int .i64 0, .string ⟨#[]⟩, .int .u8 2, .int .i64 0, .int .u8 0, .int .i64 0, .string ⟨#[]⟩, .int .u8 3, .int .i64 0, .int .u8 0, .int .i64 0, .string ⟨#[]⟩, .int .u8 4, .int .i64 0, .int .u8 1, .int .i64 5, .string ⟨#[]⟩] 48]) (fun (g21, p23, c23, p23_2, c23_2, r24, e24, p24, c24, p24_2, c24_2, g2) => [(2, .pointer (some ⟨g2, 0, none⟩)), (26, .bool r24), (25, .agg #[.slice p24 e24.has.length c24, .slice p24_2 e24.vals.length c24_2]), (1, .pointer (some ⟨g1, 0, none⟩)), (0, .bool false)]) ?_ (fun m0_2 => ?_)
 ·
  rintro ⟨g21, p23, c23, p23_2, c23_2, r24, e24, p24, c24, p24_2, c24_2, g2⟩ hmr24
  try dsimp only
  refine wx_step1 hok 13 rfl rfl rfl rfl ?_
  refine wl_store 0 0 rfl rfl rfl rfl rfl rfl rfl tS_41 rfl rfl rfl (all' := [_,_]) rfl (H' := [_,_,_,_,_,_,_,_]) rfl ?_
  refine wl_nil ?_
  refine we_x [] [] rfl rfl ?_
  refine wx_step1 hok 14 rfl rfl rfl rfl ?_
  refine wl_pure rfl rfl rfl (freshS_eq rfl) rfl ?_
  refine wl_nil ?_
  refine we_x [] [] rfl rfl ?_
  obtain ⟨rfl, rfl⟩ := awake1 hmr24
  refine wx_done hok rfl ?_
  refine we_then ?_
  refine wc_keep [3, 2, 1, 0] (S' := [_,_,_,_]) rfl ?_
  refine wc_seq ?_
  refine wc_draw [0, 6, 9, 10, 11] rfl rfl (fun hok => ?_)
  refine wx_memo (σ := Nat × (Option Addr) × Nat × (Option Addr) × Nat × Bool × EnvD × (Option Addr) × Nat × (Option Addr) × Nat × Nat) (fun (g33, p35, c35, p35_2, c35_2, r36, e36, p36, c36, p36_2, c36_2, g4) => MatchR ⟨1, 1, [(⟨1, 0, (⟨0, 0, ⟨#[]⟩⟩ : V)⟩ : ArgD), (⟨2, 0, (⟨0, 0, ⟨#[]⟩⟩ : V)⟩ : ArgD), (⟨3, 0, (⟨0, 0, ⟨#[]⟩⟩ : V)⟩ : ArgD), (⟨4, 0, (⟨1, 5, ⟨#[]⟩⟩ : V)⟩ : ArgD)]⟩ ⟨0, 1, [(⟨1, 1, ⟨#[]⟩⟩ : V), (⟨1, 2, ⟨#[]⟩⟩ : V), (⟨1, 3, ⟨#[]⟩⟩ : V), (⟨1, 5, ⟨#[]⟩⟩ : V)]⟩ ⟨(newOf 1).has, (newOf 1).vals⟩ r36 e36) [12, 11, 10, 9, 8, 7, 6, 5, 4, 3, 2, 1, 0] (fun (g33, p35, c35, p35_2, c35_2, r36, e36, p36, c36, p36_2, c36_2, g4) => [(0, .blk g1 [.int .u8 1, .int .i64 1, .slice (some ⟨g13, 0, none⟩) 4 4, .int .u8 0, .int .u8 0, .int .i64 0, .string ⟨#[]⟩, .int .i64 0, .int .u8 0, .slice none 0 0] 33)]) (fun (g33, p35, c35, p35_2, c35_2, r36, e36, p36, c36, p36_2, c36_2, g4) => []) (fun (g33, p35, c35, p35_2, c35_2, r36, e36, p36, c36, p36_2, c36_2, g4) => [.blk g4 [.slice none 0 0, .slice none 0 0] 41, .own 27 3 vRep (.slice p36_2 e36.vals.length c36_2) e36.vals, .own 4 1 bRep (.slice p36 e36.has.length c36) e36.has, .own 27 3 vRep (.slice p35_2 ((newOf 1).vals.length) c35_2) ((newOf 1).vals), .own 4 1 bRep (.slice p35 ((newOf 1).has.length) c35) ((newOf 1).has), .blk g33 [.int .u8 1, .int .i64 1, .string ⟨#[]⟩, .int .u8 1, .int .i64 2, .string ⟨#[]⟩, .int .u8 1, .int .i64 3, .string ⟨#[]⟩, .int .u8 1, .int .i64 5, .string ⟨#[]⟩] 27, .blk g2 [.slice p24 ([true] : List Bool).length c24, .slice p24_2 ([⟨1, 2, ⟨#[]⟩⟩] : List V).length c24_2] 41, .own 27 3 vRep (.slice p24_2 ([⟨1, 2, ⟨#[]⟩⟩] : List V).length c24_2) ([⟨1, 2, ⟨#[]⟩⟩] : List V), .own 4 1 bRep (.slice p24 ([true] : List Bool).length c24) ([true] : List Bool), .own 27 3 vRep (.slice p23_2 ((newOf 1).vals.length) c23_2) ((newOf 1).vals), .own 4 1 bRep (.slice p23 ((newOf 1).has.length) c23) ((newOf 1).has), .blk g21 [.int .u8 1, .int .i64 1, .string ⟨#[]⟩, .int .u8 1, .int .i64 2, .string ⟨#[]⟩, .int .u8 1, .int .i64 2, .string ⟨#[]⟩, .int .u8 1, .int .i64 5, .string ⟨#[]⟩] 27, .blk g1 [.int .u8 1, .int .i64 1, .slice (some ⟨g13, 0, none⟩) 4 4, .int .u8 0, .int .u8 0, .int .i64 0, .string ⟨#[]⟩, .int .i64 0, .int .u8 0, .slice none 0 0] 33, .blk g13 [.int .u8 1, .int .i64 0, .int .u8 0, .int .i64 0, .string ⟨#[]⟩, .int .u8 2, .int .i64 0, .int .u8 0, .int .i64 0, .string ⟨#[]⟩, .int .u8 3, .int .i64 0, .int .u8 0, .int .i64 0, .string ⟨#[]⟩, .int .u8 4, .int .i64 0, .int .u8 1, .int .i64 5, .string ⟨#[]⟩] 48]) (fun (g33, p35, c35, p35_2, c35_2, r36, e36, p36, c36, p36_2, c36_2, g4) => [(4, .pointer (some ⟨g4, 0, none⟩)), (38, .bool r36), (37, .agg #[.slice p36 e36.has.length c36, .slice p36_2 e36.vals.length c36_2]), (3, .bool true), (2, .pointer (some ⟨g2, 0, none⟩)), (1, .pointer (some ⟨g1, 0, none⟩)), (0, .bool false)]) ?_ (fun m0_3 => ?_)
  ·
   rintro ⟨g33, p35, c35, p35_2, c35_2, r36, e36, p36, c36, p36_2, c36_2, g4⟩ hmr36
   try dsimp only
   refine wx_step1 hok 13 rfl rfl rfl rfl ?_
   refine wl_store 0 0 rfl rfl rfl rfl rfl rfl rfl tS_41 rfl rfl rfl (all' := [_,_]) rfl (H' := [_,_,_,_,_,_,_,_,_,_,_,_,_,_]) rfl ?_
   refine wl_nil ?_
   refine we_x [] [] rfl rfl ?_
   refine wx_step1 hok 14 rfl rfl rfl rfl ?_
   refine wl_pure rfl rfl rfl (freshS_eq rfl) rfl ?_
   refine wl_nil ?_
   refine we_x [] [] rfl rfl ?_
   obtain ⟨rfl, rfl⟩ := awake2 hmr36
   refine wx_done hok rfl ?_
   refine we_then ?_
   refine wc_keep [5, 3, 2, 1, 0] (S' := [_,_,_,_,_]) rfl ?_
   refine wc_seq ?_
   refine wc_region ?_
   refine wl_fieldAddr rfl rfl rfl (freshS_eq rfl) rfl rfl tF_33_2 ?_
   refine wl_loadH 12 2 rfl rfl rfl (freshS_eq rfl) rfl rfl rfl (cs := [_]) rfl tS_23 tA_23 rfl rfl ?_
   refine wl_indexB 2 rfl rfl rfl (freshS_eq rfl) rfl rfl rfl rfl (by simp) tE_23 tS_48 ?_
   refine wl_fieldAddr rfl rfl rfl (freshS_eq rfl) rfl rfl tF_48_1 ?_
   refine wl_store 13 11 rfl rfl rfl rfl rfl rfl rfl tS_3 rfl rfl rfl (all' := [_,_,_,_,_,_,_,_,_,_,_,_,_,_,_,_,_,_,_,_]) rfl (H' := [_,_,_,_,_,_,_,_,_,_,_,_,_,_]) rfl ?_
   refine wl_nil ?_
   refine we_then ?_
   refine wc_keep [5, 3, 2, 1, 0] (S' := [_,_,_,_,_]) rfl ?_
   refine wc_seq ?_
   refine wc_draw [0, 6, 9, 10, 11] rfl rfl (fun hok => ?_)
   refine wx_memo (σ := Nat × (Option Addr) × Nat × (Option Addr) × Nat × Bool × EnvD × (Option Addr) × Nat × (Option Addr) × Nat × Nat) (fun (g49, p51, c51, p51_2, c51_2, r52, e52, p52, c52, p52_2, c52_2, g6) => MatchR ⟨1, 1, [(⟨1, 0, (⟨0, 0, ⟨#[]⟩⟩ : V)⟩ : ArgD), (⟨2, 0, (⟨0, 0, ⟨#[]⟩⟩ : V)⟩ : ArgD), (⟨3, 1, (⟨0, 0, ⟨#[]⟩⟩ : V)⟩ : ArgD), (⟨4, 0, (⟨1, 5, ⟨#[]⟩⟩ : V)⟩ : ArgD)]⟩ ⟨0, 1, [(⟨1, 1, ⟨#[]⟩⟩ : V), (⟨1, 2, ⟨#[]⟩⟩ : V), (⟨1, 2, ⟨#[]⟩⟩ : V), (⟨1, 5, ⟨#[]⟩⟩ : V)]⟩ ⟨(newOf 1).has, (newOf 1).vals⟩ r52 e52) [12, 11, 10, 9, 8, 7, 6, 5, 4, 3, 2, 1, 0] (fun (g49, p51, c51, p51_2, c51_2, r52, e52, p52, c52, p52_2, c52_2, g6) => [(0, .blk g1 [.int .u8 1, .int .i64 1, .slice (some ⟨g13, 0, none⟩) 4 4, .int .u8 0, .int .u8 0, .int .i64 0, .string ⟨#[]⟩, .int .i64 0, .int .u8 0, .slice none 0 0] 33)]) (fun (g49, p51, c51, p51_2, c51_2, r52, e52, p52, c52, p52_2, c52_2, g6) => []) (fun (g49, p51, c51, p51_2, c51_2, r52, e52, p52, c52, p52_2, c52_2, g6) => [.blk g6 [.slice none 0 0, .slice none 0 0] 41, .own 27 3 vRep (.slice p52_2 e52.vals.length c52_2) e52.vals, .own 4 1 bRep (.slice p52 e52.has.length c52) e52.has, .own 27 3 vRep (.slice p51_2 ((newOf 1).vals.length) c51_2) ((newOf 1).vals), .own 4 1 bRep (.slice p51 ((newOf 1).has.length) c51) ((newOf 1).has), .blk g49 [.int .u8 1, .int .i64 1, .string ⟨#[]⟩, .int .u8 1, .int .i64 2, .string ⟨#[]⟩, .int .u8 1, .int .i64 2, .string ⟨#[]⟩, .int .u8 1, .int .i64 5, .string ⟨#[]⟩] 27, .blk g4 [.slice p36 ([] : List Bool).length c36, .slice p36_2 ([] : List V).length c36_2] 41, .own 27 3 vRep (.slice p36_2 ([] : List V).length c36_2) ([] : List V), .own 4 1 bRep (.slice p36 ([] : List Bool).length c36) ([] : List Bool), .own 27 3 vRep (.slice p35_2 ((newOf 1).vals.length) c35_2) ((newOf 1).vals), .own 4 1 bRep (.slice p35 ((newOf 1).has.length) c35) ((newOf 1).has), .blk g33 [.int .u8 1, .int .i64 1, .string ⟨#[]⟩, .int .u8 1, .int .i64 2, .string ⟨#[]⟩, .int .u8 1, .int .i64 3, .string ⟨#[]⟩, .int .u8 1, .int .i64 5, .string ⟨#[]⟩] 27, .blk g2 [.slice p24 ([true] : List Bool).length c24, .slice p24_2 ([⟨1, 2, ⟨#[]⟩⟩] : List V).length c24_2] 41, .own 27 3 vRep (.slice p24_2 ([⟨1, 2, ⟨#[]⟩⟩] : List V).length c24_2) ([⟨1, 2, ⟨#[]⟩⟩] : List V), .own 4 1 bRep (.slice p24 ([true] : List Bool).length c24) ([true] : List Bool), .own 27 3 vRep (.slice p23_2 ((newOf 1).vals.length) c23_2) ((newOf 1).vals), .own 4 1 bRep (.slice p23 ((newOf 1).has.length) c23) ((newOf 1).has), .blk g21 [.int .u8 1, .int .i64 1, .string ⟨#[]⟩, .int .u8 1, .int .i64 2, .string ⟨#[]⟩, .int .u8 1, .int .i64 2, .string ⟨#[]⟩, .int .u8 1, .int .i64 5, .string ⟨#[]⟩] 27, .blk g1 [.int .u8 1, .int .i64 1, .slice (some ⟨g13, 0, none⟩) 4 4, .int .u8 0, .int .u8 0, .int .i64 0, .string ⟨#[]⟩, .int .i64 0, .int .u8 0, .slice none 0 0] 33, .blk g13 [.int .u8 1, .int .i64 0, .int .u8 0, .int .i64 0, .string ⟨#[]⟩, .int .u8 2, .int .i64 0, .int .u8 0, .int .i64 0, .string ⟨#[]⟩, .int .u8 3, .int .i64 1, .int .u8 0, .int .i64 0, .string ⟨#[]⟩, .int .u8 4, .int .i64 0, .int .u8 1, .int .i64 5, .string ⟨#[]⟩] 48]) (fun (g49, p51, c51, p51_2, c51_2, r52, e52, p52, c52, p52_2, c52_2, g6) => [(6, .pointer (some ⟨g6, 0, none⟩)), (54, .bool r52), (53, .agg #[.slice p52 e52.has.length c52, .slice p52_2 e52.vals.length c52_2]), (5, .bool false), (3, .bool true), (2, .pointer (some ⟨g2, 0, none⟩)), (1, .pointer (some ⟨g1, 0, none⟩)), (0, .bool false)]) ?_ (fun m0_5 => ?_)
   ·
    rintro ⟨g49, p51, c51, p51_2, c51_2, r52, e52, p52, c52, p52_2, c52_2, g6⟩ hmr52
    try dsimp only
    refine wx_step1 hok 13 rfl rfl rfl rfl ?_
    refine wl_store 0 0 rfl rfl rfl rfl rfl rfl rfl tS_41 rfl rfl rfl (all' := [_,_]) rfl (H' := [_,_,_,_,_,_,_,_,_,_,_,_,_,_,_,_,_,_,_,_]) rfl ?_
    refine wl_nil ?_
    refine we_x [] [] rfl rfl ?_
    refine wx_step1 hok 14 rfl rfl rfl rfl ?_
    refine wl_pure rfl rfl rfl (freshS_eq rfl) rfl ?_
    refine wl_nil ?_
    refine we_x [] [] rfl rfl ?_
    obtain ⟨rfl, rfl⟩ := awake3 hmr52
    refine wx_done hok rfl ?_
    refine we_then ?_
    refine wc_keep [7, 5, 3, 2, 1, 0] (S' := [_,_,_,_,_,_]) rfl ?_
    refine wc_seq ?_
    refine wc_draw [0, 1, 2, 3, 4, 5, 6, 7, 8, 9, 10, 11, 12, 13, 14, 15, 16, 17, 18, 19, 20, 21, 22, 23, 25, 26, 27, 28, 29, 30, 31, 32, 33, 34] rfl rfl (fun hok => ?_)
    refine wx_pure hok 0 rfl rfl rfl (freshS_eq rfl) rfl rfl ?_
    refine wx_pure hok 1 rfl rfl rfl (freshS_eq rfl) rfl rfl ?_
    refine wx_fieldAddr hok 2 rfl rfl rfl (freshS_eq rfl) rfl rfl rfl tF_41_0 ?_
    refine wx_loadH hok 3 12 0 rfl rfl rfl (freshS_eq rfl) rfl rfl rfl rfl (cs := [_]) rfl tS_37 tA_37 rfl rfl ?_
    refine wx_len hok 4 rfl rfl rfl (freshS_eq rfl) rfl rfl rfl tE_37 ?_
    refine wx_pure hok 5 rfl rfl rfl (freshS_eq rfl) rfl rfl ?_
    refine wx_pure hok 6 rfl rfl rfl (freshS_eq rfl) rfl rfl ?_
    refine wx_pure hok 7 rfl rfl rfl (freshS_eq rfl) rfl rfl ?_
    refine wx_split (d := 62) (S' := [_,_,_,_,_,_,_,_,_,_,_,_,_]) rfl rfl (fun h62 => ?_) (fun h62 => ?_)
    ·
     replace h62 := eq_of_beq h62
     refine wx_fieldAddr hok 8 rfl rfl rfl (freshS_eq rfl) rfl rfl rfl tF_41_0 ?_
     refine wx_loadH hok 9 12 0 rfl rfl rfl (freshS_eq rfl) rfl rfl rfl rfl (cs := [_]) rfl tS_37 tA_37 rfl rfl ?_
     refine wx_indexH hok 10 14 0 rfl rfl rfl (freshS_eq rfl) rfl rfl rfl rfl rfl rfl (by simp) tE_37 tS_4 (fun g65 eg65 => ?_)
     subst eg65
     obtain ⟨y65, hy65⟩ : ∃ y, ([true] : List Bool)[0]? = some y := ⟨_, List.getElem?_eq_getElem (by simp)⟩
     refine wx_loadRow hok 11 bRep_opens 14 0 0 rfl rfl rfl (freshS_eq rfl) rfl rfl rfl rfl hy65 tS_4 tA_4 (v := .bool y65) rfl rfl (fun oky65 => ?_)
     refine wx_pure hok 12 rfl rfl rfl (freshS_eq rfl) rfl rfl ?_
     refine wx_pure hok 13 rfl rfl rfl (freshS_eq rfl) rfl rfl ?_
     refine wx_split (d := 68) (S' := [_,_,_,_,_,_,_,_,_,_,_,_,_,_,_,_,_,_,_]) rfl rfl (fun h68 => ?_) (fun h68 => ?_)
     ·
      refine wx_fieldAddr hok 14 rfl rfl rfl (freshS_eq rfl) rfl rfl rfl tF_41_1 ?_
      refine wx_loadH hok 15 12 1 rfl rfl rfl (freshS_eq rfl) rfl rfl rfl rfl (cs := [_]) rfl tS_34 tA_34 rfl rfl ?_
      refine wx_len hok 16 rfl rfl rfl (freshS_eq rfl) rfl rfl rfl tE_34 ?_
      refine wx_pure hok 17 rfl rfl rfl (freshS_eq rfl) rfl rfl ?_
      refine wx_pure hok 18 rfl rfl rfl (freshS_eq rfl) rfl rfl ?_
      refine wx_pure hok 19 rfl rfl rfl (freshS_eq rfl) rfl rfl ?_
      refine wx_split (d := 74) (S' := [_,_,_,_,_,_,_,_,_,_,_,_,_,_,_,_,_,_,_,_,_,_,_,_,_]) rfl rfl (fun h74 => ?_) (fun h74 => ?_)
      ·
       replace h74 := eq_of_beq h74
       refine wx_fieldAddr hok 20 rfl rfl rfl (freshS_eq rfl) rfl rfl rfl tF_41_1 ?_
       refine wx_loadH hok 21 12 1 rfl rfl rfl (freshS_eq rfl) rfl rfl rfl rfl (cs := [_]) rfl tS_34 tA_34 rfl rfl ?_
       refine wx_indexH hok 22 13 0 rfl rfl rfl (freshS_eq rfl) rfl rfl rfl rfl rfl rfl (by simp) tE_34 tS_27 (fun g77 eg77 => ?_)
       subst eg77
       obtain ⟨y77, hy77⟩ : ∃ y, ([⟨1, 2, ⟨#[]⟩⟩] : List V)[0]? = some y := ⟨_, List.getElem?_eq_getElem (by simp)⟩
       refine wx_loadRow hok 23 vRep_opens 13 0 0 rfl rfl rfl (freshS_eq rfl) rfl rfl rfl rfl hy77 tS_27 tA_27 (v := .agg #[.int .u8 (y77.k), .int .i64 (y77.n), .string y77.s]) rfl rfl (fun oky77 => ?_)
       refine wx_step1 hok 24 rfl rfl rfl rfl ?_
       refine wl_call [] [0, 1, 2, 3, 4, 5, 6, 7, 8, 9, 10, 11, 12, 13, 14, 15, 16, 17, 18, 19] rfl rfl rfl (freshS_eq rfl) rfl rfl fn_13 rfl (num_s _) (fun _ _ hφ => ask [] rfl hφ) rfl (H' := [_,_,_,_,_,_,_,_,_,_,_,_,_,_,_,_,_,_,_,_]) rfl ?_
       rintro _ _ _ ⟨rfl, rfl, rfl⟩
       refine wl_nil ?_
       refine we_x [] [13, 12, 12, 14, 12, 12] rfl rfl ?_
       refine wx_bin hok 25 rfl rfl rfl (freshS_eq rfl) rfl rfl rfl rfl (eqlV _ _ y77 (⟨1, 2, ⟨#[]⟩⟩ : V)) ?_
       refine wx_pure hok 26 rfl rfl rfl (freshS_eq rfl) rfl rfl ?_
       refine wx_pure hok 27 rfl rfl rfl (freshS_eq rfl) rfl rfl ?_
       refine wx_split (d := 82) (S' := [_,_,_,_,_,_,_,_,_,_,_,_,_,_,_,_,_,_,_,_,_,_,_,_,_,_,_,_,_,_,_,_,_]) rfl rfl (fun h82 => ?_) (fun h82 => ?_)
       ·
        replace h82 := of_decide_eq_true h82
        refine wx_pure hok 28 rfl rfl rfl (freshS_eq rfl) rfl rfl ?_
        refine wx_pure hok 29 rfl rfl rfl (freshS_eq rfl) rfl rfl ?_
        refine wx_pure hok 30 rfl rfl rfl (freshS_eq rfl) rfl rfl ?_
        refine wx_pure hok 31 rfl rfl rfl (freshS_eq rfl) rfl rfl ?_
        refine wx_pure hok 32 rfl rfl rfl (freshS_eq rfl) rfl rfl ?_
        refine wx_pure hok 33 rfl rfl rfl (freshS_eq rfl) rfl rfl ?_
        refine wx_pure hok 34 rfl rfl rfl (freshS_eq rfl) rfl rfl ?_
        refine wx_step1 hok 35 rfl rfl rfl rfl ?_
        refine wl_pure (S' := [_,_,_,_,_,_,_,_,_,_,_,_,_,_,_,_,_,_,_,_,_,_,_,_,_,_,_,_,_,_,_,_,_,_,_,_,_,_,_,_]) rfl rfl rfl rfl rfl ?_
        refine wl_nil ?_
        refine we_x [] [] rfl rfl ?_
        refine wx_done hok rfl ?_
        refine we_then ?_
        refine wc_keep [0, 7, 5, 3, 2, 1] (S' := [_,_,_,_,_,_]) rfl ?_
        refine wc_ret ?_
        refine ret_one (Hr := []) [] Try.results5 (res_tmp rfl) ?_ (fun _ _ hφ => ask [] rfl hφ) rfl rfl (.inl rfl)
        exact ⟨rfl, rfl, rfl⟩
       ·
        replace h82 := of_decide_eq_false h82
        exfalso; simp_all
      ·
       replace h74 := ne_of_beq_false h74
       exfalso; simp_all
     ·
      exfalso; simp_all
    ·
     replace h62 := ne_of_beq_false h62
     exfalso; simp_all
   refine wx_memo (σ := Nat × (Option Addr) × Nat × (Option Addr) × Nat × Nat) (fun (g49, p51, c51, p51_2, c51_2, g6) => True) [12, 7, 6, 5, 4, 3, 2, 1, 0] (fun (g49, p51, c51, p51_2, c51_2, g6) => [(0, .blk g1 [.int .u8 1, .int .i64 1, .slice (some ⟨g13, 0, none⟩) 4 4, .int .u8 0, .int .u8 0, .int .i64 0, .string ⟨#[]⟩, .int .i64 0, .int .u8 0, .slice none 0 0] 33)]) (fun (g49, p51, c51, p51_2, c51_2, g6) => []) (fun (g49, p51, c51, p51_2, c51_2, g6) => [.blk g6 [.slice none 0 0, .slice none 0 0] 41, .own 27 3 vRep (.slice p51_2 ((newOf 1).vals.length) c51_2) ((newOf 1).vals), .own 4 1 bRep (.slice p51 ((newOf 1).has.length) c51) ((newOf 1).has), .blk g49 [.int .u8 1, .int .i64 1, .string ⟨#[]⟩, .int .u8 1, .int .i64 2, .string ⟨#[]⟩, .int .u8 1, .int .i64 2, .string ⟨#[]⟩, .int .u8 1, .int .i64 5, .string ⟨#[]⟩] 27, .blk g4 [.slice p36 ([] : List Bool).length c36, .slice p36_2 ([] : List V).length c36_2] 41, .own 27 3 vRep (.slice p36_2 ([] : List V).length c36_2) ([] : List V), .own 4 1 bRep (.slice p36 ([] : List Bool).length c36) ([] : List Bool), .own 27 3 vRep (.slice p35_2 ((newOf 1).vals.length) c35_2) ((newOf 1).vals), .own 4 1 bRep (.slice p35 ((newOf 1).has.length) c35) ((newOf 1).has), .blk g33 [.int .u8 1, .int .i64 1, .string ⟨#[]⟩, .int .u8 1, .int .i64 2, .string ⟨#[]⟩, .int .u8 1, .int .i64 3, .string ⟨#[]⟩, .int .u8 1, .int .i64 5, .string ⟨#[]⟩] 27, .blk g2 [.slice p24 ([true] : List Bool).length c24, .slice p24_2 ([⟨1, 2, ⟨#[]⟩⟩] : List V).length c24_2] 41, .own 27 3 vRep (.slice p24_2 ([⟨1, 2, ⟨#[]⟩⟩] : List V).length c24_2) ([⟨1, 2, ⟨#[]⟩⟩] : List V), .own 4 1 bRep (.slice p24 ([true] : List Bool).length c24) ([true] : List Bool), .own 27 3 vRep (.slice p23_2 ((newOf 1).vals.length) c23_2) ((newOf 1).vals), .own 4 1 bRep (.slice p23 ((newOf 1).has.length) c23) ((newOf 1).has), .blk g21 [.int .u8 1, .int .i64 1, .string ⟨#[]⟩, .int .u8 1, .int .i64 2, .string ⟨#[]⟩, .int .u8 1, .int .i64 2, .string ⟨#[]⟩, .int .u8 1, .int .i64 5, .string ⟨#[]⟩] 27, .blk g1 [.int .u8 1, .int .i64 1, .slice (some ⟨g13, 0, none⟩) 4 4, .int .u8 0, .int .u8 0, .int .i64 0, .string ⟨#[]⟩, .int .i64 0, .int .u8 0, .slice none 0 0] 33, .blk g13 [.int .u8 1, .int .i64 0, .int .u8 0, .int .i64 0, .string ⟨#[]⟩, .int .u8 2, .int .i64 0, .int .u8 0, .int .i64 0, .string ⟨#[]⟩, .int .u8 3, .int .i64 1, .int .u8 0, .int .i64 0, .string ⟨#[]⟩, .int .u8 4, .int .i64 0, .int .u8 1, .int .i64 5, .string ⟨#[]⟩] 48]) (fun (g49, p51, c51, p51_2, c51_2, g6) => [(6, .pointer (some ⟨g6, 0, none⟩)), (51, .agg #[.slice p51 ((newOf 1).has.length) c51, .slice p51_2 ((newOf 1).vals.length) c51_2]), (50, .agg #[.int .i64 0, .int .i64 1, .slice (some ⟨g49, 0, none⟩) 4 4]), (44, .agg #[.int .u8 1, .int .i64 1, .slice (some ⟨g13, 0, none⟩) 4 4, .int .u8 0, .int .u8 0, .int .i64 0, .string ⟨#[]⟩, .int .i64 0, .int .u8 0, .slice none 0 0]), (5, .bool false), (3, .bool true), (2, .pointer (some ⟨g2, 0, none⟩)), (1, .pointer (some ⟨g1, 0, none⟩)), (0, .bool false)]) ?_ (fun m1_5 => ?_)
   ·
    rintro ⟨g49, p51, c51, p51_2, c51_2, g6⟩ _
    try dsimp only
    refine wx_step1 hok 8 rfl rfl rfl rfl ?_
    refine wl_lend [] [0, 1, 2, 3, 4, 5, 6, 7, 8, 9, 10, 11, 12, 13, 14, 15, 16, 17] [1, 2, 3, 17] rfl rfl rfl (freshS_eq rfl) rfl rfl fn_7 rfl (Match_s _ _ _ _ _ _ _ _ _ _ _ _ _ _ _ ⟨1, 1, [(⟨1, 0, (⟨0, 0, ⟨#[]⟩⟩ : V)⟩ : ArgD), (⟨2, 0, (⟨0, 0, ⟨#[]⟩⟩ : V)⟩ : ArgD), (⟨3, 1, (⟨0, 0, ⟨#[]⟩⟩ : V)⟩ : ArgD), (⟨4, 0, (⟨1, 5, ⟨#[]⟩⟩ : V)⟩ : ArgD)]⟩ ⟨0, 1, [(⟨1, 1, ⟨#[]⟩⟩ : V), (⟨1, 2, ⟨#[]⟩⟩ : V), (⟨1, 2, ⟨#[]⟩⟩ : V), (⟨1, 5, ⟨#[]⟩⟩ : V)]⟩ ((newOf 1).has) ((newOf 1).vals) (by simp [newOf]) (by simp [newOf])) (fun F w hφ hh => (ask_cons (blk_sli (hh _ (mem_at (k := 3) rfl)) (⟨[.int .u8 1, .int .i64 0, .int .u8 0, .int .i64 0, .string ⟨#[]⟩], [.int .u8 2, .int .i64 0, .int .u8 0, .int .i64 0, .string ⟨#[]⟩, .int .u8 3, .int .i64 1, .int .u8 0, .int .i64 0, .string ⟨#[]⟩, .int .u8 4, .int .i64 0, .int .u8 1, .int .i64 5, .string ⟨#[]⟩], rfl, rfl, ⟨rfl, by first | assumption | (simp [V.ok, ArgD.ok, FactD.ok, inB, inI]) | (unfold V.ok inB inI; simp; omega)⟩, ⟨[.int .u8 2, .int .i64 0, .int .u8 0, .int .i64 0, .string ⟨#[]⟩], [.int .u8 3, .int .i64 1, .int .u8 0, .int .i64 0, .string ⟨#[]⟩, .int .u8 4, .int .i64 0, .int .u8 1, .int .i64 5, .string ⟨#[]⟩], rfl, rfl, ⟨rfl, by first | assumption | (simp [V.ok, ArgD.ok, FactD.ok, inB, inI]) | (unfold V.ok inB inI; simp; omega)⟩, ⟨[.int .u8 3, .int .i64 1, .int .u8 0, .int .i64 0, .string ⟨#[]⟩], [.int .u8 4, .int .i64 0, .int .u8 1, .int .i64 5, .string ⟨#[]⟩], rfl, rfl, ⟨rfl, by first | assumption | (simp [V.ok, ArgD.ok, FactD.ok, inB, inI]) | (unfold V.ok inB inI; simp; omega)⟩, ⟨[.int .u8 4, .int .i64 0, .int .u8 1, .int .i64 5, .string ⟨#[]⟩], [], rfl, rfl, ⟨rfl, by first | assumption | (simp [V.ok, ArgD.ok, FactD.ok, inB, inI]) | (unfold V.ok inB inI; simp; omega)⟩, rfl⟩⟩⟩⟩) rfl (by decide)) (ask_cons (blk_sli (hh _ (mem_at (k := 2) rfl)) (⟨[.int .u8 1, .int .i64 1, .string ⟨#[]⟩], [.int .u8 1, .int .i64 2, .string ⟨#[]⟩, .int .u8 1, .int .i64 2, .string ⟨#[]⟩, .int .u8 1, .int .i64 5, .string ⟨#[]⟩], rfl, rfl, ⟨rfl, by first | assumption | (simp [V.ok, ArgD.ok, FactD.ok, inB, inI]) | (unfold V.ok inB inI; simp; omega)⟩, ⟨[.int .u8 1, .int .i64 2, .string ⟨#[]⟩], [.int .u8 1, .int .i64 2, .string ⟨#[]⟩, .int .u8 1, .int .i64 5, .string ⟨#[]⟩], rfl, rfl, ⟨rfl, by first | assumption | (simp [V.ok, ArgD.ok, FactD.ok, inB, inI]) | (unfold V.ok inB inI; simp; omega)⟩, ⟨[.int .u8 1, .int .i64 2, .string ⟨#[]⟩], [.int .u8 1, .int .i64 5, .string ⟨#[]⟩], rfl, rfl, ⟨rfl, by first | assumption | (simp [V.ok, ArgD.ok, FactD.ok, inB, inI]) | (unfold V.ok inB inI; simp; omega)⟩, ⟨[.int .u8 1, .int .i64 5, .string ⟨#[]⟩], [], rfl, rfl, ⟨rfl, by first | assumption | (simp [V.ok, ArgD.ok, FactD.ok, inB, inI]) | (unfold V.ok inB inI; simp; omega)⟩, rfl⟩⟩⟩⟩) rfl (by decide)) (ask_cons (own_sli (hh _ (mem_at (k := 1) rfl))) (ask_cons (own_sli (hh _ (mem_at (k := 0) rfl))) ask_nil))))) (fun _ _ _ hR => by rcases hR with ⟨r52, e52, p52, c52, p52_2, c52_2, rfl, hmr52, rfl, rfl⟩ <;> exact ⟨rfl, by simp [own_free, blk_free, vRep_free, bRep_free, iRep_free, aRep_free]⟩) rfl rfl (H' := [_,_,_,_,_,_,_,_,_,_,_,_,_,_,_,_,_,_]) rfl ?_
    rintro _ _ _ ⟨r52, e52, p52, c52, p52_2, c52_2, rfl, hmr52, rfl, rfl⟩
    refine wl_nil ?_
    refine we_x [] [] rfl rfl ?_
    refine wx_pure hok 9 rfl rfl rfl (freshS_eq rfl) rfl rfl ?_
    refine wx_pure hok 10 rfl rfl rfl (freshS_eq rfl) rfl rfl ?_
    refine wx_pure hok 11 rfl rfl rfl (freshS_eq rfl) rfl rfl ?_
    exact wx_at (m0_5 (g49, p51, c51, p51_2, c51_2, r52, e52, p52, c52, p52_2, c52_2, g6) hmr52) rfl [0] [0] [] [] [2, 0, 1, 3, 4, 5, 6, 7, 8, 9, 10, 11, 12, 13, 14, 15, 16, 17, 18, 19] [1, 2, 0, 3, 4, 5, 6, 7, 8, 9, 10, 11, 12, 13, 14, 15, 16, 17, 18, 19] [6, 54, 53, 5, 3, 2, 1, 0] rfl rfl rfl rfl rfl rfl rfl rfl
   refine wx_memo (σ := Nat × (Option Addr) × Nat × (Option Addr) × Nat) (fun (g49, p51, c51, p51_2, c51_2) => True) [7, 6, 5, 4, 3, 2, 1, 0] (fun (g49, p51, c51, p51_2, c51_2) => [(0, .blk g1 [.int .u8 1, .int .i64 1, .slice (some ⟨g13, 0, none⟩) 4 4, .int .u8 0, .int .u8 0, .int .i64 0, .string ⟨#[]⟩, .int .i64 0, .int .u8 0, .slice none 0 0] 33)]) (fun (g49, p51, c51, p51_2, c51_2) => []) (fun (g49, p51, c51, p51_2, c51_2) => [.own 27 3 vRep (.slice p51_2 ((newOf 1).vals.length) c51_2) ((newOf 1).vals), .own 4 1 bRep (.slice p51 ((newOf 1).has.length) c51) ((newOf 1).has), .blk g49 [.int .u8 1, .int .i64 1, .string ⟨#[]⟩, .int .u8 1, .int .i64 2, .string ⟨#[]⟩, .int .u8 1, .int .i64 2, .string ⟨#[]⟩, .int .u8 1, .int .i64 5, .string ⟨#[]⟩] 27, .blk g4 [.slice p36 ([] : List Bool).length c36, .slice p36_2 ([] : List V).length c36_2] 41, .own 27 3 vRep (.slice p36_2 ([] : List V).length c36_2) ([] : List V), .own 4 1 bRep (.slice p36 ([] : List Bool).length c36) ([] : List Bool), .own 27 3 vRep (.slice p35_2 ((newOf 1).vals.length) c35_2) ((newOf 1).vals), .own 4 1 bRep (.slice p35 ((newOf 1).has.length) c35) ((newOf 1).has), .blk g33 [.int .u8 1, .int .i64 1, .string ⟨#[]⟩, .int .u8 1, .int .i64 2, .string ⟨#[]⟩, .int .u8 1, .int .i64 3, .string ⟨#[]⟩, .int .u8 1, .int .i64 5, .string ⟨#[]⟩] 27, .blk g2 [.slice p24 ([true] : List Bool).length c24, .slice p24_2 ([⟨1, 2, ⟨#[]⟩⟩] : List V).length c24_2] 41, .own 27 3 vRep (.slice p24_2 ([⟨1, 2, ⟨#[]⟩⟩] : List V).length c24_2) ([⟨1, 2, ⟨#[]⟩⟩] : List V), .own 4 1 bRep (.slice p24 ([true] : List Bool).length c24) ([true] : List Bool), .own 27 3 vRep (.slice p23_2 ((newOf 1).vals.length) c23_2) ((newOf 1).vals), .own 4 1 bRep (.slice p23 ((newOf 1).has.length) c23) ((newOf 1).has), .blk g21 [.int .u8 1, .int .i64 1, .string ⟨#[]⟩, .int .u8 1, .int .i64 2, .string ⟨#[]⟩, .int .u8 1, .int .i64 2, .string ⟨#[]⟩, .int .u8 1, .int .i64 5, .string ⟨#[]⟩] 27, .blk g1 [.int .u8 1, .int .i64 1, .slice (some ⟨g13, 0, none⟩) 4 4, .int .u8 0, .int .u8 0, .int .i64 0, .string ⟨#[]⟩, .int .i64 0, .int .u8 0, .slice none 0 0] 33, .blk g13 [.int .u8 1, .int .i64 0, .int .u8 0, .int .i64 0, .string ⟨#[]⟩, .int .u8 2, .int .i64 0, .int .u8 0, .int .i64 0, .string ⟨#[]⟩, .int .u8 3, .int .i64 1, .int .u8 0, .int .i64 0, .string ⟨#[]⟩, .int .u8 4, .int .i64 0, .int .u8 1, .int .i64 5, .string ⟨#[]⟩] 48]) (fun (g49, p51, c51, p51_2, c51_2) => [(51, .agg #[.slice p51 ((newOf 1).has.length) c51, .slice p51_2 ((newOf 1).vals.length) c51_2]), (50, .agg #[.int .i64 0, .int .i64 1, .slice (some ⟨g49, 0, none⟩) 4 4]), (44, .agg #[.int .u8 1, .int .i64 1, .slice (some ⟨g13, 0, none⟩) 4 4, .int .u8 0, .int .u8 0, .int .i64 0, .string ⟨#[]⟩, .int .i64 0, .int .u8 0, .slice none 0 0]), (5, .bool false), (3, .bool true), (2, .pointer (some ⟨g2, 0, none⟩)), (1, .pointer (some ⟨g1, 0, none⟩)), (0, .bool false)]) ?_ (fun m2_5 => ?_)
   ·
    rintro ⟨g49, p51, c51, p51_2, c51_2⟩ _
    try dsimp only
    refine wx_step2 hok 8 12 rfl rfl rfl rfl rfl rfl ?_ ?_
    ·
     refine wl_lend [] [0, 1, 2, 3, 4, 5, 6, 7, 8, 9, 10, 11, 12, 13, 14, 15, 16] [0, 1, 2, 16] rfl rfl rfl (freshS_eq rfl) rfl rfl fn_7 rfl (Match_s _ _ _ _ _ _ _ _ _ _ _ _ _ _ _ ⟨1, 1, [(⟨1, 0, (⟨0, 0, ⟨#[]⟩⟩ : V)⟩ : ArgD), (⟨2, 0, (⟨0, 0, ⟨#[]⟩⟩ : V)⟩ : ArgD), (⟨3, 1, (⟨0, 0, ⟨#[]⟩⟩ : V)⟩ : ArgD), (⟨4, 0, (⟨1, 5, ⟨#[]⟩⟩ : V)⟩ : ArgD)]⟩ ⟨0, 1, [(⟨1, 1, ⟨#[]⟩⟩ : V), (⟨1, 2, ⟨#[]⟩⟩ : V), (⟨1, 2, ⟨#[]⟩⟩ : V), (⟨1, 5, ⟨#[]⟩⟩ : V)]⟩ ((newOf 1).has) ((newOf 1).vals) (by simp [newOf]) (by simp [newOf])) (fun F w hφ hh => (ask_cons (blk_sli (hh _ (mem_at (k := 3) rfl)) (⟨[.int .u8 1, .int .i64 0, .int .u8 0, .int .i64 0, .string ⟨#[]⟩], [.int .u8 2, .int .i64 0, .int .u8 0, .int .i64 0, .string ⟨#[]⟩, .int .u8 3, .int .i64 1, .int .u8 0, .int .i64 0, .string ⟨#[]⟩, .int .u8 4, .int .i64 0, .int .u8 1, .int .i64 5, .string ⟨#[]⟩], rfl, rfl, ⟨rfl, by first | assumption | (simp [V.ok, ArgD.ok, FactD.ok, inB, inI]) | (unfold V.ok inB inI; simp; omega)⟩, ⟨[.int .u8 2, .int .i64 0, .int .u8 0, .int .i64 0, .string ⟨#[]⟩], [.int .u8 3, .int .i64 1, .int .u8 0, .int .i64 0, .string ⟨#[]⟩, .int .u8 4, .int .i64 0, .int .u8 1, .int .i64 5, .string ⟨#[]⟩], rfl, rfl, ⟨rfl, by first | assumption | (simp [V.ok, ArgD.ok, FactD.ok, inB, inI]) | (unfold V.ok inB inI; simp; omega)⟩, ⟨[.int .u8 3, .int .i64 1, .int .u8 0, .int .i64 0, .string ⟨#[]⟩], [.int .u8 4, .int .i64 0, .int .u8 1, .int .i64 5, .string ⟨#[]⟩], rfl, rfl, ⟨rfl, by first | assumption | (simp [V.ok, ArgD.ok, FactD.ok, inB, inI]) | (unfold V.ok inB inI; simp; omega)⟩, ⟨[.int .u8 4, .int .i64 0, .int .u8 1, .int .i64 5, .string ⟨#[]⟩], [], rfl, rfl, ⟨rfl, by first | assumption | (simp [V.ok, ArgD.ok, FactD.ok, inB, inI]) | (unfold V.ok inB inI; simp; omega)⟩, rfl⟩⟩⟩⟩) rfl (by decide)) (ask_cons (blk_sli (hh _ (mem_at (k := 2) rfl)) (⟨[.int .u8 1, .int .i64 1, .string ⟨#[]⟩], [.int .u8 1, .int .i64 2, .string ⟨#[]⟩, .int .u8 1, .int .i64 2, .string ⟨#[]⟩, .int .u8 1, .int .i64 5, .string ⟨#[]⟩], rfl, rfl, ⟨rfl, by first | assumption | (simp [V.ok, ArgD.ok, FactD.ok, inB, inI]) | (unfold V.ok inB inI; simp; omega)⟩, ⟨[.int .u8 1, .int .i64 2, .string ⟨#[]⟩], [.int .u8 1, .int .i64 2, .string ⟨#[]⟩, .int .u8 1, .int .i64 5, .string ⟨#[]⟩], rfl, rfl, ⟨rfl, by first | assumption | (simp [V.ok, ArgD.ok, FactD.ok, inB, inI]) | (unfold V.ok inB inI; simp; omega)⟩, ⟨[.int .u8 1, .int .i64 2, .string ⟨#[]⟩], [.int .u8 1, .int .i64 5, .string ⟨#[]⟩], rfl, rfl, ⟨rfl, by first | assumption | (simp [V.ok, ArgD.ok, FactD.ok, inB, inI]) | (unfold V.ok inB inI; simp; omega)⟩, ⟨[.int .u8 1, .int .i64 5, .string ⟨#[]⟩], [], rfl, rfl, ⟨rfl, by first | assumption | (simp [V.ok, ArgD.ok, FactD.ok, inB, inI]) | (unfold V.ok inB inI; simp; omega)⟩, rfl⟩⟩⟩⟩) rfl (by decide)) (ask_cons (own_sli (hh _ (mem_at (k := 1) rfl))) (ask_cons (own_sli (hh _ (mem_at (k := 0) rfl))) ask_nil))))) (fun _ _ _ hR => by rcases hR with ⟨r52, e52, p52, c52, p52_2, c52_2, rfl, hmr52, rfl, rfl⟩ <;> exact ⟨rfl, by simp [own_free, blk_free, vRep_free, bRep_free, iRep_free, aRep_free]⟩) rfl rfl (H' := [_,_,_,_,_,_,_,_,_,_,_,_,_,_,_,_,_]) rfl ?_
     rintro _ _ _ ⟨r52, e52, p52, c52, p52_2, c52_2, rfl, hmr52, rfl, rfl⟩
     refine wl_nil ?_
     refine we_x [] [] rfl rfl ?_
     refine wx_pure hok 9 rfl rfl rfl (freshS_eq rfl) rfl rfl ?_
     refine wx_pure hok 10 rfl rfl rfl (freshS_eq rfl) rfl rfl ?_
     refine wx_pure hok 11 rfl rfl rfl (freshS_eq rfl) rfl rfl ?_
     refine wx_step1 hok 12 rfl rfl rfl rfl ?_
     refine wl_alloc rfl rfl rfl (freshS_eq rfl) rfl tZ_41 rfl (fun g6 => ?_)
     refine wl_nil ?_
     refine we_x [] [18] rfl rfl ?_
     exact wx_at (m0_5 (g49, p51, c51, p51_2, c51_2, r52, e52, p52, c52, p52_2, c52_2, g6) hmr52) rfl [0] [0] [] [] [0, 1, 2, 3, 4, 5, 6, 7, 8, 9, 10, 11, 12, 13, 14, 15, 16, 17, 18, 19] [0, 1, 2, 3, 4, 5, 6, 7, 8, 9, 10, 11, 12, 13, 14, 15, 16, 17, 18, 19] [6, 54, 53, 5, 3, 2, 1, 0] rfl rfl rfl rfl rfl rfl rfl rfl
    ·
     refine wl_alloc rfl rfl rfl (freshS_eq rfl) rfl tZ_41 rfl (fun g6 => ?_)
     refine wl_nil ?_
     refine we_x [] [16] rfl rfl ?_
     exact wx_at (m1_5 (g49, p51, c51, p51_2, c51_2, g6) trivial) rfl [0] [0] [] [] [0, 1, 2, 3, 4, 5, 6, 7, 8, 9, 10, 11, 12, 13, 14, 15, 16, 17] [0, 1, 2, 3, 4, 5, 6, 7, 8, 9, 10, 11, 12, 13, 14, 15, 16, 17] [6, 51, 50, 44, 5, 3, 2, 1, 0] rfl rfl rfl rfl rfl rfl rfl rfl
   refine wx_memo (σ := Nat × Nat) (fun (g49, g6) => True) [12, 6, 5, 4, 3, 2, 1, 0] (fun (g49, g6) => [(0, .blk g1 [.int .u8 1, .int .i64 1, .slice (some ⟨g13, 0, none⟩) 4 4, .int .u8 0, .int .u8 0, .int .i64 0, .string ⟨#[]⟩, .int .i64 0, .int .u8 0, .slice none 0 0] 33)]) (fun (g49, g6) => []) (fun (g49, g6) => [.blk g6 [.slice none 0 0, .slice none 0 0] 41, .blk g49 [.int .u8 1, .int .i64 1, .string ⟨#[]⟩, .int .u8 1, .int .i64 2, .string ⟨#[]⟩, .int .u8 1, .int .i64 2, .string ⟨#[]⟩, .int .u8 1, .int .i64 5, .string ⟨#[]⟩] 27, .blk g4 [.slice p36 ([] : List Bool).length c36, .slice p36_2 ([] : List V).length c36_2] 41, .own 27 3 vRep (.slice p36_2 ([] : List V).length c36_2) ([] : List V), .own 4 1 bRep (.slice p36 ([] : List Bool).length c36) ([] : List Bool), .own 27 3 vRep (.slice p35_2 ((newOf 1).vals.length) c35_2) ((newOf 1).vals), .own 4 1 bRep (.slice p35 ((newOf 1).has.length) c35) ((newOf 1).has), .blk g33 [.int .u8 1, .int .i64 1, .string ⟨#[]⟩, .int .u8 1, .int .i64 2, .string ⟨#[]⟩, .int .u8 1, .int .i64 3, .string ⟨#[]⟩, .int .u8 1, .int .i64 5, .string ⟨#[]⟩] 27, .blk g2 [.slice p24 ([true] : List Bool).length c24, .slice p24_2 ([⟨1, 2, ⟨#[]⟩⟩] : List V).length c24_2] 41, .own 27 3 vRep (.slice p24_2 ([⟨1, 2, ⟨#[]⟩⟩] : List V).length c24_2) ([⟨1, 2, ⟨#[]⟩⟩] : List V), .own 4 1 bRep (.slice p24 ([true] : List Bool).length c24) ([true] : List Bool), .own 27 3 vRep (.slice p23_2 ((newOf 1).vals.length) c23_2) ((newOf 1).vals), .own 4 1 bRep (.slice p23 ((newOf 1).has.length) c23) ((newOf 1).has), .blk g21 [.int .u8 1, .int .i64 1, .string ⟨#[]⟩, .int .u8 1, .int .i64 2, .string ⟨#[]⟩, .int .u8 1, .int .i64 2, .string ⟨#[]⟩, .int .u8 1, .int .i64 5, .string ⟨#[]⟩] 27, .blk g1 [.int .u8 1, .int .i64 1, .slice (some ⟨g13, 0, none⟩) 4 4, .int .u8 0, .int .u8 0, .int .i64 0, .string ⟨#[]⟩, .int .i64 0, .int .u8 0, .slice none 0 0] 33, .blk g13 [.int .u8 1, .int .i64 0, .int .u8 0, .int .i64 0, .string ⟨#[]⟩, .int .u8 2, .int .i64 0, .int .u8 0, .int .i64 0, .string ⟨#[]⟩, .int .u8 3, .int .i64 1, .int .u8 0, .int .i64 0, .string ⟨#[]⟩, .int .u8 4, .int .i64 0, .int .u8 1, .int .i64 5, .string ⟨#[]⟩] 48]) (fun (g49, g6) => [(6, .pointer (some ⟨g6, 0, none⟩)), (50, .agg #[.int .i64 0, .int .i64 1, .slice (some ⟨g49, 0, none⟩) 4 4]), (44, .agg #[.int .u8 1, .int .i64 1, .slice (some ⟨g13, 0, none⟩) 4 4, .int .u8 0, .int .u8 0, .int .i64 0, .string ⟨#[]⟩, .int .i64 0, .int .u8 0, .slice none 0 0]), (5, .bool false), (3, .bool true), (2, .pointer (some ⟨g2, 0, none⟩)), (1, .pointer (some ⟨g1, 0, none⟩)), (0, .bool false)]) ?_ (fun m3_5 => ?_)
   ·
    rintro ⟨g49, g6⟩ _
    try dsimp only
    refine wx_step1 hok 7 rfl rfl rfl rfl ?_
    refine wl_call [] [0, 1, 2, 3, 4, 5, 6, 7, 8, 9, 10, 11, 12, 13, 14, 15] rfl rfl rfl (freshS_eq rfl) rfl rfl fn_14 rfl (New_s _) (fun _ _ hφ => ask [] rfl hφ) rfl (H' := [_,_,_,_,_,_,_,_,_,_,_,_,_,_,_,_]) rfl ?_
    rintro _ _ _ ⟨p51, c51, p51_2, c51_2, rfl, rfl, rfl⟩
    refine wl_nil ?_
    refine we_x [] [16] rfl rfl ?_
    exact wx_at (m1_5 (g49, p51, c51, p51_2, c51_2, g6) trivial) rfl [0] [0] [] [] [2, 0, 1, 3, 4, 5, 6, 7, 8, 9, 10, 11, 12, 13, 14, 15, 16, 17] [1, 2, 0, 3, 4, 5, 6, 7, 8, 9, 10, 11, 12, 13, 14, 15, 16, 17] [6, 51, 50, 44, 5, 3, 2, 1, 0] rfl rfl rfl rfl rfl rfl rfl rfl
   refine wx_memo (σ := (Option Addr) × Nat × (Option Addr) × Nat × Nat) (fun (p51, c51, p51_2, c51_2, g6) => True) [12, 7, 4, 3, 2, 1, 0] (fun (p51, c51, p51_2, c51_2, g6) => [(0, .blk g1 [.int .u8 1, .int .i64 1, .slice (some ⟨g13, 0, none⟩) 4 4, .int .u8 0, .int .u8 0, .int .i64 0, .string ⟨#[]⟩, .int .i64 0, .int .u8 0, .slice none 0 0] 33)]) (fun (p51, c51, p51_2, c51_2, g6) => []) (fun (p51, c51, p51_2, c51_2, g6) => [.blk g6 [.slice none 0 0, .slice none 0 0] 41, .own 27 3 vRep (.slice p51_2 ((newOf 1).vals.length) c51_2) ((newOf 1).vals), .own 4 1 bRep (.slice p51 ((newOf 1).has.length) c51) ((newOf 1).has), .blk g4 [.slice p36 ([] : List Bool).length c36, .slice p36_2 ([] : List V).length c36_2] 41, .own 27 3 vRep (.slice p36_2 ([] : List V).length c36_2) ([] : List V), .own 4 1 bRep (.slice p36 ([] : List Bool).length c36) ([] : List Bool), .own 27 3 vRep (.slice p35_2 ((newOf 1).vals.length) c35_2) ((newOf 1).vals), .own 4 1 bRep (.slice p35 ((newOf 1).has.length) c35) ((newOf 1).has), .blk g33 [.int .u8 1, .int .i64 1, .string ⟨#[]⟩, .int .u8 1, .int .i64 2, .string ⟨#[]⟩, .int .u8 1, .int .i64 3, .string ⟨#[]⟩, .int .u8 1, .int .i64 5, .string ⟨#[]⟩] 27, .blk g2 [.slice p24 ([true] : List Bool).length c24, .slice p24_2 ([⟨1, 2, ⟨#[]⟩⟩] : List V).length c24_2] 41, .own 27 3 vRep (.slice p24_2 ([⟨1, 2, ⟨#[]⟩⟩] : List V).length c24_2) ([⟨1, 2, ⟨#[]⟩⟩] : List V), .own 4 1 bRep (.slice p24 ([true] : List Bool).length c24) ([true] : List Bool), .own 27 3 vRep (.slice p23_2 ((newOf 1).vals.length) c23_2) ((newOf 1).vals), .own 4 1 bRep (.slice p23 ((newOf 1).has.length) c23) ((newOf 1).has), .blk g21 [.int .u8 1, .int .i64 1, .string ⟨#[]⟩, .int .u8 1, .int .i64 2, .string ⟨#[]⟩, .int .u8 1, .int .i64 2, .string ⟨#[]⟩, .int .u8 1, .int .i64 5, .string ⟨#[]⟩] 27, .blk g1 [.int .u8 1, .int .i64 1, .slice (some ⟨g13, 0, none⟩) 4 4, .int .u8 0, .int .u8 0, .int .i64 0, .string ⟨#[]⟩, .int .i64 0, .int .u8 0, .slice none 0 0] 33, .blk g13 [.int .u8 1, .int .i64 0, .int .u8 0, .int .i64 0, .string ⟨#[]⟩, .int .u8 2, .int .i64 0, .int .u8 0, .int .i64 0, .string ⟨#[]⟩, .int .u8 3, .int .i64 1, .int .u8 0, .int .i64 0, .string ⟨#[]⟩, .int .u8 4, .int .i64 0, .int .u8 1, .int .i64 5, .string ⟨#[]⟩] 48]) (fun (p51, c51, p51_2, c51_2, g6) => [(6, .pointer (some ⟨g6, 0, none⟩)), (51, .agg #[.slice p51 ((newOf 1).has.length) c51, .slice p51_2 ((newOf 1).vals.length) c51_2]), (48, .agg #[.int .u8 1, .int .i64 5, .string ⟨#[]⟩]), (47, .agg #[.int .u8 1, .int .i64 2, .string ⟨#[]⟩]), (46, .agg #[.int .u8 1, .int .i64 2, .string ⟨#[]⟩]), (45, .agg #[.int .u8 1, .int .i64 1, .string ⟨#[]⟩]), (44, .agg #[.int .u8 1, .int .i64 1, .slice (some ⟨g13, 0, none⟩) 4 4, .int .u8 0, .int .u8 0, .int .i64 0, .string ⟨#[]⟩, .int .i64 0, .int .u8 0, .slice none 0 0]), (5, .bool false), (3, .bool true), (2, .pointer (some ⟨g2, 0, none⟩)), (1, .pointer (some ⟨g1, 0, none⟩)), (0, .bool false)]) ?_ (fun m4_5 => ?_)
   ·
    rintro ⟨p51, c51, p51_2, c51_2, g6⟩ _
    try dsimp only
    refine wx_step1 hok 5 rfl rfl rfl rfl ?_
    refine wl_buildSlice rfl rfl rfl (freshS_eq rfl) rfl tE_34 tS_27 tZ_27 rfl (zs := [.int .u8 0, .int .i64 0, .string ⟨#[]⟩, .int .u8 0, .int .i64 0, .string ⟨#[]⟩, .int .u8 0, .int .i64 0, .string ⟨#[]⟩, .int .u8 0, .int .i64 0, .string ⟨#[]⟩]) (by kernel_rfl) rfl (out := [_,_,_,_,_,_,_,_,_,_,_,_]) rfl (fun g49 => ?_)
    refine wl_nil ?_
    refine we_x [] [16] rfl rfl ?_
    refine wx_build hok 6 rfl rfl rfl (freshS_eq rfl) rfl rfl tZ_36 tP_36 rfl (out := [_,_,_]) rfl ?_
    exact wx_at (m1_5 (g49, p51, c51, p51_2, c51_2, g6) trivial) rfl [0] [0] [] [] [1, 2, 3, 0, 4, 5, 6, 7, 8, 9, 10, 11, 12, 13, 14, 15, 16, 17] [3, 0, 1, 2, 4, 5, 6, 7, 8, 9, 10, 11, 12, 13, 14, 15, 16, 17] [6, 51, 50, 44, 5, 3, 2, 1, 0] rfl rfl rfl rfl rfl rfl rfl rfl
   refine wx_memo (σ := Nat) (fun g6 => True) [12, 4, 3, 2, 1, 0] (fun g6 => [(0, .blk g1 [.int .u8 1, .int .i64 1, .slice (some ⟨g13, 0, none⟩) 4 4, .int .u8 0, .int .u8 0, .int .i64 0, .string ⟨#[]⟩, .int .i64 0, .int .u8 0, .slice none 0 0] 33)]) (fun g6 => []) (fun g6 => [.blk g6 [.slice none 0 0, .slice none 0 0] 41, .blk g4 [.slice p36 ([] : List Bool).length c36, .slice p36_2 ([] : List V).length c36_2] 41, .own 27 3 vRep (.slice p36_2 ([] : List V).length c36_2) ([] : List V), .own 4 1 bRep (.slice p36 ([] : List Bool).length c36) ([] : List Bool), .own 27 3 vRep (.slice p35_2 ((newOf 1).vals.length) c35_2) ((newOf 1).vals), .own 4 1 bRep (.slice p35 ((newOf 1).has.length) c35) ((newOf 1).has), .blk g33 [.int .u8 1, .int .i64 1, .string ⟨#[]⟩, .int .u8 1, .int .i64 2, .string ⟨#[]⟩, .int .u8 1, .int .i64 3, .string ⟨#[]⟩, .int .u8 1, .int .i64 5, .string ⟨#[]⟩] 27, .blk g2 [.slice p24 ([true] : List Bool).length c24, .slice p24_2 ([⟨1, 2, ⟨#[]⟩⟩] : List V).length c24_2] 41, .own 27 3 vRep (.slice p24_2 ([⟨1, 2, ⟨#[]⟩⟩] : List V).length c24_2) ([⟨1, 2, ⟨#[]⟩⟩] : List V), .own 4 1 bRep (.slice p24 ([true] : List Bool).length c24) ([true] : List Bool), .own 27 3 vRep (.slice p23_2 ((newOf 1).vals.length) c23_2) ((newOf 1).vals), .own 4 1 bRep (.slice p23 ((newOf 1).has.length) c23) ((newOf 1).has), .blk g21 [.int .u8 1, .int .i64 1, .string ⟨#[]⟩, .int .u8 1, .int .i64 2, .string ⟨#[]⟩, .int .u8 1, .int .i64 2, .string ⟨#[]⟩, .int .u8 1, .int .i64 5, .string ⟨#[]⟩] 27, .blk g1 [.int .u8 1, .int .i64 1, .slice (some ⟨g13, 0, none⟩) 4 4, .int .u8 0, .int .u8 0, .int .i64 0, .string ⟨#[]⟩, .int .i64 0, .int .u8 0, .slice none 0 0] 33, .blk g13 [.int .u8 1, .int .i64 0, .int .u8 0, .int .i64 0, .string ⟨#[]⟩, .int .u8 2, .int .i64 0, .int .u8 0, .int .i64 0, .string ⟨#[]⟩, .int .u8 3, .int .i64 1, .int .u8 0, .int .i64 0, .string ⟨#[]⟩, .int .u8 4, .int .i64 0, .int .u8 1, .int .i64 5, .string ⟨#[]⟩] 48]) (fun g6 => [(6, .pointer (some ⟨g6, 0, none⟩)), (48, .agg #[.int .u8 1, .int .i64 5, .string ⟨#[]⟩]), (47, .agg #[.int .u8 1, .int .i64 2, .string ⟨#[]⟩]), (46, .agg #[.int .u8 1, .int .i64 2, .string ⟨#[]⟩]), (45, .agg #[.int .u8 1, .int .i64 1, .string ⟨#[]⟩]), (44, .agg #[.int .u8 1, .int .i64 1, .slice (some ⟨g13, 0, none⟩) 4 4, .int .u8 0, .int .u8 0, .int .i64 0, .string ⟨#[]⟩, .int .i64 0, .int .u8 0, .slice none 0 0]), (5, .bool false), (3, .bool true), (2, .pointer (some ⟨g2, 0, none⟩)), (1, .pointer (some ⟨g1, 0, none⟩)), (0, .bool false)]) ?_ (fun m5_5 => ?_)
   ·
    rintro g6 _
    try dsimp only
    refine wx_step2 hok 5 7 rfl rfl rfl rfl rfl rfl ?_ ?_
    ·
     refine wl_buildSlice rfl rfl rfl (freshS_eq rfl) rfl tE_34 tS_27 tZ_27 rfl (zs := [.int .u8 0, .int .i64 0, .string ⟨#[]⟩, .int .u8 0, .int .i64 0, .string ⟨#[]⟩, .int .u8 0, .int .i64 0, .string ⟨#[]⟩, .int .u8 0, .int .i64 0, .string ⟨#[]⟩]) (by kernel_rfl) rfl (out := [_,_,_,_,_,_,_,_,_,_,_,_]) rfl (fun g49 => ?_)
     refine wl_nil ?_
     refine we_x [] [14] rfl rfl ?_
     refine wx_build hok 6 rfl rfl rfl (freshS_eq rfl) rfl rfl tZ_36 tP_36 rfl (out := [_,_,_]) rfl ?_
     exact wx_at (m3_5 (g49, g6) trivial) rfl [0] [0] [] [] [1, 0, 2, 3, 4, 5, 6, 7, 8, 9, 10, 11, 12, 13, 14, 15] [1, 0, 2, 3, 4, 5, 6, 7, 8, 9, 10, 11, 12, 13, 14, 15] [6, 50, 44, 5, 3, 2, 1, 0] rfl rfl rfl rfl rfl rfl rfl rfl
    ·
     refine wl_call [] [0, 1, 2, 3, 4, 5, 6, 7, 8, 9, 10, 11, 12, 13, 14] rfl rfl rfl (freshS_eq rfl) rfl rfl fn_14 rfl (New_s _) (fun _ _ hφ => ask [] rfl hφ) rfl (H' := [_,_,_,_,_,_,_,_,_,_,_,_,_,_,_]) rfl ?_
     rintro _ _ _ ⟨p51, c51, p51_2, c51_2, rfl, rfl, rfl⟩
     refine wl_nil ?_
     refine we_x [] [15] rfl rfl ?_
     exact wx_at (m4_5 (p51, c51, p51_2, c51_2, g6) trivial) rfl [0] [0] [] [] [2, 0, 1, 3, 4, 5, 6, 7, 8, 9, 10, 11, 12, 13, 14, 15, 16] [1, 2, 0, 3, 4, 5, 6, 7, 8, 9, 10, 11, 12, 13, 14, 15, 16] [6, 51, 48, 47, 46, 45, 44, 5, 3, 2, 1, 0] rfl rfl rfl rfl rfl rfl rfl rfl
   refine wx_memo (σ := Nat) (fun g6 => True) [12, 3, 2, 1, 0] (fun g6 => [(0, .blk g1 [.int .u8 1, .int .i64 1, .slice (some ⟨g13, 0, none⟩) 4 4, .int .u8 0, .int .u8 0, .int .i64 0, .string ⟨#[]⟩, .int .i64 0, .int .u8 0, .slice none 0 0] 33)]) (fun g6 => []) (fun g6 => [.blk g6 [.slice none 0 0, .slice none 0 0] 41, .blk g4 [.slice p36 ([] : List Bool).length c36, .slice p36_2 ([] : List V).length c36_2] 41, .own 27 3 vRep (.slice p36_2 ([] : List V).length c36_2) ([] : List V), .own 4 1 bRep (.slice p36 ([] : List Bool).length c36) ([] : List Bool), .own 27 3 vRep (.slice p35_2 ((newOf 1).vals.length) c35_2) ((newOf 1).vals), .own 4 1 bRep (.slice p35 ((newOf 1).has.length) c35) ((newOf 1).has), .blk g33 [.int .u8 1, .int .i64 1, .string ⟨#[]⟩, .int .u8 1, .int .i64 2, .string ⟨#[]⟩, .int .u8 1, .int .i64 3, .string ⟨#[]⟩, .int .u8 1, .int .i64 5, .string ⟨#[]⟩] 27, .blk g2 [.slice p24 ([true] : List Bool).length c24, .slice p24_2 ([⟨1, 2, ⟨#[]⟩⟩] : List V).length c24_2] 41, .own 27 3 vRep (.slice p24_2 ([⟨1, 2, ⟨#[]⟩⟩] : List V).length c24_2) ([⟨1, 2, ⟨#[]⟩⟩] : List V), .own 4 1 bRep (.slice p24 ([true] : List Bool).length c24) ([true] : List Bool), .own 27 3 vRep (.slice p23_2 ((newOf 1).vals.length) c23_2) ((newOf 1).vals), .own 4 1 bRep (.slice p23 ((newOf 1).has.length) c23) ((newOf 1).has), .blk g21 [.int .u8 1, .int .i64 1, .string ⟨#[]⟩, .int .u8 1, .int .i64 2, .string ⟨#[]⟩, .int .u8 1, .int .i64 2, .string ⟨#[]⟩, .int .u8 1, .int .i64 5, .string ⟨#[]⟩] 27, .blk g1 [.int .u8 1, .int .i64 1, .slice (some ⟨g13, 0, none⟩) 4 4, .int .u8 0, .int .u8 0, .int .i64 0, .string ⟨#[]⟩, .int .i64 0, .int .u8 0, .slice none 0 0] 33, .blk g13 [.int .u8 1, .int .i64 0, .int .u8 0, .int .i64 0, .string ⟨#[]⟩, .int .u8 2, .int .i64 0, .int .u8 0, .int .i64 0, .string ⟨#[]⟩, .int .u8 3, .int .i64 1, .int .u8 0, .int .i64 0, .string ⟨#[]⟩, .int .u8 4, .int .i64 0, .int .u8 1, .int .i64 5, .string ⟨#[]⟩] 48]) (fun g6 => [(6, .pointer (some ⟨g6, 0, none⟩)), (47, .agg #[.int .u8 1, .int .i64 2, .string ⟨#[]⟩]), (46, .agg #[.int .u8 1, .int .i64 2, .string ⟨#[]⟩]), (45, .agg #[.int .u8 1, .int .i64 1, .string ⟨#[]⟩]), (44, .agg #[.int .u8 1, .int .i64 1, .slice (some ⟨g13, 0, none⟩) 4 4, .int .u8 0, .int .u8 0, .int .i64 0, .string ⟨#[]⟩, .int .i64 0, .int .u8 0, .slice none 0 0]), (5, .bool false), (3, .bool true), (2, .pointer (some ⟨g2, 0, none⟩)), (1, .pointer (some ⟨g1, 0, none⟩)), (0, .bool false)]) ?_ (fun m6_5 => ?_)
   ·
    rintro g6 _
    try dsimp only
    refine wx_step1 hok 4 rfl rfl rfl rfl ?_
    refine wl_call [] [0, 1, 2, 3, 4, 5, 6, 7, 8, 9, 10, 11, 12, 13, 14] rfl rfl rfl (freshS_eq rfl) rfl rfl fn_13 rfl (num_s _) (fun _ _ hφ => ask [] rfl hφ) rfl (H' := [_,_,_,_,_,_,_,_,_,_,_,_,_,_,_]) rfl ?_
    rintro _ _ _ ⟨rfl, rfl, rfl⟩
    refine wl_nil ?_
    refine we_x [] [13] rfl rfl ?_
    exact wx_at (m5_5 (g6) trivial) rfl [0] [0] [] [] [0, 1, 2, 3, 4, 5, 6, 7, 8, 9, 10, 11, 12, 13, 14] [0, 1, 2, 3, 4, 5, 6, 7, 8, 9, 10, 11, 12, 13, 14] [6, 48, 47, 46, 45, 44, 5, 3, 2, 1, 0] rfl rfl rfl rfl rfl rfl rfl rfl
   refine wx_memo (σ := Nat) (fun g6 => True) [12, 2, 1, 0] (fun g6 => [(0, .blk g1 [.int .u8 1, .int .i64 1, .slice (some ⟨g13, 0, none⟩) 4 4, .int .u8 0, .int .u8 0, .int .i64 0, .string ⟨#[]⟩, .int .i64 0, .int .u8 0, .slice none 0 0] 33)]) (fun g6 => []) (fun g6 => [.blk g6 [.slice none 0 0, .slice none 0 0] 41, .blk g4 [.slice p36 ([] : List Bool).length c36, .slice p36_2 ([] : List V).length c36_2] 41, .own 27 3 vRep (.slice p36_2 ([] : List V).length c36_2) ([] : List V), .own 4 1 bRep (.slice p36 ([] : List Bool).length c36) ([] : List Bool), .own 27 3 vRep (.slice p35_2 ((newOf 1).vals.length) c35_2) ((newOf 1).vals), .own 4 1 bRep (.slice p35 ((newOf 1).has.length) c35) ((newOf 1).has), .blk g33 [.int .u8 1, .int .i64 1, .string ⟨#[]⟩, .int .u8 1, .int .i64 2, .string ⟨#[]⟩, .int .u8 1, .int .i64 3, .string ⟨#[]⟩, .int .u8 1, .int .i64 5, .string ⟨#[]⟩] 27, .blk g2 [.slice p24 ([true] : List Bool).length c24, .slice p24_2 ([⟨1, 2, ⟨#[]⟩⟩] : List V).length c24_2] 41, .own 27 3 vRep (.slice p24_2 ([⟨1, 2, ⟨#[]⟩⟩] : List V).length c24_2) ([⟨1, 2, ⟨#[]⟩⟩] : List V), .own 4 1 bRep (.slice p24 ([true] : List Bool).length c24) ([true] : List Bool), .own 27 3 vRep (.slice p23_2 ((newOf 1).vals.length) c23_2) ((newOf 1).vals), .own 4 1 bRep (.slice p23 ((newOf 1).has.length) c23) ((newOf 1).has), .blk g21 [.int .u8 1, .int .i64 1, .string ⟨#[]⟩, .int .u8 1, .int .i64 2, .string ⟨#[]⟩, .int .u8 1, .int .i64 2, .string ⟨#[]⟩, .int .u8 1, .int .i64 5, .string ⟨#[]⟩] 27, .blk g1 [.int .u8 1, .int .i64 1, .slice (some ⟨g13, 0, none⟩) 4 4, .int .u8 0, .int .u8 0, .int .i64 0, .string ⟨#[]⟩, .int .i64 0, .int .u8 0, .slice none 0 0] 33, .blk g13 [.int .u8 1, .int .i64 0, .int .u8 0, .int .i64 0, .string ⟨#[]⟩, .int .u8 2, .int .i64 0, .int .u8 0, .int .i64 0, .string ⟨#[]⟩, .int .u8 3, .int .i64 1, .int .u8 0, .int .i64 0, .string ⟨#[]⟩, .int .u8 4, .int .i64 0, .int .u8 1, .int .i64 5, .string ⟨#[]⟩] 48]) (fun g6 => [(6, .pointer (some ⟨g6, 0, none⟩)), (46, .agg #[.int .u8 1, .int .i64 2, .string ⟨#[]⟩]), (45, .agg #[.int .u8 1, .int .i64 1, .string ⟨#[]⟩]), (44, .agg #[.int .u8 1, .int .i64 1, .slice (some ⟨g13, 0, none⟩) 4 4, .int .u8 0, .int .u8 0, .int .i64 0, .string ⟨#[]⟩, .int .i64 0, .int .u8 0, .slice none 0 0]), (5, .bool false), (3, .bool true), (2, .pointer (some ⟨g2, 0, none⟩)), (1, .pointer (some ⟨g1, 0, none⟩)), (0, .bool false)]) ?_ (fun m7_5 => ?_)
   ·
    rintro g6 _
    try dsimp only
    refine wx_step1 hok 3 rfl rfl rfl rfl ?_
    refine wl_call [] [0, 1, 2, 3, 4, 5, 6, 7, 8, 9, 10, 11, 12, 13, 14] rfl rfl rfl (freshS_eq rfl) rfl rfl fn_13 rfl (num_s _) (fun _ _ hφ => ask [] rfl hφ) rfl (H' := [_,_,_,_,_,_,_,_,_,_,_,_,_,_,_]) rfl ?_
    rintro _ _ _ ⟨rfl, rfl, rfl⟩
    refine wl_nil ?_
    refine we_x [] [13] rfl rfl ?_
    exact wx_at (m6_5 (g6) trivial) rfl [0] [0] [] [] [0, 1, 2, 3, 4, 5, 6, 7, 8, 9, 10, 11, 12, 13, 14] [0, 1, 2, 3, 4, 5, 6, 7, 8, 9, 10, 11, 12, 13, 14] [6, 47, 46, 45, 44, 5, 3, 2, 1, 0] rfl rfl rfl rfl rfl rfl rfl rfl
   refine wx_memo (σ := Nat) (fun g6 => True) [12, 1, 0] (fun g6 => [(0, .blk g1 [.int .u8 1, .int .i64 1, .slice (some ⟨g13, 0, none⟩) 4 4, .int .u8 0, .int .u8 0, .int .i64 0, .string ⟨#[]⟩, .int .i64 0, .int .u8 0, .slice none 0 0] 33)]) (fun g6 => []) (fun g6 => [.blk g6 [.slice none 0 0, .slice none 0 0] 41, .blk g4 [.slice p36 ([] : List Bool).length c36, .slice p36_2 ([] : List V).length c36_2] 41, .own 27 3 vRep (.slice p36_2 ([] : List V).length c36_2) ([] : List V), .own 4 1 bRep (.slice p36 ([] : List Bool).length c36) ([] : List Bool), .own 27 3 vRep (.slice p35_2 ((newOf 1).vals.length) c35_2) ((newOf 1).vals), .own 4 1 bRep (.slice p35 ((newOf 1).has.length) c35) ((newOf 1).has), .blk g33 [.int .u8 1, .int .i64 1, .string ⟨#[]⟩, .int .u8 1, .int .i64 2, .string ⟨#[]⟩, .int .u8 1, .int .i64 3, .string ⟨#[]⟩, .int .u8 1, .int .i64 5, .string ⟨#[]⟩] 27, .blk g2 [.slice p24 ([true] : List Bool).length c24, .slice p24_2 ([⟨1, 2, ⟨#[]⟩⟩] : List V).length c24_2] 41, .own 27 3 vRep (.slice p24_2 ([⟨1, 2, ⟨#[]⟩⟩] : List V).length c24_2) ([⟨1, 2, ⟨#[]⟩⟩] : List V), .own 4 1 bRep (.slice p24 ([true] : List Bool).length c24) ([true] : List Bool), .own 27 3 vRep (.slice p23_2 ((newOf 1).vals.length) c23_2) ((newOf 1).vals), .own 4 1 bRep (.slice p23 ((newOf 1).has.length) c23) ((newOf 1).has), .blk g21 [.int .u8 1, .int .i64 1, .string ⟨#[]⟩, .int .u8 1, .int .i64 2, .string ⟨#[]⟩, .int .u8 1, .int .i64 2, .string ⟨#[]⟩, .int .u8 1, .int .i64 5, .string ⟨#[]⟩] 27, .blk g1 [.int .u8 1, .int .i64 1, .slice (some ⟨g13, 0, none⟩) 4 4, .int .u8 0, .int .u8 0, .int .i64 0, .string ⟨#[]⟩, .int .i64 0, .int .u8 0, .slice none 0 0] 33, .blk g13 [.int .u8 1, .int .i64 0, .int .u8 0, .int .i64 0, .string ⟨#[]⟩, .int .u8 2, .int .i64 0, .int .u8 0, .int .i64 0, .string ⟨#[]⟩, .int .u8 3, .int .i64 1, .int .u8 0, .int .i64 0, .string ⟨#[]⟩, .int .u8 4, .int .i64 0, .int .u8 1, .int .i64 5, .string ⟨#[]⟩] 48]) (fun g6 => [(6, .pointer (some ⟨g6, 0, none⟩)), (45, .agg #[.int .u8 1, .int .i64 1, .string ⟨#[]⟩]), (44, .agg #[.int .u8 1, .int .i64 1, .slice (some ⟨g13, 0, none⟩) 4 4, .int .u8 0, .int .u8 0, .int .i64 0, .string ⟨#[]⟩, .int .i64 0, .int .u8 0, .slice none 0 0]), (5, .bool false), (3, .bool true), (2, .pointer (some ⟨g2, 0, none⟩)), (1, .pointer (some ⟨g1, 0, none⟩)), (0, .bool false)]) ?_ (fun m8_5 => ?_)
   ·
    rintro g6 _
    try dsimp only
    refine wx_step1 hok 2 rfl rfl rfl rfl ?_
    refine wl_call [] [0, 1, 2, 3, 4, 5, 6, 7, 8, 9, 10, 11, 12, 13, 14] rfl rfl rfl (freshS_eq rfl) rfl rfl fn_13 rfl (num_s _) (fun _ _ hφ => ask [] rfl hφ) rfl (H' := [_,_,_,_,_,_,_,_,_,_,_,_,_,_,_]) rfl ?_
    rintro _ _ _ ⟨rfl, rfl, rfl⟩
    refine wl_nil ?_
    refine we_x [] [13] rfl rfl ?_
    exact wx_at (m7_5 (g6) trivial) rfl [0] [0] [] [] [0, 1, 2, 3, 4, 5, 6, 7, 8, 9, 10, 11, 12, 13, 14] [0, 1, 2, 3, 4, 5, 6, 7, 8, 9, 10, 11, 12, 13, 14] [6, 46, 45, 44, 5, 3, 2, 1, 0] rfl rfl rfl rfl rfl rfl rfl rfl
   refine wx_loadH hok 0 12 0 rfl rfl rfl (freshS_eq rfl) rfl rfl rfl rfl (cs := [_,_,_,_,_,_,_,_,_,_]) rfl tS_33 tA_33 rfl rfl ?_
   refine wx_step2 hok 1 12 rfl rfl rfl rfl rfl rfl ?_ ?_
   ·
    refine wl_call [] [0, 1, 2, 3, 4, 5, 6, 7, 8, 9, 10, 11, 12, 13] rfl rfl rfl (freshS_eq rfl) rfl rfl fn_13 rfl (num_s _) (fun _ _ hφ => ask [] rfl hφ) rfl (H' := [_,_,_,_,_,_,_,_,_,_,_,_,_,_]) rfl ?_
    rintro _ _ _ ⟨rfl, rfl, rfl⟩
    refine wl_nil ?_
    refine we_x [] [12] rfl rfl ?_
    refine wx_step2 hok 2 12 rfl rfl rfl rfl rfl rfl ?_ ?_
    ·
     refine wl_call [] [0, 1, 2, 3, 4, 5, 6, 7, 8, 9, 10, 11, 12, 13] rfl rfl rfl (freshS_eq rfl) rfl rfl fn_13 rfl (num_s _) (fun _ _ hφ => ask [] rfl hφ) rfl (H' := [_,_,_,_,_,_,_,_,_,_,_,_,_,_]) rfl ?_
     rintro _ _ _ ⟨rfl, rfl, rfl⟩
     refine wl_nil ?_
     refine we_x [] [12] rfl rfl ?_
     refine wx_step2 hok 3 12 rfl rfl rfl rfl rfl rfl ?_ ?_
     ·
      refine wl_call [] [0, 1, 2, 3, 4, 5, 6, 7, 8, 9, 10, 11, 12, 13] rfl rfl rfl (freshS_eq rfl) rfl rfl fn_13 rfl (num_s _) (fun _ _ hφ => ask [] rfl hφ) rfl (H' := [_,_,_,_,_,_,_,_,_,_,_,_,_,_]) rfl ?_
      rintro _ _ _ ⟨rfl, rfl, rfl⟩
      refine wl_nil ?_
      refine we_x [] [12] rfl rfl ?_
      refine wx_step2 hok 4 12 rfl rfl rfl rfl rfl rfl ?_ ?_
      ·
       refine wl_call [] [0, 1, 2, 3, 4, 5, 6, 7, 8, 9, 10, 11, 12, 13] rfl rfl rfl (freshS_eq rfl) rfl rfl fn_13 rfl (num_s _) (fun _ _ hφ => ask [] rfl hφ) rfl (H' := [_,_,_,_,_,_,_,_,_,_,_,_,_,_]) rfl ?_
       rintro _ _ _ ⟨rfl, rfl, rfl⟩
       refine wl_nil ?_
       refine we_x [] [12] rfl rfl ?_
       refine wx_step3 hok 5 7 12 rfl rfl rfl rfl rfl rfl rfl rfl ?_ ?_ ?_
       ·
        refine wl_buildSlice rfl rfl rfl (freshS_eq rfl) rfl tE_34 tS_27 tZ_27 rfl (zs := [.int .u8 0, .int .i64 0, .string ⟨#[]⟩, .int .u8 0, .int .i64 0, .string ⟨#[]⟩, .int .u8 0, .int .i64 0, .string ⟨#[]⟩, .int .u8 0, .int .i64 0, .string ⟨#[]⟩]) (by kernel_rfl) rfl (out := [_,_,_,_,_,_,_,_,_,_,_,_]) rfl (fun g49 => ?_)
        refine wl_nil ?_
        refine we_x [] [13] rfl rfl ?_
        refine wx_build hok 6 rfl rfl rfl (freshS_eq rfl) rfl rfl tZ_36 tP_36 rfl (out := [_,_,_]) rfl ?_
        refine wx_step2 hok 7 12 rfl rfl rfl rfl rfl rfl ?_ ?_
        ·
         refine wl_call [] [0, 1, 2, 3, 4, 5, 6, 7, 8, 9, 10, 11, 12, 13, 14] rfl rfl rfl (freshS_eq rfl) rfl rfl fn_14 rfl (New_s _) (fun _ _ hφ => ask [] rfl hφ) rfl (H' := [_,_,_,_,_,_,_,_,_,_,_,_,_,_,_]) rfl ?_
         rintro _ _ _ ⟨p51, c51, p51_2, c51_2, rfl, rfl, rfl⟩
         refine wl_nil ?_
         refine we_x [] [15] rfl rfl ?_
         exact wx_at (m2_5 (g49, p51, c51, p51_2, c51_2) trivial) rfl [0] [0] [] [] [0, 1, 2, 3, 4, 5, 6, 7, 8, 9, 10, 11, 12, 13, 14, 15, 16] [0, 1, 2, 3, 4, 5, 6, 7, 8, 9, 10, 11, 12, 13, 14, 15, 16] [51, 50, 44, 5, 3, 2, 1, 0] rfl rfl rfl rfl rfl rfl rfl rfl
        ·
         refine wl_alloc rfl rfl rfl (freshS_eq rfl) rfl tZ_41 rfl (fun g6 => ?_)
         refine wl_nil ?_
         refine we_x [] [14] rfl rfl ?_
         exact wx_at (m3_5 (g49, g6) trivial) rfl [0] [0] [] [] [0, 1, 2, 3, 4, 5, 6, 7, 8, 9, 10, 11, 12, 13, 14, 15] [0, 1, 2, 3, 4, 5, 6, 7, 8, 9, 10, 11, 12, 13, 14, 15] [6, 50, 44, 5, 3, 2, 1, 0] rfl rfl rfl rfl rfl rfl rfl rfl
       ·
        refine wl_call [] [0, 1, 2, 3, 4, 5, 6, 7, 8, 9, 10, 11, 12, 13] rfl rfl rfl (freshS_eq rfl) rfl rfl fn_14 rfl (New_s _) (fun _ _ hφ => ask [] rfl hφ) rfl (H' := [_,_,_,_,_,_,_,_,_,_,_,_,_,_]) rfl ?_
        rintro _ _ _ ⟨p51, c51, p51_2, c51_2, rfl, rfl, rfl⟩
        refine wl_nil ?_
        refine we_x [] [14] rfl rfl ?_
        refine wx_step2 hok 5 12 rfl rfl rfl rfl rfl rfl ?_ ?_
        ·
         refine wl_buildSlice rfl rfl rfl (freshS_eq rfl) rfl tE_34 tS_27 tZ_27 rfl (zs := [.int .u8 0, .int .i64 0, .string ⟨#[]⟩, .int .u8 0, .int .i64 0, .string ⟨#[]⟩, .int .u8 0, .int .i64 0, .string ⟨#[]⟩, .int .u8 0, .int .i64 0, .string ⟨#[]⟩]) (by kernel_rfl) rfl (out := [_,_,_,_,_,_,_,_,_,_,_,_]) rfl (fun g49 => ?_)
         refine wl_nil ?_
         refine we_x [] [15] rfl rfl ?_
         refine wx_build hok 6 rfl rfl rfl (freshS_eq rfl) rfl rfl tZ_36 tP_36 rfl (out := [_,_,_]) rfl ?_
         exact wx_at (m2_5 (g49, p51, c51, p51_2, c51_2) trivial) rfl [0] [0] [] [] [1, 2, 0, 3, 4, 5, 6, 7, 8, 9, 10, 11, 12, 13, 14, 15, 16] [2, 0, 1, 3, 4, 5, 6, 7, 8, 9, 10, 11, 12, 13, 14, 15, 16] [51, 50, 44, 5, 3, 2, 1, 0] rfl rfl rfl rfl rfl rfl rfl rfl
        ·
         refine wl_alloc rfl rfl rfl (freshS_eq rfl) rfl tZ_41 rfl (fun g6 => ?_)
         refine wl_nil ?_
         refine we_x [] [15] rfl rfl ?_
         exact wx_at (m4_5 (p51, c51, p51_2, c51_2, g6) trivial) rfl [0] [0] [] [] [0, 1, 2, 3, 4, 5, 6, 7, 8, 9, 10, 11, 12, 13, 14, 15, 16] [0, 1, 2, 3, 4, 5, 6, 7, 8, 9, 10, 11, 12, 13, 14, 15, 16] [6, 51, 48, 47, 46, 45, 44, 5, 3, 2, 1, 0] rfl rfl rfl rfl rfl rfl rfl rfl
       ·
        refine wl_alloc rfl rfl rfl (freshS_eq rfl) rfl tZ_41 rfl (fun g6 => ?_)
        refine wl_nil ?_
        refine we_x [] [13] rfl rfl ?_
        exact wx_at (m5_5 (g6) trivial) rfl [0] [0] [] [] [0, 1, 2, 3, 4, 5, 6, 7, 8, 9, 10, 11, 12, 13, 14] [0, 1, 2, 3, 4, 5, 6, 7, 8, 9, 10, 11, 12, 13, 14] [6, 48, 47, 46, 45, 44, 5, 3, 2, 1, 0] rfl rfl rfl rfl rfl rfl rfl rfl
      ·
       refine wl_alloc rfl rfl rfl (freshS_eq rfl) rfl tZ_41 rfl (fun g6 => ?_)
       refine wl_nil ?_
       refine we_x [] [13] rfl rfl ?_
       exact wx_at (m6_5 (g6) trivial) rfl [0] [0] [] [] [0, 1, 2, 3, 4, 5, 6, 7, 8, 9, 10, 11, 12, 13, 14] [0, 1, 2, 3, 4, 5, 6, 7, 8, 9, 10, 11, 12, 13, 14] [6, 47, 46, 45, 44, 5, 3, 2, 1, 0] rfl rfl rfl rfl rfl rfl rfl rfl
     ·
      refine wl_alloc rfl rfl rfl (freshS_eq rfl) rfl tZ_41 rfl (fun g6 => ?_)
      refine wl_nil ?_
      refine we_x [] [13] rfl rfl ?_
      exact wx_at (m7_5 (g6) trivial) rfl [0] [0] [] [] [0, 1, 2, 3, 4, 5, 6, 7, 8, 9, 10, 11, 12, 13, 14] [0, 1, 2, 3, 4, 5, 6, 7, 8, 9, 10, 11, 12, 13, 14] [6, 46, 45, 44, 5, 3, 2, 1, 0] rfl rfl rfl rfl rfl rfl rfl rfl
    ·
     refine wl_alloc rfl rfl rfl (freshS_eq rfl) rfl tZ_41 rfl (fun g6 => ?_)
     refine wl_nil ?_
     refine we_x [] [13] rfl rfl ?_
     exact wx_at (m8_5 (g6) trivial) rfl [0] [0] [] [] [0, 1, 2, 3, 4, 5, 6, 7, 8, 9, 10, 11, 12, 13, 14] [0, 1, 2, 3, 4, 5, 6, 7, 8, 9, 10, 11, 12, 13, 14] [6, 45, 44, 5, 3, 2, 1, 0] rfl rfl rfl rfl rfl rfl rfl rfl
   ·
    refine wl_alloc rfl rfl rfl (freshS_eq rfl) rfl tZ_41 rfl (fun g6 => ?_)
    refine wl_nil ?_
    refine we_x [] [13] rfl rfl ?_
    refine wx_step1 hok 1 rfl rfl rfl rfl ?_
    refine wl_call [] [0, 1, 2, 3, 4, 5, 6, 7, 8, 9, 10, 11, 12, 13, 14] rfl rfl rfl (freshS_eq rfl) rfl rfl fn_13 rfl (num_s _) (fun _ _ hφ => ask [] rfl hφ) rfl (H' := [_,_,_,_,_,_,_,_,_,_,_,_,_,_,_]) rfl ?_
    rintro _ _ _ ⟨rfl, rfl, rfl⟩
    refine wl_nil ?_
    refine we_x [] [13] rfl rfl ?_
    exact wx_at (m8_5 (g6) trivial) rfl [0] [0] [] [] [0, 1, 2, 3, 4, 5, 6, 7, 8, 9, 10, 11, 12, 13, 14] [0, 1, 2, 3, 4, 5, 6, 7, 8, 9, 10, 11, 12, 13, 14] [6, 45, 44, 5, 3, 2, 1, 0] rfl rfl rfl rfl rfl rfl rfl rfl
  refine wx_memo (σ := Nat × (Option Addr) × Nat × (Option Addr) × Nat × Nat) (fun (g33, p35, c35, p35_2, c35_2, g4) => True) [12, 7, 6, 5, 4, 3, 2, 1, 0] (fun (g33, p35, c35, p35_2, c35_2, g4) => [(0, .blk g1 [.int .u8 1, .int .i64 1, .slice (some ⟨g13, 0, none⟩) 4 4, .int .u8 0, .int .u8 0, .int .i64 0, .string ⟨#[]⟩, .int .i64 0, .int .u8 0, .slice none 0 0] 33)]) (fun (g33, p35, c35, p35_2, c35_2, g4) => []) (fun (g33, p35, c35, p35_2, c35_2, g4) => [.blk g4 [.slice none 0 0, .slice none 0 0] 41, .own 27 3 vRep (.slice p35_2 ((newOf 1).vals.length) c35_2) ((newOf 1).vals), .own 4 1 bRep (.slice p35 ((newOf 1).has.length) c35) ((newOf 1).has), .blk g33 [.int .u8 1, .int .i64 1, .string ⟨#[]⟩, .int .u8 1, .int .i64 2, .string ⟨#[]⟩, .int .u8 1, .int .i64 3, .string ⟨#[]⟩, .int .u8 1, .int .i64 5, .string ⟨#[]⟩] 27, .blk g2 [.slice p24 ([true] : List Bool).length c24, .slice p24_2 ([⟨1, 2, ⟨#[]⟩⟩] : List V).length c24_2] 41, .own 27 3 vRep (.slice p24_2 ([⟨1, 2, ⟨#[]⟩⟩] : List V).length c24_2) ([⟨1, 2, ⟨#[]⟩⟩] : List V), .own 4 1 bRep (.slice p24 ([true] : List Bool).length c24) ([true] : List Bool), .own 27 3 vRep (.slice p23_2 ((newOf 1).vals.length) c23_2) ((newOf 1).vals), .own 4 1 bRep (.slice p23 ((newOf 1).has.length) c23) ((newOf 1).has), .blk g21 [.int .u8 1, .int .i64 1, .string ⟨#[]⟩, .int .u8 1, .int .i64 2, .string ⟨#[]⟩, .int .u8 1, .int .i64 2, .string ⟨#[]⟩, .int .u8 1, .int .i64 5, .string ⟨#[]⟩] 27, .blk g1 [.int .u8 1, .int .i64 1, .slice (some ⟨g13, 0, none⟩) 4 4, .int .u8 0, .int .u8 0, .int .i64 0, .string ⟨#[]⟩, .int .i64 0, .int .u8 0, .slice none 0 0] 33, .blk g13 [.int .u8 1, .int .i64 0, .int .u8 0, .int .i64 0, .string ⟨#[]⟩, .int .u8 2, .int .i64 0, .int .u8 0, .int .i64 0, .string ⟨#[]⟩, .int .u8 3, .int .i64 0, .int .u8 0, .int .i64 0, .string ⟨#[]⟩, .int .u8 4, .int .i64 0, .int .u8 1, .int .i64 5, .string ⟨#[]⟩] 48]) (fun (g33, p35, c35, p35_2, c35_2, g4) => [(4, .pointer (some ⟨g4, 0, none⟩)), (35, .agg #[.slice p35 ((newOf 1).has.length) c35, .slice p35_2 ((newOf 1).vals.length) c35_2]), (34, .agg #[.int .i64 0, .int .i64 1, .slice (some ⟨g33, 0, none⟩) 4 4]), (28, .agg #[.int .u8 1, .int .i64 1, .slice (some ⟨g13, 0, none⟩) 4 4, .int .u8 0, .int .u8 0, .int .i64 0, .string ⟨#[]⟩, .int .i64 0, .int .u8 0, .slice none 0 0]), (3, .bool true), (2, .pointer (some ⟨g2, 0, none⟩)), (1, .pointer (some ⟨g1, 0, none⟩)), (0, .bool false)]) ?_ (fun m1_3 => ?_)
  ·
   rintro ⟨g33, p35, c35, p35_2, c35_2, g4⟩ _
   try dsimp only
   refine wx_step1 hok 8 rfl rfl rfl rfl ?_
   refine wl_lend [] [0, 1, 2, 3, 4, 5, 6, 7, 8, 9, 10, 11] [1, 2, 3, 11] rfl rfl rfl (freshS_eq rfl) rfl rfl fn_7 rfl (Match_s _ _ _ _ _ _ _ _ _ _ _ _ _ _ _ ⟨1, 1, [(⟨1, 0, (⟨0, 0, ⟨#[]⟩⟩ : V)⟩ : ArgD), (⟨2, 0, (⟨0, 0, ⟨#[]⟩⟩ : V)⟩ : ArgD), (⟨3, 0, (⟨0, 0, ⟨#[]⟩⟩ : V)⟩ : ArgD), (⟨4, 0, (⟨1, 5, ⟨#[]⟩⟩ : V)⟩ : ArgD)]⟩ ⟨0, 1, [(⟨1, 1, ⟨#[]⟩⟩ : V), (⟨1, 2, ⟨#[]⟩⟩ : V), (⟨1, 3, ⟨#[]⟩⟩ : V), (⟨1, 5, ⟨#[]⟩⟩ : V)]⟩ ((newOf 1).has) ((newOf 1).vals) (by simp [newOf]) (by simp [newOf])) (fun F w hφ hh => (ask_cons (blk_sli (hh _ (mem_at (k := 3) rfl)) (⟨[.int .u8 1, .int .i64 0, .int .u8 0, .int .i64 0, .string ⟨#[]⟩], [.int .u8 2, .int .i64 0, .int .u8 0, .int .i64 0, .string ⟨#[]⟩, .int .u8 3, .int .i64 0, .int .u8 0, .int .i64 0, .string ⟨#[]⟩, .int .u8 4, .int .i64 0, .int .u8 1, .int .i64 5, .string ⟨#[]⟩], rfl, rfl, ⟨rfl, by first | assumption | (simp [V.ok, ArgD.ok, FactD.ok, inB, inI]) | (unfold V.ok inB inI; simp; omega)⟩, ⟨[.int .u8 2, .int .i64 0, .int .u8 0, .int .i64 0, .string ⟨#[]⟩], [.int .u8 3, .int .i64 0, .int .u8 0, .int .i64 0, .string ⟨#[]⟩, .int .u8 4, .int .i64 0, .int .u8 1, .int .i64 5, .string ⟨#[]⟩], rfl, rfl, ⟨rfl, by first | assumption | (simp [V.ok, ArgD.ok, FactD.ok, inB, inI]) | (unfold V.ok inB inI; simp; omega)⟩, ⟨[.int .u8 3, .int .i64 0, .int .u8 0, .int .i64 0, .string ⟨#[]⟩], [.int .u8 4, .int .i64 0, .int .u8 1, .int .i64 5, .string ⟨#[]⟩], rfl, rfl, ⟨rfl, by first | assumption | (simp [V.ok, ArgD.ok, FactD.ok, inB, inI]) | (unfold V.ok inB inI; simp; omega)⟩, ⟨[.int .u8 4, .int .i64 0, .int .u8 1, .int .i64 5, .string ⟨#[]⟩], [], rfl, rfl, ⟨rfl, by first | assumption | (simp [V.ok, ArgD.ok, FactD.ok, inB, inI]) | (unfold V.ok inB inI; simp; omega)⟩, rfl⟩⟩⟩⟩) rfl (by decide)) (ask_cons (blk_sli (hh _ (mem_at (k := 2) rfl)) (⟨[.int .u8 1, .int .i64 1, .string ⟨#[]⟩], [.int .u8 1, .int .i64 2, .string ⟨#[]⟩, .int .u8 1, .int .i64 3, .string ⟨#[]⟩, .int .u8 1, .int .i64 5, .string ⟨#[]⟩], rfl, rfl, ⟨rfl, by first | assumption | (simp [V.ok, ArgD.ok, FactD.ok, inB, inI]) | (unfold V.ok inB inI; simp; omega)⟩, ⟨[.int .u8 1, .int .i64 2, .string ⟨#[]⟩], [.int .u8 1, .int .i64 3, .string ⟨#[]⟩, .int .u8 1, .int .i64 5, .string ⟨#[]⟩], rfl, rfl, ⟨rfl, by first | assumption | (simp [V.ok, ArgD.ok, FactD.ok, inB, inI]) | (unfold V.ok inB inI; simp; omega)⟩, ⟨[.int .u8 1, .int .i64 3, .string ⟨#[]⟩], [.int .u8 1, .int .i64 5, .string ⟨#[]⟩], rfl, rfl, ⟨rfl, by first | assumption | (simp [V.ok, ArgD.ok, FactD.ok, inB, inI]) | (unfold V.ok inB inI; simp; omega)⟩, ⟨[.int .u8 1, .int .i64 5, .string ⟨#[]⟩], [], rfl, rfl, ⟨rfl, by first | assumption | (simp [V.ok, ArgD.ok, FactD.ok, inB, inI]) | (unfold V.ok inB inI; simp; omega)⟩, rfl⟩⟩⟩⟩) rfl (by decide)) (ask_cons (own_sli (hh _ (mem_at (k := 1) rfl))) (ask_cons (own_sli (hh _ (mem_at (k := 0) rfl))) ask_nil))))) (fun _ _ _ hR => by rcases hR with ⟨r36, e36, p36, c36, p36_2, c36_2, rfl, hmr36, rfl, rfl⟩ <;> exact ⟨rfl, by simp [own_free, blk_free, vRep_free, bRep_free, iRep_free, aRep_free]⟩) rfl rfl (H' := [_,_,_,_,_,_,_,_,_,_,_,_]) rfl ?_
   rintro _ _ _ ⟨r36, e36, p36, c36, p36_2, c36_2, rfl, hmr36, rfl, rfl⟩
   refine wl_nil ?_
   refine we_x [] [] rfl rfl ?_
   refine wx_pure hok 9 rfl rfl rfl (freshS_eq rfl) rfl rfl ?_
   refine wx_pure hok 10 rfl rfl rfl (freshS_eq rfl) rfl rfl ?_
   refine wx_pure hok 11 rfl rfl rfl (freshS_eq rfl) rfl rfl ?_
   exact wx_at (m0_3 (g33, p35, c35, p35_2, c35_2, r36, e36, p36, c36, p36_2, c36_2, g4) hmr36) rfl [0] [0] [] [] [2, 0, 1, 3, 4, 5, 6, 7, 8, 9, 10, 11, 12, 13] [1, 2, 0, 3, 4, 5, 6, 7, 8, 9, 10, 11, 12, 13] [4, 38, 37, 3, 2, 1, 0] rfl rfl rfl rfl rfl rfl rfl rfl
  refine wx_memo (σ := Nat × (Option Addr) × Nat × (Option Addr) × Nat) (fun (g33, p35, c35, p35_2, c35_2) => True) [7, 6, 5, 4, 3, 2, 1, 0] (fun (g33, p35, c35, p35_2, c35_2) => [(0, .blk g1 [.int .u8 1, .int .i64 1, .slice (some ⟨g13, 0, none⟩) 4 4, .int .u8 0, .int .u8 0, .int .i64 0, .string ⟨#[]⟩, .int .i64 0, .int .u8 0, .slice none 0 0] 33)]) (fun (g33, p35, c35, p35_2, c35_2) => []) (fun (g33, p35, c35, p35_2, c35_2) => [.own 27 3 vRep (.slice p35_2 ((newOf 1).vals.length) c35_2) ((newOf 1).vals), .own 4 1 bRep (.slice p35 ((newOf 1).has.length) c35) ((newOf 1).has), .blk g33 [.int .u8 1, .int .i64 1, .string ⟨#[]⟩, .int .u8 1, .int .i64 2, .string ⟨#[]⟩, .int .u8 1, .int .i64 3, .string ⟨#[]⟩, .int .u8 1, .int .i64 5, .string ⟨#[]⟩] 27, .blk g2 [.slice p24 ([true] : List Bool).length c24, .slice p24_2 ([⟨1, 2, ⟨#[]⟩⟩] : List V).length c24_2] 41, .own 27 3 vRep (.slice p24_2 ([⟨1, 2, ⟨#[]⟩⟩] : List V).length c24_2) ([⟨1, 2, ⟨#[]⟩⟩] : List V), .own 4 1 bRep (.slice p24 ([true] : List Bool).length c24) ([true] : List Bool), .own 27 3 vRep (.slice p23_2 ((newOf 1).vals.length) c23_2) ((newOf 1).vals), .own 4 1 bRep (.slice p23 ((newOf 1).has.length) c23) ((newOf 1).has), .blk g21 [.int .u8 1, .int .i64 1, .string ⟨#[]⟩, .int .u8 1, .int .i64 2, .string ⟨#[]⟩, .int .u8 1, .int .i64 2, .string ⟨#[]⟩, .int .u8 1, .int .i64 5, .string ⟨#[]⟩] 27, .blk g1 [.int .u8 1, .int .i64 1, .slice (some ⟨g13, 0, none⟩) 4 4, .int .u8 0, .int .u8 0, .int .i64 0, .string ⟨#[]⟩, .int .i64 0, .int .u8 0, .slice none 0 0] 33, .blk g13 [.int .u8 1, .int .i64 0, .int .u8 0, .int .i64 0, .string ⟨#[]⟩, .int .u8 2, .int .i64 0, .int .u8 0, .int .i64 0, .string ⟨#[]⟩, .int .u8 3, .int .i64 0, .int .u8 0, .int .i64 0, .string ⟨#[]⟩, .int .u8 4, .int .i64 0, .int .u8 1, .int .i64 5, .string ⟨#[]⟩] 48]) (fun (g33, p35, c35, p35_2, c35_2) => [(35, .agg #[.slice p35 ((newOf 1).has.length) c35, .slice p35_2 ((newOf 1).vals.length) c35_2]), (34, .agg #[.int .i64 0, .int .i64 1, .slice (some ⟨g33, 0, none⟩) 4 4]), (28, .agg #[.int .u8 1, .int .i64 1, .slice (some ⟨g13, 0, none⟩) 4 4, .int .u8 0, .int .u8 0, .int .i64 0, .string ⟨#[]⟩, .int .i64 0, .int .u8 0, .slice none 0 0]), (3, .bool true), (2, .pointer (some ⟨g2, 0, none⟩)), (1, .pointer (some ⟨g1, 0, none⟩)), (0, .bool false)]) ?_ (fun m2_3 => ?_)
  ·
   rintro ⟨g33, p35, c35, p35_2, c35_2⟩ _
   try dsimp only
   refine wx_step2 hok 8 12 rfl rfl rfl rfl rfl rfl ?_ ?_
   ·
    refine wl_lend [] [0, 1, 2, 3, 4, 5, 6, 7, 8, 9, 10] [0, 1, 2, 10] rfl rfl rfl (freshS_eq rfl) rfl rfl fn_7 rfl (Match_s _ _ _ _ _ _ _ _ _ _ _ _ _ _ _ ⟨1, 1, [(⟨1, 0, (⟨0, 0, ⟨#[]⟩⟩ : V)⟩ : ArgD), (⟨2, 0, (⟨0, 0, ⟨#[]⟩⟩ : V)⟩ : ArgD), (⟨3, 0, (⟨0, 0, ⟨#[]⟩⟩ : V)⟩ : ArgD), (⟨4, 0, (⟨1, 5, ⟨#[]⟩⟩ : V)⟩ : ArgD)]⟩ ⟨0, 1, [(⟨1, 1, ⟨#[]⟩⟩ : V), (⟨1, 2, ⟨#[]⟩⟩ : V), (⟨1, 3, ⟨#[]⟩⟩ : V), (⟨1, 5, ⟨#[]⟩⟩ : V)]⟩ ((newOf 1).has) ((newOf 1).vals) (by simp [newOf]) (by simp [newOf])) (fun F w hφ hh => (ask_cons (blk_sli (hh _ (mem_at (k := 3) rfl)) (⟨[.int .u8 1, .int .i64 0, .int .u8 0, .int .i64 0, .string ⟨#[]⟩], [.int .u8 2, .int .i64 0, .int .u8 0, .int .i64 0, .string ⟨#[]⟩, .int .u8 3, .int .i64 0, .int .u8 0, .int .i64 0, .string ⟨#[]⟩, .int .u8 4, .int .i64 0, .int .u8 1, .int .i64 5, .string ⟨#[]⟩], rfl, rfl, ⟨rfl, by first | assumption | (simp [V.ok, ArgD.ok, FactD.ok, inB, inI]) | (unfold V.ok inB inI; simp; omega)⟩, ⟨[.int .u8 2, .int .i64 0, .int .u8 0, .int .i64 0, .string ⟨#[]⟩], [.int .u8 3, .int .i64 0, .int .u8 0, .int .i64 0, .string ⟨#[]⟩, .int .u8 4, .int .i64 0, .int .u8 1, .int .i64 5, .string ⟨#[]⟩], rfl, rfl, ⟨rfl, by first | assumption | (simp [V.ok, ArgD.ok, FactD.ok, inB, inI]) | (unfold V.ok inB inI; simp; omega)⟩, ⟨[.int .u8 3, .int .i64 0, .int .u8 0, .int .i64 0, .string ⟨#[]⟩], [.int .u8 4, .int .i64 0, .int .u8 1, .int .i64 5, .string ⟨#[]⟩], rfl, rfl, ⟨rfl, by first | assumption | (simp [V.ok, ArgD.ok, FactD.ok, inB, inI]) | (unfold V.ok inB inI; simp; omega)⟩, ⟨[.int .u8 4, .int .i64 0, .int .u8 1, .int .i64 5, .string ⟨#[]⟩], [], rfl, rfl, ⟨rfl, by first | assumption | (simp [V.ok, ArgD.ok, FactD.ok, inB, inI]) | (unfold V.ok inB inI; simp; omega)⟩, rfl⟩⟩⟩⟩) rfl (by decide)) (ask_cons (blk_sli (hh _ (mem_at (k := 2) rfl)) (⟨[.int .u8 1, .int .i64 1, .string ⟨#[]⟩], [.int .u8 1, .int .i64 2, .string ⟨#[]⟩, .int .u8 1, .int .i64 3, .string ⟨#[]⟩, .int .u8 1, .int .i64 5, .string ⟨#[]⟩], rfl, rfl, ⟨rfl, by first | assumption | (simp [V.ok, ArgD.ok, FactD.ok, inB, inI]) | (unfold V.ok inB inI; simp; omega)⟩, ⟨[.int .u8 1, .int .i64 2, .string ⟨#[]⟩], [.int .u8 1, .int .i64 3, .string ⟨#[]⟩, .int .u8 1, .int .i64 5, .string ⟨#[]⟩], rfl, rfl, ⟨rfl, by first | assumption | (simp [V.ok, ArgD.ok, FactD.ok, inB, inI]) | (unfold V.ok inB inI; simp; omega)⟩, ⟨[.int .u8 1, .int .i64 3, .string ⟨#[]⟩], [.int .u8 1, .int .i64 5, .string ⟨#[]⟩], rfl, rfl, ⟨rfl, by first | assumption | (simp [V.ok, ArgD.ok, FactD.ok, inB, inI]) | (unfold V.ok inB inI; simp; omega)⟩, ⟨[.int .u8 1, .int .i64 5, .string ⟨#[]⟩], [], rfl, rfl, ⟨rfl, by first | assumption | (simp [V.ok, ArgD.ok, FactD.ok, inB, inI]) | (unfold V.ok inB inI; simp; omega)⟩, rfl⟩⟩⟩⟩) rfl (by decide)) (ask_cons (own_sli (hh _ (mem_at (k := 1) rfl))) (ask_cons (own_sli (hh _ (mem_at (k := 0) rfl))) ask_nil))))) (fun _ _ _ hR => by rcases hR with ⟨r36, e36, p36, c36, p36_2, c36_2, rfl, hmr36, rfl, rfl⟩ <;> exact ⟨rfl, by simp [own_free, blk_free, vRep_free, bRep_free, iRep_free, aRep_free]⟩) rfl rfl (H' := [_,_,_,_,_,_,_,_,_,_,_]) rfl ?_
    rintro _ _ _ ⟨r36, e36, p36, c36, p36_2, c36_2, rfl, hmr36, rfl, rfl⟩
    refine wl_nil ?_
    refine we_x [] [] rfl rfl ?_
    refine wx_pure hok 9 rfl rfl rfl (freshS_eq rfl) rfl rfl ?_
    refine wx_pure hok 10 rfl rfl rfl (freshS_eq rfl) rfl rfl ?_
    refine wx_pure hok 11 rfl rfl rfl (freshS_eq rfl) rfl rfl ?_
    refine wx_step1 hok 12 rfl rfl rfl rfl ?_
    refine wl_alloc rfl rfl rfl (freshS_eq rfl) rfl tZ_41 rfl (fun g4 => ?_)
    refine wl_nil ?_
    refine we_x [] [12] rfl rfl ?_
    exact wx_at (m0_3 (g33, p35, c35, p35_2, c35_2, r36, e36, p36, c36, p36_2, c36_2, g4) hmr36) rfl [0] [0] [] [] [0, 1, 2, 3, 4, 5, 6, 7, 8, 9, 10, 11, 12, 13] [0, 1, 2, 3, 4, 5, 6, 7, 8, 9, 10, 11, 12, 13] [4, 38, 37, 3, 2, 1, 0] rfl rfl rfl rfl rfl rfl rfl rfl
   ·
    refine wl_alloc rfl rfl rfl (freshS_eq rfl) rfl tZ_41 rfl (fun g4 => ?_)
    refine wl_nil ?_
    refine we_x [] [10] rfl rfl ?_
    exact wx_at (m1_3 (g33, p35, c35, p35_2, c35_2, g4) trivial) rfl [0] [0] [] [] [0, 1, 2, 3, 4, 5, 6, 7, 8, 9, 10, 11] [0, 1, 2, 3, 4, 5, 6, 7, 8, 9, 10, 11] [4, 35, 34, 28, 3, 2, 1, 0] rfl rfl rfl rfl rfl rfl rfl rfl
  refine wx_memo (σ := Nat × Nat) (fun (g33, g4) => True) [12, 6, 5, 4, 3, 2, 1, 0] (fun (g33, g4) => [(0, .blk g1 [.int .u8 1, .int .i64 1, .slice (some ⟨g13, 0, none⟩) 4 4, .int .u8 0, .int .u8 0, .int .i64 0, .string ⟨#[]⟩, .int .i64 0, .int .u8 0, .slice none 0 0] 33)]) (fun (g33, g4) => []) (fun (g33, g4) => [.blk g4 [.slice none 0 0, .slice none 0 0] 41, .blk g33 [.int .u8 1, .int .i64 1, .string ⟨#[]⟩, .int .u8 1, .int .i64 2, .string ⟨#[]⟩, .int .u8 1, .int .i64 3, .string ⟨#[]⟩, .int .u8 1, .int .i64 5, .string ⟨#[]⟩] 27, .blk g2 [.slice p24 ([true] : List Bool).length c24, .slice p24_2 ([⟨1, 2, ⟨#[]⟩⟩] : List V).length c24_2] 41, .own 27 3 vRep (.slice p24_2 ([⟨1, 2, ⟨#[]⟩⟩] : List V).length c24_2) ([⟨1, 2, ⟨#[]⟩⟩] : List V), .own 4 1 bRep (.slice p24 ([true] : List Bool).length c24) ([true] : List Bool), .own 27 3 vRep (.slice p23_2 ((newOf 1).vals.length) c23_2) ((newOf 1).vals), .own 4 1 bRep (.slice p23 ((newOf 1).has.length) c23) ((newOf 1).has), .blk g21 [.int .u8 1, .int .i64 1, .string ⟨#[]⟩, .int .u8 1, .int .i64 2, .string ⟨#[]⟩, .int .u8 1, .int .i64 2, .string ⟨#[]⟩, .int .u8 1, .int .i64 5, .string ⟨#[]⟩] 27, .blk g1 [.int .u8 1, .int .i64 1, .slice (some ⟨g13, 0, none⟩) 4 4, .int .u8 0, .int .u8 0, .int .i64 0, .string ⟨#[]⟩, .int .i64 0, .int .u8 0, .slice none 0 0] 33, .blk g13 [.int .u8 1, .int .i64 0, .int .u8 0, .int .i64 0, .string ⟨#[]⟩, .int .u8 2, .int .i64 0, .int .u8 0, .int .i64 0, .string ⟨#[]⟩, .int .u8 3, .int .i64 0, .int .u8 0, .int .i64 0, .string ⟨#[]⟩, .int .u8 4, .int .i64 0, .int .u8 1, .int .i64 5, .string ⟨#[]⟩] 48]) (fun (g33, g4) => [(4, .pointer (some ⟨g4, 0, none⟩)), (34, .agg #[.int .i64 0, .int .i64 1, .slice (some ⟨g33, 0, none⟩) 4 4]), (28, .agg #[.int .u8 1, .int .i64 1, .slice (some ⟨g13, 0, none⟩) 4 4, .int .u8 0, .int .u8 0, .int .i64 0, .string ⟨#[]⟩, .int .i64 0, .int .u8 0, .slice none 0 0]), (3, .bool true), (2, .pointer (some ⟨g2, 0, none⟩)), (1, .pointer (some ⟨g1, 0, none⟩)), (0, .bool false)]) ?_ (fun m3_3 => ?_)
  ·
   rintro ⟨g33, g4⟩ _
   try dsimp only
   refine wx_step1 hok 7 rfl rfl rfl rfl ?_
   refine wl_call [] [0, 1, 2, 3, 4, 5, 6, 7, 8, 9] rfl rfl rfl (freshS_eq rfl) rfl rfl fn_14 rfl (New_s _) (fun _ _ hφ => ask [] rfl hφ) rfl (H' := [_,_,_,_,_,_,_,_,_,_]) rfl ?_
   rintro _ _ _ ⟨p35, c35, p35_2, c35_2, rfl, rfl, rfl⟩
   refine wl_nil ?_
   refine we_x [] [10] rfl rfl ?_
   exact wx_at (m1_3 (g33, p35, c35, p35_2, c35_2, g4) trivial) rfl [0] [0] [] [] [2, 0, 1, 3, 4, 5, 6, 7, 8, 9, 10, 11] [1, 2, 0, 3, 4, 5, 6, 7, 8, 9, 10, 11] [4, 35, 34, 28, 3, 2, 1, 0] rfl rfl rfl rfl rfl rfl rfl rfl
  refine wx_memo (σ := (Option Addr) × Nat × (Option Addr) × Nat × Nat) (fun (p35, c35, p35_2, c35_2, g4) => True) [12, 7, 4, 3, 2, 1, 0] (fun (p35, c35, p35_2, c35_2, g4) => [(0, .blk g1 [.int .u8 1, .int .i64 1, .slice (some ⟨g13, 0, none⟩) 4 4, .int .u8 0, .int .u8 0, .int .i64 0, .string ⟨#[]⟩, .int .i64 0, .int .u8 0, .slice none 0 0] 33)]) (fun (p35, c35, p35_2, c35_2, g4) => []) (fun (p35, c35, p35_2, c35_2, g4) => [.blk g4 [.slice none 0 0, .slice none 0 0] 41, .own 27 3 vRep (.slice p35_2 ((newOf 1).vals.length) c35_2) ((newOf 1).vals), .own 4 1 bRep (.slice p35 ((newOf 1).has.length) c35) ((newOf 1).has), .blk g2 [.slice p24 ([true] : List Bool).length c24, .slice p24_2 ([⟨1, 2, ⟨#[]⟩⟩] : List V).length c24_2] 41, .own 27 3 vRep (.slice p24_2 ([⟨1, 2, ⟨#[]⟩⟩] : List V).length c24_2) ([⟨1, 2, ⟨#[]⟩⟩] : List V), .own 4 1 bRep (.slice p24 ([true] : List Bool).length c24) ([true] : List Bool), .own 27 3 vRep (.slice p23_2 ((newOf 1).vals.length) c23_2) ((newOf 1).vals), .own 4 1 bRep (.slice p23 ((newOf 1).has.length) c23) ((newOf 1).has), .blk g21 [.int .u8 1, .int .i64 1, .string ⟨#[]⟩, .int .u8 1, .int .i64 2, .string ⟨#[]⟩, .int .u8 1, .int .i64 2, .string ⟨#[]⟩, .int .u8 1, .int .i64 5, .string ⟨#[]⟩] 27, .blk g1 [.int .u8 1, .int .i64 1, .slice (some ⟨g13, 0, none⟩) 4 4, .int .u8 0, .int .u8 0, .int .i64 0, .string ⟨#[]⟩, .int .i64 0, .int .u8 0, .slice none 0 0] 33, .blk g13 [.int .u8 1, .int .i64 0, .int .u8 0, .int .i64 0, .string ⟨#[]⟩, .int .u8 2, .int .i64 0, .int .u8 0, .int .i64 0, .string ⟨#[]⟩, .int .u8 3, .int .i64 0, .int .u8 0, .int .i64 0, .string ⟨#[]⟩, .int .u8 4, .int .i64 0, .int .u8 1, .int .i64 5, .string ⟨#[]⟩] 48]) (fun (p35, c35, p35_2, c35_2, g4) => [(4, .pointer (some ⟨g4, 0, none⟩)), (35, .agg #[.slice p35 ((newOf 1).has.length) c35, .slice p35_2 ((newOf 1).vals.length) c35_2]), (32, .agg #[.int .u8 1, .int .i64 5, .string ⟨#[]⟩]), (31, .agg #[.int .u8 1, .int .i64 3, .string ⟨#[]⟩]), (30, .agg #[.int .u8 1, .int .i64 2, .string ⟨#[]⟩]), (29, .agg #[.int .u8 1, .int .i64 1, .string ⟨#[]⟩]), (28, .agg #[.int .u8 1, .int .i64 1, .slice (some ⟨g13, 0, none⟩) 4 4, .int .u8 0, .int .u8 0, .int .i64 0, .string ⟨#[]⟩, .int .i64 0, .int .u8 0, .slice none 0 0]), (3, .bool true), (2, .pointer (some ⟨g2, 0, none⟩)), (1, .pointer (some ⟨g1, 0, none⟩)), (0, .bool false)]) ?_ (fun m4_3 => ?_)
  ·
   rintro ⟨p35, c35, p35_2, c35_2, g4⟩ _
   try dsimp only
   refine wx_step1 hok 5 rfl rfl rfl rfl ?_
   refine wl_buildSlice rfl rfl rfl (freshS_eq rfl) rfl tE_34 tS_27 tZ_27 rfl (zs := [.int .u8 0, .int .i64 0, .string ⟨#[]⟩, .int .u8 0, .int .i64 0, .string ⟨#[]⟩, .int .u8 0, .int .i64 0, .string ⟨#[]⟩, .int .u8 0, .int .i64 0, .string ⟨#[]⟩]) (by kernel_rfl) rfl (out := [_,_,_,_,_,_,_,_,_,_,_,_]) rfl (fun g33 => ?_)
   refine wl_nil ?_
   refine we_x [] [10] rfl rfl ?_
   refine wx_build hok 6 rfl rfl rfl (freshS_eq rfl) rfl rfl tZ_36 tP_36 rfl (out := [_,_,_]) rfl ?_
   exact wx_at (m1_3 (g33, p35, c35, p35_2, c35_2, g4) trivial) rfl [0] [0] [] [] [1, 2, 3, 0, 4, 5, 6, 7, 8, 9, 10, 11] [3, 0, 1, 2, 4, 5, 6, 7, 8, 9, 10, 11] [4, 35, 34, 28, 3, 2, 1, 0] rfl rfl rfl rfl rfl rfl rfl rfl
  refine wx_memo (σ := Nat) (fun g4 => True) [12, 4, 3, 2, 1, 0] (fun g4 => [(0, .blk g1 [.int .u8 1, .int .i64 1, .slice (some ⟨g13, 0, none⟩) 4 4, .int .u8 0, .int .u8 0, .int .i64 0, .string ⟨#[]⟩, .int .i64 0, .int .u8 0, .slice none 0 0] 33)]) (fun g4 => []) (fun g4 => [.blk g4 [.slice none 0 0, .slice none 0 0] 41, .blk g2 [.slice p24 ([true] : List Bool).length c24, .slice p24_2 ([⟨1, 2, ⟨#[]⟩⟩] : List V).length c24_2] 41, .own 27 3 vRep (.slice p24_2 ([⟨1, 2, ⟨#[]⟩⟩] : List V).length c24_2) ([⟨1, 2, ⟨#[]⟩⟩] : List V), .own 4 1 bRep (.slice p24 ([true] : List Bool).length c24) ([true] : List Bool), .own 27 3 vRep (.slice p23_2 ((newOf 1).vals.length) c23_2) ((newOf 1).vals), .own 4 1 bRep (.slice p23 ((newOf 1).has.length) c23) ((newOf 1).has), .blk g21 [.int .u8 1, .int .i64 1, .string ⟨#[]⟩, .int .u8 1, .int .i64 2, .string ⟨#[]⟩, .int .u8 1, .int .i64 2, .string ⟨#[]⟩, .int .u8 1, .int .i64 5, .string ⟨#[]⟩] 27, .blk g1 [.int .u8 1, .int .i64 1, .slice (some ⟨g13, 0, none⟩) 4 4, .int .u8 0, .int .u8 0, .int .i64 0, .string ⟨#[]⟩, .int .i64 0, .int .u8 0, .slice none 0 0] 33, .blk g13 [.int .u8 1, .int .i64 0, .int .u8 0, .int .i64 0, .string ⟨#[]⟩, .int .u8 2, .int .i64 0, .int .u8 0, .int .i64 0, .string ⟨#[]⟩, .int .u8 3, .int .i64 0, .int .u8 0, .int .i64 0, .string ⟨#[]⟩, .int .u8 4, .int .i64 0, .int .u8 1, .int .i64 5, .string ⟨#[]⟩] 48]) (fun g4 => [(4, .pointer (some ⟨g4, 0, none⟩)), (32, .agg #[.int .u8 1, .int .i64 5, .string ⟨#[]⟩]), (31, .agg #[.int .u8 1, .int .i64 3, .string ⟨#[]⟩]), (30, .agg #[.int .u8 1, .int .i64 2, .string ⟨#[]⟩]), (29, .agg #[.int .u8 1, .int .i64 1, .string ⟨#[]⟩]), (28, .agg #[.int .u8 1, .int .i64 1, .slice (some ⟨g13, 0, none⟩) 4 4, .int .u8 0, .int .u8 0, .int .i64 0, .string ⟨#[]⟩, .int .i64 0, .int .u8 0, .slice none 0 0]), (3, .bool true), (2, .pointer (some ⟨g2, 0, none⟩)), (1, .pointer (some ⟨g1, 0, none⟩)), (0, .bool false)]) ?_ (fun m5_3 => ?_)
  ·
   rintro g4 _
   try dsimp only
   refine wx_step2 hok 5 7 rfl rfl rfl rfl rfl rfl ?_ ?_
   ·
    refine wl_buildSlice rfl rfl rfl (freshS_eq rfl) rfl tE_34 tS_27 tZ_27 rfl (zs := [.int .u8 0, .int .i64 0, .string ⟨#[]⟩, .int .u8 0, .int .i64 0, .string ⟨#[]⟩, .int .u8 0, .int .i64 0, .string ⟨#[]⟩, .int .u8 0, .int .i64 0, .string ⟨#[]⟩]) (by kernel_rfl) rfl (out := [_,_,_,_,_,_,_,_,_,_,_,_]) rfl (fun g33 => ?_)
    refine wl_nil ?_
    refine we_x [] [8] rfl rfl ?_
    refine wx_build hok 6 rfl rfl rfl (freshS_eq rfl) rfl rfl tZ_36 tP_36 rfl (out := [_,_,_]) rfl ?_
    exact wx_at (m3_3 (g33, g4) trivial) rfl [0] [0] [] [] [1, 0, 2, 3, 4, 5, 6, 7, 8, 9] [1, 0, 2, 3, 4, 5, 6, 7, 8, 9] [4, 34, 28, 3, 2, 1, 0] rfl rfl rfl rfl rfl rfl rfl rfl
   ·
    refine wl_call [] [0, 1, 2, 3, 4, 5, 6, 7, 8] rfl rfl rfl (freshS_eq rfl) rfl rfl fn_14 rfl (New_s _) (fun _ _ hφ => ask [] rfl hφ) rfl (H' := [_,_,_,_,_,_,_,_,_]) rfl ?_
    rintro _ _ _ ⟨p35, c35, p35_2, c35_2, rfl, rfl, rfl⟩
    refine wl_nil ?_
    refine we_x [] [9] rfl rfl ?_
    exact wx_at (m4_3 (p35, c35, p35_2, c35_2, g4) trivial) rfl [0] [0] [] [] [2, 0, 1, 3, 4, 5, 6, 7, 8, 9, 10] [1, 2, 0, 3, 4, 5, 6, 7, 8, 9, 10] [4, 35, 32, 31, 30, 29, 28, 3, 2, 1, 0] rfl rfl rfl rfl rfl rfl rfl rfl
  refine wx_memo (σ := Nat) (fun g4 => True) [12, 3, 2, 1, 0] (fun g4 => [(0, .blk g1 [.int .u8 1, .int .i64 1, .slice (some ⟨g13, 0, none⟩) 4 4, .int .u8 0, .int .u8 0, .int .i64 0, .string ⟨#[]⟩, .int .i64 0, .int .u8 0, .slice none 0 0] 33)]) (fun g4 => []) (fun g4 => [.blk g4 [.slice none 0 0, .slice none 0 0] 41, .blk g2 [.slice p24 ([true] : List Bool).length c24, .slice p24_2 ([⟨1, 2, ⟨#[]⟩⟩] : List V).length c24_2] 41, .own 27 3 vRep (.slice p24_2 ([⟨1, 2, ⟨#[]⟩⟩] : List V).length c24_2) ([⟨1, 2, ⟨#[]⟩⟩] : List V), .own 4 1 bRep (.slice p24 ([true] : List Bool).length c24) ([true] : List Bool), .own 27 3 vRep (.slice p23_2 ((newOf 1).vals.length) c23_2) ((newOf 1).vals), .own 4 1 bRep (.slice p23 ((newOf 1).has.length) c23) ((newOf 1).has), .blk g21 [.int .u8 1, .int .i64 1, .string ⟨#[]⟩, .int .u8 1, .int .i64 2, .string ⟨#[]⟩, .int .u8 1, .int .i64 2, .string ⟨#[]⟩, .int .u8 1, .int .i64 5, .string ⟨#[]⟩] 27, .blk g1 [.int .u8 1, .int .i64 1, .slice (some ⟨g13, 0, none⟩) 4 4, .int .u8 0, .int .u8 0, .int .i64 0, .string ⟨#[]⟩, .int .i64 0, .int .u8 0, .slice none 0 0] 33, .blk g13 [.int .u8 1, .int .i64 0, .int .u8 0, .int .i64 0, .string ⟨#[]⟩, .int .u8 2, .int .i64 0, .int .u8 0, .int .i64 0, .string ⟨#[]⟩, .int .u8 3, .int .i64 0, .int .u8 0, .int .i64 0, .string ⟨#[]⟩, .int .u8 4, .int .i64 0, .int .u8 1, .int .i64 5, .string ⟨#[]⟩] 48]) (fun g4 => [(4, .pointer (some ⟨g4, 0, none⟩)), (31, .agg #[.int .u8 1, .int .i64 3, .string ⟨#[]⟩]), (30, .agg #[.int .u8 1, .int .i64 2, .string ⟨#[]⟩]), (29, .agg #[.int .u8 1, .int .i64 1, .string ⟨#[]⟩]), (28, .agg #[.int .u8 1, .int .i64 1, .slice (some ⟨g13, 0, none⟩) 4 4, .int .u8 0, .int .u8 0, .int .i64 0, .string ⟨#[]⟩, .int .i64 0, .int .u8 0, .slice none 0 0]), (3, .bool true), (2, .pointer (some ⟨g2, 0, none⟩)), (1, .pointer (some ⟨g1, 0, none⟩)), (0, .bool false)]) ?_ (fun m6_3 => ?_)
  ·
   rintro g4 _
   try dsimp only
   refine wx_step1 hok 4 rfl rfl rfl rfl ?_
   refine wl_call [] [0, 1, 2, 3, 4, 5, 6, 7, 8] rfl rfl rfl (freshS_eq rfl) rfl rfl fn_13 rfl (num_s _) (fun _ _ hφ => ask [] rfl hφ) rfl (H' := [_,_,_,_,_,_,_,_,_]) rfl ?_
   rintro _ _ _ ⟨rfl, rfl, rfl⟩
   refine wl_nil ?_
   refine we_x [] [7] rfl rfl ?_
   exact wx_at (m5_3 (g4) trivial) rfl [0] [0] [] [] [0, 1, 2, 3, 4, 5, 6, 7, 8] [0, 1, 2, 3, 4, 5, 6, 7, 8] [4, 32, 31, 30, 29, 28, 3, 2, 1, 0] rfl rfl rfl rfl rfl rfl rfl rfl
  refine wx_memo (σ := Nat) (fun g4 => True) [12, 2, 1, 0] (fun g4 => [(0, .blk g1 [.int .u8 1, .int .i64 1, .slice (some ⟨g13, 0, none⟩) 4 4, .int .u8 0, .int .u8 0, .int .i64 0, .string ⟨#[]⟩, .int .i64 0, .int .u8 0, .slice none 0 0] 33)]) (fun g4 => []) (fun g4 => [.blk g4 [.slice none 0 0, .slice none 0 0] 41, .blk g2 [.slice p24 ([true] : List Bool).length c24, .slice p24_2 ([⟨1, 2, ⟨#[]⟩⟩] : List V).length c24_2] 41, .own 27 3 vRep (.slice p24_2 ([⟨1, 2, ⟨#[]⟩⟩] : List V).length c24_2) ([⟨1, 2, ⟨#[]⟩⟩] : List V), .own 4 1 bRep (.slice p24 ([true] : List Bool).length c24) ([true] : List Bool), .own 27 3 vRep (.slice p23_2 ((newOf 1).vals.length) c23_2) ((newOf 1).vals), .own 4 1 bRep (.slice p23 ((newOf 1).has.length) c23) ((newOf 1).has), .blk g21 [.int .u8 1, .int .i64 1, .string ⟨#[]⟩, .int .u8 1, .int .i64 2, .string ⟨#[]⟩, .int .u8 1, .int .i64 2, .string ⟨#[]⟩, .int .u8 1, .int .i64 5, .string ⟨#[]⟩] 27, .blk g1 [.int .u8 1, .int .i64 1, .slice (some ⟨g13, 0, none⟩) 4 4, .int .u8 0, .int .u8 0, .int .i64 0, .string ⟨#[]⟩, .int .i64 0, .int .u8 0, .slice none 0 0] 33, .blk g13 [.int .u8 1, .int .i64 0, .int .u8 0, .int .i64 0, .string ⟨#[]⟩, .int .u8 2, .int .i64 0, .int .u8 0, .int .i64 0, .string ⟨#[]⟩, .int .u8 3, .int .i64 0, .int .u8 0, .int .i64 0, .string ⟨#[]⟩, .int .u8 4, .int .i64 0, .int .u8 1, .int .i64 5, .string ⟨#[]⟩] 48]) (fun g4 => [(4, .pointer (some ⟨g4, 0, none⟩)), (30, .agg #[.int .u8 1, .int .i64 2, .string ⟨#[]⟩]), (29, .agg #[.int .u8 1, .int .i64 1, .string ⟨#[]⟩]), (28, .agg #[.int .u8 1, .int .i64 1, .slice (some ⟨g13, 0, none⟩) 4 4, .int .u8 0, .int .u8 0, .int .i64 0, .string ⟨#[]⟩, .int .i64 0, .int .u8 0, .slice none 0 0]), (3, .bool true), (2, .pointer (some ⟨g2, 0, none⟩)), (1, .pointer (some ⟨g1, 0, none⟩)), (0, .bool false)]) ?_ (fun m7_3 => ?_)
  ·
   rintro g4 _
   try dsimp only
   refine wx_step1 hok 3 rfl rfl rfl rfl ?_
   refine wl_call [] [0, 1, 2, 3, 4, 5, 6, 7, 8] rfl rfl rfl (freshS_eq rfl) rfl rfl fn_13 rfl (num_s _) (fun _ _ hφ => ask [] rfl hφ) rfl (H' := [_,_,_,_,_,_,_,_,_]) rfl ?_
   rintro _ _ _ ⟨rfl, rfl, rfl⟩
   refine wl_nil ?_
   refine we_x [] [7] rfl rfl ?_
   exact wx_at (m6_3 (g4) trivial) rfl [0] [0] [] [] [0, 1, 2, 3, 4, 5, 6, 7, 8] [0, 1, 2, 3, 4, 5, 6, 7, 8] [4, 31, 30, 29, 28, 3, 2, 1, 0] rfl rfl rfl rfl rfl rfl rfl rfl
  refine wx_memo (σ := Nat) (fun g4 => True) [12, 1, 0] (fun g4 => [(0, .blk g1 [.int .u8 1, .int .i64 1, .slice (some ⟨g13, 0, none⟩) 4 4, .int .u8 0, .int .u8 0, .int .i64 0, .string ⟨#[]⟩, .int .i64 0, .int .u8 0, .slice none 0 0] 33)]) (fun g4 => []) (fun g4 => [.blk g4 [.slice none 0 0, .slice none 0 0] 41, .blk g2 [.slice p24 ([true] : List Bool).length c24, .slice p24_2 ([⟨1, 2, ⟨#[]⟩⟩] : List V).length c24_2] 41, .own 27 3 vRep (.slice p24_2 ([⟨1, 2, ⟨#[]⟩⟩] : List V).length c24_2) ([⟨1, 2, ⟨#[]⟩⟩] : List V), .own 4 1 bRep (.slice p24 ([true] : List Bool).length c24) ([true] : List Bool), .own 27 3 vRep (.slice p23_2 ((newOf 1).vals.length) c23_2) ((newOf 1).vals), .own 4 1 bRep (.slice p23 ((newOf 1).has.length) c23) ((newOf 1).has), .blk g21 [.int .u8 1, .int .i64 1, .string ⟨#[]⟩, .int .u8 1, .int .i64 2, .string ⟨#[]⟩, .int .u8 1, .int .i64 2, .string ⟨#[]⟩, .int .u8 1, .int .i64 5, .string ⟨#[]⟩] 27, .blk g1 [.int .u8 1, .int .i64 1, .slice (some ⟨g13, 0, none⟩) 4 4, .int .u8 0, .int .u8 0, .int .i64 0, .string ⟨#[]⟩, .int .i64 0, .int .u8 0, .slice none 0 0] 33, .blk g13 [.int .u8 1, .int .i64 0, .int .u8 0, .int .i64 0, .string ⟨#[]⟩, .int .u8 2, .int .i64 0, .int .u8 0, .int .i64 0, .string ⟨#[]⟩, .int .u8 3, .int .i64 0, .int .u8 0, .int .i64 0, .string ⟨#[]⟩, .int .u8 4, .int .i64 0, .int .u8 1, .int .i64 5, .string ⟨#[]⟩] 48]) (fun g4 => [(4, .pointer (some ⟨g4, 0, none⟩)), (29, .agg #[.int .u8 1, .int .i64 1, .string ⟨#[]⟩]), (28, .agg #[.int .u8 1, .int .i64 1, .slice (some ⟨g13, 0, none⟩) 4 4, .int .u8 0, .int .u8 0, .int .i64 0, .string ⟨#[]⟩, .int .i64 0, .int .u8 0, .slice none 0 0]), (3, .bool true), (2, .pointer (some ⟨g2, 0, none⟩)), (1, .pointer (some ⟨g1, 0, none⟩)), (0, .bool false)]) ?_ (fun m8_3 => ?_)
  ·
   rintro g4 _
   try dsimp only
   refine wx_step1 hok 2 rfl rfl rfl rfl ?_
   refine wl_call [] [0, 1, 2, 3, 4, 5, 6, 7, 8] rfl rfl rfl (freshS_eq rfl) rfl rfl fn_13 rfl (num_s _) (fun _ _ hφ => ask [] rfl hφ) rfl (H' := [_,_,_,_,_,_,_,_,_]) rfl ?_
   rintro _ _ _ ⟨rfl, rfl, rfl⟩
   refine wl_nil ?_
   refine we_x [] [7] rfl rfl ?_
   exact wx_at (m7_3 (g4) trivial) rfl [0] [0] [] [] [0, 1, 2, 3, 4, 5, 6, 7, 8] [0, 1, 2, 3, 4, 5, 6, 7, 8] [4, 30, 29, 28, 3, 2, 1, 0] rfl rfl rfl rfl rfl rfl rfl rfl
  refine wx_loadH hok 0 6 0 rfl rfl rfl (freshS_eq rfl) rfl rfl rfl rfl (cs := [_,_,_,_,_,_,_,_,_,_]) rfl tS_33 tA_33 rfl rfl ?_
  refine wx_step2 hok 1 12 rfl rfl rfl rfl rfl rfl ?_ ?_
  ·
   refine wl_call [] [0, 1, 2, 3, 4, 5, 6, 7] rfl rfl rfl (freshS_eq rfl) rfl rfl fn_13 rfl (num_s _) (fun _ _ hφ => ask [] rfl hφ) rfl (H' := [_,_,_,_,_,_,_,_]) rfl ?_
   rintro _ _ _ ⟨rfl, rfl, rfl⟩
   refine wl_nil ?_
   refine we_x [] [6] rfl rfl ?_
   refine wx_step2 hok 2 12 rfl rfl rfl rfl rfl rfl ?_ ?_
   ·
    refine wl_call [] [0, 1, 2, 3, 4, 5, 6, 7] rfl rfl rfl (freshS_eq rfl) rfl rfl fn_13 rfl (num_s _) (fun _ _ hφ => ask [] rfl hφ) rfl (H' := [_,_,_,_,_,_,_,_]) rfl ?_
    rintro _ _ _ ⟨rfl, rfl, rfl⟩
    refine wl_nil ?_
    refine we_x [] [6] rfl rfl ?_
    refine wx_step2 hok 3 12 rfl rfl rfl rfl rfl rfl ?_ ?_
    ·
     refine wl_call [] [0, 1, 2, 3, 4, 5, 6, 7] rfl rfl rfl (freshS_eq rfl) rfl rfl fn_13 rfl (num_s _) (fun _ _ hφ => ask [] rfl hφ) rfl (H' := [_,_,_,_,_,_,_,_]) rfl ?_
     rintro _ _ _ ⟨rfl, rfl, rfl⟩
     refine wl_nil ?_
     refine we_x [] [6] rfl rfl ?_
     refine wx_step2 hok 4 12 rfl rfl rfl rfl rfl rfl ?_ ?_
     ·
      refine wl_call [] [0, 1, 2, 3, 4, 5, 6, 7] rfl rfl rfl (freshS_eq rfl) rfl rfl fn_13 rfl (num_s _) (fun _ _ hφ => ask [] rfl hφ) rfl (H' := [_,_,_,_,_,_,_,_]) rfl ?_
      rintro _ _ _ ⟨rfl, rfl, rfl⟩
      refine wl_nil ?_
      refine we_x [] [6] rfl rfl ?_
      refine wx_step3 hok 5 7 12 rfl rfl rfl rfl rfl rfl rfl rfl ?_ ?_ ?_
      ·
       refine wl_buildSlice rfl rfl rfl (freshS_eq rfl) rfl tE_34 tS_27 tZ_27 rfl (zs := [.int .u8 0, .int .i64 0, .string ⟨#[]⟩, .int .u8 0, .int .i64 0, .string ⟨#[]⟩, .int .u8 0, .int .i64 0, .string ⟨#[]⟩, .int .u8 0, .int .i64 0, .string ⟨#[]⟩]) (by kernel_rfl) rfl (out := [_,_,_,_,_,_,_,_,_,_,_,_]) rfl (fun g33 => ?_)
       refine wl_nil ?_
       refine we_x [] [7] rfl rfl ?_
       refine wx_build hok 6 rfl rfl rfl (freshS_eq rfl) rfl rfl tZ_36 tP_36 rfl (out := [_,_,_]) rfl ?_
       refine wx_step2 hok 7 12 rfl rfl rfl rfl rfl rfl ?_ ?_
       ·
        refine wl_call [] [0, 1, 2, 3, 4, 5, 6, 7, 8] rfl rfl rfl (freshS_eq rfl) rfl rfl fn_14 rfl (New_s _) (fun _ _ hφ => ask [] rfl hφ) rfl (H' := [_,_,_,_,_,_,_,_,_]) rfl ?_
        rintro _ _ _ ⟨p35, c35, p35_2, c35_2, rfl, rfl, rfl⟩
        refine wl_nil ?_
        refine we_x [] [9] rfl rfl ?_
        exact wx_at (m2_3 (g33, p35, c35, p35_2, c35_2) trivial) rfl [0] [0] [] [] [0, 1, 2, 3, 4, 5, 6, 7, 8, 9, 10] [0, 1, 2, 3, 4, 5, 6, 7, 8, 9, 10] [35, 34, 28, 3, 2, 1, 0] rfl rfl rfl rfl rfl rfl rfl rfl
       ·
        refine wl_alloc rfl rfl rfl (freshS_eq rfl) rfl tZ_41 rfl (fun g4 => ?_)
        refine wl_nil ?_
        refine we_x [] [8] rfl rfl ?_
        exact wx_at (m3_3 (g33, g4) trivial) rfl [0] [0] [] [] [0, 1, 2, 3, 4, 5, 6, 7, 8, 9] [0, 1, 2, 3, 4, 5, 6, 7, 8, 9] [4, 34, 28, 3, 2, 1, 0] rfl rfl rfl rfl rfl rfl rfl rfl
      ·
       refine wl_call [] [0, 1, 2, 3, 4, 5, 6, 7] rfl rfl rfl (freshS_eq rfl) rfl rfl fn_14 rfl (New_s _) (fun _ _ hφ => ask [] rfl hφ) rfl (H' := [_,_,_,_,_,_,_,_]) rfl ?_
       rintro _ _ _ ⟨p35, c35, p35_2, c35_2, rfl, rfl, rfl⟩
       refine wl_nil ?_
       refine we_x [] [8] rfl rfl ?_
       refine wx_step2 hok 5 12 rfl rfl rfl rfl rfl rfl ?_ ?_
       ·
        refine wl_buildSlice rfl rfl rfl (freshS_eq rfl) rfl tE_34 tS_27 tZ_27 rfl (zs := [.int .u8 0, .int .i64 0, .string ⟨#[]⟩, .int .u8 0, .int .i64 0, .string ⟨#[]⟩, .int .u8 0, .int .i64 0, .string ⟨#[]⟩, .int .u8 0, .int .i64 0, .string ⟨#[]⟩]) (by kernel_rfl) rfl (out := [_,_,_,_,_,_,_,_,_,_,_,_]) rfl (fun g33 => ?_)
        refine wl_nil ?_
        refine we_x [] [9] rfl rfl ?_
        refine wx_build hok 6 rfl rfl rfl (freshS_eq rfl) rfl rfl tZ_36 tP_36 rfl (out := [_,_,_]) rfl ?_
        exact wx_at (m2_3 (g33, p35, c35, p35_2, c35_2) trivial) rfl [0] [0] [] [] [1, 2, 0, 3, 4, 5, 6, 7, 8, 9, 10] [2, 0, 1, 3, 4, 5, 6, 7, 8, 9, 10] [35, 34, 28, 3, 2, 1, 0] rfl rfl rfl rfl rfl rfl rfl rfl
       ·
        refine wl_alloc rfl rfl rfl (freshS_eq rfl) rfl tZ_41 rfl (fun g4 => ?_)
        refine wl_nil ?_
        refine we_x [] [9] rfl rfl ?_
        exact wx_at (m4_3 (p35, c35, p35_2, c35_2, g4) trivial) rfl [0] [0] [] [] [0, 1, 2, 3, 4, 5, 6, 7, 8, 9, 10] [0, 1, 2, 3, 4, 5, 6, 7, 8, 9, 10] [4, 35, 32, 31, 30, 29, 28, 3, 2, 1, 0] rfl rfl rfl rfl rfl rfl rfl rfl
      ·
       refine wl_alloc rfl rfl rfl (freshS_eq rfl) rfl tZ_41 rfl (fun g4 => ?_)
       refine wl_nil ?_
       refine we_x [] [7] rfl rfl ?_
       exact wx_at (m5_3 (g4) trivial) rfl [0] [0] [] [] [0, 1, 2, 3, 4, 5, 6, 7, 8] [0, 1, 2, 3, 4, 5, 6, 7, 8] [4, 32, 31, 30, 29, 28, 3, 2, 1, 0] rfl rfl rfl rfl rfl rfl rfl rfl
     ·
      refine wl_alloc rfl rfl rfl (freshS_eq rfl) rfl tZ_41 rfl (fun g4 => ?_)
      refine wl_nil ?_
      refine we_x [] [7] rfl rfl ?_
      exact wx_at (m6_3 (g4) trivial) rfl [0] [0] [] [] [0, 1, 2, 3, 4, 5, 6, 7, 8] [0, 1, 2, 3, 4, 5, 6, 7, 8] [4, 31, 30, 29, 28, 3, 2, 1, 0] rfl rfl rfl rfl rfl rfl rfl rfl
    ·
     refine wl_alloc rfl rfl rfl (freshS_eq rfl) rfl tZ_41 rfl (fun g4 => ?_)
     refine wl_nil ?_
     refine we_x [] [7] rfl rfl ?_
     exact wx_at (m7_3 (g4) trivial) rfl [0] [0] [] [] [0, 1, 2, 3, 4, 5, 6, 7, 8] [0, 1, 2, 3, 4, 5, 6, 7, 8] [4, 30, 29, 28, 3, 2, 1, 0] rfl rfl rfl rfl rfl rfl rfl rfl
   ·
    refine wl_alloc rfl rfl rfl (freshS_eq rfl) rfl tZ_41 rfl (fun g4 => ?_)
    refine wl_nil ?_
    refine we_x [] [7] rfl rfl ?_
    exact wx_at (m8_3 (g4) trivial) rfl [0] [0] [] [] [0, 1, 2, 3, 4, 5, 6, 7, 8] [0, 1, 2, 3, 4, 5, 6, 7, 8] [4, 29, 28, 3, 2, 1, 0] rfl rfl rfl rfl rfl rfl rfl rfl
  ·
   refine wl_alloc rfl rfl rfl (freshS_eq rfl) rfl tZ_41 rfl (fun g4 => ?_)
   refine wl_nil ?_
   refine we_x [] [7] rfl rfl ?_
   refine wx_step1 hok 1 rfl rfl rfl rfl ?_
   refine wl_call [] [0, 1, 2, 3, 4, 5, 6, 7, 8] rfl rfl rfl (freshS_eq rfl) rfl rfl fn_13 rfl (num_s _) (fun _ _ hφ => ask [] rfl hφ) rfl (H' := [_,_,_,_,_,_,_,_,_]) rfl ?_
   rintro _ _ _ ⟨rfl, rfl, rfl⟩
   refine wl_nil ?_
   refine we_x [] [7] rfl rfl ?_
   exact wx_at (m8_3 (g4) trivial) rfl [0] [0] [] [] [0, 1, 2, 3, 4, 5, 6, 7, 8] [0, 1, 2, 3, 4, 5, 6, 7, 8] [4, 29, 28, 3, 2, 1, 0] rfl rfl rfl rfl rfl rfl rfl rfl
 refine wx_memo (σ := Nat × (Option Addr) × Nat × (Option Addr) × Nat × Nat) (fun (g21, p23, c23, p23_2, c23_2, g2) => True) [12, 7, 6, 5, 4, 3, 2, 1, 0] (fun (g21, p23, c23, p23_2, c23_2, g2) => [(0, .blk g1 [.int .u8 1, .int .i64 1, .slice (some ⟨g13, 0, none⟩) 4 4, .int .u8 0, .int .u8 0, .int .i64 0, .string ⟨#[]⟩, .int .i64 0, .int .u8 0, .slice none 0 0] 33)]) (fun (g21, p23, c23, p23_2, c23_2, g2) => []) (fun (g21, p23, c23, p23_2, c23_2, g2) => [.blk g2 [.slice none 0 0, .slice none 0 0] 41, .own 27 3 vRep (.slice p23_2 ((newOf 1).vals.length) c23_2) ((newOf 1).vals), .own 4 1 bRep (.slice p23 ((newOf 1).has.length) c23) ((newOf 1).has), .blk g21 [.int .u8 1, .int .i64 1, .string ⟨#[]⟩, .int .u8 1, .int .i64 2, .string ⟨#[]⟩, .int .u8 1, .int .i64 2, .string ⟨#[]⟩, .int .u8 1, .int .i64 5, .string ⟨#[]⟩] 27, .blk g1 [.int .u8 1, .int .i64 1, .slice (some ⟨g13, 0, none⟩) 4 4, .int .u8 0, .int .u8 0, .int .i64 0, .string ⟨#[]⟩, .int .i64 0, .int .u8 0, .slice none 0 0] 33, .blk g13 [.int .u8 1, .int .i64 0, .int .u8 0, .int .i64 0, .string ⟨#[]⟩, .int .u8 2, .int .i64 0, .int .u8 0, .int .i64 0, .string ⟨#[]⟩, .int .u8 3, .int .i64 0, .int .u8 0, .int .i64 0, .string ⟨#[]⟩, .int .u8 4, .int .i64 0, .int .u8 1, .int .i64 5, .string ⟨#[]⟩] 48]) (fun (g21, p23, c23, p23_2, c23_2, g2) => [(2, .pointer (some ⟨g2, 0, none⟩)), (23, .agg #[.slice p23 ((newOf 1).has.length) c23, .slice p23_2 ((newOf 1).vals.length) c23_2]), (22, .agg #[.int .i64 0, .int .i64 1, .slice (some ⟨g21, 0, none⟩) 4 4]), (16, .agg #[.int .u8 1, .int .i64 1, .slice (some ⟨g13, 0, none⟩) 4 4, .int .u8 0, .int .u8 0, .int .i64 0, .string ⟨#[]⟩, .int .i64 0, .int .u8 0, .slice none 0 0]), (1, .pointer (some ⟨g1, 0, none⟩)), (0, .bool false)]) ?_ (fun m1_2 => ?_)
 ·
  rintro ⟨g21, p23, c23, p23_2, c23_2, g2⟩ _
  try dsimp only
  refine wx_step1 hok 8 rfl rfl rfl rfl ?_
  refine wl_lend [] [0, 1, 2, 3, 4, 5] [1, 2, 3, 5] rfl rfl rfl (freshS_eq rfl) rfl rfl fn_7 rfl (Match_s _ _ _ _ _ _ _ _ _ _ _ _ _ _ _ ⟨1, 1, [(⟨1, 0, (⟨0, 0, ⟨#[]⟩⟩ : V)⟩ : ArgD), (⟨2, 0, (⟨0, 0, ⟨#[]⟩⟩ : V)⟩ : ArgD), (⟨3, 0, (⟨0, 0, ⟨#[]⟩⟩ : V)⟩ : ArgD), (⟨4, 0, (⟨1, 5, ⟨#[]⟩⟩ : V)⟩ : ArgD)]⟩ ⟨0, 1, [(⟨1, 1, ⟨#[]⟩⟩ : V), (⟨1, 2, ⟨#[]⟩⟩ : V), (⟨1, 2, ⟨#[]⟩⟩ : V), (⟨1, 5, ⟨#[]⟩⟩ : V)]⟩ ((newOf 1).has) ((newOf 1).vals) (by simp [newOf]) (by simp [newOf])) (fun F w hφ hh => (ask_cons (blk_sli (hh _ (mem_at (k := 3) rfl)) (⟨[.int .u8 1, .int .i64 0, .int .u8 0, .int .i64 0, .string ⟨#[]⟩], [.int .u8 2, .int .i64 0, .int .u8 0, .int .i64 0, .string ⟨#[]⟩, .int .u8 3, .int .i64 0, .int .u8 0, .int .i64 0, .string ⟨#[]⟩, .int .u8 4, .int .i64 0, .int .u8 1, .int .i64 5, .string ⟨#[]⟩], rfl, rfl, ⟨rfl, by first | assumption | (simp [V.ok, ArgD.ok, FactD.ok, inB, inI]) | (unfold V.ok inB inI; simp; omega)⟩, ⟨[.int .u8 2, .int .i64 0, .int .u8 0, .int .i64 0, .string ⟨#[]⟩], [.int .u8 3, .int .i64 0, .int .u8 0, .int .i64 0, .string ⟨#[]⟩, .int .u8 4, .int .i64 0, .int .u8 1, .int .i64 5, .string ⟨#[]⟩], rfl, rfl, ⟨rfl, by first | assumption | (simp [V.ok, ArgD.ok, FactD.ok, inB, inI]) | (unfold V.ok inB inI; simp; omega)⟩, ⟨[.int .u8 3, .int .i64 0, .int .u8 0, .int .i64 0, .string ⟨#[]⟩], [.int .u8 4, .int .i64 0, .int .u8 1, .int .i64 5, .string ⟨#[]⟩], rfl, rfl, ⟨rfl, by first | assumption | (simp [V.ok, ArgD.ok, FactD.ok, inB, inI]) | (unfold V.ok inB inI; simp; omega)⟩, ⟨[.int .u8 4, .int .i64 0, .int .u8 1, .int .i64 5, .string ⟨#[]⟩], [], rfl, rfl, ⟨rfl, by first | assumption | (simp [V.ok, ArgD.ok, FactD.ok, inB, inI]) | (unfold V.ok inB inI; simp; omega)⟩, rfl⟩⟩⟩⟩) rfl (by decide)) (ask_cons (blk_sli (hh _ (mem_at (k := 2) rfl)) (⟨[.int .u8 1, .int .i64 1, .string ⟨#[]⟩], [.int .u8 1, .int .i64 2, .string ⟨#[]⟩, .int .u8 1, .int .i64 2, .string ⟨#[]⟩, .int .u8 1, .int .i64 5, .string ⟨#[]⟩], rfl, rfl, ⟨rfl, by first | assumption | (simp [V.ok, ArgD.ok, FactD.ok, inB, inI]) | (unfold V.ok inB inI; simp; omega)⟩, ⟨[.int .u8 1, .int .i64 2, .string ⟨#[]⟩], [.int .u8 1, .int .i64 2, .string ⟨#[]⟩, .int .u8 1, .int .i64 5, .string ⟨#[]⟩], rfl, rfl, ⟨rfl, by first | assumption | (simp [V.ok, ArgD.ok, FactD.ok, inB, inI]) | (unfold V.ok inB inI; simp; omega)⟩, ⟨[.int .u8 1, .int .i64 2, .string ⟨#[]⟩], [.int .u8 1, .int .i64 5, .string ⟨#[]⟩], rfl, rfl, ⟨rfl, by first | assumption | (simp [V.ok, ArgD.ok, FactD.ok, inB, inI]) | (unfold V.ok inB inI; simp; omega)⟩, ⟨[.int .u8 1, .int .i64 5, .string ⟨#[]⟩], [], rfl, rfl, ⟨rfl, by first | assumption | (simp [V.ok, ArgD.ok, FactD.ok, inB, inI]) | (unfold V.ok inB inI; simp; omega)⟩, rfl⟩⟩⟩⟩) rfl (by decide)) (ask_cons (own_sli (hh _ (mem_at (k := 1) rfl))) (ask_cons (own_sli (hh _ (mem_at (k := 0) rfl))) ask_nil))))) (fun _ _ _ hR => by rcases hR with ⟨r24, e24, p24, c24, p24_2, c24_2, rfl, hmr24, rfl, rfl⟩ <;> exact ⟨rfl, by simp [own_free, blk_free, vRep_free, bRep_free, iRep_free, aRep_free]⟩) rfl rfl (H' := [_,_,_,_,_,_]) rfl ?_
  rintro _ _ _ ⟨r24, e24, p24, c24, p24_2, c24_2, rfl, hmr24, rfl, rfl⟩
  refine wl_nil ?_
  refine we_x [] [] rfl rfl ?_
  refine wx_pure hok 9 rfl rfl rfl (freshS_eq rfl) rfl rfl ?_
  refine wx_pure hok 10 rfl rfl rfl (freshS_eq rfl) rfl rfl ?_
  refine wx_pure hok 11 rfl rfl rfl (freshS_eq rfl) rfl rfl ?_
  exact wx_at (m0_2 (g21, p23, c23, p23_2, c23_2, r24, e24, p24, c24, p24_2, c24_2, g2) hmr24) rfl [0] [0] [] [] [2, 0, 1, 3, 4, 5, 6, 7] [1, 2, 0, 3, 4, 5, 6, 7] [2, 26, 25, 1, 0] rfl rfl rfl rfl rfl rfl rfl rfl
 refine wx_memo (σ := Nat × (Option Addr) × Nat × (Option Addr) × Nat) (fun (g21, p23, c23, p23_2, c23_2) => True) [7, 6, 5, 4, 3, 2, 1, 0] (fun (g21, p23, c23, p23_2, c23_2) => [(0, .blk g1 [.int .u8 1, .int .i64 1, .slice (some ⟨g13, 0, none⟩) 4 4, .int .u8 0, .int .u8 0, .int .i64 0, .string ⟨#[]⟩, .int .i64 0, .int .u8 0, .slice none 0 0] 33)]) (fun (g21, p23, c23, p23_2, c23_2) => []) (fun (g21, p23, c23, p23_2, c23_2) => [.own 27 3 vRep (.slice p23_2 ((newOf 1).vals.length) c23_2) ((newOf 1).vals), .own 4 1 bRep (.slice p23 ((newOf 1).has.length) c23) ((newOf 1).has), .blk g21 [.int .u8 1, .int .i64 1, .string ⟨#[]⟩, .int .u8 1, .int .i64 2, .string ⟨#[]⟩, .int .u8 1, .int .i64 2, .string ⟨#[]⟩, .int .u8 1, .int .i64 5, .string ⟨#[]⟩] 27, .blk g1 [.int .u8 1, .int .i64 1, .slice (some ⟨g13, 0, none⟩) 4 4, .int .u8 0, .int .u8 0, .int .i64 0, .string ⟨#[]⟩, .int .i64 0, .int .u8 0, .slice none 0 0] 33, .blk g13 [.int .u8 1, .int .i64 0, .int .u8 0, .int .i64 0, .string ⟨#[]⟩, .int .u8 2, .int .i64 0, .int .u8 0, .int .i64 0, .string ⟨#[]⟩, .int .u8 3, .int .i64 0, .int .u8 0, .int .i64 0, .string ⟨#[]⟩, .int .u8 4, .int .i64 0, .int .u8 1, .int .i64 5, .string ⟨#[]⟩] 48]) (fun (g21, p23, c23, p23_2, c23_2) => [(23, .agg #[.slice p23 ((newOf 1).has.length) c23, .slice p23_2 ((newOf 1).vals.length) c23_2]), (22, .agg #[.int .i64 0, .int .i64 1, .slice (some ⟨g21, 0, none⟩) 4 4]), (16, .agg #[.int .u8 1, .int .i64 1, .slice (some ⟨g13, 0, none⟩) 4 4, .int .u8 0, .int .u8 0, .int .i64 0, .string ⟨#[]⟩, .int .i64 0, .int .u8 0, .slice none 0 0]), (1, .pointer (some ⟨g1, 0, none⟩)), (0, .bool false)]) ?_ (fun m2_2 => ?_)
 ·
  rintro ⟨g21, p23, c23, p23_2, c23_2⟩ _
  try dsimp only
  refine wx_step2 hok 8 12 rfl rfl rfl rfl rfl rfl ?_ ?_
  ·
   refine wl_lend [] [0, 1, 2, 3, 4] [0, 1, 2, 4] rfl rfl rfl (freshS_eq rfl) rfl rfl fn_7 rfl (Match_s _ _ _ _ _ _ _ _ _ _ _ _ _ _ _ ⟨1, 1, [(⟨1, 0, (⟨0, 0, ⟨#[]⟩⟩ : V)⟩ : ArgD), (⟨2, 0, (⟨0, 0, ⟨#[]⟩⟩ : V)⟩ : ArgD), (⟨3, 0, (⟨0, 0, ⟨#[]⟩⟩ : V)⟩ : ArgD), (⟨4, 0, (⟨1, 5, ⟨#[]⟩⟩ : V)⟩ : ArgD)]⟩ ⟨0, 1, [(⟨1, 1, ⟨#[]⟩⟩ : V), (⟨1, 2, ⟨#[]⟩⟩ : V), (⟨1, 2, ⟨#[]⟩⟩ : V), (⟨1, 5, ⟨#[]⟩⟩ : V)]⟩ ((newOf 1).has) ((newOf 1).vals) (by simp [newOf]) (by simp [newOf])) (fun F w hφ hh => (ask_cons (blk_sli (hh _ (mem_at (k := 3) rfl)) (⟨[.int .u8 1, .int .i64 0, .int .u8 0, .int .i64 0, .string ⟨#[]⟩], [.int .u8 2, .int .i64 0, .int .u8 0, .int .i64 0, .string ⟨#[]⟩, .int .u8 3, .int .i64 0, .int .u8 0, .int .i64 0, .string ⟨#[]⟩, .int .u8 4, .int .i64 0, .int .u8 1, .int .i64 5, .string ⟨#[]⟩], rfl, rfl, ⟨rfl, by first | assumption | (simp [V.ok, ArgD.ok, FactD.ok, inB, inI]) | (unfold V.ok inB inI; simp; omega)⟩, ⟨[.int .u8 2, .int .i64 0, .int .u8 0, .int .i64 0, .string ⟨#[]⟩], [.int .u8 3, .int .i64 0, .int .u8 0, .int .i64 0, .string ⟨#[]⟩, .int .u8 4, .int .i64 0, .int .u8 1, .int .i64 5, .string ⟨#[]⟩], rfl, rfl, ⟨rfl, by first | assumption | (simp [V.ok, ArgD.ok, FactD.ok, inB, inI]) | (unfold V.ok inB inI; simp; omega)⟩, ⟨[.int .u8 3, .int .i64 0, .int .u8 0, .int .i64 0, .string ⟨#[]⟩], [.int .u8 4, .int .i64 0, .int .u8 1, .int .i64 5, .string ⟨#[]⟩], rfl, rfl, ⟨rfl, by first | assumption | (simp [V.ok, ArgD.ok, FactD.ok, inB, inI]) | (unfold V.ok inB inI; simp; omega)⟩, ⟨[.int .u8 4, .int .i64 0, .int .u8 1, .int .i64 5, .string ⟨#[]⟩], [], rfl, rfl, ⟨rfl, by first | assumption | (simp [V.ok, ArgD.ok, FactD.ok, inB, inI]) | (unfold V.ok inB inI; simp; omega)⟩, rfl⟩⟩⟩⟩) rfl (by decide)) (ask_cons (blk_sli (hh _ (mem_at (k := 2) rfl)) (⟨[.int .u8 1, .int .i64 1, .string ⟨#[]⟩], [.int .u8 1, .int .i64 2, .string ⟨#[]⟩, .int .u8 1, .int .i64 2, .string ⟨#[]⟩, .int .u8 1, .int .i64 5, .string ⟨#[]⟩], rfl, rfl, ⟨rfl, by first | assumption | (simp [V.ok, ArgD.ok, FactD.ok, inB, inI]) | (unfold V.ok inB inI; simp; omega)⟩, ⟨[.int .u8 1, .int .i64 2, .string ⟨#[]⟩], [.int .u8 1, .int .i64 2, .string ⟨#[]⟩, .int .u8 1, .int .i64 5, .string ⟨#[]⟩], rfl, rfl, ⟨rfl, by first | assumption | (simp [V.ok, ArgD.ok, FactD.ok, inB, inI]) | (unfold V.ok inB inI; simp; omega)⟩, ⟨[.int .u8 1, .int .i64 2, .string ⟨#[]⟩], [.int .u8 1, .int .i64 5, .string ⟨#[]⟩], rfl, rfl, ⟨rfl, by first | assumption | (simp [V.ok, ArgD.ok, FactD.ok, inB, inI]) | (unfold V.ok inB inI; simp; omega)⟩, ⟨[.int .u8 1, .int .i64 5, .string ⟨#[]⟩], [], rfl, rfl, ⟨rfl, by first | assumption | (simp [V.ok, ArgD.ok, FactD.ok, inB, inI]) | (unfold V.ok inB inI; simp; omega)⟩, rfl⟩⟩⟩⟩) rfl (by decide)) (ask_cons (own_sli (hh _ (mem_at (k := 1) rfl))) (ask_cons (own_sli (hh _ (mem_at (k := 0) rfl))) ask_nil))))) (fun _ _ _ hR => by rcases hR with ⟨r24, e24, p24, c24, p24_2, c24_2, rfl, hmr24, rfl, rfl⟩ <;> exact ⟨rfl, by simp [own_free, blk_free, vRep_free, bRep_free, iRep_free, aRep_free]⟩) rfl rfl (H' := [_,_,_,_,_]) rfl ?_
   rintro _ _ _ ⟨r24, e24, p24, c24, p24_2, c24_2, rfl, hmr24, rfl, rfl⟩
   refine wl_nil ?_
   refine we_x [] [] rfl rfl ?_
   refine wx_pure hok 9 rfl rfl rfl (freshS_eq rfl) rfl rfl ?_
   refine wx_pure hok 10 rfl rfl rfl (freshS_eq rfl) rfl rfl ?_
   refine wx_pure hok 11 rfl rfl rfl (freshS_eq rfl) rfl rfl ?_
   refine wx_step1 hok 12 rfl rfl rfl rfl ?_
   refine wl_alloc rfl rfl rfl (freshS_eq rfl) rfl tZ_41 rfl (fun g2 => ?_)
   refine wl_nil ?_
   refine we_x [] [6] rfl rfl ?_
   exact wx_at (m0_2 (g21, p23, c23, p23_2, c23_2, r24, e24, p24, c24, p24_2, c24_2, g2) hmr24) rfl [0] [0] [] [] [0, 1, 2, 3, 4, 5, 6, 7] [0, 1, 2, 3, 4, 5, 6, 7] [2, 26, 25, 1, 0] rfl rfl rfl rfl rfl rfl rfl rfl
  ·
   refine wl_alloc rfl rfl rfl (freshS_eq rfl) rfl tZ_41 rfl (fun g2 => ?_)
   refine wl_nil ?_
   refine we_x [] [4] rfl rfl ?_
   exact wx_at (m1_2 (g21, p23, c23, p23_2, c23_2, g2) trivial) rfl [0] [0] [] [] [0, 1, 2, 3, 4, 5] [0, 1, 2, 3, 4, 5] [2, 23, 22, 16, 1, 0] rfl rfl rfl rfl rfl rfl rfl rfl
 refine wx_memo (σ := Nat × Nat) (fun (g21, g2) => True) [12, 6, 5, 4, 3, 2, 1, 0] (fun (g21, g2) => [(0, .blk g1 [.int .u8 1, .int .i64 1, .slice (some ⟨g13, 0, none⟩) 4 4, .int .u8 0, .int .u8 0, .int .i64 0, .string ⟨#[]⟩, .int .i64 0, .int .u8 0, .slice none 0 0] 33)]) (fun (g21, g2) => []) (fun (g21, g2) => [.blk g2 [.slice none 0 0, .slice none 0 0] 41, .blk g21 [.int .u8 1, .int .i64 1, .string ⟨#[]⟩, .int .u8 1, .int .i64 2, .string ⟨#[]⟩, .int .u8 1, .int .i64 2, .string ⟨#[]⟩, .int .u8 1, .int .i64 5, .string ⟨#[]⟩] 27, .blk g1 [.int .u8 1, .int .i64 1, .slice (some ⟨g13, 0, none⟩) 4 4, .int .u8 0, .int .u8 0, .int .i64 0, .string ⟨#[]⟩, .int .i64 0, .int .u8 0, .slice none 0 0] 33, .blk g13 [.int .u8 1, .int .i64 0, .int .u8 0, .int .i64 0, .string ⟨#[]⟩, .int .u8 2, .int .i64 0, .int .u8 0, .int .i64 0, .string ⟨#[]⟩, .int .u8 3, .int .i64 0, .int .u8 0, .int .i64 0, .string ⟨#[]⟩, .int .u8 4, .int .i64 0, .int .u8 1, .int .i64 5, .string ⟨#[]⟩] 48]) (fun (g21, g2) => [(2, .pointer (some ⟨g2, 0, none⟩)), (22, .agg #[.int .i64 0, .int .i64 1, .slice (some ⟨g21, 0, none⟩) 4 4]), (16, .agg #[.int .u8 1, .int .i64 1, .slice (some ⟨g13, 0, none⟩) 4 4, .int .u8 0, .int .u8 0, .int .i64 0, .string ⟨#[]⟩, .int .i64 0, .int .u8 0, .slice none 0 0]), (1, .pointer (some ⟨g1, 0, none⟩)), (0, .bool false)]) ?_ (fun m3_2 => ?_)
 ·
  rintro ⟨g21, g2⟩ _
  try dsimp only
  refine wx_step1 hok 7 rfl rfl rfl rfl ?_
  refine wl_call [] [0, 1, 2, 3] rfl rfl rfl (freshS_eq rfl) rfl rfl fn_14 rfl (New_s _) (fun _ _ hφ => ask [] rfl hφ) rfl (H' := [_,_,_,_]) rfl ?_
  rintro _ _ _ ⟨p23, c23, p23_2, c23_2, rfl, rfl, rfl⟩
  refine wl_nil ?_
  refine we_x [] [4] rfl rfl ?_
  exact wx_at (m1_2 (g21, p23, c23, p23_2, c23_2, g2) trivial) rfl [0] [0] [] [] [2, 0, 1, 3, 4, 5] [1, 2, 0, 3, 4, 5] [2, 23, 22, 16, 1, 0] rfl rfl rfl rfl rfl rfl rfl rfl
 refine wx_memo (σ := (Option Addr) × Nat × (Option Addr) × Nat × Nat) (fun (p23, c23, p23_2, c23_2, g2) => True) [12, 7, 4, 3, 2, 1, 0] (fun (p23, c23, p23_2, c23_2, g2) => [(0, .blk g1 [.int .u8 1, .int .i64 1, .slice (some ⟨g13, 0, none⟩) 4 4, .int .u8 0, .int .u8 0, .int .i64 0, .string ⟨#[]⟩, .int .i64 0, .int .u8 0, .slice none 0 0] 33)]) (fun (p23, c23, p23_2, c23_2, g2) => []) (fun (p23, c23, p23_2, c23_2, g2) => [.blk g2 [.slice none 0 0, .slice none 0 0] 41, .own 27 3 vRep (.slice p23_2 ((newOf 1).vals.length) c23_2) ((newOf 1).vals), .own 4 1 bRep (.slice p23 ((newOf 1).has.length) c23) ((newOf 1).has), .blk g1 [.int .u8 1, .int .i64 1, .slice (some ⟨g13, 0, none⟩) 4 4, .int .u8 0, .int .u8 0, .int .i64 0, .string ⟨#[]⟩, .int .i64 0, .int .u8 0, .slice none 0 0] 33, .blk g13 [.int .u8 1, .int .i64 0, .int .u8 0, .int .i64 0, .string ⟨#[]⟩, .int .u8 2, .int .i64 0, .int .u8 0, .int .i64 0, .string ⟨#[]⟩, .int .u8 3, .int .i64 0, .int .u8 0, .int .i64 0, .string ⟨#[]⟩, .int .u8 4, .int .i64 0, .int .u8 1, .int .i64 5, .string ⟨#[]⟩] 48]) (fun (p23, c23, p23_2, c23_2, g2) => [(2, .pointer (some ⟨g2, 0, none⟩)), (23, .agg #[.slice p23 ((newOf 1).has.length) c23, .slice p23_2 ((newOf 1).vals.length) c23_2]), (20, .agg #[.int .u8 1, .int .i64 5, .string ⟨#[]⟩]), (19, .agg #[.int .u8 1, .int .i64 2, .string ⟨#[]⟩]), (18, .agg #[.int .u8 1, .int .i64 2, .string ⟨#[]⟩]), (17, .agg #[.int .u8 1, .int .i64 1, .string ⟨#[]⟩]), (16, .agg #[.int .u8 1, .int .i64 1, .slice (some ⟨g13, 0, none⟩) 4 4, .int .u8 0, .int .u8 0, .int .i64 0, .string ⟨#[]⟩, .int .i64 0, .int .u8 0, .slice none 0 0]), (1, .pointer (some ⟨g1, 0, none⟩)), (0, .bool false)]) ?_ (fun m4_2 => ?_)
 ·
  rintro ⟨p23, c23, p23_2, c23_2, g2⟩ _
  try dsimp only
  refine wx_step1 hok 5 rfl rfl rfl rfl ?_
  refine wl_buildSlice rfl rfl rfl (freshS_eq rfl) rfl tE_34 tS_27 tZ_27 rfl (zs := [.int .u8 0, .int .i64 0, .string ⟨#[]⟩, .int .u8 0, .int .i64 0, .string ⟨#[]⟩, .int .u8 0, .int .i64 0, .string ⟨#[]⟩, .int .u8 0, .int .i64 0, .string ⟨#[]⟩]) (by kernel_rfl) rfl (out := [_,_,_,_,_,_,_,_,_,_,_,_]) rfl (fun g21 => ?_)
  refine wl_nil ?_
  refine we_x [] [4] rfl rfl ?_
  refine wx_build hok 6 rfl rfl rfl (freshS_eq rfl) rfl rfl tZ_36 tP_36 rfl (out := [_,_,_]) rfl ?_
  exact wx_at (m1_2 (g21, p23, c23, p23_2, c23_2, g2) trivial) rfl [0] [0] [] [] [1, 2, 3, 0, 4, 5] [3, 0, 1, 2, 4, 5] [2, 23, 22, 16, 1, 0] rfl rfl rfl rfl rfl rfl rfl rfl
 refine wx_memo (σ := Nat) (fun g2 => True) [12, 4, 3, 2, 1, 0] (fun g2 => [(0, .blk g1 [.int .u8 1, .int .i64 1, .slice (some ⟨g13, 0, none⟩) 4 4, .int .u8 0, .int .u8 0, .int .i64 0, .string ⟨#[]⟩, .int .i64 0, .int .u8 0, .slice none 0 0] 33)]) (fun g2 => []) (fun g2 => [.blk g2 [.slice none 0 0, .slice none 0 0] 41, .blk g1 [.int .u8 1, .int .i64 1, .slice (some ⟨g13, 0, none⟩) 4 4, .int .u8 0, .int .u8 0, .int .i64 0, .string ⟨#[]⟩, .int .i64 0, .int .u8 0, .slice none 0 0] 33, .blk g13 [.int .u8 1, .int .i64 0, .int .u8 0, .int .i64 0, .string ⟨#[]⟩, .int .u8 2, .int .i64 0, .int .u8 0, .int .i64 0, .string ⟨#[]⟩, .int .u8 3, .int .i64 0, .int .u8 0, .int .i64 0, .string ⟨#[]⟩, .int .u8 4, .int .i64 0, .int .u8 1, .int .i64 5, .string ⟨#[]⟩] 48]) (fun g2 => [(2, .pointer (some ⟨g2, 0, none⟩)), (20, .agg #[.int .u8 1, .int .i64 5, .string ⟨#[]⟩]), (19, .agg #[.int .u8 1, .int .i64 2, .string ⟨#[]⟩]), (18, .agg #[.int .u8 1, .int .i64 2, .string ⟨#[]⟩]), (17, .agg #[.int .u8 1, .int .i64 1, .string ⟨#[]⟩]), (16, .agg #[.int .u8 1, .int .i64 1, .slice (some ⟨g13, 0, none⟩) 4 4, .int .u8 0, .int .u8 0, .int .i64 0, .string ⟨#[]⟩, .int .i64 0, .int .u8 0, .slice none 0 0]), (1, .pointer (some ⟨g1, 0, none⟩)), (0, .bool false)]) ?_ (fun m5_2 => ?_)
 ·
  rintro g2 _
  try dsimp only
  refine wx_step2 hok 5 7 rfl rfl rfl rfl rfl rfl ?_ ?_
  ·
   refine wl_buildSlice rfl rfl rfl (freshS_eq rfl) rfl tE_34 tS_27 tZ_27 rfl (zs := [.int .u8 0, .int .i64 0, .string ⟨#[]⟩, .int .u8 0, .int .i64 0, .string ⟨#[]⟩, .int .u8 0, .int .i64 0, .string ⟨#[]⟩, .int .u8 0, .int .i64 0, .string ⟨#[]⟩]) (by kernel_rfl) rfl (out := [_,_,_,_,_,_,_,_,_,_,_,_]) rfl (fun g21 => ?_)
   refine wl_nil ?_
   refine we_x [] [2] rfl rfl ?_
   refine wx_build hok 6 rfl rfl rfl (freshS_eq rfl) rfl rfl tZ_36 tP_36 rfl (out := [_,_,_]) rfl ?_
   exact wx_at (m3_2 (g21, g2) trivial) rfl [0] [0] [] [] [1, 0, 2, 3] [1, 0, 2, 3] [2, 22, 16, 1, 0] rfl rfl rfl rfl rfl rfl rfl rfl
  ·
   refine wl_call [] [0, 1, 2] rfl rfl rfl (freshS_eq rfl) rfl rfl fn_14 rfl (New_s _) (fun _ _ hφ => ask [] rfl hφ) rfl (H' := [_,_,_]) rfl ?_
   rintro _ _ _ ⟨p23, c23, p23_2, c23_2, rfl, rfl, rfl⟩
   refine wl_nil ?_
   refine we_x [] [3] rfl rfl ?_
   exact wx_at (m4_2 (p23, c23, p23_2, c23_2, g2) trivial) rfl [0] [0] [] [] [2, 0, 1, 3, 4] [1, 2, 0, 3, 4] [2, 23, 20, 19, 18, 17, 16, 1, 0] rfl rfl rfl rfl rfl rfl rfl rfl
 refine wx_memo (σ := Nat) (fun g2 => True) [12, 3, 2, 1, 0] (fun g2 => [(0, .blk g1 [.int .u8 1, .int .i64 1, .slice (some ⟨g13, 0, none⟩) 4 4, .int .u8 0, .int .u8 0, .int .i64 0, .string ⟨#[]⟩, .int .i64 0, .int .u8 0, .slice none 0 0] 33)]) (fun g2 => []) (fun g2 => [.blk g2 [.slice none 0 0, .slice none 0 0] 41, .blk g1 [.int .u8 1, .int .i64 1, .slice (some ⟨g13, 0, none⟩) 4 4, .int .u8 0, .int .u8 0, .int .i64 0, .string ⟨#[]⟩, .int .i64 0, .int .u8 0, .slice none 0 0] 33, .blk g13 [.int .u8 1, .int .i64 0, .int .u8 0, .int .i64 0, .string ⟨#[]⟩, .int .u8 2, .int .i64 0, .int .u8 0, .int .i64 0, .string ⟨#[]⟩, .int .u8 3, .int .i64 0, .int .u8 0, .int .i64 0, .string ⟨#[]⟩, .int .u8 4, .int .i64 0, .int .u8 1, .int .i64 5, .string ⟨#[]⟩] 48]) (fun g2 => [(2, .pointer (some ⟨g2, 0, none⟩)), (19, .agg #[.int .u8 1, .int .i64 2, .string ⟨#[]⟩]), (18, .agg #[.int .u8 1, .int .i64 2, .string ⟨#[]⟩]), (17, .agg #[.int .u8 1, .int .i64 1, .string ⟨#[]⟩]), (16, .agg #[.int .u8 1, .int .i64 1, .slice (some ⟨g13, 0, none⟩) 4 4, .int .u8 0, .int .u8 0, .int .i64 0, .string ⟨#[]⟩, .int .i64 0, .int .u8 0, .slice none 0 0]), (1, .pointer (some ⟨g1, 0, none⟩)), (0, .bool false)]) ?_ (fun m6_2 => ?_)
 ·
  rintro g2 _
  try dsimp only
  refine wx_step1 hok 4 rfl rfl rfl rfl ?_
  refine wl_call [] [0, 1, 2] rfl rfl rfl (freshS_eq rfl) rfl rfl fn_13 rfl (num_s _) (fun _ _ hφ => ask [] rfl hφ) rfl (H' := [_,_,_]) rfl ?_
  rintro _ _ _ ⟨rfl, rfl, rfl⟩
  refine wl_nil ?_
  refine we_x [] [1] rfl rfl ?_
  exact wx_at (m5_2 (g2) trivial) rfl [0] [0] [] [] [0, 1, 2] [0, 1, 2] [2, 20, 19, 18, 17, 16, 1, 0] rfl rfl rfl rfl rfl rfl rfl rfl
 refine wx_memo (σ := Nat) (fun g2 => True) [12, 2, 1, 0] (fun g2 => [(0, .blk g1 [.int .u8 1, .int .i64 1, .slice (some ⟨g13, 0, none⟩) 4 4, .int .u8 0, .int .u8 0, .int .i64 0, .string ⟨#[]⟩, .int .i64 0, .int .u8 0, .slice none 0 0] 33)]) (fun g2 => []) (fun g2 => [.blk g2 [.slice none 0 0, .slice none 0 0] 41, .blk g1 [.int .u8 1, .int .i64 1, .slice (some ⟨g13, 0, none⟩) 4 4, .int .u8 0, .int .u8 0, .int .i64 0, .string ⟨#[]⟩, .int .i64 0, .int .u8 0, .slice none 0 0] 33, .blk g13 [.int .u8 1, .int .i64 0, .int .u8 0, .int .i64 0, .string ⟨#[]⟩, .int .u8 2, .int .i64 0, .int .u8 0, .int .i64 0, .string ⟨#[]⟩, .int .u8 3, .int .i64 0, .int .u8 0, .int .i64 0, .string ⟨#[]⟩, .int .u8 4, .int .i64 0, .int .u8 1, .int .i64 5, .string ⟨#[]⟩] 48]) (fun g2 => [(2, .pointer (some ⟨g2, 0, none⟩)), (18, .agg #[.int .u8 1, .int .i64 2, .string ⟨#[]⟩]), (17, .agg #[.int .u8 1, .int .i64 1, .string ⟨#[]⟩]), (16, .agg #[.int .u8 1, .int .i64 1, .slice (some ⟨g13, 0, none⟩) 4 4, .int .u8 0, .int .u8 0, .int .i64 0, .string ⟨#[]⟩, .int .i64 0, .int .u8 0, .slice none 0 0]), (1, .pointer (some ⟨g1, 0, none⟩)), (0, .bool false)]) ?_ (fun m7_2 => ?_)
 ·
  rintro g2 _
  try dsimp only
  refine wx_step1 hok 3 rfl rfl rfl rfl ?_
  refine wl_call [] [0, 1, 2] rfl rfl rfl (freshS_eq rfl) rfl rfl fn_13 rfl (num_s _) (fun _ _ hφ => ask [] rfl hφ) rfl (H' := [_,_,_]) rfl ?_
  rintro _ _ _ ⟨rfl, rfl, rfl⟩
  refine wl_nil ?_
  refine we_x [] [1] rfl rfl ?_
  exact wx_at (m6_2 (g2) trivial) rfl [0] [0] [] [] [0, 1, 2] [0, 1, 2] [2, 19, 18, 17, 16, 1, 0] rfl rfl rfl rfl rfl rfl rfl rfl
 refine wx_memo (σ := Nat) (fun g2 => True) [12, 1, 0] (fun g2 => [(0, .blk g1 [.int .u8 1, .int .i64 1, .slice (some ⟨g13, 0, none⟩) 4 4, .int .u8 0, .int .u8 0, .int .i64 0, .string ⟨#[]⟩, .int .i64 0, .int .u8 0, .slice none 0 0] 33)]) (fun g2 => []) (fun g2 => [.blk g2 [.slice none 0 0, .slice none 0 0] 41, .blk g1 [.int .u8 1, .int .i64 1, .slice (some ⟨g13, 0, none⟩) 4 4, .int .u8 0, .int .u8 0, .int .i64 0, .string ⟨#[]⟩, .int .i64 0, .int .u8 0, .slice none 0 0] 33, .blk g13 [.int .u8 1, .int .i64 0, .int .u8 0, .int .i64 0, .string ⟨#[]⟩, .int .u8 2, .int .i64 0, .int .u8 0, .int .i64 0, .string ⟨#[]⟩, .int .u8 3, .int .i64 0, .int .u8 0, .int .i64 0, .string ⟨#[]⟩, .int .u8 4, .int .i64 0, .int .u8 1, .int .i64 5, .string ⟨#[]⟩] 48]) (fun g2 => [(2, .pointer (some ⟨g2, 0, none⟩)), (17, .agg #[.int .u8 1, .int .i64 1, .string ⟨#[]⟩]), (16, .agg #[.int .u8 1, .int .i64 1, .slice (some ⟨g13, 0, none⟩) 4 4, .int .u8 0, .int .u8 0, .int .i64 0, .string ⟨#[]⟩, .int .i64 0, .int .u8 0, .slice none 0 0]), (1, .pointer (some ⟨g1, 0, none⟩)), (0, .bool false)]) ?_ (fun m8_2 => ?_)
 ·
  rintro g2 _
  try dsimp only
  refine wx_step1 hok 2 rfl rfl rfl rfl ?_
  refine wl_call [] [0, 1, 2] rfl rfl rfl (freshS_eq rfl) rfl rfl fn_13 rfl (num_s _) (fun _ _ hφ => ask [] rfl hφ) rfl (H' := [_,_,_]) rfl ?_
  rintro _ _ _ ⟨rfl, rfl, rfl⟩
  refine wl_nil ?_
  refine we_x [] [1] rfl rfl ?_
  exact wx_at (m7_2 (g2) trivial) rfl [0] [0] [] [] [0, 1, 2] [0, 1, 2] [2, 18, 17, 16, 1, 0] rfl rfl rfl rfl rfl rfl rfl rfl
 refine wx_loadH hok 0 0 0 rfl rfl rfl (freshS_eq rfl) rfl rfl rfl rfl (cs := [_,_,_,_,_,_,_,_,_,_]) rfl tS_33 tA_33 rfl rfl ?_
 refine wx_step2 hok 1 12 rfl rfl rfl rfl rfl rfl ?_ ?_
 ·
  refine wl_call [] [0, 1] rfl rfl rfl (freshS_eq rfl) rfl rfl fn_13 rfl (num_s _) (fun _ _ hφ => ask [] rfl hφ) rfl (H' := [_,_]) rfl ?_
  rintro _ _ _ ⟨rfl, rfl, rfl⟩
  refine wl_nil ?_
  refine we_x [] [0] rfl rfl ?_
  refine wx_step2 hok 2 12 rfl rfl rfl rfl rfl rfl ?_ ?_
  ·
   refine wl_call [] [0, 1] rfl rfl rfl (freshS_eq rfl) rfl rfl fn_13 rfl (num_s _) (fun _ _ hφ => ask [] rfl hφ) rfl (H' := [_,_]) rfl ?_
   rintro _ _ _ ⟨rfl, rfl, rfl⟩
   refine wl_nil ?_
   refine we_x [] [0] rfl rfl ?_
   refine wx_step2 hok 3 12 rfl rfl rfl rfl rfl rfl ?_ ?_
   ·
    refine wl_call [] [0, 1] rfl rfl rfl (freshS_eq rfl) rfl rfl fn_13 rfl (num_s _) (fun _ _ hφ => ask [] rfl hφ) rfl (H' := [_,_]) rfl ?_
    rintro _ _ _ ⟨rfl, rfl, rfl⟩
    refine wl_nil ?_
    refine we_x [] [0] rfl rfl ?_
    refine wx_step2 hok 4 12 rfl rfl rfl rfl rfl rfl ?_ ?_
    ·
     refine wl_call [] [0, 1] rfl rfl rfl (freshS_eq rfl) rfl rfl fn_13 rfl (num_s _) (fun _ _ hφ => ask [] rfl hφ) rfl (H' := [_,_]) rfl ?_
     rintro _ _ _ ⟨rfl, rfl, rfl⟩
     refine wl_nil ?_
     refine we_x [] [0] rfl rfl ?_
     refine wx_step3 hok 5 7 12 rfl rfl rfl rfl rfl rfl rfl rfl ?_ ?_ ?_
     ·
      refine wl_buildSlice rfl rfl rfl (freshS_eq rfl) rfl tE_34 tS_27 tZ_27 rfl (zs := [.int .u8 0, .int .i64 0, .string ⟨#[]⟩, .int .u8 0, .int .i64 0, .string ⟨#[]⟩, .int .u8 0, .int .i64 0, .string ⟨#[]⟩, .int .u8 0, .int .i64 0, .string ⟨#[]⟩]) (by kernel_rfl) rfl (out := [_,_,_,_,_,_,_,_,_,_,_,_]) rfl (fun g21 => ?_)
      refine wl_nil ?_
      refine we_x [] [1] rfl rfl ?_
      refine wx_build hok 6 rfl rfl rfl (freshS_eq rfl) rfl rfl tZ_36 tP_36 rfl (out := [_,_,_]) rfl ?_
      refine wx_step2 hok 7 12 rfl rfl rfl rfl rfl rfl ?_ ?_
      ·
       refine wl_call [] [0, 1, 2] rfl rfl rfl (freshS_eq rfl) rfl rfl fn_14 rfl (New_s _) (fun _ _ hφ => ask [] rfl hφ) rfl (H' := [_,_,_]) rfl ?_
       rintro _ _ _ ⟨p23, c23, p23_2, c23_2, rfl, rfl, rfl⟩
       refine wl_nil ?_
       refine we_x [] [3] rfl rfl ?_
       exact wx_at (m2_2 (g21, p23, c23, p23_2, c23_2) trivial) rfl [0] [0] [] [] [0, 1, 2, 3, 4] [0, 1, 2, 3, 4] [23, 22, 16, 1, 0] rfl rfl rfl rfl rfl rfl rfl rfl
      ·
       refine wl_alloc rfl rfl rfl (freshS_eq rfl) rfl tZ_41 rfl (fun g2 => ?_)
       refine wl_nil ?_
       refine we_x [] [2] rfl rfl ?_
       exact wx_at (m3_2 (g21, g2) trivial) rfl [0] [0] [] [] [0, 1, 2, 3] [0, 1, 2, 3] [2, 22, 16, 1, 0] rfl rfl rfl rfl rfl rfl rfl rfl
     ·
      refine wl_call [] [0, 1] rfl rfl rfl (freshS_eq rfl) rfl rfl fn_14 rfl (New_s _) (fun _ _ hφ => ask [] rfl hφ) rfl (H' := [_,_]) rfl ?_
      rintro _ _ _ ⟨p23, c23, p23_2, c23_2, rfl, rfl, rfl⟩
      refine wl_nil ?_
      refine we_x [] [2] rfl rfl ?_
      refine wx_step2 hok 5 12 rfl rfl rfl rfl rfl rfl ?_ ?_
      ·
       refine wl_buildSlice rfl rfl rfl (freshS_eq rfl) rfl tE_34 tS_27 tZ_27 rfl (zs := [.int .u8 0, .int .i64 0, .string ⟨#[]⟩, .int .u8 0, .int .i64 0, .string ⟨#[]⟩, .int .u8 0, .int .i64 0, .string ⟨#[]⟩, .int .u8 0, .int .i64 0, .string ⟨#[]⟩]) (by kernel_rfl) rfl (out := [_,_,_,_,_,_,_,_,_,_,_,_]) rfl (fun g21 => ?_)
       refine wl_nil ?_
       refine we_x [] [3] rfl rfl ?_
       refine wx_build hok 6 rfl rfl rfl (freshS_eq rfl) rfl rfl tZ_36 tP_36 rfl (out := [_,_,_]) rfl ?_
       exact wx_at (m2_2 (g21, p23, c23, p23_2, c23_2) trivial) rfl [0] [0] [] [] [1, 2, 0, 3, 4] [2, 0, 1, 3, 4] [23, 22, 16, 1, 0] rfl rfl rfl rfl rfl rfl rfl rfl
      ·
       refine wl_alloc rfl rfl rfl (freshS_eq rfl) rfl tZ_41 rfl (fun g2 => ?_)
       refine wl_nil ?_
       refine we_x [] [3] rfl rfl ?_
       exact wx_at (m4_2 (p23, c23, p23_2, c23_2, g2) trivial) rfl [0] [0] [] [] [0, 1, 2, 3, 4] [0, 1, 2, 3, 4] [2, 23, 20, 19, 18, 17, 16, 1, 0] rfl rfl rfl rfl rfl rfl rfl rfl
     ·
      refine wl_alloc rfl rfl rfl (freshS_eq rfl) rfl tZ_41 rfl (fun g2 => ?_)
      refine wl_nil ?_
      refine we_x [] [1] rfl rfl ?_
      exact wx_at (m5_2 (g2) trivial) rfl [0] [0] [] [] [0, 1, 2] [0, 1, 2] [2, 20, 19, 18, 17, 16, 1, 0] rfl rfl rfl rfl rfl rfl rfl rfl
    ·
     refine wl_alloc rfl rfl rfl (freshS_eq rfl) rfl tZ_41 rfl (fun g2 => ?_)
     refine wl_nil ?_
     refine we_x [] [1] rfl rfl ?_
     exact wx_at (m6_2 (g2) trivial) rfl [0] [0] [] [] [0, 1, 2] [0, 1, 2] [2, 19, 18, 17, 16, 1, 0] rfl rfl rfl rfl rfl rfl rfl rfl
   ·
    refine wl_alloc rfl rfl rfl (freshS_eq rfl) rfl tZ_41 rfl (fun g2 => ?_)
    refine wl_nil ?_
    refine we_x [] [1] rfl rfl ?_
    exact wx_at (m7_2 (g2) trivial) rfl [0] [0] [] [] [0, 1, 2] [0, 1, 2] [2, 18, 17, 16, 1, 0] rfl rfl rfl rfl rfl rfl rfl rfl
  ·
   refine wl_alloc rfl rfl rfl (freshS_eq rfl) rfl tZ_41 rfl (fun g2 => ?_)
   refine wl_nil ?_
   refine we_x [] [1] rfl rfl ?_
   exact wx_at (m8_2 (g2) trivial) rfl [0] [0] [] [] [0, 1, 2] [0, 1, 2] [2, 17, 16, 1, 0] rfl rfl rfl rfl rfl rfl rfl rfl
 ·
  refine wl_alloc rfl rfl rfl (freshS_eq rfl) rfl tZ_41 rfl (fun g2 => ?_)
  refine wl_nil ?_
  refine we_x [] [1] rfl rfl ?_
  refine wx_step1 hok 1 rfl rfl rfl rfl ?_
  refine wl_call [] [0, 1, 2] rfl rfl rfl (freshS_eq rfl) rfl rfl fn_13 rfl (num_s _) (fun _ _ hφ => ask [] rfl hφ) rfl (H' := [_,_,_]) rfl ?_
  rintro _ _ _ ⟨rfl, rfl, rfl⟩
  refine wl_nil ?_
  refine we_x [] [1] rfl rfl ?_
  exact wx_at (m8_2 (g2) trivial) rfl [0] [0] [] [] [0, 1, 2] [0, 1, 2] [2, 17, 16, 1, 0] rfl rfl rfl rfl rfl rfl rfl rfl

end Go.Proofs.Ytffcijddfhhbdaa
