/- Walks, printed by a program out of the loaded code. -/
import Derived.Test.YtdkmibdiokmfbaaDoorXW2
namespace Go.Proofs.YtdkmibdiokmfbaaDoor
open Go.RowKit
set_option maxRecDepth 100000 in
set_option maxHeartbeats 4000000 in
theorem w_ropewalklaw09_awake_s (N : Nat)  (o0 : Bool) (hm : m_ropewalklaw09_awake N = some o0) : Spec Tryd.prog 6 [] [] [] (fun v Φr Hr => v = .bool o0 ∧ Φr = [] ∧ Hr = []) := by
 unfold m_ropewalklaw09_awake at hm
 refine spec_of Tryd.func6 rfl Tryd.ntmps6 rfl (S := []) rfl (fun C => ?_)
 refine wc_seq ?_
 refine wc_region ?_
 refine wl_pure rfl rfl rfl (freshS_eq rfl) rfl ?_
 refine wl_nil ?_
 refine we_then ?_
 refine wc_keep [] (S' := []) rfl ?_
 refine wc_seq ?_
 refine wc_region ?_
 refine wl_build rfl rfl rfl (freshS_eq rfl) rfl tZ_25 tP_25 rfl (out := [_,_,_]) rfl ?_
 refine wl_buildSlice rfl rfl rfl (freshS_eq rfl) rfl tE_30 tS_25 tZ_25 rfl (zs := [.int .u8 0, .int .i64 0, .string ((⟨#[]⟩ : ByteArray))]) (by kernel_rfl) rfl (out := [_,_,_]) rfl (fun g10 => ?_)
 refine wl_pure rfl rfl rfl (freshS_eq rfl) rfl ?_
 refine wl_nil ?_
 refine we_then ?_
 refine wc_keep [1] (S' := [_]) rfl ?_
 refine wc_seq ?_
 refine wc_region ?_
 refine wl_build rfl rfl rfl (freshS_eq rfl) rfl tZ_29 tP_29 rfl (out := [_,_,_,_,_,_,_]) rfl ?_
 refine wl_alloc rfl rfl rfl (freshS_eq rfl) rfl tZ_29 rfl (fun g2 => ?_)
 refine wl_store 0 0 rfl rfl rfl rfl rfl rfl rfl tS_29 rfl rfl rfl (all' := [_,_,_,_,_,_,_]) rfl (H' := [_,_]) rfl ?_
 refine wl_nil ?_
 refine we_then ?_
 refine wc_keep [2, 1] (S' := [_,_]) rfl ?_
 refine wc_seq ?_
 obtain ⟨_, hc13, hm⟩ := bindO_some hm
 try dsimp only at hm
 obtain ⟨_, hc15, hm⟩ := bindO_some hm
 try dsimp only at hm
 obtain ⟨_, hc16, hm⟩ := bindO_some hm
 try dsimp only at hm
 obtain ⟨_, hc17, hm⟩ := bindO_some hm
 try dsimp only at hm
 obtain ⟨⟨v19_0, v19_1, v19_2, v19_3⟩, hc19, hm⟩ := bindO_some hm
 try dsimp only at hm
 refine wc_cut (σ := Nat) (fun _ => True) (fun w_1_3_g => [(4, .int .i64 ((v19_3 : Nat) : Int)), (3, .pointer (some ⟨w_1_3_g, 0, none⟩)), (1, .slice (some ⟨g10, 0, none⟩) ([(⟨1, 20, (⟨#[]⟩ : ByteArray)⟩ : V)].length) 1)]) (fun w_1_3_g => []) (fun w_1_3_g => [.blk w_1_3_g [.int .u8 v19_0, .int .i64 v19_1, .string v19_2] 25, .own 25 3 R_V (.slice (some ⟨g10, 0, none⟩) ([(⟨1, 20, (⟨#[]⟩ : ByteArray)⟩ : V)].length) 1) ([(⟨1, 20, (⟨#[]⟩ : ByteArray)⟩ : V)])]) ?_ ?_
 ·
  refine wc_draw [1, 5, 7, 8, 9] rfl rfl (fun hok => ?_)
  refine wx_loadH hok 1 0 0 rfl rfl rfl (freshS_eq rfl) rfl rfl rfl rfl (cs := [_,_,_,_,_,_,_]) rfl tS_29 tA_29 rfl rfl ?_
  refine wx_pure hok 5 rfl rfl rfl (freshS_eq rfl) rfl rfl ?_
  refine wx_step2 hok 0 10 rfl rfl rfl rfl rfl rfl ?_ ?_
  ·
   refine wl_call [] [0, 1] rfl rfl rfl (freshS_eq rfl) rfl rfl fn_21 rfl (w_ropewalklaw09_number_s N 2 hc13) (fun _ _ hφ => ask [] rfl hφ) rfl (H' := [_,_]) rfl ?_
   rintro _ _ _ ⟨rfl, rfl, rfl⟩
   refine wl_nil ?_
   refine we_x [] [0] rfl rfl ?_
   refine wx_step2 hok 2 10 rfl rfl rfl rfl rfl rfl ?_ ?_
   ·
    refine wl_fact (.sli 7 R_Api_ExprD none 0 ([] : List Api_ExprD)) (fun _ _ _ => sli_none) ?_
    refine wl_fact (.sli 7 R_Api_ExprD none 0 ([] : List Api_ExprD)) (fun _ _ _ => sli_none) ?_
    refine wl_call [] [0, 1] rfl rfl rfl (freshS_eq rfl) rfl rfl fn_20 rfl (w_ropewalklaw09_op_s N 3 1 1 2 (⟨#[]⟩ : ByteArray) 0 0 none 0 ([] : List Api_ExprD) 2 0 0 (⟨#[]⟩ : ByteArray) 0 0 none 0 ([] : List Api_ExprD) hc15) (fun _ _ hφ => ask [1, 0] rfl hφ) rfl (H' := [_,_]) rfl ?_
    rintro _ _ _ ⟨c15_0, rfl, rfl, rfl⟩
    refine wl_nil ?_
    refine we_x [] [] rfl rfl ?_
    refine wx_step2 hok 3 10 rfl rfl rfl rfl rfl rfl ?_ ?_
    ·
     refine wl_call [] [0, 1, 2] rfl rfl rfl (freshS_eq rfl) rfl rfl fn_21 rfl (w_ropewalklaw09_number_s N 1 hc16) (fun _ _ hφ => ask [] rfl hφ) rfl (H' := [_,_,_]) rfl ?_
     rintro _ _ _ ⟨rfl, rfl, rfl⟩
     refine wl_nil ?_
     refine we_x [0, 1, 1, 0] [1] rfl rfl ?_
     refine wx_step2 hok 4 10 rfl rfl rfl rfl rfl rfl ?_ ?_
     ·
      refine wl_row (sz := 7) (m := 2) R_Api_ExprD ([(⟨1, (⟨1, 2, (⟨#[]⟩ : ByteArray)⟩ : V), 0, 0, ([] : List Api_ExprD)⟩ : Api_ExprD), (⟨2, (⟨0, 0, (⟨#[]⟩ : ByteArray)⟩ : V), 0, 0, ([] : List Api_ExprD)⟩ : Api_ExprD)]) 0 rfl (fun F w hφ => ⟨[.int .u8 1, .int .u8 1, .int .i64 2, .string ((⟨#[]⟩ : ByteArray)), .int .i64 0, .int .u8 0, .slice none (([] : List Api_ExprD).length) 0], [.int .u8 2, .int .u8 0, .int .i64 0, .string ((⟨#[]⟩ : ByteArray)), .int .i64 0, .int .u8 0, .slice none (([] : List Api_ExprD).length) 0], rfl, rfl, (rec_shut (none, 0) rfl (ask_cons (hφ _ (mem_at (k := 0) rfl)) ask_nil)), ⟨[.int .u8 2, .int .u8 0, .int .i64 0, .string ((⟨#[]⟩ : ByteArray)), .int .i64 0, .int .u8 0, .slice none (([] : List Api_ExprD).length) 0], [], rfl, rfl, (rec_shut (none, 0) rfl (ask_cons (hφ _ (mem_at (k := 1) rfl)) ask_nil)), rfl⟩⟩) rfl (by decide) (H' := [_,_,_]) rfl ?_
      refine wl_fact (.sli 7 R_Api_ExprD none 0 ([] : List Api_ExprD)) (fun _ _ _ => sli_none) ?_
      refine wl_call [0] [1, 2] rfl rfl rfl (freshS_eq rfl) rfl rfl fn_20 rfl (w_ropewalklaw09_op_v2_s N 1 3 0 0 (⟨#[]⟩ : ByteArray) 0 3 (some ⟨c15_0, 0, none⟩) ([(⟨1, (⟨1, 2, (⟨#[]⟩ : ByteArray)⟩ : V), 0, 0, ([] : List Api_ExprD)⟩ : Api_ExprD), (⟨2, (⟨0, 0, (⟨#[]⟩ : ByteArray)⟩ : V), 0, 0, ([] : List Api_ExprD)⟩ : Api_ExprD)].length) 2 [(⟨1, (⟨1, 2, (⟨#[]⟩ : ByteArray)⟩ : V), 0, 0, ([] : List Api_ExprD)⟩ : Api_ExprD), (⟨2, (⟨0, 0, (⟨#[]⟩ : ByteArray)⟩ : V), 0, 0, ([] : List Api_ExprD)⟩ : Api_ExprD)] 1 1 1 (⟨#[]⟩ : ByteArray) 0 0 none 0 ([] : List Api_ExprD) hc17) (fun _ _ hφ => ask [0] rfl hφ) rfl (H' := [_,_]) rfl ?_
      rintro _ _ _ ⟨c17_0, rfl, rfl, rfl⟩
      refine wl_nil ?_
      refine we_x [2, 3, 3, 2] [2] rfl rfl ?_
      refine wx_step2 hok 6 10 rfl rfl rfl rfl rfl rfl ?_ ?_
      ·
       refine wl_freeze 1 rfl (H' := [_,_,_]) rfl ?_
       refine wl_fact (.sli 7 R_Api_ExprD (some ⟨c15_0, 0, none⟩) 2 ([(⟨1, (⟨1, 2, (⟨#[]⟩ : ByteArray)⟩ : V), 0, 0, ([] : List Api_ExprD)⟩ : Api_ExprD), (⟨2, (⟨0, 0, (⟨#[]⟩ : ByteArray)⟩ : V), 0, 0, ([] : List Api_ExprD)⟩ : Api_ExprD)])) (fun F w hφ => own_sli (hφ _ (mem_at (k := 0) rfl))) ?_
       refine wl_row (sz := 7) (m := 2) R_Api_ExprD ([(⟨3, (⟨0, 0, (⟨#[]⟩ : ByteArray)⟩ : V), 0, 3, [(⟨1, (⟨1, 2, (⟨#[]⟩ : ByteArray)⟩ : V), 0, 0, ([] : List Api_ExprD)⟩ : Api_ExprD), (⟨2, (⟨0, 0, (⟨#[]⟩ : ByteArray)⟩ : V), 0, 0, ([] : List Api_ExprD)⟩ : Api_ExprD)]⟩ : Api_ExprD), (⟨1, (⟨1, 1, (⟨#[]⟩ : ByteArray)⟩ : V), 0, 0, ([] : List Api_ExprD)⟩ : Api_ExprD)]) 0 rfl (fun F w hφ => ⟨[.int .u8 3, .int .u8 0, .int .i64 0, .string ((⟨#[]⟩ : ByteArray)), .int .i64 0, .int .u8 3, .slice (some ⟨c15_0, 0, none⟩) ([(⟨1, (⟨1, 2, (⟨#[]⟩ : ByteArray)⟩ : V), 0, 0, ([] : List Api_ExprD)⟩ : Api_ExprD), (⟨2, (⟨0, 0, (⟨#[]⟩ : ByteArray)⟩ : V), 0, 0, ([] : List Api_ExprD)⟩ : Api_ExprD)].length) 2], [.int .u8 1, .int .u8 1, .int .i64 1, .string ((⟨#[]⟩ : ByteArray)), .int .i64 0, .int .u8 0, .slice none (([] : List Api_ExprD).length) 0], rfl, rfl, (rec_shut (some ⟨c15_0, 0, none⟩, 2) rfl (ask_cons (hφ _ (mem_at (k := 0) rfl)) ask_nil)), ⟨[.int .u8 1, .int .u8 1, .int .i64 1, .string ((⟨#[]⟩ : ByteArray)), .int .i64 0, .int .u8 0, .slice none (([] : List Api_ExprD).length) 0], [], rfl, rfl, (rec_shut (none, 0) rfl (ask_cons (hφ _ (mem_at (k := 2) rfl)) ask_nil)), rfl⟩⟩) rfl (by decide) (H' := [_,_,_]) rfl ?_
       refine wl_row (sz := 3) (m := 1) R_V ([(⟨1, 20, (⟨#[]⟩ : ByteArray)⟩ : V)]) 2 rfl (fun F w hφ => ⟨[.int .u8 1, .int .i64 20, .string ((⟨#[]⟩ : ByteArray))], [], rfl, rfl, ⟨(), rfl, ask_nil⟩, rfl⟩) rfl (by decide) (H' := [_,_,_]) rfl ?_
       refine wl_lend [] [0, 1, 2] [0, 2] rfl rfl rfl (freshS_eq rfl) rfl rfl fn_10 rfl (w_expr_Eval_s N 3 0 0 (⟨#[]⟩ : ByteArray) 0 1 (some ⟨c17_0, 0, none⟩) 2 [(⟨3, (⟨0, 0, (⟨#[]⟩ : ByteArray)⟩ : V), 0, 3, [(⟨1, (⟨1, 2, (⟨#[]⟩ : ByteArray)⟩ : V), 0, 0, ([] : List Api_ExprD)⟩ : Api_ExprD), (⟨2, (⟨0, 0, (⟨#[]⟩ : ByteArray)⟩ : V), 0, 0, ([] : List Api_ExprD)⟩ : Api_ExprD)]⟩ : Api_ExprD), (⟨1, (⟨1, 1, (⟨#[]⟩ : ByteArray)⟩ : V), 0, 0, ([] : List Api_ExprD)⟩ : Api_ExprD)] (some ⟨g10, 0, none⟩) 1 [(⟨1, 20, (⟨#[]⟩ : ByteArray)⟩ : V)] _ _ _ _ hc19) (fun F w hφ hh => (ask_cons (own_sli (hh _ (mem_at (k := 0) rfl))) (ask_cons (own_sli (hh _ (mem_at (k := 1) rfl))) ask_nil))) (fun _ _ _ hR => by obtain ⟨rfl, rfl, rfl⟩ := hR; exact ⟨rfl, (fun _ h => free_nil h)⟩) rfl rfl (H' := [_,_,_]) rfl ?_
       rintro _ _ _ ⟨rfl, rfl, rfl⟩
       refine wl_nil ?_
       refine we_x [2, 2, 4, 5, 5, 4] [1] rfl rfl ?_
       refine wx_pure hok 7 rfl rfl rfl (freshS_eq rfl) rfl rfl ?_
       refine wx_pure hok 8 rfl rfl rfl (freshS_eq rfl) rfl rfl ?_
       refine wx_pure hok 9 rfl rfl rfl (freshS_eq rfl) rfl rfl ?_
       refine wx_step1 hok 10 rfl rfl rfl rfl ?_
       refine wl_alloc rfl rfl rfl (freshS_eq rfl) rfl tZ_25 rfl (fun g3 => ?_)
       refine wl_nil ?_
       refine we_x [0, 1, 2, 2, 4, 5, 5, 4] [2] rfl rfl ?_
       refine wx_step1 hok 11 rfl rfl rfl rfl ?_
       refine wl_store 0 0 rfl rfl rfl rfl rfl rfl rfl tS_25 rfl rfl rfl (all' := [_,_,_]) rfl (H' := [_,_,_,_]) rfl ?_
       refine wl_nil ?_
       refine we_x [0, 1, 2, 2, 4, 5, 5, 4] [] rfl rfl ?_
       refine wx_step1 hok 12 rfl rfl rfl rfl ?_
       refine wl_pure rfl rfl rfl (freshS_eq rfl) rfl ?_
       refine wl_nil ?_
       refine we_x [0, 1, 2, 2, 4, 5, 5, 4] [] rfl rfl ?_
       refine wx_done hok rfl ?_
       refine we_pick [0, 3] rfl (H' := [_,_]) rfl ?_
       refine we_join g3 trivial [4, 3, 1] rfl (fun _ _ hφ => ask [] rfl hφ) rfl
      ·
       refine wl_alloc rfl rfl rfl (freshS_eq rfl) rfl tZ_25 rfl (fun g3 => ?_)
       refine wl_nil ?_
       refine we_x [0, 0, 2, 3, 3, 2] [3] rfl rfl ?_
       refine wx_step1 hok 6 rfl rfl rfl rfl ?_
       refine wl_freeze 2 rfl (H' := [_,_,_,_]) rfl ?_
       refine wl_fact (.sli 7 R_Api_ExprD (some ⟨c15_0, 0, none⟩) 2 ([(⟨1, (⟨1, 2, (⟨#[]⟩ : ByteArray)⟩ : V), 0, 0, ([] : List Api_ExprD)⟩ : Api_ExprD), (⟨2, (⟨0, 0, (⟨#[]⟩ : ByteArray)⟩ : V), 0, 0, ([] : List Api_ExprD)⟩ : Api_ExprD)])) (fun F w hφ => own_sli (hφ _ (mem_at (k := 0) rfl))) ?_
       refine wl_row (sz := 7) (m := 2) R_Api_ExprD ([(⟨3, (⟨0, 0, (⟨#[]⟩ : ByteArray)⟩ : V), 0, 3, [(⟨1, (⟨1, 2, (⟨#[]⟩ : ByteArray)⟩ : V), 0, 0, ([] : List Api_ExprD)⟩ : Api_ExprD), (⟨2, (⟨0, 0, (⟨#[]⟩ : ByteArray)⟩ : V), 0, 0, ([] : List Api_ExprD)⟩ : Api_ExprD)]⟩ : Api_ExprD), (⟨1, (⟨1, 1, (⟨#[]⟩ : ByteArray)⟩ : V), 0, 0, ([] : List Api_ExprD)⟩ : Api_ExprD)]) 1 rfl (fun F w hφ => ⟨[.int .u8 3, .int .u8 0, .int .i64 0, .string ((⟨#[]⟩ : ByteArray)), .int .i64 0, .int .u8 3, .slice (some ⟨c15_0, 0, none⟩) ([(⟨1, (⟨1, 2, (⟨#[]⟩ : ByteArray)⟩ : V), 0, 0, ([] : List Api_ExprD)⟩ : Api_ExprD), (⟨2, (⟨0, 0, (⟨#[]⟩ : ByteArray)⟩ : V), 0, 0, ([] : List Api_ExprD)⟩ : Api_ExprD)].length) 2], [.int .u8 1, .int .u8 1, .int .i64 1, .string ((⟨#[]⟩ : ByteArray)), .int .i64 0, .int .u8 0, .slice none (([] : List Api_ExprD).length) 0], rfl, rfl, (rec_shut (some ⟨c15_0, 0, none⟩, 2) rfl (ask_cons (hφ _ (mem_at (k := 0) rfl)) ask_nil)), ⟨[.int .u8 1, .int .u8 1, .int .i64 1, .string ((⟨#[]⟩ : ByteArray)), .int .i64 0, .int .u8 0, .slice none (([] : List Api_ExprD).length) 0], [], rfl, rfl, (rec_shut (none, 0) rfl (ask_cons (hφ _ (mem_at (k := 2) rfl)) ask_nil)), rfl⟩⟩) rfl (by decide) (H' := [_,_,_,_]) rfl ?_
       refine wl_row (sz := 3) (m := 1) R_V ([(⟨1, 20, (⟨#[]⟩ : ByteArray)⟩ : V)]) 3 rfl (fun F w hφ => ⟨[.int .u8 1, .int .i64 20, .string ((⟨#[]⟩ : ByteArray))], [], rfl, rfl, ⟨(), rfl, ask_nil⟩, rfl⟩) rfl (by decide) (H' := [_,_,_,_]) rfl ?_
       refine wl_lend [] [0, 1, 2, 3] [1, 3] rfl rfl rfl (freshS_eq rfl) rfl rfl fn_10 rfl (w_expr_Eval_s N 3 0 0 (⟨#[]⟩ : ByteArray) 0 1 (some ⟨c17_0, 0, none⟩) 2 [(⟨3, (⟨0, 0, (⟨#[]⟩ : ByteArray)⟩ : V), 0, 3, [(⟨1, (⟨1, 2, (⟨#[]⟩ : ByteArray)⟩ : V), 0, 0, ([] : List Api_ExprD)⟩ : Api_ExprD), (⟨2, (⟨0, 0, (⟨#[]⟩ : ByteArray)⟩ : V), 0, 0, ([] : List Api_ExprD)⟩ : Api_ExprD)]⟩ : Api_ExprD), (⟨1, (⟨1, 1, (⟨#[]⟩ : ByteArray)⟩ : V), 0, 0, ([] : List Api_ExprD)⟩ : Api_ExprD)] (some ⟨g10, 0, none⟩) 1 [(⟨1, 20, (⟨#[]⟩ : ByteArray)⟩ : V)] _ _ _ _ hc19) (fun F w hφ hh => (ask_cons (own_sli (hh _ (mem_at (k := 0) rfl))) (ask_cons (own_sli (hh _ (mem_at (k := 1) rfl))) ask_nil))) (fun _ _ _ hR => by obtain ⟨rfl, rfl, rfl⟩ := hR; exact ⟨rfl, (fun _ h => free_nil h)⟩) rfl rfl (H' := [_,_,_,_]) rfl ?_
       rintro _ _ _ ⟨rfl, rfl, rfl⟩
       refine wl_nil ?_
       refine we_x [2, 2, 4, 5, 5, 4] [2] rfl rfl ?_
       refine wx_pure hok 7 rfl rfl rfl (freshS_eq rfl) rfl rfl ?_
       refine wx_pure hok 8 rfl rfl rfl (freshS_eq rfl) rfl rfl ?_
       refine wx_pure hok 9 rfl rfl rfl (freshS_eq rfl) rfl rfl ?_
       refine wx_step1 hok 11 rfl rfl rfl rfl ?_
       refine wl_store 0 0 rfl rfl rfl rfl rfl rfl rfl tS_25 rfl rfl rfl (all' := [_,_,_]) rfl (H' := [_,_,_,_]) rfl ?_
       refine wl_nil ?_
       refine we_x [0, 1, 2, 2, 4, 5, 5, 4] [] rfl rfl ?_
       refine wx_step1 hok 12 rfl rfl rfl rfl ?_
       refine wl_pure rfl rfl rfl (freshS_eq rfl) rfl ?_
       refine wl_nil ?_
       refine we_x [0, 1, 2, 2, 4, 5, 5, 4] [] rfl rfl ?_
       refine wx_done hok rfl ?_
       refine we_pick [0, 3] rfl (H' := [_,_]) rfl ?_
       refine we_join g3 trivial [4, 3, 1] rfl (fun _ _ hφ => ask [] rfl hφ) rfl
     ·
      refine wl_alloc rfl rfl rfl (freshS_eq rfl) rfl tZ_25 rfl (fun g3 => ?_)
      refine wl_nil ?_
      refine we_x [0, 1, 1, 0] [2] rfl rfl ?_
      refine wx_step1 hok 4 rfl rfl rfl rfl ?_
      refine wl_row (sz := 7) (m := 2) R_Api_ExprD ([(⟨1, (⟨1, 2, (⟨#[]⟩ : ByteArray)⟩ : V), 0, 0, ([] : List Api_ExprD)⟩ : Api_ExprD), (⟨2, (⟨0, 0, (⟨#[]⟩ : ByteArray)⟩ : V), 0, 0, ([] : List Api_ExprD)⟩ : Api_ExprD)]) 1 rfl (fun F w hφ => ⟨[.int .u8 1, .int .u8 1, .int .i64 2, .string ((⟨#[]⟩ : ByteArray)), .int .i64 0, .int .u8 0, .slice none (([] : List Api_ExprD).length) 0], [.int .u8 2, .int .u8 0, .int .i64 0, .string ((⟨#[]⟩ : ByteArray)), .int .i64 0, .int .u8 0, .slice none (([] : List Api_ExprD).length) 0], rfl, rfl, (rec_shut (none, 0) rfl (ask_cons (hφ _ (mem_at (k := 0) rfl)) ask_nil)), ⟨[.int .u8 2, .int .u8 0, .int .i64 0, .string ((⟨#[]⟩ : ByteArray)), .int .i64 0, .int .u8 0, .slice none (([] : List Api_ExprD).length) 0], [], rfl, rfl, (rec_shut (none, 0) rfl (ask_cons (hφ _ (mem_at (k := 1) rfl)) ask_nil)), rfl⟩⟩) rfl (by decide) (H' := [_,_,_,_]) rfl ?_
      refine wl_fact (.sli 7 R_Api_ExprD none 0 ([] : List Api_ExprD)) (fun _ _ _ => sli_none) ?_
      refine wl_call [1] [0, 2, 3] rfl rfl rfl (freshS_eq rfl) rfl rfl fn_20 rfl (w_ropewalklaw09_op_v2_s N 1 3 0 0 (⟨#[]⟩ : ByteArray) 0 3 (some ⟨c15_0, 0, none⟩) ([(⟨1, (⟨1, 2, (⟨#[]⟩ : ByteArray)⟩ : V), 0, 0, ([] : List Api_ExprD)⟩ : Api_ExprD), (⟨2, (⟨0, 0, (⟨#[]⟩ : ByteArray)⟩ : V), 0, 0, ([] : List Api_ExprD)⟩ : Api_ExprD)].length) 2 [(⟨1, (⟨1, 2, (⟨#[]⟩ : ByteArray)⟩ : V), 0, 0, ([] : List Api_ExprD)⟩ : Api_ExprD), (⟨2, (⟨0, 0, (⟨#[]⟩ : ByteArray)⟩ : V), 0, 0, ([] : List Api_ExprD)⟩ : Api_ExprD)] 1 1 1 (⟨#[]⟩ : ByteArray) 0 0 none 0 ([] : List Api_ExprD) hc17) (fun _ _ hφ => ask [0] rfl hφ) rfl (H' := [_,_,_]) rfl ?_
      rintro _ _ _ ⟨c17_0, rfl, rfl, rfl⟩
      refine wl_nil ?_
      refine we_x [2, 3, 3, 2] [3] rfl rfl ?_
      refine wx_step1 hok 6 rfl rfl rfl rfl ?_
      refine wl_freeze 1 rfl (H' := [_,_,_,_]) rfl ?_
      refine wl_fact (.sli 7 R_Api_ExprD (some ⟨c15_0, 0, none⟩) 2 ([(⟨1, (⟨1, 2, (⟨#[]⟩ : ByteArray)⟩ : V), 0, 0, ([] : List Api_ExprD)⟩ : Api_ExprD), (⟨2, (⟨0, 0, (⟨#[]⟩ : ByteArray)⟩ : V), 0, 0, ([] : List Api_ExprD)⟩ : Api_ExprD)])) (fun F w hφ => own_sli (hφ _ (mem_at (k := 0) rfl))) ?_
      refine wl_row (sz := 7) (m := 2) R_Api_ExprD ([(⟨3, (⟨0, 0, (⟨#[]⟩ : ByteArray)⟩ : V), 0, 3, [(⟨1, (⟨1, 2, (⟨#[]⟩ : ByteArray)⟩ : V), 0, 0, ([] : List Api_ExprD)⟩ : Api_ExprD), (⟨2, (⟨0, 0, (⟨#[]⟩ : ByteArray)⟩ : V), 0, 0, ([] : List Api_ExprD)⟩ : Api_ExprD)]⟩ : Api_ExprD), (⟨1, (⟨1, 1, (⟨#[]⟩ : ByteArray)⟩ : V), 0, 0, ([] : List Api_ExprD)⟩ : Api_ExprD)]) 0 rfl (fun F w hφ => ⟨[.int .u8 3, .int .u8 0, .int .i64 0, .string ((⟨#[]⟩ : ByteArray)), .int .i64 0, .int .u8 3, .slice (some ⟨c15_0, 0, none⟩) ([(⟨1, (⟨1, 2, (⟨#[]⟩ : ByteArray)⟩ : V), 0, 0, ([] : List Api_ExprD)⟩ : Api_ExprD), (⟨2, (⟨0, 0, (⟨#[]⟩ : ByteArray)⟩ : V), 0, 0, ([] : List Api_ExprD)⟩ : Api_ExprD)].length) 2], [.int .u8 1, .int .u8 1, .int .i64 1, .string ((⟨#[]⟩ : ByteArray)), .int .i64 0, .int .u8 0, .slice none (([] : List Api_ExprD).length) 0], rfl, rfl, (rec_shut (some ⟨c15_0, 0, none⟩, 2) rfl (ask_cons (hφ _ (mem_at (k := 0) rfl)) ask_nil)), ⟨[.int .u8 1, .int .u8 1, .int .i64 1, .string ((⟨#[]⟩ : ByteArray)), .int .i64 0, .int .u8 0, .slice none (([] : List Api_ExprD).length) 0], [], rfl, rfl, (rec_shut (none, 0) rfl (ask_cons (hφ _ (mem_at (k := 2) rfl)) ask_nil)), rfl⟩⟩) rfl (by decide) (H' := [_,_,_,_]) rfl ?_
      refine wl_row (sz := 3) (m := 1) R_V ([(⟨1, 20, (⟨#[]⟩ : ByteArray)⟩ : V)]) 3 rfl (fun F w hφ => ⟨[.int .u8 1, .int .i64 20, .string ((⟨#[]⟩ : ByteArray))], [], rfl, rfl, ⟨(), rfl, ask_nil⟩, rfl⟩) rfl (by decide) (H' := [_,_,_,_]) rfl ?_
      refine wl_lend [] [0, 1, 2, 3] [0, 3] rfl rfl rfl (freshS_eq rfl) rfl rfl fn_10 rfl (w_expr_Eval_s N 3 0 0 (⟨#[]⟩ : ByteArray) 0 1 (some ⟨c17_0, 0, none⟩) 2 [(⟨3, (⟨0, 0, (⟨#[]⟩ : ByteArray)⟩ : V), 0, 3, [(⟨1, (⟨1, 2, (⟨#[]⟩ : ByteArray)⟩ : V), 0, 0, ([] : List Api_ExprD)⟩ : Api_ExprD), (⟨2, (⟨0, 0, (⟨#[]⟩ : ByteArray)⟩ : V), 0, 0, ([] : List Api_ExprD)⟩ : Api_ExprD)]⟩ : Api_ExprD), (⟨1, (⟨1, 1, (⟨#[]⟩ : ByteArray)⟩ : V), 0, 0, ([] : List Api_ExprD)⟩ : Api_ExprD)] (some ⟨g10, 0, none⟩) 1 [(⟨1, 20, (⟨#[]⟩ : ByteArray)⟩ : V)] _ _ _ _ hc19) (fun F w hφ hh => (ask_cons (own_sli (hh _ (mem_at (k := 0) rfl))) (ask_cons (own_sli (hh _ (mem_at (k := 1) rfl))) ask_nil))) (fun _ _ _ hR => by obtain ⟨rfl, rfl, rfl⟩ := hR; exact ⟨rfl, (fun _ h => free_nil h)⟩) rfl rfl (H' := [_,_,_,_]) rfl ?_
      rintro _ _ _ ⟨rfl, rfl, rfl⟩
      refine wl_nil ?_
      refine we_x [2, 2, 4, 5, 5, 4] [2] rfl rfl ?_
      refine wx_pure hok 7 rfl rfl rfl (freshS_eq rfl) rfl rfl ?_
      refine wx_pure hok 8 rfl rfl rfl (freshS_eq rfl) rfl rfl ?_
      refine wx_pure hok 9 rfl rfl rfl (freshS_eq rfl) rfl rfl ?_
      refine wx_step1 hok 11 rfl rfl rfl rfl ?_
      refine wl_store 1 0 rfl rfl rfl rfl rfl rfl rfl tS_25 rfl rfl rfl (all' := [_,_,_]) rfl (H' := [_,_,_,_]) rfl ?_
      refine wl_nil ?_
      refine we_x [0, 1, 2, 2, 4, 5, 5, 4] [] rfl rfl ?_
      refine wx_step1 hok 12 rfl rfl rfl rfl ?_
      refine wl_pure rfl rfl rfl (freshS_eq rfl) rfl ?_
      refine wl_nil ?_
      refine we_x [0, 1, 2, 2, 4, 5, 5, 4] [] rfl rfl ?_
      refine wx_done hok rfl ?_
      refine we_pick [1, 3] rfl (H' := [_,_]) rfl ?_
      refine we_join g3 trivial [4, 3, 1] rfl (fun _ _ hφ => ask [] rfl hφ) rfl
    ·
     refine wl_alloc rfl rfl rfl (freshS_eq rfl) rfl tZ_25 rfl (fun g3 => ?_)
     refine wl_nil ?_
     refine we_x [0, 1, 1, 0] [2] rfl rfl ?_
     refine wx_step1 hok 3 rfl rfl rfl rfl ?_
     refine wl_call [] [0, 1, 2, 3] rfl rfl rfl (freshS_eq rfl) rfl rfl fn_21 rfl (w_ropewalklaw09_number_s N 1 hc16) (fun _ _ hφ => ask [] rfl hφ) rfl (H' := [_,_,_,_]) rfl ?_
     rintro _ _ _ ⟨rfl, rfl, rfl⟩
     refine wl_nil ?_
     refine we_x [0, 1, 1, 0] [2] rfl rfl ?_
     refine wx_step1 hok 4 rfl rfl rfl rfl ?_
     refine wl_row (sz := 7) (m := 2) R_Api_ExprD ([(⟨1, (⟨1, 2, (⟨#[]⟩ : ByteArray)⟩ : V), 0, 0, ([] : List Api_ExprD)⟩ : Api_ExprD), (⟨2, (⟨0, 0, (⟨#[]⟩ : ByteArray)⟩ : V), 0, 0, ([] : List Api_ExprD)⟩ : Api_ExprD)]) 1 rfl (fun F w hφ => ⟨[.int .u8 1, .int .u8 1, .int .i64 2, .string ((⟨#[]⟩ : ByteArray)), .int .i64 0, .int .u8 0, .slice none (([] : List Api_ExprD).length) 0], [.int .u8 2, .int .u8 0, .int .i64 0, .string ((⟨#[]⟩ : ByteArray)), .int .i64 0, .int .u8 0, .slice none (([] : List Api_ExprD).length) 0], rfl, rfl, (rec_shut (none, 0) rfl (ask_cons (hφ _ (mem_at (k := 0) rfl)) ask_nil)), ⟨[.int .u8 2, .int .u8 0, .int .i64 0, .string ((⟨#[]⟩ : ByteArray)), .int .i64 0, .int .u8 0, .slice none (([] : List Api_ExprD).length) 0], [], rfl, rfl, (rec_shut (none, 0) rfl (ask_cons (hφ _ (mem_at (k := 1) rfl)) ask_nil)), rfl⟩⟩) rfl (by decide) (H' := [_,_,_,_]) rfl ?_
     refine wl_fact (.sli 7 R_Api_ExprD none 0 ([] : List Api_ExprD)) (fun _ _ _ => sli_none) ?_
     refine wl_call [1] [0, 2, 3] rfl rfl rfl (freshS_eq rfl) rfl rfl fn_20 rfl (w_ropewalklaw09_op_v2_s N 1 3 0 0 (⟨#[]⟩ : ByteArray) 0 3 (some ⟨c15_0, 0, none⟩) ([(⟨1, (⟨1, 2, (⟨#[]⟩ : ByteArray)⟩ : V), 0, 0, ([] : List Api_ExprD)⟩ : Api_ExprD), (⟨2, (⟨0, 0, (⟨#[]⟩ : ByteArray)⟩ : V), 0, 0, ([] : List Api_ExprD)⟩ : Api_ExprD)].length) 2 [(⟨1, (⟨1, 2, (⟨#[]⟩ : ByteArray)⟩ : V), 0, 0, ([] : List Api_ExprD)⟩ : Api_ExprD), (⟨2, (⟨0, 0, (⟨#[]⟩ : ByteArray)⟩ : V), 0, 0, ([] : List Api_ExprD)⟩ : Api_ExprD)] 1 1 1 (⟨#[]⟩ : ByteArray) 0 0 none 0 ([] : List Api_ExprD) hc17) (fun _ _ hφ => ask [0] rfl hφ) rfl (H' := [_,_,_]) rfl ?_
     rintro _ _ _ ⟨c17_0, rfl, rfl, rfl⟩
     refine wl_nil ?_
     refine we_x [2, 3, 3, 2] [3] rfl rfl ?_
     refine wx_step1 hok 6 rfl rfl rfl rfl ?_
     refine wl_freeze 1 rfl (H' := [_,_,_,_]) rfl ?_
     refine wl_fact (.sli 7 R_Api_ExprD (some ⟨c15_0, 0, none⟩) 2 ([(⟨1, (⟨1, 2, (⟨#[]⟩ : ByteArray)⟩ : V), 0, 0, ([] : List Api_ExprD)⟩ : Api_ExprD), (⟨2, (⟨0, 0, (⟨#[]⟩ : ByteArray)⟩ : V), 0, 0, ([] : List Api_ExprD)⟩ : Api_ExprD)])) (fun F w hφ => own_sli (hφ _ (mem_at (k := 0) rfl))) ?_
     refine wl_row (sz := 7) (m := 2) R_Api_ExprD ([(⟨3, (⟨0, 0, (⟨#[]⟩ : ByteArray)⟩ : V), 0, 3, [(⟨1, (⟨1, 2, (⟨#[]⟩ : ByteArray)⟩ : V), 0, 0, ([] : List Api_ExprD)⟩ : Api_ExprD), (⟨2, (⟨0, 0, (⟨#[]⟩ : ByteArray)⟩ : V), 0, 0, ([] : List Api_ExprD)⟩ : Api_ExprD)]⟩ : Api_ExprD), (⟨1, (⟨1, 1, (⟨#[]⟩ : ByteArray)⟩ : V), 0, 0, ([] : List Api_ExprD)⟩ : Api_ExprD)]) 0 rfl (fun F w hφ => ⟨[.int .u8 3, .int .u8 0, .int .i64 0, .string ((⟨#[]⟩ : ByteArray)), .int .i64 0, .int .u8 3, .slice (some ⟨c15_0, 0, none⟩) ([(⟨1, (⟨1, 2, (⟨#[]⟩ : ByteArray)⟩ : V), 0, 0, ([] : List Api_ExprD)⟩ : Api_ExprD), (⟨2, (⟨0, 0, (⟨#[]⟩ : ByteArray)⟩ : V), 0, 0, ([] : List Api_ExprD)⟩ : Api_ExprD)].length) 2], [.int .u8 1, .int .u8 1, .int .i64 1, .string ((⟨#[]⟩ : ByteArray)), .int .i64 0, .int .u8 0, .slice none (([] : List Api_ExprD).length) 0], rfl, rfl, (rec_shut (some ⟨c15_0, 0, none⟩, 2) rfl (ask_cons (hφ _ (mem_at (k := 0) rfl)) ask_nil)), ⟨[.int .u8 1, .int .u8 1, .int .i64 1, .string ((⟨#[]⟩ : ByteArray)), .int .i64 0, .int .u8 0, .slice none (([] : List Api_ExprD).length) 0], [], rfl, rfl, (rec_shut (none, 0) rfl (ask_cons (hφ _ (mem_at (k := 2) rfl)) ask_nil)), rfl⟩⟩) rfl (by decide) (H' := [_,_,_,_]) rfl ?_
     refine wl_row (sz := 3) (m := 1) R_V ([(⟨1, 20, (⟨#[]⟩ : ByteArray)⟩ : V)]) 3 rfl (fun F w hφ => ⟨[.int .u8 1, .int .i64 20, .string ((⟨#[]⟩ : ByteArray))], [], rfl, rfl, ⟨(), rfl, ask_nil⟩, rfl⟩) rfl (by decide) (H' := [_,_,_,_]) rfl ?_
     refine wl_lend [] [0, 1, 2, 3] [0, 3] rfl rfl rfl (freshS_eq rfl) rfl rfl fn_10 rfl (w_expr_Eval_s N 3 0 0 (⟨#[]⟩ : ByteArray) 0 1 (some ⟨c17_0, 0, none⟩) 2 [(⟨3, (⟨0, 0, (⟨#[]⟩ : ByteArray)⟩ : V), 0, 3, [(⟨1, (⟨1, 2, (⟨#[]⟩ : ByteArray)⟩ : V), 0, 0, ([] : List Api_ExprD)⟩ : Api_ExprD), (⟨2, (⟨0, 0, (⟨#[]⟩ : ByteArray)⟩ : V), 0, 0, ([] : List Api_ExprD)⟩ : Api_ExprD)]⟩ : Api_ExprD), (⟨1, (⟨1, 1, (⟨#[]⟩ : ByteArray)⟩ : V), 0, 0, ([] : List Api_ExprD)⟩ : Api_ExprD)] (some ⟨g10, 0, none⟩) 1 [(⟨1, 20, (⟨#[]⟩ : ByteArray)⟩ : V)] _ _ _ _ hc19) (fun F w hφ hh => (ask_cons (own_sli (hh _ (mem_at (k := 0) rfl))) (ask_cons (own_sli (hh _ (mem_at (k := 1) rfl))) ask_nil))) (fun _ _ _ hR => by obtain ⟨rfl, rfl, rfl⟩ := hR; exact ⟨rfl, (fun _ h => free_nil h)⟩) rfl rfl (H' := [_,_,_,_]) rfl ?_
     rintro _ _ _ ⟨rfl, rfl, rfl⟩
     refine wl_nil ?_
     refine we_x [2, 2, 4, 5, 5, 4] [2] rfl rfl ?_
     refine wx_pure hok 7 rfl rfl rfl (freshS_eq rfl) rfl rfl ?_
     refine wx_pure hok 8 rfl rfl rfl (freshS_eq rfl) rfl rfl ?_
     refine wx_pure hok 9 rfl rfl rfl (freshS_eq rfl) rfl rfl ?_
     refine wx_step1 hok 11 rfl rfl rfl rfl ?_
     refine wl_store 1 0 rfl rfl rfl rfl rfl rfl rfl tS_25 rfl rfl rfl (all' := [_,_,_]) rfl (H' := [_,_,_,_]) rfl ?_
     refine wl_nil ?_
     refine we_x [0, 1, 2, 2, 4, 5, 5, 4] [] rfl rfl ?_
     refine wx_step1 hok 12 rfl rfl rfl rfl ?_
     refine wl_pure rfl rfl rfl (freshS_eq rfl) rfl ?_
     refine wl_nil ?_
     refine we_x [0, 1, 2, 2, 4, 5, 5, 4] [] rfl rfl ?_
     refine wx_done hok rfl ?_
     refine we_pick [1, 3] rfl (H' := [_,_]) rfl ?_
     refine we_join g3 trivial [4, 3, 1] rfl (fun _ _ hφ => ask [] rfl hφ) rfl
   ·
    refine wl_alloc rfl rfl rfl (freshS_eq rfl) rfl tZ_25 rfl (fun g3 => ?_)
    refine wl_nil ?_
    refine we_x [] [1] rfl rfl ?_
    refine wx_step1 hok 2 rfl rfl rfl rfl ?_
    refine wl_fact (.sli 7 R_Api_ExprD none 0 ([] : List Api_ExprD)) (fun _ _ _ => sli_none) ?_
    refine wl_fact (.sli 7 R_Api_ExprD none 0 ([] : List Api_ExprD)) (fun _ _ _ => sli_none) ?_
    refine wl_call [] [0, 1, 2] rfl rfl rfl (freshS_eq rfl) rfl rfl fn_20 rfl (w_ropewalklaw09_op_s N 3 1 1 2 (⟨#[]⟩ : ByteArray) 0 0 none 0 ([] : List Api_ExprD) 2 0 0 (⟨#[]⟩ : ByteArray) 0 0 none 0 ([] : List Api_ExprD) hc15) (fun _ _ hφ => ask [1, 0] rfl hφ) rfl (H' := [_,_,_]) rfl ?_
    rintro _ _ _ ⟨c15_0, rfl, rfl, rfl⟩
    refine wl_nil ?_
    refine we_x [] [] rfl rfl ?_
    refine wx_step1 hok 3 rfl rfl rfl rfl ?_
    refine wl_call [] [0, 1, 2, 3] rfl rfl rfl (freshS_eq rfl) rfl rfl fn_21 rfl (w_ropewalklaw09_number_s N 1 hc16) (fun _ _ hφ => ask [] rfl hφ) rfl (H' := [_,_,_,_]) rfl ?_
    rintro _ _ _ ⟨rfl, rfl, rfl⟩
    refine wl_nil ?_
    refine we_x [0, 1, 1, 0] [2] rfl rfl ?_
    refine wx_step1 hok 4 rfl rfl rfl rfl ?_
    refine wl_row (sz := 7) (m := 2) R_Api_ExprD ([(⟨1, (⟨1, 2, (⟨#[]⟩ : ByteArray)⟩ : V), 0, 0, ([] : List Api_ExprD)⟩ : Api_ExprD), (⟨2, (⟨0, 0, (⟨#[]⟩ : ByteArray)⟩ : V), 0, 0, ([] : List Api_ExprD)⟩ : Api_ExprD)]) 0 rfl (fun F w hφ => ⟨[.int .u8 1, .int .u8 1, .int .i64 2, .string ((⟨#[]⟩ : ByteArray)), .int .i64 0, .int .u8 0, .slice none (([] : List Api_ExprD).length) 0], [.int .u8 2, .int .u8 0, .int .i64 0, .string ((⟨#[]⟩ : ByteArray)), .int .i64 0, .int .u8 0, .slice none (([] : List Api_ExprD).length) 0], rfl, rfl, (rec_shut (none, 0) rfl (ask_cons (hφ _ (mem_at (k := 0) rfl)) ask_nil)), ⟨[.int .u8 2, .int .u8 0, .int .i64 0, .string ((⟨#[]⟩ : ByteArray)), .int .i64 0, .int .u8 0, .slice none (([] : List Api_ExprD).length) 0], [], rfl, rfl, (rec_shut (none, 0) rfl (ask_cons (hφ _ (mem_at (k := 1) rfl)) ask_nil)), rfl⟩⟩) rfl (by decide) (H' := [_,_,_,_]) rfl ?_
    refine wl_fact (.sli 7 R_Api_ExprD none 0 ([] : List Api_ExprD)) (fun _ _ _ => sli_none) ?_
    refine wl_call [0] [1, 2, 3] rfl rfl rfl (freshS_eq rfl) rfl rfl fn_20 rfl (w_ropewalklaw09_op_v2_s N 1 3 0 0 (⟨#[]⟩ : ByteArray) 0 3 (some ⟨c15_0, 0, none⟩) ([(⟨1, (⟨1, 2, (⟨#[]⟩ : ByteArray)⟩ : V), 0, 0, ([] : List Api_ExprD)⟩ : Api_ExprD), (⟨2, (⟨0, 0, (⟨#[]⟩ : ByteArray)⟩ : V), 0, 0, ([] : List Api_ExprD)⟩ : Api_ExprD)].length) 2 [(⟨1, (⟨1, 2, (⟨#[]⟩ : ByteArray)⟩ : V), 0, 0, ([] : List Api_ExprD)⟩ : Api_ExprD), (⟨2, (⟨0, 0, (⟨#[]⟩ : ByteArray)⟩ : V), 0, 0, ([] : List Api_ExprD)⟩ : Api_ExprD)] 1 1 1 (⟨#[]⟩ : ByteArray) 0 0 none 0 ([] : List Api_ExprD) hc17) (fun _ _ hφ => ask [0] rfl hφ) rfl (H' := [_,_,_]) rfl ?_
    rintro _ _ _ ⟨c17_0, rfl, rfl, rfl⟩
    refine wl_nil ?_
    refine we_x [2, 3, 3, 2] [3] rfl rfl ?_
    refine wx_step1 hok 6 rfl rfl rfl rfl ?_
    refine wl_freeze 1 rfl (H' := [_,_,_,_]) rfl ?_
    refine wl_fact (.sli 7 R_Api_ExprD (some ⟨c15_0, 0, none⟩) 2 ([(⟨1, (⟨1, 2, (⟨#[]⟩ : ByteArray)⟩ : V), 0, 0, ([] : List Api_ExprD)⟩ : Api_ExprD), (⟨2, (⟨0, 0, (⟨#[]⟩ : ByteArray)⟩ : V), 0, 0, ([] : List Api_ExprD)⟩ : Api_ExprD)])) (fun F w hφ => own_sli (hφ _ (mem_at (k := 0) rfl))) ?_
    refine wl_row (sz := 7) (m := 2) R_Api_ExprD ([(⟨3, (⟨0, 0, (⟨#[]⟩ : ByteArray)⟩ : V), 0, 3, [(⟨1, (⟨1, 2, (⟨#[]⟩ : ByteArray)⟩ : V), 0, 0, ([] : List Api_ExprD)⟩ : Api_ExprD), (⟨2, (⟨0, 0, (⟨#[]⟩ : ByteArray)⟩ : V), 0, 0, ([] : List Api_ExprD)⟩ : Api_ExprD)]⟩ : Api_ExprD), (⟨1, (⟨1, 1, (⟨#[]⟩ : ByteArray)⟩ : V), 0, 0, ([] : List Api_ExprD)⟩ : Api_ExprD)]) 0 rfl (fun F w hφ => ⟨[.int .u8 3, .int .u8 0, .int .i64 0, .string ((⟨#[]⟩ : ByteArray)), .int .i64 0, .int .u8 3, .slice (some ⟨c15_0, 0, none⟩) ([(⟨1, (⟨1, 2, (⟨#[]⟩ : ByteArray)⟩ : V), 0, 0, ([] : List Api_ExprD)⟩ : Api_ExprD), (⟨2, (⟨0, 0, (⟨#[]⟩ : ByteArray)⟩ : V), 0, 0, ([] : List Api_ExprD)⟩ : Api_ExprD)].length) 2], [.int .u8 1, .int .u8 1, .int .i64 1, .string ((⟨#[]⟩ : ByteArray)), .int .i64 0, .int .u8 0, .slice none (([] : List Api_ExprD).length) 0], rfl, rfl, (rec_shut (some ⟨c15_0, 0, none⟩, 2) rfl (ask_cons (hφ _ (mem_at (k := 0) rfl)) ask_nil)), ⟨[.int .u8 1, .int .u8 1, .int .i64 1, .string ((⟨#[]⟩ : ByteArray)), .int .i64 0, .int .u8 0, .slice none (([] : List Api_ExprD).length) 0], [], rfl, rfl, (rec_shut (none, 0) rfl (ask_cons (hφ _ (mem_at (k := 2) rfl)) ask_nil)), rfl⟩⟩) rfl (by decide) (H' := [_,_,_,_]) rfl ?_
    refine wl_row (sz := 3) (m := 1) R_V ([(⟨1, 20, (⟨#[]⟩ : ByteArray)⟩ : V)]) 3 rfl (fun F w hφ => ⟨[.int .u8 1, .int .i64 20, .string ((⟨#[]⟩ : ByteArray))], [], rfl, rfl, ⟨(), rfl, ask_nil⟩, rfl⟩) rfl (by decide) (H' := [_,_,_,_]) rfl ?_
    refine wl_lend [] [0, 1, 2, 3] [0, 3] rfl rfl rfl (freshS_eq rfl) rfl rfl fn_10 rfl (w_expr_Eval_s N 3 0 0 (⟨#[]⟩ : ByteArray) 0 1 (some ⟨c17_0, 0, none⟩) 2 [(⟨3, (⟨0, 0, (⟨#[]⟩ : ByteArray)⟩ : V), 0, 3, [(⟨1, (⟨1, 2, (⟨#[]⟩ : ByteArray)⟩ : V), 0, 0, ([] : List Api_ExprD)⟩ : Api_ExprD), (⟨2, (⟨0, 0, (⟨#[]⟩ : ByteArray)⟩ : V), 0, 0, ([] : List Api_ExprD)⟩ : Api_ExprD)]⟩ : Api_ExprD), (⟨1, (⟨1, 1, (⟨#[]⟩ : ByteArray)⟩ : V), 0, 0, ([] : List Api_ExprD)⟩ : Api_ExprD)] (some ⟨g10, 0, none⟩) 1 [(⟨1, 20, (⟨#[]⟩ : ByteArray)⟩ : V)] _ _ _ _ hc19) (fun F w hφ hh => (ask_cons (own_sli (hh _ (mem_at (k := 0) rfl))) (ask_cons (own_sli (hh _ (mem_at (k := 1) rfl))) ask_nil))) (fun _ _ _ hR => by obtain ⟨rfl, rfl, rfl⟩ := hR; exact ⟨rfl, (fun _ h => free_nil h)⟩) rfl rfl (H' := [_,_,_,_]) rfl ?_
    rintro _ _ _ ⟨rfl, rfl, rfl⟩
    refine wl_nil ?_
    refine we_x [2, 2, 4, 5, 5, 4] [2] rfl rfl ?_
    refine wx_pure hok 7 rfl rfl rfl (freshS_eq rfl) rfl rfl ?_
    refine wx_pure hok 8 rfl rfl rfl (freshS_eq rfl) rfl rfl ?_
    refine wx_pure hok 9 rfl rfl rfl (freshS_eq rfl) rfl rfl ?_
    refine wx_step1 hok 11 rfl rfl rfl rfl ?_
    refine wl_store 1 0 rfl rfl rfl rfl rfl rfl rfl tS_25 rfl rfl rfl (all' := [_,_,_]) rfl (H' := [_,_,_,_]) rfl ?_
    refine wl_nil ?_
    refine we_x [0, 1, 2, 2, 4, 5, 5, 4] [] rfl rfl ?_
    refine wx_step1 hok 12 rfl rfl rfl rfl ?_
    refine wl_pure rfl rfl rfl (freshS_eq rfl) rfl ?_
    refine wl_nil ?_
    refine we_x [0, 1, 2, 2, 4, 5, 5, 4] [] rfl rfl ?_
    refine wx_done hok rfl ?_
    refine we_pick [1, 3] rfl (H' := [_,_]) rfl ?_
    refine we_join g3 trivial [4, 3, 1] rfl (fun _ _ hφ => ask [] rfl hφ) rfl
  ·
   refine wl_alloc rfl rfl rfl (freshS_eq rfl) rfl tZ_25 rfl (fun g3 => ?_)
   refine wl_nil ?_
   refine we_x [] [1] rfl rfl ?_
   refine wx_step1 hok 0 rfl rfl rfl rfl ?_
   refine wl_call [] [0, 1, 2] rfl rfl rfl (freshS_eq rfl) rfl rfl fn_21 rfl (w_ropewalklaw09_number_s N 2 hc13) (fun _ _ hφ => ask [] rfl hφ) rfl (H' := [_,_,_]) rfl ?_
   rintro _ _ _ ⟨rfl, rfl, rfl⟩
   refine wl_nil ?_
   refine we_x [] [1] rfl rfl ?_
   refine wx_step1 hok 2 rfl rfl rfl rfl ?_
   refine wl_fact (.sli 7 R_Api_ExprD none 0 ([] : List Api_ExprD)) (fun _ _ _ => sli_none) ?_
   refine wl_fact (.sli 7 R_Api_ExprD none 0 ([] : List Api_ExprD)) (fun _ _ _ => sli_none) ?_
   refine wl_call [] [0, 1, 2] rfl rfl rfl (freshS_eq rfl) rfl rfl fn_20 rfl (w_ropewalklaw09_op_s N 3 1 1 2 (⟨#[]⟩ : ByteArray) 0 0 none 0 ([] : List Api_ExprD) 2 0 0 (⟨#[]⟩ : ByteArray) 0 0 none 0 ([] : List Api_ExprD) hc15) (fun _ _ hφ => ask [1, 0] rfl hφ) rfl (H' := [_,_,_]) rfl ?_
   rintro _ _ _ ⟨c15_0, rfl, rfl, rfl⟩
   refine wl_nil ?_
   refine we_x [] [] rfl rfl ?_
   refine wx_step1 hok 3 rfl rfl rfl rfl ?_
   refine wl_call [] [0, 1, 2, 3] rfl rfl rfl (freshS_eq rfl) rfl rfl fn_21 rfl (w_ropewalklaw09_number_s N 1 hc16) (fun _ _ hφ => ask [] rfl hφ) rfl (H' := [_,_,_,_]) rfl ?_
   rintro _ _ _ ⟨rfl, rfl, rfl⟩
   refine wl_nil ?_
   refine we_x [0, 1, 1, 0] [2] rfl rfl ?_
   refine wx_step1 hok 4 rfl rfl rfl rfl ?_
   refine wl_row (sz := 7) (m := 2) R_Api_ExprD ([(⟨1, (⟨1, 2, (⟨#[]⟩ : ByteArray)⟩ : V), 0, 0, ([] : List Api_ExprD)⟩ : Api_ExprD), (⟨2, (⟨0, 0, (⟨#[]⟩ : ByteArray)⟩ : V), 0, 0, ([] : List Api_ExprD)⟩ : Api_ExprD)]) 0 rfl (fun F w hφ => ⟨[.int .u8 1, .int .u8 1, .int .i64 2, .string ((⟨#[]⟩ : ByteArray)), .int .i64 0, .int .u8 0, .slice none (([] : List Api_ExprD).length) 0], [.int .u8 2, .int .u8 0, .int .i64 0, .string ((⟨#[]⟩ : ByteArray)), .int .i64 0, .int .u8 0, .slice none (([] : List Api_ExprD).length) 0], rfl, rfl, (rec_shut (none, 0) rfl (ask_cons (hφ _ (mem_at (k := 0) rfl)) ask_nil)), ⟨[.int .u8 2, .int .u8 0, .int .i64 0, .string ((⟨#[]⟩ : ByteArray)), .int .i64 0, .int .u8 0, .slice none (([] : List Api_ExprD).length) 0], [], rfl, rfl, (rec_shut (none, 0) rfl (ask_cons (hφ _ (mem_at (k := 1) rfl)) ask_nil)), rfl⟩⟩) rfl (by decide) (H' := [_,_,_,_]) rfl ?_
   refine wl_fact (.sli 7 R_Api_ExprD none 0 ([] : List Api_ExprD)) (fun _ _ _ => sli_none) ?_
   refine wl_call [0] [1, 2, 3] rfl rfl rfl (freshS_eq rfl) rfl rfl fn_20 rfl (w_ropewalklaw09_op_v2_s N 1 3 0 0 (⟨#[]⟩ : ByteArray) 0 3 (some ⟨c15_0, 0, none⟩) ([(⟨1, (⟨1, 2, (⟨#[]⟩ : ByteArray)⟩ : V), 0, 0, ([] : List Api_ExprD)⟩ : Api_ExprD), (⟨2, (⟨0, 0, (⟨#[]⟩ : ByteArray)⟩ : V), 0, 0, ([] : List Api_ExprD)⟩ : Api_ExprD)].length) 2 [(⟨1, (⟨1, 2, (⟨#[]⟩ : ByteArray)⟩ : V), 0, 0, ([] : List Api_ExprD)⟩ : Api_ExprD), (⟨2, (⟨0, 0, (⟨#[]⟩ : ByteArray)⟩ : V), 0, 0, ([] : List Api_ExprD)⟩ : Api_ExprD)] 1 1 1 (⟨#[]⟩ : ByteArray) 0 0 none 0 ([] : List Api_ExprD) hc17) (fun _ _ hφ => ask [0] rfl hφ) rfl (H' := [_,_,_]) rfl ?_
   rintro _ _ _ ⟨c17_0, rfl, rfl, rfl⟩
   refine wl_nil ?_
   refine we_x [2, 3, 3, 2] [3] rfl rfl ?_
   refine wx_step1 hok 6 rfl rfl rfl rfl ?_
   refine wl_freeze 1 rfl (H' := [_,_,_,_]) rfl ?_
   refine wl_fact (.sli 7 R_Api_ExprD (some ⟨c15_0, 0, none⟩) 2 ([(⟨1, (⟨1, 2, (⟨#[]⟩ : ByteArray)⟩ : V), 0, 0, ([] : List Api_ExprD)⟩ : Api_ExprD), (⟨2, (⟨0, 0, (⟨#[]⟩ : ByteArray)⟩ : V), 0, 0, ([] : List Api_ExprD)⟩ : Api_ExprD)])) (fun F w hφ => own_sli (hφ _ (mem_at (k := 0) rfl))) ?_
   refine wl_row (sz := 7) (m := 2) R_Api_ExprD ([(⟨3, (⟨0, 0, (⟨#[]⟩ : ByteArray)⟩ : V), 0, 3, [(⟨1, (⟨1, 2, (⟨#[]⟩ : ByteArray)⟩ : V), 0, 0, ([] : List Api_ExprD)⟩ : Api_ExprD), (⟨2, (⟨0, 0, (⟨#[]⟩ : ByteArray)⟩ : V), 0, 0, ([] : List Api_ExprD)⟩ : Api_ExprD)]⟩ : Api_ExprD), (⟨1, (⟨1, 1, (⟨#[]⟩ : ByteArray)⟩ : V), 0, 0, ([] : List Api_ExprD)⟩ : Api_ExprD)]) 0 rfl (fun F w hφ => ⟨[.int .u8 3, .int .u8 0, .int .i64 0, .string ((⟨#[]⟩ : ByteArray)), .int .i64 0, .int .u8 3, .slice (some ⟨c15_0, 0, none⟩) ([(⟨1, (⟨1, 2, (⟨#[]⟩ : ByteArray)⟩ : V), 0, 0, ([] : List Api_ExprD)⟩ : Api_ExprD), (⟨2, (⟨0, 0, (⟨#[]⟩ : ByteArray)⟩ : V), 0, 0, ([] : List Api_ExprD)⟩ : Api_ExprD)].length) 2], [.int .u8 1, .int .u8 1, .int .i64 1, .string ((⟨#[]⟩ : ByteArray)), .int .i64 0, .int .u8 0, .slice none (([] : List Api_ExprD).length) 0], rfl, rfl, (rec_shut (some ⟨c15_0, 0, none⟩, 2) rfl (ask_cons (hφ _ (mem_at (k := 0) rfl)) ask_nil)), ⟨[.int .u8 1, .int .u8 1, .int .i64 1, .string ((⟨#[]⟩ : ByteArray)), .int .i64 0, .int .u8 0, .slice none (([] : List Api_ExprD).length) 0], [], rfl, rfl, (rec_shut (none, 0) rfl (ask_cons (hφ _ (mem_at (k := 2) rfl)) ask_nil)), rfl⟩⟩) rfl (by decide) (H' := [_,_,_,_]) rfl ?_
   refine wl_row (sz := 3) (m := 1) R_V ([(⟨1, 20, (⟨#[]⟩ : ByteArray)⟩ : V)]) 3 rfl (fun F w hφ => ⟨[.int .u8 1, .int .i64 20, .string ((⟨#[]⟩ : ByteArray))], [], rfl, rfl, ⟨(), rfl, ask_nil⟩, rfl⟩) rfl (by decide) (H' := [_,_,_,_]) rfl ?_
   refine wl_lend [] [0, 1, 2, 3] [0, 3] rfl rfl rfl (freshS_eq rfl) rfl rfl fn_10 rfl (w_expr_Eval_s N 3 0 0 (⟨#[]⟩ : ByteArray) 0 1 (some ⟨c17_0, 0, none⟩) 2 [(⟨3, (⟨0, 0, (⟨#[]⟩ : ByteArray)⟩ : V), 0, 3, [(⟨1, (⟨1, 2, (⟨#[]⟩ : ByteArray)⟩ : V), 0, 0, ([] : List Api_ExprD)⟩ : Api_ExprD), (⟨2, (⟨0, 0, (⟨#[]⟩ : ByteArray)⟩ : V), 0, 0, ([] : List Api_ExprD)⟩ : Api_ExprD)]⟩ : Api_ExprD), (⟨1, (⟨1, 1, (⟨#[]⟩ : ByteArray)⟩ : V), 0, 0, ([] : List Api_ExprD)⟩ : Api_ExprD)] (some ⟨g10, 0, none⟩) 1 [(⟨1, 20, (⟨#[]⟩ : ByteArray)⟩ : V)] _ _ _ _ hc19) (fun F w hφ hh => (ask_cons (own_sli (hh _ (mem_at (k := 0) rfl))) (ask_cons (own_sli (hh _ (mem_at (k := 1) rfl))) ask_nil))) (fun _ _ _ hR => by obtain ⟨rfl, rfl, rfl⟩ := hR; exact ⟨rfl, (fun _ h => free_nil h)⟩) rfl rfl (H' := [_,_,_,_]) rfl ?_
   rintro _ _ _ ⟨rfl, rfl, rfl⟩
   refine wl_nil ?_
   refine we_x [2, 2, 4, 5, 5, 4] [2] rfl rfl ?_
   refine wx_pure hok 7 rfl rfl rfl (freshS_eq rfl) rfl rfl ?_
   refine wx_pure hok 8 rfl rfl rfl (freshS_eq rfl) rfl rfl ?_
   refine wx_pure hok 9 rfl rfl rfl (freshS_eq rfl) rfl rfl ?_
   refine wx_step1 hok 11 rfl rfl rfl rfl ?_
   refine wl_store 1 0 rfl rfl rfl rfl rfl rfl rfl tS_25 rfl rfl rfl (all' := [_,_,_]) rfl (H' := [_,_,_,_]) rfl ?_
   refine wl_nil ?_
   refine we_x [0, 1, 2, 2, 4, 5, 5, 4] [] rfl rfl ?_
   refine wx_step1 hok 12 rfl rfl rfl rfl ?_
   refine wl_pure rfl rfl rfl (freshS_eq rfl) rfl ?_
   refine wl_nil ?_
   refine we_x [0, 1, 2, 2, 4, 5, 5, 4] [] rfl rfl ?_
   refine wx_done hok rfl ?_
   refine we_pick [1, 3] rfl (H' := [_,_]) rfl ?_
   refine we_join g3 trivial [4, 3, 1] rfl (fun _ _ hφ => ask [] rfl hφ) rfl
 ·
  rintro w_1_3_g _
  try dsimp only
  refine wc_seq ?_
  refine wc_region ?_
  refine wl_build rfl rfl rfl (freshS_eq rfl) rfl tZ_29 tP_29 rfl (out := [_,_,_,_,_,_,_]) rfl ?_
  refine wl_pure rfl rfl rfl (freshS_eq rfl) rfl ?_
  refine wl_fact (.sli 7 R_Api_ExprD none 0 ([] : List Api_ExprD)) (fun _ _ _ => sli_none) ?_
  obtain ⟨⟨v25_0, v25_1, v25_2, v25_3⟩, hc25, hm⟩ := bindO_some hm
  try dsimp only at hm
  refine wl_lend [] [0, 1] [1] rfl rfl rfl (freshS_eq rfl) rfl rfl fn_10 rfl (w_expr_Eval_s N 2 0 0 (⟨#[]⟩ : ByteArray) 1 0 none 0 ([] : List Api_ExprD) (some ⟨g10, 0, none⟩) 1 [(⟨1, 20, (⟨#[]⟩ : ByteArray)⟩ : V)] _ _ _ _ hc25) (fun F w hφ hh => (ask_cons (hφ _ (mem_at (k := 0) rfl)) (ask_cons (own_sli (hh _ (mem_at (k := 0) rfl))) ask_nil))) (fun _ _ _ hR => by obtain ⟨rfl, rfl, rfl⟩ := hR; exact ⟨rfl, (fun _ h => free_nil h)⟩) rfl rfl (H' := [_,_]) rfl ?_
  rintro _ _ _ ⟨rfl, rfl, rfl⟩
  refine wl_pure rfl rfl rfl (freshS_eq rfl) rfl ?_
  refine wl_pure rfl rfl rfl (freshS_eq rfl) rfl ?_
  refine wl_pure rfl rfl rfl (freshS_eq rfl) rfl ?_
  refine wl_alloc rfl rfl rfl (freshS_eq rfl) rfl tZ_25 rfl (fun g5 => ?_)
  refine wl_store 0 0 rfl rfl rfl rfl rfl rfl rfl tS_25 rfl rfl rfl (all' := [_,_,_]) rfl (H' := [_,_,_]) rfl ?_
  refine wl_pure rfl rfl rfl (freshS_eq rfl) rfl ?_
  refine wl_nil ?_
  refine we_then ?_
  refine wc_keep [6, 4, 3, 1] (S' := [_,_,_,_]) rfl ?_
  refine wc_seq ?_
  refine wc_region ?_
  obtain ⟨_, hc29, hm⟩ := bindO_some hm
  try dsimp only at hm
  refine wl_call [] [0, 1, 2] rfl rfl rfl (freshS_eq rfl) rfl rfl fn_21 rfl (w_ropewalklaw09_number_s N 9223372036854775807 hc29) (fun _ _ hφ => ask [] rfl hφ) rfl (H' := [_,_,_]) rfl ?_
  rintro _ _ _ ⟨rfl, rfl, rfl⟩
  obtain ⟨_, hc30, hm⟩ := bindO_some hm
  try dsimp only at hm
  refine wl_call [] [0, 1, 2] rfl rfl rfl (freshS_eq rfl) rfl rfl fn_21 rfl (w_ropewalklaw09_number_s N 9223372036854775807 hc30) (fun _ _ hφ => ask [] rfl hφ) rfl (H' := [_,_,_]) rfl ?_
  rintro _ _ _ ⟨rfl, rfl, rfl⟩
  obtain ⟨_, hc31, hm⟩ := bindO_some hm
  try dsimp only at hm
  refine wl_call [] [0, 1, 2] rfl rfl rfl (freshS_eq rfl) rfl rfl fn_21 rfl (w_ropewalklaw09_number_s N 1 hc31) (fun _ _ hφ => ask [] rfl hφ) rfl (H' := [_,_,_]) rfl ?_
  rintro _ _ _ ⟨rfl, rfl, rfl⟩
  refine wl_fact (.sli 7 R_Api_ExprD none 0 ([] : List Api_ExprD)) (fun _ _ _ => sli_none) ?_
  refine wl_fact (.sli 7 R_Api_ExprD none 0 ([] : List Api_ExprD)) (fun _ _ _ => sli_none) ?_
  obtain ⟨_, hc32, hm⟩ := bindO_some hm
  try dsimp only at hm
  refine wl_call [] [0, 1, 2] rfl rfl rfl (freshS_eq rfl) rfl rfl fn_20 rfl (w_ropewalklaw09_op_s N 1 1 1 9223372036854775807 (⟨#[]⟩ : ByteArray) 0 0 none 0 ([] : List Api_ExprD) 1 1 1 (⟨#[]⟩ : ByteArray) 0 0 none 0 ([] : List Api_ExprD) hc32) (fun _ _ hφ => ask [1, 0] rfl hφ) rfl (H' := [_,_,_]) rfl ?_
  rintro _ _ _ ⟨c32_0, rfl, rfl, rfl⟩
  refine wl_fact (.sli 7 R_Api_ExprD none 0 ([] : List Api_ExprD)) (fun _ _ _ => sli_none) ?_
  refine wl_row (sz := 7) (m := 2) R_Api_ExprD ([(⟨1, (⟨1, 9223372036854775807, (⟨#[]⟩ : ByteArray)⟩ : V), 0, 0, ([] : List Api_ExprD)⟩ : Api_ExprD), (⟨1, (⟨1, 1, (⟨#[]⟩ : ByteArray)⟩ : V), 0, 0, ([] : List Api_ExprD)⟩ : Api_ExprD)]) 0 rfl (fun F w hφ => ⟨[.int .u8 1, .int .u8 1, .int .i64 9223372036854775807, .string ((⟨#[]⟩ : ByteArray)), .int .i64 0, .int .u8 0, .slice none (([] : List Api_ExprD).length) 0], [.int .u8 1, .int .u8 1, .int .i64 1, .string ((⟨#[]⟩ : ByteArray)), .int .i64 0, .int .u8 0, .slice none (([] : List Api_ExprD).length) 0], rfl, rfl, (rec_shut (none, 0) rfl (ask_cons (hφ _ (mem_at (k := 1) rfl)) ask_nil)), ⟨[.int .u8 1, .int .u8 1, .int .i64 1, .string ((⟨#[]⟩ : ByteArray)), .int .i64 0, .int .u8 0, .slice none (([] : List Api_ExprD).length) 0], [], rfl, rfl, (rec_shut (none, 0) rfl (ask_cons (hφ _ (mem_at (k := 2) rfl)) ask_nil)), rfl⟩⟩) rfl (by decide) (H' := [_,_,_,_]) rfl ?_
  obtain ⟨_, hc33, hm⟩ := bindO_some hm
  try dsimp only at hm
  refine wl_call [0] [1, 2, 3] rfl rfl rfl (freshS_eq rfl) rfl rfl fn_20 rfl (w_ropewalklaw09_op_v3_s N 7 1 1 9223372036854775807 (⟨#[]⟩ : ByteArray) 0 0 none 0 ([] : List Api_ExprD) 3 0 0 (⟨#[]⟩ : ByteArray) 0 1 (some ⟨c32_0, 0, none⟩) ([(⟨1, (⟨1, 9223372036854775807, (⟨#[]⟩ : ByteArray)⟩ : V), 0, 0, ([] : List Api_ExprD)⟩ : Api_ExprD), (⟨1, (⟨1, 1, (⟨#[]⟩ : ByteArray)⟩ : V), 0, 0, ([] : List Api_ExprD)⟩ : Api_ExprD)].length) 2 [(⟨1, (⟨1, 9223372036854775807, (⟨#[]⟩ : ByteArray)⟩ : V), 0, 0, ([] : List Api_ExprD)⟩ : Api_ExprD), (⟨1, (⟨1, 1, (⟨#[]⟩ : ByteArray)⟩ : V), 0, 0, ([] : List Api_ExprD)⟩ : Api_ExprD)] hc33) (fun _ _ hφ => ask [0] rfl hφ) rfl (H' := [_,_,_]) rfl ?_
  rintro _ _ _ ⟨c33_0, rfl, rfl, rfl⟩
  refine wl_pure rfl rfl rfl (freshS_eq rfl) rfl ?_
  refine wl_freeze 1 rfl (H' := [_,_,_,_]) rfl ?_
  refine wl_fact (.sli 7 R_Api_ExprD (some ⟨c32_0, 0, none⟩) 2 ([(⟨1, (⟨1, 9223372036854775807, (⟨#[]⟩ : ByteArray)⟩ : V), 0, 0, ([] : List Api_ExprD)⟩ : Api_ExprD), (⟨1, (⟨1, 1, (⟨#[]⟩ : ByteArray)⟩ : V), 0, 0, ([] : List Api_ExprD)⟩ : Api_ExprD)])) (fun F w hφ => own_sli (hφ _ (mem_at (k := 0) rfl))) ?_
  refine wl_row (sz := 7) (m := 2) R_Api_ExprD ([(⟨1, (⟨1, 9223372036854775807, (⟨#[]⟩ : ByteArray)⟩ : V), 0, 0, ([] : List Api_ExprD)⟩ : Api_ExprD), (⟨3, (⟨0, 0, (⟨#[]⟩ : ByteArray)⟩ : V), 0, 1, [(⟨1, (⟨1, 9223372036854775807, (⟨#[]⟩ : ByteArray)⟩ : V), 0, 0, ([] : List Api_ExprD)⟩ : Api_ExprD), (⟨1, (⟨1, 1, (⟨#[]⟩ : ByteArray)⟩ : V), 0, 0, ([] : List Api_ExprD)⟩ : Api_ExprD)]⟩ : Api_ExprD)]) 0 rfl (fun F w hφ => ⟨[.int .u8 1, .int .u8 1, .int .i64 9223372036854775807, .string ((⟨#[]⟩ : ByteArray)), .int .i64 0, .int .u8 0, .slice none (([] : List Api_ExprD).length) 0], [.int .u8 3, .int .u8 0, .int .i64 0, .string ((⟨#[]⟩ : ByteArray)), .int .i64 0, .int .u8 1, .slice (some ⟨c32_0, 0, none⟩) ([(⟨1, (⟨1, 9223372036854775807, (⟨#[]⟩ : ByteArray)⟩ : V), 0, 0, ([] : List Api_ExprD)⟩ : Api_ExprD), (⟨1, (⟨1, 1, (⟨#[]⟩ : ByteArray)⟩ : V), 0, 0, ([] : List Api_ExprD)⟩ : Api_ExprD)].length) 2], rfl, rfl, (rec_shut (none, 0) rfl (ask_cons (hφ _ (mem_at (k := 2) rfl)) ask_nil)), ⟨[.int .u8 3, .int .u8 0, .int .i64 0, .string ((⟨#[]⟩ : ByteArray)), .int .i64 0, .int .u8 1, .slice (some ⟨c32_0, 0, none⟩) ([(⟨1, (⟨1, 9223372036854775807, (⟨#[]⟩ : ByteArray)⟩ : V), 0, 0, ([] : List Api_ExprD)⟩ : Api_ExprD), (⟨1, (⟨1, 1, (⟨#[]⟩ : ByteArray)⟩ : V), 0, 0, ([] : List Api_ExprD)⟩ : Api_ExprD)].length) 2], [], rfl, rfl, (rec_shut (some ⟨c32_0, 0, none⟩, 2) rfl (ask_cons (hφ _ (mem_at (k := 0) rfl)) ask_nil)), rfl⟩⟩) rfl (by decide) (H' := [_,_,_,_]) rfl ?_
  obtain ⟨⟨v35_0, v35_1, v35_2, v35_3⟩, hc35, hm⟩ := bindO_some hm
  try dsimp only at hm
  refine wl_lend [] [0, 1, 2, 3] [0, 3] rfl rfl rfl (freshS_eq rfl) rfl rfl fn_10 rfl (w_expr_Eval_s N 3 0 0 (⟨#[]⟩ : ByteArray) 0 7 (some ⟨c33_0, 0, none⟩) 2 [(⟨1, (⟨1, 9223372036854775807, (⟨#[]⟩ : ByteArray)⟩ : V), 0, 0, ([] : List Api_ExprD)⟩ : Api_ExprD), (⟨3, (⟨0, 0, (⟨#[]⟩ : ByteArray)⟩ : V), 0, 1, [(⟨1, (⟨1, 9223372036854775807, (⟨#[]⟩ : ByteArray)⟩ : V), 0, 0, ([] : List Api_ExprD)⟩ : Api_ExprD), (⟨1, (⟨1, 1, (⟨#[]⟩ : ByteArray)⟩ : V), 0, 0, ([] : List Api_ExprD)⟩ : Api_ExprD)]⟩ : Api_ExprD)] (some ⟨g10, 0, none⟩) 1 [(⟨1, 20, (⟨#[]⟩ : ByteArray)⟩ : V)] _ _ _ _ hc35) (fun F w hφ hh => (ask_cons (own_sli (hh _ (mem_at (k := 0) rfl))) (ask_cons (own_sli (hh _ (mem_at (k := 1) rfl))) ask_nil))) (fun _ _ _ hR => by obtain ⟨rfl, rfl, rfl⟩ := hR; exact ⟨rfl, (fun _ h => free_nil h)⟩) rfl rfl (H' := [_,_,_,_]) rfl ?_
  rintro _ _ _ ⟨rfl, rfl, rfl⟩
  refine wl_pure rfl rfl rfl (freshS_eq rfl) rfl ?_
  refine wl_pure rfl rfl rfl (freshS_eq rfl) rfl ?_
  refine wl_pure rfl rfl rfl (freshS_eq rfl) rfl ?_
  refine wl_alloc rfl rfl rfl (freshS_eq rfl) rfl tZ_25 rfl (fun g7 => ?_)
  refine wl_store 0 0 rfl rfl rfl rfl rfl rfl rfl tS_25 rfl rfl rfl (all' := [_,_,_]) rfl (H' := [_,_,_,_,_]) rfl ?_
  refine wl_pure rfl rfl rfl (freshS_eq rfl) rfl ?_
  refine wl_nil ?_
  refine we_then ?_
  refine wc_keep [8, 6, 4, 3] (S' := [_,_,_,_]) rfl ?_
  refine wc_seq ?_
  obtain ⟨bj_2, hm, hLj_2⟩ := bindO_some hm
  unfold m_ropewalklaw09_awake_C2 at hm
  refine wc_cut (σ := Bool) (fun j_2_0 => bj_2 = j_2_0) (fun j_2_0 => [(0, .bool j_2_0)]) (fun j_2_0 => []) (fun j_2_0 => []) ?_ ?_
  ·
   refine wc_region ?_
   refine wl_pure rfl rfl rfl (freshS_eq rfl) rfl ?_
   refine wl_pure rfl rfl rfl (freshS_eq rfl) rfl ?_
   refine wl_as (d := 39) (v' := .bool (v19_3 == 0)) (S' := [_,_,_,_,_]) rfl rfl (nateq (a := v19_3) (b := 0)) ?_
   refine wl_pure rfl rfl rfl (freshS_eq rfl) rfl ?_
   refine wl_split (d := 40) (S' := [_,_,_,_,_,_]) rfl rfl (fun hs40 => ?_) (fun hs40 => ?_)
   ·
    replace hm := iteT hm hs40
    refine wl_fieldAddr rfl rfl rfl (freshS_eq rfl) rfl rfl tF_25_1 ?_
    refine wl_loadH 3 1 rfl rfl rfl (freshS_eq rfl) rfl rfl rfl (cs := [_]) rfl tS_2 tA_2 rfl rfl ?_
    refine wl_pure rfl rfl rfl (freshS_eq rfl) rfl ?_
    refine wl_pure rfl rfl rfl (freshS_eq rfl) rfl ?_
    refine wl_pure rfl rfl rfl (freshS_eq rfl) rfl ?_
    refine wl_split (d := 45) (S' := [_,_,_,_,_,_,_,_,_,_,_]) rfl rfl (fun hs45 => ?_) (fun hs45 => ?_)
    ·
     replace hm := iteT hm hs45
     refine wl_fieldAddr rfl rfl rfl (freshS_eq rfl) rfl rfl tF_25_0 ?_
     refine wl_loadH 3 0 rfl rfl rfl (freshS_eq rfl) rfl rfl rfl (cs := [_]) rfl tS_23 tA_23 rfl rfl ?_
     refine wl_pure rfl rfl rfl (freshS_eq rfl) rfl ?_
     refine wl_pure rfl rfl rfl (freshS_eq rfl) rfl ?_
     refine wl_pure rfl rfl rfl (freshS_eq rfl) rfl ?_
     refine wl_split (d := 50) (S' := [_,_,_,_,_,_,_,_,_,_,_,_,_,_,_,_]) rfl rfl (fun hs50 => ?_) (fun hs50 => ?_)
     ·
      replace hm := iteT hm hs50
      refine wl_pure rfl rfl rfl (freshS_eq rfl) rfl ?_
      refine wl_pure rfl rfl rfl (freshS_eq rfl) rfl ?_
      refine wl_as (d := 52) (v' := .bool (v25_3 == 2)) (S' := [_,_,_,_,_,_,_,_,_,_,_,_,_,_,_,_,_,_]) rfl rfl (nateq (a := v25_3) (b := 2)) ?_
      refine wl_pure rfl rfl rfl (freshS_eq rfl) rfl ?_
      refine wl_pure rfl rfl rfl (freshS_eq rfl) rfl ?_
      refine wl_split (d := 54) (S' := [_,_,_,_,_,_,_,_,_,_,_,_,_,_,_,_,_,_,_,_]) rfl rfl (fun hs54 => ?_) (fun hs54 => ?_)
      ·
       replace hm := iteT hm hs54
       refine wl_pure rfl rfl rfl (freshS_eq rfl) rfl ?_
       refine wl_pure rfl rfl rfl (freshS_eq rfl) rfl ?_
       refine wl_as (d := 56) (v' := .bool (v35_3 == 300)) (S' := [_,_,_,_,_,_,_,_,_,_,_,_,_,_,_,_,_,_,_,_,_,_]) rfl rfl (nateq (a := v35_3) (b := 300)) ?_
       refine wl_pure rfl rfl rfl (freshS_eq rfl) rfl ?_
       refine wl_pure rfl rfl rfl (freshS_eq rfl) rfl ?_
       refine wl_nil ?_
       have hE := (Option.some.inj hm).symm
       refine we_pick [] rfl (H' := []) rfl ?_
       refine we_join (v35_3 == 300) hE [0] rfl (fun _ _ hφ => ask [] rfl hφ) rfl
      ·
       replace hm := iteF hm hs54
       refine wl_off rfl rfl rfl (freshS_eq rfl) ?_
       refine wl_off rfl rfl rfl (freshS_eq rfl) ?_
       refine wl_pure rfl rfl rfl (freshS_eq rfl) rfl ?_
       refine wl_pure rfl rfl rfl (freshS_eq rfl) rfl ?_
       refine wl_nil ?_
       have hE := (Option.some.inj hm).symm
       refine we_pick [] rfl (H' := []) rfl ?_
       refine we_join false hE [0] rfl (fun _ _ hφ => ask [] rfl hφ) rfl
     ·
      replace hm := iteF hm hs50
      refine wl_off rfl rfl rfl (freshS_eq rfl) ?_
      refine wl_off rfl rfl rfl (freshS_eq rfl) ?_
      refine wl_pure rfl rfl rfl (freshS_eq rfl) rfl ?_
      refine wl_pure rfl rfl rfl (freshS_eq rfl) rfl ?_
      refine wl_off rfl rfl rfl (freshS_eq rfl) ?_
      refine wl_off rfl rfl rfl (freshS_eq rfl) ?_
      refine wl_pure rfl rfl rfl (freshS_eq rfl) rfl ?_
      refine wl_pure rfl rfl rfl (freshS_eq rfl) rfl ?_
      refine wl_nil ?_
      have hE := (Option.some.inj hm).symm
      refine we_pick [] rfl (H' := []) rfl ?_
      refine we_join false hE [0] rfl (fun _ _ hφ => ask [] rfl hφ) rfl
    ·
     replace hm := iteF hm hs45
     refine wl_off rfl rfl rfl (freshS_eq rfl) ?_
     refine wl_off rfl rfl rfl (freshS_eq rfl) ?_
     refine wl_off rfl rfl rfl (freshS_eq rfl) ?_
     refine wl_pure rfl rfl rfl (freshS_eq rfl) rfl ?_
     refine wl_pure rfl rfl rfl (freshS_eq rfl) rfl ?_
     refine wl_off rfl rfl rfl (freshS_eq rfl) ?_
     refine wl_off rfl rfl rfl (freshS_eq rfl) ?_
     refine wl_pure rfl rfl rfl (freshS_eq rfl) rfl ?_
     refine wl_pure rfl rfl rfl (freshS_eq rfl) rfl ?_
     refine wl_off rfl rfl rfl (freshS_eq rfl) ?_
     refine wl_off rfl rfl rfl (freshS_eq rfl) ?_
     refine wl_pure rfl rfl rfl (freshS_eq rfl) rfl ?_
     refine wl_pure rfl rfl rfl (freshS_eq rfl) rfl ?_
     refine wl_nil ?_
     have hE := (Option.some.inj hm).symm
     refine we_pick [] rfl (H' := []) rfl ?_
     refine we_join false hE [0] rfl (fun _ _ hφ => ask [] rfl hφ) rfl
   ·
    replace hm := iteF hm hs40
    refine wl_off rfl rfl rfl (freshS_eq rfl) ?_
    refine wl_off rfl rfl rfl (freshS_eq rfl) ?_
    refine wl_off rfl rfl rfl (freshS_eq rfl) ?_
    refine wl_pure rfl rfl rfl (freshS_eq rfl) rfl ?_
    refine wl_pure rfl rfl rfl (freshS_eq rfl) rfl ?_
    refine wl_off rfl rfl rfl (freshS_eq rfl) ?_
    refine wl_off rfl rfl rfl (freshS_eq rfl) ?_
    refine wl_off rfl rfl rfl (freshS_eq rfl) ?_
    refine wl_pure rfl rfl rfl (freshS_eq rfl) rfl ?_
    refine wl_pure rfl rfl rfl (freshS_eq rfl) rfl ?_
    refine wl_off rfl rfl rfl (freshS_eq rfl) ?_
    refine wl_off rfl rfl rfl (freshS_eq rfl) ?_
    refine wl_pure rfl rfl rfl (freshS_eq rfl) rfl ?_
    refine wl_pure rfl rfl rfl (freshS_eq rfl) rfl ?_
    refine wl_off rfl rfl rfl (freshS_eq rfl) ?_
    refine wl_off rfl rfl rfl (freshS_eq rfl) ?_
    refine wl_pure rfl rfl rfl (freshS_eq rfl) rfl ?_
    refine wl_pure rfl rfl rfl (freshS_eq rfl) rfl ?_
    refine wl_nil ?_
    have hE := (Option.some.inj hm).symm
    refine we_pick [] rfl (H' := []) rfl ?_
    refine we_join false hE [0] rfl (fun _ _ hφ => ask [] rfl hφ) rfl
  ·
   rintro j_2_0 hE
   try dsimp only
   have hm := hLj_2
   rw [hE] at hm
   refine wc_ret ?_
   have hE := (Option.some.inj hm).symm
   replace hE := hE.symm
   subst hE
   refine ret_one (Hr := []) [] Tryd.results6 (res_tmp rfl) ⟨rfl, rfl, rfl⟩ (fun _ _ hφ => ask [] rfl hφ) rfl rfl (.inl rfl)
set_option maxRecDepth 100000 in
set_option maxHeartbeats 4000000 in
theorem w_ropewalkkit_ExprsOf_s_b (N : Nat) (rc : (List Api_ExprD) → Int → Option (Int)) (ih : ∀ (qp0 : Option Addr) (qc1 : Nat) (l0 : List Api_ExprD) (a1 : Int) (o0 : Int), rc l0 a1 = some o0 → Spec Tryd.prog 22 [.slice qp0 l0.length qc1, .int .i64 a1] [.sli 7 R_Api_ExprD qp0 qc1 l0] [] (fun v Φr Hr => v = .int .i64 o0 ∧ Φr = [] ∧ Hr = [])) (qp0 : Option Addr) (qc1 : Nat) (l0 : List Api_ExprD) (a1 : Int) (o0 : Int) (hm : m_ropewalkkit_ExprsOf_b N rc l0 a1 = some o0) : Spec Tryd.prog 22 [.slice qp0 l0.length qc1, .int .i64 a1] [.sli 7 R_Api_ExprD qp0 qc1 l0] [] (fun v Φr Hr => v = .int .i64 o0 ∧ Φr = [] ∧ Hr = []) := by
 unfold m_ropewalkkit_ExprsOf_b at hm
 refine spec_of Tryd.func22 rfl Tryd.ntmps22 rfl (S := [_,_]) rfl (fun C => ?_)
 refine wc_seq ?_
 refine wc_region ?_
 refine wl_pure rfl rfl rfl (freshS_eq rfl) rfl ?_
 refine wl_nil ?_
 refine we_then ?_
 refine wc_keep [0, 1] (S' := [_,_]) rfl ?_
 refine wc_seq ?_
 refine wc_region ?_
 refine wl_pure rfl rfl rfl (freshS_eq rfl) rfl ?_
 refine wl_nil ?_
 refine we_then ?_
 refine wc_seq ?_
 obtain ⟨bj_1, hm, hLj_1⟩ := bindO_some hm
 refine wc_cut (σ := Int) (fun j_1_5 => bj_1 = j_1_5) (fun j_1_5 => [(1, .int .i64 a1), (5, .int .i64 j_1_5)]) (fun j_1_5 => []) (fun j_1_5 => []) ?_ ?_
 ·
  refine wc_seq ?_
  refine wc_region ?_
  refine wl_pure rfl rfl rfl (freshS_eq rfl) rfl ?_
  refine wl_nil ?_
  refine we_then ?_
  refine wc_block ?_
  refine wc_loop (σ := Nat × Nat × Int) (fun (nu1, u1_6, u1_5) => iter (m_ropewalkkit_ExprsOf_L1 N l0 a1 rc) nu1 (u1_6, u1_5) = some bj_1) (fun (nu1, u1_6, u1_5) => nu1) (fun (nu1, u1_6, u1_5) => [(6, .int .i64 ((u1_6 : Nat) : Int)), (5, .int .i64 u1_5), (0, .slice qp0 l0.length qc1), (1, .int .i64 a1)]) (fun (nu1, u1_6, u1_5) => [.sli 7 R_Api_ExprD qp0 qc1 l0]) (fun (nu1, u1_6, u1_5) => []) (N, 0, 0) hm [6, 5, 0, 1] rfl (fun _ _ hφ => ask [0] rfl hφ) rfl (fun s_ hm => ?_)
  obtain ⟨nu1, u1_6, u1_5⟩ := s_
  try dsimp only at hm ⊢
  obtain ⟨mu1, bu1, hnu1, hq, hLu1⟩ := iter_some hm
  clear hm
  subst hnu1
  replace hm := hq
  clear hq
  unfold m_ropewalkkit_ExprsOf_L1 at hm
  try dsimp only at hm
  refine wc_seq ?_
  refine wc_seq ?_
  obtain ⟨bj_2, hm, hLj_2⟩ := bindO_some hm
  refine wc_cut (σ := Bool) (fun j_2_15 => bj_2 = j_2_15) (fun j_2_15 => [(6, .int .i64 ((u1_6 : Nat) : Int)), (5, .int .i64 u1_5), (0, .slice qp0 l0.length qc1), (1, .int .i64 a1), (15, .bool j_2_15)]) (fun j_2_15 => [.sli 7 R_Api_ExprD qp0 qc1 l0]) (fun j_2_15 => []) ?_ ?_
  ·
   refine wc_region ?_
   refine wl_pure rfl rfl rfl (freshS_eq rfl) rfl ?_
   refine wl_pure rfl rfl rfl (freshS_eq rfl) rfl ?_
   refine wl_len rfl rfl rfl (freshS_eq rfl) rfl rfl tE_27 ?_
   refine wl_pure rfl rfl rfl (freshS_eq rfl) rfl ?_
   refine wl_as (d := 10) (v' := .bool (decide (u1_6 < l0.length))) (S' := [_,_,_,_,_,_,_]) rfl rfl (natlt (a := u1_6) (b := l0.length)) ?_
   refine wl_pure rfl rfl rfl (freshS_eq rfl) rfl ?_
   refine wl_split (d := 11) (S' := [_,_,_,_,_,_,_,_]) rfl rfl (fun hs11 => ?_) (fun hs11 => ?_)
   ·
    replace hm := iteT hm hs11
    refine wl_pure rfl rfl rfl (freshS_eq rfl) rfl ?_
    refine wl_pure rfl rfl rfl (freshS_eq rfl) rfl ?_
    refine wl_pure rfl rfl rfl (freshS_eq rfl) rfl ?_
    refine wl_pure rfl rfl rfl (freshS_eq rfl) rfl ?_
    refine wl_nil ?_
    have hE := (Option.some.inj hm).symm
    refine we_join (decide (u1_5 ≤ a1)) hE [6, 5, 0, 1, 15] rfl (fun _ _ hφ => ask [0] rfl hφ) rfl
   ·
    replace hm := iteF hm hs11
    refine wl_off rfl rfl rfl (freshS_eq rfl) ?_
    refine wl_off rfl rfl rfl (freshS_eq rfl) ?_
    refine wl_off rfl rfl rfl (freshS_eq rfl) ?_
    refine wl_pure rfl rfl rfl (freshS_eq rfl) rfl ?_
    refine wl_nil ?_
    have hE := (Option.some.inj hm).symm
    refine we_join false hE [6, 5, 0, 1, 15] rfl (fun _ _ hφ => ask [0] rfl hφ) rfl
  ·
   rintro j_2_15 hE
   try dsimp only
   have hm := hLj_2
   rw [hE] at hm
   refine wc_cond rfl (fun hb15 => ?_) (fun hb15 => ?_)
   ·
    replace hm := iteT hm hb15
    refine wc_keep [6, 5, 0, 1] (S' := [_,_,_,_]) rfl ?_
    refine wc_skip ?_
    refine we_then ?_
    refine wc_seq ?_
    refine wc_block ?_
    refine wc_region ?_
    refine wl_pure rfl rfl rfl (freshS_eq rfl) rfl ?_
    refine wl_pure rfl rfl rfl (freshS_eq rfl) rfl ?_
    obtain ⟨hg19, hm⟩ := gd_some hm
    refine wl_as (d := 19) (v' := .int .i64 (u1_5 + 1)) (S' := [_,_,_,_,_]) rfl rfl (i64_in hg19) ?_
    refine wl_pure rfl rfl rfl (freshS_eq rfl) rfl ?_
    refine wl_pure rfl rfl rfl (freshS_eq rfl) rfl ?_
    obtain ⟨x22, hx22, hm⟩ := bindO_some hm
    refine wl_indexA 0 u1_6 rfl rfl rfl (freshS_eq rfl) rfl rfl rfl rfl rfl hx22 tE_27 tS_29 (fun b22 q22 cs22 hlx22 => ?_)
    refine wl_open R_Api_ExprD_opens 1 rfl (fun r22 er22 _ => ?_)
    subst er22
    refine wl_fieldAddr rfl rfl rfl (freshS_eq rfl) rfl rfl tF_29_4 ?_
    refine wl_load 1 6 rfl rfl rfl (freshS_eq rfl) rfl rfl rfl (cs := [_]) rfl tS_27 tA_27 rfl rfl ?_
    refine wl_pure rfl rfl rfl (freshS_eq rfl) rfl ?_
    refine wl_pure rfl rfl rfl (freshS_eq rfl) rfl ?_
    refine wl_pure rfl rfl rfl (freshS_eq rfl) rfl ?_
    obtain ⟨hg27, hm⟩ := gd_some hm
    refine wl_as (d := 27) (v' := .int .i64 (a1 - u1_5)) (S' := [_,_,_,_,_,_,_,_,_,_,_,_,_]) rfl rfl (i64_in hg27) ?_
    refine wl_pure rfl rfl rfl (freshS_eq rfl) rfl ?_
    obtain ⟨hg28, hm⟩ := gd_some hm
    refine wl_as (d := 28) (v' := .int .i64 ((a1 - u1_5) - 1)) (S' := [_,_,_,_,_,_,_,_,_,_,_,_,_,_]) rfl rfl (i64_in hg28) ?_
    obtain ⟨v29, hc29, hm⟩ := bindO_some hm
    refine wl_call [] [] rfl rfl rfl (freshS_eq rfl) rfl rfl fn_22 rfl (ih r22.1 r22.2 x22.kids ((a1 - u1_5) - 1) _ hc29) (fun _ _ hφ => ask [0] rfl hφ) rfl (H' := []) rfl ?_
    rintro _ _ _ ⟨rfl, rfl, rfl⟩
    refine wl_pure rfl rfl rfl (freshS_eq rfl) rfl ?_
    obtain ⟨hg30, hm⟩ := gd_some hm
    refine wl_as (d := 30) (v' := .int .i64 ((u1_5 + 1) + v29)) (S' := [_,_,_,_,_,_,_,_,_,_,_,_,_,_,_,_]) rfl rfl (i64_in hg30) ?_
    refine wl_pure (S' := [_,_,_,_,_,_,_,_,_,_,_,_,_,_,_,_]) rfl rfl rfl rfl rfl ?_
    refine wl_nil ?_
    refine we_block_normal ?_
    refine we_then ?_
    refine wc_keep [5, 6, 0, 1] (S' := [_,_,_,_]) rfl ?_
    refine wc_region ?_
    refine wl_pure rfl rfl rfl (freshS_eq rfl) rfl ?_
    refine wl_pure rfl rfl rfl (freshS_eq rfl) rfl ?_
    obtain ⟨hg17, hm⟩ := gd_some hm
    refine wl_as (d := 17) (v' := .int .i64 ((u1_6 + 1 : Nat) : Int)) (S' := [_,_,_,_,_]) rfl rfl (nat_add (a := u1_6) (b := 1) hg17) ?_
    refine wl_pure (S' := [_,_,_,_,_]) rfl rfl rfl rfl rfl ?_
    refine wl_nil ?_
    have hE := (Option.some.inj hm).symm
    replace hE := link_inl hLu1 hE
    refine we_roundK (_, u1_6 + 1, (u1_5 + 1) + v29) (Nat.lt_succ_self _) hE [6, 5, 0, 1] rfl (fun _ _ hφ => ask [3] rfl hφ) rfl
   ·
    replace hm := iteF hm hb15
    refine wc_keep [5, 1] (S' := [_,_]) rfl ?_
    refine wc_exit ?_
    refine we_then_exit ?_
    refine we_then_exit ?_
    refine we_block_hit ?_
    have hE := (Option.some.inj hm).symm
    replace hE := link_inr hLu1 hE
    refine we_join u1_5 hE [1, 5] rfl (fun _ _ hφ => ask [] rfl hφ) rfl
 ·
  rintro j_1_5 hE
  try dsimp only
  have hm := hLj_1
  rw [hE] at hm
  refine wc_seq ?_
  refine wc_region ?_
  refine wl_pure rfl rfl rfl (freshS_eq rfl) rfl ?_
  refine wl_pure rfl rfl rfl (freshS_eq rfl) rfl ?_
  refine wl_pure rfl rfl rfl (freshS_eq rfl) rfl ?_
  obtain ⟨hg33, hm⟩ := gd_some hm
  refine wl_as (d := 33) (v' := .int .i64 (a1 + 1)) (S' := [_,_,_,_]) rfl rfl (i64_in hg33) ?_
  refine wl_reck rfl rfl rfl (freshS_eq rfl) (rk_min rfl rfl rfl) ?_
  refine wl_pure rfl rfl rfl (freshS_eq rfl) rfl ?_
  refine wl_nil ?_
  refine we_then ?_
  refine wc_keep [4] (S' := [_]) rfl ?_
  refine wc_ret ?_
  have hE := (Option.some.inj hm).symm
  replace hE := hE.symm
  subst hE
  refine ret_one (Hr := []) [] Tryd.results22 (res_tmp rfl) ⟨rfl, rfl, rfl⟩ (fun _ _ hφ => ask [] rfl hφ) rfl rfl (.inl rfl)
theorem w_ropewalkkit_ExprsOf_s : ∀ (N : Nat), ∀ (qp0 : Option Addr) (qc1 : Nat) (l0 : List Api_ExprD) (a1 : Int) (o0 : Int), m_ropewalkkit_ExprsOf N l0 a1 = some o0 → Spec Tryd.prog 22 [.slice qp0 l0.length qc1, .int .i64 a1] [.sli 7 R_Api_ExprD qp0 qc1 l0] [] (fun v Φr Hr => v = .int .i64 o0 ∧ Φr = [] ∧ Hr = []) := by
  intro N
  induction N with
  | zero => intro qp0 qc1 l0 a1 o0 hm; cases hm
  | succ N ih => intro qp0 qc1 l0 a1 o0 hm; exact w_ropewalkkit_ExprsOf_s_b N (m_ropewalkkit_ExprsOf N) ih qp0 qc1 l0 a1 o0 hm
set_option maxRecDepth 100000 in
set_option maxHeartbeats 4000000 in
theorem w_ropewalklaw09_light_s (N : Nat) (qp0 : Option Addr) (qc1 : Nat) (l0 : List V) (qp2 : Option Addr) (qc3 : Nat) (l1 : List Api_ExprD) (o0 : Bool) (hm : m_ropewalklaw09_light N l0 l1 = some o0) : Spec Tryd.prog 7 [.slice qp0 l0.length qc1, .slice qp2 l1.length qc3] [.sli 3 R_V qp0 qc1 l0, .sli 7 R_Api_ExprD qp2 qc3 l1] [] (fun v Φr Hr => v = .bool o0 ∧ Φr = [] ∧ Hr = []) := by
 unfold m_ropewalklaw09_light at hm
 refine spec_of Tryd.func7 rfl Tryd.ntmps7 rfl (S := [_,_]) rfl (fun C => ?_)
 refine wc_seq ?_
 refine wc_region ?_
 refine wl_pure rfl rfl rfl (freshS_eq rfl) rfl ?_
 refine wl_nil ?_
 refine we_then ?_
 refine wc_keep [0, 1] (S' := [_,_]) rfl ?_
 refine wc_seq ?_
 obtain ⟨bj_1, hm, hLj_1⟩ := bindS_some hm
 refine wc_cut (σ := Unit) (fun _ => bj_1 = .inl ()) (fun _ => [(0, .slice qp0 l0.length qc1), (1, .slice qp2 l1.length qc3)]) (fun _ => [.sli 3 R_V qp0 qc1 l0, .sli 7 R_Api_ExprD qp2 qc3 l1]) (fun _ => []) ?_ ?_
 ·
  refine wc_seq ?_
  refine wc_region ?_
  refine wl_pure rfl rfl rfl (freshS_eq rfl) rfl ?_
  refine wl_nil ?_
  refine we_then ?_
  refine wc_block ?_
  refine wc_loop (σ := Nat × Nat) (fun (nu1, u1_5) => iter (m_ropewalklaw09_light_L1 N l0) nu1 u1_5 = some bj_1) (fun (nu1, u1_5) => nu1) (fun (nu1, u1_5) => [(5, .int .i64 ((u1_5 : Nat) : Int)), (0, .slice qp0 l0.length qc1), (1, .slice qp2 l1.length qc3)]) (fun (nu1, u1_5) => [.sli 3 R_V qp0 qc1 l0, .sli 7 R_Api_ExprD qp2 qc3 l1]) (fun (nu1, u1_5) => []) (N, 0) hm [5, 0, 1] rfl (fun _ _ hφ => ask [0, 1] rfl hφ) rfl (fun s_ hm => ?_)
  obtain ⟨nu1, u1_5⟩ := s_
  try dsimp only at hm ⊢
  obtain ⟨mu1, bu1, hnu1, hq, hLu1⟩ := iter_some hm
  clear hm
  subst hnu1
  replace hm := hq
  clear hq
  unfold m_ropewalklaw09_light_L1 at hm
  try dsimp only at hm
  refine wc_seq ?_
  refine wc_seq ?_
  refine wc_region ?_
  refine wl_pure rfl rfl rfl (freshS_eq rfl) rfl ?_
  refine wl_pure rfl rfl rfl (freshS_eq rfl) rfl ?_
  refine wl_len rfl rfl rfl (freshS_eq rfl) rfl rfl tE_30 ?_
  refine wl_pure rfl rfl rfl (freshS_eq rfl) rfl ?_
  refine wl_as (d := 9) (v' := .bool (decide (u1_5 < l0.length))) (S' := [_,_,_,_,_,_]) rfl rfl (natlt (a := u1_5) (b := l0.length)) ?_
  refine wl_nil ?_
  refine we_then ?_
  refine wc_keep [9, 5, 0, 1] (S' := [_,_,_,_]) rfl ?_
  refine wc_cond rfl (fun hb9 => ?_) (fun hb9 => ?_)
  ·
   replace hm := iteT hm hb9
   refine wc_keep [5, 0, 1] (S' := [_,_,_]) rfl ?_
   refine wc_skip ?_
   refine we_then ?_
   refine wc_seq ?_
   refine wc_block ?_
   refine wc_seq ?_
   refine wc_region ?_
   refine wl_pure rfl rfl rfl (freshS_eq rfl) rfl ?_
   refine wl_pure rfl rfl rfl (freshS_eq rfl) rfl ?_
   obtain ⟨x14, hx14, hm⟩ := bindO_some hm
   refine wl_indexA 0 u1_5 rfl rfl rfl (freshS_eq rfl) rfl rfl rfl rfl rfl hx14 tE_30 tS_25 (fun b14 q14 cs14 hlx14 => ?_)
   refine wl_open R_V_opens 1 rfl (fun r14 er14 _ => ?_)
   subst er14
   refine wl_fieldAddr rfl rfl rfl (freshS_eq rfl) rfl rfl tF_25_2 ?_
   refine wl_load 0 2 rfl rfl rfl (freshS_eq rfl) rfl rfl rfl (cs := [_]) rfl tS_9 tA_9 rfl rfl ?_
   refine wl_reck rfl rfl rfl (freshS_eq rfl) (rk_strLen rfl rfl tT_9) ?_
   refine wl_pure rfl rfl rfl (freshS_eq rfl) rfl ?_
   refine wl_as (d := 18) (v' := .bool (decide (300 < x14.s.size))) (S' := [_,_,_,_,_,_,_,_,_]) rfl rfl (natgt (a := x14.s.size) (b := 300)) ?_
   refine wl_nil ?_
   refine we_then ?_
   refine wc_keep [18, 5, 0, 1] (S' := [_,_,_,_]) rfl ?_
   refine wc_cond rfl (fun hb18 => ?_) (fun hb18 => ?_)
   ·
    replace hm := iteT hm hb18
    refine wc_keep [] (S' := []) rfl ?_
    refine wc_seq ?_
    refine wc_region ?_
    refine wl_pure rfl rfl rfl (freshS_eq rfl) rfl ?_
    refine wl_nil ?_
    refine we_then ?_
    refine wc_ret ?_
    refine we_block_ret ?_
    refine we_then_ret ?_
    refine we_then_ret ?_
    refine we_block_ret ?_
    refine we_then_ret ?_
    have hE := (Option.some.inj hm).symm
    replace hE := link_inr hLu1 hE
    replace hE := link_inr hLj_1 hE
    replace hE := hE.symm
    subst hE
    refine ret_one (Hr := []) [] Tryd.results7 (res_tmp rfl) ⟨rfl, rfl, rfl⟩ (fun _ _ hφ => ask [] rfl hφ) rfl rfl (.inl rfl)
   ·
    replace hm := iteF hm hb18
    refine wc_keep [5, 0, 1] (S' := [_,_,_]) rfl ?_
    refine wc_skip ?_
    refine we_block_normal ?_
    refine we_then ?_
    refine wc_region ?_
    refine wl_pure rfl rfl rfl (freshS_eq rfl) rfl ?_
    refine wl_pure rfl rfl rfl (freshS_eq rfl) rfl ?_
    obtain ⟨hg11, hm⟩ := gd_some hm
    refine wl_as (d := 11) (v' := .int .i64 ((u1_5 + 1 : Nat) : Int)) (S' := [_,_,_,_]) rfl rfl (nat_add (a := u1_5) (b := 1) hg11) ?_
    refine wl_pure (S' := [_,_,_,_]) rfl rfl rfl rfl rfl ?_
    refine wl_nil ?_
    have hE := (Option.some.inj hm).symm
    replace hE := link_inl hLu1 hE
    refine we_roundK (_, u1_5 + 1) (Nat.lt_succ_self _) hE [5, 0, 1] rfl (fun _ _ hφ => ask [2, 3] rfl hφ) rfl
  ·
   replace hm := iteF hm hb9
   refine wc_keep [0, 1] (S' := [_,_]) rfl ?_
   refine wc_exit ?_
   refine we_then_exit ?_
   refine we_then_exit ?_
   refine we_block_hit ?_
   have hE := (Option.some.inj hm).symm
   replace hE := link_inr hLu1 hE
   refine we_join () hE [0, 1] rfl (fun _ _ hφ => ask [0, 1] rfl hφ) rfl
 ·
  rintro _ hE
  try dsimp only
  have hm := link_inl hLj_1 hE
  try dsimp only at hm
  refine wc_seq ?_
  refine wc_region ?_
  refine wl_pure rfl rfl rfl (freshS_eq rfl) rfl ?_
  refine wl_len rfl rfl rfl (freshS_eq rfl) rfl rfl tE_30 ?_
  refine wl_pure rfl rfl rfl (freshS_eq rfl) rfl ?_
  refine wl_as (d := 21) (v' := .bool (decide (l0.length ≤ 30))) (S' := [_,_,_,_]) rfl rfl (natle (a := l0.length) (b := 30)) ?_
  refine wl_pure rfl rfl rfl (freshS_eq rfl) rfl ?_
  refine wl_split (d := 22) (S' := [_,_,_,_,_]) rfl rfl (fun hs22 => ?_) (fun hs22 => ?_)
  ·
   replace hm := iteT hm hs22
   refine wl_pure rfl rfl rfl (freshS_eq rfl) rfl ?_
   refine wl_len rfl rfl rfl (freshS_eq rfl) rfl rfl tE_27 ?_
   refine wl_pure rfl rfl rfl (freshS_eq rfl) rfl ?_
   refine wl_as (d := 25) (v' := .bool (decide (l1.length ≤ 30))) (S' := [_,_,_,_,_,_,_,_]) rfl rfl (natle (a := l1.length) (b := 30)) ?_
   refine wl_pure rfl rfl rfl (freshS_eq rfl) rfl ?_
   refine wl_pure rfl rfl rfl (freshS_eq rfl) rfl ?_
   refine wl_split (d := 27) (S' := [_,_,_,_,_,_,_,_,_,_]) rfl rfl (fun hs27 => ?_) (fun hs27 => ?_)
   ·
    replace hm := iteT hm hs27
    refine wl_pure rfl rfl rfl (freshS_eq rfl) rfl ?_
    obtain ⟨v29, hc29, hm⟩ := bindO_some hm
    refine wl_call [] [] rfl rfl rfl (freshS_eq rfl) rfl rfl fn_22 rfl (w_ropewalkkit_ExprsOf_s N qp2 qc3 l1 300 _ hc29) (fun _ _ hφ => ask [1] rfl hφ) rfl (H' := []) rfl ?_
    rintro _ _ _ ⟨rfl, rfl, rfl⟩
    refine wl_pure rfl rfl rfl (freshS_eq rfl) rfl ?_
    refine wl_pure rfl rfl rfl (freshS_eq rfl) rfl ?_
    refine wl_pure rfl rfl rfl (freshS_eq rfl) rfl ?_
    refine wl_nil ?_
    refine we_then ?_
    refine wc_keep [4] (S' := [_]) rfl ?_
    refine wc_ret ?_
    have hE := (Option.some.inj hm).symm
    replace hE := hE.symm
    subst hE
    refine ret_one (Hr := []) [] Tryd.results7 (res_tmp rfl) ⟨rfl, rfl, rfl⟩ (fun _ _ hφ => ask [] rfl hφ) rfl rfl (.inl rfl)
   ·
    replace hm := iteF hm hs27
    refine wl_off rfl rfl rfl (freshS_eq rfl) ?_
    refine wl_off rfl rfl rfl (freshS_eq rfl) ?_
    refine wl_off rfl rfl rfl (freshS_eq rfl) ?_
    refine wl_pure rfl rfl rfl (freshS_eq rfl) rfl ?_
    refine wl_pure rfl rfl rfl (freshS_eq rfl) rfl ?_
    refine wl_nil ?_
    refine we_then ?_
    refine wc_keep [4] (S' := [_]) rfl ?_
    refine wc_ret ?_
    have hE := (Option.some.inj hm).symm
    replace hE := hE.symm
    subst hE
    refine ret_one (Hr := []) [] Tryd.results7 (res_tmp rfl) ⟨rfl, rfl, rfl⟩ (fun _ _ hφ => ask [] rfl hφ) rfl rfl (.inl rfl)
  ·
   replace hm := iteF hm hs22
   refine wl_off rfl rfl rfl (freshS_eq rfl) ?_
   refine wl_off rfl rfl rfl (freshS_eq rfl) ?_
   refine wl_off rfl rfl rfl (freshS_eq rfl) ?_
   refine wl_pure rfl rfl rfl (freshS_eq rfl) rfl ?_
   refine wl_pure rfl rfl rfl (freshS_eq rfl) rfl ?_
   refine wl_off rfl rfl rfl (freshS_eq rfl) ?_
   refine wl_off rfl rfl rfl (freshS_eq rfl) ?_
   refine wl_off rfl rfl rfl (freshS_eq rfl) ?_
   refine wl_pure rfl rfl rfl (freshS_eq rfl) rfl ?_
   refine wl_pure rfl rfl rfl (freshS_eq rfl) rfl ?_
   refine wl_nil ?_
   refine we_then ?_
   refine wc_keep [4] (S' := [_]) rfl ?_
   refine wc_ret ?_
   have hE := (Option.some.inj hm).symm
   replace hE := hE.symm
   subst hE
   refine ret_one (Hr := []) [] Tryd.results7 (res_tmp rfl) ⟨rfl, rfl, rfl⟩ (fun _ _ hφ => ask [] rfl hφ) rfl rfl (.inl rfl)
set_option maxRecDepth 100000 in
set_option maxHeartbeats 4000000 in
theorem w_expr_All_s (N : Nat) (qp0 : Option Addr) (qc1 : Nat) (l0 : List V) (qp2 : Option Addr) (qc3 : Nat) (l1 : List Api_ExprD) (o2 : List V) (o4 : Nat) (hm : m_expr_All N l0 l1 = some (o2, o4)) : Spec Tryd.prog 14 [.slice qp0 l0.length qc1, .slice qp2 l1.length qc3] [.sli 3 R_V qp0 qc1 l0, .sli 7 R_Api_ExprD qp2 qc3 l1] [] (fun v Φr Hr => ∃ (o0 : Option Addr) (o1 : Nat) (o3 : Nat), v = .tuple #[.slice o0 o3 o1, .int .i64 ((o4 : Nat) : Int)] ∧ Φr = [] ∧ Hr = [.own 25 3 R_V (.slice o0 o3 o1) o2]) := by
 unfold m_expr_All at hm
 refine spec_of Tryd.func14 rfl Tryd.ntmps14 rfl (S := [_,_]) rfl (fun C => ?_)
 refine wc_seq ?_
 refine wc_region ?_
 refine wl_pure rfl rfl rfl (freshS_eq rfl) rfl ?_
 refine wl_pure rfl rfl rfl (freshS_eq rfl) rfl ?_
 refine wl_nil ?_
 refine we_then ?_
 refine wc_keep [0, 1] (S' := [_,_]) rfl ?_
 refine wc_seq ?_
 refine wc_region ?_
 refine wl_pure rfl rfl rfl (freshS_eq rfl) rfl ?_
 refine wl_nil ?_
 refine we_then ?_
 refine wc_seq ?_
 obtain ⟨bj_1, hm, hLj_1⟩ := bindS_some hm
 refine wc_cut (σ := (List V) × (Option Addr) × Nat × Nat) (fun (j_1_6_l, j_1_6_p, j_1_6_c, j_1_6_n) => bj_1 = .inl j_1_6_l) (fun (j_1_6_l, j_1_6_p, j_1_6_c, j_1_6_n) => [(6, .slice j_1_6_p j_1_6_n j_1_6_c)]) (fun (j_1_6_l, j_1_6_p, j_1_6_c, j_1_6_n) => []) (fun (j_1_6_l, j_1_6_p, j_1_6_c, j_1_6_n) => [.own 25 3 R_V (.slice j_1_6_p j_1_6_n j_1_6_c) j_1_6_l]) ?_ ?_
 ·
  refine wc_seq ?_
  refine wc_region ?_
  refine wl_pure rfl rfl rfl (freshS_eq rfl) rfl ?_
  refine wl_len rfl rfl rfl (freshS_eq rfl) rfl rfl tE_27 ?_
  refine wl_pure rfl rfl rfl (freshS_eq rfl) rfl ?_
  refine wl_nil ?_
  refine we_then ?_
  refine wc_keep [13, 12, 11, 6, 0] (S' := [_,_,_,_,_]) rfl ?_
  refine wc_block ?_
  refine wc_rowNil 25 3 R_V ?_
  refine wc_loop (σ := Nat × Nat × (List V) × (Option Addr) × Nat × Nat) (fun (nu1, u1_13, u1_6_l, u1_6_p, u1_6_c, u1_6_n) => iter (m_expr_All_L1 N l1 l0) nu1 (u1_13, u1_6_l) = some bj_1) (fun (nu1, u1_13, u1_6_l, u1_6_p, u1_6_c, u1_6_n) => nu1) (fun (nu1, u1_13, u1_6_l, u1_6_p, u1_6_c, u1_6_n) => [(13, .int .i64 ((u1_13 : Nat) : Int)), (12, .int .i64 ((l1.length : Nat) : Int)), (11, .slice qp2 l1.length qc3), (6, .slice u1_6_p u1_6_n u1_6_c), (0, .slice qp0 l0.length qc1)]) (fun (nu1, u1_13, u1_6_l, u1_6_p, u1_6_c, u1_6_n) => [.sli 7 R_Api_ExprD qp2 qc3 l1, .sli 3 R_V qp0 qc1 l0]) (fun (nu1, u1_13, u1_6_l, u1_6_p, u1_6_c, u1_6_n) => [.own 25 3 R_V (.slice u1_6_p u1_6_n u1_6_c) u1_6_l]) (N, 0, [], none, 0, 0) hm [13, 12, 11, 6, 0] rfl (fun _ _ hφ => ask [1, 0] rfl hφ) rfl (fun s_ hm => ?_)
  obtain ⟨nu1, u1_13, u1_6_l, u1_6_p, u1_6_c, u1_6_n⟩ := s_
  try dsimp only at hm ⊢
  obtain ⟨mu1, bu1, hnu1, hq, hLu1⟩ := iter_some hm
  clear hm
  subst hnu1
  replace hm := hq
  clear hq
  unfold m_expr_All_L1 at hm
  try dsimp only at hm
  refine wc_seq ?_
  refine wc_region ?_
  refine wl_pure rfl rfl rfl (freshS_eq rfl) rfl ?_
  refine wl_as (d := 14) (v' := .bool (decide (u1_13 < l1.length))) (S' := [_,_,_,_,_]) rfl rfl (natlt (a := u1_13) (b := l1.length)) ?_
  refine wl_nil ?_
  refine we_then ?_
  refine wc_seq ?_
  refine wc_cond rfl (fun hb14 => ?_) (fun hb14 => ?_)
  ·
   replace hm := iteT hm hb14
   refine wc_keep [13, 12, 11, 6, 0] (S' := [_,_,_,_,_]) rfl ?_
   refine wc_skip ?_
   refine we_then ?_
   refine wc_seq ?_
   refine wc_block ?_
   refine wc_seq ?_
   refine wc_region ?_
   obtain ⟨x15, hx15, hm⟩ := bindO_some hm
   refine wl_indexA 0 u1_13 rfl rfl rfl (freshS_eq rfl) rfl rfl rfl rfl rfl hx15 tE_27 tS_29 (fun b15 q15 cs15 hlx15 => ?_)
   refine wl_open R_Api_ExprD_opens 1 rfl (fun r15 er15 _ => ?_)
   subst er15
   refine wl_load 1 0 rfl rfl rfl (freshS_eq rfl) rfl rfl rfl (cs := [_,_,_,_,_,_,_]) rfl tS_29 tA_29 rfl rfl ?_
   refine wl_alloc rfl rfl rfl (freshS_eq rfl) rfl tZ_29 rfl (fun g8 => ?_)
   refine wl_store 0 0 rfl rfl rfl rfl rfl rfl rfl tS_29 rfl rfl rfl (all' := [_,_,_,_,_,_,_]) rfl (H' := [_,_]) rfl ?_
   refine wl_nil ?_
   refine we_then ?_
   refine wc_keep [8, 13, 12, 11, 6, 0] (S' := [_,_,_,_,_,_]) rfl ?_
   refine wc_seq ?_
   refine wc_region ?_
   refine wl_loadH 0 0 rfl rfl rfl (freshS_eq rfl) rfl rfl rfl (cs := [_,_,_,_,_,_,_]) rfl tS_29 tA_29 rfl rfl ?_
   refine wl_pure rfl rfl rfl (freshS_eq rfl) rfl ?_
   obtain ⟨⟨v20_0, v20_1, v20_2, v20_3⟩, hc20, hm⟩ := bindO_some hm
   try dsimp only at hm
   refine wl_call [] [0, 1] rfl rfl rfl (freshS_eq rfl) rfl rfl fn_10 rfl (w_expr_Eval_s N x15.kind x15.value.k x15.value.n x15.value.s x15.var x15.op r15.1 r15.2 x15.kids qp0 qc1 l0 _ _ _ _ hc20) (fun _ _ hφ => ask [0, 4] rfl hφ) rfl (H' := [_,_]) rfl ?_
   rintro _ _ _ ⟨rfl, rfl, rfl⟩
   refine wl_pure rfl rfl rfl (freshS_eq rfl) rfl ?_
   refine wl_pure rfl rfl rfl (freshS_eq rfl) rfl ?_
   refine wl_pure rfl rfl rfl (freshS_eq rfl) rfl ?_
   refine wl_alloc rfl rfl rfl (freshS_eq rfl) rfl tZ_25 rfl (fun g9 => ?_)
   refine wl_store 0 0 rfl rfl rfl rfl rfl rfl rfl tS_25 rfl rfl rfl (all' := [_,_,_]) rfl (H' := [_,_,_]) rfl ?_
   refine wl_pure rfl rfl rfl (freshS_eq rfl) rfl ?_
   refine wl_nil ?_
   refine we_then ?_
   refine wc_keep [10, 9, 13, 12, 11, 6, 0] (S' := [_,_,_,_,_,_,_]) rfl ?_
   refine wc_seq ?_
   refine wc_seq ?_
   refine wc_region ?_
   refine wl_pure rfl rfl rfl (freshS_eq rfl) rfl ?_
   refine wl_pure rfl rfl rfl (freshS_eq rfl) rfl ?_
   refine wl_as (d := 24) (v' := .bool (v20_3 != 0)) (S' := [_,_,_,_,_,_,_,_]) rfl rfl (natne (a := v20_3) (b := 0)) ?_
   refine wl_nil ?_
   refine we_then ?_
   refine wc_keep [24, 10, 9, 13, 12, 11, 6, 0] (S' := [_,_,_,_,_,_,_,_]) rfl ?_
   refine wc_cond rfl (fun hb24 => ?_) (fun hb24 => ?_)
   ·
    replace hm := iteT hm hb24
    refine wc_keep [10] (S' := [_]) rfl ?_
    refine wc_seq ?_
    refine wc_region ?_
    refine wl_pure rfl rfl rfl (freshS_eq rfl) rfl ?_
    refine wl_pure rfl rfl rfl (freshS_eq rfl) rfl ?_
    refine wl_pure rfl rfl rfl (freshS_eq rfl) rfl ?_
    refine wl_nil ?_
    refine we_then ?_
    refine wc_keep [5, 4] (S' := [_,_]) rfl ?_
    refine wc_ret ?_
    refine we_then_ret ?_
    refine we_block_ret ?_
    refine we_then_ret ?_
    refine we_then_ret ?_
    refine we_block_ret ?_
    refine we_then_ret ?_
    have hE := (Option.some.inj hm).symm
    replace hE := link_inr hLu1 hE
    replace hE := link_inr hLj_1 hE
    obtain ⟨hE0, hE1⟩ := Prod.mk.inj hE
    clear hE
    replace hE0 := hE0.symm
    subst hE0
    replace hE1 := hE1.symm
    subst hE1
    refine we_rowNil 25 3 R_V ?_
    refine ret_two (Hr := [_]) [0] Tryd.results14 (res_tmp rfl) (res_tmp rfl) ⟨none, 0, 0, rfl, rfl, rfl⟩ (fun _ _ hφ => ask [] rfl hφ) rfl rfl (.inl rfl)
   ·
    replace hm := iteF hm hb24
    refine wc_keep [9, 13, 12, 11, 6, 0] (S' := [_,_,_,_,_,_]) rfl ?_
    refine wc_skip ?_
    refine we_then ?_
    refine wc_region ?_
    refine wl_pure rfl rfl rfl (freshS_eq rfl) rfl ?_
    refine wl_loadH 0 0 rfl rfl rfl (freshS_eq rfl) rfl rfl rfl (cs := [_,_,_]) rfl tS_25 tA_25 rfl rfl ?_
    refine wl_buildSlice rfl rfl rfl (freshS_eq rfl) rfl tE_30 tS_25 tZ_25 rfl (zs := [.int .u8 0, .int .i64 0, .string ((⟨#[]⟩ : ByteArray))]) (by kernel_rfl) rfl (out := [_,_,_]) rfl (fun g28 => ?_)
    obtain ⟨hg29, hm⟩ := gd_some hm
    refine wl_appendH ([(⟨v20_0, v20_1, v20_2⟩ : V)]) 3 0 rfl rfl rfl (freshS_eq rfl) rfl rfl rfl rfl rfl (fun F w hφ => ⟨[.int .u8 v20_0, .int .i64 v20_1, .string v20_2], [], rfl, rfl, ⟨(), rfl, ask_nil⟩, rfl⟩) tE_30 tR_25 rfl rfl (Nat.le_trans hg29 (by decide)) (Nat.le_trans (Nat.mul_le_mul_right _ hg29) (by decide)) (H2 := fun p29 c29 => [.blk g28 [.int .u8 v20_0, .int .i64 v20_1, .string v20_2] 25, .blk g9 [.int .u8 v20_0, .int .i64 v20_1, .string v20_2] 25, .blk g8 [.int .u8 (x15.kind), .int .u8 (x15.value.k), .int .i64 (x15.value.n), .string x15.value.s, .int .i64 (x15.var), .int .u8 (x15.op), .slice r15.1 x15.kids.length r15.2] 29, .own 25 3 R_V (.slice p29 ((u1_6_l ++ ([(⟨v20_0, v20_1, v20_2⟩ : V)])).length) c29) (u1_6_l ++ ([(⟨v20_0, v20_1, v20_2⟩ : V)]))]) (fun _ _ => rfl) (fun p29 c29 => ?_)
    refine wl_drop 0 rfl (H' := [_,_,_]) rfl ?_
    refine wl_pure (S' := [_,_,_,_,_,_,_,_,_]) rfl rfl rfl rfl rfl ?_
    refine wl_nil ?_
    refine we_block_normal ?_
    refine we_then ?_
    refine wc_keep [6, 13, 12, 11, 0] (S' := [_,_,_,_,_]) rfl ?_
    refine wc_region ?_
    refine wl_pure rfl rfl rfl (freshS_eq rfl) rfl ?_
    obtain ⟨hg30, hm⟩ := gd_some hm
    refine wl_as (d := 30) (v' := .int .i64 ((u1_13 + 1 : Nat) : Int)) (S' := [_,_,_,_,_]) rfl rfl (nat_add (a := u1_13) (b := 1) hg30) ?_
    refine wl_pure (S' := [_,_,_,_,_]) rfl rfl rfl rfl rfl ?_
    refine wl_nil ?_
    have hE := (Option.some.inj hm).symm
    replace hE := link_inl hLu1 hE
    refine we_pick [2] rfl (H' := [_]) rfl ?_
    refine we_roundK (_, u1_13 + 1, (u1_6_l ++ ([(⟨v20_0, v20_1, v20_2⟩ : V)])), p29, c29, ((u1_6_l ++ ([(⟨v20_0, v20_1, v20_2⟩ : V)])).length)) (Nat.lt_succ_self _) hE [13, 12, 11, 6, 0] rfl (fun _ _ hφ => ask [3, 4] rfl hφ) rfl
  ·
   replace hm := iteF hm hb14
   refine wc_keep [6] (S' := [_]) rfl ?_
   refine wc_exit ?_
   refine we_then_exit ?_
   refine we_then_exit ?_
   refine we_block_hit ?_
   have hE := (Option.some.inj hm).symm
   replace hE := link_inr hLu1 hE
   refine we_join (u1_6_l, u1_6_p, u1_6_c, u1_6_n) hE [6] rfl (fun _ _ hφ => ask [] rfl hφ) rfl
 ·
  rintro ⟨j_1_6_l, j_1_6_p, j_1_6_c, j_1_6_n⟩ hE
  try dsimp only
  have hm := link_inl hLj_1 hE
  refine wc_seq ?_
  refine wc_region ?_
  refine wl_pure rfl rfl rfl (freshS_eq rfl) rfl ?_
  refine wl_pure rfl rfl rfl (freshS_eq rfl) rfl ?_
  refine wl_pure rfl rfl rfl (freshS_eq rfl) rfl ?_
  refine wl_nil ?_
  refine we_then ?_
  refine wc_keep [5, 4] (S' := [_,_]) rfl ?_
  refine wc_ret ?_
  have hE := (Option.some.inj hm).symm
  obtain ⟨hE0, hE1⟩ := Prod.mk.inj hE
  clear hE
  replace hE0 := hE0.symm
  subst hE0
  replace hE1 := hE1.symm
  subst hE1
  refine ret_two (Hr := [_]) [0] Tryd.results14 (res_tmp rfl) (res_tmp rfl) ⟨j_1_6_p, j_1_6_c, j_1_6_n, rfl, rfl, rfl⟩ (fun _ _ hφ => ask [] rfl hφ) rfl rfl (.inl rfl)
set_option maxRecDepth 100000 in
set_option maxHeartbeats 4000000 in
theorem w_ropewalkref01_Named_s (N : Nat) (a0 : ByteArray) (o0 : Bool) (hm : m_ropewalkref01_Named N a0 = some o0) : Spec Tryd.prog 43 [.string a0] [] [] (fun v Φr Hr => v = .bool o0 ∧ Φr = [] ∧ Hr = []) := by
 unfold m_ropewalkref01_Named at hm
 refine spec_of Tryd.func43 rfl Tryd.ntmps43 rfl (S := [_]) rfl (fun C => ?_)
 refine wc_seq ?_
 refine wc_region ?_
 refine wl_pure rfl rfl rfl (freshS_eq rfl) rfl ?_
 refine wl_nil ?_
 refine we_then ?_
 refine wc_keep [0] (S' := [_]) rfl ?_
 refine wc_seq ?_
 obtain ⟨bj_1, hm, hLj_1⟩ := bindS_some hm
 refine wc_cut (σ := Unit) (fun _ => bj_1 = .inl ()) (fun _ => [(0, .string a0)]) (fun _ => []) (fun _ => []) ?_ ?_
 ·
  refine wc_seq ?_
  refine wc_region ?_
  refine wl_pure rfl rfl rfl (freshS_eq rfl) rfl ?_
  refine wl_nil ?_
  refine we_then ?_
  refine wc_block ?_
  refine wc_loop (σ := Nat × Nat) (fun (nu1, u1_3) => iter (m_ropewalkref01_Named_L1 N a0) nu1 u1_3 = some bj_1) (fun (nu1, u1_3) => nu1) (fun (nu1, u1_3) => [(3, .int .i64 ((u1_3 : Nat) : Int)), (0, .string a0)]) (fun (nu1, u1_3) => []) (fun (nu1, u1_3) => []) (N, 0) hm [3, 0] rfl (fun _ _ hφ => ask [] rfl hφ) rfl (fun s_ hm => ?_)
  obtain ⟨nu1, u1_3⟩ := s_
  try dsimp only at hm ⊢
  obtain ⟨mu1, bu1, hnu1, hq, hLu1⟩ := iter_some hm
  clear hm
  subst hnu1
  replace hm := hq
  clear hq
  unfold m_ropewalkref01_Named_L1 at hm
  try dsimp only at hm
  refine wc_seq ?_
  refine wc_seq ?_
  refine wc_region ?_
  refine wl_pure rfl rfl rfl (freshS_eq rfl) rfl ?_
  refine wl_pure rfl rfl rfl (freshS_eq rfl) rfl ?_
  refine wl_reck rfl rfl rfl (freshS_eq rfl) (rk_strLen rfl rfl tT_9) ?_
  refine wl_pure rfl rfl rfl (freshS_eq rfl) rfl ?_
  refine wl_as (d := 9) (v' := .bool (decide (u1_3 < a0.size))) (S' := [_,_,_,_,_]) rfl rfl (natlt (a := u1_3) (b := a0.size)) ?_
  refine wl_nil ?_
  refine we_then ?_
  refine wc_keep [9, 3, 0] (S' := [_,_,_]) rfl ?_
  refine wc_cond rfl (fun hb9 => ?_) (fun hb9 => ?_)
  ·
   replace hm := iteT hm hb9
   refine wc_keep [3, 0] (S' := [_,_]) rfl ?_
   refine wc_skip ?_
   refine we_then ?_
   refine wc_seq ?_
   refine wc_block ?_
   refine wc_seq ?_
   refine wc_region ?_
   refine wl_pure rfl rfl rfl (freshS_eq rfl) rfl ?_
   refine wl_pure rfl rfl rfl (freshS_eq rfl) rfl ?_
   obtain ⟨x14, hx14, hm⟩ := bindO_some hm
   refine wl_reck rfl rfl rfl (freshS_eq rfl) (rk_strAt u1_3 rfl rfl rfl rfl hx14 tT_9) ?_
   refine wl_pure rfl rfl rfl (freshS_eq rfl) rfl ?_
   refine wl_nil ?_
   refine we_then ?_
   refine wc_keep [4, 3, 0] (S' := [_,_,_]) rfl ?_
   refine wc_seq ?_
   obtain ⟨bj_2, hm, hLj_2⟩ := bindO_some hm
   refine wc_cut (σ := Bool) (fun j_2_5 => bj_2 = j_2_5) (fun j_2_5 => [(4, .int .u8 ((x14.toNat : Nat) : Int)), (3, .int .i64 ((u1_3 : Nat) : Int)), (0, .string a0), (5, .bool j_2_5)]) (fun j_2_5 => []) (fun j_2_5 => []) ?_ ?_
   ·
    refine wc_region ?_
    refine wl_pure rfl rfl rfl (freshS_eq rfl) rfl ?_
    refine wl_pure rfl rfl rfl (freshS_eq rfl) rfl ?_
    refine wl_as (d := 16) (v' := .bool (decide (97 ≤ x14.toNat))) (S' := [_,_,_,_]) rfl rfl (natge (a := x14.toNat) (b := 97)) ?_
    refine wl_pure rfl rfl rfl (freshS_eq rfl) rfl ?_
    refine wl_split (d := 17) (S' := [_,_,_,_,_]) rfl rfl (fun hs17 => ?_) (fun hs17 => ?_)
    ·
     replace hm := iteT hm hs17
     refine wl_pure rfl rfl rfl (freshS_eq rfl) rfl ?_
     refine wl_pure rfl rfl rfl (freshS_eq rfl) rfl ?_
     refine wl_as (d := 19) (v' := .bool (decide (x14.toNat ≤ 122))) (S' := [_,_,_,_,_,_,_]) rfl rfl (natle (a := x14.toNat) (b := 122)) ?_
     refine wl_pure rfl rfl rfl (freshS_eq rfl) rfl ?_
     refine wl_pure rfl rfl rfl (freshS_eq rfl) rfl ?_
     refine wl_nil ?_
     have hE := (Option.some.inj hm).symm
     refine we_join (decide (x14.toNat ≤ 122)) hE [4, 3, 0, 5] rfl (fun _ _ hφ => ask [] rfl hφ) rfl
    ·
     replace hm := iteF hm hs17
     refine wl_off rfl rfl rfl (freshS_eq rfl) ?_
     refine wl_off rfl rfl rfl (freshS_eq rfl) ?_
     refine wl_pure rfl rfl rfl (freshS_eq rfl) rfl ?_
     refine wl_pure rfl rfl rfl (freshS_eq rfl) rfl ?_
     refine wl_nil ?_
     have hE := (Option.some.inj hm).symm
     refine we_join false hE [4, 3, 0, 5] rfl (fun _ _ hφ => ask [] rfl hφ) rfl
   ·
    rintro j_2_5 hE
    try dsimp only
    have hm := hLj_2
    rw [hE] at hm
    refine wc_seq ?_
    obtain ⟨bj_3, hm, hLj_3⟩ := bindO_some hm
    unfold m_ropewalkref01_Named_C3 at hm
    refine wc_cut (σ := Bool) (fun j_3_39 => bj_3 = j_3_39) (fun j_3_39 => [(3, .int .i64 ((u1_3 : Nat) : Int)), (0, .string a0), (39, .bool j_3_39)]) (fun j_3_39 => []) (fun j_3_39 => []) ?_ ?_
    ·
     refine wc_region ?_
     refine wl_pure rfl rfl rfl (freshS_eq rfl) rfl ?_
     refine wl_pure rfl rfl rfl (freshS_eq rfl) rfl ?_
     refine wl_pure rfl rfl rfl (freshS_eq rfl) rfl ?_
     refine wl_split (d := 23) (S' := [_,_,_,_,_,_]) rfl rfl (fun hs23 => ?_) (fun hs23 => ?_)
     ·
      replace hm := iteT hm hs23
      refine wl_pure rfl rfl rfl (freshS_eq rfl) rfl ?_
      refine wl_pure rfl rfl rfl (freshS_eq rfl) rfl ?_
      refine wl_as (d := 25) (v' := .bool (u1_3 == 0)) (S' := [_,_,_,_,_,_,_,_]) rfl rfl (nateq (a := u1_3) (b := 0)) ?_
      refine wl_pure rfl rfl rfl (freshS_eq rfl) rfl ?_
      refine wl_split (d := 26) (S' := [_,_,_,_,_,_,_,_,_]) rfl rfl (fun hs26 => ?_) (fun hs26 => ?_)
      ·
       replace hm := iteT hm hs26
       refine wl_off rfl rfl rfl (freshS_eq rfl) ?_
       refine wl_off rfl rfl rfl (freshS_eq rfl) ?_
       refine wl_off rfl rfl rfl (freshS_eq rfl) ?_
       refine wl_off rfl rfl rfl (freshS_eq rfl) ?_
       refine wl_off rfl rfl rfl (freshS_eq rfl) ?_
       refine wl_off rfl rfl rfl (freshS_eq rfl) ?_
       refine wl_off rfl rfl rfl (freshS_eq rfl) ?_
       refine wl_off rfl rfl rfl (freshS_eq rfl) ?_
       refine wl_off rfl rfl rfl (freshS_eq rfl) ?_
       refine wl_off rfl rfl rfl (freshS_eq rfl) ?_
       refine wl_off rfl rfl rfl (freshS_eq rfl) ?_
       refine wl_pure rfl rfl rfl (freshS_eq rfl) rfl ?_
       refine wl_pure rfl rfl rfl (freshS_eq rfl) rfl ?_
       refine wl_nil ?_
       have hE := (Option.some.inj hm).symm
       refine we_join true hE [3, 0, 39] rfl (fun _ _ hφ => ask [] rfl hφ) rfl
      ·
       replace hm := iteF hm hs26
       refine wl_pure rfl rfl rfl (freshS_eq rfl) rfl ?_
       refine wl_pure rfl rfl rfl (freshS_eq rfl) rfl ?_
       refine wl_as (d := 28) (v' := .bool (decide (48 ≤ x14.toNat))) (S' := [_,_,_,_,_,_,_,_,_,_,_]) rfl rfl (natge (a := x14.toNat) (b := 48)) ?_
       refine wl_pure rfl rfl rfl (freshS_eq rfl) rfl ?_
       refine wl_split (d := 29) (S' := [_,_,_,_,_,_,_,_,_,_,_,_]) rfl rfl (fun hs29 => ?_) (fun hs29 => ?_)
       ·
        replace hm := iteT hm hs29
        refine wl_pure rfl rfl rfl (freshS_eq rfl) rfl ?_
        refine wl_pure rfl rfl rfl (freshS_eq rfl) rfl ?_
        refine wl_as (d := 31) (v' := .bool (decide (x14.toNat ≤ 57))) (S' := [_,_,_,_,_,_,_,_,_,_,_,_,_,_]) rfl rfl (natle (a := x14.toNat) (b := 57)) ?_
        refine wl_pure rfl rfl rfl (freshS_eq rfl) rfl ?_
        refine wl_pure rfl rfl rfl (freshS_eq rfl) rfl ?_
        refine wl_split (d := 33) (S' := [_,_,_,_,_,_,_,_,_,_,_,_,_,_,_,_]) rfl rfl (fun hs33 => ?_) (fun hs33 => ?_)
        ·
         replace hm := iteT hm hs33
         refine wl_off rfl rfl rfl (freshS_eq rfl) ?_
         refine wl_off rfl rfl rfl (freshS_eq rfl) ?_
         refine wl_pure rfl rfl rfl (freshS_eq rfl) rfl ?_
         refine wl_pure rfl rfl rfl (freshS_eq rfl) rfl ?_
         refine wl_pure rfl rfl rfl (freshS_eq rfl) rfl ?_
         refine wl_pure rfl rfl rfl (freshS_eq rfl) rfl ?_
         refine wl_nil ?_
         have hE := (Option.some.inj hm).symm
         refine we_join false hE [3, 0, 39] rfl (fun _ _ hφ => ask [] rfl hφ) rfl
        ·
         replace hm := iteF hm hs33
         refine wl_pure rfl rfl rfl (freshS_eq rfl) rfl ?_
         refine wl_pure rfl rfl rfl (freshS_eq rfl) rfl ?_
         refine wl_as (d := 35) (v' := .bool (x14.toNat == 95)) (S' := [_,_,_,_,_,_,_,_,_,_,_,_,_,_,_,_,_,_]) rfl rfl (nateq (a := x14.toNat) (b := 95)) ?_
         refine wl_pure rfl rfl rfl (freshS_eq rfl) rfl ?_
         refine wl_pure rfl rfl rfl (freshS_eq rfl) rfl ?_
         refine wl_pure rfl rfl rfl (freshS_eq rfl) rfl ?_
         refine wl_pure rfl rfl rfl (freshS_eq rfl) rfl ?_
         refine wl_nil ?_
         have hE := (Option.some.inj hm).symm
         refine we_join (!(x14.toNat == 95)) hE [3, 0, 39] rfl (fun _ _ hφ => ask [] rfl hφ) rfl
       ·
        replace hm := iteF hm hs29
        refine wl_off rfl rfl rfl (freshS_eq rfl) ?_
        refine wl_off rfl rfl rfl (freshS_eq rfl) ?_
        refine wl_pure rfl rfl rfl (freshS_eq rfl) rfl ?_
        refine wl_pure rfl rfl rfl (freshS_eq rfl) rfl ?_
        refine wl_pure rfl rfl rfl (freshS_eq rfl) rfl ?_
        refine wl_pure rfl rfl rfl (freshS_eq rfl) rfl ?_
        refine wl_as (d := 35) (v' := .bool (x14.toNat == 95)) (S' := [_,_,_,_,_,_,_,_,_,_,_,_,_,_,_,_,_,_]) rfl rfl (nateq (a := x14.toNat) (b := 95)) ?_
        refine wl_pure rfl rfl rfl (freshS_eq rfl) rfl ?_
        refine wl_pure rfl rfl rfl (freshS_eq rfl) rfl ?_
        refine wl_pure rfl rfl rfl (freshS_eq rfl) rfl ?_
        refine wl_pure rfl rfl rfl (freshS_eq rfl) rfl ?_
        refine wl_nil ?_
        have hE := (Option.some.inj hm).symm
        refine we_join (!(x14.toNat == 95)) hE [3, 0, 39] rfl (fun _ _ hφ => ask [] rfl hφ) rfl
     ·
      replace hm := iteF hm hs23
      refine wl_off rfl rfl rfl (freshS_eq rfl) ?_
      refine wl_off rfl rfl rfl (freshS_eq rfl) ?_
      refine wl_off rfl rfl rfl (freshS_eq rfl) ?_
      refine wl_off rfl rfl rfl (freshS_eq rfl) ?_
      refine wl_off rfl rfl rfl (freshS_eq rfl) ?_
      refine wl_off rfl rfl rfl (freshS_eq rfl) ?_
      refine wl_off rfl rfl rfl (freshS_eq rfl) ?_
      refine wl_off rfl rfl rfl (freshS_eq rfl) ?_
      refine wl_off rfl rfl rfl (freshS_eq rfl) ?_
      refine wl_off rfl rfl rfl (freshS_eq rfl) ?_
      refine wl_off rfl rfl rfl (freshS_eq rfl) ?_
      refine wl_off rfl rfl rfl (freshS_eq rfl) ?_
      refine wl_off rfl rfl rfl (freshS_eq rfl) ?_
      refine wl_off rfl rfl rfl (freshS_eq rfl) ?_
      refine wl_off rfl rfl rfl (freshS_eq rfl) ?_
      refine wl_pure rfl rfl rfl (freshS_eq rfl) rfl ?_
      refine wl_nil ?_
      have hE := (Option.some.inj hm).symm
      refine we_join false hE [3, 0, 39] rfl (fun _ _ hφ => ask [] rfl hφ) rfl
    ·
     rintro j_3_39 hE
     try dsimp only
     have hm := hLj_3
     rw [hE] at hm
     refine wc_cond rfl (fun hb39 => ?_) (fun hb39 => ?_)
     ·
      replace hm := iteT hm hb39
      refine wc_keep [] (S' := []) rfl ?_
      refine wc_seq ?_
      refine wc_region ?_
      refine wl_pure rfl rfl rfl (freshS_eq rfl) rfl ?_
      refine wl_nil ?_
      refine we_then ?_
      refine wc_ret ?_
      refine we_block_ret ?_
      refine we_then_ret ?_
      refine we_then_ret ?_
      refine we_block_ret ?_
      refine we_then_ret ?_
      have hE := (Option.some.inj hm).symm
      replace hE := link_inr hLu1 hE
      replace hE := link_inr hLj_1 hE
      replace hE := hE.symm
      subst hE
      refine ret_one (Hr := []) [] Tryd.results43 (res_tmp rfl) ⟨rfl, rfl, rfl⟩ (fun _ _ hφ => ask [] rfl hφ) rfl rfl (.inl rfl)
     ·
      replace hm := iteF hm hb39
      refine wc_keep [3, 0] (S' := [_,_]) rfl ?_
      refine wc_skip ?_
      refine we_block_normal ?_
      refine we_then ?_
      refine wc_region ?_
      refine wl_pure rfl rfl rfl (freshS_eq rfl) rfl ?_
      refine wl_pure rfl rfl rfl (freshS_eq rfl) rfl ?_
      obtain ⟨hg11, hm⟩ := gd_some hm
      refine wl_as (d := 11) (v' := .int .i64 ((u1_3 + 1 : Nat) : Int)) (S' := [_,_,_]) rfl rfl (nat_add (a := u1_3) (b := 1) hg11) ?_
      refine wl_pure (S' := [_,_,_]) rfl rfl rfl rfl rfl ?_
      refine wl_nil ?_
      have hE := (Option.some.inj hm).symm
      replace hE := link_inl hLu1 hE
      refine we_roundK (_, u1_3 + 1) (Nat.lt_succ_self _) hE [3, 0] rfl (fun _ _ hφ => ask [] rfl hφ) rfl
  ·
   replace hm := iteF hm hb9
   refine wc_keep [0] (S' := [_]) rfl ?_
   refine wc_exit ?_
   refine we_then_exit ?_
   refine we_then_exit ?_
   refine we_block_hit ?_
   have hE := (Option.some.inj hm).symm
   replace hE := link_inr hLu1 hE
   refine we_join () hE [0] rfl (fun _ _ hφ => ask [] rfl hφ) rfl
 ·
  rintro _ hE
  try dsimp only
  have hm := link_inl hLj_1 hE
  try dsimp only at hm
  refine wc_seq ?_
  refine wc_region ?_
  refine wl_pure rfl rfl rfl (freshS_eq rfl) rfl ?_
  refine wl_reck rfl rfl rfl (freshS_eq rfl) (rk_strLen rfl rfl tT_9) ?_
  refine wl_pure rfl rfl rfl (freshS_eq rfl) rfl ?_
  refine wl_as (d := 42) (v' := .bool (decide (1 ≤ a0.size))) (S' := [_,_,_]) rfl rfl (natge (a := a0.size) (b := 1)) ?_
  refine wl_pure rfl rfl rfl (freshS_eq rfl) rfl ?_
  refine wl_split (d := 43) (S' := [_,_,_,_]) rfl rfl (fun hs43 => ?_) (fun hs43 => ?_)
  ·
   replace hm := iteT hm hs43
   refine wl_pure rfl rfl rfl (freshS_eq rfl) rfl ?_
   refine wl_reck rfl rfl rfl (freshS_eq rfl) (rk_strLen rfl rfl tT_9) ?_
   refine wl_pure rfl rfl rfl (freshS_eq rfl) rfl ?_
   refine wl_as (d := 46) (v' := .bool (decide (a0.size ≤ 24))) (S' := [_,_,_,_,_,_,_]) rfl rfl (natle (a := a0.size) (b := 24)) ?_
   refine wl_pure rfl rfl rfl (freshS_eq rfl) rfl ?_
   refine wl_pure rfl rfl rfl (freshS_eq rfl) rfl ?_
   refine wl_nil ?_
   refine we_then ?_
   refine wc_keep [2] (S' := [_]) rfl ?_
   refine wc_ret ?_
   have hE := (Option.some.inj hm).symm
   replace hE := hE.symm
   subst hE
   refine ret_one (Hr := []) [] Tryd.results43 (res_tmp rfl) ⟨rfl, rfl, rfl⟩ (fun _ _ hφ => ask [] rfl hφ) rfl rfl (.inl rfl)
  ·
   replace hm := iteF hm hs43
   refine wl_off rfl rfl rfl (freshS_eq rfl) ?_
   refine wl_off rfl rfl rfl (freshS_eq rfl) ?_
   refine wl_off rfl rfl rfl (freshS_eq rfl) ?_
   refine wl_pure rfl rfl rfl (freshS_eq rfl) rfl ?_
   refine wl_pure rfl rfl rfl (freshS_eq rfl) rfl ?_
   refine wl_nil ?_
   refine we_then ?_
   refine wc_keep [2] (S' := [_]) rfl ?_
   refine wc_ret ?_
   have hE := (Option.some.inj hm).symm
   replace hE := hE.symm
   subst hE
   refine ret_one (Hr := []) [] Tryd.results43 (res_tmp rfl) ⟨rfl, rfl, rfl⟩ (fun _ _ hφ => ask [] rfl hφ) rfl rfl (.inl rfl)
set_option maxRecDepth 100000 in
set_option maxHeartbeats 4000000 in
theorem w_ropewalkref01_Right_s (N : Nat) (a0 : Int) (a1 : Int) (a2 : ByteArray) (o0 : Bool) (hm : m_ropewalkref01_Right N a0 a1 a2 = some o0) : Spec Tryd.prog 31 [.agg #[.int .u8 a0, .int .i64 a1, .string a2]] [] [] (fun v Φr Hr => v = .bool o0 ∧ Φr = [] ∧ Hr = []) := by
 unfold m_ropewalkref01_Right at hm
 refine spec_of Tryd.func31 rfl Tryd.ntmps31 rfl (S := [_]) rfl (fun C => ?_)
 refine wc_seq ?_
 refine wc_region ?_
 refine wl_box rfl rfl rfl (freshS_eq rfl) rfl rfl rfl (fun g1 => ?_)
 refine wl_pure rfl rfl rfl (freshS_eq rfl) rfl ?_
 refine wl_nil ?_
 refine we_then ?_
 refine wc_keep [1] (S' := [_]) rfl ?_
 refine wc_seq ?_
 refine wc_seq ?_
 refine wc_region ?_
 refine wl_fieldAddr rfl rfl rfl (freshS_eq rfl) rfl rfl tF_25_0 ?_
 refine wl_loadH 0 0 rfl rfl rfl (freshS_eq rfl) rfl rfl rfl (cs := [_]) rfl tS_23 tA_23 rfl rfl ?_
 refine wl_pure rfl rfl rfl (freshS_eq rfl) rfl ?_
 refine wl_nil ?_
 refine we_then ?_
 refine wc_keep [5, 1] (S' := [_,_]) rfl ?_
 refine wc_cond rfl (fun hb5 => ?_) (fun hb5 => ?_)
 ·
  replace hm := iteT hm hb5
  refine wc_keep [1] (S' := [_]) rfl ?_
  refine wc_seq ?_
  refine wc_region ?_
  refine wl_fieldAddr rfl rfl rfl (freshS_eq rfl) rfl rfl tF_25_2 ?_
  refine wl_loadH 0 2 rfl rfl rfl (freshS_eq rfl) rfl rfl rfl (cs := [_]) rfl tS_9 tA_9 rfl rfl ?_
  refine wl_pure rfl rfl rfl (freshS_eq rfl) rfl ?_
  refine wl_pure rfl rfl rfl (freshS_eq rfl) rfl ?_
  refine wl_nil ?_
  refine we_then ?_
  refine wc_keep [2] (S' := [_]) rfl ?_
  refine wc_ret ?_
  refine we_then_ret ?_
  have hE := (Option.some.inj hm).symm
  replace hE := hE.symm
  subst hE
  refine ret_one (Hr := []) [] Tryd.results31 (res_tmp rfl) ⟨rfl, rfl, rfl⟩ (fun _ _ hφ => ask [] rfl hφ) rfl rfl (.inl rfl)
 ·
  replace hm := iteF hm hb5
  refine wc_keep [1] (S' := [_]) rfl ?_
  refine wc_skip ?_
  refine we_then ?_
  refine wc_seq ?_
  refine wc_region ?_
  refine wl_fieldAddr rfl rfl rfl (freshS_eq rfl) rfl rfl tF_25_0 ?_
  refine wl_loadH 0 0 rfl rfl rfl (freshS_eq rfl) rfl rfl rfl (cs := [_]) rfl tS_23 tA_23 rfl rfl ?_
  refine wl_pure rfl rfl rfl (freshS_eq rfl) rfl ?_
  refine wl_pure rfl rfl rfl (freshS_eq rfl) rfl ?_
  refine wl_split (d := 12) (S' := [_,_,_,_]) rfl rfl (fun hs12 => ?_) (fun hs12 => ?_)
  ·
   replace hm := iteT hm hs12
   refine wl_fieldAddr rfl rfl rfl (freshS_eq rfl) rfl rfl tF_25_1 ?_
   refine wl_loadH 0 1 rfl rfl rfl (freshS_eq rfl) rfl rfl rfl (cs := [_]) rfl tS_2 tA_2 rfl rfl ?_
   refine wl_pure rfl rfl rfl (freshS_eq rfl) rfl ?_
   refine wl_pure rfl rfl rfl (freshS_eq rfl) rfl ?_
   refine wl_pure rfl rfl rfl (freshS_eq rfl) rfl ?_
   refine wl_split (d := 17) (S' := [_,_,_,_,_,_,_,_,_]) rfl rfl (fun hs17 => ?_) (fun hs17 => ?_)
   ·
    replace hm := iteT hm hs17
    refine wl_fieldAddr rfl rfl rfl (freshS_eq rfl) rfl rfl tF_25_2 ?_
    refine wl_loadH 0 2 rfl rfl rfl (freshS_eq rfl) rfl rfl rfl (cs := [_]) rfl tS_9 tA_9 rfl rfl ?_
    obtain ⟨v20, hc20, hm⟩ := bindO_some hm
    refine wl_call [] [0] rfl rfl rfl (freshS_eq rfl) rfl rfl fn_43 rfl (w_ropewalkref01_Named_s N a2 _ hc20) (fun _ _ hφ => ask [] rfl hφ) rfl (H' := [_]) rfl ?_
    rintro _ _ _ ⟨rfl, rfl, rfl⟩
    refine wl_pure rfl rfl rfl (freshS_eq rfl) rfl ?_
    refine wl_pure rfl rfl rfl (freshS_eq rfl) rfl ?_
    refine wl_nil ?_
    refine we_then ?_
    refine wc_keep [2] (S' := [_]) rfl ?_
    refine wc_ret ?_
    have hE := (Option.some.inj hm).symm
    replace hE := hE.symm
    subst hE
    refine ret_one (Hr := []) [] Tryd.results31 (res_tmp rfl) ⟨rfl, rfl, rfl⟩ (fun _ _ hφ => ask [] rfl hφ) rfl rfl (.inl rfl)
   ·
    replace hm := iteF hm hs17
    refine wl_off rfl rfl rfl (freshS_eq rfl) ?_
    refine wl_off rfl rfl rfl (freshS_eq rfl) ?_
    refine wl_off rfl rfl rfl (freshS_eq rfl) ?_
    refine wl_pure rfl rfl rfl (freshS_eq rfl) rfl ?_
    refine wl_pure rfl rfl rfl (freshS_eq rfl) rfl ?_
    refine wl_nil ?_
    refine we_then ?_
    refine wc_keep [2] (S' := [_]) rfl ?_
    refine wc_ret ?_
    have hE := (Option.some.inj hm).symm
    replace hE := hE.symm
    subst hE
    refine ret_one (Hr := []) [] Tryd.results31 (res_tmp rfl) ⟨rfl, rfl, rfl⟩ (fun _ _ hφ => ask [] rfl hφ) rfl rfl (.inl rfl)
  ·
   replace hm := iteF hm hs12
   refine wl_off rfl rfl rfl (freshS_eq rfl) ?_
   refine wl_off rfl rfl rfl (freshS_eq rfl) ?_
   refine wl_off rfl rfl rfl (freshS_eq rfl) ?_
   refine wl_pure rfl rfl rfl (freshS_eq rfl) rfl ?_
   refine wl_pure rfl rfl rfl (freshS_eq rfl) rfl ?_
   refine wl_off rfl rfl rfl (freshS_eq rfl) ?_
   refine wl_off rfl rfl rfl (freshS_eq rfl) ?_
   refine wl_off rfl rfl rfl (freshS_eq rfl) ?_
   refine wl_pure rfl rfl rfl (freshS_eq rfl) rfl ?_
   refine wl_pure rfl rfl rfl (freshS_eq rfl) rfl ?_
   refine wl_nil ?_
   refine we_then ?_
   refine wc_keep [2] (S' := [_]) rfl ?_
   refine wc_ret ?_
   have hE := (Option.some.inj hm).symm
   replace hE := hE.symm
   subst hE
   refine ret_one (Hr := []) [] Tryd.results31 (res_tmp rfl) ⟨rfl, rfl, rfl⟩ (fun _ _ hφ => ask [] rfl hφ) rfl rfl (.inl rfl)
set_option maxRecDepth 100000 in
set_option maxHeartbeats 4000000 in
theorem w_ropewalkref01_Number_s (N : Nat) (a0 : Int)  (hm : m_ropewalkref01_Number N a0 = some ()) : Spec Tryd.prog 42 [.int .i64 a0] [] [] (fun v Φr Hr => v = .agg #[.int .u8 1, .int .i64 a0, .string ((⟨#[]⟩ : ByteArray))] ∧ Φr = [] ∧ Hr = []) := by
 unfold m_ropewalkref01_Number at hm
 refine spec_of Tryd.func42 rfl Tryd.ntmps42 rfl (S := [_]) rfl (fun C => ?_)
 refine wc_seq ?_
 refine wc_region ?_
 refine wl_alloc rfl rfl rfl (freshS_eq rfl) rfl tZ_25 rfl (fun g2 => ?_)
 refine wl_nil ?_
 refine we_then ?_
 refine wc_seq ?_
 refine wc_region ?_
 refine wl_pure rfl rfl rfl (freshS_eq rfl) rfl ?_
 refine wl_build rfl rfl rfl (freshS_eq rfl) rfl tZ_25 tP_25 rfl (out := [_,_,_]) rfl ?_
 refine wl_store 0 0 rfl rfl rfl rfl rfl rfl rfl tS_25 rfl rfl rfl (all' := [_,_,_]) rfl (H' := [_]) rfl ?_
 refine wl_nil ?_
 refine we_then ?_
 refine wc_keep [2] (S' := [_]) rfl ?_
 refine wc_ret ?_
 have hE := (Option.some.inj hm).symm
 refine ret_one (Hr := []) [] Tryd.results42 (res_cell 0 rfl rfl tS_25 tA_25 rfl rfl) ⟨rfl, rfl, rfl⟩ (fun _ _ hφ => ask [] rfl hφ) rfl rfl (.inl rfl)
set_option maxRecDepth 100000 in
set_option maxHeartbeats 4000000 in
theorem w_ropewalkref01_Truth_s (N : Nat) (a0 : Bool) (o0 : Int) (hm : m_ropewalkref01_Truth N a0 = some o0) : Spec Tryd.prog 40 [.bool a0] [] [] (fun v Φr Hr => v = .agg #[.int .u8 1, .int .i64 o0, .string ((⟨#[]⟩ : ByteArray))] ∧ Φr = [] ∧ Hr = []) := by
 unfold m_ropewalkref01_Truth at hm
 refine spec_of Tryd.func40 rfl Tryd.ntmps40 rfl (S := [_]) rfl (fun C => ?_)
 refine wc_seq ?_
 refine wc_region ?_
 refine wl_alloc rfl rfl rfl (freshS_eq rfl) rfl tZ_25 rfl (fun g2 => ?_)
 refine wl_nil ?_
 refine we_then ?_
 refine wc_seq ?_
 refine wc_seq ?_
 refine wc_region ?_
 refine wl_pure rfl rfl rfl (freshS_eq rfl) rfl ?_
 refine wl_nil ?_
 refine we_then ?_
 refine wc_keep [3, 2] (S' := [_,_]) rfl ?_
 refine wc_cond rfl (fun hb3 => ?_) (fun hb3 => ?_)
 ·
  replace hm := iteT hm hb3
  refine wc_keep [2] (S' := [_]) rfl ?_
  refine wc_seq ?_
  refine wc_region ?_
  obtain ⟨_, hc4, hm⟩ := bindO_some hm
  try dsimp only at hm
  refine wl_call [] [0] rfl rfl rfl (freshS_eq rfl) rfl rfl fn_42 rfl (w_ropewalkref01_Number_s N 1 hc4) (fun _ _ hφ => ask [] rfl hφ) rfl (H' := [_]) rfl ?_
  rintro _ _ _ ⟨rfl, rfl, rfl⟩
  refine wl_store 0 0 rfl rfl rfl rfl rfl rfl rfl tS_25 rfl rfl rfl (all' := [_,_,_]) rfl (H' := [_]) rfl ?_
  refine wl_nil ?_
  refine we_then ?_
  refine wc_keep [2] (S' := [_]) rfl ?_
  refine wc_ret ?_
  refine we_then_ret ?_
  have hE := (Option.some.inj hm).symm
  replace hE := hE.symm
  subst hE
  refine ret_one (Hr := []) [] Tryd.results40 (res_cell 0 rfl rfl tS_25 tA_25 rfl rfl) ⟨rfl, rfl, rfl⟩ (fun _ _ hφ => ask [] rfl hφ) rfl rfl (.inl rfl)
 ·
  replace hm := iteF hm hb3
  refine wc_keep [2] (S' := [_]) rfl ?_
  refine wc_skip ?_
  refine we_then ?_
  refine wc_seq ?_
  refine wc_region ?_
  obtain ⟨_, hc5, hm⟩ := bindO_some hm
  try dsimp only at hm
  refine wl_call [] [0] rfl rfl rfl (freshS_eq rfl) rfl rfl fn_42 rfl (w_ropewalkref01_Number_s N 0 hc5) (fun _ _ hφ => ask [] rfl hφ) rfl (H' := [_]) rfl ?_
  rintro _ _ _ ⟨rfl, rfl, rfl⟩
  refine wl_store 0 0 rfl rfl rfl rfl rfl rfl rfl tS_25 rfl rfl rfl (all' := [_,_,_]) rfl (H' := [_]) rfl ?_
  refine wl_nil ?_
  refine we_then ?_
  refine wc_keep [2] (S' := [_]) rfl ?_
  refine wc_ret ?_
  have hE := (Option.some.inj hm).symm
  replace hE := hE.symm
  subst hE
  refine ret_one (Hr := []) [] Tryd.results40 (res_cell 0 rfl rfl tS_25 tA_25 rfl rfl) ⟨rfl, rfl, rfl⟩ (fun _ _ hφ => ask [] rfl hφ) rfl rfl (.inl rfl)
set_option maxRecDepth 100000 in
set_option maxHeartbeats 4000000 in
theorem w_ropewalkref01_sum_s (N : Nat) (a0 : Int) (a1 : Int) (o0 : Int) (o1 : Bool) (hm : m_ropewalkref01_sum N a0 a1 = some (o0, o1)) : Spec Tryd.prog 57 [.int .i64 a0, .int .i64 a1] [] [] (fun v Φr Hr => v = .tuple #[.int .i64 o0, .bool o1] ∧ Φr = [] ∧ Hr = []) := by
 unfold m_ropewalkref01_sum at hm
 refine spec_of Tryd.func57 rfl Tryd.ntmps57 rfl (S := [_,_]) rfl (fun C => ?_)
 refine wc_seq ?_
 refine wc_region ?_
 refine wl_pure rfl rfl rfl (freshS_eq rfl) rfl ?_
 refine wl_pure rfl rfl rfl (freshS_eq rfl) rfl ?_
 refine wl_nil ?_
 refine we_then ?_
 refine wc_keep [0, 1] (S' := [_,_]) rfl ?_
 refine wc_seq ?_
 refine wc_seq ?_
 obtain ⟨bj_1, hm, hLj_1⟩ := bindO_some hm
 unfold m_ropewalkref01_sum_C1 at hm
 refine wc_cut (σ := Bool) (fun j_1_23 => bj_1 = j_1_23) (fun j_1_23 => [(0, .int .i64 a0), (1, .int .i64 a1), (23, .bool j_1_23)]) (fun j_1_23 => []) (fun j_1_23 => []) ?_ ?_
 ·
  refine wc_region ?_
  refine wl_pure rfl rfl rfl (freshS_eq rfl) rfl ?_
  refine wl_pure rfl rfl rfl (freshS_eq rfl) rfl ?_
  refine wl_pure rfl rfl rfl (freshS_eq rfl) rfl ?_
  refine wl_split (d := 8) (S' := [_,_,_,_]) rfl rfl (fun hs8 => ?_) (fun hs8 => ?_)
  ·
   replace hm := iteT hm hs8
   refine wl_pure rfl rfl rfl (freshS_eq rfl) rfl ?_
   refine wl_pure rfl rfl rfl (freshS_eq rfl) rfl ?_
   refine wl_pure rfl rfl rfl (freshS_eq rfl) rfl ?_
   obtain ⟨hg11, hm⟩ := gd_some hm
   refine wl_as (d := 11) (v' := .int .i64 (9223372036854775807 - a1)) (S' := [_,_,_,_,_,_,_]) rfl rfl (i64_in hg11) ?_
   refine wl_pure rfl rfl rfl (freshS_eq rfl) rfl ?_
   refine wl_pure rfl rfl rfl (freshS_eq rfl) rfl ?_
   refine wl_pure rfl rfl rfl (freshS_eq rfl) rfl ?_
   refine wl_split (d := 14) (S' := [_,_,_,_,_,_,_,_,_,_]) rfl rfl (fun hs14 => ?_) (fun hs14 => ?_)
   ·
    replace hm := iteT hm hs14
    refine wl_off rfl rfl rfl (freshS_eq rfl) ?_
    refine wl_off rfl rfl rfl (freshS_eq rfl) ?_
    refine wl_off rfl rfl rfl (freshS_eq rfl) ?_
    refine wl_off rfl rfl rfl (freshS_eq rfl) ?_
    refine wl_off rfl rfl rfl (freshS_eq rfl) ?_
    refine wl_off rfl rfl rfl (freshS_eq rfl) ?_
    refine wl_off rfl rfl rfl (freshS_eq rfl) ?_
    refine wl_off rfl rfl rfl (freshS_eq rfl) ?_
    refine wl_pure rfl rfl rfl (freshS_eq rfl) rfl ?_
    refine wl_nil ?_
    have hE := (Option.some.inj hm).symm
    refine we_join true hE [0, 1, 23] rfl (fun _ _ hφ => ask [] rfl hφ) rfl
   ·
    replace hm := iteF hm hs14
    refine wl_pure rfl rfl rfl (freshS_eq rfl) rfl ?_
    refine wl_pure rfl rfl rfl (freshS_eq rfl) rfl ?_
    refine wl_pure rfl rfl rfl (freshS_eq rfl) rfl ?_
    refine wl_split (d := 17) (S' := [_,_,_,_,_,_,_,_,_,_,_,_,_]) rfl rfl (fun hs17 => ?_) (fun hs17 => ?_)
    ·
     replace hm := iteT hm hs17
     refine wl_pure rfl rfl rfl (freshS_eq rfl) rfl ?_
     refine wl_pure rfl rfl rfl (freshS_eq rfl) rfl ?_
     refine wl_pure rfl rfl rfl (freshS_eq rfl) rfl ?_
     obtain ⟨hg20, hm⟩ := gd_some hm
     refine wl_as (d := 20) (v' := .int .i64 (-9223372036854775808 - a1)) (S' := [_,_,_,_,_,_,_,_,_,_,_,_,_,_,_,_]) rfl rfl (i64_in hg20) ?_
     refine wl_pure rfl rfl rfl (freshS_eq rfl) rfl ?_
     refine wl_pure rfl rfl rfl (freshS_eq rfl) rfl ?_
     refine wl_pure rfl rfl rfl (freshS_eq rfl) rfl ?_
     refine wl_nil ?_
     have hE := (Option.some.inj hm).symm
     refine we_join (decide (a0 < (-9223372036854775808 - a1))) hE [0, 1, 23] rfl (fun _ _ hφ => ask [] rfl hφ) rfl
    ·
     replace hm := iteF hm hs17
     refine wl_off rfl rfl rfl (freshS_eq rfl) ?_
     refine wl_off rfl rfl rfl (freshS_eq rfl) ?_
     refine wl_off rfl rfl rfl (freshS_eq rfl) ?_
     refine wl_off rfl rfl rfl (freshS_eq rfl) ?_
     refine wl_pure rfl rfl rfl (freshS_eq rfl) rfl ?_
     refine wl_pure rfl rfl rfl (freshS_eq rfl) rfl ?_
     refine wl_nil ?_
     have hE := (Option.some.inj hm).symm
     refine we_join false hE [0, 1, 23] rfl (fun _ _ hφ => ask [] rfl hφ) rfl
  ·
   replace hm := iteF hm hs8
   refine wl_off rfl rfl rfl (freshS_eq rfl) ?_
   refine wl_off rfl rfl rfl (freshS_eq rfl) ?_
   refine wl_off rfl rfl rfl (freshS_eq rfl) ?_
   refine wl_off rfl rfl rfl (freshS_eq rfl) ?_
   refine wl_pure rfl rfl rfl (freshS_eq rfl) rfl ?_
   refine wl_pure rfl rfl rfl (freshS_eq rfl) rfl ?_
   refine wl_pure rfl rfl rfl (freshS_eq rfl) rfl ?_
   refine wl_pure rfl rfl rfl (freshS_eq rfl) rfl ?_
   refine wl_pure rfl rfl rfl (freshS_eq rfl) rfl ?_
   refine wl_split (d := 17) (S' := [_,_,_,_,_,_,_,_,_,_,_,_,_]) rfl rfl (fun hs17 => ?_) (fun hs17 => ?_)
   ·
    replace hm := iteT hm hs17
    refine wl_pure rfl rfl rfl (freshS_eq rfl) rfl ?_
    refine wl_pure rfl rfl rfl (freshS_eq rfl) rfl ?_
    refine wl_pure rfl rfl rfl (freshS_eq rfl) rfl ?_
    obtain ⟨hg20, hm⟩ := gd_some hm
    refine wl_as (d := 20) (v' := .int .i64 (-9223372036854775808 - a1)) (S' := [_,_,_,_,_,_,_,_,_,_,_,_,_,_,_,_]) rfl rfl (i64_in hg20) ?_
    refine wl_pure rfl rfl rfl (freshS_eq rfl) rfl ?_
    refine wl_pure rfl rfl rfl (freshS_eq rfl) rfl ?_
    refine wl_pure rfl rfl rfl (freshS_eq rfl) rfl ?_
    refine wl_nil ?_
    have hE := (Option.some.inj hm).symm
    refine we_join (decide (a0 < (-9223372036854775808 - a1))) hE [0, 1, 23] rfl (fun _ _ hφ => ask [] rfl hφ) rfl
   ·
    replace hm := iteF hm hs17
    refine wl_off rfl rfl rfl (freshS_eq rfl) ?_
    refine wl_off rfl rfl rfl (freshS_eq rfl) ?_
    refine wl_off rfl rfl rfl (freshS_eq rfl) ?_
    refine wl_off rfl rfl rfl (freshS_eq rfl) ?_
    refine wl_pure rfl rfl rfl (freshS_eq rfl) rfl ?_
    refine wl_pure rfl rfl rfl (freshS_eq rfl) rfl ?_
    refine wl_nil ?_
    have hE := (Option.some.inj hm).symm
    refine we_join false hE [0, 1, 23] rfl (fun _ _ hφ => ask [] rfl hφ) rfl
 ·
  rintro j_1_23 hE
  try dsimp only
  have hm := hLj_1
  rw [hE] at hm
  refine wc_cond rfl (fun hb23 => ?_) (fun hb23 => ?_)
  ·
   replace hm := iteT hm hb23
   refine wc_keep [] (S' := []) rfl ?_
   refine wc_seq ?_
   refine wc_region ?_
   refine wl_pure rfl rfl rfl (freshS_eq rfl) rfl ?_
   refine wl_pure rfl rfl rfl (freshS_eq rfl) rfl ?_
   refine wl_nil ?_
   refine we_then ?_
   refine wc_ret ?_
   refine we_then_ret ?_
   have hE := (Option.some.inj hm).symm
   obtain ⟨hE0, hE1⟩ := Prod.mk.inj hE
   clear hE
   replace hE0 := hE0.symm
   subst hE0
   replace hE1 := hE1.symm
   subst hE1
   refine ret_two (Hr := []) [] Tryd.results57 (res_tmp rfl) (res_tmp rfl) ⟨rfl, rfl, rfl⟩ (fun _ _ hφ => ask [] rfl hφ) rfl rfl (.inl rfl)
  ·
   replace hm := iteF hm hb23
   refine wc_keep [0, 1] (S' := [_,_]) rfl ?_
   refine wc_skip ?_
   refine we_then ?_
   refine wc_seq ?_
   refine wc_region ?_
   refine wl_pure rfl rfl rfl (freshS_eq rfl) rfl ?_
   refine wl_pure rfl rfl rfl (freshS_eq rfl) rfl ?_
   refine wl_pure rfl rfl rfl (freshS_eq rfl) rfl ?_
   obtain ⟨hg26, hm⟩ := gd_some hm
   refine wl_as (d := 26) (v' := .int .i64 (a0 + a1)) (S' := [_,_,_,_]) rfl rfl (i64_in hg26) ?_
   refine wl_pure rfl rfl rfl (freshS_eq rfl) rfl ?_
   refine wl_pure rfl rfl rfl (freshS_eq rfl) rfl ?_
   refine wl_nil ?_
   refine we_then ?_
   refine wc_keep [5, 4] (S' := [_,_]) rfl ?_
   refine wc_ret ?_
   have hE := (Option.some.inj hm).symm
   obtain ⟨hE0, hE1⟩ := Prod.mk.inj hE
   clear hE
   replace hE0 := hE0.symm
   subst hE0
   replace hE1 := hE1.symm
   subst hE1
   refine ret_two (Hr := []) [] Tryd.results57 (res_tmp rfl) (res_tmp rfl) ⟨rfl, rfl, rfl⟩ (fun _ _ hφ => ask [] rfl hφ) rfl rfl (.inl rfl)
set_option maxRecDepth 100000 in
set_option maxHeartbeats 4000000 in
theorem w_ropewalkref01_product_s (N : Nat) (a0 : Int) (a1 : Int) (o0 : Int) (o1 : Bool) (hm : m_ropewalkref01_product N a0 a1 = some (o0, o1)) : Spec Tryd.prog 58 [.int .i64 a0, .int .i64 a1] [] [] (fun v Φr Hr => v = .tuple #[.int .i64 o0, .bool o1] ∧ Φr = [] ∧ Hr = []) := by
 unfold m_ropewalkref01_product at hm
 refine spec_of Tryd.func58 rfl Tryd.ntmps58 rfl (S := [_,_]) rfl (fun C => ?_)
 refine wc_seq ?_
 refine wc_region ?_
 refine wl_pure rfl rfl rfl (freshS_eq rfl) rfl ?_
 refine wl_pure rfl rfl rfl (freshS_eq rfl) rfl ?_
 refine wl_nil ?_
 refine we_then ?_
 refine wc_keep [0, 1] (S' := [_,_]) rfl ?_
 refine wc_seq ?_
 refine wc_seq ?_
 obtain ⟨bj_1, hm, hLj_1⟩ := bindO_some hm
 refine wc_cut (σ := Bool) (fun j_1_12 => bj_1 = j_1_12) (fun j_1_12 => [(0, .int .i64 a0), (1, .int .i64 a1), (12, .bool j_1_12)]) (fun j_1_12 => []) (fun j_1_12 => []) ?_ ?_
 ·
  refine wc_region ?_
  refine wl_pure rfl rfl rfl (freshS_eq rfl) rfl ?_
  refine wl_pure rfl rfl rfl (freshS_eq rfl) rfl ?_
  refine wl_pure rfl rfl rfl (freshS_eq rfl) rfl ?_
  refine wl_split (d := 9) (S' := [_,_,_,_]) rfl rfl (fun hs9 => ?_) (fun hs9 => ?_)
  ·
   replace hm := iteT hm hs9
   refine wl_off rfl rfl rfl (freshS_eq rfl) ?_
   refine wl_off rfl rfl rfl (freshS_eq rfl) ?_
   refine wl_pure rfl rfl rfl (freshS_eq rfl) rfl ?_
   refine wl_nil ?_
   have hE := (Option.some.inj hm).symm
   refine we_join true hE [0, 1, 12] rfl (fun _ _ hφ => ask [] rfl hφ) rfl
  ·
   replace hm := iteF hm hs9
   refine wl_pure rfl rfl rfl (freshS_eq rfl) rfl ?_
   refine wl_pure rfl rfl rfl (freshS_eq rfl) rfl ?_
   refine wl_pure rfl rfl rfl (freshS_eq rfl) rfl ?_
   refine wl_nil ?_
   have hE := (Option.some.inj hm).symm
   refine we_join (a1 == 0) hE [0, 1, 12] rfl (fun _ _ hφ => ask [] rfl hφ) rfl
 ·
  rintro j_1_12 hE
  try dsimp only
  have hm := hLj_1
  rw [hE] at hm
  refine wc_cond rfl (fun hb12 => ?_) (fun hb12 => ?_)
  ·
   replace hm := iteT hm hb12
   refine wc_keep [] (S' := []) rfl ?_
   refine wc_seq ?_
   refine wc_region ?_
   refine wl_pure rfl rfl rfl (freshS_eq rfl) rfl ?_
   refine wl_pure rfl rfl rfl (freshS_eq rfl) rfl ?_
   refine wl_nil ?_
   refine we_then ?_
   refine wc_ret ?_
   refine we_then_ret ?_
   have hE := (Option.some.inj hm).symm
   obtain ⟨hE0, hE1⟩ := Prod.mk.inj hE
   clear hE
   replace hE0 := hE0.symm
   subst hE0
   replace hE1 := hE1.symm
   subst hE1
   refine ret_two (Hr := []) [] Tryd.results58 (res_tmp rfl) (res_tmp rfl) ⟨rfl, rfl, rfl⟩ (fun _ _ hφ => ask [] rfl hφ) rfl rfl (.inl rfl)
  ·
   replace hm := iteF hm hb12
   refine wc_keep [0, 1] (S' := [_,_]) rfl ?_
   refine wc_skip ?_
   refine we_then ?_
   refine wc_seq ?_
   refine wc_seq ?_
   refine wc_region ?_
   refine wl_pure rfl rfl rfl (freshS_eq rfl) rfl ?_
   refine wl_pure rfl rfl rfl (freshS_eq rfl) rfl ?_
   refine wl_nil ?_
   refine we_then ?_
   refine wc_keep [14, 0, 1] (S' := [_,_,_]) rfl ?_
   refine wc_cond rfl (fun hb14 => ?_) (fun hb14 => ?_)
   ·
    replace hm := iteT hm hb14
    refine wc_keep [1] (S' := [_]) rfl ?_
    refine wc_seq ?_
    refine wc_region ?_
    refine wl_pure rfl rfl rfl (freshS_eq rfl) rfl ?_
    refine wl_reck rfl rfl rfl (freshS_eq rfl) (rk_neg rfl rfl) ?_
    refine wl_pure rfl rfl rfl (freshS_eq rfl) rfl ?_
    refine wl_pure rfl rfl rfl (freshS_eq rfl) rfl ?_
    refine wl_pure rfl rfl rfl (freshS_eq rfl) rfl ?_
    refine wl_pure rfl rfl rfl (freshS_eq rfl) rfl ?_
    refine wl_nil ?_
    refine we_then ?_
    refine wc_keep [5, 4] (S' := [_,_]) rfl ?_
    refine wc_ret ?_
    refine we_then_ret ?_
    have hE := (Option.some.inj hm).symm
    obtain ⟨hE0, hE1⟩ := Prod.mk.inj hE
    clear hE
    replace hE0 := hE0.symm
    subst hE0
    replace hE1 := hE1.symm
    subst hE1
    refine ret_two (Hr := []) [] Tryd.results58 (res_tmp rfl) (res_tmp rfl) ⟨rfl, rfl, rfl⟩ (fun _ _ hφ => ask [] rfl hφ) rfl rfl (.inl rfl)
   ·
    replace hm := iteF hm hb14
    refine wc_keep [0, 1] (S' := [_,_]) rfl ?_
    refine wc_skip ?_
    refine we_then ?_
    refine wc_seq ?_
    refine wc_seq ?_
    refine wc_region ?_
    refine wl_pure rfl rfl rfl (freshS_eq rfl) rfl ?_
    refine wl_pure rfl rfl rfl (freshS_eq rfl) rfl ?_
    refine wl_nil ?_
    refine we_then ?_
    refine wc_keep [20, 0, 1] (S' := [_,_,_]) rfl ?_
    refine wc_cond rfl (fun hb20 => ?_) (fun hb20 => ?_)
    ·
     replace hm := iteT hm hb20
     refine wc_keep [0] (S' := [_]) rfl ?_
     refine wc_seq ?_
     refine wc_region ?_
     refine wl_pure rfl rfl rfl (freshS_eq rfl) rfl ?_
     refine wl_reck rfl rfl rfl (freshS_eq rfl) (rk_neg rfl rfl) ?_
     refine wl_pure rfl rfl rfl (freshS_eq rfl) rfl ?_
     refine wl_pure rfl rfl rfl (freshS_eq rfl) rfl ?_
     refine wl_pure rfl rfl rfl (freshS_eq rfl) rfl ?_
     refine wl_pure rfl rfl rfl (freshS_eq rfl) rfl ?_
     refine wl_nil ?_
     refine we_then ?_
     refine wc_keep [5, 4] (S' := [_,_]) rfl ?_
     refine wc_ret ?_
     refine we_then_ret ?_
     have hE := (Option.some.inj hm).symm
     obtain ⟨hE0, hE1⟩ := Prod.mk.inj hE
     clear hE
     replace hE0 := hE0.symm
     subst hE0
     replace hE1 := hE1.symm
     subst hE1
     refine ret_two (Hr := []) [] Tryd.results58 (res_tmp rfl) (res_tmp rfl) ⟨rfl, rfl, rfl⟩ (fun _ _ hφ => ask [] rfl hφ) rfl rfl (.inl rfl)
    ·
     replace hm := iteF hm hb20
     refine wc_keep [0, 1] (S' := [_,_]) rfl ?_
     refine wc_skip ?_
     refine we_then ?_
     refine wc_seq ?_
     refine wc_region ?_
     refine wl_pure rfl rfl rfl (freshS_eq rfl) rfl ?_
     refine wl_pure rfl rfl rfl (freshS_eq rfl) rfl ?_
     refine wl_pure rfl rfl rfl (freshS_eq rfl) rfl ?_
     refine wl_pure rfl rfl rfl (freshS_eq rfl) rfl ?_
     refine wl_nil ?_
     refine we_then ?_
     refine wc_keep [6, 0, 1] (S' := [_,_,_]) rfl ?_
     refine wc_seq ?_
     obtain ⟨hg31, hm⟩ := gd_some hm
     refine wc_draw [0, 1, 2, 3, 4, 5] rfl rfl (fun hok => ?_)
     refine wx_pure hok 0 rfl rfl rfl (freshS_eq rfl) rfl rfl ?_
     refine wx_pure hok 1 rfl rfl rfl (freshS_eq rfl) rfl rfl ?_
     refine wx_pure hok 2 rfl rfl rfl (freshS_eq rfl) rfl rfl ?_
     refine wx_bin hok 3 rfl rfl rfl (freshS_eq rfl) rfl rfl rfl rfl (run_quo hg31) ?_
     refine wx_pure hok 4 rfl rfl rfl (freshS_eq rfl) rfl rfl ?_
     refine wx_pure hok 5 rfl rfl rfl (freshS_eq rfl) rfl rfl ?_
     refine wx_step1 hok 6 rfl rfl rfl rfl ?_
     refine wl_pure rfl rfl rfl (freshS_eq rfl) rfl ?_
     refine wl_nil ?_
     refine we_x [] [] rfl rfl ?_
     refine wx_step1 hok 7 rfl rfl rfl rfl ?_
     refine wl_pure rfl rfl rfl (freshS_eq rfl) rfl ?_
     refine wl_nil ?_
     refine we_x [] [] rfl rfl ?_
     refine wx_done hok rfl ?_
     refine we_then ?_
     refine wc_keep [5, 4] (S' := [_,_]) rfl ?_
     refine wc_ret ?_
     have hE := (Option.some.inj hm).symm
     obtain ⟨hE0, hE1⟩ := Prod.mk.inj hE
     clear hE
     replace hE0 := hE0.symm
     subst hE0
     replace hE1 := hE1.symm
     subst hE1
     refine ret_two (Hr := []) [] Tryd.results58 (res_tmp rfl) (res_tmp rfl) ⟨rfl, rfl, rfl⟩ (fun _ _ hφ => ask [] rfl hφ) rfl rfl (.inl rfl)
set_option maxRecDepth 100000 in
set_option maxHeartbeats 4000000 in
theorem w_ropewalkref01_reckoned_s (N : Nat) (a0 : Int) (a1 : Int) (a2 : Int) (o0 : Int) (o1 : Bool) (hm : m_ropewalkref01_reckoned N a0 a1 a2 = some (o0, o1)) : Spec Tryd.prog 41 [.int .u8 a0, .int .i64 a1, .int .i64 a2] [] [] (fun v Φr Hr => v = .tuple #[.int .i64 o0, .bool o1] ∧ Φr = [] ∧ Hr = []) := by
 unfold m_ropewalkref01_reckoned at hm
 refine spec_of Tryd.func41 rfl Tryd.ntmps41 rfl (S := [_,_,_]) rfl (fun C => ?_)
 refine wc_seq ?_
 refine wc_region ?_
 refine wl_pure rfl rfl rfl (freshS_eq rfl) rfl ?_
 refine wl_pure rfl rfl rfl (freshS_eq rfl) rfl ?_
 refine wl_nil ?_
 refine we_then ?_
 refine wc_keep [0, 1, 2] (S' := [_,_,_]) rfl ?_
 refine wc_seq ?_
 refine wc_seq ?_
 refine wc_region ?_
 refine wl_pure rfl rfl rfl (freshS_eq rfl) rfl ?_
 refine wl_nil ?_
 refine we_then ?_
 refine wc_keep [8, 1, 2] (S' := [_,_,_]) rfl ?_
 refine wc_block ?_
 refine wc_seq ?_
 refine wc_region ?_
 refine wl_pure rfl rfl rfl (freshS_eq rfl) rfl ?_
 refine wl_pure rfl rfl rfl (freshS_eq rfl) rfl ?_
 refine wl_nil ?_
 refine we_then ?_
 refine wc_keep [9, 8, 1, 2] (S' := [_,_,_,_]) rfl ?_
 refine wc_cond rfl (fun hb9 => ?_) (fun hb9 => ?_)
 ·
  replace hm := iteT hm hb9
  refine wc_keep [1, 2] (S' := [_,_]) rfl ?_
  refine wc_seq ?_
  refine wc_region ?_
  refine wl_pure rfl rfl rfl (freshS_eq rfl) rfl ?_
  refine wl_pure rfl rfl rfl (freshS_eq rfl) rfl ?_
  obtain ⟨⟨v13_0, v13_1⟩, hc13, hm⟩ := bindO_some hm
  try dsimp only at hm
  refine wl_call [] [] rfl rfl rfl (freshS_eq rfl) rfl rfl fn_57 rfl (w_ropewalkref01_sum_s N a1 a2 _ _ hc13) (fun _ _ hφ => ask [] rfl hφ) rfl (H' := []) rfl ?_
  rintro _ _ _ ⟨rfl, rfl, rfl⟩
  refine wl_pure rfl rfl rfl (freshS_eq rfl) rfl ?_
  refine wl_pure rfl rfl rfl (freshS_eq rfl) rfl ?_
  refine wl_pure rfl rfl rfl (freshS_eq rfl) rfl ?_
  refine wl_pure rfl rfl rfl (freshS_eq rfl) rfl ?_
  refine wl_nil ?_
  refine we_then ?_
  refine wc_keep [7, 6] (S' := [_,_]) rfl ?_
  refine wc_ret ?_
  refine we_block_ret ?_
  refine we_then_ret ?_
  have hE := (Option.some.inj hm).symm
  obtain ⟨hE0, hE1⟩ := Prod.mk.inj hE
  clear hE
  replace hE0 := hE0.symm
  subst hE0
  replace hE1 := hE1.symm
  subst hE1
  refine ret_two (Hr := []) [] Tryd.results41 (res_tmp rfl) (res_tmp rfl) ⟨rfl, rfl, rfl⟩ (fun _ _ hφ => ask [] rfl hφ) rfl rfl (.inl rfl)
 ·
  replace hm := iteF hm hb9
  refine wc_keep [8, 1, 2] (S' := [_,_,_]) rfl ?_
  refine wc_seq ?_
  refine wc_region ?_
  refine wl_pure rfl rfl rfl (freshS_eq rfl) rfl ?_
  refine wl_pure rfl rfl rfl (freshS_eq rfl) rfl ?_
  refine wl_nil ?_
  refine we_then ?_
  refine wc_keep [16, 8, 1, 2] (S' := [_,_,_,_]) rfl ?_
  refine wc_cond rfl (fun hb16 => ?_) (fun hb16 => ?_)
  ·
   replace hm := iteT hm hb16
   refine wc_keep [1, 2] (S' := [_,_]) rfl ?_
   refine wc_seq ?_
   refine wc_seq ?_
   refine wc_region ?_
   refine wl_pure rfl rfl rfl (freshS_eq rfl) rfl ?_
   refine wl_pure rfl rfl rfl (freshS_eq rfl) rfl ?_
   refine wl_nil ?_
   refine we_then ?_
   refine wc_keep [19, 1, 2] (S' := [_,_,_]) rfl ?_
   refine wc_cond rfl (fun hb19 => ?_) (fun hb19 => ?_)
   ·
    replace hm := iteT hm hb19
    refine wc_keep [1, 2] (S' := [_,_]) rfl ?_
    refine wc_seq ?_
    refine wc_region ?_
    refine wl_pure rfl rfl rfl (freshS_eq rfl) rfl ?_
    refine wl_pure rfl rfl rfl (freshS_eq rfl) rfl ?_
    refine wl_pure rfl rfl rfl (freshS_eq rfl) rfl ?_
    refine wl_pure rfl rfl rfl (freshS_eq rfl) rfl ?_
    refine wl_pure rfl rfl rfl (freshS_eq rfl) rfl ?_
    refine wl_pure rfl rfl rfl (freshS_eq rfl) rfl ?_
    refine wl_pure rfl rfl rfl (freshS_eq rfl) rfl ?_
    refine wl_nil ?_
    refine we_then ?_
    refine wc_keep [7, 6] (S' := [_,_]) rfl ?_
    refine wc_ret ?_
    refine we_then_ret ?_
    refine we_block_ret ?_
    refine we_then_ret ?_
    have hE := (Option.some.inj hm).symm
    obtain ⟨hE0, hE1⟩ := Prod.mk.inj hE
    clear hE
    replace hE0 := hE0.symm
    subst hE0
    replace hE1 := hE1.symm
    subst hE1
    refine ret_two (Hr := []) [] Tryd.results41 (res_tmp rfl) (res_tmp rfl) ⟨rfl, rfl, rfl⟩ (fun _ _ hφ => ask [] rfl hφ) rfl rfl (.inl rfl)
   ·
    replace hm := iteF hm hb19
    refine wc_keep [1, 2] (S' := [_,_]) rfl ?_
    refine wc_skip ?_
    refine we_then ?_
    refine wc_seq ?_
    refine wc_region ?_
    refine wl_pure rfl rfl rfl (freshS_eq rfl) rfl ?_
    refine wl_pure rfl rfl rfl (freshS_eq rfl) rfl ?_
    refine wl_reck rfl rfl rfl (freshS_eq rfl) (rk_neg rfl rfl) ?_
    obtain ⟨⟨v28_0, v28_1⟩, hc28, hm⟩ := bindO_some hm
    try dsimp only at hm
    refine wl_call [] [] rfl rfl rfl (freshS_eq rfl) rfl rfl fn_57 rfl (w_ropewalkref01_sum_s N a1 (IntKind.wrap .i64 (0 - a2)) _ _ hc28) (fun _ _ hφ => ask [] rfl hφ) rfl (H' := []) rfl ?_
    rintro _ _ _ ⟨rfl, rfl, rfl⟩
    refine wl_pure rfl rfl rfl (freshS_eq rfl) rfl ?_
    refine wl_pure rfl rfl rfl (freshS_eq rfl) rfl ?_
    refine wl_pure rfl rfl rfl (freshS_eq rfl) rfl ?_
    refine wl_pure rfl rfl rfl (freshS_eq rfl) rfl ?_
    refine wl_nil ?_
    refine we_then ?_
    refine wc_keep [7, 6] (S' := [_,_]) rfl ?_
    refine wc_ret ?_
    refine we_block_ret ?_
    refine we_then_ret ?_
    have hE := (Option.some.inj hm).symm
    obtain ⟨hE0, hE1⟩ := Prod.mk.inj hE
    clear hE
    replace hE0 := hE0.symm
    subst hE0
    replace hE1 := hE1.symm
    subst hE1
    refine ret_two (Hr := []) [] Tryd.results41 (res_tmp rfl) (res_tmp rfl) ⟨rfl, rfl, rfl⟩ (fun _ _ hφ => ask [] rfl hφ) rfl rfl (.inl rfl)
  ·
   replace hm := iteF hm hb16
   refine wc_keep [8, 1, 2] (S' := [_,_,_]) rfl ?_
   refine wc_seq ?_
   refine wc_region ?_
   refine wl_pure rfl rfl rfl (freshS_eq rfl) rfl ?_
   refine wl_pure rfl rfl rfl (freshS_eq rfl) rfl ?_
   refine wl_nil ?_
   refine we_then ?_
   refine wc_keep [31, 1, 2] (S' := [_,_,_]) rfl ?_
   refine wc_cond rfl (fun hb31 => ?_) (fun hb31 => ?_)
   ·
    replace hm := iteT hm hb31
    refine wc_keep [1, 2] (S' := [_,_]) rfl ?_
    refine wc_seq ?_
    refine wc_region ?_
    refine wl_pure rfl rfl rfl (freshS_eq rfl) rfl ?_
    refine wl_pure rfl rfl rfl (freshS_eq rfl) rfl ?_
    obtain ⟨⟨v35_0, v35_1⟩, hc35, hm⟩ := bindO_some hm
    try dsimp only at hm
    refine wl_call [] [] rfl rfl rfl (freshS_eq rfl) rfl rfl fn_58 rfl (w_ropewalkref01_product_s N a1 a2 _ _ hc35) (fun _ _ hφ => ask [] rfl hφ) rfl (H' := []) rfl ?_
    rintro _ _ _ ⟨rfl, rfl, rfl⟩
    refine wl_pure rfl rfl rfl (freshS_eq rfl) rfl ?_
    refine wl_pure rfl rfl rfl (freshS_eq rfl) rfl ?_
    refine wl_pure rfl rfl rfl (freshS_eq rfl) rfl ?_
    refine wl_pure rfl rfl rfl (freshS_eq rfl) rfl ?_
    refine wl_nil ?_
    refine we_then ?_
    refine wc_keep [7, 6] (S' := [_,_]) rfl ?_
    refine wc_ret ?_
    refine we_block_ret ?_
    refine we_then_ret ?_
    have hE := (Option.some.inj hm).symm
    obtain ⟨hE0, hE1⟩ := Prod.mk.inj hE
    clear hE
    replace hE0 := hE0.symm
    subst hE0
    replace hE1 := hE1.symm
    subst hE1
    refine ret_two (Hr := []) [] Tryd.results41 (res_tmp rfl) (res_tmp rfl) ⟨rfl, rfl, rfl⟩ (fun _ _ hφ => ask [] rfl hφ) rfl rfl (.inl rfl)
   ·
    replace hm := iteF hm hb31
    refine wc_keep [1] (S' := [_]) rfl ?_
    refine wc_skip ?_
    refine we_block_normal ?_
    refine we_then ?_
    refine wc_seq ?_
    refine wc_region ?_
    refine wl_pure rfl rfl rfl (freshS_eq rfl) rfl ?_
    refine wl_reck rfl rfl rfl (freshS_eq rfl) (rk_neg rfl rfl) ?_
    refine wl_pure rfl rfl rfl (freshS_eq rfl) rfl ?_
    refine wl_pure rfl rfl rfl (freshS_eq rfl) rfl ?_
    refine wl_pure rfl rfl rfl (freshS_eq rfl) rfl ?_
    refine wl_pure rfl rfl rfl (freshS_eq rfl) rfl ?_
    refine wl_nil ?_
    refine we_then ?_
    refine wc_keep [7, 6] (S' := [_,_]) rfl ?_
    refine wc_ret ?_
    have hE := (Option.some.inj hm).symm
    obtain ⟨hE0, hE1⟩ := Prod.mk.inj hE
    clear hE
    replace hE0 := hE0.symm
    subst hE0
    replace hE1 := hE1.symm
    subst hE1
    refine ret_two (Hr := []) [] Tryd.results41 (res_tmp rfl) (res_tmp rfl) ⟨rfl, rfl, rfl⟩ (fun _ _ hφ => ask [] rfl hφ) rfl rfl (.inl rfl)
end Go.Proofs.YtdkmibdiokmfbaaDoor
