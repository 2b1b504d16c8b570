/- Walks, printed by a program out of the loaded code (wip/sep). -/
import Derived.Test.YtffcijddfhhbdaaW6
import Derived.Test.YtffcijddfhhbdaaW11
import Derived.Test.YtffcijddfhhbdaaDyn
import Derived.Test.YtffcijddfhhbdaaMap
namespace Go.Proofs.Ytffcijddfhhbdaa
open Go.RowKit
set_option maxRecDepth 100000 in
set_option maxHeartbeats 4000000 in
theorem rsome_s (pa p1 p2 : Option Addr) (ca c1 c2 : Nat) (t0 t1 t2 t3 t4 t5 t6 : Value) (c : CondD) (has : List Bool) (vals : List V) (hb : has.length ≤ 1048576) (hc : vals.length ≤ 1048576) (p : Option Addr) (cl : Nat) (l : List FactD) : Spec Try.prog 11 [.agg #[.int .u8 (c.k), .int .i64 (c.ty), .slice pa c.args.length ca, t0, t1, t2, t3, t4, t5, t6], .agg #[.slice p1 has.length c1, .slice p2 vals.length c2], .slice p l.length cl] [.sli 5 aRep pa ca c.args, .sli 1 bRep p1 c1 has, .sli 3 vRep p2 c2 vals, .sli 3 fRep p cl l] [] (fun v Φr Hr => ∃ b, v = .bool b ∧ (b = true ↔ ∃ f ∈ l, Fits c ⟨has, vals⟩ f) ∧ Φr = [] ∧ Hr = []) := by
 refine spec_of Try.func11 rfl Try.ntmps11 rfl (S := [_,_,_]) rfl (fun C => ?_)
 refine wc_know (fun F w h => sli_cap (h _ (mem_at (k := 3) rfl))) (fun hcap => ?_)
 refine wc_seq ?_
 refine wc_region ?_
 refine wl_box rfl rfl rfl (freshS_eq rfl) rfl rfl rfl (fun g3 => ?_)
 refine wl_box rfl rfl rfl (freshS_eq rfl) rfl rfl rfl (fun g4 => ?_)
 refine wl_pure rfl rfl rfl (freshS_eq rfl) rfl ?_
 refine wl_nil ?_
 refine we_then ?_
 refine wc_seq ?_
 refine wc_seq ?_
 refine wc_region ?_
 refine wl_pure rfl rfl rfl (freshS_eq rfl) rfl ?_
 refine wl_nil ?_
 refine we_then ?_
 refine wc_block ?_
 refine wc_loop (σ := Nat) (fun s => s ≤ l.length ∧ ∀ f ∈ l.take s, ¬ Fits c ⟨has, vals⟩ f) (fun s => l.length - s) (fun s => [(7, .int .i64 ((s : Nat) : Int)), (6, .bool false), (4, .pointer (some ⟨g4, 0, none⟩)), (3, .pointer (some ⟨g3, 0, none⟩)), (0, .agg #[.int .u8 (c.k), .int .i64 (c.ty), .slice pa c.args.length ca, t0, t1, t2, t3, t4, t5, t6]), (1, .agg #[.slice p1 has.length c1, .slice p2 vals.length c2]), (2, .slice p l.length cl)]) (fun s => [.sli 5 aRep pa ca c.args, .sli 1 bRep p1 c1 has, .sli 3 vRep p2 c2 vals, .sli 3 fRep p cl l]) (fun s => [.blk g4 [.slice p1 has.length c1, .slice p2 vals.length c2] 56, .blk g3 [.int .u8 (c.k), .int .i64 (c.ty), .slice pa c.args.length ca, t0, t1, t2, t3, t4, t5, t6] 33]) 0 ⟨by simp, by simp⟩ [7, 6, 4, 3, 0, 1, 2] rfl (fun _ _ hφ => ask [0, 1, 2, 3] rfl hφ) rfl (fun s1 oks1 => ?_)
 refine wc_seq ?_
 refine wc_seq ?_
 refine wc_region ?_
 refine wl_pure rfl rfl rfl (freshS_eq rfl) rfl ?_
 refine wl_pure rfl rfl rfl (freshS_eq rfl) rfl ?_
 refine wl_len rfl rfl rfl (freshS_eq rfl) rfl rfl tE_52 ?_
 refine wl_pure rfl rfl rfl (freshS_eq rfl) rfl ?_
 refine wl_nil ?_
 refine we_then ?_
 refine wc_keep [13, 7, 6, 4, 3, 0, 1, 2] (S' := [_,_,_,_,_,_,_,_]) rfl ?_
 refine wc_cond rfl (fun h13 => ?_) (fun h13 => ?_)
 ·
  replace h13 := of_decide_eq_true h13
  refine wc_skip ?_
  refine we_then ?_
  refine wc_seq ?_
  refine wc_block ?_
  refine wc_seq ?_
  refine wc_draw [0, 1, 2, 3, 4, 5, 7, 8, 9] rfl rfl (fun hok => ?_)
  refine wx_memo (σ := Nat × Nat × FactD × (Option Addr × Nat) × Bool × EnvD × (Option Addr) × Nat × (Option Addr) × Nat × Nat) (fun (b20, q20, x20, r20, r23, e23, p23, c23, p23_2, c23_2, g8) => l[s1]? = some x20 ∧ x20.ok ∧ MatchR ⟨c.k, c.ty, c.args⟩ ⟨x20.id, x20.ty, x20.args⟩ ⟨has, vals⟩ r23 e23) [10, 9, 8, 7, 6, 5, 4, 3, 2, 1, 0] (fun (b20, q20, x20, r20, r23, e23, p23, c23, p23_2, c23_2, g8) => [(5, .blk g4 [.slice p1 has.length c1, .slice p2 vals.length c2] 56), (0, .blk g3 [.int .u8 (c.k), .int .i64 (c.ty), .slice pa c.args.length ca, t0, t1, t2, t3, t4, t5, t6] 33)]) (fun (b20, q20, x20, r20, r23, e23, p23, c23, p23_2, c23_2, g8) => [.sli 3 vRep r20.1 r20.2 x20.args, .cells b20 q20 ([.int .i64 (x20.id), .int .i64 (x20.ty), .slice r20.1 x20.args.length r20.2]), .rep fRep [.int .i64 (x20.id), .int .i64 (x20.ty), .slice r20.1 x20.args.length r20.2] x20, .sli 5 aRep pa ca c.args, .sli 1 bRep p1 c1 has, .sli 3 vRep p2 c2 vals, .sli 3 fRep p cl l]) (fun (b20, q20, x20, r20, r23, e23, p23, c23, p23_2, c23_2, g8) => [.blk g8 [.slice none 0 0, .slice none 0 0] 56, .own 27 3 vRep (.slice p23_2 e23.vals.length c23_2) e23.vals, .own 4 1 bRep (.slice p23 e23.has.length c23) e23.has, .blk g4 [.slice p1 has.length c1, .slice p2 vals.length c2] 56, .blk g3 [.int .u8 (c.k), .int .i64 (c.ty), .slice pa c.args.length ca, t0, t1, t2, t3, t4, t5, t6] 33]) (fun (b20, q20, x20, r20, r23, e23, p23, c23, p23_2, c23_2, g8) => [(8, .pointer (some ⟨g8, 0, none⟩)), (25, .bool r23), (24, .agg #[.slice p23 e23.has.length c23, .slice p23_2 e23.vals.length c23_2]), (13, .bool (decide (((s1 : Nat) : Int) < ((l.length : Nat) : Int)))), (7, .int .i64 ((s1 : Nat) : Int)), (6, .bool false), (4, .pointer (some ⟨g4, 0, none⟩)), (3, .pointer (some ⟨g3, 0, none⟩)), (0, .agg #[.int .u8 (c.k), .int .i64 (c.ty), .slice pa c.args.length ca, t0, t1, t2, t3, t4, t5, t6]), (1, .agg #[.slice p1 has.length c1, .slice p2 vals.length c2]), (2, .slice p l.length cl)]) ?_ (fun m0_4 => ?_)
  ·
   rintro ⟨b20, q20, x20, r20, r23, e23, p23, c23, p23_2, c23_2, g8⟩ ⟨hx20, okx20, hmr23⟩
   try dsimp only
   refine wx_step1 hok 11 rfl rfl rfl rfl ?_
   refine wl_store 0 0 rfl rfl rfl rfl rfl rfl rfl tS_56 rfl rfl rfl (all' := [_,_]) rfl (H' := [_,_,_,_,_]) rfl ?_
   refine wl_nil ?_
   refine we_x [0, 1, 2, 3, 4, 5, 6] [] rfl rfl ?_
   refine wx_step1 hok 12 rfl rfl rfl rfl ?_
   refine wl_pure rfl rfl rfl (freshS_eq rfl) rfl ?_
   refine wl_nil ?_
   refine we_x [0, 1, 2, 3, 4, 5, 6] [] rfl rfl ?_
   refine wx_done hok rfl ?_
   refine we_then ?_
   refine wc_keep [9, 13, 7, 6, 4, 3, 0, 1, 2] (S' := [_,_,_,_,_,_,_,_,_]) rfl ?_
   refine wc_seq ?_
   refine wc_region ?_
   refine wl_pure rfl rfl rfl (freshS_eq rfl) rfl ?_
   refine wl_nil ?_
   refine we_then ?_
   refine wc_cond rfl (fun h26 => ?_) (fun h26 => ?_)
   ·
    refine wc_seq ?_
    refine wc_region ?_
    refine wl_pure (S' := [_,_,_,_,_,_,_,_,_]) rfl rfl rfl rfl rfl ?_
    refine wl_nil ?_
    refine we_then ?_
    refine wc_ret ?_
    refine we_block_ret ?_
    refine we_then_ret ?_
    refine we_then_ret ?_
    refine we_block_ret ?_
    refine we_then_ret ?_
    refine ret_one (Hr := []) [] Try.results11 (res_tmp rfl) ?_ (fun _ _ hφ => ask [] rfl hφ) rfl rfl (.inl rfl)
    exact ⟨true, rfl, ⟨fun _ => ⟨x20, List.mem_of_getElem? hx20, hmr23.fits.1 h26⟩, fun _ => rfl⟩, rfl, rfl⟩
   ·
    refine wc_skip ?_
    refine we_block_normal ?_
    refine we_then ?_
    refine wc_region ?_
    refine wl_pure rfl rfl rfl (freshS_eq rfl) rfl ?_
    refine wl_pure rfl rfl rfl (freshS_eq rfl) rfl ?_
    refine wl_as (d := 15) (v' := .int .i64 ((s1 + 1 : Nat) : Int)) (S' := [_,_,_,_,_,_,_,_,_,_,_]) rfl rfl (nat_inc (by omega)) ?_
    refine wl_pure (S' := [_,_,_,_,_,_,_,_,_,_,_]) rfl rfl rfl rfl rfl ?_
    refine wl_nil ?_
    refine we_pick [3, 4] rfl (H' := [_,_]) rfl ?_
    refine we_round (s1 + 1) (by omega) ⟨by omega, none_step oks1.2 hx20 (fun hF => by have hh := hmr23.fits.2 hF; rw [h26] at hh; cases hh)⟩ [7, 6, 4, 3, 0, 1, 2] rfl (fun _ _ hφ => ask [3, 4, 5, 6] rfl hφ) rfl
  refine wx_loadH hok 0 1 0 rfl rfl rfl (freshS_eq rfl) rfl rfl rfl rfl (cs := [_,_,_,_,_,_,_,_,_,_]) rfl tS_33 tA_33 rfl rfl ?_
  refine wx_pure hok 1 rfl rfl rfl (freshS_eq rfl) rfl rfl ?_
  refine wx_pure hok 2 rfl rfl rfl (freshS_eq rfl) rfl rfl ?_
  refine wx_index hok 3 3 s1 rfl rfl rfl (freshS_eq rfl) rfl rfl rfl rfl rfl rfl (by omega) tE_52 tS_36 (fun b20 q20 cs20 x20 hx20 hlx20 => ?_)
  refine wx_openR fRep_opens 1 rfl (fun r20 er20 okx20 => ?_)
  subst er20
  refine wx_load hok 4 1 0 rfl rfl rfl (freshS_eq rfl) rfl rfl rfl rfl (cs := [_,_,_]) rfl tS_36 tA_36 rfl rfl ?_
  refine wx_loadH hok 5 0 0 rfl rfl rfl (freshS_eq rfl) rfl rfl rfl rfl (cs := [_,_]) rfl tS_56 tA_56 rfl rfl ?_
  refine wx_step2 hok 6 10 rfl rfl rfl rfl rfl rfl ?_ ?_
  ·
   refine wl_call [] [0, 1] rfl rfl rfl (freshS_eq rfl) rfl rfl fn_22 rfl (rMatch_s _ _ _ _ _ _ _ _ _ _ _ _ _ _ _ ⟨c.k, c.ty, c.args⟩ ⟨x20.id, x20.ty, x20.args⟩ has vals hb hc) (fun _ _ hφ => ask [3, 0, 4, 5] rfl hφ) rfl (H' := [_,_]) rfl ?_
   rintro _ _ _ ⟨r23, e23, p23, c23, p23_2, c23_2, rfl, hmr23, rfl, rfl⟩
   refine wl_nil ?_
   refine we_x [0, 1, 2, 3, 4, 5, 6] [] rfl rfl ?_
   refine wx_pure hok 7 rfl rfl rfl (freshS_eq rfl) rfl rfl ?_
   refine wx_pure hok 8 rfl rfl rfl (freshS_eq rfl) rfl rfl ?_
   refine wx_pure hok 9 rfl rfl rfl (freshS_eq rfl) rfl rfl ?_
   refine wx_step1 hok 10 rfl rfl rfl rfl ?_
   refine wl_alloc rfl rfl rfl (freshS_eq rfl) rfl tZ_56 rfl (fun g8 => ?_)
   refine wl_nil ?_
   refine we_x [0, 1, 2, 3, 4, 5, 6] [3, 4] rfl rfl ?_
   exact wx_at (m0_4 (b20, q20, x20, r20, r23, e23, p23, c23, p23_2, c23_2, g8) ⟨hx20, okx20, hmr23⟩) rfl [0, 1] [0, 1] [0, 1, 2, 3, 4, 5, 6] [0, 1, 2, 3, 4, 5, 6] [0, 1, 2, 3, 4] [0, 1, 2, 3, 4] [8, 25, 24, 13, 7, 6, 4, 3, 0, 1, 2] rfl rfl rfl rfl rfl rfl rfl rfl
  ·
   refine wl_alloc rfl rfl rfl (freshS_eq rfl) rfl tZ_56 rfl (fun g8 => ?_)
   refine wl_nil ?_
   refine we_x [0, 1, 2, 3, 4, 5, 6] [1, 2] rfl rfl ?_
   refine wx_step1 hok 6 rfl rfl rfl rfl ?_
   refine wl_call [] [0, 1, 2] rfl rfl rfl (freshS_eq rfl) rfl rfl fn_22 rfl (rMatch_s _ _ _ _ _ _ _ _ _ _ _ _ _ _ _ ⟨c.k, c.ty, c.args⟩ ⟨x20.id, x20.ty, x20.args⟩ has vals hb hc) (fun _ _ hφ => ask [3, 0, 4, 5] rfl hφ) rfl (H' := [_,_,_]) rfl ?_
   rintro _ _ _ ⟨r23, e23, p23, c23, p23_2, c23_2, rfl, hmr23, rfl, rfl⟩
   refine wl_nil ?_
   refine we_x [0, 1, 2, 3, 4, 5, 6] [] rfl rfl ?_
   refine wx_pure hok 7 rfl rfl rfl (freshS_eq rfl) rfl rfl ?_
   refine wx_pure hok 8 rfl rfl rfl (freshS_eq rfl) rfl rfl ?_
   refine wx_pure hok 9 rfl rfl rfl (freshS_eq rfl) rfl rfl ?_
   exact wx_at (m0_4 (b20, q20, x20, r20, r23, e23, p23, c23, p23_2, c23_2, g8) ⟨hx20, okx20, hmr23⟩) rfl [0, 1] [0, 1] [0, 1, 2, 3, 4, 5, 6] [0, 1, 2, 3, 4, 5, 6] [2, 0, 1, 3, 4] [1, 2, 0, 3, 4] [8, 25, 24, 13, 7, 6, 4, 3, 0, 1, 2] rfl rfl rfl rfl rfl rfl rfl rfl
 ·
  replace h13 := of_decide_eq_false h13
  refine wc_exit ?_
  refine we_then_exit ?_
  refine we_then_exit ?_
  refine we_block_hit ?_
  refine we_then ?_
  refine wc_seq ?_
  refine wc_region ?_
  refine wl_pure (S' := [_,_,_,_,_,_,_]) rfl rfl rfl rfl rfl ?_
  refine wl_nil ?_
  refine we_then ?_
  refine wc_ret ?_
  refine ret_one (Hr := []) [] Try.results11 (res_tmp rfl) ?_ (fun _ _ hφ => ask [] rfl hφ) rfl rfl (.inl rfl)
  exact ⟨false, rfl, ⟨fun h => (by cases h), fun h => absurd h (none_fits oks1.2 (by omega))⟩, rfl, rfl⟩

end Go.Proofs.Ytffcijddfhhbdaa
