/- Walks, printed by a program out of the loaded code (wip/sep). -/
import Derived.Test.YtffcijddfhhbdaaW4
namespace Go.Proofs.Ytffcijddfhhbdaa
open Go.RowKit
set_option maxRecDepth 100000 in
set_option maxHeartbeats 4000000 in
theorem Match_s (pa px p1 p2 : Option Addr) (ca cx c1 c2 : Nat) (t0 t1 t2 t3 t4 t5 t6 : Value) (c : CondD) (f : FactD) (has : List Bool) (vals : List V) (hb : has.length ≤ 1048576) (hc : vals.length ≤ 1048576) : Spec Try.prog 7 [.agg #[.int .u8 (c.k), .int .i64 (c.ty), .slice pa c.args.length ca, t0, t1, t2, t3, t4, t5, t6], .agg #[.int .i64 (f.id), .int .i64 (f.ty), .slice px f.args.length cx], .agg #[.slice p1 has.length c1, .slice p2 vals.length c2]] [.sli 5 aRep pa ca c.args, .sli 3 vRep px cx f.args, .sli 1 bRep p1 c1 has, .sli 3 vRep p2 c2 vals] [] (fun v Φr Hr => ∃ r e' p1 c1 p2 c2, v = .tuple #[.agg #[.slice p1 e'.has.length c1, .slice p2 e'.vals.length c2], .bool r] ∧ MatchR c f ⟨has, vals⟩ r e' ∧ Φr = [] ∧ Hr = [.own 27 3 vRep (.slice p2 e'.vals.length c2) e'.vals, .own 4 1 bRep (.slice p1 e'.has.length c1) e'.has]) := by
 refine spec_of Try.func7 rfl Try.ntmps7 rfl (S := [_,_,_]) rfl (fun C => ?_)
 refine wc_know (fun F w h => sli_cap (h _ (mem_at (k := 0) rfl))) (fun hcap => ?_)
 refine wc_seq ?_
 refine wc_region ?_
 refine wl_box rfl rfl rfl (freshS_eq rfl) rfl rfl rfl (fun g3 => ?_)
 refine wl_box rfl rfl rfl (freshS_eq rfl) rfl rfl rfl (fun g4 => ?_)
 refine wl_box rfl rfl rfl (freshS_eq rfl) rfl rfl rfl (fun g5 => ?_)
 refine wl_alloc rfl rfl rfl (freshS_eq rfl) rfl tZ_41 rfl (fun g6 => ?_)
 refine wl_pure rfl rfl rfl (freshS_eq rfl) rfl ?_
 refine wl_nil ?_
 refine we_then ?_
 refine wc_seq ?_
 refine wc_region ?_
 refine wl_fieldAddr rfl rfl rfl (freshS_eq rfl) rfl rfl tF_33_0 ?_
 refine wl_loadH 3 0 rfl rfl rfl (freshS_eq rfl) rfl rfl rfl (cs := [_]) rfl tS_22 tA_22 rfl rfl ?_
 refine wl_pure rfl rfl rfl (freshS_eq rfl) rfl ?_
 refine wl_pure rfl rfl rfl (freshS_eq rfl) rfl ?_
 refine wl_split (d := 15) (S' := [_,_,_,_,_,_,_,_,_,_,_]) rfl rfl (fun h15 => ?_) (fun h15 => ?_)
 ·
  replace h15 := eq_of_beq h15
  refine wl_off rfl rfl rfl (freshS_eq rfl) ?_
  refine wl_off rfl rfl rfl (freshS_eq rfl) ?_
  refine wl_off rfl rfl rfl (freshS_eq rfl) ?_
  refine wl_pure rfl rfl rfl (freshS_eq rfl) rfl ?_
  refine wl_pure rfl rfl rfl (freshS_eq rfl) rfl ?_
  refine wl_nil ?_
  refine we_then ?_
  refine wc_keep [8, 7, 6, 5, 4, 3, 0, 1, 2] (S' := [_,_,_,_,_,_,_,_,_]) rfl ?_
  refine wc_seq ?_
  refine wc_seq ?_
  refine wc_region ?_
  refine wl_pure rfl rfl rfl (freshS_eq rfl) rfl ?_
  refine wl_pure rfl rfl rfl (freshS_eq rfl) rfl ?_
  refine wl_pure rfl rfl rfl (freshS_eq rfl) rfl ?_
  refine wl_fieldAddr rfl rfl rfl (freshS_eq rfl) rfl rfl tF_33_1 ?_
  refine wl_loadH 3 1 rfl rfl rfl (freshS_eq rfl) rfl rfl rfl (cs := [_]) rfl tS_3 tA_3 rfl rfl ?_
  refine wl_fieldAddr rfl rfl rfl (freshS_eq rfl) rfl rfl tF_36_1 ?_
  refine wl_loadH 2 1 rfl rfl rfl (freshS_eq rfl) rfl rfl rfl (cs := [_]) rfl tS_3 tA_3 rfl rfl ?_
  refine wl_pure rfl rfl rfl (freshS_eq rfl) rfl ?_
  refine wl_pure rfl rfl rfl (freshS_eq rfl) rfl ?_
  refine wl_pure rfl rfl rfl (freshS_eq rfl) rfl ?_
  refine wl_split (d := 29) (S' := [_,_,_,_,_,_,_,_,_,_,_,_,_,_,_,_,_,_]) rfl rfl (fun h29 => ?_) (fun h29 => ?_)
  ·
   replace h29 := bne_iff_ne.1 h29
   refine wl_off rfl rfl rfl (freshS_eq rfl) ?_
   refine wl_off rfl rfl rfl (freshS_eq rfl) ?_
   refine wl_off rfl rfl rfl (freshS_eq rfl) ?_
   refine wl_off rfl rfl rfl (freshS_eq rfl) ?_
   refine wl_off rfl rfl rfl (freshS_eq rfl) ?_
   refine wl_off rfl rfl rfl (freshS_eq rfl) ?_
   refine wl_off rfl rfl rfl (freshS_eq rfl) ?_
   refine wl_pure rfl rfl rfl (freshS_eq rfl) rfl ?_
   refine wl_pure rfl rfl rfl (freshS_eq rfl) rfl ?_
   refine wl_off rfl rfl rfl (freshS_eq rfl) ?_
   refine wl_off rfl rfl rfl (freshS_eq rfl) ?_
   refine wl_off rfl rfl rfl (freshS_eq rfl) ?_
   refine wl_pure rfl rfl rfl (freshS_eq rfl) rfl ?_
   refine wl_nil ?_
   refine we_then ?_
   refine wc_keep [42, 8, 7, 6, 5, 4, 3, 0, 1, 2] (S' := [_,_,_,_,_,_,_,_,_,_]) rfl ?_
   refine wc_true rfl ?_
   refine wc_rowNil 4 1 bRep ?_
   refine wc_rowNil 27 3 vRep ?_
   refine wc_seq ?_
   refine wc_region ?_
   refine wl_build rfl rfl rfl (freshS_eq rfl) rfl tZ_41 tP_41 rfl (out := [_,_]) rfl ?_
   refine wl_store 2 0 rfl rfl rfl rfl rfl rfl rfl tS_41 rfl rfl rfl (all' := [_,_]) rfl (H' := [_,_,_,_,_,_]) rfl ?_
   refine wl_pure (S' := [_,_,_,_,_,_,_,_,_,_]) rfl rfl rfl rfl rfl ?_
   refine wl_nil ?_
   refine we_then ?_
   refine wc_keep [7, 42, 8, 6, 5, 4, 3, 0, 1, 2] (S' := [_,_,_,_,_,_,_,_,_,_]) rfl ?_
   refine wc_ret ?_
   refine we_then_ret ?_
   refine ret_two (Hr := [.own 27 3 vRep (.slice none 0 0) [], .own 4 1 bRep (.slice none 0 0) []]) [0, 1] Try.results7 (res_cell 2 rfl rfl tS_41 tA_41 rfl rfl) (res_tmp rfl) ?_ (fun _ _ hφ => ask [] rfl hφ) rfl rfl (.inl rfl)
   exact ⟨_, _, _, _, _, _, rfl, MatchR.no (fun hh => by have := hh.1; have := hh.2.1; have := hh.2.2.1; omega), rfl, rfl⟩
  ·
   replace h29 := bne_eq_false_iff_eq.1 h29
   refine wl_fieldAddr rfl rfl rfl (freshS_eq rfl) rfl rfl tF_33_2 ?_
   refine wl_loadH 3 2 rfl rfl rfl (freshS_eq rfl) rfl rfl rfl (cs := [_]) rfl tS_23 tA_23 rfl rfl ?_
   refine wl_len rfl rfl rfl (freshS_eq rfl) rfl rfl tE_23 ?_
   refine wl_fieldAddr rfl rfl rfl (freshS_eq rfl) rfl rfl tF_36_2 ?_
   refine wl_loadH 2 2 rfl rfl rfl (freshS_eq rfl) rfl rfl rfl (cs := [_]) rfl tS_34 tA_34 rfl rfl ?_
   refine wl_len rfl rfl rfl (freshS_eq rfl) rfl rfl tE_34 ?_
   refine wl_pure rfl rfl rfl (freshS_eq rfl) rfl ?_
   refine wl_pure rfl rfl rfl (freshS_eq rfl) rfl ?_
   refine wl_pure rfl rfl rfl (freshS_eq rfl) rfl ?_
   refine wl_split (d := 38) (S' := [_,_,_,_,_,_,_,_,_,_,_,_,_,_,_,_,_,_,_,_,_,_,_,_,_,_,_]) rfl rfl (fun h38 => ?_) (fun h38 => ?_)
   ·
    replace h38 := bne_iff_ne.1 h38
    refine wl_off rfl rfl rfl (freshS_eq rfl) ?_
    refine wl_off rfl rfl rfl (freshS_eq rfl) ?_
    refine wl_off rfl rfl rfl (freshS_eq rfl) ?_
    refine wl_pure rfl rfl rfl (freshS_eq rfl) rfl ?_
    refine wl_nil ?_
    refine we_then ?_
    refine wc_keep [42, 8, 7, 6, 5, 4, 3, 0, 1, 2] (S' := [_,_,_,_,_,_,_,_,_,_]) rfl ?_
    refine wc_true rfl ?_
    refine wc_rowNil 4 1 bRep ?_
    refine wc_rowNil 27 3 vRep ?_
    refine wc_seq ?_
    refine wc_region ?_
    refine wl_build rfl rfl rfl (freshS_eq rfl) rfl tZ_41 tP_41 rfl (out := [_,_]) rfl ?_
    refine wl_store 2 0 rfl rfl rfl rfl rfl rfl rfl tS_41 rfl rfl rfl (all' := [_,_]) rfl (H' := [_,_,_,_,_,_]) rfl ?_
    refine wl_pure (S' := [_,_,_,_,_,_,_,_,_,_]) rfl rfl rfl rfl rfl ?_
    refine wl_nil ?_
    refine we_then ?_
    refine wc_keep [7, 42, 8, 6, 5, 4, 3, 0, 1, 2] (S' := [_,_,_,_,_,_,_,_,_,_]) rfl ?_
    refine wc_ret ?_
    refine we_then_ret ?_
    refine ret_two (Hr := [.own 27 3 vRep (.slice none 0 0) [], .own 4 1 bRep (.slice none 0 0) []]) [0, 1] Try.results7 (res_cell 2 rfl rfl tS_41 tA_41 rfl rfl) (res_tmp rfl) ?_ (fun _ _ hφ => ask [] rfl hφ) rfl rfl (.inl rfl)
    exact ⟨_, _, _, _, _, _, rfl, MatchR.no (fun hh => by have := hh.1; have := hh.2.1; have := hh.2.2.1; omega), rfl, rfl⟩
   ·
    replace h38 := bne_eq_false_iff_eq.1 h38
    refine wl_loadH 1 0 rfl rfl rfl (freshS_eq rfl) rfl rfl rfl (cs := [_,_]) rfl tS_41 tA_41 rfl rfl ?_
    refine wl_call [] [0, 1, 2, 3] rfl rfl rfl (freshS_eq rfl) rfl rfl fn_15 rfl (made_s _ _ _ _ _ _) (fun _ _ hφ => ask [2, 3] rfl hφ) rfl (H' := [_,_,_,_]) rfl ?_
    rintro _ _ _ ⟨b40, rfl, hb40, rfl, rfl⟩
    refine wl_pure rfl rfl rfl (freshS_eq rfl) rfl ?_
    refine wl_pure rfl rfl rfl (freshS_eq rfl) rfl ?_
    refine wl_nil ?_
    refine we_then ?_
    refine wc_keep [42, 8, 7, 6, 5, 4, 3, 0, 1, 2] (S' := [_,_,_,_,_,_,_,_,_,_]) rfl ?_
    refine wc_cond rfl (fun h42 => ?_) (fun h42 => ?_)
    ·
     replace h42 := not_true h42
     refine wc_rowNil 4 1 bRep ?_
     refine wc_rowNil 27 3 vRep ?_
     refine wc_seq ?_
     refine wc_region ?_
     refine wl_build rfl rfl rfl (freshS_eq rfl) rfl tZ_41 tP_41 rfl (out := [_,_]) rfl ?_
     refine wl_store 2 0 rfl rfl rfl rfl rfl rfl rfl tS_41 rfl rfl rfl (all' := [_,_]) rfl (H' := [_,_,_,_,_,_]) rfl ?_
     refine wl_pure (S' := [_,_,_,_,_,_,_,_,_,_]) rfl rfl rfl rfl rfl ?_
     refine wl_nil ?_
     refine we_then ?_
     refine wc_keep [7, 42, 8, 6, 5, 4, 3, 0, 1, 2] (S' := [_,_,_,_,_,_,_,_,_,_]) rfl ?_
     refine wc_ret ?_
     refine we_then_ret ?_
     refine ret_two (Hr := [.own 27 3 vRep (.slice none 0 0) [], .own 4 1 bRep (.slice none 0 0) []]) [0, 1] Try.results7 (res_cell 2 rfl rfl tS_41 tA_41 rfl rfl) (res_tmp rfl) ?_ (fun _ _ hφ => ask [] rfl hφ) rfl rfl (.inl rfl)
     exact ⟨_, _, _, _, _, _, rfl, MatchR.no (fun hh => by have := hb40.2 hh.2.2.2; rw [h42] at this; cases this), rfl, rfl⟩
    ·
     replace h42 := not_false_ h42
     refine wc_skip ?_
     refine we_then ?_
     refine wc_seq ?_
     refine wc_region ?_
     refine wl_loadH 1 0 rfl rfl rfl (freshS_eq rfl) rfl rfl rfl (cs := [_,_]) rfl tS_41 tA_41 rfl rfl ?_
     refine wl_call [] [0, 1, 2, 3] rfl rfl rfl (freshS_eq rfl) rfl rfl fn_16 rfl (of_s _ _ _ _ _ _ (by omega) (by omega)) (fun _ _ hφ => ask [2, 3] rfl hφ) rfl (H' := [_,_,_,_]) rfl ?_
     rintro _ _ _ ⟨p45, c45, p45_2, c45_2, rfl, rfl, rfl⟩
     refine wl_alloc rfl rfl rfl (freshS_eq rfl) rfl tZ_62 rfl (fun g9 => ?_)
     refine wl_store 0 0 rfl rfl rfl rfl rfl rfl rfl tS_62 rfl rfl rfl (all' := [_,_]) rfl (H' := [_,_,_,_,_,_,_]) rfl ?_
     refine wl_nil ?_
     refine we_then ?_
     refine wc_keep [9, 42, 8, 7, 6, 5, 4, 3, 0, 1, 2] (S' := [_,_,_,_,_,_,_,_,_,_,_]) rfl ?_
     refine wc_seq ?_
     refine wc_seq ?_
     refine wc_region ?_
     refine wl_fieldAddr rfl rfl rfl (freshS_eq rfl) rfl rfl tF_33_2 ?_
     refine wl_loadH 6 2 rfl rfl rfl (freshS_eq rfl) rfl rfl rfl (cs := [_]) rfl tS_23 tA_23 rfl rfl ?_
     refine wl_len rfl rfl rfl (freshS_eq rfl) rfl rfl tE_23 ?_
     refine wl_pure rfl rfl rfl (freshS_eq rfl) rfl ?_
     refine wl_nil ?_
     refine we_then ?_
     refine wc_keep [49, 48, 47, 9, 42, 8, 7, 6, 5, 4, 3, 0, 1, 2] (S' := [_,_,_,_,_,_,_,_,_,_,_,_,_,_]) rfl ?_
     refine wc_block ?_
     refine wc_loop (σ := Nat × List Bool × List V) (fun s => s.1 ≤ c.args.length ∧ fitTo c.args f.args has vals s.1 = some (s.2.1, s.2.2)) (fun s => c.args.length - s.1) (fun s => [(49, .int .i64 ((s.1 : Nat) : Int)), (48, .int .i64 ((c.args.length : Nat) : Int)), (47, .slice pa c.args.length ca), (9, .pointer (some ⟨g9, 0, none⟩)), (42, .bool (!b40)), (8, .bool true), (7, .bool false), (6, .pointer (some ⟨g6, 0, none⟩)), (5, .pointer (some ⟨g5, 0, none⟩)), (4, .pointer (some ⟨g4, 0, none⟩)), (3, .pointer (some ⟨g3, 0, none⟩)), (0, .agg #[.int .u8 (c.k), .int .i64 (c.ty), .slice pa c.args.length ca, t0, t1, t2, t3, t4, t5, t6]), (1, .agg #[.int .i64 (f.id), .int .i64 (f.ty), .slice px f.args.length cx]), (2, .agg #[.slice p1 has.length c1, .slice p2 vals.length c2])]) (fun s => [.sli 5 aRep pa ca c.args, .sli 3 vRep px cx f.args, .sli 1 bRep p1 c1 has, .sli 3 vRep p2 c2 vals]) (fun s => [.blk g9 [.slice p45 has.length c45, .slice p45_2 vals.length c45_2] 62, .own 27 3 vRep (.slice p45_2 vals.length c45_2) s.2.2, .own 4 1 bRep (.slice p45 has.length c45) s.2.1, .blk g6 [.slice none 0 0, .slice none 0 0] 41, .blk g5 [.slice p1 has.length c1, .slice p2 vals.length c2] 41, .blk g4 [.int .i64 (f.id), .int .i64 (f.ty), .slice px f.args.length cx] 36, .blk g3 [.int .u8 (c.k), .int .i64 (c.ty), .slice pa c.args.length ca, t0, t1, t2, t3, t4, t5, t6] 33]) (0, has, vals) ⟨by simp, rfl⟩ [49, 48, 47, 9, 42, 8, 7, 6, 5, 4, 3, 0, 1, 2] rfl (fun _ _ hφ => ask [0, 1, 2, 3] rfl hφ) rfl (fun s1 oks1 => ?_)
     have hq := fitTo_len oks1.2
     refine wc_seq ?_
     refine wc_region ?_
     refine wl_pure rfl rfl rfl (freshS_eq rfl) rfl ?_
     refine wl_nil ?_
     refine we_then ?_
     refine wc_seq ?_
     refine wc_cond rfl (fun h50 => ?_) (fun h50 => ?_)
     ·
      replace h50 := of_decide_eq_true h50
      refine wc_skip ?_
      refine we_then ?_
      refine wc_seq ?_
      refine wc_block ?_
      refine wc_seq ?_
      refine wc_region ?_
      refine wl_pure rfl rfl rfl (freshS_eq rfl) rfl ?_
      refine wl_index 0 s1.1 rfl rfl rfl (freshS_eq rfl) rfl rfl rfl rfl rfl (by omega) tE_23 tS_48 (fun b52 q52 cs52 x52 hx52 hlx52 => ?_)
      refine wl_open aRep_opens 1 rfl (fun r52 er52 okx52 => ?_)
      subst er52
      refine wl_load 0 0 rfl rfl rfl (freshS_eq rfl) rfl rfl rfl (cs := [_,_,_,_,_]) rfl tS_48 tA_48 rfl rfl ?_
      refine wl_alloc rfl rfl rfl (freshS_eq rfl) rfl tZ_48 rfl (fun g11 => ?_)
      refine wl_pure rfl rfl rfl (freshS_eq rfl) rfl ?_
      refine wl_store 0 0 rfl rfl rfl rfl rfl rfl rfl tS_48 rfl rfl rfl (all' := [_,_,_,_,_]) rfl (H' := [_,_,_,_,_,_,_,_]) rfl ?_
      refine wl_nil ?_
      refine we_then ?_
      refine wc_keep [10, 11, 50, 49, 48, 47, 9, 42, 8, 7, 6, 5, 4, 3, 0, 1, 2] (S' := [_,_,_,_,_,_,_,_,_,_,_,_,_,_,_,_,_]) rfl ?_
      refine wc_seq ?_
      refine wc_draw [0, 1, 2, 3, 4, 5, 6, 8] rfl rfl (fun hok => ?_)
      refine wx_loadH hok 0 1 0 rfl rfl rfl (freshS_eq rfl) rfl rfl rfl rfl (cs := [_,_]) rfl tS_62 tA_62 rfl rfl ?_
      refine wx_loadH hok 1 0 0 rfl rfl rfl (freshS_eq rfl) rfl rfl rfl rfl (cs := [_,_,_,_,_]) rfl tS_48 tA_48 rfl rfl ?_
      refine wx_fieldAddr hok 2 rfl rfl rfl (freshS_eq rfl) rfl rfl rfl tF_36_2 ?_
      refine wx_loadH hok 3 6 2 rfl rfl rfl (freshS_eq rfl) rfl rfl rfl rfl (cs := [_]) rfl tS_34 tA_34 rfl rfl ?_
      refine wx_pure hok 4 rfl rfl rfl (freshS_eq rfl) rfl rfl ?_
      refine wx_index hok 5 3 s1.1 rfl rfl rfl (freshS_eq rfl) rfl rfl rfl rfl rfl rfl (by omega) tE_34 tS_27 (fun b59 q59 cs59 x59 hx59 hlx59 => ?_)
      refine wx_openR vRep_opens 1 rfl (fun r59 er59 okx59 => ?_)
      subst er59
      refine wx_load hok 6 0 0 rfl rfl rfl (freshS_eq rfl) rfl rfl rfl rfl (cs := [_,_,_]) rfl tS_27 tA_27 rfl rfl ?_
      refine wx_step1 hok 7 rfl rfl rfl rfl ?_
      refine wl_call [3, 2] [0, 1, 4, 5, 6, 7] rfl rfl rfl (freshS_eq rfl) rfl rfl fn_17 rfl (arg_s _ _ _ _ _ _ s1.2.1 s1.2.2 x52 x59 (by have := fitTo_len oks1.2; have := (hb40.1 h42).1; omega) okx59) (fun _ _ hφ => ask [] rfl hφ) rfl (H' := [_,_,_,_,_,_]) rfl ?_
      rintro _ _ _ ⟨r61, h61, v61, rfl, hfit, rfl, rfl⟩
      refine wl_nil ?_
      refine we_x [0, 1, 2, 3, 4, 5, 6, 7] [6] rfl rfl ?_
      refine wx_pure hok 8 rfl rfl rfl (freshS_eq rfl) rfl rfl ?_
      refine wx_done hok rfl ?_
      refine we_then ?_
      refine wc_keep [62, 10, 11, 50, 49, 48, 47, 9, 42, 8, 7, 6, 5, 4, 3, 0, 1, 2] (S' := [_,_,_,_,_,_,_,_,_,_,_,_,_,_,_,_,_,_]) rfl ?_
      refine wc_cond rfl (fun h62 => ?_) (fun h62 => ?_)
      ·
       replace h62 := not_true h62
       refine wc_rowNil 4 1 bRep ?_
       refine wc_rowNil 27 3 vRep ?_
       refine wc_seq ?_
       refine wc_region ?_
       refine wl_build rfl rfl rfl (freshS_eq rfl) rfl tZ_41 tP_41 rfl (out := [_,_]) rfl ?_
       refine wl_store 6 0 rfl rfl rfl rfl rfl rfl rfl tS_41 rfl rfl rfl (all' := [_,_]) rfl (H' := [_,_,_,_,_,_,_,_,_,_]) rfl ?_
       refine wl_pure (S' := [_,_,_,_,_,_,_,_,_,_,_,_,_,_,_,_,_,_]) rfl rfl rfl rfl rfl ?_
       refine wl_nil ?_
       refine we_then ?_
       refine wc_keep [7, 62, 10, 11, 50, 49, 48, 47, 9, 42, 8, 6, 5, 4, 3, 0, 1, 2] (S' := [_,_,_,_,_,_,_,_,_,_,_,_,_,_,_,_,_,_]) rfl ?_
       refine wc_ret ?_
       refine we_block_ret ?_
       refine we_then_ret ?_
       refine we_then_ret ?_
       refine we_block_ret ?_
       refine we_then_ret ?_
       refine ret_two (Hr := [.own 27 3 vRep (.slice none 0 0) [], .own 4 1 bRep (.slice none 0 0) []]) [0, 1] Try.results7 (res_cell 6 rfl rfl tS_41 tA_41 rfl rfl) (res_tmp rfl) ?_ (fun _ _ hφ => ask [] rfl hφ) rfl rfl (.inl rfl)
       exact ⟨_, _, _, _, _, _, rfl, MatchR.stop oks1.2 hx52 hx59 (by rw [← h62]; exact hfit), rfl, rfl⟩
      ·
       replace h62 := not_false_ h62
       refine wc_skip ?_
       refine we_block_normal ?_
       refine we_then ?_
       refine wc_region ?_
       refine wl_pure rfl rfl rfl (freshS_eq rfl) rfl ?_
       refine wl_as (d := 64) (v' := .int .i64 ((s1.1 + 1 : Nat) : Int)) (S' := [_,_,_,_,_,_,_,_,_,_,_,_,_,_,_,_,_,_]) rfl rfl (nat_inc (by omega)) ?_
       refine wl_pure (S' := [_,_,_,_,_,_,_,_,_,_,_,_,_,_,_,_,_,_]) rfl rfl rfl rfl rfl ?_
       refine wl_nil ?_
       refine we_pick [3, 1, 0, 4, 5, 6, 7] rfl (H' := [_,_,_,_,_,_,_]) rfl ?_
       refine we_round (s1.1 + 1, h61, v61) (by dsimp only; omega) ⟨by dsimp only; omega, FitR.step oks1.2 hx52 hx59 (by rw [← h62]; exact hfit)⟩ [49, 48, 47, 9, 42, 8, 7, 6, 5, 4, 3, 0, 1, 2] rfl (fun _ _ hφ => ask [4, 5, 6, 7] rfl hφ) rfl
     ·
      replace h50 := of_decide_eq_false h50
      refine wc_exit ?_
      refine we_then_exit ?_
      refine we_then_exit ?_
      refine we_block_hit ?_
      refine we_then ?_
      refine wc_seq ?_
      refine wc_region ?_
      refine wl_fieldAddr rfl rfl rfl (freshS_eq rfl) rfl rfl tF_62_0 ?_
      refine wl_loadH 0 0 rfl rfl rfl (freshS_eq rfl) rfl rfl rfl (cs := [_,_]) rfl tS_41 tA_41 rfl rfl ?_
      refine wl_store 3 0 rfl rfl rfl rfl rfl rfl rfl tS_41 rfl rfl rfl (all' := [_,_]) rfl (H' := [_,_,_,_,_,_,_]) rfl ?_
      refine wl_pure (S' := [_,_,_,_,_,_,_,_,_,_,_,_,_,_,_,_]) rfl rfl rfl rfl rfl ?_
      refine wl_nil ?_
      refine we_then ?_
      refine wc_keep [7, 50, 49, 48, 47, 9, 42, 8, 6, 5, 4, 3, 0, 1, 2] (S' := [_,_,_,_,_,_,_,_,_,_,_,_,_,_,_]) rfl ?_
      refine wc_ret ?_
      refine ret_two (Hr := [.own 27 3 vRep (.slice p45_2 vals.length c45_2) s1.2.2, .own 4 1 bRep (.slice p45 has.length c45) s1.2.1]) [1, 2] Try.results7 (res_cell 3 rfl rfl tS_41 tA_41 rfl rfl) (res_tmp rfl) ?_ (fun _ _ hφ => ask [] rfl hφ) rfl rfl (.inl rfl)
      exact ⟨true, ⟨s1.2.1, s1.2.2⟩, p45, c45, p45_2, c45_2, by simp only [hq.1, hq.2], MatchR.yes ⟨by omega, by omega, by omega, hb40.1 h42⟩ oks1.2 (by omega), rfl, by simp only [hq.1, hq.2]⟩
 ·
  replace h15 := ne_of_beq_false h15
  refine wl_fieldAddr rfl rfl rfl (freshS_eq rfl) rfl rfl tF_33_0 ?_
  refine wl_loadH 3 0 rfl rfl rfl (freshS_eq rfl) rfl rfl rfl (cs := [_]) rfl tS_22 tA_22 rfl rfl ?_
  refine wl_pure rfl rfl rfl (freshS_eq rfl) rfl ?_
  refine wl_pure rfl rfl rfl (freshS_eq rfl) rfl ?_
  refine wl_pure rfl rfl rfl (freshS_eq rfl) rfl ?_
  refine wl_nil ?_
  refine we_then ?_
  refine wc_keep [8, 7, 6, 5, 4, 3, 0, 1, 2] (S' := [_,_,_,_,_,_,_,_,_]) rfl ?_
  refine wc_seq ?_
  refine wc_seq ?_
  refine wc_region ?_
  refine wl_pure rfl rfl rfl (freshS_eq rfl) rfl ?_
  refine wl_pure rfl rfl rfl (freshS_eq rfl) rfl ?_
  refine wl_pure rfl rfl rfl (freshS_eq rfl) rfl ?_
  refine wl_split (d := 22) (S' := [_,_,_,_,_,_,_,_,_,_,_]) rfl rfl (fun h22 => ?_) (fun h22 => ?_)
  ·
   replace h22 := not_true h22
   replace h22 := ne_of_beq_false h22
   refine wl_off rfl rfl rfl (freshS_eq rfl) ?_
   refine wl_off rfl rfl rfl (freshS_eq rfl) ?_
   refine wl_off rfl rfl rfl (freshS_eq rfl) ?_
   refine wl_off rfl rfl rfl (freshS_eq rfl) ?_
   refine wl_off rfl rfl rfl (freshS_eq rfl) ?_
   refine wl_pure rfl rfl rfl (freshS_eq rfl) rfl ?_
   refine wl_pure rfl rfl rfl (freshS_eq rfl) rfl ?_
   refine wl_off rfl rfl rfl (freshS_eq rfl) ?_
   refine wl_off rfl rfl rfl (freshS_eq rfl) ?_
   refine wl_off rfl rfl rfl (freshS_eq rfl) ?_
   refine wl_off rfl rfl rfl (freshS_eq rfl) ?_
   refine wl_off rfl rfl rfl (freshS_eq rfl) ?_
   refine wl_off rfl rfl rfl (freshS_eq rfl) ?_
   refine wl_off rfl rfl rfl (freshS_eq rfl) ?_
   refine wl_pure rfl rfl rfl (freshS_eq rfl) rfl ?_
   refine wl_pure rfl rfl rfl (freshS_eq rfl) rfl ?_
   refine wl_off rfl rfl rfl (freshS_eq rfl) ?_
   refine wl_off rfl rfl rfl (freshS_eq rfl) ?_
   refine wl_off rfl rfl rfl (freshS_eq rfl) ?_
   refine wl_pure rfl rfl rfl (freshS_eq rfl) rfl ?_
   refine wl_nil ?_
   refine we_then ?_
   refine wc_keep [42, 8, 7, 6, 5, 4, 3, 0, 1, 2] (S' := [_,_,_,_,_,_,_,_,_,_]) rfl ?_
   refine wc_true rfl ?_
   refine wc_rowNil 4 1 bRep ?_
   refine wc_rowNil 27 3 vRep ?_
   refine wc_seq ?_
   refine wc_region ?_
   refine wl_build rfl rfl rfl (freshS_eq rfl) rfl tZ_41 tP_41 rfl (out := [_,_]) rfl ?_
   refine wl_store 2 0 rfl rfl rfl rfl rfl rfl rfl tS_41 rfl rfl rfl (all' := [_,_]) rfl (H' := [_,_,_,_,_,_]) rfl ?_
   refine wl_pure (S' := [_,_,_,_,_,_,_,_,_,_]) rfl rfl rfl rfl rfl ?_
   refine wl_nil ?_
   refine we_then ?_
   refine wc_keep [7, 42, 8, 6, 5, 4, 3, 0, 1, 2] (S' := [_,_,_,_,_,_,_,_,_,_]) rfl ?_
   refine wc_ret ?_
   refine we_then_ret ?_
   refine ret_two (Hr := [.own 27 3 vRep (.slice none 0 0) [], .own 4 1 bRep (.slice none 0 0) []]) [0, 1] Try.results7 (res_cell 2 rfl rfl tS_41 tA_41 rfl rfl) (res_tmp rfl) ?_ (fun _ _ hφ => ask [] rfl hφ) rfl rfl (.inl rfl)
   exact ⟨_, _, _, _, _, _, rfl, MatchR.no (fun hh => by have := hh.1; have := hh.2.1; have := hh.2.2.1; omega), rfl, rfl⟩
  ·
   replace h22 := not_false_ h22
   replace h22 := eq_of_beq h22
   refine wl_fieldAddr rfl rfl rfl (freshS_eq rfl) rfl rfl tF_33_1 ?_
   refine wl_loadH 3 1 rfl rfl rfl (freshS_eq rfl) rfl rfl rfl (cs := [_]) rfl tS_3 tA_3 rfl rfl ?_
   refine wl_fieldAddr rfl rfl rfl (freshS_eq rfl) rfl rfl tF_36_1 ?_
   refine wl_loadH 2 1 rfl rfl rfl (freshS_eq rfl) rfl rfl rfl (cs := [_]) rfl tS_3 tA_3 rfl rfl ?_
   refine wl_pure rfl rfl rfl (freshS_eq rfl) rfl ?_
   refine wl_pure rfl rfl rfl (freshS_eq rfl) rfl ?_
   refine wl_pure rfl rfl rfl (freshS_eq rfl) rfl ?_
   refine wl_split (d := 29) (S' := [_,_,_,_,_,_,_,_,_,_,_,_,_,_,_,_,_,_]) rfl rfl (fun h29 => ?_) (fun h29 => ?_)
   ·
    replace h29 := bne_iff_ne.1 h29
    refine wl_off rfl rfl rfl (freshS_eq rfl) ?_
    refine wl_off rfl rfl rfl (freshS_eq rfl) ?_
    refine wl_off rfl rfl rfl (freshS_eq rfl) ?_
    refine wl_off rfl rfl rfl (freshS_eq rfl) ?_
    refine wl_off rfl rfl rfl (freshS_eq rfl) ?_
    refine wl_off rfl rfl rfl (freshS_eq rfl) ?_
    refine wl_off rfl rfl rfl (freshS_eq rfl) ?_
    refine wl_pure rfl rfl rfl (freshS_eq rfl) rfl ?_
    refine wl_pure rfl rfl rfl (freshS_eq rfl) rfl ?_
    refine wl_off rfl rfl rfl (freshS_eq rfl) ?_
    refine wl_off rfl rfl rfl (freshS_eq rfl) ?_
    refine wl_off rfl rfl rfl (freshS_eq rfl) ?_
    refine wl_pure rfl rfl rfl (freshS_eq rfl) rfl ?_
    refine wl_nil ?_
    refine we_then ?_
    refine wc_keep [42, 8, 7, 6, 5, 4, 3, 0, 1, 2] (S' := [_,_,_,_,_,_,_,_,_,_]) rfl ?_
    refine wc_true rfl ?_
    refine wc_rowNil 4 1 bRep ?_
    refine wc_rowNil 27 3 vRep ?_
    refine wc_seq ?_
    refine wc_region ?_
    refine wl_build rfl rfl rfl (freshS_eq rfl) rfl tZ_41 tP_41 rfl (out := [_,_]) rfl ?_
    refine wl_store 2 0 rfl rfl rfl rfl rfl rfl rfl tS_41 rfl rfl rfl (all' := [_,_]) rfl (H' := [_,_,_,_,_,_]) rfl ?_
    refine wl_pure (S' := [_,_,_,_,_,_,_,_,_,_]) rfl rfl rfl rfl rfl ?_
    refine wl_nil ?_
    refine we_then ?_
    refine wc_keep [7, 42, 8, 6, 5, 4, 3, 0, 1, 2] (S' := [_,_,_,_,_,_,_,_,_,_]) rfl ?_
    refine wc_ret ?_
    refine we_then_ret ?_
    refine ret_two (Hr := [.own 27 3 vRep (.slice none 0 0) [], .own 4 1 bRep (.slice none 0 0) []]) [0, 1] Try.results7 (res_cell 2 rfl rfl tS_41 tA_41 rfl rfl) (res_tmp rfl) ?_ (fun _ _ hφ => ask [] rfl hφ) rfl rfl (.inl rfl)
    exact ⟨_, _, _, _, _, _, rfl, MatchR.no (fun hh => by have := hh.1; have := hh.2.1; have := hh.2.2.1; omega), rfl, rfl⟩
   ·
    replace h29 := bne_eq_false_iff_eq.1 h29
    refine wl_fieldAddr rfl rfl rfl (freshS_eq rfl) rfl rfl tF_33_2 ?_
    refine wl_loadH 3 2 rfl rfl rfl (freshS_eq rfl) rfl rfl rfl (cs := [_]) rfl tS_23 tA_23 rfl rfl ?_
    refine wl_len rfl rfl rfl (freshS_eq rfl) rfl rfl tE_23 ?_
    refine wl_fieldAddr rfl rfl rfl (freshS_eq rfl) rfl rfl tF_36_2 ?_
    refine wl_loadH 2 2 rfl rfl rfl (freshS_eq rfl) rfl rfl rfl (cs := [_]) rfl tS_34 tA_34 rfl rfl ?_
    refine wl_len rfl rfl rfl (freshS_eq rfl) rfl rfl tE_34 ?_
    refine wl_pure rfl rfl rfl (freshS_eq rfl) rfl ?_
    refine wl_pure rfl rfl rfl (freshS_eq rfl) rfl ?_
    refine wl_pure rfl rfl rfl (freshS_eq rfl) rfl ?_
    refine wl_split (d := 38) (S' := [_,_,_,_,_,_,_,_,_,_,_,_,_,_,_,_,_,_,_,_,_,_,_,_,_,_,_]) rfl rfl (fun h38 => ?_) (fun h38 => ?_)
    ·
     replace h38 := bne_iff_ne.1 h38
     refine wl_off rfl rfl rfl (freshS_eq rfl) ?_
     refine wl_off rfl rfl rfl (freshS_eq rfl) ?_
     refine wl_off rfl rfl rfl (freshS_eq rfl) ?_
     refine wl_pure rfl rfl rfl (freshS_eq rfl) rfl ?_
     refine wl_nil ?_
     refine we_then ?_
     refine wc_keep [42, 8, 7, 6, 5, 4, 3, 0, 1, 2] (S' := [_,_,_,_,_,_,_,_,_,_]) rfl ?_
     refine wc_true rfl ?_
     refine wc_rowNil 4 1 bRep ?_
     refine wc_rowNil 27 3 vRep ?_
     refine wc_seq ?_
     refine wc_region ?_
     refine wl_build rfl rfl rfl (freshS_eq rfl) rfl tZ_41 tP_41 rfl (out := [_,_]) rfl ?_
     refine wl_store 2 0 rfl rfl rfl rfl rfl rfl rfl tS_41 rfl rfl rfl (all' := [_,_]) rfl (H' := [_,_,_,_,_,_]) rfl ?_
     refine wl_pure (S' := [_,_,_,_,_,_,_,_,_,_]) rfl rfl rfl rfl rfl ?_
     refine wl_nil ?_
     refine we_then ?_
     refine wc_keep [7, 42, 8, 6, 5, 4, 3, 0, 1, 2] (S' := [_,_,_,_,_,_,_,_,_,_]) rfl ?_
     refine wc_ret ?_
     refine we_then_ret ?_
     refine ret_two (Hr := [.own 27 3 vRep (.slice none 0 0) [], .own 4 1 bRep (.slice none 0 0) []]) [0, 1] Try.results7 (res_cell 2 rfl rfl tS_41 tA_41 rfl rfl) (res_tmp rfl) ?_ (fun _ _ hφ => ask [] rfl hφ) rfl rfl (.inl rfl)
     exact ⟨_, _, _, _, _, _, rfl, MatchR.no (fun hh => by have := hh.1; have := hh.2.1; have := hh.2.2.1; omega), rfl, rfl⟩
    ·
     replace h38 := bne_eq_false_iff_eq.1 h38
     refine wl_loadH 1 0 rfl rfl rfl (freshS_eq rfl) rfl rfl rfl (cs := [_,_]) rfl tS_41 tA_41 rfl rfl ?_
     refine wl_call [] [0, 1, 2, 3] rfl rfl rfl (freshS_eq rfl) rfl rfl fn_15 rfl (made_s _ _ _ _ _ _) (fun _ _ hφ => ask [2, 3] rfl hφ) rfl (H' := [_,_,_,_]) rfl ?_
     rintro _ _ _ ⟨b40, rfl, hb40, rfl, rfl⟩
     refine wl_pure rfl rfl rfl (freshS_eq rfl) rfl ?_
     refine wl_pure rfl rfl rfl (freshS_eq rfl) rfl ?_
     refine wl_nil ?_
     refine we_then ?_
     refine wc_keep [42, 8, 7, 6, 5, 4, 3, 0, 1, 2] (S' := [_,_,_,_,_,_,_,_,_,_]) rfl ?_
     refine wc_cond rfl (fun h42 => ?_) (fun h42 => ?_)
     ·
      replace h42 := not_true h42
      refine wc_rowNil 4 1 bRep ?_
      refine wc_rowNil 27 3 vRep ?_
      refine wc_seq ?_
      refine wc_region ?_
      refine wl_build rfl rfl rfl (freshS_eq rfl) rfl tZ_41 tP_41 rfl (out := [_,_]) rfl ?_
      refine wl_store 2 0 rfl rfl rfl rfl rfl rfl rfl tS_41 rfl rfl rfl (all' := [_,_]) rfl (H' := [_,_,_,_,_,_]) rfl ?_
      refine wl_pure (S' := [_,_,_,_,_,_,_,_,_,_]) rfl rfl rfl rfl rfl ?_
      refine wl_nil ?_
      refine we_then ?_
      refine wc_keep [7, 42, 8, 6, 5, 4, 3, 0, 1, 2] (S' := [_,_,_,_,_,_,_,_,_,_]) rfl ?_
      refine wc_ret ?_
      refine we_then_ret ?_
      refine ret_two (Hr := [.own 27 3 vRep (.slice none 0 0) [], .own 4 1 bRep (.slice none 0 0) []]) [0, 1] Try.results7 (res_cell 2 rfl rfl tS_41 tA_41 rfl rfl) (res_tmp rfl) ?_ (fun _ _ hφ => ask [] rfl hφ) rfl rfl (.inl rfl)
      exact ⟨_, _, _, _, _, _, rfl, MatchR.no (fun hh => by have := hb40.2 hh.2.2.2; rw [h42] at this; cases this), rfl, rfl⟩
     ·
      replace h42 := not_false_ h42
      refine wc_skip ?_
      refine we_then ?_
      refine wc_seq ?_
      refine wc_region ?_
      refine wl_loadH 1 0 rfl rfl rfl (freshS_eq rfl) rfl rfl rfl (cs := [_,_]) rfl tS_41 tA_41 rfl rfl ?_
      refine wl_call [] [0, 1, 2, 3] rfl rfl rfl (freshS_eq rfl) rfl rfl fn_16 rfl (of_s _ _ _ _ _ _ (by omega) (by omega)) (fun _ _ hφ => ask [2, 3] rfl hφ) rfl (H' := [_,_,_,_]) rfl ?_
      rintro _ _ _ ⟨p45, c45, p45_2, c45_2, rfl, rfl, rfl⟩
      refine wl_alloc rfl rfl rfl (freshS_eq rfl) rfl tZ_62 rfl (fun g9 => ?_)
      refine wl_store 0 0 rfl rfl rfl rfl rfl rfl rfl tS_62 rfl rfl rfl (all' := [_,_]) rfl (H' := [_,_,_,_,_,_,_]) rfl ?_
      refine wl_nil ?_
      refine we_then ?_
      refine wc_keep [9, 42, 8, 7, 6, 5, 4, 3, 0, 1, 2] (S' := [_,_,_,_,_,_,_,_,_,_,_]) rfl ?_
      refine wc_seq ?_
      refine wc_seq ?_
      refine wc_region ?_
      refine wl_fieldAddr rfl rfl rfl (freshS_eq rfl) rfl rfl tF_33_2 ?_
      refine wl_loadH 6 2 rfl rfl rfl (freshS_eq rfl) rfl rfl rfl (cs := [_]) rfl tS_23 tA_23 rfl rfl ?_
      refine wl_len rfl rfl rfl (freshS_eq rfl) rfl rfl tE_23 ?_
      refine wl_pure rfl rfl rfl (freshS_eq rfl) rfl ?_
      refine wl_nil ?_
      refine we_then ?_
      refine wc_keep [49, 48, 47, 9, 42, 8, 7, 6, 5, 4, 3, 0, 1, 2] (S' := [_,_,_,_,_,_,_,_,_,_,_,_,_,_]) rfl ?_
      refine wc_block ?_
      refine wc_loop (σ := Nat × List Bool × List V) (fun s => s.1 ≤ c.args.length ∧ fitTo c.args f.args has vals s.1 = some (s.2.1, s.2.2)) (fun s => c.args.length - s.1) (fun s => [(49, .int .i64 ((s.1 : Nat) : Int)), (48, .int .i64 ((c.args.length : Nat) : Int)), (47, .slice pa c.args.length ca), (9, .pointer (some ⟨g9, 0, none⟩)), (42, .bool (!b40)), (8, .bool (c.k == 2)), (7, .bool false), (6, .pointer (some ⟨g6, 0, none⟩)), (5, .pointer (some ⟨g5, 0, none⟩)), (4, .pointer (some ⟨g4, 0, none⟩)), (3, .pointer (some ⟨g3, 0, none⟩)), (0, .agg #[.int .u8 (c.k), .int .i64 (c.ty), .slice pa c.args.length ca, t0, t1, t2, t3, t4, t5, t6]), (1, .agg #[.int .i64 (f.id), .int .i64 (f.ty), .slice px f.args.length cx]), (2, .agg #[.slice p1 has.length c1, .slice p2 vals.length c2])]) (fun s => [.sli 5 aRep pa ca c.args, .sli 3 vRep px cx f.args, .sli 1 bRep p1 c1 has, .sli 3 vRep p2 c2 vals]) (fun s => [.blk g9 [.slice p45 has.length c45, .slice p45_2 vals.length c45_2] 62, .own 27 3 vRep (.slice p45_2 vals.length c45_2) s.2.2, .own 4 1 bRep (.slice p45 has.length c45) s.2.1, .blk g6 [.slice none 0 0, .slice none 0 0] 41, .blk g5 [.slice p1 has.length c1, .slice p2 vals.length c2] 41, .blk g4 [.int .i64 (f.id), .int .i64 (f.ty), .slice px f.args.length cx] 36, .blk g3 [.int .u8 (c.k), .int .i64 (c.ty), .slice pa c.args.length ca, t0, t1, t2, t3, t4, t5, t6] 33]) (0, has, vals) ⟨by simp, rfl⟩ [49, 48, 47, 9, 42, 8, 7, 6, 5, 4, 3, 0, 1, 2] rfl (fun _ _ hφ => ask [0, 1, 2, 3] rfl hφ) rfl (fun s1 oks1 => ?_)
      have hq := fitTo_len oks1.2
      refine wc_seq ?_
      refine wc_region ?_
      refine wl_pure rfl rfl rfl (freshS_eq rfl) rfl ?_
      refine wl_nil ?_
      refine we_then ?_
      refine wc_seq ?_
      refine wc_cond rfl (fun h50 => ?_) (fun h50 => ?_)
      ·
       replace h50 := of_decide_eq_true h50
       refine wc_skip ?_
       refine we_then ?_
       refine wc_seq ?_
       refine wc_block ?_
       refine wc_seq ?_
       refine wc_region ?_
       refine wl_pure rfl rfl rfl (freshS_eq rfl) rfl ?_
       refine wl_index 0 s1.1 rfl rfl rfl (freshS_eq rfl) rfl rfl rfl rfl rfl (by omega) tE_23 tS_48 (fun b52 q52 cs52 x52 hx52 hlx52 => ?_)
       refine wl_open aRep_opens 1 rfl (fun r52 er52 okx52 => ?_)
       subst er52
       refine wl_load 0 0 rfl rfl rfl (freshS_eq rfl) rfl rfl rfl (cs := [_,_,_,_,_]) rfl tS_48 tA_48 rfl rfl ?_
       refine wl_alloc rfl rfl rfl (freshS_eq rfl) rfl tZ_48 rfl (fun g11 => ?_)
       refine wl_pure rfl rfl rfl (freshS_eq rfl) rfl ?_
       refine wl_store 0 0 rfl rfl rfl rfl rfl rfl rfl tS_48 rfl rfl rfl (all' := [_,_,_,_,_]) rfl (H' := [_,_,_,_,_,_,_,_]) rfl ?_
       refine wl_nil ?_
       refine we_then ?_
       refine wc_keep [10, 11, 50, 49, 48, 47, 9, 42, 8, 7, 6, 5, 4, 3, 0, 1, 2] (S' := [_,_,_,_,_,_,_,_,_,_,_,_,_,_,_,_,_]) rfl ?_
       refine wc_seq ?_
       refine wc_draw [0, 1, 2, 3, 4, 5, 6, 8] rfl rfl (fun hok => ?_)
       refine wx_loadH hok 0 1 0 rfl rfl rfl (freshS_eq rfl) rfl rfl rfl rfl (cs := [_,_]) rfl tS_62 tA_62 rfl rfl ?_
       refine wx_loadH hok 1 0 0 rfl rfl rfl (freshS_eq rfl) rfl rfl rfl rfl (cs := [_,_,_,_,_]) rfl tS_48 tA_48 rfl rfl ?_
       refine wx_fieldAddr hok 2 rfl rfl rfl (freshS_eq rfl) rfl rfl rfl tF_36_2 ?_
       refine wx_loadH hok 3 6 2 rfl rfl rfl (freshS_eq rfl) rfl rfl rfl rfl (cs := [_]) rfl tS_34 tA_34 rfl rfl ?_
       refine wx_pure hok 4 rfl rfl rfl (freshS_eq rfl) rfl rfl ?_
       refine wx_index hok 5 3 s1.1 rfl rfl rfl (freshS_eq rfl) rfl rfl rfl rfl rfl rfl (by omega) tE_34 tS_27 (fun b59 q59 cs59 x59 hx59 hlx59 => ?_)
       refine wx_openR vRep_opens 1 rfl (fun r59 er59 okx59 => ?_)
       subst er59
       refine wx_load hok 6 0 0 rfl rfl rfl (freshS_eq rfl) rfl rfl rfl rfl (cs := [_,_,_]) rfl tS_27 tA_27 rfl rfl ?_
       refine wx_step1 hok 7 rfl rfl rfl rfl ?_
       refine wl_call [3, 2] [0, 1, 4, 5, 6, 7] rfl rfl rfl (freshS_eq rfl) rfl rfl fn_17 rfl (arg_s _ _ _ _ _ _ s1.2.1 s1.2.2 x52 x59 (by have := fitTo_len oks1.2; have := (hb40.1 h42).1; omega) okx59) (fun _ _ hφ => ask [] rfl hφ) rfl (H' := [_,_,_,_,_,_]) rfl ?_
       rintro _ _ _ ⟨r61, h61, v61, rfl, hfit, rfl, rfl⟩
       refine wl_nil ?_
       refine we_x [0, 1, 2, 3, 4, 5, 6, 7] [6] rfl rfl ?_
       refine wx_pure hok 8 rfl rfl rfl (freshS_eq rfl) rfl rfl ?_
       refine wx_done hok rfl ?_
       refine we_then ?_
       refine wc_keep [62, 10, 11, 50, 49, 48, 47, 9, 42, 8, 7, 6, 5, 4, 3, 0, 1, 2] (S' := [_,_,_,_,_,_,_,_,_,_,_,_,_,_,_,_,_,_]) rfl ?_
       refine wc_cond rfl (fun h62 => ?_) (fun h62 => ?_)
       ·
        replace h62 := not_true h62
        refine wc_rowNil 4 1 bRep ?_
        refine wc_rowNil 27 3 vRep ?_
        refine wc_seq ?_
        refine wc_region ?_
        refine wl_build rfl rfl rfl (freshS_eq rfl) rfl tZ_41 tP_41 rfl (out := [_,_]) rfl ?_
        refine wl_store 6 0 rfl rfl rfl rfl rfl rfl rfl tS_41 rfl rfl rfl (all' := [_,_]) rfl (H' := [_,_,_,_,_,_,_,_,_,_]) rfl ?_
        refine wl_pure (S' := [_,_,_,_,_,_,_,_,_,_,_,_,_,_,_,_,_,_]) rfl rfl rfl rfl rfl ?_
        refine wl_nil ?_
        refine we_then ?_
        refine wc_keep [7, 62, 10, 11, 50, 49, 48, 47, 9, 42, 8, 6, 5, 4, 3, 0, 1, 2] (S' := [_,_,_,_,_,_,_,_,_,_,_,_,_,_,_,_,_,_]) rfl ?_
        refine wc_ret ?_
        refine we_block_ret ?_
        refine we_then_ret ?_
        refine we_then_ret ?_
        refine we_block_ret ?_
        refine we_then_ret ?_
        refine ret_two (Hr := [.own 27 3 vRep (.slice none 0 0) [], .own 4 1 bRep (.slice none 0 0) []]) [0, 1] Try.results7 (res_cell 6 rfl rfl tS_41 tA_41 rfl rfl) (res_tmp rfl) ?_ (fun _ _ hφ => ask [] rfl hφ) rfl rfl (.inl rfl)
        exact ⟨_, _, _, _, _, _, rfl, MatchR.stop oks1.2 hx52 hx59 (by rw [← h62]; exact hfit), rfl, rfl⟩
       ·
        replace h62 := not_false_ h62
        refine wc_skip ?_
        refine we_block_normal ?_
        refine we_then ?_
        refine wc_region ?_
        refine wl_pure rfl rfl rfl (freshS_eq rfl) rfl ?_
        refine wl_as (d := 64) (v' := .int .i64 ((s1.1 + 1 : Nat) : Int)) (S' := [_,_,_,_,_,_,_,_,_,_,_,_,_,_,_,_,_,_]) rfl rfl (nat_inc (by omega)) ?_
        refine wl_pure (S' := [_,_,_,_,_,_,_,_,_,_,_,_,_,_,_,_,_,_]) rfl rfl rfl rfl rfl ?_
        refine wl_nil ?_
        refine we_pick [3, 1, 0, 4, 5, 6, 7] rfl (H' := [_,_,_,_,_,_,_]) rfl ?_
        refine we_round (s1.1 + 1, h61, v61) (by dsimp only; omega) ⟨by dsimp only; omega, FitR.step oks1.2 hx52 hx59 (by rw [← h62]; exact hfit)⟩ [49, 48, 47, 9, 42, 8, 7, 6, 5, 4, 3, 0, 1, 2] rfl (fun _ _ hφ => ask [4, 5, 6, 7] rfl hφ) rfl
      ·
       replace h50 := of_decide_eq_false h50
       refine wc_exit ?_
       refine we_then_exit ?_
       refine we_then_exit ?_
       refine we_block_hit ?_
       refine we_then ?_
       refine wc_seq ?_
       refine wc_region ?_
       refine wl_fieldAddr rfl rfl rfl (freshS_eq rfl) rfl rfl tF_62_0 ?_
       refine wl_loadH 0 0 rfl rfl rfl (freshS_eq rfl) rfl rfl rfl (cs := [_,_]) rfl tS_41 tA_41 rfl rfl ?_
       refine wl_store 3 0 rfl rfl rfl rfl rfl rfl rfl tS_41 rfl rfl rfl (all' := [_,_]) rfl (H' := [_,_,_,_,_,_,_]) rfl ?_
       refine wl_pure (S' := [_,_,_,_,_,_,_,_,_,_,_,_,_,_,_,_]) rfl rfl rfl rfl rfl ?_
       refine wl_nil ?_
       refine we_then ?_
       refine wc_keep [7, 50, 49, 48, 47, 9, 42, 8, 6, 5, 4, 3, 0, 1, 2] (S' := [_,_,_,_,_,_,_,_,_,_,_,_,_,_,_]) rfl ?_
       refine wc_ret ?_
       refine ret_two (Hr := [.own 27 3 vRep (.slice p45_2 vals.length c45_2) s1.2.2, .own 4 1 bRep (.slice p45 has.length c45) s1.2.1]) [1, 2] Try.results7 (res_cell 3 rfl rfl tS_41 tA_41 rfl rfl) (res_tmp rfl) ?_ (fun _ _ hφ => ask [] rfl hφ) rfl rfl (.inl rfl)
       exact ⟨true, ⟨s1.2.1, s1.2.2⟩, p45, c45, p45_2, c45_2, by simp only [hq.1, hq.2], MatchR.yes ⟨by omega, by omega, by omega, hb40.1 h42⟩ oks1.2 (by omega), rfl, by simp only [hq.1, hq.2]⟩

end Go.Proofs.Ytffcijddfhhbdaa
