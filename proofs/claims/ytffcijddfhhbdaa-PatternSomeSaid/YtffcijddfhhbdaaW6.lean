/- Walks, printed by a program out of the loaded code (wip/sep). -/
import Derived.Test.YtffcijddfhhbdaaW4
namespace Go.Proofs.Ytffcijddfhhbdaa
open Go.RowKit
set_option maxRecDepth 100000 in
set_option maxHeartbeats 4000000 in
theorem rMatch_s (pa px p1 p2 : Option Addr) (ca cx c1 c2 : Nat) (t0 t1 t2 t3 t4 t5 t6 : Value) (c : CondD) (f : FactD) (has : List Bool) (vals : List V) (hb : has.length ≤ 1048576) (hc : vals.length ≤ 1048576) : Spec Try.prog 22 [.agg #[.int .u8 (c.k), .int .i64 (c.ty), .slice pa c.args.length ca, t0, t1, t2, t3, t4, t5, t6], .agg #[.int .i64 (f.id), .int .i64 (f.ty), .slice px f.args.length cx], .agg #[.slice p1 has.length c1, .slice p2 vals.length c2]] [.sli 5 aRep pa ca c.args, .sli 3 vRep px cx f.args, .sli 1 bRep p1 c1 has, .sli 3 vRep p2 c2 vals] [] (fun v Φr Hr => ∃ r e' p1 c1 p2 c2, v = .tuple #[.agg #[.slice p1 e'.has.length c1, .slice p2 e'.vals.length c2], .bool r] ∧ MatchR c f ⟨has, vals⟩ r e' ∧ Φr = [] ∧ Hr = [.own 27 3 vRep (.slice p2 e'.vals.length c2) e'.vals, .own 4 1 bRep (.slice p1 e'.has.length c1) e'.has]) := by
 refine spec_of Try.func22 rfl Try.ntmps22 rfl (S := [_,_,_]) rfl (fun C => ?_)
 refine wc_know (fun F w h => sli_cap (h _ (mem_at (k := 0) rfl))) (fun hcap => ?_)
 refine wc_seq ?_
 refine wc_region ?_
 refine wl_box rfl rfl rfl (freshS_eq rfl) rfl rfl rfl (fun g3 => ?_)
 refine wl_box rfl rfl rfl (freshS_eq rfl) rfl rfl rfl (fun g4 => ?_)
 refine wl_box rfl rfl rfl (freshS_eq rfl) rfl rfl rfl (fun g5 => ?_)
 refine wl_alloc rfl rfl rfl (freshS_eq rfl) rfl tZ_56 rfl (fun g6 => ?_)
 refine wl_pure rfl rfl rfl (freshS_eq rfl) rfl ?_
 refine wl_nil ?_
 refine we_then ?_
 refine wc_seq ?_
 refine wc_seq ?_
 refine wc_region ?_
 refine wl_loadH 1 0 rfl rfl rfl (freshS_eq rfl) rfl rfl rfl (cs := [_,_]) rfl tS_56 tA_56 rfl rfl ?_
 refine wl_call [] [0, 1, 2, 3] rfl rfl rfl (freshS_eq rfl) rfl rfl fn_30 rfl (rmade_s _ _ _ _ _ _) (fun _ _ hφ => ask [2, 3] rfl hφ) rfl (H' := [_,_,_,_]) rfl ?_
 rintro _ _ _ ⟨b15, rfl, hb15, rfl, rfl⟩
 refine wl_pure rfl rfl rfl (freshS_eq rfl) rfl ?_
 refine wl_pure rfl rfl rfl (freshS_eq rfl) rfl ?_
 refine wl_split (d := 17) (S' := [_,_,_,_,_,_,_,_,_,_,_]) rfl rfl (fun h17 => ?_) (fun h17 => ?_)
 ·
  replace h17 := not_true h17
  refine wl_off rfl rfl rfl (freshS_eq rfl) ?_
  refine wl_off rfl rfl rfl (freshS_eq rfl) ?_
  refine wl_off rfl rfl rfl (freshS_eq rfl) ?_
  refine wl_off rfl rfl rfl (freshS_eq rfl) ?_
  refine wl_off rfl rfl rfl (freshS_eq rfl) ?_
  refine wl_off rfl rfl rfl (freshS_eq rfl) ?_
  refine wl_off rfl rfl rfl (freshS_eq rfl) ?_
  refine wl_off rfl rfl rfl (freshS_eq rfl) ?_
  refine wl_pure rfl rfl rfl (freshS_eq rfl) rfl ?_
  refine wl_pure rfl rfl rfl (freshS_eq rfl) rfl ?_
  refine wl_off rfl rfl rfl (freshS_eq rfl) ?_
  refine wl_off rfl rfl rfl (freshS_eq rfl) ?_
  refine wl_off rfl rfl rfl (freshS_eq rfl) ?_
  refine wl_off rfl rfl rfl (freshS_eq rfl) ?_
  refine wl_off rfl rfl rfl (freshS_eq rfl) ?_
  refine wl_pure rfl rfl rfl (freshS_eq rfl) rfl ?_
  refine wl_pure rfl rfl rfl (freshS_eq rfl) rfl ?_
  refine wl_off rfl rfl rfl (freshS_eq rfl) ?_
  refine wl_off rfl rfl rfl (freshS_eq rfl) ?_
  refine wl_off rfl rfl rfl (freshS_eq rfl) ?_
  refine wl_off rfl rfl rfl (freshS_eq rfl) ?_
  refine wl_off rfl rfl rfl (freshS_eq rfl) ?_
  refine wl_off rfl rfl rfl (freshS_eq rfl) ?_
  refine wl_off rfl rfl rfl (freshS_eq rfl) ?_
  refine wl_pure rfl rfl rfl (freshS_eq rfl) rfl ?_
  refine wl_nil ?_
  refine we_then ?_
  refine wc_keep [42, 7, 6, 5, 4, 3, 0, 1, 2] (S' := [_,_,_,_,_,_,_,_,_]) rfl ?_
  refine wc_true rfl ?_
  refine wc_rowNil 4 1 bRep ?_
  refine wc_rowNil 27 3 vRep ?_
  refine wc_seq ?_
  refine wc_region ?_
  refine wl_build rfl rfl rfl (freshS_eq rfl) rfl tZ_56 tP_56 rfl (out := [_,_]) rfl ?_
  refine wl_store 2 0 rfl rfl rfl rfl rfl rfl rfl tS_56 rfl rfl rfl (all' := [_,_]) rfl (H' := [_,_,_,_,_,_]) rfl ?_
  refine wl_pure (S' := [_,_,_,_,_,_,_,_,_]) rfl rfl rfl rfl rfl ?_
  refine wl_nil ?_
  refine we_then ?_
  refine wc_keep [7, 42, 6, 5, 4, 3, 0, 1, 2] (S' := [_,_,_,_,_,_,_,_,_]) rfl ?_
  refine wc_ret ?_
  refine we_then_ret ?_
  refine ret_two (Hr := [.own 27 3 vRep (.slice none 0 0) [], .own 4 1 bRep (.slice none 0 0) []]) [0, 1] Try.results22 (res_cell 2 rfl rfl tS_56 tA_56 rfl rfl) (res_tmp rfl) ?_ (fun _ _ hφ => ask [] rfl hφ) rfl rfl (.inl rfl)
  exact ⟨_, _, _, _, _, _, rfl, MatchR.no (fun hh => by have := hb15.2 hh.2.2.2; rw [h17] at this; cases this), rfl, rfl⟩
 ·
  replace h17 := not_false_ h17
  refine wl_fieldAddr rfl rfl rfl (freshS_eq rfl) rfl rfl tF_33_0 ?_
  refine wl_loadH 3 0 rfl rfl rfl (freshS_eq rfl) rfl rfl rfl (cs := [_]) rfl tS_22 tA_22 rfl rfl ?_
  refine wl_pure rfl rfl rfl (freshS_eq rfl) rfl ?_
  refine wl_pure rfl rfl rfl (freshS_eq rfl) rfl ?_
  refine wl_split (d := 21) (S' := [_,_,_,_,_,_,_,_,_,_,_,_,_,_,_]) rfl rfl (fun h21 => ?_) (fun h21 => ?_)
  ·
   replace h21 := bne_iff_ne.1 h21
   refine wl_fieldAddr rfl rfl rfl (freshS_eq rfl) rfl rfl tF_33_0 ?_
   refine wl_loadH 3 0 rfl rfl rfl (freshS_eq rfl) rfl rfl rfl (cs := [_]) rfl tS_22 tA_22 rfl rfl ?_
   refine wl_pure rfl rfl rfl (freshS_eq rfl) rfl ?_
   refine wl_pure rfl rfl rfl (freshS_eq rfl) rfl ?_
   refine wl_pure rfl rfl rfl (freshS_eq rfl) rfl ?_
   refine wl_pure rfl rfl rfl (freshS_eq rfl) rfl ?_
   refine wl_split (d := 27) (S' := [_,_,_,_,_,_,_,_,_,_,_,_,_,_,_,_,_,_,_,_,_]) rfl rfl (fun h27 => ?_) (fun h27 => ?_)
   ·
    replace h27 := bne_iff_ne.1 h27
    refine wl_off rfl rfl rfl (freshS_eq rfl) ?_
    refine wl_off rfl rfl rfl (freshS_eq rfl) ?_
    refine wl_off rfl rfl rfl (freshS_eq rfl) ?_
    refine wl_off rfl rfl rfl (freshS_eq rfl) ?_
    refine wl_off rfl rfl rfl (freshS_eq rfl) ?_
    refine wl_pure rfl rfl rfl (freshS_eq rfl) rfl ?_
    refine wl_pure rfl rfl rfl (freshS_eq rfl) rfl ?_
    refine wl_off rfl rfl rfl (freshS_eq rfl) ?_
    refine wl_off rfl rfl rfl (freshS_eq rfl) ?_
    refine wl_off rfl rfl rfl (freshS_eq rfl) ?_
    refine wl_off rfl rfl rfl (freshS_eq rfl) ?_
    refine wl_off rfl rfl rfl (freshS_eq rfl) ?_
    refine wl_off rfl rfl rfl (freshS_eq rfl) ?_
    refine wl_off rfl rfl rfl (freshS_eq rfl) ?_
    refine wl_pure rfl rfl rfl (freshS_eq rfl) rfl ?_
    refine wl_nil ?_
    refine we_then ?_
    refine wc_keep [42, 7, 6, 5, 4, 3, 0, 1, 2] (S' := [_,_,_,_,_,_,_,_,_]) rfl ?_
    refine wc_true rfl ?_
    refine wc_rowNil 4 1 bRep ?_
    refine wc_rowNil 27 3 vRep ?_
    refine wc_seq ?_
    refine wc_region ?_
    refine wl_build rfl rfl rfl (freshS_eq rfl) rfl tZ_56 tP_56 rfl (out := [_,_]) rfl ?_
    refine wl_store 2 0 rfl rfl rfl rfl rfl rfl rfl tS_56 rfl rfl rfl (all' := [_,_]) rfl (H' := [_,_,_,_,_,_]) rfl ?_
    refine wl_pure (S' := [_,_,_,_,_,_,_,_,_]) rfl rfl rfl rfl rfl ?_
    refine wl_nil ?_
    refine we_then ?_
    refine wc_keep [7, 42, 6, 5, 4, 3, 0, 1, 2] (S' := [_,_,_,_,_,_,_,_,_]) rfl ?_
    refine wc_ret ?_
    refine we_then_ret ?_
    refine ret_two (Hr := [.own 27 3 vRep (.slice none 0 0) [], .own 4 1 bRep (.slice none 0 0) []]) [0, 1] Try.results22 (res_cell 2 rfl rfl tS_56 tA_56 rfl rfl) (res_tmp rfl) ?_ (fun _ _ hφ => ask [] rfl hφ) rfl rfl (.inl rfl)
    exact ⟨_, _, _, _, _, _, rfl, MatchR.no (fun hh => by have := hh.1; have := hh.2.1; have := hh.2.2.1; omega), rfl, rfl⟩
   ·
    replace h27 := bne_eq_false_iff_eq.1 h27
    refine wl_fieldAddr rfl rfl rfl (freshS_eq rfl) rfl rfl tF_36_1 ?_
    refine wl_loadH 2 1 rfl rfl rfl (freshS_eq rfl) rfl rfl rfl (cs := [_]) rfl tS_3 tA_3 rfl rfl ?_
    refine wl_fieldAddr rfl rfl rfl (freshS_eq rfl) rfl rfl tF_33_1 ?_
    refine wl_loadH 3 1 rfl rfl rfl (freshS_eq rfl) rfl rfl rfl (cs := [_]) rfl tS_3 tA_3 rfl rfl ?_
    refine wl_pure rfl rfl rfl (freshS_eq rfl) rfl ?_
    refine wl_pure rfl rfl rfl (freshS_eq rfl) rfl ?_
    refine wl_pure rfl rfl rfl (freshS_eq rfl) rfl ?_
    refine wl_split (d := 34) (S' := [_,_,_,_,_,_,_,_,_,_,_,_,_,_,_,_,_,_,_,_,_,_,_,_,_,_,_,_]) rfl rfl (fun h34 => ?_) (fun h34 => ?_)
    ·
     replace h34 := bne_iff_ne.1 h34
     refine wl_off rfl rfl rfl (freshS_eq rfl) ?_
     refine wl_off rfl rfl rfl (freshS_eq rfl) ?_
     refine wl_off rfl rfl rfl (freshS_eq rfl) ?_
     refine wl_off rfl rfl rfl (freshS_eq rfl) ?_
     refine wl_off rfl rfl rfl (freshS_eq rfl) ?_
     refine wl_off rfl rfl rfl (freshS_eq rfl) ?_
     refine wl_off rfl rfl rfl (freshS_eq rfl) ?_
     refine wl_pure rfl rfl rfl (freshS_eq rfl) rfl ?_
     refine wl_nil ?_
     refine we_then ?_
     refine wc_keep [42, 7, 6, 5, 4, 3, 0, 1, 2] (S' := [_,_,_,_,_,_,_,_,_]) rfl ?_
     refine wc_true rfl ?_
     refine wc_rowNil 4 1 bRep ?_
     refine wc_rowNil 27 3 vRep ?_
     refine wc_seq ?_
     refine wc_region ?_
     refine wl_build rfl rfl rfl (freshS_eq rfl) rfl tZ_56 tP_56 rfl (out := [_,_]) rfl ?_
     refine wl_store 2 0 rfl rfl rfl rfl rfl rfl rfl tS_56 rfl rfl rfl (all' := [_,_]) rfl (H' := [_,_,_,_,_,_]) rfl ?_
     refine wl_pure (S' := [_,_,_,_,_,_,_,_,_]) rfl rfl rfl rfl rfl ?_
     refine wl_nil ?_
     refine we_then ?_
     refine wc_keep [7, 42, 6, 5, 4, 3, 0, 1, 2] (S' := [_,_,_,_,_,_,_,_,_]) rfl ?_
     refine wc_ret ?_
     refine we_then_ret ?_
     refine ret_two (Hr := [.own 27 3 vRep (.slice none 0 0) [], .own 4 1 bRep (.slice none 0 0) []]) [0, 1] Try.results22 (res_cell 2 rfl rfl tS_56 tA_56 rfl rfl) (res_tmp rfl) ?_ (fun _ _ hφ => ask [] rfl hφ) rfl rfl (.inl rfl)
     exact ⟨_, _, _, _, _, _, rfl, MatchR.no (fun hh => by have := hh.1; have := hh.2.1; have := hh.2.2.1; omega), rfl, rfl⟩
    ·
     replace h34 := bne_eq_false_iff_eq.1 h34
     refine wl_fieldAddr rfl rfl rfl (freshS_eq rfl) rfl rfl tF_36_2 ?_
     refine wl_loadH 2 2 rfl rfl rfl (freshS_eq rfl) rfl rfl rfl (cs := [_]) rfl tS_34 tA_34 rfl rfl ?_
     refine wl_len rfl rfl rfl (freshS_eq rfl) rfl rfl tE_34 ?_
     refine wl_fieldAddr rfl rfl rfl (freshS_eq rfl) rfl rfl tF_33_2 ?_
     refine wl_loadH 3 2 rfl rfl rfl (freshS_eq rfl) rfl rfl rfl (cs := [_]) rfl tS_23 tA_23 rfl rfl ?_
     refine wl_len rfl rfl rfl (freshS_eq rfl) rfl rfl tE_23 ?_
     refine wl_pure rfl rfl rfl (freshS_eq rfl) rfl ?_
     refine wl_pure rfl rfl rfl (freshS_eq rfl) rfl ?_
     refine wl_nil ?_
     refine we_then ?_
     refine wc_keep [42, 7, 6, 5, 4, 3, 0, 1, 2] (S' := [_,_,_,_,_,_,_,_,_]) rfl ?_
     refine wc_cond rfl (fun h42 => ?_) (fun h42 => ?_)
     ·
      replace h42 := bne_iff_ne.1 h42
      refine wc_rowNil 4 1 bRep ?_
      refine wc_rowNil 27 3 vRep ?_
      refine wc_seq ?_
      refine wc_region ?_
      refine wl_build rfl rfl rfl (freshS_eq rfl) rfl tZ_56 tP_56 rfl (out := [_,_]) rfl ?_
      refine wl_store 2 0 rfl rfl rfl rfl rfl rfl rfl tS_56 rfl rfl rfl (all' := [_,_]) rfl (H' := [_,_,_,_,_,_]) rfl ?_
      refine wl_pure (S' := [_,_,_,_,_,_,_,_,_]) rfl rfl rfl rfl rfl ?_
      refine wl_nil ?_
      refine we_then ?_
      refine wc_keep [7, 42, 6, 5, 4, 3, 0, 1, 2] (S' := [_,_,_,_,_,_,_,_,_]) rfl ?_
      refine wc_ret ?_
      refine we_then_ret ?_
      refine ret_two (Hr := [.own 27 3 vRep (.slice none 0 0) [], .own 4 1 bRep (.slice none 0 0) []]) [0, 1] Try.results22 (res_cell 2 rfl rfl tS_56 tA_56 rfl rfl) (res_tmp rfl) ?_ (fun _ _ hφ => ask [] rfl hφ) rfl rfl (.inl rfl)
      exact ⟨_, _, _, _, _, _, rfl, MatchR.no (fun hh => by have := hh.1; have := hh.2.1; have := hh.2.2.1; omega), rfl, rfl⟩
     ·
      replace h42 := bne_eq_false_iff_eq.1 h42
      refine wc_skip ?_
      refine we_then ?_
      refine wc_seq ?_
      refine wc_cut (σ := Nat × (Option Addr) × Nat × Nat × (Option Addr) × Nat × Nat) (fun (g44, p47, c47, g48, p51, c51, g8) => True) (fun (g44, p47, c47, g48, p51, c51, g8) => [(8, .pointer (some ⟨g8, 0, none⟩)), (42, .bool (((f.args.length : Nat) : Int) != ((c.args.length : Nat) : Int))), (7, .bool false), (6, .pointer (some ⟨g6, 0, none⟩)), (5, .pointer (some ⟨g5, 0, none⟩)), (4, .pointer (some ⟨g4, 0, none⟩)), (3, .pointer (some ⟨g3, 0, none⟩)), (0, .agg #[.int .u8 (c.k), .int .i64 (c.ty), .slice pa c.args.length ca, t0, t1, t2, t3, t4, t5, t6]), (1, .agg #[.int .i64 (f.id), .int .i64 (f.ty), .slice px f.args.length cx]), (2, .agg #[.slice p1 has.length c1, .slice p2 vals.length c2])]) (fun (g44, p47, c47, g48, p51, c51, g8) => [.sli 5 aRep pa ca c.args, .sli 3 vRep px cx f.args, .sli 1 bRep p1 c1 has, .sli 3 vRep p2 c2 vals]) (fun (g44, p47, c47, g48, p51, c51, g8) => [.blk g8 [.slice p47 (has).length c47, .slice p51 (vals).length c51] 56, .own 27 3 vRep (.slice p51 (vals).length c51) vals, .own 4 1 bRep (.slice p47 (has).length c47) has, .blk g6 [.slice none 0 0, .slice none 0 0] 56, .blk g5 [.slice p1 has.length c1, .slice p2 vals.length c2] 56, .blk g4 [.int .i64 (f.id), .int .i64 (f.ty), .slice px f.args.length cx] 36, .blk g3 [.int .u8 (c.k), .int .i64 (c.ty), .slice pa c.args.length ca, t0, t1, t2, t3, t4, t5, t6] 33]) ?_ ?_
      ·
       refine wc_draw [1, 2, 5, 6, 8] rfl rfl (fun hok => ?_)
       refine wx_fieldAddr hok 1 rfl rfl rfl (freshS_eq rfl) rfl rfl rfl tF_56_0 ?_
       refine wx_loadH hok 2 1 0 rfl rfl rfl (freshS_eq rfl) rfl rfl rfl rfl (cs := [_]) rfl tS_37 tA_37 rfl rfl ?_
       refine wx_fieldAddr hok 5 rfl rfl rfl (freshS_eq rfl) rfl rfl rfl tF_56_1 ?_
       refine wx_loadH hok 6 1 1 rfl rfl rfl (freshS_eq rfl) rfl rfl rfl rfl (cs := [_]) rfl tS_34 tA_34 rfl rfl ?_
       refine wx_step3 hok 0 4 9 rfl rfl rfl rfl rfl rfl rfl rfl ?_ ?_ ?_
       ·
        refine wl_buildSlice rfl rfl rfl (freshS_eq rfl) rfl tE_37 tS_4 tZ_4 rfl (zs := []) (by kernel_rfl) rfl (out := []) rfl (fun g44 => ?_)
        refine wl_nil ?_
        refine we_x [0, 1, 2, 3] [2, 2] rfl rfl ?_
        refine wx_step3 hok 3 4 9 rfl rfl rfl rfl rfl rfl rfl rfl ?_ ?_ ?_
        ·
         refine wl_row (sz := 1) (m := 0) bRep [] 0 rfl (fun F w hφ => rfl) rfl (by decide) (H' := [_,_,_,_,_]) rfl ?_
         refine wl_append 0 2 rfl rfl rfl (freshS_eq rfl) rfl rfl rfl rfl rfl tE_37 tR_4 rfl rfl (by simp; omega) (by simp; omega) (H2 := fun p47 c47 => [.own 4 1 bRep (.slice p47 (has).length c47) has, .blk g6 [.slice none 0 0, .slice none 0 0] 56, .blk g5 [.slice p1 has.length c1, .slice p2 vals.length c2] 56, .blk g4 [.int .i64 (f.id), .int .i64 (f.ty), .slice px f.args.length cx] 36, .blk g3 [.int .u8 (c.k), .int .i64 (c.ty), .slice pa c.args.length ca, t0, t1, t2, t3, t4, t5, t6] 33]) (fun _ _ => rfl) (fun p47 c47 => ?_)
         refine wl_nil ?_
         refine we_x [0, 1, 2, 3] [2] rfl rfl ?_
         refine wx_step2 hok 4 9 rfl rfl rfl rfl rfl rfl ?_ ?_
         ·
          refine wl_buildSlice rfl rfl rfl (freshS_eq rfl) rfl tE_34 tS_27 tZ_27 rfl (zs := []) (by kernel_rfl) rfl (out := []) rfl (fun g48 => ?_)
          refine wl_nil ?_
          refine we_x [0, 1, 2, 3] [3, 3] rfl rfl ?_
          refine wx_step2 hok 7 9 rfl rfl rfl rfl rfl rfl ?_ ?_
          ·
           refine wl_row (sz := 3) (m := 0) vRep [] 0 rfl (fun F w hφ => rfl) rfl (by decide) (H' := [_,_,_,_,_,_]) rfl ?_
           refine wl_append 0 3 rfl rfl rfl (freshS_eq rfl) rfl rfl rfl rfl rfl tE_34 tR_27 rfl rfl (by simp; omega) (by simp; omega) (H2 := fun p51 c51 => [.own 27 3 vRep (.slice p51 (vals).length c51) vals, .own 4 1 bRep (.slice p47 (has).length c47) has, .blk g6 [.slice none 0 0, .slice none 0 0] 56, .blk g5 [.slice p1 has.length c1, .slice p2 vals.length c2] 56, .blk g4 [.int .i64 (f.id), .int .i64 (f.ty), .slice px f.args.length cx] 36, .blk g3 [.int .u8 (c.k), .int .i64 (c.ty), .slice pa c.args.length ca, t0, t1, t2, t3, t4, t5, t6] 33]) (fun _ _ => rfl) (fun p51 c51 => ?_)
           refine wl_nil ?_
           refine we_x [0, 1, 2, 3] [3] rfl rfl ?_
           refine wx_build hok 8 rfl rfl rfl (freshS_eq rfl) rfl rfl tZ_56 tP_56 rfl (out := [_,_]) rfl ?_
           refine wx_step1 hok 9 rfl rfl rfl rfl ?_
           refine wl_alloc rfl rfl rfl (freshS_eq rfl) rfl tZ_56 rfl (fun g8 => ?_)
           refine wl_nil ?_
           refine we_x [0, 1, 2, 3] [4, 4] rfl rfl ?_
           refine wx_step1 hok 10 rfl rfl rfl rfl ?_
           refine wl_store 0 0 rfl rfl rfl rfl rfl rfl rfl tS_56 rfl rfl rfl (all' := [_,_]) rfl (H' := [_,_,_,_,_,_,_]) rfl ?_
           refine wl_nil ?_
           refine we_x [0, 1, 2, 3] [] rfl rfl ?_
           refine wx_done hok rfl ?_
           refine we_join (g44, p47, c47, g48, p51, c51, g8) trivial [8, 42, 7, 6, 5, 4, 3, 0, 1, 2] rfl (fun _ _ hφ => ask [0, 1, 2, 3] rfl hφ) rfl
          ·
           refine wl_alloc rfl rfl rfl (freshS_eq rfl) rfl tZ_56 rfl (fun g8 => ?_)
           refine wl_nil ?_
           refine we_x [0, 1, 2, 3] [4, 4] rfl rfl ?_
           refine wx_step1 hok 7 rfl rfl rfl rfl ?_
           refine wl_row (sz := 3) (m := 0) vRep [] 1 rfl (fun F w hφ => rfl) rfl (by decide) (H' := [_,_,_,_,_,_,_]) rfl ?_
           refine wl_append 1 3 rfl rfl rfl (freshS_eq rfl) rfl rfl rfl rfl rfl tE_34 tR_27 rfl rfl (by simp; omega) (by simp; omega) (H2 := fun p51 c51 => [.blk g8 [.slice none 0 0, .slice none 0 0] 56, .own 27 3 vRep (.slice p51 (vals).length c51) vals, .own 4 1 bRep (.slice p47 (has).length c47) has, .blk g6 [.slice none 0 0, .slice none 0 0] 56, .blk g5 [.slice p1 has.length c1, .slice p2 vals.length c2] 56, .blk g4 [.int .i64 (f.id), .int .i64 (f.ty), .slice px f.args.length cx] 36, .blk g3 [.int .u8 (c.k), .int .i64 (c.ty), .slice pa c.args.length ca, t0, t1, t2, t3, t4, t5, t6] 33]) (fun _ _ => rfl) (fun p51 c51 => ?_)
           refine wl_nil ?_
           refine we_x [0, 1, 2, 3] [4] rfl rfl ?_
           refine wx_build hok 8 rfl rfl rfl (freshS_eq rfl) rfl rfl tZ_56 tP_56 rfl (out := [_,_]) rfl ?_
           refine wx_step1 hok 10 rfl rfl rfl rfl ?_
           refine wl_store 0 0 rfl rfl rfl rfl rfl rfl rfl tS_56 rfl rfl rfl (all' := [_,_]) rfl (H' := [_,_,_,_,_,_,_]) rfl ?_
           refine wl_nil ?_
           refine we_x [0, 1, 2, 3] [] rfl rfl ?_
           refine wx_done hok rfl ?_
           refine we_join (g44, p47, c47, g48, p51, c51, g8) trivial [8, 42, 7, 6, 5, 4, 3, 0, 1, 2] rfl (fun _ _ hφ => ask [0, 1, 2, 3] rfl hφ) rfl
         ·
          refine wl_alloc rfl rfl rfl (freshS_eq rfl) rfl tZ_56 rfl (fun g8 => ?_)
          refine wl_nil ?_
          refine we_x [0, 1, 2, 3] [3, 3] rfl rfl ?_
          refine wx_step1 hok 4 rfl rfl rfl rfl ?_
          refine wl_buildSlice rfl rfl rfl (freshS_eq rfl) rfl tE_34 tS_27 tZ_27 rfl (zs := []) (by kernel_rfl) rfl (out := []) rfl (fun g48 => ?_)
          refine wl_nil ?_
          refine we_x [0, 1, 2, 3] [4, 4] rfl rfl ?_
          refine wx_step1 hok 7 rfl rfl rfl rfl ?_
          refine wl_row (sz := 3) (m := 0) vRep [] 0 rfl (fun F w hφ => rfl) rfl (by decide) (H' := [_,_,_,_,_,_,_]) rfl ?_
          refine wl_append 0 3 rfl rfl rfl (freshS_eq rfl) rfl rfl rfl rfl rfl tE_34 tR_27 rfl rfl (by simp; omega) (by simp; omega) (H2 := fun p51 c51 => [.own 27 3 vRep (.slice p51 (vals).length c51) vals, .blk g8 [.slice none 0 0, .slice none 0 0] 56, .own 4 1 bRep (.slice p47 (has).length c47) has, .blk g6 [.slice none 0 0, .slice none 0 0] 56, .blk g5 [.slice p1 has.length c1, .slice p2 vals.length c2] 56, .blk g4 [.int .i64 (f.id), .int .i64 (f.ty), .slice px f.args.length cx] 36, .blk g3 [.int .u8 (c.k), .int .i64 (c.ty), .slice pa c.args.length ca, t0, t1, t2, t3, t4, t5, t6] 33]) (fun _ _ => rfl) (fun p51 c51 => ?_)
          refine wl_nil ?_
          refine we_x [0, 1, 2, 3] [4] rfl rfl ?_
          refine wx_build hok 8 rfl rfl rfl (freshS_eq rfl) rfl rfl tZ_56 tP_56 rfl (out := [_,_]) rfl ?_
          refine wx_step1 hok 10 rfl rfl rfl rfl ?_
          refine wl_store 1 0 rfl rfl rfl rfl rfl rfl rfl tS_56 rfl rfl rfl (all' := [_,_]) rfl (H' := [_,_,_,_,_,_,_]) rfl ?_
          refine wl_nil ?_
          refine we_x [0, 1, 2, 3] [] rfl rfl ?_
          refine wx_done hok rfl ?_
          refine we_pick [1, 0, 2, 3, 4, 5, 6] rfl (H' := [_,_,_,_,_,_,_]) rfl ?_
          refine we_join (g44, p47, c47, g48, p51, c51, g8) trivial [8, 42, 7, 6, 5, 4, 3, 0, 1, 2] rfl (fun _ _ hφ => ask [0, 1, 2, 3] rfl hφ) rfl
        ·
         refine wl_buildSlice rfl rfl rfl (freshS_eq rfl) rfl tE_34 tS_27 tZ_27 rfl (zs := []) (by kernel_rfl) rfl (out := []) rfl (fun g48 => ?_)
         refine wl_nil ?_
         refine we_x [0, 1, 2, 3] [3, 3] rfl rfl ?_
         refine wx_step2 hok 3 9 rfl rfl rfl rfl rfl rfl ?_ ?_
         ·
          refine wl_row (sz := 1) (m := 0) bRep [] 1 rfl (fun F w hφ => rfl) rfl (by decide) (H' := [_,_,_,_,_,_]) rfl ?_
          refine wl_append 1 2 rfl rfl rfl (freshS_eq rfl) rfl rfl rfl rfl rfl tE_37 tR_4 rfl rfl (by simp; omega) (by simp; omega) (H2 := fun p47 c47 => [.blk g48 [] 27, .own 4 1 bRep (.slice p47 (has).length c47) has, .blk g6 [.slice none 0 0, .slice none 0 0] 56, .blk g5 [.slice p1 has.length c1, .slice p2 vals.length c2] 56, .blk g4 [.int .i64 (f.id), .int .i64 (f.ty), .slice px f.args.length cx] 36, .blk g3 [.int .u8 (c.k), .int .i64 (c.ty), .slice pa c.args.length ca, t0, t1, t2, t3, t4, t5, t6] 33]) (fun _ _ => rfl) (fun p47 c47 => ?_)
          refine wl_nil ?_
          refine we_x [0, 1, 2, 3] [3] rfl rfl ?_
          refine wx_step2 hok 7 9 rfl rfl rfl rfl rfl rfl ?_ ?_
          ·
           refine wl_row (sz := 3) (m := 0) vRep [] 0 rfl (fun F w hφ => rfl) rfl (by decide) (H' := [_,_,_,_,_,_]) rfl ?_
           refine wl_append 0 3 rfl rfl rfl (freshS_eq rfl) rfl rfl rfl rfl rfl tE_34 tR_27 rfl rfl (by simp; omega) (by simp; omega) (H2 := fun p51 c51 => [.own 27 3 vRep (.slice p51 (vals).length c51) vals, .own 4 1 bRep (.slice p47 (has).length c47) has, .blk g6 [.slice none 0 0, .slice none 0 0] 56, .blk g5 [.slice p1 has.length c1, .slice p2 vals.length c2] 56, .blk g4 [.int .i64 (f.id), .int .i64 (f.ty), .slice px f.args.length cx] 36, .blk g3 [.int .u8 (c.k), .int .i64 (c.ty), .slice pa c.args.length ca, t0, t1, t2, t3, t4, t5, t6] 33]) (fun _ _ => rfl) (fun p51 c51 => ?_)
           refine wl_nil ?_
           refine we_x [0, 1, 2, 3] [3] rfl rfl ?_
           refine wx_build hok 8 rfl rfl rfl (freshS_eq rfl) rfl rfl tZ_56 tP_56 rfl (out := [_,_]) rfl ?_
           refine wx_step1 hok 9 rfl rfl rfl rfl ?_
           refine wl_alloc rfl rfl rfl (freshS_eq rfl) rfl tZ_56 rfl (fun g8 => ?_)
           refine wl_nil ?_
           refine we_x [0, 1, 2, 3] [4, 4] rfl rfl ?_
           refine wx_step1 hok 10 rfl rfl rfl rfl ?_
           refine wl_store 0 0 rfl rfl rfl rfl rfl rfl rfl tS_56 rfl rfl rfl (all' := [_,_]) rfl (H' := [_,_,_,_,_,_,_]) rfl ?_
           refine wl_nil ?_
           refine we_x [0, 1, 2, 3] [] rfl rfl ?_
           refine wx_done hok rfl ?_
           refine we_join (g44, p47, c47, g48, p51, c51, g8) trivial [8, 42, 7, 6, 5, 4, 3, 0, 1, 2] rfl (fun _ _ hφ => ask [0, 1, 2, 3] rfl hφ) rfl
          ·
           refine wl_alloc rfl rfl rfl (freshS_eq rfl) rfl tZ_56 rfl (fun g8 => ?_)
           refine wl_nil ?_
           refine we_x [0, 1, 2, 3] [4, 4] rfl rfl ?_
           refine wx_step1 hok 7 rfl rfl rfl rfl ?_
           refine wl_row (sz := 3) (m := 0) vRep [] 1 rfl (fun F w hφ => rfl) rfl (by decide) (H' := [_,_,_,_,_,_,_]) rfl ?_
           refine wl_append 1 3 rfl rfl rfl (freshS_eq rfl) rfl rfl rfl rfl rfl tE_34 tR_27 rfl rfl (by simp; omega) (by simp; omega) (H2 := fun p51 c51 => [.blk g8 [.slice none 0 0, .slice none 0 0] 56, .own 27 3 vRep (.slice p51 (vals).length c51) vals, .own 4 1 bRep (.slice p47 (has).length c47) has, .blk g6 [.slice none 0 0, .slice none 0 0] 56, .blk g5 [.slice p1 has.length c1, .slice p2 vals.length c2] 56, .blk g4 [.int .i64 (f.id), .int .i64 (f.ty), .slice px f.args.length cx] 36, .blk g3 [.int .u8 (c.k), .int .i64 (c.ty), .slice pa c.args.length ca, t0, t1, t2, t3, t4, t5, t6] 33]) (fun _ _ => rfl) (fun p51 c51 => ?_)
           refine wl_nil ?_
           refine we_x [0, 1, 2, 3] [4] rfl rfl ?_
           refine wx_build hok 8 rfl rfl rfl (freshS_eq rfl) rfl rfl tZ_56 tP_56 rfl (out := [_,_]) rfl ?_
           refine wx_step1 hok 10 rfl rfl rfl rfl ?_
           refine wl_store 0 0 rfl rfl rfl rfl rfl rfl rfl tS_56 rfl rfl rfl (all' := [_,_]) rfl (H' := [_,_,_,_,_,_,_]) rfl ?_
           refine wl_nil ?_
           refine we_x [0, 1, 2, 3] [] rfl rfl ?_
           refine wx_done hok rfl ?_
           refine we_join (g44, p47, c47, g48, p51, c51, g8) trivial [8, 42, 7, 6, 5, 4, 3, 0, 1, 2] rfl (fun _ _ hφ => ask [0, 1, 2, 3] rfl hφ) rfl
         ·
          refine wl_alloc rfl rfl rfl (freshS_eq rfl) rfl tZ_56 rfl (fun g8 => ?_)
          refine wl_nil ?_
          refine we_x [0, 1, 2, 3] [4, 4] rfl rfl ?_
          refine wx_step1 hok 3 rfl rfl rfl rfl ?_
          refine wl_row (sz := 1) (m := 0) bRep [] 2 rfl (fun F w hφ => rfl) rfl (by decide) (H' := [_,_,_,_,_,_,_]) rfl ?_
          refine wl_append 2 2 rfl rfl rfl (freshS_eq rfl) rfl rfl rfl rfl rfl tE_37 tR_4 rfl rfl (by simp; omega) (by simp; omega) (H2 := fun p47 c47 => [.blk g8 [.slice none 0 0, .slice none 0 0] 56, .blk g48 [] 27, .own 4 1 bRep (.slice p47 (has).length c47) has, .blk g6 [.slice none 0 0, .slice none 0 0] 56, .blk g5 [.slice p1 has.length c1, .slice p2 vals.length c2] 56, .blk g4 [.int .i64 (f.id), .int .i64 (f.ty), .slice px f.args.length cx] 36, .blk g3 [.int .u8 (c.k), .int .i64 (c.ty), .slice pa c.args.length ca, t0, t1, t2, t3, t4, t5, t6] 33]) (fun _ _ => rfl) (fun p47 c47 => ?_)
          refine wl_nil ?_
          refine we_x [0, 1, 2, 3] [4] rfl rfl ?_
          refine wx_step1 hok 7 rfl rfl rfl rfl ?_
          refine wl_row (sz := 3) (m := 0) vRep [] 1 rfl (fun F w hφ => rfl) rfl (by decide) (H' := [_,_,_,_,_,_,_]) rfl ?_
          refine wl_append 1 3 rfl rfl rfl (freshS_eq rfl) rfl rfl rfl rfl rfl tE_34 tR_27 rfl rfl (by simp; omega) (by simp; omega) (H2 := fun p51 c51 => [.blk g8 [.slice none 0 0, .slice none 0 0] 56, .own 27 3 vRep (.slice p51 (vals).length c51) vals, .own 4 1 bRep (.slice p47 (has).length c47) has, .blk g6 [.slice none 0 0, .slice none 0 0] 56, .blk g5 [.slice p1 has.length c1, .slice p2 vals.length c2] 56, .blk g4 [.int .i64 (f.id), .int .i64 (f.ty), .slice px f.args.length cx] 36, .blk g3 [.int .u8 (c.k), .int .i64 (c.ty), .slice pa c.args.length ca, t0, t1, t2, t3, t4, t5, t6] 33]) (fun _ _ => rfl) (fun p51 c51 => ?_)
          refine wl_nil ?_
          refine we_x [0, 1, 2, 3] [4] rfl rfl ?_
          refine wx_build hok 8 rfl rfl rfl (freshS_eq rfl) rfl rfl tZ_56 tP_56 rfl (out := [_,_]) rfl ?_
          refine wx_step1 hok 10 rfl rfl rfl rfl ?_
          refine wl_store 0 0 rfl rfl rfl rfl rfl rfl rfl tS_56 rfl rfl rfl (all' := [_,_]) rfl (H' := [_,_,_,_,_,_,_]) rfl ?_
          refine wl_nil ?_
          refine we_x [0, 1, 2, 3] [] rfl rfl ?_
          refine wx_done hok rfl ?_
          refine we_join (g44, p47, c47, g48, p51, c51, g8) trivial [8, 42, 7, 6, 5, 4, 3, 0, 1, 2] rfl (fun _ _ hφ => ask [0, 1, 2, 3] rfl hφ) rfl
        ·
         refine wl_alloc rfl rfl rfl (freshS_eq rfl) rfl tZ_56 rfl (fun g8 => ?_)
         refine wl_nil ?_
         refine we_x [0, 1, 2, 3] [3, 3] rfl rfl ?_
         refine wx_step2 hok 3 4 rfl rfl rfl rfl rfl rfl ?_ ?_
         ·
          refine wl_row (sz := 1) (m := 0) bRep [] 1 rfl (fun F w hφ => rfl) rfl (by decide) (H' := [_,_,_,_,_,_]) rfl ?_
          refine wl_append 1 2 rfl rfl rfl (freshS_eq rfl) rfl rfl rfl rfl rfl tE_37 tR_4 rfl rfl (by simp; omega) (by simp; omega) (H2 := fun p47 c47 => [.blk g8 [.slice none 0 0, .slice none 0 0] 56, .own 4 1 bRep (.slice p47 (has).length c47) has, .blk g6 [.slice none 0 0, .slice none 0 0] 56, .blk g5 [.slice p1 has.length c1, .slice p2 vals.length c2] 56, .blk g4 [.int .i64 (f.id), .int .i64 (f.ty), .slice px f.args.length cx] 36, .blk g3 [.int .u8 (c.k), .int .i64 (c.ty), .slice pa c.args.length ca, t0, t1, t2, t3, t4, t5, t6] 33]) (fun _ _ => rfl) (fun p47 c47 => ?_)
          refine wl_nil ?_
          refine we_x [0, 1, 2, 3] [3] rfl rfl ?_
          refine wx_step1 hok 4 rfl rfl rfl rfl ?_
          refine wl_buildSlice rfl rfl rfl (freshS_eq rfl) rfl tE_34 tS_27 tZ_27 rfl (zs := []) (by kernel_rfl) rfl (out := []) rfl (fun g48 => ?_)
          refine wl_nil ?_
          refine we_x [0, 1, 2, 3] [4, 4] rfl rfl ?_
          refine wx_step1 hok 7 rfl rfl rfl rfl ?_
          refine wl_row (sz := 3) (m := 0) vRep [] 0 rfl (fun F w hφ => rfl) rfl (by decide) (H' := [_,_,_,_,_,_,_]) rfl ?_
          refine wl_append 0 3 rfl rfl rfl (freshS_eq rfl) rfl rfl rfl rfl rfl tE_34 tR_27 rfl rfl (by simp; omega) (by simp; omega) (H2 := fun p51 c51 => [.own 27 3 vRep (.slice p51 (vals).length c51) vals, .blk g8 [.slice none 0 0, .slice none 0 0] 56, .own 4 1 bRep (.slice p47 (has).length c47) has, .blk g6 [.slice none 0 0, .slice none 0 0] 56, .blk g5 [.slice p1 has.length c1, .slice p2 vals.length c2] 56, .blk g4 [.int .i64 (f.id), .int .i64 (f.ty), .slice px f.args.length cx] 36, .blk g3 [.int .u8 (c.k), .int .i64 (c.ty), .slice pa c.args.length ca, t0, t1, t2, t3, t4, t5, t6] 33]) (fun _ _ => rfl) (fun p51 c51 => ?_)
          refine wl_nil ?_
          refine we_x [0, 1, 2, 3] [4] rfl rfl ?_
          refine wx_build hok 8 rfl rfl rfl (freshS_eq rfl) rfl rfl tZ_56 tP_56 rfl (out := [_,_]) rfl ?_
          refine wx_step1 hok 10 rfl rfl rfl rfl ?_
          refine wl_store 1 0 rfl rfl rfl rfl rfl rfl rfl tS_56 rfl rfl rfl (all' := [_,_]) rfl (H' := [_,_,_,_,_,_,_]) rfl ?_
          refine wl_nil ?_
          refine we_x [0, 1, 2, 3] [] rfl rfl ?_
          refine wx_done hok rfl ?_
          refine we_pick [1, 0, 2, 3, 4, 5, 6] rfl (H' := [_,_,_,_,_,_,_]) rfl ?_
          refine we_join (g44, p47, c47, g48, p51, c51, g8) trivial [8, 42, 7, 6, 5, 4, 3, 0, 1, 2] rfl (fun _ _ hφ => ask [0, 1, 2, 3] rfl hφ) rfl
         ·
          refine wl_buildSlice rfl rfl rfl (freshS_eq rfl) rfl tE_34 tS_27 tZ_27 rfl (zs := []) (by kernel_rfl) rfl (out := []) rfl (fun g48 => ?_)
          refine wl_nil ?_
          refine we_x [0, 1, 2, 3] [4, 4] rfl rfl ?_
          refine wx_step1 hok 3 rfl rfl rfl rfl ?_
          refine wl_row (sz := 1) (m := 0) bRep [] 2 rfl (fun F w hφ => rfl) rfl (by decide) (H' := [_,_,_,_,_,_,_]) rfl ?_
          refine wl_append 2 2 rfl rfl rfl (freshS_eq rfl) rfl rfl rfl rfl rfl tE_37 tR_4 rfl rfl (by simp; omega) (by simp; omega) (H2 := fun p47 c47 => [.blk g48 [] 27, .blk g8 [.slice none 0 0, .slice none 0 0] 56, .own 4 1 bRep (.slice p47 (has).length c47) has, .blk g6 [.slice none 0 0, .slice none 0 0] 56, .blk g5 [.slice p1 has.length c1, .slice p2 vals.length c2] 56, .blk g4 [.int .i64 (f.id), .int .i64 (f.ty), .slice px f.args.length cx] 36, .blk g3 [.int .u8 (c.k), .int .i64 (c.ty), .slice pa c.args.length ca, t0, t1, t2, t3, t4, t5, t6] 33]) (fun _ _ => rfl) (fun p47 c47 => ?_)
          refine wl_nil ?_
          refine we_x [0, 1, 2, 3] [4] rfl rfl ?_
          refine wx_step1 hok 7 rfl rfl rfl rfl ?_
          refine wl_row (sz := 3) (m := 0) vRep [] 0 rfl (fun F w hφ => rfl) rfl (by decide) (H' := [_,_,_,_,_,_,_]) rfl ?_
          refine wl_append 0 3 rfl rfl rfl (freshS_eq rfl) rfl rfl rfl rfl rfl tE_34 tR_27 rfl rfl (by simp; omega) (by simp; omega) (H2 := fun p51 c51 => [.own 27 3 vRep (.slice p51 (vals).length c51) vals, .blk g8 [.slice none 0 0, .slice none 0 0] 56, .own 4 1 bRep (.slice p47 (has).length c47) has, .blk g6 [.slice none 0 0, .slice none 0 0] 56, .blk g5 [.slice p1 has.length c1, .slice p2 vals.length c2] 56, .blk g4 [.int .i64 (f.id), .int .i64 (f.ty), .slice px f.args.length cx] 36, .blk g3 [.int .u8 (c.k), .int .i64 (c.ty), .slice pa c.args.length ca, t0, t1, t2, t3, t4, t5, t6] 33]) (fun _ _ => rfl) (fun p51 c51 => ?_)
          refine wl_nil ?_
          refine we_x [0, 1, 2, 3] [4] rfl rfl ?_
          refine wx_build hok 8 rfl rfl rfl (freshS_eq rfl) rfl rfl tZ_56 tP_56 rfl (out := [_,_]) rfl ?_
          refine wx_step1 hok 10 rfl rfl rfl rfl ?_
          refine wl_store 1 0 rfl rfl rfl rfl rfl rfl rfl tS_56 rfl rfl rfl (all' := [_,_]) rfl (H' := [_,_,_,_,_,_,_]) rfl ?_
          refine wl_nil ?_
          refine we_x [0, 1, 2, 3] [] rfl rfl ?_
          refine wx_done hok rfl ?_
          refine we_pick [1, 0, 2, 3, 4, 5, 6] rfl (H' := [_,_,_,_,_,_,_]) rfl ?_
          refine we_join (g44, p47, c47, g48, p51, c51, g8) trivial [8, 42, 7, 6, 5, 4, 3, 0, 1, 2] rfl (fun _ _ hφ => ask [0, 1, 2, 3] rfl hφ) rfl
       ·
        refine wl_buildSlice rfl rfl rfl (freshS_eq rfl) rfl tE_34 tS_27 tZ_27 rfl (zs := []) (by kernel_rfl) rfl (out := []) rfl (fun g48 => ?_)
        refine wl_nil ?_
        refine we_x [0, 1, 2, 3] [2, 2] rfl rfl ?_
        refine wx_step2 hok 0 9 rfl rfl rfl rfl rfl rfl ?_ ?_
        ·
         refine wl_buildSlice rfl rfl rfl (freshS_eq rfl) rfl tE_37 tS_4 tZ_4 rfl (zs := []) (by kernel_rfl) rfl (out := []) rfl (fun g44 => ?_)
         refine wl_nil ?_
         refine we_x [0, 1, 2, 3] [3, 3] rfl rfl ?_
         refine wx_step2 hok 3 9 rfl rfl rfl rfl rfl rfl ?_ ?_
         ·
          refine wl_row (sz := 1) (m := 0) bRep [] 0 rfl (fun F w hφ => rfl) rfl (by decide) (H' := [_,_,_,_,_,_]) rfl ?_
          refine wl_append 0 2 rfl rfl rfl (freshS_eq rfl) rfl rfl rfl rfl rfl tE_37 tR_4 rfl rfl (by simp; omega) (by simp; omega) (H2 := fun p47 c47 => [.own 4 1 bRep (.slice p47 (has).length c47) has, .blk g48 [] 27, .blk g6 [.slice none 0 0, .slice none 0 0] 56, .blk g5 [.slice p1 has.length c1, .slice p2 vals.length c2] 56, .blk g4 [.int .i64 (f.id), .int .i64 (f.ty), .slice px f.args.length cx] 36, .blk g3 [.int .u8 (c.k), .int .i64 (c.ty), .slice pa c.args.length ca, t0, t1, t2, t3, t4, t5, t6] 33]) (fun _ _ => rfl) (fun p47 c47 => ?_)
          refine wl_nil ?_
          refine we_x [0, 1, 2, 3] [3] rfl rfl ?_
          refine wx_step2 hok 7 9 rfl rfl rfl rfl rfl rfl ?_ ?_
          ·
           refine wl_row (sz := 3) (m := 0) vRep [] 1 rfl (fun F w hφ => rfl) rfl (by decide) (H' := [_,_,_,_,_,_]) rfl ?_
           refine wl_append 1 3 rfl rfl rfl (freshS_eq rfl) rfl rfl rfl rfl rfl tE_34 tR_27 rfl rfl (by simp; omega) (by simp; omega) (H2 := fun p51 c51 => [.own 4 1 bRep (.slice p47 (has).length c47) has, .own 27 3 vRep (.slice p51 (vals).length c51) vals, .blk g6 [.slice none 0 0, .slice none 0 0] 56, .blk g5 [.slice p1 has.length c1, .slice p2 vals.length c2] 56, .blk g4 [.int .i64 (f.id), .int .i64 (f.ty), .slice px f.args.length cx] 36, .blk g3 [.int .u8 (c.k), .int .i64 (c.ty), .slice pa c.args.length ca, t0, t1, t2, t3, t4, t5, t6] 33]) (fun _ _ => rfl) (fun p51 c51 => ?_)
           refine wl_nil ?_
           refine we_x [0, 1, 2, 3] [3] rfl rfl ?_
           refine wx_build hok 8 rfl rfl rfl (freshS_eq rfl) rfl rfl tZ_56 tP_56 rfl (out := [_,_]) rfl ?_
           refine wx_step1 hok 9 rfl rfl rfl rfl ?_
           refine wl_alloc rfl rfl rfl (freshS_eq rfl) rfl tZ_56 rfl (fun g8 => ?_)
           refine wl_nil ?_
           refine we_x [0, 1, 2, 3] [4, 4] rfl rfl ?_
           refine wx_step1 hok 10 rfl rfl rfl rfl ?_
           refine wl_store 0 0 rfl rfl rfl rfl rfl rfl rfl tS_56 rfl rfl rfl (all' := [_,_]) rfl (H' := [_,_,_,_,_,_,_]) rfl ?_
           refine wl_nil ?_
           refine we_x [0, 1, 2, 3] [] rfl rfl ?_
           refine wx_done hok rfl ?_
           refine we_pick [0, 2, 1, 3, 4, 5, 6] rfl (H' := [_,_,_,_,_,_,_]) rfl ?_
           refine we_join (g44, p47, c47, g48, p51, c51, g8) trivial [8, 42, 7, 6, 5, 4, 3, 0, 1, 2] rfl (fun _ _ hφ => ask [0, 1, 2, 3] rfl hφ) rfl
          ·
           refine wl_alloc rfl rfl rfl (freshS_eq rfl) rfl tZ_56 rfl (fun g8 => ?_)
           refine wl_nil ?_
           refine we_x [0, 1, 2, 3] [4, 4] rfl rfl ?_
           refine wx_step1 hok 7 rfl rfl rfl rfl ?_
           refine wl_row (sz := 3) (m := 0) vRep [] 2 rfl (fun F w hφ => rfl) rfl (by decide) (H' := [_,_,_,_,_,_,_]) rfl ?_
           refine wl_append 2 3 rfl rfl rfl (freshS_eq rfl) rfl rfl rfl rfl rfl tE_34 tR_27 rfl rfl (by simp; omega) (by simp; omega) (H2 := fun p51 c51 => [.blk g8 [.slice none 0 0, .slice none 0 0] 56, .own 4 1 bRep (.slice p47 (has).length c47) has, .own 27 3 vRep (.slice p51 (vals).length c51) vals, .blk g6 [.slice none 0 0, .slice none 0 0] 56, .blk g5 [.slice p1 has.length c1, .slice p2 vals.length c2] 56, .blk g4 [.int .i64 (f.id), .int .i64 (f.ty), .slice px f.args.length cx] 36, .blk g3 [.int .u8 (c.k), .int .i64 (c.ty), .slice pa c.args.length ca, t0, t1, t2, t3, t4, t5, t6] 33]) (fun _ _ => rfl) (fun p51 c51 => ?_)
           refine wl_nil ?_
           refine we_x [0, 1, 2, 3] [4] rfl rfl ?_
           refine wx_build hok 8 rfl rfl rfl (freshS_eq rfl) rfl rfl tZ_56 tP_56 rfl (out := [_,_]) rfl ?_
           refine wx_step1 hok 10 rfl rfl rfl rfl ?_
           refine wl_store 0 0 rfl rfl rfl rfl rfl rfl rfl tS_56 rfl rfl rfl (all' := [_,_]) rfl (H' := [_,_,_,_,_,_,_]) rfl ?_
           refine wl_nil ?_
           refine we_x [0, 1, 2, 3] [] rfl rfl ?_
           refine wx_done hok rfl ?_
           refine we_pick [0, 2, 1, 3, 4, 5, 6] rfl (H' := [_,_,_,_,_,_,_]) rfl ?_
           refine we_join (g44, p47, c47, g48, p51, c51, g8) trivial [8, 42, 7, 6, 5, 4, 3, 0, 1, 2] rfl (fun _ _ hφ => ask [0, 1, 2, 3] rfl hφ) rfl
         ·
          refine wl_alloc rfl rfl rfl (freshS_eq rfl) rfl tZ_56 rfl (fun g8 => ?_)
          refine wl_nil ?_
          refine we_x [0, 1, 2, 3] [4, 4] rfl rfl ?_
          refine wx_step1 hok 3 rfl rfl rfl rfl ?_
          refine wl_row (sz := 1) (m := 0) bRep [] 1 rfl (fun F w hφ => rfl) rfl (by decide) (H' := [_,_,_,_,_,_,_]) rfl ?_
          refine wl_append 1 2 rfl rfl rfl (freshS_eq rfl) rfl rfl rfl rfl rfl tE_37 tR_4 rfl rfl (by simp; omega) (by simp; omega) (H2 := fun p47 c47 => [.blk g8 [.slice none 0 0, .slice none 0 0] 56, .own 4 1 bRep (.slice p47 (has).length c47) has, .blk g48 [] 27, .blk g6 [.slice none 0 0, .slice none 0 0] 56, .blk g5 [.slice p1 has.length c1, .slice p2 vals.length c2] 56, .blk g4 [.int .i64 (f.id), .int .i64 (f.ty), .slice px f.args.length cx] 36, .blk g3 [.int .u8 (c.k), .int .i64 (c.ty), .slice pa c.args.length ca, t0, t1, t2, t3, t4, t5, t6] 33]) (fun _ _ => rfl) (fun p47 c47 => ?_)
          refine wl_nil ?_
          refine we_x [0, 1, 2, 3] [4] rfl rfl ?_
          refine wx_step1 hok 7 rfl rfl rfl rfl ?_
          refine wl_row (sz := 3) (m := 0) vRep [] 2 rfl (fun F w hφ => rfl) rfl (by decide) (H' := [_,_,_,_,_,_,_]) rfl ?_
          refine wl_append 2 3 rfl rfl rfl (freshS_eq rfl) rfl rfl rfl rfl rfl tE_34 tR_27 rfl rfl (by simp; omega) (by simp; omega) (H2 := fun p51 c51 => [.blk g8 [.slice none 0 0, .slice none 0 0] 56, .own 4 1 bRep (.slice p47 (has).length c47) has, .own 27 3 vRep (.slice p51 (vals).length c51) vals, .blk g6 [.slice none 0 0, .slice none 0 0] 56, .blk g5 [.slice p1 has.length c1, .slice p2 vals.length c2] 56, .blk g4 [.int .i64 (f.id), .int .i64 (f.ty), .slice px f.args.length cx] 36, .blk g3 [.int .u8 (c.k), .int .i64 (c.ty), .slice pa c.args.length ca, t0, t1, t2, t3, t4, t5, t6] 33]) (fun _ _ => rfl) (fun p51 c51 => ?_)
          refine wl_nil ?_
          refine we_x [0, 1, 2, 3] [4] rfl rfl ?_
          refine wx_build hok 8 rfl rfl rfl (freshS_eq rfl) rfl rfl tZ_56 tP_56 rfl (out := [_,_]) rfl ?_
          refine wx_step1 hok 10 rfl rfl rfl rfl ?_
          refine wl_store 0 0 rfl rfl rfl rfl rfl rfl rfl tS_56 rfl rfl rfl (all' := [_,_]) rfl (H' := [_,_,_,_,_,_,_]) rfl ?_
          refine wl_nil ?_
          refine we_x [0, 1, 2, 3] [] rfl rfl ?_
          refine wx_done hok rfl ?_
          refine we_pick [0, 2, 1, 3, 4, 5, 6] rfl (H' := [_,_,_,_,_,_,_]) rfl ?_
          refine we_join (g44, p47, c47, g48, p51, c51, g8) trivial [8, 42, 7, 6, 5, 4, 3, 0, 1, 2] rfl (fun _ _ hφ => ask [0, 1, 2, 3] rfl hφ) rfl
        ·
         refine wl_alloc rfl rfl rfl (freshS_eq rfl) rfl tZ_56 rfl (fun g8 => ?_)
         refine wl_nil ?_
         refine we_x [0, 1, 2, 3] [3, 3] rfl rfl ?_
         refine wx_step1 hok 0 rfl rfl rfl rfl ?_
         refine wl_buildSlice rfl rfl rfl (freshS_eq rfl) rfl tE_37 tS_4 tZ_4 rfl (zs := []) (by kernel_rfl) rfl (out := []) rfl (fun g44 => ?_)
         refine wl_nil ?_
         refine we_x [0, 1, 2, 3] [4, 4] rfl rfl ?_
         refine wx_step1 hok 3 rfl rfl rfl rfl ?_
         refine wl_row (sz := 1) (m := 0) bRep [] 0 rfl (fun F w hφ => rfl) rfl (by decide) (H' := [_,_,_,_,_,_,_]) rfl ?_
         refine wl_append 0 2 rfl rfl rfl (freshS_eq rfl) rfl rfl rfl rfl rfl tE_37 tR_4 rfl rfl (by simp; omega) (by simp; omega) (H2 := fun p47 c47 => [.own 4 1 bRep (.slice p47 (has).length c47) has, .blk g8 [.slice none 0 0, .slice none 0 0] 56, .blk g48 [] 27, .blk g6 [.slice none 0 0, .slice none 0 0] 56, .blk g5 [.slice p1 has.length c1, .slice p2 vals.length c2] 56, .blk g4 [.int .i64 (f.id), .int .i64 (f.ty), .slice px f.args.length cx] 36, .blk g3 [.int .u8 (c.k), .int .i64 (c.ty), .slice pa c.args.length ca, t0, t1, t2, t3, t4, t5, t6] 33]) (fun _ _ => rfl) (fun p47 c47 => ?_)
         refine wl_nil ?_
         refine we_x [0, 1, 2, 3] [4] rfl rfl ?_
         refine wx_step1 hok 7 rfl rfl rfl rfl ?_
         refine wl_row (sz := 3) (m := 0) vRep [] 2 rfl (fun F w hφ => rfl) rfl (by decide) (H' := [_,_,_,_,_,_,_]) rfl ?_
         refine wl_append 2 3 rfl rfl rfl (freshS_eq rfl) rfl rfl rfl rfl rfl tE_34 tR_27 rfl rfl (by simp; omega) (by simp; omega) (H2 := fun p51 c51 => [.own 4 1 bRep (.slice p47 (has).length c47) has, .blk g8 [.slice none 0 0, .slice none 0 0] 56, .own 27 3 vRep (.slice p51 (vals).length c51) vals, .blk g6 [.slice none 0 0, .slice none 0 0] 56, .blk g5 [.slice p1 has.length c1, .slice p2 vals.length c2] 56, .blk g4 [.int .i64 (f.id), .int .i64 (f.ty), .slice px f.args.length cx] 36, .blk g3 [.int .u8 (c.k), .int .i64 (c.ty), .slice pa c.args.length ca, t0, t1, t2, t3, t4, t5, t6] 33]) (fun _ _ => rfl) (fun p51 c51 => ?_)
         refine wl_nil ?_
         refine we_x [0, 1, 2, 3] [4] rfl rfl ?_
         refine wx_build hok 8 rfl rfl rfl (freshS_eq rfl) rfl rfl tZ_56 tP_56 rfl (out := [_,_]) rfl ?_
         refine wx_step1 hok 10 rfl rfl rfl rfl ?_
         refine wl_store 1 0 rfl rfl rfl rfl rfl rfl rfl tS_56 rfl rfl rfl (all' := [_,_]) rfl (H' := [_,_,_,_,_,_,_]) rfl ?_
         refine wl_nil ?_
         refine we_x [0, 1, 2, 3] [] rfl rfl ?_
         refine wx_done hok rfl ?_
         refine we_pick [1, 2, 0, 3, 4, 5, 6] rfl (H' := [_,_,_,_,_,_,_]) rfl ?_
         refine we_join (g44, p47, c47, g48, p51, c51, g8) trivial [8, 42, 7, 6, 5, 4, 3, 0, 1, 2] rfl (fun _ _ hφ => ask [0, 1, 2, 3] rfl hφ) rfl
       ·
        refine wl_alloc rfl rfl rfl (freshS_eq rfl) rfl tZ_56 rfl (fun g8 => ?_)
        refine wl_nil ?_
        refine we_x [0, 1, 2, 3] [2, 2] rfl rfl ?_
        refine wx_step2 hok 0 4 rfl rfl rfl rfl rfl rfl ?_ ?_
        ·
         refine wl_buildSlice rfl rfl rfl (freshS_eq rfl) rfl tE_37 tS_4 tZ_4 rfl (zs := []) (by kernel_rfl) rfl (out := []) rfl (fun g44 => ?_)
         refine wl_nil ?_
         refine we_x [0, 1, 2, 3] [3, 3] rfl rfl ?_
         refine wx_step2 hok 3 4 rfl rfl rfl rfl rfl rfl ?_ ?_
         ·
          refine wl_row (sz := 1) (m := 0) bRep [] 0 rfl (fun F w hφ => rfl) rfl (by decide) (H' := [_,_,_,_,_,_]) rfl ?_
          refine wl_append 0 2 rfl rfl rfl (freshS_eq rfl) rfl rfl rfl rfl rfl tE_37 tR_4 rfl rfl (by simp; omega) (by simp; omega) (H2 := fun p47 c47 => [.own 4 1 bRep (.slice p47 (has).length c47) has, .blk g8 [.slice none 0 0, .slice none 0 0] 56, .blk g6 [.slice none 0 0, .slice none 0 0] 56, .blk g5 [.slice p1 has.length c1, .slice p2 vals.length c2] 56, .blk g4 [.int .i64 (f.id), .int .i64 (f.ty), .slice px f.args.length cx] 36, .blk g3 [.int .u8 (c.k), .int .i64 (c.ty), .slice pa c.args.length ca, t0, t1, t2, t3, t4, t5, t6] 33]) (fun _ _ => rfl) (fun p47 c47 => ?_)
          refine wl_nil ?_
          refine we_x [0, 1, 2, 3] [3] rfl rfl ?_
          refine wx_step1 hok 4 rfl rfl rfl rfl ?_
          refine wl_buildSlice rfl rfl rfl (freshS_eq rfl) rfl tE_34 tS_27 tZ_27 rfl (zs := []) (by kernel_rfl) rfl (out := []) rfl (fun g48 => ?_)
          refine wl_nil ?_
          refine we_x [0, 1, 2, 3] [4, 4] rfl rfl ?_
          refine wx_step1 hok 7 rfl rfl rfl rfl ?_
          refine wl_row (sz := 3) (m := 0) vRep [] 0 rfl (fun F w hφ => rfl) rfl (by decide) (H' := [_,_,_,_,_,_,_]) rfl ?_
          refine wl_append 0 3 rfl rfl rfl (freshS_eq rfl) rfl rfl rfl rfl rfl tE_34 tR_27 rfl rfl (by simp; omega) (by simp; omega) (H2 := fun p51 c51 => [.own 27 3 vRep (.slice p51 (vals).length c51) vals, .own 4 1 bRep (.slice p47 (has).length c47) has, .blk g8 [.slice none 0 0, .slice none 0 0] 56, .blk g6 [.slice none 0 0, .slice none 0 0] 56, .blk g5 [.slice p1 has.length c1, .slice p2 vals.length c2] 56, .blk g4 [.int .i64 (f.id), .int .i64 (f.ty), .slice px f.args.length cx] 36, .blk g3 [.int .u8 (c.k), .int .i64 (c.ty), .slice pa c.args.length ca, t0, t1, t2, t3, t4, t5, t6] 33]) (fun _ _ => rfl) (fun p51 c51 => ?_)
          refine wl_nil ?_
          refine we_x [0, 1, 2, 3] [4] rfl rfl ?_
          refine wx_build hok 8 rfl rfl rfl (freshS_eq rfl) rfl rfl tZ_56 tP_56 rfl (out := [_,_]) rfl ?_
          refine wx_step1 hok 10 rfl rfl rfl rfl ?_
          refine wl_store 2 0 rfl rfl rfl rfl rfl rfl rfl tS_56 rfl rfl rfl (all' := [_,_]) rfl (H' := [_,_,_,_,_,_,_]) rfl ?_
          refine wl_nil ?_
          refine we_x [0, 1, 2, 3] [] rfl rfl ?_
          refine wx_done hok rfl ?_
          refine we_pick [2, 0, 1, 3, 4, 5, 6] rfl (H' := [_,_,_,_,_,_,_]) rfl ?_
          refine we_join (g44, p47, c47, g48, p51, c51, g8) trivial [8, 42, 7, 6, 5, 4, 3, 0, 1, 2] rfl (fun _ _ hφ => ask [0, 1, 2, 3] rfl hφ) rfl
         ·
          refine wl_buildSlice rfl rfl rfl (freshS_eq rfl) rfl tE_34 tS_27 tZ_27 rfl (zs := []) (by kernel_rfl) rfl (out := []) rfl (fun g48 => ?_)
          refine wl_nil ?_
          refine we_x [0, 1, 2, 3] [4, 4] rfl rfl ?_
          refine wx_step1 hok 3 rfl rfl rfl rfl ?_
          refine wl_row (sz := 1) (m := 0) bRep [] 1 rfl (fun F w hφ => rfl) rfl (by decide) (H' := [_,_,_,_,_,_,_]) rfl ?_
          refine wl_append 1 2 rfl rfl rfl (freshS_eq rfl) rfl rfl rfl rfl rfl tE_37 tR_4 rfl rfl (by simp; omega) (by simp; omega) (H2 := fun p47 c47 => [.blk g48 [] 27, .own 4 1 bRep (.slice p47 (has).length c47) has, .blk g8 [.slice none 0 0, .slice none 0 0] 56, .blk g6 [.slice none 0 0, .slice none 0 0] 56, .blk g5 [.slice p1 has.length c1, .slice p2 vals.length c2] 56, .blk g4 [.int .i64 (f.id), .int .i64 (f.ty), .slice px f.args.length cx] 36, .blk g3 [.int .u8 (c.k), .int .i64 (c.ty), .slice pa c.args.length ca, t0, t1, t2, t3, t4, t5, t6] 33]) (fun _ _ => rfl) (fun p47 c47 => ?_)
          refine wl_nil ?_
          refine we_x [0, 1, 2, 3] [4] rfl rfl ?_
          refine wx_step1 hok 7 rfl rfl rfl rfl ?_
          refine wl_row (sz := 3) (m := 0) vRep [] 0 rfl (fun F w hφ => rfl) rfl (by decide) (H' := [_,_,_,_,_,_,_]) rfl ?_
          refine wl_append 0 3 rfl rfl rfl (freshS_eq rfl) rfl rfl rfl rfl rfl tE_34 tR_27 rfl rfl (by simp; omega) (by simp; omega) (H2 := fun p51 c51 => [.own 27 3 vRep (.slice p51 (vals).length c51) vals, .own 4 1 bRep (.slice p47 (has).length c47) has, .blk g8 [.slice none 0 0, .slice none 0 0] 56, .blk g6 [.slice none 0 0, .slice none 0 0] 56, .blk g5 [.slice p1 has.length c1, .slice p2 vals.length c2] 56, .blk g4 [.int .i64 (f.id), .int .i64 (f.ty), .slice px f.args.length cx] 36, .blk g3 [.int .u8 (c.k), .int .i64 (c.ty), .slice pa c.args.length ca, t0, t1, t2, t3, t4, t5, t6] 33]) (fun _ _ => rfl) (fun p51 c51 => ?_)
          refine wl_nil ?_
          refine we_x [0, 1, 2, 3] [4] rfl rfl ?_
          refine wx_build hok 8 rfl rfl rfl (freshS_eq rfl) rfl rfl tZ_56 tP_56 rfl (out := [_,_]) rfl ?_
          refine wx_step1 hok 10 rfl rfl rfl rfl ?_
          refine wl_store 2 0 rfl rfl rfl rfl rfl rfl rfl tS_56 rfl rfl rfl (all' := [_,_]) rfl (H' := [_,_,_,_,_,_,_]) rfl ?_
          refine wl_nil ?_
          refine we_x [0, 1, 2, 3] [] rfl rfl ?_
          refine wx_done hok rfl ?_
          refine we_pick [2, 0, 1, 3, 4, 5, 6] rfl (H' := [_,_,_,_,_,_,_]) rfl ?_
          refine we_join (g44, p47, c47, g48, p51, c51, g8) trivial [8, 42, 7, 6, 5, 4, 3, 0, 1, 2] rfl (fun _ _ hφ => ask [0, 1, 2, 3] rfl hφ) rfl
        ·
         refine wl_buildSlice rfl rfl rfl (freshS_eq rfl) rfl tE_34 tS_27 tZ_27 rfl (zs := []) (by kernel_rfl) rfl (out := []) rfl (fun g48 => ?_)
         refine wl_nil ?_
         refine we_x [0, 1, 2, 3] [3, 3] rfl rfl ?_
         refine wx_step1 hok 0 rfl rfl rfl rfl ?_
         refine wl_buildSlice rfl rfl rfl (freshS_eq rfl) rfl tE_37 tS_4 tZ_4 rfl (zs := []) (by kernel_rfl) rfl (out := []) rfl (fun g44 => ?_)
         refine wl_nil ?_
         refine we_x [0, 1, 2, 3] [4, 4] rfl rfl ?_
         refine wx_step1 hok 3 rfl rfl rfl rfl ?_
         refine wl_row (sz := 1) (m := 0) bRep [] 0 rfl (fun F w hφ => rfl) rfl (by decide) (H' := [_,_,_,_,_,_,_]) rfl ?_
         refine wl_append 0 2 rfl rfl rfl (freshS_eq rfl) rfl rfl rfl rfl rfl tE_37 tR_4 rfl rfl (by simp; omega) (by simp; omega) (H2 := fun p47 c47 => [.own 4 1 bRep (.slice p47 (has).length c47) has, .blk g48 [] 27, .blk g8 [.slice none 0 0, .slice none 0 0] 56, .blk g6 [.slice none 0 0, .slice none 0 0] 56, .blk g5 [.slice p1 has.length c1, .slice p2 vals.length c2] 56, .blk g4 [.int .i64 (f.id), .int .i64 (f.ty), .slice px f.args.length cx] 36, .blk g3 [.int .u8 (c.k), .int .i64 (c.ty), .slice pa c.args.length ca, t0, t1, t2, t3, t4, t5, t6] 33]) (fun _ _ => rfl) (fun p47 c47 => ?_)
         refine wl_nil ?_
         refine we_x [0, 1, 2, 3] [4] rfl rfl ?_
         refine wx_step1 hok 7 rfl rfl rfl rfl ?_
         refine wl_row (sz := 3) (m := 0) vRep [] 1 rfl (fun F w hφ => rfl) rfl (by decide) (H' := [_,_,_,_,_,_,_]) rfl ?_
         refine wl_append 1 3 rfl rfl rfl (freshS_eq rfl) rfl rfl rfl rfl rfl tE_34 tR_27 rfl rfl (by simp; omega) (by simp; omega) (H2 := fun p51 c51 => [.own 4 1 bRep (.slice p47 (has).length c47) has, .own 27 3 vRep (.slice p51 (vals).length c51) vals, .blk g8 [.slice none 0 0, .slice none 0 0] 56, .blk g6 [.slice none 0 0, .slice none 0 0] 56, .blk g5 [.slice p1 has.length c1, .slice p2 vals.length c2] 56, .blk g4 [.int .i64 (f.id), .int .i64 (f.ty), .slice px f.args.length cx] 36, .blk g3 [.int .u8 (c.k), .int .i64 (c.ty), .slice pa c.args.length ca, t0, t1, t2, t3, t4, t5, t6] 33]) (fun _ _ => rfl) (fun p51 c51 => ?_)
         refine wl_nil ?_
         refine we_x [0, 1, 2, 3] [4] rfl rfl ?_
         refine wx_build hok 8 rfl rfl rfl (freshS_eq rfl) rfl rfl tZ_56 tP_56 rfl (out := [_,_]) rfl ?_
         refine wx_step1 hok 10 rfl rfl rfl rfl ?_
         refine wl_store 2 0 rfl rfl rfl rfl rfl rfl rfl tS_56 rfl rfl rfl (all' := [_,_]) rfl (H' := [_,_,_,_,_,_,_]) rfl ?_
         refine wl_nil ?_
         refine we_x [0, 1, 2, 3] [] rfl rfl ?_
         refine wx_done hok rfl ?_
         refine we_pick [2, 1, 0, 3, 4, 5, 6] rfl (H' := [_,_,_,_,_,_,_]) rfl ?_
         refine we_join (g44, p47, c47, g48, p51, c51, g8) trivial [8, 42, 7, 6, 5, 4, 3, 0, 1, 2] rfl (fun _ _ hφ => ask [0, 1, 2, 3] rfl hφ) rfl
      ·
       rintro ⟨g44, p47, c47, g48, p51, c51, g8⟩ _
       try dsimp only
       refine wc_seq ?_
       refine wc_seq ?_
       refine wc_region ?_
       refine wl_pure rfl rfl rfl (freshS_eq rfl) rfl ?_
       refine wl_nil ?_
       refine we_then ?_
       refine wc_block ?_
       refine wc_loop (σ := Nat × List Bool × List V) (fun s => s.1 ≤ c.args.length ∧ fitTo c.args f.args has vals s.1 = some (s.2.1, s.2.2)) (fun s => c.args.length - s.1) (fun s => [(9, .int .i64 ((s.1 : Nat) : Int)), (8, .pointer (some ⟨g8, 0, none⟩)), (42, .bool (((f.args.length : Nat) : Int) != ((c.args.length : Nat) : Int))), (7, .bool false), (6, .pointer (some ⟨g6, 0, none⟩)), (5, .pointer (some ⟨g5, 0, none⟩)), (4, .pointer (some ⟨g4, 0, none⟩)), (3, .pointer (some ⟨g3, 0, none⟩)), (0, .agg #[.int .u8 (c.k), .int .i64 (c.ty), .slice pa c.args.length ca, t0, t1, t2, t3, t4, t5, t6]), (1, .agg #[.int .i64 (f.id), .int .i64 (f.ty), .slice px f.args.length cx]), (2, .agg #[.slice p1 has.length c1, .slice p2 vals.length c2])]) (fun s => [.sli 5 aRep pa ca c.args, .sli 3 vRep px cx f.args, .sli 1 bRep p1 c1 has, .sli 3 vRep p2 c2 vals]) (fun s => [.blk g8 [.slice p47 (has).length c47, .slice p51 (vals).length c51] 56, .own 27 3 vRep (.slice p51 (vals).length c51) s.2.2, .own 4 1 bRep (.slice p47 (has).length c47) s.2.1, .blk g6 [.slice none 0 0, .slice none 0 0] 56, .blk g5 [.slice p1 has.length c1, .slice p2 vals.length c2] 56, .blk g4 [.int .i64 (f.id), .int .i64 (f.ty), .slice px f.args.length cx] 36, .blk g3 [.int .u8 (c.k), .int .i64 (c.ty), .slice pa c.args.length ca, t0, t1, t2, t3, t4, t5, t6] 33]) (0, has, vals) ⟨by simp, rfl⟩ [9, 8, 42, 7, 6, 5, 4, 3, 0, 1, 2] rfl (fun _ _ hφ => ask [0, 1, 2, 3] rfl hφ) rfl (fun s1 oks1 => ?_)
       have hlen := fitTo_len oks1.2
       have hq := hlen
       have hmade := (hb15.1 h17).1
       refine wc_ownLen 2 rfl (fun hm0 hp0 => ?_)
       refine wc_ownLen 1 rfl (fun hm1 hp1 => ?_)
       refine wc_seq ?_
       refine wc_seq ?_
       refine wc_region ?_
       refine wl_pure rfl rfl rfl (freshS_eq rfl) rfl ?_
       refine wl_fieldAddr rfl rfl rfl (freshS_eq rfl) rfl rfl tF_33_2 ?_
       refine wl_loadH 6 2 rfl rfl rfl (freshS_eq rfl) rfl rfl rfl (cs := [_]) rfl tS_23 tA_23 rfl rfl ?_
       refine wl_len rfl rfl rfl (freshS_eq rfl) rfl rfl tE_23 ?_
       refine wl_pure rfl rfl rfl (freshS_eq rfl) rfl ?_
       refine wl_nil ?_
       refine we_then ?_
       refine wc_keep [57, 9, 8, 42, 7, 6, 5, 4, 3, 0, 1, 2] (S' := [_,_,_,_,_,_,_,_,_,_,_,_]) rfl ?_
       refine wc_cond rfl (fun h57 => ?_) (fun h57 => ?_)
       ·
        replace h57 := of_decide_eq_true h57
        refine wc_skip ?_
        refine we_then ?_
        refine wc_seq ?_
        refine wc_block ?_
        refine wc_seq ?_
        refine wc_cut (σ := Nat × Nat × ArgD × Unit × Nat × Nat × V × Unit × Nat × Nat) (fun (b63, q63, x63, r63, b68, q68, x68, r68, g10, g11) => c.args[s1.1]? = some x63 ∧ x63.ok ∧ f.args[s1.1]? = some x68 ∧ x68.ok) (fun (b63, q63, x63, r63, b68, q68, x68, r68, g10, g11) => [(11, .pointer (some ⟨g11, 0, none⟩)), (10, .pointer (some ⟨g10, 0, none⟩)), (57, .bool (decide (((s1.1 : Nat) : Int) < ((c.args.length : Nat) : Int)))), (9, .int .i64 ((s1.1 : Nat) : Int)), (8, .pointer (some ⟨g8, 0, none⟩)), (42, .bool (((f.args.length : Nat) : Int) != ((c.args.length : Nat) : Int))), (7, .bool false), (6, .pointer (some ⟨g6, 0, none⟩)), (5, .pointer (some ⟨g5, 0, none⟩)), (4, .pointer (some ⟨g4, 0, none⟩)), (3, .pointer (some ⟨g3, 0, none⟩)), (0, .agg #[.int .u8 (c.k), .int .i64 (c.ty), .slice pa c.args.length ca, t0, t1, t2, t3, t4, t5, t6]), (1, .agg #[.int .i64 (f.id), .int .i64 (f.ty), .slice px f.args.length cx]), (2, .agg #[.slice p1 has.length c1, .slice p2 vals.length c2])]) (fun (b63, q63, x63, r63, b68, q68, x68, r68, g10, g11) => [.cells b68 q68 ([.int .u8 (x68.k), .int .i64 (x68.n), .string x68.s]), .rep vRep [.int .u8 (x68.k), .int .i64 (x68.n), .string x68.s] x68, .cells b63 q63 ([.int .u8 (x63.k), .int .i64 (x63.var), .int .u8 (x63.v.k), .int .i64 (x63.v.n), .string x63.v.s]), .rep aRep [.int .u8 (x63.k), .int .i64 (x63.var), .int .u8 (x63.v.k), .int .i64 (x63.v.n), .string x63.v.s] x63, .sli 5 aRep pa ca c.args, .sli 3 vRep px cx f.args, .sli 1 bRep p1 c1 has, .sli 3 vRep p2 c2 vals]) (fun (b63, q63, x63, r63, b68, q68, x68, r68, g10, g11) => [.blk g11 [.int .u8 (x68.k), .int .i64 (x68.n), .string x68.s] 27, .blk g10 [.int .u8 (x63.k), .int .i64 (x63.var), .int .u8 (x63.v.k), .int .i64 (x63.v.n), .string x63.v.s] 48, .blk g8 [.slice p47 (has).length c47, .slice p51 (vals).length c51] 56, .own 27 3 vRep (.slice p51 (vals).length c51) s1.2.2, .own 4 1 bRep (.slice p47 (has).length c47) s1.2.1, .blk g6 [.slice none 0 0, .slice none 0 0] 56, .blk g5 [.slice p1 has.length c1, .slice p2 vals.length c2] 56, .blk g4 [.int .i64 (f.id), .int .i64 (f.ty), .slice px f.args.length cx] 36, .blk g3 [.int .u8 (c.k), .int .i64 (c.ty), .slice pa c.args.length ca, t0, t1, t2, t3, t4, t5, t6] 33]) ?_ ?_
        ·
         refine wc_draw [0, 1, 2, 3, 4, 5, 6, 7, 8, 9] rfl rfl (fun hok => ?_)
         refine wx_fieldAddr hok 0 rfl rfl rfl (freshS_eq rfl) rfl rfl rfl tF_33_2 ?_
         refine wx_loadH hok 1 6 2 rfl rfl rfl (freshS_eq rfl) rfl rfl rfl rfl (cs := [_]) rfl tS_23 tA_23 rfl rfl ?_
         refine wx_pure hok 2 rfl rfl rfl (freshS_eq rfl) rfl rfl ?_
         refine wx_index hok 3 0 s1.1 rfl rfl rfl (freshS_eq rfl) rfl rfl rfl rfl rfl rfl (by omega) tE_23 tS_48 (fun b63 q63 cs63 x63 hx63 hlx63 => ?_)
         refine wx_openR aRep_opens 1 rfl (fun r63 er63 okx63 => ?_)
         subst er63
         refine wx_load hok 4 0 0 rfl rfl rfl (freshS_eq rfl) rfl rfl rfl rfl (cs := [_,_,_,_,_]) rfl tS_48 tA_48 rfl rfl ?_
         refine wx_fieldAddr hok 5 rfl rfl rfl (freshS_eq rfl) rfl rfl rfl tF_36_2 ?_
         refine wx_loadH hok 6 5 2 rfl rfl rfl (freshS_eq rfl) rfl rfl rfl rfl (cs := [_]) rfl tS_34 tA_34 rfl rfl ?_
         refine wx_pure hok 7 rfl rfl rfl (freshS_eq rfl) rfl rfl ?_
         refine wx_index hok 8 3 s1.1 rfl rfl rfl (freshS_eq rfl) rfl rfl rfl rfl rfl rfl (by omega) tE_34 tS_27 (fun b68 q68 cs68 x68 hx68 hlx68 => ?_)
         refine wx_openR vRep_opens 1 rfl (fun r68 er68 okx68 => ?_)
         subst er68
         refine wx_load hok 9 0 0 rfl rfl rfl (freshS_eq rfl) rfl rfl rfl rfl (cs := [_,_,_]) rfl tS_27 tA_27 rfl rfl ?_
         refine wx_step2 hok 10 11 rfl rfl rfl rfl rfl rfl ?_ ?_
         ·
          refine wl_alloc rfl rfl rfl (freshS_eq rfl) rfl tZ_48 rfl (fun g10 => ?_)
          refine wl_nil ?_
          refine we_x [0, 1, 2, 3, 4, 5, 6, 7] [6, 7] rfl rfl ?_
          refine wx_step1 hok 11 rfl rfl rfl rfl ?_
          refine wl_alloc rfl rfl rfl (freshS_eq rfl) rfl tZ_27 rfl (fun g11 => ?_)
          refine wl_nil ?_
          refine we_x [0, 1, 2, 3, 4, 5, 6, 7] [7, 8] rfl rfl ?_
          refine wx_step1 hok 12 rfl rfl rfl rfl ?_
          refine wl_store 1 0 rfl rfl rfl rfl rfl rfl rfl tS_48 rfl rfl rfl (all' := [_,_,_,_,_]) rfl (H' := [_,_,_,_,_,_,_,_,_]) rfl ?_
          refine wl_nil ?_
          refine we_x [0, 1, 2, 3, 4, 5, 6, 7] [7] rfl rfl ?_
          refine wx_step1 hok 13 rfl rfl rfl rfl ?_
          refine wl_store 0 0 rfl rfl rfl rfl rfl rfl rfl tS_27 rfl rfl rfl (all' := [_,_,_]) rfl (H' := [_,_,_,_,_,_,_,_,_]) rfl ?_
          refine wl_nil ?_
          refine we_x [0, 1, 2, 3, 4, 5, 6, 7] [] rfl rfl ?_
          refine wx_done hok rfl ?_
          refine we_join (b63, q63, x63, r63, b68, q68, x68, r68, g10, g11) ⟨hx63, okx63, hx68, okx68⟩ [11, 10, 57, 9, 8, 42, 7, 6, 5, 4, 3, 0, 1, 2] rfl (fun _ _ hφ => ask [0, 1, 2, 3, 4, 5, 6, 7] rfl hφ) rfl
         ·
          refine wl_alloc rfl rfl rfl (freshS_eq rfl) rfl tZ_27 rfl (fun g11 => ?_)
          refine wl_nil ?_
          refine we_x [0, 1, 2, 3, 4, 5, 6, 7] [6, 7] rfl rfl ?_
          refine wx_step1 hok 10 rfl rfl rfl rfl ?_
          refine wl_alloc rfl rfl rfl (freshS_eq rfl) rfl tZ_48 rfl (fun g10 => ?_)
          refine wl_nil ?_
          refine we_x [0, 1, 2, 3, 4, 5, 6, 7] [7, 8] rfl rfl ?_
          refine wx_step1 hok 12 rfl rfl rfl rfl ?_
          refine wl_store 0 0 rfl rfl rfl rfl rfl rfl rfl tS_48 rfl rfl rfl (all' := [_,_,_,_,_]) rfl (H' := [_,_,_,_,_,_,_,_,_]) rfl ?_
          refine wl_nil ?_
          refine we_x [0, 1, 2, 3, 4, 5, 6, 7] [7] rfl rfl ?_
          refine wx_step1 hok 13 rfl rfl rfl rfl ?_
          refine wl_store 1 0 rfl rfl rfl rfl rfl rfl rfl tS_27 rfl rfl rfl (all' := [_,_,_]) rfl (H' := [_,_,_,_,_,_,_,_,_]) rfl ?_
          refine wl_nil ?_
          refine we_x [0, 1, 2, 3, 4, 5, 6, 7] [] rfl rfl ?_
          refine wx_done hok rfl ?_
          refine we_pick [1, 0, 2, 3, 4, 5, 6, 7, 8] rfl (H' := [_,_,_,_,_,_,_,_,_]) rfl ?_
          refine we_join (b63, q63, x63, r63, b68, q68, x68, r68, g10, g11) ⟨hx63, okx63, hx68, okx68⟩ [11, 10, 57, 9, 8, 42, 7, 6, 5, 4, 3, 0, 1, 2] rfl (fun _ _ hφ => ask [0, 1, 2, 3, 4, 5, 6, 7] rfl hφ) rfl
        ·
         rintro ⟨b63, q63, x63, r63, b68, q68, x68, r68, g10, g11⟩ ⟨hx63, okx63, hx68, okx68⟩
         try dsimp only
         refine wc_seq ?_
         refine wc_region ?_
         refine wl_fieldAddr rfl rfl rfl (freshS_eq rfl) rfl rfl tF_48_1 ?_
         refine wl_loadH 1 1 rfl rfl rfl (freshS_eq rfl) rfl rfl rfl (cs := [_]) rfl tS_3 tA_3 rfl rfl ?_
         refine wl_pure rfl rfl rfl (freshS_eq rfl) rfl ?_
         refine wl_pure rfl rfl rfl (freshS_eq rfl) rfl ?_
         refine wl_split (d := 73) (S' := [_,_,_,_,_,_,_,_,_,_,_,_,_,_,_,_,_]) rfl rfl (fun h73 => ?_) (fun h73 => ?_)
         ·
          replace h73 := of_decide_eq_true h73
          refine wl_fieldAddr rfl rfl rfl (freshS_eq rfl) rfl rfl tF_48_1 ?_
          refine wl_loadH 1 1 rfl rfl rfl (freshS_eq rfl) rfl rfl rfl (cs := [_]) rfl tS_3 tA_3 rfl rfl ?_
          refine wl_fieldAddr rfl rfl rfl (freshS_eq rfl) rfl rfl tF_56_0 ?_
          refine wl_loadH 2 0 rfl rfl rfl (freshS_eq rfl) rfl rfl rfl (cs := [_]) rfl tS_37 tA_37 rfl rfl ?_
          refine wl_len rfl rfl rfl (freshS_eq rfl) rfl rfl tE_37 ?_
          refine wl_pure rfl rfl rfl (freshS_eq rfl) rfl ?_
          refine wl_pure rfl rfl rfl (freshS_eq rfl) rfl ?_
          refine wl_pure rfl rfl rfl (freshS_eq rfl) rfl ?_
          refine wl_nil ?_
          refine we_then ?_
          refine wc_keep [12, 11, 10, 57, 9, 8, 42, 7, 6, 5, 4, 3, 0, 1, 2] (S' := [_,_,_,_,_,_,_,_,_,_,_,_,_,_,_]) rfl ?_
          refine wc_seq ?_
          refine wc_region ?_
          refine wl_pure rfl rfl rfl (freshS_eq rfl) rfl ?_
          refine wl_nil ?_
          refine we_then ?_
          refine wc_seq ?_
          refine wc_seq ?_
          refine wc_region ?_
          refine wl_fieldAddr rfl rfl rfl (freshS_eq rfl) rfl rfl tF_48_0 ?_
          refine wl_loadH 1 0 rfl rfl rfl (freshS_eq rfl) rfl rfl rfl (cs := [_]) rfl tS_46 tA_46 rfl rfl ?_
          refine wl_nil ?_
          refine we_then ?_
          refine wc_keep [82, 13, 12, 11, 10, 57, 9, 8, 42, 7, 6, 5, 4, 3, 0, 1, 2] (S' := [_,_,_,_,_,_,_,_,_,_,_,_,_,_,_,_,_]) rfl ?_
          refine wc_block ?_
          refine wc_seq ?_
          refine wc_region ?_
          refine wl_pure rfl rfl rfl (freshS_eq rfl) rfl ?_
          refine wl_pure rfl rfl rfl (freshS_eq rfl) rfl ?_
          refine wl_nil ?_
          refine we_then ?_
          refine wc_keep [83, 82, 13, 12, 11, 10, 57, 9, 8, 42, 7, 6, 5, 4, 3, 0, 1, 2] (S' := [_,_,_,_,_,_,_,_,_,_,_,_,_,_,_,_,_,_]) rfl ?_
          refine wc_cond rfl (fun h83 => ?_) (fun h83 => ?_)
          ·
           replace h83 := eq_of_beq h83
           refine wc_region ?_
           refine wl_pure (S' := [_,_,_,_,_,_,_,_,_,_,_,_,_,_,_,_,_]) rfl rfl rfl rfl rfl ?_
           refine wl_nil ?_
           refine we_block_normal ?_
           refine we_then ?_
           refine wc_seq ?_
           refine wc_region ?_
           refine wl_pure rfl rfl rfl (freshS_eq rfl) rfl ?_
           refine wl_pure rfl rfl rfl (freshS_eq rfl) rfl ?_
           refine wl_nil ?_
           refine we_then ?_
           refine wc_keep [128, 13, 83, 82, 12, 11, 10, 57, 9, 8, 42, 7, 6, 5, 4, 3, 0, 1, 2] (S' := [_,_,_,_,_,_,_,_,_,_,_,_,_,_,_,_,_,_,_]) rfl ?_
           refine wc_false rfl ?_
           refine wc_skip ?_
           refine we_block_normal ?_
           refine we_then ?_
           refine wc_region ?_
           refine wl_pure rfl rfl rfl (freshS_eq rfl) rfl ?_
           refine wl_pure rfl rfl rfl (freshS_eq rfl) rfl ?_
           refine wl_as (d := 59) (v' := .int .i64 ((s1.1 + 1 : Nat) : Int)) (S' := [_,_,_,_,_,_,_,_,_,_,_,_,_,_,_,_,_,_,_,_]) rfl rfl (nat_inc (by omega)) ?_
           refine wl_pure (S' := [_,_,_,_,_,_,_,_,_,_,_,_,_,_,_,_,_,_,_,_]) rfl rfl rfl rfl rfl ?_
           refine wl_nil ?_
           refine we_pick [2, 3, 4, 5, 6, 7, 8] rfl (H' := [_,_,_,_,_,_,_]) rfl ?_
           refine we_round (s1.1 + 1, s1.2.1, s1.2.2) (by dsimp only; omega) ⟨by dsimp only; omega, FitR.step oks1.2 hx63 hx68 (FitR.any h83)⟩ [9, 8, 42, 7, 6, 5, 4, 3, 0, 1, 2] rfl (fun _ _ hφ => ask [4, 5, 6, 7] rfl hφ) rfl
          ·
           replace h83 := ne_of_beq_false h83
           refine wc_seq ?_
           refine wc_region ?_
           refine wl_pure rfl rfl rfl (freshS_eq rfl) rfl ?_
           refine wl_pure rfl rfl rfl (freshS_eq rfl) rfl ?_
           refine wl_nil ?_
           refine we_then ?_
           refine wc_keep [85, 83, 82, 13, 12, 11, 10, 57, 9, 8, 42, 7, 6, 5, 4, 3, 0, 1, 2] (S' := [_,_,_,_,_,_,_,_,_,_,_,_,_,_,_,_,_,_,_]) rfl ?_
           refine wc_cond rfl (fun h85 => ?_) (fun h85 => ?_)
           ·
            replace h85 := eq_of_beq h85
            refine wc_seq ?_
            refine wc_region ?_
            refine wl_pure rfl rfl rfl (freshS_eq rfl) rfl ?_
            refine wl_pure (S' := [_,_,_,_,_,_,_,_,_,_,_,_,_,_,_,_,_,_,_]) rfl rfl rfl rfl rfl ?_
            refine wl_nil ?_
            refine we_then ?_
            refine wc_keep [13, 85, 83, 82, 12, 11, 10, 57, 9, 8, 42, 7, 6, 5, 4, 3, 0, 1, 2] (S' := [_,_,_,_,_,_,_,_,_,_,_,_,_,_,_,_,_,_,_]) rfl ?_
            refine wc_seq ?_
            refine wc_region ?_
            refine wl_pure rfl rfl rfl (freshS_eq rfl) rfl ?_
            refine wl_nil ?_
            refine we_then ?_
            refine wc_cond rfl (fun h88 => ?_) (fun h88 => ?_)
            ·
             replace h88 := of_decide_eq_true h88
             refine wc_seq ?_
             refine wc_region ?_
             refine wl_fieldAddr rfl rfl rfl (freshS_eq rfl) rfl rfl tF_56_0 ?_
             refine wl_loadH 2 0 rfl rfl rfl (freshS_eq rfl) rfl rfl rfl (cs := [_]) rfl tS_37 tA_37 rfl rfl ?_
             refine wl_fieldAddr rfl rfl rfl (freshS_eq rfl) rfl rfl tF_48_1 ?_
             refine wl_loadH 1 1 rfl rfl rfl (freshS_eq rfl) rfl rfl rfl (cs := [_]) rfl tS_3 tA_3 rfl rfl ?_
             refine wl_indexH 4 x63.var.toNat rfl rfl rfl (freshS_eq rfl) rfl rfl rfl rfl (by omega) (by omega) tE_37 tS_4 (fun g93 eg93 => ?_)
             subst eg93
             obtain ⟨y93, hy93⟩ : ∃ y, s1.2.1[x63.var.toNat]? = some y := ⟨_, List.getElem?_eq_getElem (by omega)⟩
             refine wl_storeRow (u := true) 4 x63.var.toNat rfl rfl rfl rfl rfl (by omega) rfl rfl tS_4 rfl (fun F w hφ => rfl) (H' := [.blk g11 [.int .u8 (x68.k), .int .i64 (x68.n), .string x68.s] 27, .blk g10 [.int .u8 (x63.k), .int .i64 (x63.var), .int .u8 (x63.v.k), .int .i64 (x63.v.n), .string x63.v.s] 48, .blk g8 [.slice (some ⟨g93, 0, none⟩) (has).length c47, .slice p51 (vals).length c51] 56, .own 27 3 vRep (.slice p51 (vals).length c51) s1.2.2, .own 4 1 bRep (.slice (some ⟨g93, 0, none⟩) (has).length c47) (s1.2.1.set x63.var.toNat true), .blk g6 [.slice none 0 0, .slice none 0 0] 56, .blk g5 [.slice p1 has.length c1, .slice p2 vals.length c2] 56, .blk g4 [.int .i64 (f.id), .int .i64 (f.ty), .slice px f.args.length cx] 36, .blk g3 [.int .u8 (c.k), .int .i64 (c.ty), .slice pa c.args.length ca, t0, t1, t2, t3, t4, t5, t6] 33]) rfl ?_
             refine wl_nil ?_
             refine we_then ?_
             refine wc_keep [88, 13, 85, 83, 82, 12, 11, 10, 57, 9, 8, 42, 7, 6, 5, 4, 3, 0, 1, 2] (S' := [_,_,_,_,_,_,_,_,_,_,_,_,_,_,_,_,_,_,_,_]) rfl ?_
             refine wc_region ?_
             refine wl_fieldAddr rfl rfl rfl (freshS_eq rfl) rfl rfl tF_56_1 ?_
             refine wl_loadH 2 1 rfl rfl rfl (freshS_eq rfl) rfl rfl rfl (cs := [_]) rfl tS_34 tA_34 rfl rfl ?_
             refine wl_fieldAddr rfl rfl rfl (freshS_eq rfl) rfl rfl tF_48_1 ?_
             refine wl_loadH 1 1 rfl rfl rfl (freshS_eq rfl) rfl rfl rfl (cs := [_]) rfl tS_3 tA_3 rfl rfl ?_
             refine wl_loadH 0 0 rfl rfl rfl (freshS_eq rfl) rfl rfl rfl (cs := [_,_,_]) rfl tS_27 tA_27 rfl rfl ?_
             refine wl_indexH 3 x63.var.toNat rfl rfl rfl (freshS_eq rfl) rfl rfl rfl rfl (by omega) (by omega) tE_34 tS_27 (fun g99 eg99 => ?_)
             subst eg99
             obtain ⟨y99, hy99⟩ : ∃ y, s1.2.2[x63.var.toNat]? = some y := ⟨_, List.getElem?_eq_getElem (by omega)⟩
             refine wl_storeRow (u := x68) 3 x63.var.toNat rfl rfl rfl rfl rfl (by omega) rfl rfl tS_27 rfl (fun F w hφ => ⟨rfl, by first | assumption | (simp [V.ok, ArgD.ok, FactD.ok, inB, inI]) | (unfold V.ok inB inI; simp; omega)⟩) (H' := [.blk g11 [.int .u8 (x68.k), .int .i64 (x68.n), .string x68.s] 27, .blk g10 [.int .u8 (x63.k), .int .i64 (x63.var), .int .u8 (x63.v.k), .int .i64 (x63.v.n), .string x63.v.s] 48, .blk g8 [.slice (some ⟨g93, 0, none⟩) (has).length c47, .slice (some ⟨g99, 0, none⟩) (vals).length c51] 56, .own 27 3 vRep (.slice (some ⟨g99, 0, none⟩) (vals).length c51) (s1.2.2.set x63.var.toNat x68), .own 4 1 bRep (.slice (some ⟨g93, 0, none⟩) (has).length c47) (s1.2.1.set x63.var.toNat true), .blk g6 [.slice none 0 0, .slice none 0 0] 56, .blk g5 [.slice p1 has.length c1, .slice p2 vals.length c2] 56, .blk g4 [.int .i64 (f.id), .int .i64 (f.ty), .slice px f.args.length cx] 36, .blk g3 [.int .u8 (c.k), .int .i64 (c.ty), .slice pa c.args.length ca, t0, t1, t2, t3, t4, t5, t6] 33]) rfl ?_
             refine wl_nil ?_
             refine we_block_normal ?_
             refine we_then ?_
             refine wc_seq ?_
             refine wc_region ?_
             refine wl_pure rfl rfl rfl (freshS_eq rfl) rfl ?_
             refine wl_pure rfl rfl rfl (freshS_eq rfl) rfl ?_
             refine wl_nil ?_
             refine we_then ?_
             refine wc_keep [128, 88, 13, 85, 83, 82, 12, 11, 10, 57, 9, 8, 42, 7, 6, 5, 4, 3, 0, 1, 2] (S' := [_,_,_,_,_,_,_,_,_,_,_,_,_,_,_,_,_,_,_,_,_]) rfl ?_
             refine wc_cond rfl (fun h128 => ?_) (fun h128 => ?_)
             ·
              replace h128 := nd_true h128
              refine wc_rowNil 4 1 bRep ?_
              refine wc_rowNil 27 3 vRep ?_
              refine wc_seq ?_
              refine wc_region ?_
              refine wl_build rfl rfl rfl (freshS_eq rfl) rfl tZ_56 tP_56 rfl (out := [_,_]) rfl ?_
              refine wl_store 7 0 rfl rfl rfl rfl rfl rfl rfl tS_56 rfl rfl rfl (all' := [_,_]) rfl (H' := [_,_,_,_,_,_,_,_,_,_,_]) rfl ?_
              refine wl_pure (S' := [_,_,_,_,_,_,_,_,_,_,_,_,_,_,_,_,_,_,_,_,_]) rfl rfl rfl rfl rfl ?_
              refine wl_nil ?_
              refine we_then ?_
              refine wc_keep [7, 128, 88, 13, 85, 83, 82, 12, 11, 10, 57, 9, 8, 42, 6, 5, 4, 3, 0, 1, 2] (S' := [_,_,_,_,_,_,_,_,_,_,_,_,_,_,_,_,_,_,_,_,_]) rfl ?_
              refine wc_ret ?_
              refine we_block_ret ?_
              refine we_then_ret ?_
              refine we_then_ret ?_
              refine we_block_ret ?_
              refine we_then_ret ?_
              refine ret_two (Hr := [.own 27 3 vRep (.slice none 0 0) [], .own 4 1 bRep (.slice none 0 0) []]) [0, 1] Try.results22 (res_cell 7 rfl rfl tS_56 tA_56 rfl rfl) (res_tmp rfl) ?_ (fun _ _ hφ => ask [] rfl hφ) rfl rfl (.inl rfl)
              exact ⟨_, _, _, _, _, _, rfl, MatchR.stop oks1.2 hx63 hx68 (h' := s1.2.1) (v' := s1.2.2) (absurd h88 h128), rfl, rfl⟩
             ·
              replace h128 := nd_false h128
              refine wc_skip ?_
              refine we_block_normal ?_
              refine we_then ?_
              refine wc_region ?_
              refine wl_pure rfl rfl rfl (freshS_eq rfl) rfl ?_
              refine wl_pure rfl rfl rfl (freshS_eq rfl) rfl ?_
              refine wl_as (d := 59) (v' := .int .i64 ((s1.1 + 1 : Nat) : Int)) (S' := [_,_,_,_,_,_,_,_,_,_,_,_,_,_,_,_,_,_,_,_,_,_]) rfl rfl (nat_inc (by omega)) ?_
              refine wl_pure (S' := [_,_,_,_,_,_,_,_,_,_,_,_,_,_,_,_,_,_,_,_,_,_]) rfl rfl rfl rfl rfl ?_
              refine wl_nil ?_
              refine we_pick [2, 3, 4, 5, 6, 7, 8] rfl (H' := [_,_,_,_,_,_,_]) rfl ?_
              refine we_round (s1.1 + 1, s1.2.1.set x63.var.toNat true, s1.2.2.set x63.var.toNat x68) (by dsimp only; omega) ⟨by dsimp only; omega, FitR.step oks1.2 hx63 hx68 (FitR.bind (h := s1.2.1) (vs := s1.2.2) h85 (by omega))⟩ [9, 8, 42, 7, 6, 5, 4, 3, 0, 1, 2] rfl (fun _ _ hφ => ask [4, 5, 6, 7] rfl hφ) rfl
            ·
             replace h88 := of_decide_eq_false h88
             refine wc_skip ?_
             refine we_block_normal ?_
             refine we_then ?_
             refine wc_seq ?_
             refine wc_region ?_
             refine wl_pure rfl rfl rfl (freshS_eq rfl) rfl ?_
             refine wl_pure rfl rfl rfl (freshS_eq rfl) rfl ?_
             refine wl_nil ?_
             refine we_then ?_
             refine wc_keep [128, 88, 13, 85, 83, 82, 12, 11, 10, 57, 9, 8, 42, 7, 6, 5, 4, 3, 0, 1, 2] (S' := [_,_,_,_,_,_,_,_,_,_,_,_,_,_,_,_,_,_,_,_,_]) rfl ?_
             refine wc_cond rfl (fun h128 => ?_) (fun h128 => ?_)
             ·
              replace h128 := nd_true h128
              refine wc_rowNil 4 1 bRep ?_
              refine wc_rowNil 27 3 vRep ?_
              refine wc_seq ?_
              refine wc_region ?_
              refine wl_build rfl rfl rfl (freshS_eq rfl) rfl tZ_56 tP_56 rfl (out := [_,_]) rfl ?_
              refine wl_store 7 0 rfl rfl rfl rfl rfl rfl rfl tS_56 rfl rfl rfl (all' := [_,_]) rfl (H' := [_,_,_,_,_,_,_,_,_,_,_]) rfl ?_
              refine wl_pure (S' := [_,_,_,_,_,_,_,_,_,_,_,_,_,_,_,_,_,_,_,_,_]) rfl rfl rfl rfl rfl ?_
              refine wl_nil ?_
              refine we_then ?_
              refine wc_keep [7, 128, 88, 13, 85, 83, 82, 12, 11, 10, 57, 9, 8, 42, 6, 5, 4, 3, 0, 1, 2] (S' := [_,_,_,_,_,_,_,_,_,_,_,_,_,_,_,_,_,_,_,_,_]) rfl ?_
              refine wc_ret ?_
              refine we_block_ret ?_
              refine we_then_ret ?_
              refine we_then_ret ?_
              refine we_block_ret ?_
              refine we_then_ret ?_
              refine ret_two (Hr := [.own 27 3 vRep (.slice none 0 0) [], .own 4 1 bRep (.slice none 0 0) []]) [0, 1] Try.results22 (res_cell 7 rfl rfl tS_56 tA_56 rfl rfl) (res_tmp rfl) ?_ (fun _ _ hφ => ask [] rfl hφ) rfl rfl (.inl rfl)
              exact ⟨_, _, _, _, _, _, rfl, MatchR.stop oks1.2 hx63 hx68 (h' := s1.2.1) (v' := s1.2.2) (FitR.out2 (h := s1.2.1) (vs := s1.2.2) h85 (by omega)), rfl, rfl⟩
             ·
              replace h128 := nd_false h128
              refine wc_skip ?_
              refine we_block_normal ?_
              refine we_then ?_
              refine wc_region ?_
              refine wl_pure rfl rfl rfl (freshS_eq rfl) rfl ?_
              refine wl_pure rfl rfl rfl (freshS_eq rfl) rfl ?_
              refine wl_as (d := 59) (v' := .int .i64 ((s1.1 + 1 : Nat) : Int)) (S' := [_,_,_,_,_,_,_,_,_,_,_,_,_,_,_,_,_,_,_,_,_,_]) rfl rfl (nat_inc (by omega)) ?_
              refine wl_pure (S' := [_,_,_,_,_,_,_,_,_,_,_,_,_,_,_,_,_,_,_,_,_,_]) rfl rfl rfl rfl rfl ?_
              refine wl_nil ?_
              refine we_pick [2, 3, 4, 5, 6, 7, 8] rfl (H' := [_,_,_,_,_,_,_]) rfl ?_
              refine we_round (s1.1 + 1, s1.2.1, s1.2.2) (by dsimp only; omega) ⟨by dsimp only; omega, FitR.step oks1.2 hx63 hx68 (absurd h128 h88)⟩ [9, 8, 42, 7, 6, 5, 4, 3, 0, 1, 2] rfl (fun _ _ hφ => ask [4, 5, 6, 7] rfl hφ) rfl
           ·
            replace h85 := ne_of_beq_false h85
            refine wc_seq ?_
            refine wc_region ?_
            refine wl_pure rfl rfl rfl (freshS_eq rfl) rfl ?_
            refine wl_pure rfl rfl rfl (freshS_eq rfl) rfl ?_
            refine wl_nil ?_
            refine we_then ?_
            refine wc_keep [100, 85, 83, 82, 13, 12, 11, 10, 57, 9, 8, 42, 7, 6, 5, 4, 3, 0, 1, 2] (S' := [_,_,_,_,_,_,_,_,_,_,_,_,_,_,_,_,_,_,_,_]) rfl ?_
            refine wc_cond rfl (fun h100 => ?_) (fun h100 => ?_)
            ·
             replace h100 := eq_of_beq h100
             refine wc_draw [0, 1, 2, 3, 4, 5, 6, 7, 8, 9, 10, 11, 12, 13, 14, 15, 16, 17, 18] rfl rfl (fun hok => ?_)
             refine wx_pure hok 0 rfl rfl rfl (freshS_eq rfl) rfl rfl ?_
             refine wx_pure hok 1 rfl rfl rfl (freshS_eq rfl) rfl rfl ?_
             refine wx_split (d := 103) (S' := [_,_,_,_,_,_,_,_,_,_,_,_,_,_,_,_,_,_,_,_,_]) rfl rfl (fun h103 => ?_) (fun h103 => ?_)
             ·
              replace h103 := of_decide_eq_true h103
              refine wx_fieldAddr hok 2 rfl rfl rfl (freshS_eq rfl) rfl rfl rfl tF_56_0 ?_
              refine wx_loadH hok 3 2 0 rfl rfl rfl (freshS_eq rfl) rfl rfl rfl rfl (cs := [_]) rfl tS_37 tA_37 rfl rfl ?_
              refine wx_fieldAddr hok 4 rfl rfl rfl (freshS_eq rfl) rfl rfl rfl tF_48_1 ?_
              refine wx_loadH hok 5 1 1 rfl rfl rfl (freshS_eq rfl) rfl rfl rfl rfl (cs := [_]) rfl tS_3 tA_3 rfl rfl ?_
              refine wx_indexH hok 6 4 x63.var.toNat rfl rfl rfl (freshS_eq rfl) rfl rfl rfl rfl rfl (by omega) (by omega) tE_37 tS_4 (fun g108 eg108 => ?_)
              subst eg108
              obtain ⟨y108, hy108⟩ : ∃ y, s1.2.1[x63.var.toNat]? = some y := ⟨_, List.getElem?_eq_getElem (by omega)⟩
              refine wx_loadRow hok 7 bRep_opens 4 x63.var.toNat 0 rfl rfl rfl (freshS_eq rfl) rfl rfl rfl rfl hy108 tS_4 tA_4 (v := .bool y108) rfl rfl (fun oky108 => ?_)
              refine wx_pure hok 8 rfl rfl rfl (freshS_eq rfl) rfl rfl ?_
              refine wx_pure hok 9 rfl rfl rfl (freshS_eq rfl) rfl rfl ?_
              refine wx_split (d := 111) (S' := [_,_,_,_,_,_,_,_,_,_,_,_,_,_,_,_,_,_,_,_,_,_,_,_,_,_,_,_,_]) rfl rfl (fun h111 => ?_) (fun h111 => ?_)
              ·
               refine wx_fieldAddr hok 10 rfl rfl rfl (freshS_eq rfl) rfl rfl rfl tF_56_1 ?_
               refine wx_loadH hok 11 2 1 rfl rfl rfl (freshS_eq rfl) rfl rfl rfl rfl (cs := [_]) rfl tS_34 tA_34 rfl rfl ?_
               refine wx_fieldAddr hok 12 rfl rfl rfl (freshS_eq rfl) rfl rfl rfl tF_48_1 ?_
               refine wx_loadH hok 13 1 1 rfl rfl rfl (freshS_eq rfl) rfl rfl rfl rfl (cs := [_]) rfl tS_3 tA_3 rfl rfl ?_
               refine wx_indexH hok 14 3 x63.var.toNat rfl rfl rfl (freshS_eq rfl) rfl rfl rfl rfl rfl (by omega) (by omega) tE_34 tS_27 (fun g116 eg116 => ?_)
               subst eg116
               obtain ⟨y116, hy116⟩ : ∃ y, s1.2.2[x63.var.toNat]? = some y := ⟨_, List.getElem?_eq_getElem (by omega)⟩
               refine wx_loadRow hok 15 vRep_opens 3 x63.var.toNat 0 rfl rfl rfl (freshS_eq rfl) rfl rfl rfl rfl hy116 tS_27 tA_27 (v := .agg #[.int .u8 (y116.k), .int .i64 (y116.n), .string y116.s]) rfl rfl (fun oky116 => ?_)
               refine wx_loadH hok 16 0 0 rfl rfl rfl (freshS_eq rfl) rfl rfl rfl rfl (cs := [_,_,_]) rfl tS_27 tA_27 rfl rfl ?_
               refine wx_bin hok 17 rfl rfl rfl (freshS_eq rfl) rfl rfl rfl rfl (eqlV _ _ y116 x68) ?_
               refine wx_pure hok 18 rfl rfl rfl (freshS_eq rfl) rfl rfl ?_
               refine wx_step1 hok 19 rfl rfl rfl rfl ?_
               refine wl_pure (S' := [_,_,_,_,_,_,_,_,_,_,_,_,_,_,_,_,_,_,_,_,_,_,_,_,_,_,_,_,_,_,_,_,_,_,_,_,_,_]) rfl rfl rfl rfl rfl ?_
               refine wl_nil ?_
               refine we_x [0, 1, 2, 3, 4, 5, 6, 7] [] rfl rfl ?_
               refine wx_done hok rfl ?_
               refine we_block_normal ?_
               refine we_then ?_
               refine wc_seq ?_
               refine wc_region ?_
               refine wl_pure rfl rfl rfl (freshS_eq rfl) rfl ?_
               refine wl_pure rfl rfl rfl (freshS_eq rfl) rfl ?_
               refine wl_nil ?_
               refine we_then ?_
               refine wc_keep [128, 13, 100, 85, 83, 82, 12, 11, 10, 57, 9, 8, 42, 7, 6, 5, 4, 3, 0, 1, 2] (S' := [_,_,_,_,_,_,_,_,_,_,_,_,_,_,_,_,_,_,_,_,_]) rfl ?_
               refine wc_cond rfl (fun h128 => ?_) (fun h128 => ?_)
               ·
                replace h128 := nd_true h128
                refine wc_rowNil 4 1 bRep ?_
                refine wc_rowNil 27 3 vRep ?_
                refine wc_seq ?_
                refine wc_region ?_
                refine wl_build rfl rfl rfl (freshS_eq rfl) rfl tZ_56 tP_56 rfl (out := [_,_]) rfl ?_
                refine wl_store 7 0 rfl rfl rfl rfl rfl rfl rfl tS_56 rfl rfl rfl (all' := [_,_]) rfl (H' := [_,_,_,_,_,_,_,_,_,_,_]) rfl ?_
                refine wl_pure (S' := [_,_,_,_,_,_,_,_,_,_,_,_,_,_,_,_,_,_,_,_,_]) rfl rfl rfl rfl rfl ?_
                refine wl_nil ?_
                refine we_then ?_
                refine wc_keep [7, 128, 13, 100, 85, 83, 82, 12, 11, 10, 57, 9, 8, 42, 6, 5, 4, 3, 0, 1, 2] (S' := [_,_,_,_,_,_,_,_,_,_,_,_,_,_,_,_,_,_,_,_,_]) rfl ?_
                refine wc_ret ?_
                refine we_block_ret ?_
                refine we_then_ret ?_
                refine we_then_ret ?_
                refine we_block_ret ?_
                refine we_then_ret ?_
                refine ret_two (Hr := [.own 27 3 vRep (.slice none 0 0) [], .own 4 1 bRep (.slice none 0 0) []]) [0, 1] Try.results22 (res_cell 7 rfl rfl tS_56 tA_56 rfl rfl) (res_tmp rfl) ?_ (fun _ _ hφ => ask [] rfl hφ) rfl rfl (.inl rfl)
                exact ⟨_, _, _, _, _, _, rfl, MatchR.stop oks1.2 hx63 hx68 (h' := s1.2.1) (v' := s1.2.2) ((FitR.known (FitR.var3 (h := s1.2.1) (vs := s1.2.2) h100 (by omega) (by rw [hy108, h111]) hy116) (decide_eq_false h128))), rfl, rfl⟩
               ·
                replace h128 := nd_false h128
                refine wc_skip ?_
                refine we_block_normal ?_
                refine we_then ?_
                refine wc_region ?_
                refine wl_pure rfl rfl rfl (freshS_eq rfl) rfl ?_
                refine wl_pure rfl rfl rfl (freshS_eq rfl) rfl ?_
                refine wl_as (d := 59) (v' := .int .i64 ((s1.1 + 1 : Nat) : Int)) (S' := [_,_,_,_,_,_,_,_,_,_,_,_,_,_,_,_,_,_,_,_,_,_]) rfl rfl (nat_inc (by omega)) ?_
                refine wl_pure (S' := [_,_,_,_,_,_,_,_,_,_,_,_,_,_,_,_,_,_,_,_,_,_]) rfl rfl rfl rfl rfl ?_
                refine wl_nil ?_
                refine we_pick [2, 3, 4, 5, 6, 7, 8] rfl (H' := [_,_,_,_,_,_,_]) rfl ?_
                refine we_round (s1.1 + 1, s1.2.1, s1.2.2) (by dsimp only; omega) ⟨by dsimp only; omega, FitR.step oks1.2 hx63 hx68 ((FitR.known (FitR.var3 (h := s1.2.1) (vs := s1.2.2) h100 (by omega) (by rw [hy108, h111]) hy116) (decide_eq_true h128)))⟩ [9, 8, 42, 7, 6, 5, 4, 3, 0, 1, 2] rfl (fun _ _ hφ => ask [4, 5, 6, 7] rfl hφ) rfl
              ·
               refine wx_off hok 10 rfl rfl rfl (freshS_eq rfl) rfl ?_
               refine wx_off hok 11 rfl rfl rfl (freshS_eq rfl) rfl ?_
               refine wx_off hok 12 rfl rfl rfl (freshS_eq rfl) rfl ?_
               refine wx_off hok 13 rfl rfl rfl (freshS_eq rfl) rfl ?_
               refine wx_off hok 14 rfl rfl rfl (freshS_eq rfl) rfl ?_
               refine wx_off hok 15 rfl rfl rfl (freshS_eq rfl) rfl ?_
               refine wx_off hok 16 rfl rfl rfl (freshS_eq rfl) rfl ?_
               refine wx_off hok 17 rfl rfl rfl (freshS_eq rfl) rfl ?_
               refine wx_pure hok 18 rfl rfl rfl (freshS_eq rfl) rfl rfl ?_
               refine wx_step1 hok 19 rfl rfl rfl rfl ?_
               refine wl_pure (S' := [_,_,_,_,_,_,_,_,_,_,_,_,_,_,_,_,_,_,_,_,_,_,_,_,_,_,_,_,_,_,_,_,_,_,_,_,_,_]) rfl rfl rfl rfl rfl ?_
               refine wl_nil ?_
               refine we_x [0, 1, 2, 3, 4, 5, 6, 7] [] rfl rfl ?_
               refine wx_done hok rfl ?_
               refine we_block_normal ?_
               refine we_then ?_
               refine wc_seq ?_
               refine wc_region ?_
               refine wl_pure rfl rfl rfl (freshS_eq rfl) rfl ?_
               refine wl_pure rfl rfl rfl (freshS_eq rfl) rfl ?_
               refine wl_nil ?_
               refine we_then ?_
               refine wc_keep [128, 13, 100, 85, 83, 82, 12, 11, 10, 57, 9, 8, 42, 7, 6, 5, 4, 3, 0, 1, 2] (S' := [_,_,_,_,_,_,_,_,_,_,_,_,_,_,_,_,_,_,_,_,_]) rfl ?_
               refine wc_true rfl ?_
               refine wc_rowNil 4 1 bRep ?_
               refine wc_rowNil 27 3 vRep ?_
               refine wc_seq ?_
               refine wc_region ?_
               refine wl_build rfl rfl rfl (freshS_eq rfl) rfl tZ_56 tP_56 rfl (out := [_,_]) rfl ?_
               refine wl_store 7 0 rfl rfl rfl rfl rfl rfl rfl tS_56 rfl rfl rfl (all' := [_,_]) rfl (H' := [_,_,_,_,_,_,_,_,_,_,_]) rfl ?_
               refine wl_pure (S' := [_,_,_,_,_,_,_,_,_,_,_,_,_,_,_,_,_,_,_,_,_]) rfl rfl rfl rfl rfl ?_
               refine wl_nil ?_
               refine we_then ?_
               refine wc_keep [7, 128, 13, 100, 85, 83, 82, 12, 11, 10, 57, 9, 8, 42, 6, 5, 4, 3, 0, 1, 2] (S' := [_,_,_,_,_,_,_,_,_,_,_,_,_,_,_,_,_,_,_,_,_]) rfl ?_
               refine wc_ret ?_
               refine we_block_ret ?_
               refine we_then_ret ?_
               refine we_then_ret ?_
               refine we_block_ret ?_
               refine we_then_ret ?_
               refine ret_two (Hr := [.own 27 3 vRep (.slice none 0 0) [], .own 4 1 bRep (.slice none 0 0) []]) [0, 1] Try.results22 (res_cell 7 rfl rfl tS_56 tA_56 rfl rfl) (res_tmp rfl) ?_ (fun _ _ hφ => ask [] rfl hφ) rfl rfl (.inl rfl)
               exact ⟨_, _, _, _, _, _, rfl, MatchR.stop oks1.2 hx63 hx68 (h' := s1.2.1) (v' := s1.2.2) (FitR.off3 (h := s1.2.1) (vs := s1.2.2) h100 (by rw [hy108, h111])), rfl, rfl⟩
             ·
              replace h103 := of_decide_eq_false h103
              refine wx_off hok 2 rfl rfl rfl (freshS_eq rfl) rfl ?_
              refine wx_off hok 3 rfl rfl rfl (freshS_eq rfl) rfl ?_
              refine wx_off hok 4 rfl rfl rfl (freshS_eq rfl) rfl ?_
              refine wx_off hok 5 rfl rfl rfl (freshS_eq rfl) rfl ?_
              refine wx_off hok 6 rfl rfl rfl (freshS_eq rfl) rfl ?_
              refine wx_off hok 7 rfl rfl rfl (freshS_eq rfl) rfl ?_
              refine wx_pure hok 8 rfl rfl rfl (freshS_eq rfl) rfl rfl ?_
              refine wx_pure hok 9 rfl rfl rfl (freshS_eq rfl) rfl rfl ?_
              refine wx_off hok 10 rfl rfl rfl (freshS_eq rfl) rfl ?_
              refine wx_off hok 11 rfl rfl rfl (freshS_eq rfl) rfl ?_
              refine wx_off hok 12 rfl rfl rfl (freshS_eq rfl) rfl ?_
              refine wx_off hok 13 rfl rfl rfl (freshS_eq rfl) rfl ?_
              refine wx_off hok 14 rfl rfl rfl (freshS_eq rfl) rfl ?_
              refine wx_off hok 15 rfl rfl rfl (freshS_eq rfl) rfl ?_
              refine wx_off hok 16 rfl rfl rfl (freshS_eq rfl) rfl ?_
              refine wx_off hok 17 rfl rfl rfl (freshS_eq rfl) rfl ?_
              refine wx_pure hok 18 rfl rfl rfl (freshS_eq rfl) rfl rfl ?_
              refine wx_step1 hok 19 rfl rfl rfl rfl ?_
              refine wl_pure (S' := [_,_,_,_,_,_,_,_,_,_,_,_,_,_,_,_,_,_,_,_,_,_,_,_,_,_,_,_,_,_,_,_,_,_,_,_,_,_]) rfl rfl rfl rfl rfl ?_
              refine wl_nil ?_
              refine we_x [0, 1, 2, 3, 4, 5, 6, 7] [] rfl rfl ?_
              refine wx_done hok rfl ?_
              refine we_block_normal ?_
              refine we_then ?_
              refine wc_seq ?_
              refine wc_region ?_
              refine wl_pure rfl rfl rfl (freshS_eq rfl) rfl ?_
              refine wl_pure rfl rfl rfl (freshS_eq rfl) rfl ?_
              refine wl_nil ?_
              refine we_then ?_
              refine wc_keep [128, 13, 100, 85, 83, 82, 12, 11, 10, 57, 9, 8, 42, 7, 6, 5, 4, 3, 0, 1, 2] (S' := [_,_,_,_,_,_,_,_,_,_,_,_,_,_,_,_,_,_,_,_,_]) rfl ?_
              refine wc_true rfl ?_
              refine wc_rowNil 4 1 bRep ?_
              refine wc_rowNil 27 3 vRep ?_
              refine wc_seq ?_
              refine wc_region ?_
              refine wl_build rfl rfl rfl (freshS_eq rfl) rfl tZ_56 tP_56 rfl (out := [_,_]) rfl ?_
              refine wl_store 7 0 rfl rfl rfl rfl rfl rfl rfl tS_56 rfl rfl rfl (all' := [_,_]) rfl (H' := [_,_,_,_,_,_,_,_,_,_,_]) rfl ?_
              refine wl_pure (S' := [_,_,_,_,_,_,_,_,_,_,_,_,_,_,_,_,_,_,_,_,_]) rfl rfl rfl rfl rfl ?_
              refine wl_nil ?_
              refine we_then ?_
              refine wc_keep [7, 128, 13, 100, 85, 83, 82, 12, 11, 10, 57, 9, 8, 42, 6, 5, 4, 3, 0, 1, 2] (S' := [_,_,_,_,_,_,_,_,_,_,_,_,_,_,_,_,_,_,_,_,_]) rfl ?_
              refine wc_ret ?_
              refine we_block_ret ?_
              refine we_then_ret ?_
              refine we_then_ret ?_
              refine we_block_ret ?_
              refine we_then_ret ?_
              refine ret_two (Hr := [.own 27 3 vRep (.slice none 0 0) [], .own 4 1 bRep (.slice none 0 0) []]) [0, 1] Try.results22 (res_cell 7 rfl rfl tS_56 tA_56 rfl rfl) (res_tmp rfl) ?_ (fun _ _ hφ => ask [] rfl hφ) rfl rfl (.inl rfl)
              exact ⟨_, _, _, _, _, _, rfl, MatchR.stop oks1.2 hx63 hx68 (h' := s1.2.1) (v' := s1.2.2) (FitR.out3 (h := s1.2.1) (vs := s1.2.2) h100 (by omega)), rfl, rfl⟩
            ·
             replace h100 := ne_of_beq_false h100
             refine wc_seq ?_
             refine wc_region ?_
             refine wl_pure rfl rfl rfl (freshS_eq rfl) rfl ?_
             refine wl_pure rfl rfl rfl (freshS_eq rfl) rfl ?_
             refine wl_nil ?_
             refine we_then ?_
             refine wc_keep [121, 100, 85, 83, 82, 13, 12, 11, 10, 57, 9, 8, 42, 7, 6, 5, 4, 3, 0, 1, 2] (S' := [_,_,_,_,_,_,_,_,_,_,_,_,_,_,_,_,_,_,_,_,_]) rfl ?_
             refine wc_cond rfl (fun h121 => ?_) (fun h121 => ?_)
             ·
              replace h121 := eq_of_beq h121
              refine wc_region ?_
              refine wl_fieldAddr rfl rfl rfl (freshS_eq rfl) rfl rfl tF_48_2 ?_
              refine wl_loadH 1 2 rfl rfl rfl (freshS_eq rfl) rfl rfl rfl (cs := [_,_,_]) rfl tS_27 tA_27 rfl rfl ?_
              refine wl_loadH 0 0 rfl rfl rfl (freshS_eq rfl) rfl rfl rfl (cs := [_,_,_]) rfl tS_27 tA_27 rfl rfl ?_
              refine wl_bin rfl rfl rfl (freshS_eq rfl) rfl rfl rfl (eqlV _ _ x63.v x68) ?_
              refine wl_pure (S' := [_,_,_,_,_,_,_,_,_,_,_,_,_,_,_,_,_,_,_,_,_,_,_,_]) rfl rfl rfl rfl rfl ?_
              refine wl_nil ?_
              refine we_block_normal ?_
              refine we_then ?_
              refine wc_seq ?_
              refine wc_region ?_
              refine wl_pure rfl rfl rfl (freshS_eq rfl) rfl ?_
              refine wl_pure rfl rfl rfl (freshS_eq rfl) rfl ?_
              refine wl_nil ?_
              refine we_then ?_
              refine wc_keep [128, 13, 121, 100, 85, 83, 82, 12, 11, 10, 57, 9, 8, 42, 7, 6, 5, 4, 3, 0, 1, 2] (S' := [_,_,_,_,_,_,_,_,_,_,_,_,_,_,_,_,_,_,_,_,_,_]) rfl ?_
              refine wc_cond rfl (fun h128 => ?_) (fun h128 => ?_)
              ·
               replace h128 := nd_true h128
               refine wc_rowNil 4 1 bRep ?_
               refine wc_rowNil 27 3 vRep ?_
               refine wc_seq ?_
               refine wc_region ?_
               refine wl_build rfl rfl rfl (freshS_eq rfl) rfl tZ_56 tP_56 rfl (out := [_,_]) rfl ?_
               refine wl_store 7 0 rfl rfl rfl rfl rfl rfl rfl tS_56 rfl rfl rfl (all' := [_,_]) rfl (H' := [_,_,_,_,_,_,_,_,_,_,_]) rfl ?_
               refine wl_pure (S' := [_,_,_,_,_,_,_,_,_,_,_,_,_,_,_,_,_,_,_,_,_,_]) rfl rfl rfl rfl rfl ?_
               refine wl_nil ?_
               refine we_then ?_
               refine wc_keep [7, 128, 13, 121, 100, 85, 83, 82, 12, 11, 10, 57, 9, 8, 42, 6, 5, 4, 3, 0, 1, 2] (S' := [_,_,_,_,_,_,_,_,_,_,_,_,_,_,_,_,_,_,_,_,_,_]) rfl ?_
               refine wc_ret ?_
               refine we_block_ret ?_
               refine we_then_ret ?_
               refine we_then_ret ?_
               refine we_block_ret ?_
               refine we_then_ret ?_
               refine ret_two (Hr := [.own 27 3 vRep (.slice none 0 0) [], .own 4 1 bRep (.slice none 0 0) []]) [0, 1] Try.results22 (res_cell 7 rfl rfl tS_56 tA_56 rfl rfl) (res_tmp rfl) ?_ (fun _ _ hφ => ask [] rfl hφ) rfl rfl (.inl rfl)
               exact ⟨_, _, _, _, _, _, rfl, MatchR.stop oks1.2 hx63 hx68 (h' := s1.2.1) (v' := s1.2.2) ((FitR.known (FitR.const (h := s1.2.1) (vs := s1.2.2) h121) (decide_eq_false h128))), rfl, rfl⟩
              ·
               replace h128 := nd_false h128
               refine wc_skip ?_
               refine we_block_normal ?_
               refine we_then ?_
               refine wc_region ?_
               refine wl_pure rfl rfl rfl (freshS_eq rfl) rfl ?_
               refine wl_pure rfl rfl rfl (freshS_eq rfl) rfl ?_
               refine wl_as (d := 59) (v' := .int .i64 ((s1.1 + 1 : Nat) : Int)) (S' := [_,_,_,_,_,_,_,_,_,_,_,_,_,_,_,_,_,_,_,_,_,_,_]) rfl rfl (nat_inc (by omega)) ?_
               refine wl_pure (S' := [_,_,_,_,_,_,_,_,_,_,_,_,_,_,_,_,_,_,_,_,_,_,_]) rfl rfl rfl rfl rfl ?_
               refine wl_nil ?_
               refine we_pick [2, 3, 4, 5, 6, 7, 8] rfl (H' := [_,_,_,_,_,_,_]) rfl ?_
               refine we_round (s1.1 + 1, s1.2.1, s1.2.2) (by dsimp only; omega) ⟨by dsimp only; omega, FitR.step oks1.2 hx63 hx68 ((FitR.known (FitR.const (h := s1.2.1) (vs := s1.2.2) h121) (decide_eq_true h128)))⟩ [9, 8, 42, 7, 6, 5, 4, 3, 0, 1, 2] rfl (fun _ _ hφ => ask [4, 5, 6, 7] rfl hφ) rfl
             ·
              replace h121 := ne_of_beq_false h121
              refine wc_skip ?_
              refine we_block_normal ?_
              refine we_then ?_
              refine wc_seq ?_
              refine wc_region ?_
              refine wl_pure rfl rfl rfl (freshS_eq rfl) rfl ?_
              refine wl_pure rfl rfl rfl (freshS_eq rfl) rfl ?_
              refine wl_nil ?_
              refine we_then ?_
              refine wc_keep [128, 121, 100, 85, 83, 82, 13, 12, 11, 10, 57, 9, 8, 42, 7, 6, 5, 4, 3, 0, 1, 2] (S' := [_,_,_,_,_,_,_,_,_,_,_,_,_,_,_,_,_,_,_,_,_,_]) rfl ?_
              refine wc_true rfl ?_
              refine wc_rowNil 4 1 bRep ?_
              refine wc_rowNil 27 3 vRep ?_
              refine wc_seq ?_
              refine wc_region ?_
              refine wl_build rfl rfl rfl (freshS_eq rfl) rfl tZ_56 tP_56 rfl (out := [_,_]) rfl ?_
              refine wl_store 7 0 rfl rfl rfl rfl rfl rfl rfl tS_56 rfl rfl rfl (all' := [_,_]) rfl (H' := [_,_,_,_,_,_,_,_,_,_,_]) rfl ?_
              refine wl_pure (S' := [_,_,_,_,_,_,_,_,_,_,_,_,_,_,_,_,_,_,_,_,_,_]) rfl rfl rfl rfl rfl ?_
              refine wl_nil ?_
              refine we_then ?_
              refine wc_keep [7, 128, 121, 100, 85, 83, 82, 13, 12, 11, 10, 57, 9, 8, 42, 6, 5, 4, 3, 0, 1, 2] (S' := [_,_,_,_,_,_,_,_,_,_,_,_,_,_,_,_,_,_,_,_,_,_]) rfl ?_
              refine wc_ret ?_
              refine we_block_ret ?_
              refine we_then_ret ?_
              refine we_then_ret ?_
              refine we_block_ret ?_
              refine we_then_ret ?_
              refine ret_two (Hr := [.own 27 3 vRep (.slice none 0 0) [], .own 4 1 bRep (.slice none 0 0) []]) [0, 1] Try.results22 (res_cell 7 rfl rfl tS_56 tA_56 rfl rfl) (res_tmp rfl) ?_ (fun _ _ hφ => ask [] rfl hφ) rfl rfl (.inl rfl)
              exact ⟨_, _, _, _, _, _, rfl, MatchR.stop oks1.2 hx63 hx68 (h' := s1.2.1) (v' := s1.2.2) (FitR.none_ (h := s1.2.1) (vs := s1.2.2) h83 h85 h100 h121), rfl, rfl⟩
         ·
          replace h73 := of_decide_eq_false h73
          refine wl_off rfl rfl rfl (freshS_eq rfl) ?_
          refine wl_off rfl rfl rfl (freshS_eq rfl) ?_
          refine wl_off rfl rfl rfl (freshS_eq rfl) ?_
          refine wl_off rfl rfl rfl (freshS_eq rfl) ?_
          refine wl_off rfl rfl rfl (freshS_eq rfl) ?_
          refine wl_off rfl rfl rfl (freshS_eq rfl) ?_
          refine wl_pure rfl rfl rfl (freshS_eq rfl) rfl ?_
          refine wl_pure rfl rfl rfl (freshS_eq rfl) rfl ?_
          refine wl_nil ?_
          refine we_then ?_
          refine wc_keep [12, 11, 10, 57, 9, 8, 42, 7, 6, 5, 4, 3, 0, 1, 2] (S' := [_,_,_,_,_,_,_,_,_,_,_,_,_,_,_]) rfl ?_
          refine wc_seq ?_
          refine wc_region ?_
          refine wl_pure rfl rfl rfl (freshS_eq rfl) rfl ?_
          refine wl_nil ?_
          refine we_then ?_
          refine wc_seq ?_
          refine wc_seq ?_
          refine wc_region ?_
          refine wl_fieldAddr rfl rfl rfl (freshS_eq rfl) rfl rfl tF_48_0 ?_
          refine wl_loadH 1 0 rfl rfl rfl (freshS_eq rfl) rfl rfl rfl (cs := [_]) rfl tS_46 tA_46 rfl rfl ?_
          refine wl_nil ?_
          refine we_then ?_
          refine wc_keep [82, 13, 12, 11, 10, 57, 9, 8, 42, 7, 6, 5, 4, 3, 0, 1, 2] (S' := [_,_,_,_,_,_,_,_,_,_,_,_,_,_,_,_,_]) rfl ?_
          refine wc_block ?_
          refine wc_seq ?_
          refine wc_region ?_
          refine wl_pure rfl rfl rfl (freshS_eq rfl) rfl ?_
          refine wl_pure rfl rfl rfl (freshS_eq rfl) rfl ?_
          refine wl_nil ?_
          refine we_then ?_
          refine wc_keep [83, 82, 13, 12, 11, 10, 57, 9, 8, 42, 7, 6, 5, 4, 3, 0, 1, 2] (S' := [_,_,_,_,_,_,_,_,_,_,_,_,_,_,_,_,_,_]) rfl ?_
          refine wc_cond rfl (fun h83 => ?_) (fun h83 => ?_)
          ·
           replace h83 := eq_of_beq h83
           refine wc_region ?_
           refine wl_pure (S' := [_,_,_,_,_,_,_,_,_,_,_,_,_,_,_,_,_]) rfl rfl rfl rfl rfl ?_
           refine wl_nil ?_
           refine we_block_normal ?_
           refine we_then ?_
           refine wc_seq ?_
           refine wc_region ?_
           refine wl_pure rfl rfl rfl (freshS_eq rfl) rfl ?_
           refine wl_pure rfl rfl rfl (freshS_eq rfl) rfl ?_
           refine wl_nil ?_
           refine we_then ?_
           refine wc_keep [128, 13, 83, 82, 12, 11, 10, 57, 9, 8, 42, 7, 6, 5, 4, 3, 0, 1, 2] (S' := [_,_,_,_,_,_,_,_,_,_,_,_,_,_,_,_,_,_,_]) rfl ?_
           refine wc_false rfl ?_
           refine wc_skip ?_
           refine we_block_normal ?_
           refine we_then ?_
           refine wc_region ?_
           refine wl_pure rfl rfl rfl (freshS_eq rfl) rfl ?_
           refine wl_pure rfl rfl rfl (freshS_eq rfl) rfl ?_
           refine wl_as (d := 59) (v' := .int .i64 ((s1.1 + 1 : Nat) : Int)) (S' := [_,_,_,_,_,_,_,_,_,_,_,_,_,_,_,_,_,_,_,_]) rfl rfl (nat_inc (by omega)) ?_
           refine wl_pure (S' := [_,_,_,_,_,_,_,_,_,_,_,_,_,_,_,_,_,_,_,_]) rfl rfl rfl rfl rfl ?_
           refine wl_nil ?_
           refine we_pick [2, 3, 4, 5, 6, 7, 8] rfl (H' := [_,_,_,_,_,_,_]) rfl ?_
           refine we_round (s1.1 + 1, s1.2.1, s1.2.2) (by dsimp only; omega) ⟨by dsimp only; omega, FitR.step oks1.2 hx63 hx68 (FitR.any h83)⟩ [9, 8, 42, 7, 6, 5, 4, 3, 0, 1, 2] rfl (fun _ _ hφ => ask [4, 5, 6, 7] rfl hφ) rfl
          ·
           replace h83 := ne_of_beq_false h83
           refine wc_seq ?_
           refine wc_region ?_
           refine wl_pure rfl rfl rfl (freshS_eq rfl) rfl ?_
           refine wl_pure rfl rfl rfl (freshS_eq rfl) rfl ?_
           refine wl_nil ?_
           refine we_then ?_
           refine wc_keep [85, 83, 82, 13, 12, 11, 10, 57, 9, 8, 42, 7, 6, 5, 4, 3, 0, 1, 2] (S' := [_,_,_,_,_,_,_,_,_,_,_,_,_,_,_,_,_,_,_]) rfl ?_
           refine wc_cond rfl (fun h85 => ?_) (fun h85 => ?_)
           ·
            replace h85 := eq_of_beq h85
            refine wc_seq ?_
            refine wc_region ?_
            refine wl_pure rfl rfl rfl (freshS_eq rfl) rfl ?_
            refine wl_pure (S' := [_,_,_,_,_,_,_,_,_,_,_,_,_,_,_,_,_,_,_]) rfl rfl rfl rfl rfl ?_
            refine wl_nil ?_
            refine we_then ?_
            refine wc_keep [13, 85, 83, 82, 12, 11, 10, 57, 9, 8, 42, 7, 6, 5, 4, 3, 0, 1, 2] (S' := [_,_,_,_,_,_,_,_,_,_,_,_,_,_,_,_,_,_,_]) rfl ?_
            refine wc_seq ?_
            refine wc_region ?_
            refine wl_pure rfl rfl rfl (freshS_eq rfl) rfl ?_
            refine wl_nil ?_
            refine we_then ?_
            refine wc_false rfl ?_
            refine wc_skip ?_
            refine we_block_normal ?_
            refine we_then ?_
            refine wc_seq ?_
            refine wc_region ?_
            refine wl_pure rfl rfl rfl (freshS_eq rfl) rfl ?_
            refine wl_pure rfl rfl rfl (freshS_eq rfl) rfl ?_
            refine wl_nil ?_
            refine we_then ?_
            refine wc_keep [128, 88, 13, 85, 83, 82, 12, 11, 10, 57, 9, 8, 42, 7, 6, 5, 4, 3, 0, 1, 2] (S' := [_,_,_,_,_,_,_,_,_,_,_,_,_,_,_,_,_,_,_,_,_]) rfl ?_
            refine wc_true rfl ?_
            refine wc_rowNil 4 1 bRep ?_
            refine wc_rowNil 27 3 vRep ?_
            refine wc_seq ?_
            refine wc_region ?_
            refine wl_build rfl rfl rfl (freshS_eq rfl) rfl tZ_56 tP_56 rfl (out := [_,_]) rfl ?_
            refine wl_store 7 0 rfl rfl rfl rfl rfl rfl rfl tS_56 rfl rfl rfl (all' := [_,_]) rfl (H' := [_,_,_,_,_,_,_,_,_,_,_]) rfl ?_
            refine wl_pure (S' := [_,_,_,_,_,_,_,_,_,_,_,_,_,_,_,_,_,_,_,_,_]) rfl rfl rfl rfl rfl ?_
            refine wl_nil ?_
            refine we_then ?_
            refine wc_keep [7, 128, 88, 13, 85, 83, 82, 12, 11, 10, 57, 9, 8, 42, 6, 5, 4, 3, 0, 1, 2] (S' := [_,_,_,_,_,_,_,_,_,_,_,_,_,_,_,_,_,_,_,_,_]) rfl ?_
            refine wc_ret ?_
            refine we_block_ret ?_
            refine we_then_ret ?_
            refine we_then_ret ?_
            refine we_block_ret ?_
            refine we_then_ret ?_
            refine ret_two (Hr := [.own 27 3 vRep (.slice none 0 0) [], .own 4 1 bRep (.slice none 0 0) []]) [0, 1] Try.results22 (res_cell 7 rfl rfl tS_56 tA_56 rfl rfl) (res_tmp rfl) ?_ (fun _ _ hφ => ask [] rfl hφ) rfl rfl (.inl rfl)
            exact ⟨_, _, _, _, _, _, rfl, MatchR.stop oks1.2 hx63 hx68 (h' := s1.2.1) (v' := s1.2.2) (FitR.out2 (h := s1.2.1) (vs := s1.2.2) h85 (by omega)), rfl, rfl⟩
           ·
            replace h85 := ne_of_beq_false h85
            refine wc_seq ?_
            refine wc_region ?_
            refine wl_pure rfl rfl rfl (freshS_eq rfl) rfl ?_
            refine wl_pure rfl rfl rfl (freshS_eq rfl) rfl ?_
            refine wl_nil ?_
            refine we_then ?_
            refine wc_keep [100, 85, 83, 82, 13, 12, 11, 10, 57, 9, 8, 42, 7, 6, 5, 4, 3, 0, 1, 2] (S' := [_,_,_,_,_,_,_,_,_,_,_,_,_,_,_,_,_,_,_,_]) rfl ?_
            refine wc_cond rfl (fun h100 => ?_) (fun h100 => ?_)
            ·
             replace h100 := eq_of_beq h100
             refine wc_draw [0, 1, 2, 3, 4, 5, 6, 7, 8, 9, 10, 11, 12, 13, 14, 15, 16, 17, 18] rfl rfl (fun hok => ?_)
             refine wx_pure hok 0 rfl rfl rfl (freshS_eq rfl) rfl rfl ?_
             refine wx_pure hok 1 rfl rfl rfl (freshS_eq rfl) rfl rfl ?_
             refine wx_off hok 2 rfl rfl rfl (freshS_eq rfl) rfl ?_
             refine wx_off hok 3 rfl rfl rfl (freshS_eq rfl) rfl ?_
             refine wx_off hok 4 rfl rfl rfl (freshS_eq rfl) rfl ?_
             refine wx_off hok 5 rfl rfl rfl (freshS_eq rfl) rfl ?_
             refine wx_off hok 6 rfl rfl rfl (freshS_eq rfl) rfl ?_
             refine wx_off hok 7 rfl rfl rfl (freshS_eq rfl) rfl ?_
             refine wx_pure hok 8 rfl rfl rfl (freshS_eq rfl) rfl rfl ?_
             refine wx_pure hok 9 rfl rfl rfl (freshS_eq rfl) rfl rfl ?_
             refine wx_off hok 10 rfl rfl rfl (freshS_eq rfl) rfl ?_
             refine wx_off hok 11 rfl rfl rfl (freshS_eq rfl) rfl ?_
             refine wx_off hok 12 rfl rfl rfl (freshS_eq rfl) rfl ?_
             refine wx_off hok 13 rfl rfl rfl (freshS_eq rfl) rfl ?_
             refine wx_off hok 14 rfl rfl rfl (freshS_eq rfl) rfl ?_
             refine wx_off hok 15 rfl rfl rfl (freshS_eq rfl) rfl ?_
             refine wx_off hok 16 rfl rfl rfl (freshS_eq rfl) rfl ?_
             refine wx_off hok 17 rfl rfl rfl (freshS_eq rfl) rfl ?_
             refine wx_pure hok 18 rfl rfl rfl (freshS_eq rfl) rfl rfl ?_
             refine wx_step1 hok 19 rfl rfl rfl rfl ?_
             refine wl_pure (S' := [_,_,_,_,_,_,_,_,_,_,_,_,_,_,_,_,_,_,_,_,_,_,_,_,_,_,_,_,_,_,_,_,_,_,_,_,_,_]) rfl rfl rfl rfl rfl ?_
             refine wl_nil ?_
             refine we_x [0, 1, 2, 3, 4, 5, 6, 7] [] rfl rfl ?_
             refine wx_done hok rfl ?_
             refine we_block_normal ?_
             refine we_then ?_
             refine wc_seq ?_
             refine wc_region ?_
             refine wl_pure rfl rfl rfl (freshS_eq rfl) rfl ?_
             refine wl_pure rfl rfl rfl (freshS_eq rfl) rfl ?_
             refine wl_nil ?_
             refine we_then ?_
             refine wc_keep [128, 13, 100, 85, 83, 82, 12, 11, 10, 57, 9, 8, 42, 7, 6, 5, 4, 3, 0, 1, 2] (S' := [_,_,_,_,_,_,_,_,_,_,_,_,_,_,_,_,_,_,_,_,_]) rfl ?_
             refine wc_true rfl ?_
             refine wc_rowNil 4 1 bRep ?_
             refine wc_rowNil 27 3 vRep ?_
             refine wc_seq ?_
             refine wc_region ?_
             refine wl_build rfl rfl rfl (freshS_eq rfl) rfl tZ_56 tP_56 rfl (out := [_,_]) rfl ?_
             refine wl_store 7 0 rfl rfl rfl rfl rfl rfl rfl tS_56 rfl rfl rfl (all' := [_,_]) rfl (H' := [_,_,_,_,_,_,_,_,_,_,_]) rfl ?_
             refine wl_pure (S' := [_,_,_,_,_,_,_,_,_,_,_,_,_,_,_,_,_,_,_,_,_]) rfl rfl rfl rfl rfl ?_
             refine wl_nil ?_
             refine we_then ?_
             refine wc_keep [7, 128, 13, 100, 85, 83, 82, 12, 11, 10, 57, 9, 8, 42, 6, 5, 4, 3, 0, 1, 2] (S' := [_,_,_,_,_,_,_,_,_,_,_,_,_,_,_,_,_,_,_,_,_]) rfl ?_
             refine wc_ret ?_
             refine we_block_ret ?_
             refine we_then_ret ?_
             refine we_then_ret ?_
             refine we_block_ret ?_
             refine we_then_ret ?_
             refine ret_two (Hr := [.own 27 3 vRep (.slice none 0 0) [], .own 4 1 bRep (.slice none 0 0) []]) [0, 1] Try.results22 (res_cell 7 rfl rfl tS_56 tA_56 rfl rfl) (res_tmp rfl) ?_ (fun _ _ hφ => ask [] rfl hφ) rfl rfl (.inl rfl)
             exact ⟨_, _, _, _, _, _, rfl, MatchR.stop oks1.2 hx63 hx68 (h' := s1.2.1) (v' := s1.2.2) (FitR.out3 (h := s1.2.1) (vs := s1.2.2) h100 (by omega)), rfl, rfl⟩
            ·
             replace h100 := ne_of_beq_false h100
             refine wc_seq ?_
             refine wc_region ?_
             refine wl_pure rfl rfl rfl (freshS_eq rfl) rfl ?_
             refine wl_pure rfl rfl rfl (freshS_eq rfl) rfl ?_
             refine wl_nil ?_
             refine we_then ?_
             refine wc_keep [121, 100, 85, 83, 82, 13, 12, 11, 10, 57, 9, 8, 42, 7, 6, 5, 4, 3, 0, 1, 2] (S' := [_,_,_,_,_,_,_,_,_,_,_,_,_,_,_,_,_,_,_,_,_]) rfl ?_
             refine wc_cond rfl (fun h121 => ?_) (fun h121 => ?_)
             ·
              replace h121 := eq_of_beq h121
              refine wc_region ?_
              refine wl_fieldAddr rfl rfl rfl (freshS_eq rfl) rfl rfl tF_48_2 ?_
              refine wl_loadH 1 2 rfl rfl rfl (freshS_eq rfl) rfl rfl rfl (cs := [_,_,_]) rfl tS_27 tA_27 rfl rfl ?_
              refine wl_loadH 0 0 rfl rfl rfl (freshS_eq rfl) rfl rfl rfl (cs := [_,_,_]) rfl tS_27 tA_27 rfl rfl ?_
              refine wl_bin rfl rfl rfl (freshS_eq rfl) rfl rfl rfl (eqlV _ _ x63.v x68) ?_
              refine wl_pure (S' := [_,_,_,_,_,_,_,_,_,_,_,_,_,_,_,_,_,_,_,_,_,_,_,_]) rfl rfl rfl rfl rfl ?_
              refine wl_nil ?_
              refine we_block_normal ?_
              refine we_then ?_
              refine wc_seq ?_
              refine wc_region ?_
              refine wl_pure rfl rfl rfl (freshS_eq rfl) rfl ?_
              refine wl_pure rfl rfl rfl (freshS_eq rfl) rfl ?_
              refine wl_nil ?_
              refine we_then ?_
              refine wc_keep [128, 13, 121, 100, 85, 83, 82, 12, 11, 10, 57, 9, 8, 42, 7, 6, 5, 4, 3, 0, 1, 2] (S' := [_,_,_,_,_,_,_,_,_,_,_,_,_,_,_,_,_,_,_,_,_,_]) rfl ?_
              refine wc_cond rfl (fun h128 => ?_) (fun h128 => ?_)
              ·
               replace h128 := nd_true h128
               refine wc_rowNil 4 1 bRep ?_
               refine wc_rowNil 27 3 vRep ?_
               refine wc_seq ?_
               refine wc_region ?_
               refine wl_build rfl rfl rfl (freshS_eq rfl) rfl tZ_56 tP_56 rfl (out := [_,_]) rfl ?_
               refine wl_store 7 0 rfl rfl rfl rfl rfl rfl rfl tS_56 rfl rfl rfl (all' := [_,_]) rfl (H' := [_,_,_,_,_,_,_,_,_,_,_]) rfl ?_
               refine wl_pure (S' := [_,_,_,_,_,_,_,_,_,_,_,_,_,_,_,_,_,_,_,_,_,_]) rfl rfl rfl rfl rfl ?_
               refine wl_nil ?_
               refine we_then ?_
               refine wc_keep [7, 128, 13, 121, 100, 85, 83, 82, 12, 11, 10, 57, 9, 8, 42, 6, 5, 4, 3, 0, 1, 2] (S' := [_,_,_,_,_,_,_,_,_,_,_,_,_,_,_,_,_,_,_,_,_,_]) rfl ?_
               refine wc_ret ?_
               refine we_block_ret ?_
               refine we_then_ret ?_
               refine we_then_ret ?_
               refine we_block_ret ?_
               refine we_then_ret ?_
               refine ret_two (Hr := [.own 27 3 vRep (.slice none 0 0) [], .own 4 1 bRep (.slice none 0 0) []]) [0, 1] Try.results22 (res_cell 7 rfl rfl tS_56 tA_56 rfl rfl) (res_tmp rfl) ?_ (fun _ _ hφ => ask [] rfl hφ) rfl rfl (.inl rfl)
               exact ⟨_, _, _, _, _, _, rfl, MatchR.stop oks1.2 hx63 hx68 (h' := s1.2.1) (v' := s1.2.2) ((FitR.known (FitR.const (h := s1.2.1) (vs := s1.2.2) h121) (decide_eq_false h128))), rfl, rfl⟩
              ·
               replace h128 := nd_false h128
               refine wc_skip ?_
               refine we_block_normal ?_
               refine we_then ?_
               refine wc_region ?_
               refine wl_pure rfl rfl rfl (freshS_eq rfl) rfl ?_
               refine wl_pure rfl rfl rfl (freshS_eq rfl) rfl ?_
               refine wl_as (d := 59) (v' := .int .i64 ((s1.1 + 1 : Nat) : Int)) (S' := [_,_,_,_,_,_,_,_,_,_,_,_,_,_,_,_,_,_,_,_,_,_,_]) rfl rfl (nat_inc (by omega)) ?_
               refine wl_pure (S' := [_,_,_,_,_,_,_,_,_,_,_,_,_,_,_,_,_,_,_,_,_,_,_]) rfl rfl rfl rfl rfl ?_
               refine wl_nil ?_
               refine we_pick [2, 3, 4, 5, 6, 7, 8] rfl (H' := [_,_,_,_,_,_,_]) rfl ?_
               refine we_round (s1.1 + 1, s1.2.1, s1.2.2) (by dsimp only; omega) ⟨by dsimp only; omega, FitR.step oks1.2 hx63 hx68 ((FitR.known (FitR.const (h := s1.2.1) (vs := s1.2.2) h121) (decide_eq_true h128)))⟩ [9, 8, 42, 7, 6, 5, 4, 3, 0, 1, 2] rfl (fun _ _ hφ => ask [4, 5, 6, 7] rfl hφ) rfl
             ·
              replace h121 := ne_of_beq_false h121
              refine wc_skip ?_
              refine we_block_normal ?_
              refine we_then ?_
              refine wc_seq ?_
              refine wc_region ?_
              refine wl_pure rfl rfl rfl (freshS_eq rfl) rfl ?_
              refine wl_pure rfl rfl rfl (freshS_eq rfl) rfl ?_
              refine wl_nil ?_
              refine we_then ?_
              refine wc_keep [128, 121, 100, 85, 83, 82, 13, 12, 11, 10, 57, 9, 8, 42, 7, 6, 5, 4, 3, 0, 1, 2] (S' := [_,_,_,_,_,_,_,_,_,_,_,_,_,_,_,_,_,_,_,_,_,_]) rfl ?_
              refine wc_true rfl ?_
              refine wc_rowNil 4 1 bRep ?_
              refine wc_rowNil 27 3 vRep ?_
              refine wc_seq ?_
              refine wc_region ?_
              refine wl_build rfl rfl rfl (freshS_eq rfl) rfl tZ_56 tP_56 rfl (out := [_,_]) rfl ?_
              refine wl_store 7 0 rfl rfl rfl rfl rfl rfl rfl tS_56 rfl rfl rfl (all' := [_,_]) rfl (H' := [_,_,_,_,_,_,_,_,_,_,_]) rfl ?_
              refine wl_pure (S' := [_,_,_,_,_,_,_,_,_,_,_,_,_,_,_,_,_,_,_,_,_,_]) rfl rfl rfl rfl rfl ?_
              refine wl_nil ?_
              refine we_then ?_
              refine wc_keep [7, 128, 121, 100, 85, 83, 82, 13, 12, 11, 10, 57, 9, 8, 42, 6, 5, 4, 3, 0, 1, 2] (S' := [_,_,_,_,_,_,_,_,_,_,_,_,_,_,_,_,_,_,_,_,_,_]) rfl ?_
              refine wc_ret ?_
              refine we_block_ret ?_
              refine we_then_ret ?_
              refine we_then_ret ?_
              refine we_block_ret ?_
              refine we_then_ret ?_
              refine ret_two (Hr := [.own 27 3 vRep (.slice none 0 0) [], .own 4 1 bRep (.slice none 0 0) []]) [0, 1] Try.results22 (res_cell 7 rfl rfl tS_56 tA_56 rfl rfl) (res_tmp rfl) ?_ (fun _ _ hφ => ask [] rfl hφ) rfl rfl (.inl rfl)
              exact ⟨_, _, _, _, _, _, rfl, MatchR.stop oks1.2 hx63 hx68 (h' := s1.2.1) (v' := s1.2.2) (FitR.none_ (h := s1.2.1) (vs := s1.2.2) h83 h85 h100 h121), rfl, rfl⟩
       ·
        replace h57 := of_decide_eq_false h57
        refine wc_exit ?_
        refine we_then_exit ?_
        refine we_then_exit ?_
        refine we_block_hit ?_
        refine we_then ?_
        refine wc_seq ?_
        refine wc_region ?_
        refine wl_loadH 0 0 rfl rfl rfl (freshS_eq rfl) rfl rfl rfl (cs := [_,_]) rfl tS_56 tA_56 rfl rfl ?_
        refine wl_store 3 0 rfl rfl rfl rfl rfl rfl rfl tS_56 rfl rfl rfl (all' := [_,_]) rfl (H' := [_,_,_,_,_,_,_]) rfl ?_
        refine wl_pure (S' := [_,_,_,_,_,_,_,_,_,_,_,_]) rfl rfl rfl rfl rfl ?_
        refine wl_nil ?_
        refine we_then ?_
        refine wc_keep [7, 57, 9, 8, 42, 6, 5, 4, 3, 0, 1, 2] (S' := [_,_,_,_,_,_,_,_,_,_,_,_]) rfl ?_
        refine wc_ret ?_
        refine ret_two (Hr := [.own 27 3 vRep (.slice p51 (vals).length c51) s1.2.2, .own 4 1 bRep (.slice p47 (has).length c47) s1.2.1]) [1, 2] Try.results22 (res_cell 3 rfl rfl tS_56 tA_56 rfl rfl) (res_tmp rfl) ?_ (fun _ _ hφ => ask [] rfl hφ) rfl rfl (.inl rfl)
        exact ⟨true, ⟨s1.2.1, s1.2.2⟩, p47, c47, p51, c51, by simp only [hq.1, hq.2], MatchR.yes ⟨by omega, by omega, by omega, hb15.1 h17⟩ oks1.2 (by omega), rfl, by simp only [hq.1, hq.2]⟩
  ·
   replace h21 := bne_eq_false_iff_eq.1 h21
   refine wl_off rfl rfl rfl (freshS_eq rfl) ?_
   refine wl_off rfl rfl rfl (freshS_eq rfl) ?_
   refine wl_off rfl rfl rfl (freshS_eq rfl) ?_
   refine wl_pure rfl rfl rfl (freshS_eq rfl) rfl ?_
   refine wl_pure rfl rfl rfl (freshS_eq rfl) rfl ?_
   refine wl_pure rfl rfl rfl (freshS_eq rfl) rfl ?_
   refine wl_fieldAddr rfl rfl rfl (freshS_eq rfl) rfl rfl tF_36_1 ?_
   refine wl_loadH 2 1 rfl rfl rfl (freshS_eq rfl) rfl rfl rfl (cs := [_]) rfl tS_3 tA_3 rfl rfl ?_
   refine wl_fieldAddr rfl rfl rfl (freshS_eq rfl) rfl rfl tF_33_1 ?_
   refine wl_loadH 3 1 rfl rfl rfl (freshS_eq rfl) rfl rfl rfl (cs := [_]) rfl tS_3 tA_3 rfl rfl ?_
   refine wl_pure rfl rfl rfl (freshS_eq rfl) rfl ?_
   refine wl_pure rfl rfl rfl (freshS_eq rfl) rfl ?_
   refine wl_pure rfl rfl rfl (freshS_eq rfl) rfl ?_
   refine wl_split (d := 34) (S' := [_,_,_,_,_,_,_,_,_,_,_,_,_,_,_,_,_,_,_,_,_,_,_,_,_,_,_,_]) rfl rfl (fun h34 => ?_) (fun h34 => ?_)
   ·
    replace h34 := bne_iff_ne.1 h34
    refine wl_off rfl rfl rfl (freshS_eq rfl) ?_
    refine wl_off rfl rfl rfl (freshS_eq rfl) ?_
    refine wl_off rfl rfl rfl (freshS_eq rfl) ?_
    refine wl_off rfl rfl rfl (freshS_eq rfl) ?_
    refine wl_off rfl rfl rfl (freshS_eq rfl) ?_
    refine wl_off rfl rfl rfl (freshS_eq rfl) ?_
    refine wl_off rfl rfl rfl (freshS_eq rfl) ?_
    refine wl_pure rfl rfl rfl (freshS_eq rfl) rfl ?_
    refine wl_nil ?_
    refine we_then ?_
    refine wc_keep [42, 7, 6, 5, 4, 3, 0, 1, 2] (S' := [_,_,_,_,_,_,_,_,_]) rfl ?_
    refine wc_true rfl ?_
    refine wc_rowNil 4 1 bRep ?_
    refine wc_rowNil 27 3 vRep ?_
    refine wc_seq ?_
    refine wc_region ?_
    refine wl_build rfl rfl rfl (freshS_eq rfl) rfl tZ_56 tP_56 rfl (out := [_,_]) rfl ?_
    refine wl_store 2 0 rfl rfl rfl rfl rfl rfl rfl tS_56 rfl rfl rfl (all' := [_,_]) rfl (H' := [_,_,_,_,_,_]) rfl ?_
    refine wl_pure (S' := [_,_,_,_,_,_,_,_,_]) rfl rfl rfl rfl rfl ?_
    refine wl_nil ?_
    refine we_then ?_
    refine wc_keep [7, 42, 6, 5, 4, 3, 0, 1, 2] (S' := [_,_,_,_,_,_,_,_,_]) rfl ?_
    refine wc_ret ?_
    refine we_then_ret ?_
    refine ret_two (Hr := [.own 27 3 vRep (.slice none 0 0) [], .own 4 1 bRep (.slice none 0 0) []]) [0, 1] Try.results22 (res_cell 2 rfl rfl tS_56 tA_56 rfl rfl) (res_tmp rfl) ?_ (fun _ _ hφ => ask [] rfl hφ) rfl rfl (.inl rfl)
    exact ⟨_, _, _, _, _, _, rfl, MatchR.no (fun hh => by have := hh.1; have := hh.2.1; have := hh.2.2.1; omega), rfl, rfl⟩
   ·
    replace h34 := bne_eq_false_iff_eq.1 h34
    refine wl_fieldAddr rfl rfl rfl (freshS_eq rfl) rfl rfl tF_36_2 ?_
    refine wl_loadH 2 2 rfl rfl rfl (freshS_eq rfl) rfl rfl rfl (cs := [_]) rfl tS_34 tA_34 rfl rfl ?_
    refine wl_len rfl rfl rfl (freshS_eq rfl) rfl rfl tE_34 ?_
    refine wl_fieldAddr rfl rfl rfl (freshS_eq rfl) rfl rfl tF_33_2 ?_
    refine wl_loadH 3 2 rfl rfl rfl (freshS_eq rfl) rfl rfl rfl (cs := [_]) rfl tS_23 tA_23 rfl rfl ?_
    refine wl_len rfl rfl rfl (freshS_eq rfl) rfl rfl tE_23 ?_
    refine wl_pure rfl rfl rfl (freshS_eq rfl) rfl ?_
    refine wl_pure rfl rfl rfl (freshS_eq rfl) rfl ?_
    refine wl_nil ?_
    refine we_then ?_
    refine wc_keep [42, 7, 6, 5, 4, 3, 0, 1, 2] (S' := [_,_,_,_,_,_,_,_,_]) rfl ?_
    refine wc_cond rfl (fun h42 => ?_) (fun h42 => ?_)
    ·
     replace h42 := bne_iff_ne.1 h42
     refine wc_rowNil 4 1 bRep ?_
     refine wc_rowNil 27 3 vRep ?_
     refine wc_seq ?_
     refine wc_region ?_
     refine wl_build rfl rfl rfl (freshS_eq rfl) rfl tZ_56 tP_56 rfl (out := [_,_]) rfl ?_
     refine wl_store 2 0 rfl rfl rfl rfl rfl rfl rfl tS_56 rfl rfl rfl (all' := [_,_]) rfl (H' := [_,_,_,_,_,_]) rfl ?_
     refine wl_pure (S' := [_,_,_,_,_,_,_,_,_]) rfl rfl rfl rfl rfl ?_
     refine wl_nil ?_
     refine we_then ?_
     refine wc_keep [7, 42, 6, 5, 4, 3, 0, 1, 2] (S' := [_,_,_,_,_,_,_,_,_]) rfl ?_
     refine wc_ret ?_
     refine we_then_ret ?_
     refine ret_two (Hr := [.own 27 3 vRep (.slice none 0 0) [], .own 4 1 bRep (.slice none 0 0) []]) [0, 1] Try.results22 (res_cell 2 rfl rfl tS_56 tA_56 rfl rfl) (res_tmp rfl) ?_ (fun _ _ hφ => ask [] rfl hφ) rfl rfl (.inl rfl)
     exact ⟨_, _, _, _, _, _, rfl, MatchR.no (fun hh => by have := hh.1; have := hh.2.1; have := hh.2.2.1; omega), rfl, rfl⟩
    ·
     replace h42 := bne_eq_false_iff_eq.1 h42
     refine wc_skip ?_
     refine we_then ?_
     refine wc_seq ?_
     refine wc_cut (σ := Nat × (Option Addr) × Nat × Nat × (Option Addr) × Nat × Nat) (fun (g44, p47, c47, g48, p51, c51, g8) => True) (fun (g44, p47, c47, g48, p51, c51, g8) => [(8, .pointer (some ⟨g8, 0, none⟩)), (42, .bool (((f.args.length : Nat) : Int) != ((c.args.length : Nat) : Int))), (7, .bool false), (6, .pointer (some ⟨g6, 0, none⟩)), (5, .pointer (some ⟨g5, 0, none⟩)), (4, .pointer (some ⟨g4, 0, none⟩)), (3, .pointer (some ⟨g3, 0, none⟩)), (0, .agg #[.int .u8 (c.k), .int .i64 (c.ty), .slice pa c.args.length ca, t0, t1, t2, t3, t4, t5, t6]), (1, .agg #[.int .i64 (f.id), .int .i64 (f.ty), .slice px f.args.length cx]), (2, .agg #[.slice p1 has.length c1, .slice p2 vals.length c2])]) (fun (g44, p47, c47, g48, p51, c51, g8) => [.sli 5 aRep pa ca c.args, .sli 3 vRep px cx f.args, .sli 1 bRep p1 c1 has, .sli 3 vRep p2 c2 vals]) (fun (g44, p47, c47, g48, p51, c51, g8) => [.blk g8 [.slice p47 (has).length c47, .slice p51 (vals).length c51] 56, .own 27 3 vRep (.slice p51 (vals).length c51) vals, .own 4 1 bRep (.slice p47 (has).length c47) has, .blk g6 [.slice none 0 0, .slice none 0 0] 56, .blk g5 [.slice p1 has.length c1, .slice p2 vals.length c2] 56, .blk g4 [.int .i64 (f.id), .int .i64 (f.ty), .slice px f.args.length cx] 36, .blk g3 [.int .u8 (c.k), .int .i64 (c.ty), .slice pa c.args.length ca, t0, t1, t2, t3, t4, t5, t6] 33]) ?_ ?_
     ·
      refine wc_draw [1, 2, 5, 6, 8] rfl rfl (fun hok => ?_)
      refine wx_fieldAddr hok 1 rfl rfl rfl (freshS_eq rfl) rfl rfl rfl tF_56_0 ?_
      refine wx_loadH hok 2 1 0 rfl rfl rfl (freshS_eq rfl) rfl rfl rfl rfl (cs := [_]) rfl tS_37 tA_37 rfl rfl ?_
      refine wx_fieldAddr hok 5 rfl rfl rfl (freshS_eq rfl) rfl rfl rfl tF_56_1 ?_
      refine wx_loadH hok 6 1 1 rfl rfl rfl (freshS_eq rfl) rfl rfl rfl rfl (cs := [_]) rfl tS_34 tA_34 rfl rfl ?_
      refine wx_step3 hok 0 4 9 rfl rfl rfl rfl rfl rfl rfl rfl ?_ ?_ ?_
      ·
       refine wl_buildSlice rfl rfl rfl (freshS_eq rfl) rfl tE_37 tS_4 tZ_4 rfl (zs := []) (by kernel_rfl) rfl (out := []) rfl (fun g44 => ?_)
       refine wl_nil ?_
       refine we_x [0, 1, 2, 3] [2, 2] rfl rfl ?_
       refine wx_step3 hok 3 4 9 rfl rfl rfl rfl rfl rfl rfl rfl ?_ ?_ ?_
       ·
        refine wl_row (sz := 1) (m := 0) bRep [] 0 rfl (fun F w hφ => rfl) rfl (by decide) (H' := [_,_,_,_,_]) rfl ?_
        refine wl_append 0 2 rfl rfl rfl (freshS_eq rfl) rfl rfl rfl rfl rfl tE_37 tR_4 rfl rfl (by simp; omega) (by simp; omega) (H2 := fun p47 c47 => [.own 4 1 bRep (.slice p47 (has).length c47) has, .blk g6 [.slice none 0 0, .slice none 0 0] 56, .blk g5 [.slice p1 has.length c1, .slice p2 vals.length c2] 56, .blk g4 [.int .i64 (f.id), .int .i64 (f.ty), .slice px f.args.length cx] 36, .blk g3 [.int .u8 (c.k), .int .i64 (c.ty), .slice pa c.args.length ca, t0, t1, t2, t3, t4, t5, t6] 33]) (fun _ _ => rfl) (fun p47 c47 => ?_)
        refine wl_nil ?_
        refine we_x [0, 1, 2, 3] [2] rfl rfl ?_
        refine wx_step2 hok 4 9 rfl rfl rfl rfl rfl rfl ?_ ?_
        ·
         refine wl_buildSlice rfl rfl rfl (freshS_eq rfl) rfl tE_34 tS_27 tZ_27 rfl (zs := []) (by kernel_rfl) rfl (out := []) rfl (fun g48 => ?_)
         refine wl_nil ?_
         refine we_x [0, 1, 2, 3] [3, 3] rfl rfl ?_
         refine wx_step2 hok 7 9 rfl rfl rfl rfl rfl rfl ?_ ?_
         ·
          refine wl_row (sz := 3) (m := 0) vRep [] 0 rfl (fun F w hφ => rfl) rfl (by decide) (H' := [_,_,_,_,_,_]) rfl ?_
          refine wl_append 0 3 rfl rfl rfl (freshS_eq rfl) rfl rfl rfl rfl rfl tE_34 tR_27 rfl rfl (by simp; omega) (by simp; omega) (H2 := fun p51 c51 => [.own 27 3 vRep (.slice p51 (vals).length c51) vals, .own 4 1 bRep (.slice p47 (has).length c47) has, .blk g6 [.slice none 0 0, .slice none 0 0] 56, .blk g5 [.slice p1 has.length c1, .slice p2 vals.length c2] 56, .blk g4 [.int .i64 (f.id), .int .i64 (f.ty), .slice px f.args.length cx] 36, .blk g3 [.int .u8 (c.k), .int .i64 (c.ty), .slice pa c.args.length ca, t0, t1, t2, t3, t4, t5, t6] 33]) (fun _ _ => rfl) (fun p51 c51 => ?_)
          refine wl_nil ?_
          refine we_x [0, 1, 2, 3] [3] rfl rfl ?_
          refine wx_build hok 8 rfl rfl rfl (freshS_eq rfl) rfl rfl tZ_56 tP_56 rfl (out := [_,_]) rfl ?_
          refine wx_step1 hok 9 rfl rfl rfl rfl ?_
          refine wl_alloc rfl rfl rfl (freshS_eq rfl) rfl tZ_56 rfl (fun g8 => ?_)
          refine wl_nil ?_
          refine we_x [0, 1, 2, 3] [4, 4] rfl rfl ?_
          refine wx_step1 hok 10 rfl rfl rfl rfl ?_
          refine wl_store 0 0 rfl rfl rfl rfl rfl rfl rfl tS_56 rfl rfl rfl (all' := [_,_]) rfl (H' := [_,_,_,_,_,_,_]) rfl ?_
          refine wl_nil ?_
          refine we_x [0, 1, 2, 3] [] rfl rfl ?_
          refine wx_done hok rfl ?_
          refine we_join (g44, p47, c47, g48, p51, c51, g8) trivial [8, 42, 7, 6, 5, 4, 3, 0, 1, 2] rfl (fun _ _ hφ => ask [0, 1, 2, 3] rfl hφ) rfl
         ·
          refine wl_alloc rfl rfl rfl (freshS_eq rfl) rfl tZ_56 rfl (fun g8 => ?_)
          refine wl_nil ?_
          refine we_x [0, 1, 2, 3] [4, 4] rfl rfl ?_
          refine wx_step1 hok 7 rfl rfl rfl rfl ?_
          refine wl_row (sz := 3) (m := 0) vRep [] 1 rfl (fun F w hφ => rfl) rfl (by decide) (H' := [_,_,_,_,_,_,_]) rfl ?_
          refine wl_append 1 3 rfl rfl rfl (freshS_eq rfl) rfl rfl rfl rfl rfl tE_34 tR_27 rfl rfl (by simp; omega) (by simp; omega) (H2 := fun p51 c51 => [.blk g8 [.slice none 0 0, .slice none 0 0] 56, .own 27 3 vRep (.slice p51 (vals).length c51) vals, .own 4 1 bRep (.slice p47 (has).length c47) has, .blk g6 [.slice none 0 0, .slice none 0 0] 56, .blk g5 [.slice p1 has.length c1, .slice p2 vals.length c2] 56, .blk g4 [.int .i64 (f.id), .int .i64 (f.ty), .slice px f.args.length cx] 36, .blk g3 [.int .u8 (c.k), .int .i64 (c.ty), .slice pa c.args.length ca, t0, t1, t2, t3, t4, t5, t6] 33]) (fun _ _ => rfl) (fun p51 c51 => ?_)
          refine wl_nil ?_
          refine we_x [0, 1, 2, 3] [4] rfl rfl ?_
          refine wx_build hok 8 rfl rfl rfl (freshS_eq rfl) rfl rfl tZ_56 tP_56 rfl (out := [_,_]) rfl ?_
          refine wx_step1 hok 10 rfl rfl rfl rfl ?_
          refine wl_store 0 0 rfl rfl rfl rfl rfl rfl rfl tS_56 rfl rfl rfl (all' := [_,_]) rfl (H' := [_,_,_,_,_,_,_]) rfl ?_
          refine wl_nil ?_
          refine we_x [0, 1, 2, 3] [] rfl rfl ?_
          refine wx_done hok rfl ?_
          refine we_join (g44, p47, c47, g48, p51, c51, g8) trivial [8, 42, 7, 6, 5, 4, 3, 0, 1, 2] rfl (fun _ _ hφ => ask [0, 1, 2, 3] rfl hφ) rfl
        ·
         refine wl_alloc rfl rfl rfl (freshS_eq rfl) rfl tZ_56 rfl (fun g8 => ?_)
         refine wl_nil ?_
         refine we_x [0, 1, 2, 3] [3, 3] rfl rfl ?_
         refine wx_step1 hok 4 rfl rfl rfl rfl ?_
         refine wl_buildSlice rfl rfl rfl (freshS_eq rfl) rfl tE_34 tS_27 tZ_27 rfl (zs := []) (by kernel_rfl) rfl (out := []) rfl (fun g48 => ?_)
         refine wl_nil ?_
         refine we_x [0, 1, 2, 3] [4, 4] rfl rfl ?_
         refine wx_step1 hok 7 rfl rfl rfl rfl ?_
         refine wl_row (sz := 3) (m := 0) vRep [] 0 rfl (fun F w hφ => rfl) rfl (by decide) (H' := [_,_,_,_,_,_,_]) rfl ?_
         refine wl_append 0 3 rfl rfl rfl (freshS_eq rfl) rfl rfl rfl rfl rfl tE_34 tR_27 rfl rfl (by simp; omega) (by simp; omega) (H2 := fun p51 c51 => [.own 27 3 vRep (.slice p51 (vals).length c51) vals, .blk g8 [.slice none 0 0, .slice none 0 0] 56, .own 4 1 bRep (.slice p47 (has).length c47) has, .blk g6 [.slice none 0 0, .slice none 0 0] 56, .blk g5 [.slice p1 has.length c1, .slice p2 vals.length c2] 56, .blk g4 [.int .i64 (f.id), .int .i64 (f.ty), .slice px f.args.length cx] 36, .blk g3 [.int .u8 (c.k), .int .i64 (c.ty), .slice pa c.args.length ca, t0, t1, t2, t3, t4, t5, t6] 33]) (fun _ _ => rfl) (fun p51 c51 => ?_)
         refine wl_nil ?_
         refine we_x [0, 1, 2, 3] [4] rfl rfl ?_
         refine wx_build hok 8 rfl rfl rfl (freshS_eq rfl) rfl rfl tZ_56 tP_56 rfl (out := [_,_]) rfl ?_
         refine wx_step1 hok 10 rfl rfl rfl rfl ?_
         refine wl_store 1 0 rfl rfl rfl rfl rfl rfl rfl tS_56 rfl rfl rfl (all' := [_,_]) rfl (H' := [_,_,_,_,_,_,_]) rfl ?_
         refine wl_nil ?_
         refine we_x [0, 1, 2, 3] [] rfl rfl ?_
         refine wx_done hok rfl ?_
         refine we_pick [1, 0, 2, 3, 4, 5, 6] rfl (H' := [_,_,_,_,_,_,_]) rfl ?_
         refine we_join (g44, p47, c47, g48, p51, c51, g8) trivial [8, 42, 7, 6, 5, 4, 3, 0, 1, 2] rfl (fun _ _ hφ => ask [0, 1, 2, 3] rfl hφ) rfl
       ·
        refine wl_buildSlice rfl rfl rfl (freshS_eq rfl) rfl tE_34 tS_27 tZ_27 rfl (zs := []) (by kernel_rfl) rfl (out := []) rfl (fun g48 => ?_)
        refine wl_nil ?_
        refine we_x [0, 1, 2, 3] [3, 3] rfl rfl ?_
        refine wx_step2 hok 3 9 rfl rfl rfl rfl rfl rfl ?_ ?_
        ·
         refine wl_row (sz := 1) (m := 0) bRep [] 1 rfl (fun F w hφ => rfl) rfl (by decide) (H' := [_,_,_,_,_,_]) rfl ?_
         refine wl_append 1 2 rfl rfl rfl (freshS_eq rfl) rfl rfl rfl rfl rfl tE_37 tR_4 rfl rfl (by simp; omega) (by simp; omega) (H2 := fun p47 c47 => [.blk g48 [] 27, .own 4 1 bRep (.slice p47 (has).length c47) has, .blk g6 [.slice none 0 0, .slice none 0 0] 56, .blk g5 [.slice p1 has.length c1, .slice p2 vals.length c2] 56, .blk g4 [.int .i64 (f.id), .int .i64 (f.ty), .slice px f.args.length cx] 36, .blk g3 [.int .u8 (c.k), .int .i64 (c.ty), .slice pa c.args.length ca, t0, t1, t2, t3, t4, t5, t6] 33]) (fun _ _ => rfl) (fun p47 c47 => ?_)
         refine wl_nil ?_
         refine we_x [0, 1, 2, 3] [3] rfl rfl ?_
         refine wx_step2 hok 7 9 rfl rfl rfl rfl rfl rfl ?_ ?_
         ·
          refine wl_row (sz := 3) (m := 0) vRep [] 0 rfl (fun F w hφ => rfl) rfl (by decide) (H' := [_,_,_,_,_,_]) rfl ?_
          refine wl_append 0 3 rfl rfl rfl (freshS_eq rfl) rfl rfl rfl rfl rfl tE_34 tR_27 rfl rfl (by simp; omega) (by simp; omega) (H2 := fun p51 c51 => [.own 27 3 vRep (.slice p51 (vals).length c51) vals, .own 4 1 bRep (.slice p47 (has).length c47) has, .blk g6 [.slice none 0 0, .slice none 0 0] 56, .blk g5 [.slice p1 has.length c1, .slice p2 vals.length c2] 56, .blk g4 [.int .i64 (f.id), .int .i64 (f.ty), .slice px f.args.length cx] 36, .blk g3 [.int .u8 (c.k), .int .i64 (c.ty), .slice pa c.args.length ca, t0, t1, t2, t3, t4, t5, t6] 33]) (fun _ _ => rfl) (fun p51 c51 => ?_)
          refine wl_nil ?_
          refine we_x [0, 1, 2, 3] [3] rfl rfl ?_
          refine wx_build hok 8 rfl rfl rfl (freshS_eq rfl) rfl rfl tZ_56 tP_56 rfl (out := [_,_]) rfl ?_
          refine wx_step1 hok 9 rfl rfl rfl rfl ?_
          refine wl_alloc rfl rfl rfl (freshS_eq rfl) rfl tZ_56 rfl (fun g8 => ?_)
          refine wl_nil ?_
          refine we_x [0, 1, 2, 3] [4, 4] rfl rfl ?_
          refine wx_step1 hok 10 rfl rfl rfl rfl ?_
          refine wl_store 0 0 rfl rfl rfl rfl rfl rfl rfl tS_56 rfl rfl rfl (all' := [_,_]) rfl (H' := [_,_,_,_,_,_,_]) rfl ?_
          refine wl_nil ?_
          refine we_x [0, 1, 2, 3] [] rfl rfl ?_
          refine wx_done hok rfl ?_
          refine we_join (g44, p47, c47, g48, p51, c51, g8) trivial [8, 42, 7, 6, 5, 4, 3, 0, 1, 2] rfl (fun _ _ hφ => ask [0, 1, 2, 3] rfl hφ) rfl
         ·
          refine wl_alloc rfl rfl rfl (freshS_eq rfl) rfl tZ_56 rfl (fun g8 => ?_)
          refine wl_nil ?_
          refine we_x [0, 1, 2, 3] [4, 4] rfl rfl ?_
          refine wx_step1 hok 7 rfl rfl rfl rfl ?_
          refine wl_row (sz := 3) (m := 0) vRep [] 1 rfl (fun F w hφ => rfl) rfl (by decide) (H' := [_,_,_,_,_,_,_]) rfl ?_
          refine wl_append 1 3 rfl rfl rfl (freshS_eq rfl) rfl rfl rfl rfl rfl tE_34 tR_27 rfl rfl (by simp; omega) (by simp; omega) (H2 := fun p51 c51 => [.blk g8 [.slice none 0 0, .slice none 0 0] 56, .own 27 3 vRep (.slice p51 (vals).length c51) vals, .own 4 1 bRep (.slice p47 (has).length c47) has, .blk g6 [.slice none 0 0, .slice none 0 0] 56, .blk g5 [.slice p1 has.length c1, .slice p2 vals.length c2] 56, .blk g4 [.int .i64 (f.id), .int .i64 (f.ty), .slice px f.args.length cx] 36, .blk g3 [.int .u8 (c.k), .int .i64 (c.ty), .slice pa c.args.length ca, t0, t1, t2, t3, t4, t5, t6] 33]) (fun _ _ => rfl) (fun p51 c51 => ?_)
          refine wl_nil ?_
          refine we_x [0, 1, 2, 3] [4] rfl rfl ?_
          refine wx_build hok 8 rfl rfl rfl (freshS_eq rfl) rfl rfl tZ_56 tP_56 rfl (out := [_,_]) rfl ?_
          refine wx_step1 hok 10 rfl rfl rfl rfl ?_
          refine wl_store 0 0 rfl rfl rfl rfl rfl rfl rfl tS_56 rfl rfl rfl (all' := [_,_]) rfl (H' := [_,_,_,_,_,_,_]) rfl ?_
          refine wl_nil ?_
          refine we_x [0, 1, 2, 3] [] rfl rfl ?_
          refine wx_done hok rfl ?_
          refine we_join (g44, p47, c47, g48, p51, c51, g8) trivial [8, 42, 7, 6, 5, 4, 3, 0, 1, 2] rfl (fun _ _ hφ => ask [0, 1, 2, 3] rfl hφ) rfl
        ·
         refine wl_alloc rfl rfl rfl (freshS_eq rfl) rfl tZ_56 rfl (fun g8 => ?_)
         refine wl_nil ?_
         refine we_x [0, 1, 2, 3] [4, 4] rfl rfl ?_
         refine wx_step1 hok 3 rfl rfl rfl rfl ?_
         refine wl_row (sz := 1) (m := 0) bRep [] 2 rfl (fun F w hφ => rfl) rfl (by decide) (H' := [_,_,_,_,_,_,_]) rfl ?_
         refine wl_append 2 2 rfl rfl rfl (freshS_eq rfl) rfl rfl rfl rfl rfl tE_37 tR_4 rfl rfl (by simp; omega) (by simp; omega) (H2 := fun p47 c47 => [.blk g8 [.slice none 0 0, .slice none 0 0] 56, .blk g48 [] 27, .own 4 1 bRep (.slice p47 (has).length c47) has, .blk g6 [.slice none 0 0, .slice none 0 0] 56, .blk g5 [.slice p1 has.length c1, .slice p2 vals.length c2] 56, .blk g4 [.int .i64 (f.id), .int .i64 (f.ty), .slice px f.args.length cx] 36, .blk g3 [.int .u8 (c.k), .int .i64 (c.ty), .slice pa c.args.length ca, t0, t1, t2, t3, t4, t5, t6] 33]) (fun _ _ => rfl) (fun p47 c47 => ?_)
         refine wl_nil ?_
         refine we_x [0, 1, 2, 3] [4] rfl rfl ?_
         refine wx_step1 hok 7 rfl rfl rfl rfl ?_
         refine wl_row (sz := 3) (m := 0) vRep [] 1 rfl (fun F w hφ => rfl) rfl (by decide) (H' := [_,_,_,_,_,_,_]) rfl ?_
         refine wl_append 1 3 rfl rfl rfl (freshS_eq rfl) rfl rfl rfl rfl rfl tE_34 tR_27 rfl rfl (by simp; omega) (by simp; omega) (H2 := fun p51 c51 => [.blk g8 [.slice none 0 0, .slice none 0 0] 56, .own 27 3 vRep (.slice p51 (vals).length c51) vals, .own 4 1 bRep (.slice p47 (has).length c47) has, .blk g6 [.slice none 0 0, .slice none 0 0] 56, .blk g5 [.slice p1 has.length c1, .slice p2 vals.length c2] 56, .blk g4 [.int .i64 (f.id), .int .i64 (f.ty), .slice px f.args.length cx] 36, .blk g3 [.int .u8 (c.k), .int .i64 (c.ty), .slice pa c.args.length ca, t0, t1, t2, t3, t4, t5, t6] 33]) (fun _ _ => rfl) (fun p51 c51 => ?_)
         refine wl_nil ?_
         refine we_x [0, 1, 2, 3] [4] rfl rfl ?_
         refine wx_build hok 8 rfl rfl rfl (freshS_eq rfl) rfl rfl tZ_56 tP_56 rfl (out := [_,_]) rfl ?_
         refine wx_step1 hok 10 rfl rfl rfl rfl ?_
         refine wl_store 0 0 rfl rfl rfl rfl rfl rfl rfl tS_56 rfl rfl rfl (all' := [_,_]) rfl (H' := [_,_,_,_,_,_,_]) rfl ?_
         refine wl_nil ?_
         refine we_x [0, 1, 2, 3] [] rfl rfl ?_
         refine wx_done hok rfl ?_
         refine we_join (g44, p47, c47, g48, p51, c51, g8) trivial [8, 42, 7, 6, 5, 4, 3, 0, 1, 2] rfl (fun _ _ hφ => ask [0, 1, 2, 3] rfl hφ) rfl
       ·
        refine wl_alloc rfl rfl rfl (freshS_eq rfl) rfl tZ_56 rfl (fun g8 => ?_)
        refine wl_nil ?_
        refine we_x [0, 1, 2, 3] [3, 3] rfl rfl ?_
        refine wx_step2 hok 3 4 rfl rfl rfl rfl rfl rfl ?_ ?_
        ·
         refine wl_row (sz := 1) (m := 0) bRep [] 1 rfl (fun F w hφ => rfl) rfl (by decide) (H' := [_,_,_,_,_,_]) rfl ?_
         refine wl_append 1 2 rfl rfl rfl (freshS_eq rfl) rfl rfl rfl rfl rfl tE_37 tR_4 rfl rfl (by simp; omega) (by simp; omega) (H2 := fun p47 c47 => [.blk g8 [.slice none 0 0, .slice none 0 0] 56, .own 4 1 bRep (.slice p47 (has).length c47) has, .blk g6 [.slice none 0 0, .slice none 0 0] 56, .blk g5 [.slice p1 has.length c1, .slice p2 vals.length c2] 56, .blk g4 [.int .i64 (f.id), .int .i64 (f.ty), .slice px f.args.length cx] 36, .blk g3 [.int .u8 (c.k), .int .i64 (c.ty), .slice pa c.args.length ca, t0, t1, t2, t3, t4, t5, t6] 33]) (fun _ _ => rfl) (fun p47 c47 => ?_)
         refine wl_nil ?_
         refine we_x [0, 1, 2, 3] [3] rfl rfl ?_
         refine wx_step1 hok 4 rfl rfl rfl rfl ?_
         refine wl_buildSlice rfl rfl rfl (freshS_eq rfl) rfl tE_34 tS_27 tZ_27 rfl (zs := []) (by kernel_rfl) rfl (out := []) rfl (fun g48 => ?_)
         refine wl_nil ?_
         refine we_x [0, 1, 2, 3] [4, 4] rfl rfl ?_
         refine wx_step1 hok 7 rfl rfl rfl rfl ?_
         refine wl_row (sz := 3) (m := 0) vRep [] 0 rfl (fun F w hφ => rfl) rfl (by decide) (H' := [_,_,_,_,_,_,_]) rfl ?_
         refine wl_append 0 3 rfl rfl rfl (freshS_eq rfl) rfl rfl rfl rfl rfl tE_34 tR_27 rfl rfl (by simp; omega) (by simp; omega) (H2 := fun p51 c51 => [.own 27 3 vRep (.slice p51 (vals).length c51) vals, .blk g8 [.slice none 0 0, .slice none 0 0] 56, .own 4 1 bRep (.slice p47 (has).length c47) has, .blk g6 [.slice none 0 0, .slice none 0 0] 56, .blk g5 [.slice p1 has.length c1, .slice p2 vals.length c2] 56, .blk g4 [.int .i64 (f.id), .int .i64 (f.ty), .slice px f.args.length cx] 36, .blk g3 [.int .u8 (c.k), .int .i64 (c.ty), .slice pa c.args.length ca, t0, t1, t2, t3, t4, t5, t6] 33]) (fun _ _ => rfl) (fun p51 c51 => ?_)
         refine wl_nil ?_
         refine we_x [0, 1, 2, 3] [4] rfl rfl ?_
         refine wx_build hok 8 rfl rfl rfl (freshS_eq rfl) rfl rfl tZ_56 tP_56 rfl (out := [_,_]) rfl ?_
         refine wx_step1 hok 10 rfl rfl rfl rfl ?_
         refine wl_store 1 0 rfl rfl rfl rfl rfl rfl rfl tS_56 rfl rfl rfl (all' := [_,_]) rfl (H' := [_,_,_,_,_,_,_]) rfl ?_
         refine wl_nil ?_
         refine we_x [0, 1, 2, 3] [] rfl rfl ?_
         refine wx_done hok rfl ?_
         refine we_pick [1, 0, 2, 3, 4, 5, 6] rfl (H' := [_,_,_,_,_,_,_]) rfl ?_
         refine we_join (g44, p47, c47, g48, p51, c51, g8) trivial [8, 42, 7, 6, 5, 4, 3, 0, 1, 2] rfl (fun _ _ hφ => ask [0, 1, 2, 3] rfl hφ) rfl
        ·
         refine wl_buildSlice rfl rfl rfl (freshS_eq rfl) rfl tE_34 tS_27 tZ_27 rfl (zs := []) (by kernel_rfl) rfl (out := []) rfl (fun g48 => ?_)
         refine wl_nil ?_
         refine we_x [0, 1, 2, 3] [4, 4] rfl rfl ?_
         refine wx_step1 hok 3 rfl rfl rfl rfl ?_
         refine wl_row (sz := 1) (m := 0) bRep [] 2 rfl (fun F w hφ => rfl) rfl (by decide) (H' := [_,_,_,_,_,_,_]) rfl ?_
         refine wl_append 2 2 rfl rfl rfl (freshS_eq rfl) rfl rfl rfl rfl rfl tE_37 tR_4 rfl rfl (by simp; omega) (by simp; omega) (H2 := fun p47 c47 => [.blk g48 [] 27, .blk g8 [.slice none 0 0, .slice none 0 0] 56, .own 4 1 bRep (.slice p47 (has).length c47) has, .blk g6 [.slice none 0 0, .slice none 0 0] 56, .blk g5 [.slice p1 has.length c1, .slice p2 vals.length c2] 56, .blk g4 [.int .i64 (f.id), .int .i64 (f.ty), .slice px f.args.length cx] 36, .blk g3 [.int .u8 (c.k), .int .i64 (c.ty), .slice pa c.args.length ca, t0, t1, t2, t3, t4, t5, t6] 33]) (fun _ _ => rfl) (fun p47 c47 => ?_)
         refine wl_nil ?_
         refine we_x [0, 1, 2, 3] [4] rfl rfl ?_
         refine wx_step1 hok 7 rfl rfl rfl rfl ?_
         refine wl_row (sz := 3) (m := 0) vRep [] 0 rfl (fun F w hφ => rfl) rfl (by decide) (H' := [_,_,_,_,_,_,_]) rfl ?_
         refine wl_append 0 3 rfl rfl rfl (freshS_eq rfl) rfl rfl rfl rfl rfl tE_34 tR_27 rfl rfl (by simp; omega) (by simp; omega) (H2 := fun p51 c51 => [.own 27 3 vRep (.slice p51 (vals).length c51) vals, .blk g8 [.slice none 0 0, .slice none 0 0] 56, .own 4 1 bRep (.slice p47 (has).length c47) has, .blk g6 [.slice none 0 0, .slice none 0 0] 56, .blk g5 [.slice p1 has.length c1, .slice p2 vals.length c2] 56, .blk g4 [.int .i64 (f.id), .int .i64 (f.ty), .slice px f.args.length cx] 36, .blk g3 [.int .u8 (c.k), .int .i64 (c.ty), .slice pa c.args.length ca, t0, t1, t2, t3, t4, t5, t6] 33]) (fun _ _ => rfl) (fun p51 c51 => ?_)
         refine wl_nil ?_
         refine we_x [0, 1, 2, 3] [4] rfl rfl ?_
         refine wx_build hok 8 rfl rfl rfl (freshS_eq rfl) rfl rfl tZ_56 tP_56 rfl (out := [_,_]) rfl ?_
         refine wx_step1 hok 10 rfl rfl rfl rfl ?_
         refine wl_store 1 0 rfl rfl rfl rfl rfl rfl rfl tS_56 rfl rfl rfl (all' := [_,_]) rfl (H' := [_,_,_,_,_,_,_]) rfl ?_
         refine wl_nil ?_
         refine we_x [0, 1, 2, 3] [] rfl rfl ?_
         refine wx_done hok rfl ?_
         refine we_pick [1, 0, 2, 3, 4, 5, 6] rfl (H' := [_,_,_,_,_,_,_]) rfl ?_
         refine we_join (g44, p47, c47, g48, p51, c51, g8) trivial [8, 42, 7, 6, 5, 4, 3, 0, 1, 2] rfl (fun _ _ hφ => ask [0, 1, 2, 3] rfl hφ) rfl
      ·
       refine wl_buildSlice rfl rfl rfl (freshS_eq rfl) rfl tE_34 tS_27 tZ_27 rfl (zs := []) (by kernel_rfl) rfl (out := []) rfl (fun g48 => ?_)
       refine wl_nil ?_
       refine we_x [0, 1, 2, 3] [2, 2] rfl rfl ?_
       refine wx_step2 hok 0 9 rfl rfl rfl rfl rfl rfl ?_ ?_
       ·
        refine wl_buildSlice rfl rfl rfl (freshS_eq rfl) rfl tE_37 tS_4 tZ_4 rfl (zs := []) (by kernel_rfl) rfl (out := []) rfl (fun g44 => ?_)
        refine wl_nil ?_
        refine we_x [0, 1, 2, 3] [3, 3] rfl rfl ?_
        refine wx_step2 hok 3 9 rfl rfl rfl rfl rfl rfl ?_ ?_
        ·
         refine wl_row (sz := 1) (m := 0) bRep [] 0 rfl (fun F w hφ => rfl) rfl (by decide) (H' := [_,_,_,_,_,_]) rfl ?_
         refine wl_append 0 2 rfl rfl rfl (freshS_eq rfl) rfl rfl rfl rfl rfl tE_37 tR_4 rfl rfl (by simp; omega) (by simp; omega) (H2 := fun p47 c47 => [.own 4 1 bRep (.slice p47 (has).length c47) has, .blk g48 [] 27, .blk g6 [.slice none 0 0, .slice none 0 0] 56, .blk g5 [.slice p1 has.length c1, .slice p2 vals.length c2] 56, .blk g4 [.int .i64 (f.id), .int .i64 (f.ty), .slice px f.args.length cx] 36, .blk g3 [.int .u8 (c.k), .int .i64 (c.ty), .slice pa c.args.length ca, t0, t1, t2, t3, t4, t5, t6] 33]) (fun _ _ => rfl) (fun p47 c47 => ?_)
         refine wl_nil ?_
         refine we_x [0, 1, 2, 3] [3] rfl rfl ?_
         refine wx_step2 hok 7 9 rfl rfl rfl rfl rfl rfl ?_ ?_
         ·
          refine wl_row (sz := 3) (m := 0) vRep [] 1 rfl (fun F w hφ => rfl) rfl (by decide) (H' := [_,_,_,_,_,_]) rfl ?_
          refine wl_append 1 3 rfl rfl rfl (freshS_eq rfl) rfl rfl rfl rfl rfl tE_34 tR_27 rfl rfl (by simp; omega) (by simp; omega) (H2 := fun p51 c51 => [.own 4 1 bRep (.slice p47 (has).length c47) has, .own 27 3 vRep (.slice p51 (vals).length c51) vals, .blk g6 [.slice none 0 0, .slice none 0 0] 56, .blk g5 [.slice p1 has.length c1, .slice p2 vals.length c2] 56, .blk g4 [.int .i64 (f.id), .int .i64 (f.ty), .slice px f.args.length cx] 36, .blk g3 [.int .u8 (c.k), .int .i64 (c.ty), .slice pa c.args.length ca, t0, t1, t2, t3, t4, t5, t6] 33]) (fun _ _ => rfl) (fun p51 c51 => ?_)
          refine wl_nil ?_
          refine we_x [0, 1, 2, 3] [3] rfl rfl ?_
          refine wx_build hok 8 rfl rfl rfl (freshS_eq rfl) rfl rfl tZ_56 tP_56 rfl (out := [_,_]) rfl ?_
          refine wx_step1 hok 9 rfl rfl rfl rfl ?_
          refine wl_alloc rfl rfl rfl (freshS_eq rfl) rfl tZ_56 rfl (fun g8 => ?_)
          refine wl_nil ?_
          refine we_x [0, 1, 2, 3] [4, 4] rfl rfl ?_
          refine wx_step1 hok 10 rfl rfl rfl rfl ?_
          refine wl_store 0 0 rfl rfl rfl rfl rfl rfl rfl tS_56 rfl rfl rfl (all' := [_,_]) rfl (H' := [_,_,_,_,_,_,_]) rfl ?_
          refine wl_nil ?_
          refine we_x [0, 1, 2, 3] [] rfl rfl ?_
          refine wx_done hok rfl ?_
          refine we_pick [0, 2, 1, 3, 4, 5, 6] rfl (H' := [_,_,_,_,_,_,_]) rfl ?_
          refine we_join (g44, p47, c47, g48, p51, c51, g8) trivial [8, 42, 7, 6, 5, 4, 3, 0, 1, 2] rfl (fun _ _ hφ => ask [0, 1, 2, 3] rfl hφ) rfl
         ·
          refine wl_alloc rfl rfl rfl (freshS_eq rfl) rfl tZ_56 rfl (fun g8 => ?_)
          refine wl_nil ?_
          refine we_x [0, 1, 2, 3] [4, 4] rfl rfl ?_
          refine wx_step1 hok 7 rfl rfl rfl rfl ?_
          refine wl_row (sz := 3) (m := 0) vRep [] 2 rfl (fun F w hφ => rfl) rfl (by decide) (H' := [_,_,_,_,_,_,_]) rfl ?_
          refine wl_append 2 3 rfl rfl rfl (freshS_eq rfl) rfl rfl rfl rfl rfl tE_34 tR_27 rfl rfl (by simp; omega) (by simp; omega) (H2 := fun p51 c51 => [.blk g8 [.slice none 0 0, .slice none 0 0] 56, .own 4 1 bRep (.slice p47 (has).length c47) has, .own 27 3 vRep (.slice p51 (vals).length c51) vals, .blk g6 [.slice none 0 0, .slice none 0 0] 56, .blk g5 [.slice p1 has.length c1, .slice p2 vals.length c2] 56, .blk g4 [.int .i64 (f.id), .int .i64 (f.ty), .slice px f.args.length cx] 36, .blk g3 [.int .u8 (c.k), .int .i64 (c.ty), .slice pa c.args.length ca, t0, t1, t2, t3, t4, t5, t6] 33]) (fun _ _ => rfl) (fun p51 c51 => ?_)
          refine wl_nil ?_
          refine we_x [0, 1, 2, 3] [4] rfl rfl ?_
          refine wx_build hok 8 rfl rfl rfl (freshS_eq rfl) rfl rfl tZ_56 tP_56 rfl (out := [_,_]) rfl ?_
          refine wx_step1 hok 10 rfl rfl rfl rfl ?_
          refine wl_store 0 0 rfl rfl rfl rfl rfl rfl rfl tS_56 rfl rfl rfl (all' := [_,_]) rfl (H' := [_,_,_,_,_,_,_]) rfl ?_
          refine wl_nil ?_
          refine we_x [0, 1, 2, 3] [] rfl rfl ?_
          refine wx_done hok rfl ?_
          refine we_pick [0, 2, 1, 3, 4, 5, 6] rfl (H' := [_,_,_,_,_,_,_]) rfl ?_
          refine we_join (g44, p47, c47, g48, p51, c51, g8) trivial [8, 42, 7, 6, 5, 4, 3, 0, 1, 2] rfl (fun _ _ hφ => ask [0, 1, 2, 3] rfl hφ) rfl
        ·
         refine wl_alloc rfl rfl rfl (freshS_eq rfl) rfl tZ_56 rfl (fun g8 => ?_)
         refine wl_nil ?_
         refine we_x [0, 1, 2, 3] [4, 4] rfl rfl ?_
         refine wx_step1 hok 3 rfl rfl rfl rfl ?_
         refine wl_row (sz := 1) (m := 0) bRep [] 1 rfl (fun F w hφ => rfl) rfl (by decide) (H' := [_,_,_,_,_,_,_]) rfl ?_
         refine wl_append 1 2 rfl rfl rfl (freshS_eq rfl) rfl rfl rfl rfl rfl tE_37 tR_4 rfl rfl (by simp; omega) (by simp; omega) (H2 := fun p47 c47 => [.blk g8 [.slice none 0 0, .slice none 0 0] 56, .own 4 1 bRep (.slice p47 (has).length c47) has, .blk g48 [] 27, .blk g6 [.slice none 0 0, .slice none 0 0] 56, .blk g5 [.slice p1 has.length c1, .slice p2 vals.length c2] 56, .blk g4 [.int .i64 (f.id), .int .i64 (f.ty), .slice px f.args.length cx] 36, .blk g3 [.int .u8 (c.k), .int .i64 (c.ty), .slice pa c.args.length ca, t0, t1, t2, t3, t4, t5, t6] 33]) (fun _ _ => rfl) (fun p47 c47 => ?_)
         refine wl_nil ?_
         refine we_x [0, 1, 2, 3] [4] rfl rfl ?_
         refine wx_step1 hok 7 rfl rfl rfl rfl ?_
         refine wl_row (sz := 3) (m := 0) vRep [] 2 rfl (fun F w hφ => rfl) rfl (by decide) (H' := [_,_,_,_,_,_,_]) rfl ?_
         refine wl_append 2 3 rfl rfl rfl (freshS_eq rfl) rfl rfl rfl rfl rfl tE_34 tR_27 rfl rfl (by simp; omega) (by simp; omega) (H2 := fun p51 c51 => [.blk g8 [.slice none 0 0, .slice none 0 0] 56, .own 4 1 bRep (.slice p47 (has).length c47) has, .own 27 3 vRep (.slice p51 (vals).length c51) vals, .blk g6 [.slice none 0 0, .slice none 0 0] 56, .blk g5 [.slice p1 has.length c1, .slice p2 vals.length c2] 56, .blk g4 [.int .i64 (f.id), .int .i64 (f.ty), .slice px f.args.length cx] 36, .blk g3 [.int .u8 (c.k), .int .i64 (c.ty), .slice pa c.args.length ca, t0, t1, t2, t3, t4, t5, t6] 33]) (fun _ _ => rfl) (fun p51 c51 => ?_)
         refine wl_nil ?_
         refine we_x [0, 1, 2, 3] [4] rfl rfl ?_
         refine wx_build hok 8 rfl rfl rfl (freshS_eq rfl) rfl rfl tZ_56 tP_56 rfl (out := [_,_]) rfl ?_
         refine wx_step1 hok 10 rfl rfl rfl rfl ?_
         refine wl_store 0 0 rfl rfl rfl rfl rfl rfl rfl tS_56 rfl rfl rfl (all' := [_,_]) rfl (H' := [_,_,_,_,_,_,_]) rfl ?_
         refine wl_nil ?_
         refine we_x [0, 1, 2, 3] [] rfl rfl ?_
         refine wx_done hok rfl ?_
         refine we_pick [0, 2, 1, 3, 4, 5, 6] rfl (H' := [_,_,_,_,_,_,_]) rfl ?_
         refine we_join (g44, p47, c47, g48, p51, c51, g8) trivial [8, 42, 7, 6, 5, 4, 3, 0, 1, 2] rfl (fun _ _ hφ => ask [0, 1, 2, 3] rfl hφ) rfl
       ·
        refine wl_alloc rfl rfl rfl (freshS_eq rfl) rfl tZ_56 rfl (fun g8 => ?_)
        refine wl_nil ?_
        refine we_x [0, 1, 2, 3] [3, 3] rfl rfl ?_
        refine wx_step1 hok 0 rfl rfl rfl rfl ?_
        refine wl_buildSlice rfl rfl rfl (freshS_eq rfl) rfl tE_37 tS_4 tZ_4 rfl (zs := []) (by kernel_rfl) rfl (out := []) rfl (fun g44 => ?_)
        refine wl_nil ?_
        refine we_x [0, 1, 2, 3] [4, 4] rfl rfl ?_
        refine wx_step1 hok 3 rfl rfl rfl rfl ?_
        refine wl_row (sz := 1) (m := 0) bRep [] 0 rfl (fun F w hφ => rfl) rfl (by decide) (H' := [_,_,_,_,_,_,_]) rfl ?_
        refine wl_append 0 2 rfl rfl rfl (freshS_eq rfl) rfl rfl rfl rfl rfl tE_37 tR_4 rfl rfl (by simp; omega) (by simp; omega) (H2 := fun p47 c47 => [.own 4 1 bRep (.slice p47 (has).length c47) has, .blk g8 [.slice none 0 0, .slice none 0 0] 56, .blk g48 [] 27, .blk g6 [.slice none 0 0, .slice none 0 0] 56, .blk g5 [.slice p1 has.length c1, .slice p2 vals.length c2] 56, .blk g4 [.int .i64 (f.id), .int .i64 (f.ty), .slice px f.args.length cx] 36, .blk g3 [.int .u8 (c.k), .int .i64 (c.ty), .slice pa c.args.length ca, t0, t1, t2, t3, t4, t5, t6] 33]) (fun _ _ => rfl) (fun p47 c47 => ?_)
        refine wl_nil ?_
        refine we_x [0, 1, 2, 3] [4] rfl rfl ?_
        refine wx_step1 hok 7 rfl rfl rfl rfl ?_
        refine wl_row (sz := 3) (m := 0) vRep [] 2 rfl (fun F w hφ => rfl) rfl (by decide) (H' := [_,_,_,_,_,_,_]) rfl ?_
        refine wl_append 2 3 rfl rfl rfl (freshS_eq rfl) rfl rfl rfl rfl rfl tE_34 tR_27 rfl rfl (by simp; omega) (by simp; omega) (H2 := fun p51 c51 => [.own 4 1 bRep (.slice p47 (has).length c47) has, .blk g8 [.slice none 0 0, .slice none 0 0] 56, .own 27 3 vRep (.slice p51 (vals).length c51) vals, .blk g6 [.slice none 0 0, .slice none 0 0] 56, .blk g5 [.slice p1 has.length c1, .slice p2 vals.length c2] 56, .blk g4 [.int .i64 (f.id), .int .i64 (f.ty), .slice px f.args.length cx] 36, .blk g3 [.int .u8 (c.k), .int .i64 (c.ty), .slice pa c.args.length ca, t0, t1, t2, t3, t4, t5, t6] 33]) (fun _ _ => rfl) (fun p51 c51 => ?_)
        refine wl_nil ?_
        refine we_x [0, 1, 2, 3] [4] rfl rfl ?_
        refine wx_build hok 8 rfl rfl rfl (freshS_eq rfl) rfl rfl tZ_56 tP_56 rfl (out := [_,_]) rfl ?_
        refine wx_step1 hok 10 rfl rfl rfl rfl ?_
        refine wl_store 1 0 rfl rfl rfl rfl rfl rfl rfl tS_56 rfl rfl rfl (all' := [_,_]) rfl (H' := [_,_,_,_,_,_,_]) rfl ?_
        refine wl_nil ?_
        refine we_x [0, 1, 2, 3] [] rfl rfl ?_
        refine wx_done hok rfl ?_
        refine we_pick [1, 2, 0, 3, 4, 5, 6] rfl (H' := [_,_,_,_,_,_,_]) rfl ?_
        refine we_join (g44, p47, c47, g48, p51, c51, g8) trivial [8, 42, 7, 6, 5, 4, 3, 0, 1, 2] rfl (fun _ _ hφ => ask [0, 1, 2, 3] rfl hφ) rfl
      ·
       refine wl_alloc rfl rfl rfl (freshS_eq rfl) rfl tZ_56 rfl (fun g8 => ?_)
       refine wl_nil ?_
       refine we_x [0, 1, 2, 3] [2, 2] rfl rfl ?_
       refine wx_step2 hok 0 4 rfl rfl rfl rfl rfl rfl ?_ ?_
       ·
        refine wl_buildSlice rfl rfl rfl (freshS_eq rfl) rfl tE_37 tS_4 tZ_4 rfl (zs := []) (by kernel_rfl) rfl (out := []) rfl (fun g44 => ?_)
        refine wl_nil ?_
        refine we_x [0, 1, 2, 3] [3, 3] rfl rfl ?_
        refine wx_step2 hok 3 4 rfl rfl rfl rfl rfl rfl ?_ ?_
        ·
         refine wl_row (sz := 1) (m := 0) bRep [] 0 rfl (fun F w hφ => rfl) rfl (by decide) (H' := [_,_,_,_,_,_]) rfl ?_
         refine wl_append 0 2 rfl rfl rfl (freshS_eq rfl) rfl rfl rfl rfl rfl tE_37 tR_4 rfl rfl (by simp; omega) (by simp; omega) (H2 := fun p47 c47 => [.own 4 1 bRep (.slice p47 (has).length c47) has, .blk g8 [.slice none 0 0, .slice none 0 0] 56, .blk g6 [.slice none 0 0, .slice none 0 0] 56, .blk g5 [.slice p1 has.length c1, .slice p2 vals.length c2] 56, .blk g4 [.int .i64 (f.id), .int .i64 (f.ty), .slice px f.args.length cx] 36, .blk g3 [.int .u8 (c.k), .int .i64 (c.ty), .slice pa c.args.length ca, t0, t1, t2, t3, t4, t5, t6] 33]) (fun _ _ => rfl) (fun p47 c47 => ?_)
         refine wl_nil ?_
         refine we_x [0, 1, 2, 3] [3] rfl rfl ?_
         refine wx_step1 hok 4 rfl rfl rfl rfl ?_
         refine wl_buildSlice rfl rfl rfl (freshS_eq rfl) rfl tE_34 tS_27 tZ_27 rfl (zs := []) (by kernel_rfl) rfl (out := []) rfl (fun g48 => ?_)
         refine wl_nil ?_
         refine we_x [0, 1, 2, 3] [4, 4] rfl rfl ?_
         refine wx_step1 hok 7 rfl rfl rfl rfl ?_
         refine wl_row (sz := 3) (m := 0) vRep [] 0 rfl (fun F w hφ => rfl) rfl (by decide) (H' := [_,_,_,_,_,_,_]) rfl ?_
         refine wl_append 0 3 rfl rfl rfl (freshS_eq rfl) rfl rfl rfl rfl rfl tE_34 tR_27 rfl rfl (by simp; omega) (by simp; omega) (H2 := fun p51 c51 => [.own 27 3 vRep (.slice p51 (vals).length c51) vals, .own 4 1 bRep (.slice p47 (has).length c47) has, .blk g8 [.slice none 0 0, .slice none 0 0] 56, .blk g6 [.slice none 0 0, .slice none 0 0] 56, .blk g5 [.slice p1 has.length c1, .slice p2 vals.length c2] 56, .blk g4 [.int .i64 (f.id), .int .i64 (f.ty), .slice px f.args.length cx] 36, .blk g3 [.int .u8 (c.k), .int .i64 (c.ty), .slice pa c.args.length ca, t0, t1, t2, t3, t4, t5, t6] 33]) (fun _ _ => rfl) (fun p51 c51 => ?_)
         refine wl_nil ?_
         refine we_x [0, 1, 2, 3] [4] rfl rfl ?_
         refine wx_build hok 8 rfl rfl rfl (freshS_eq rfl) rfl rfl tZ_56 tP_56 rfl (out := [_,_]) rfl ?_
         refine wx_step1 hok 10 rfl rfl rfl rfl ?_
         refine wl_store 2 0 rfl rfl rfl rfl rfl rfl rfl tS_56 rfl rfl rfl (all' := [_,_]) rfl (H' := [_,_,_,_,_,_,_]) rfl ?_
         refine wl_nil ?_
         refine we_x [0, 1, 2, 3] [] rfl rfl ?_
         refine wx_done hok rfl ?_
         refine we_pick [2, 0, 1, 3, 4, 5, 6] rfl (H' := [_,_,_,_,_,_,_]) rfl ?_
         refine we_join (g44, p47, c47, g48, p51, c51, g8) trivial [8, 42, 7, 6, 5, 4, 3, 0, 1, 2] rfl (fun _ _ hφ => ask [0, 1, 2, 3] rfl hφ) rfl
        ·
         refine wl_buildSlice rfl rfl rfl (freshS_eq rfl) rfl tE_34 tS_27 tZ_27 rfl (zs := []) (by kernel_rfl) rfl (out := []) rfl (fun g48 => ?_)
         refine wl_nil ?_
         refine we_x [0, 1, 2, 3] [4, 4] rfl rfl ?_
         refine wx_step1 hok 3 rfl rfl rfl rfl ?_
         refine wl_row (sz := 1) (m := 0) bRep [] 1 rfl (fun F w hφ => rfl) rfl (by decide) (H' := [_,_,_,_,_,_,_]) rfl ?_
         refine wl_append 1 2 rfl rfl rfl (freshS_eq rfl) rfl rfl rfl rfl rfl tE_37 tR_4 rfl rfl (by simp; omega) (by simp; omega) (H2 := fun p47 c47 => [.blk g48 [] 27, .own 4 1 bRep (.slice p47 (has).length c47) has, .blk g8 [.slice none 0 0, .slice none 0 0] 56, .blk g6 [.slice none 0 0, .slice none 0 0] 56, .blk g5 [.slice p1 has.length c1, .slice p2 vals.length c2] 56, .blk g4 [.int .i64 (f.id), .int .i64 (f.ty), .slice px f.args.length cx] 36, .blk g3 [.int .u8 (c.k), .int .i64 (c.ty), .slice pa c.args.length ca, t0, t1, t2, t3, t4, t5, t6] 33]) (fun _ _ => rfl) (fun p47 c47 => ?_)
         refine wl_nil ?_
         refine we_x [0, 1, 2, 3] [4] rfl rfl ?_
         refine wx_step1 hok 7 rfl rfl rfl rfl ?_
         refine wl_row (sz := 3) (m := 0) vRep [] 0 rfl (fun F w hφ => rfl) rfl (by decide) (H' := [_,_,_,_,_,_,_]) rfl ?_
         refine wl_append 0 3 rfl rfl rfl (freshS_eq rfl) rfl rfl rfl rfl rfl tE_34 tR_27 rfl rfl (by simp; omega) (by simp; omega) (H2 := fun p51 c51 => [.own 27 3 vRep (.slice p51 (vals).length c51) vals, .own 4 1 bRep (.slice p47 (has).length c47) has, .blk g8 [.slice none 0 0, .slice none 0 0] 56, .blk g6 [.slice none 0 0, .slice none 0 0] 56, .blk g5 [.slice p1 has.length c1, .slice p2 vals.length c2] 56, .blk g4 [.int .i64 (f.id), .int .i64 (f.ty), .slice px f.args.length cx] 36, .blk g3 [.int .u8 (c.k), .int .i64 (c.ty), .slice pa c.args.length ca, t0, t1, t2, t3, t4, t5, t6] 33]) (fun _ _ => rfl) (fun p51 c51 => ?_)
         refine wl_nil ?_
         refine we_x [0, 1, 2, 3] [4] rfl rfl ?_
         refine wx_build hok 8 rfl rfl rfl (freshS_eq rfl) rfl rfl tZ_56 tP_56 rfl (out := [_,_]) rfl ?_
         refine wx_step1 hok 10 rfl rfl rfl rfl ?_
         refine wl_store 2 0 rfl rfl rfl rfl rfl rfl rfl tS_56 rfl rfl rfl (all' := [_,_]) rfl (H' := [_,_,_,_,_,_,_]) rfl ?_
         refine wl_nil ?_
         refine we_x [0, 1, 2, 3] [] rfl rfl ?_
         refine wx_done hok rfl ?_
         refine we_pick [2, 0, 1, 3, 4, 5, 6] rfl (H' := [_,_,_,_,_,_,_]) rfl ?_
         refine we_join (g44, p47, c47, g48, p51, c51, g8) trivial [8, 42, 7, 6, 5, 4, 3, 0, 1, 2] rfl (fun _ _ hφ => ask [0, 1, 2, 3] rfl hφ) rfl
       ·
        refine wl_buildSlice rfl rfl rfl (freshS_eq rfl) rfl tE_34 tS_27 tZ_27 rfl (zs := []) (by kernel_rfl) rfl (out := []) rfl (fun g48 => ?_)
        refine wl_nil ?_
        refine we_x [0, 1, 2, 3] [3, 3] rfl rfl ?_
        refine wx_step1 hok 0 rfl rfl rfl rfl ?_
        refine wl_buildSlice rfl rfl rfl (freshS_eq rfl) rfl tE_37 tS_4 tZ_4 rfl (zs := []) (by kernel_rfl) rfl (out := []) rfl (fun g44 => ?_)
        refine wl_nil ?_
        refine we_x [0, 1, 2, 3] [4, 4] rfl rfl ?_
        refine wx_step1 hok 3 rfl rfl rfl rfl ?_
        refine wl_row (sz := 1) (m := 0) bRep [] 0 rfl (fun F w hφ => rfl) rfl (by decide) (H' := [_,_,_,_,_,_,_]) rfl ?_
        refine wl_append 0 2 rfl rfl rfl (freshS_eq rfl) rfl rfl rfl rfl rfl tE_37 tR_4 rfl rfl (by simp; omega) (by simp; omega) (H2 := fun p47 c47 => [.own 4 1 bRep (.slice p47 (has).length c47) has, .blk g48 [] 27, .blk g8 [.slice none 0 0, .slice none 0 0] 56, .blk g6 [.slice none 0 0, .slice none 0 0] 56, .blk g5 [.slice p1 has.length c1, .slice p2 vals.length c2] 56, .blk g4 [.int .i64 (f.id), .int .i64 (f.ty), .slice px f.args.length cx] 36, .blk g3 [.int .u8 (c.k), .int .i64 (c.ty), .slice pa c.args.length ca, t0, t1, t2, t3, t4, t5, t6] 33]) (fun _ _ => rfl) (fun p47 c47 => ?_)
        refine wl_nil ?_
        refine we_x [0, 1, 2, 3] [4] rfl rfl ?_
        refine wx_step1 hok 7 rfl rfl rfl rfl ?_
        refine wl_row (sz := 3) (m := 0) vRep [] 1 rfl (fun F w hφ => rfl) rfl (by decide) (H' := [_,_,_,_,_,_,_]) rfl ?_
        refine wl_append 1 3 rfl rfl rfl (freshS_eq rfl) rfl rfl rfl rfl rfl tE_34 tR_27 rfl rfl (by simp; omega) (by simp; omega) (H2 := fun p51 c51 => [.own 4 1 bRep (.slice p47 (has).length c47) has, .own 27 3 vRep (.slice p51 (vals).length c51) vals, .blk g8 [.slice none 0 0, .slice none 0 0] 56, .blk g6 [.slice none 0 0, .slice none 0 0] 56, .blk g5 [.slice p1 has.length c1, .slice p2 vals.length c2] 56, .blk g4 [.int .i64 (f.id), .int .i64 (f.ty), .slice px f.args.length cx] 36, .blk g3 [.int .u8 (c.k), .int .i64 (c.ty), .slice pa c.args.length ca, t0, t1, t2, t3, t4, t5, t6] 33]) (fun _ _ => rfl) (fun p51 c51 => ?_)
        refine wl_nil ?_
        refine we_x [0, 1, 2, 3] [4] rfl rfl ?_
        refine wx_build hok 8 rfl rfl rfl (freshS_eq rfl) rfl rfl tZ_56 tP_56 rfl (out := [_,_]) rfl ?_
        refine wx_step1 hok 10 rfl rfl rfl rfl ?_
        refine wl_store 2 0 rfl rfl rfl rfl rfl rfl rfl tS_56 rfl rfl rfl (all' := [_,_]) rfl (H' := [_,_,_,_,_,_,_]) rfl ?_
        refine wl_nil ?_
        refine we_x [0, 1, 2, 3] [] rfl rfl ?_
        refine wx_done hok rfl ?_
        refine we_pick [2, 1, 0, 3, 4, 5, 6] rfl (H' := [_,_,_,_,_,_,_]) rfl ?_
        refine we_join (g44, p47, c47, g48, p51, c51, g8) trivial [8, 42, 7, 6, 5, 4, 3, 0, 1, 2] rfl (fun _ _ hφ => ask [0, 1, 2, 3] rfl hφ) rfl
     ·
      rintro ⟨g44, p47, c47, g48, p51, c51, g8⟩ _
      try dsimp only
      refine wc_seq ?_
      refine wc_seq ?_
      refine wc_region ?_
      refine wl_pure rfl rfl rfl (freshS_eq rfl) rfl ?_
      refine wl_nil ?_
      refine we_then ?_
      refine wc_block ?_
      refine wc_loop (σ := Nat × List Bool × List V) (fun s => s.1 ≤ c.args.length ∧ fitTo c.args f.args has vals s.1 = some (s.2.1, s.2.2)) (fun s => c.args.length - s.1) (fun s => [(9, .int .i64 ((s.1 : Nat) : Int)), (8, .pointer (some ⟨g8, 0, none⟩)), (42, .bool (((f.args.length : Nat) : Int) != ((c.args.length : Nat) : Int))), (7, .bool false), (6, .pointer (some ⟨g6, 0, none⟩)), (5, .pointer (some ⟨g5, 0, none⟩)), (4, .pointer (some ⟨g4, 0, none⟩)), (3, .pointer (some ⟨g3, 0, none⟩)), (0, .agg #[.int .u8 (c.k), .int .i64 (c.ty), .slice pa c.args.length ca, t0, t1, t2, t3, t4, t5, t6]), (1, .agg #[.int .i64 (f.id), .int .i64 (f.ty), .slice px f.args.length cx]), (2, .agg #[.slice p1 has.length c1, .slice p2 vals.length c2])]) (fun s => [.sli 5 aRep pa ca c.args, .sli 3 vRep px cx f.args, .sli 1 bRep p1 c1 has, .sli 3 vRep p2 c2 vals]) (fun s => [.blk g8 [.slice p47 (has).length c47, .slice p51 (vals).length c51] 56, .own 27 3 vRep (.slice p51 (vals).length c51) s.2.2, .own 4 1 bRep (.slice p47 (has).length c47) s.2.1, .blk g6 [.slice none 0 0, .slice none 0 0] 56, .blk g5 [.slice p1 has.length c1, .slice p2 vals.length c2] 56, .blk g4 [.int .i64 (f.id), .int .i64 (f.ty), .slice px f.args.length cx] 36, .blk g3 [.int .u8 (c.k), .int .i64 (c.ty), .slice pa c.args.length ca, t0, t1, t2, t3, t4, t5, t6] 33]) (0, has, vals) ⟨by simp, rfl⟩ [9, 8, 42, 7, 6, 5, 4, 3, 0, 1, 2] rfl (fun _ _ hφ => ask [0, 1, 2, 3] rfl hφ) rfl (fun s1 oks1 => ?_)
      have hlen := fitTo_len oks1.2
      have hq := hlen
      have hmade := (hb15.1 h17).1
      refine wc_ownLen 2 rfl (fun hm0 hp0 => ?_)
      refine wc_ownLen 1 rfl (fun hm1 hp1 => ?_)
      refine wc_seq ?_
      refine wc_seq ?_
      refine wc_region ?_
      refine wl_pure rfl rfl rfl (freshS_eq rfl) rfl ?_
      refine wl_fieldAddr rfl rfl rfl (freshS_eq rfl) rfl rfl tF_33_2 ?_
      refine wl_loadH 6 2 rfl rfl rfl (freshS_eq rfl) rfl rfl rfl (cs := [_]) rfl tS_23 tA_23 rfl rfl ?_
      refine wl_len rfl rfl rfl (freshS_eq rfl) rfl rfl tE_23 ?_
      refine wl_pure rfl rfl rfl (freshS_eq rfl) rfl ?_
      refine wl_nil ?_
      refine we_then ?_
      refine wc_keep [57, 9, 8, 42, 7, 6, 5, 4, 3, 0, 1, 2] (S' := [_,_,_,_,_,_,_,_,_,_,_,_]) rfl ?_
      refine wc_cond rfl (fun h57 => ?_) (fun h57 => ?_)
      ·
       replace h57 := of_decide_eq_true h57
       refine wc_skip ?_
       refine we_then ?_
       refine wc_seq ?_
       refine wc_block ?_
       refine wc_seq ?_
       refine wc_cut (σ := Nat × Nat × ArgD × Unit × Nat × Nat × V × Unit × Nat × Nat) (fun (b63, q63, x63, r63, b68, q68, x68, r68, g10, g11) => c.args[s1.1]? = some x63 ∧ x63.ok ∧ f.args[s1.1]? = some x68 ∧ x68.ok) (fun (b63, q63, x63, r63, b68, q68, x68, r68, g10, g11) => [(11, .pointer (some ⟨g11, 0, none⟩)), (10, .pointer (some ⟨g10, 0, none⟩)), (57, .bool (decide (((s1.1 : Nat) : Int) < ((c.args.length : Nat) : Int)))), (9, .int .i64 ((s1.1 : Nat) : Int)), (8, .pointer (some ⟨g8, 0, none⟩)), (42, .bool (((f.args.length : Nat) : Int) != ((c.args.length : Nat) : Int))), (7, .bool false), (6, .pointer (some ⟨g6, 0, none⟩)), (5, .pointer (some ⟨g5, 0, none⟩)), (4, .pointer (some ⟨g4, 0, none⟩)), (3, .pointer (some ⟨g3, 0, none⟩)), (0, .agg #[.int .u8 (c.k), .int .i64 (c.ty), .slice pa c.args.length ca, t0, t1, t2, t3, t4, t5, t6]), (1, .agg #[.int .i64 (f.id), .int .i64 (f.ty), .slice px f.args.length cx]), (2, .agg #[.slice p1 has.length c1, .slice p2 vals.length c2])]) (fun (b63, q63, x63, r63, b68, q68, x68, r68, g10, g11) => [.cells b68 q68 ([.int .u8 (x68.k), .int .i64 (x68.n), .string x68.s]), .rep vRep [.int .u8 (x68.k), .int .i64 (x68.n), .string x68.s] x68, .cells b63 q63 ([.int .u8 (x63.k), .int .i64 (x63.var), .int .u8 (x63.v.k), .int .i64 (x63.v.n), .string x63.v.s]), .rep aRep [.int .u8 (x63.k), .int .i64 (x63.var), .int .u8 (x63.v.k), .int .i64 (x63.v.n), .string x63.v.s] x63, .sli 5 aRep pa ca c.args, .sli 3 vRep px cx f.args, .sli 1 bRep p1 c1 has, .sli 3 vRep p2 c2 vals]) (fun (b63, q63, x63, r63, b68, q68, x68, r68, g10, g11) => [.blk g11 [.int .u8 (x68.k), .int .i64 (x68.n), .string x68.s] 27, .blk g10 [.int .u8 (x63.k), .int .i64 (x63.var), .int .u8 (x63.v.k), .int .i64 (x63.v.n), .string x63.v.s] 48, .blk g8 [.slice p47 (has).length c47, .slice p51 (vals).length c51] 56, .own 27 3 vRep (.slice p51 (vals).length c51) s1.2.2, .own 4 1 bRep (.slice p47 (has).length c47) s1.2.1, .blk g6 [.slice none 0 0, .slice none 0 0] 56, .blk g5 [.slice p1 has.length c1, .slice p2 vals.length c2] 56, .blk g4 [.int .i64 (f.id), .int .i64 (f.ty), .slice px f.args.length cx] 36, .blk g3 [.int .u8 (c.k), .int .i64 (c.ty), .slice pa c.args.length ca, t0, t1, t2, t3, t4, t5, t6] 33]) ?_ ?_
       ·
        refine wc_draw [0, 1, 2, 3, 4, 5, 6, 7, 8, 9] rfl rfl (fun hok => ?_)
        refine wx_fieldAddr hok 0 rfl rfl rfl (freshS_eq rfl) rfl rfl rfl tF_33_2 ?_
        refine wx_loadH hok 1 6 2 rfl rfl rfl (freshS_eq rfl) rfl rfl rfl rfl (cs := [_]) rfl tS_23 tA_23 rfl rfl ?_
        refine wx_pure hok 2 rfl rfl rfl (freshS_eq rfl) rfl rfl ?_
        refine wx_index hok 3 0 s1.1 rfl rfl rfl (freshS_eq rfl) rfl rfl rfl rfl rfl rfl (by omega) tE_23 tS_48 (fun b63 q63 cs63 x63 hx63 hlx63 => ?_)
        refine wx_openR aRep_opens 1 rfl (fun r63 er63 okx63 => ?_)
        subst er63
        refine wx_load hok 4 0 0 rfl rfl rfl (freshS_eq rfl) rfl rfl rfl rfl (cs := [_,_,_,_,_]) rfl tS_48 tA_48 rfl rfl ?_
        refine wx_fieldAddr hok 5 rfl rfl rfl (freshS_eq rfl) rfl rfl rfl tF_36_2 ?_
        refine wx_loadH hok 6 5 2 rfl rfl rfl (freshS_eq rfl) rfl rfl rfl rfl (cs := [_]) rfl tS_34 tA_34 rfl rfl ?_
        refine wx_pure hok 7 rfl rfl rfl (freshS_eq rfl) rfl rfl ?_
        refine wx_index hok 8 3 s1.1 rfl rfl rfl (freshS_eq rfl) rfl rfl rfl rfl rfl rfl (by omega) tE_34 tS_27 (fun b68 q68 cs68 x68 hx68 hlx68 => ?_)
        refine wx_openR vRep_opens 1 rfl (fun r68 er68 okx68 => ?_)
        subst er68
        refine wx_load hok 9 0 0 rfl rfl rfl (freshS_eq rfl) rfl rfl rfl rfl (cs := [_,_,_]) rfl tS_27 tA_27 rfl rfl ?_
        refine wx_step2 hok 10 11 rfl rfl rfl rfl rfl rfl ?_ ?_
        ·
         refine wl_alloc rfl rfl rfl (freshS_eq rfl) rfl tZ_48 rfl (fun g10 => ?_)
         refine wl_nil ?_
         refine we_x [0, 1, 2, 3, 4, 5, 6, 7] [6, 7] rfl rfl ?_
         refine wx_step1 hok 11 rfl rfl rfl rfl ?_
         refine wl_alloc rfl rfl rfl (freshS_eq rfl) rfl tZ_27 rfl (fun g11 => ?_)
         refine wl_nil ?_
         refine we_x [0, 1, 2, 3, 4, 5, 6, 7] [7, 8] rfl rfl ?_
         refine wx_step1 hok 12 rfl rfl rfl rfl ?_
         refine wl_store 1 0 rfl rfl rfl rfl rfl rfl rfl tS_48 rfl rfl rfl (all' := [_,_,_,_,_]) rfl (H' := [_,_,_,_,_,_,_,_,_]) rfl ?_
         refine wl_nil ?_
         refine we_x [0, 1, 2, 3, 4, 5, 6, 7] [7] rfl rfl ?_
         refine wx_step1 hok 13 rfl rfl rfl rfl ?_
         refine wl_store 0 0 rfl rfl rfl rfl rfl rfl rfl tS_27 rfl rfl rfl (all' := [_,_,_]) rfl (H' := [_,_,_,_,_,_,_,_,_]) rfl ?_
         refine wl_nil ?_
         refine we_x [0, 1, 2, 3, 4, 5, 6, 7] [] rfl rfl ?_
         refine wx_done hok rfl ?_
         refine we_join (b63, q63, x63, r63, b68, q68, x68, r68, g10, g11) ⟨hx63, okx63, hx68, okx68⟩ [11, 10, 57, 9, 8, 42, 7, 6, 5, 4, 3, 0, 1, 2] rfl (fun _ _ hφ => ask [0, 1, 2, 3, 4, 5, 6, 7] rfl hφ) rfl
        ·
         refine wl_alloc rfl rfl rfl (freshS_eq rfl) rfl tZ_27 rfl (fun g11 => ?_)
         refine wl_nil ?_
         refine we_x [0, 1, 2, 3, 4, 5, 6, 7] [6, 7] rfl rfl ?_
         refine wx_step1 hok 10 rfl rfl rfl rfl ?_
         refine wl_alloc rfl rfl rfl (freshS_eq rfl) rfl tZ_48 rfl (fun g10 => ?_)
         refine wl_nil ?_
         refine we_x [0, 1, 2, 3, 4, 5, 6, 7] [7, 8] rfl rfl ?_
         refine wx_step1 hok 12 rfl rfl rfl rfl ?_
         refine wl_store 0 0 rfl rfl rfl rfl rfl rfl rfl tS_48 rfl rfl rfl (all' := [_,_,_,_,_]) rfl (H' := [_,_,_,_,_,_,_,_,_]) rfl ?_
         refine wl_nil ?_
         refine we_x [0, 1, 2, 3, 4, 5, 6, 7] [7] rfl rfl ?_
         refine wx_step1 hok 13 rfl rfl rfl rfl ?_
         refine wl_store 1 0 rfl rfl rfl rfl rfl rfl rfl tS_27 rfl rfl rfl (all' := [_,_,_]) rfl (H' := [_,_,_,_,_,_,_,_,_]) rfl ?_
         refine wl_nil ?_
         refine we_x [0, 1, 2, 3, 4, 5, 6, 7] [] rfl rfl ?_
         refine wx_done hok rfl ?_
         refine we_pick [1, 0, 2, 3, 4, 5, 6, 7, 8] rfl (H' := [_,_,_,_,_,_,_,_,_]) rfl ?_
         refine we_join (b63, q63, x63, r63, b68, q68, x68, r68, g10, g11) ⟨hx63, okx63, hx68, okx68⟩ [11, 10, 57, 9, 8, 42, 7, 6, 5, 4, 3, 0, 1, 2] rfl (fun _ _ hφ => ask [0, 1, 2, 3, 4, 5, 6, 7] rfl hφ) rfl
       ·
        rintro ⟨b63, q63, x63, r63, b68, q68, x68, r68, g10, g11⟩ ⟨hx63, okx63, hx68, okx68⟩
        try dsimp only
        refine wc_seq ?_
        refine wc_region ?_
        refine wl_fieldAddr rfl rfl rfl (freshS_eq rfl) rfl rfl tF_48_1 ?_
        refine wl_loadH 1 1 rfl rfl rfl (freshS_eq rfl) rfl rfl rfl (cs := [_]) rfl tS_3 tA_3 rfl rfl ?_
        refine wl_pure rfl rfl rfl (freshS_eq rfl) rfl ?_
        refine wl_pure rfl rfl rfl (freshS_eq rfl) rfl ?_
        refine wl_split (d := 73) (S' := [_,_,_,_,_,_,_,_,_,_,_,_,_,_,_,_,_]) rfl rfl (fun h73 => ?_) (fun h73 => ?_)
        ·
         replace h73 := of_decide_eq_true h73
         refine wl_fieldAddr rfl rfl rfl (freshS_eq rfl) rfl rfl tF_48_1 ?_
         refine wl_loadH 1 1 rfl rfl rfl (freshS_eq rfl) rfl rfl rfl (cs := [_]) rfl tS_3 tA_3 rfl rfl ?_
         refine wl_fieldAddr rfl rfl rfl (freshS_eq rfl) rfl rfl tF_56_0 ?_
         refine wl_loadH 2 0 rfl rfl rfl (freshS_eq rfl) rfl rfl rfl (cs := [_]) rfl tS_37 tA_37 rfl rfl ?_
         refine wl_len rfl rfl rfl (freshS_eq rfl) rfl rfl tE_37 ?_
         refine wl_pure rfl rfl rfl (freshS_eq rfl) rfl ?_
         refine wl_pure rfl rfl rfl (freshS_eq rfl) rfl ?_
         refine wl_pure rfl rfl rfl (freshS_eq rfl) rfl ?_
         refine wl_nil ?_
         refine we_then ?_
         refine wc_keep [12, 11, 10, 57, 9, 8, 42, 7, 6, 5, 4, 3, 0, 1, 2] (S' := [_,_,_,_,_,_,_,_,_,_,_,_,_,_,_]) rfl ?_
         refine wc_seq ?_
         refine wc_region ?_
         refine wl_pure rfl rfl rfl (freshS_eq rfl) rfl ?_
         refine wl_nil ?_
         refine we_then ?_
         refine wc_seq ?_
         refine wc_seq ?_
         refine wc_region ?_
         refine wl_fieldAddr rfl rfl rfl (freshS_eq rfl) rfl rfl tF_48_0 ?_
         refine wl_loadH 1 0 rfl rfl rfl (freshS_eq rfl) rfl rfl rfl (cs := [_]) rfl tS_46 tA_46 rfl rfl ?_
         refine wl_nil ?_
         refine we_then ?_
         refine wc_keep [82, 13, 12, 11, 10, 57, 9, 8, 42, 7, 6, 5, 4, 3, 0, 1, 2] (S' := [_,_,_,_,_,_,_,_,_,_,_,_,_,_,_,_,_]) rfl ?_
         refine wc_block ?_
         refine wc_seq ?_
         refine wc_region ?_
         refine wl_pure rfl rfl rfl (freshS_eq rfl) rfl ?_
         refine wl_pure rfl rfl rfl (freshS_eq rfl) rfl ?_
         refine wl_nil ?_
         refine we_then ?_
         refine wc_keep [83, 82, 13, 12, 11, 10, 57, 9, 8, 42, 7, 6, 5, 4, 3, 0, 1, 2] (S' := [_,_,_,_,_,_,_,_,_,_,_,_,_,_,_,_,_,_]) rfl ?_
         refine wc_cond rfl (fun h83 => ?_) (fun h83 => ?_)
         ·
          replace h83 := eq_of_beq h83
          refine wc_region ?_
          refine wl_pure (S' := [_,_,_,_,_,_,_,_,_,_,_,_,_,_,_,_,_]) rfl rfl rfl rfl rfl ?_
          refine wl_nil ?_
          refine we_block_normal ?_
          refine we_then ?_
          refine wc_seq ?_
          refine wc_region ?_
          refine wl_pure rfl rfl rfl (freshS_eq rfl) rfl ?_
          refine wl_pure rfl rfl rfl (freshS_eq rfl) rfl ?_
          refine wl_nil ?_
          refine we_then ?_
          refine wc_keep [128, 13, 83, 82, 12, 11, 10, 57, 9, 8, 42, 7, 6, 5, 4, 3, 0, 1, 2] (S' := [_,_,_,_,_,_,_,_,_,_,_,_,_,_,_,_,_,_,_]) rfl ?_
          refine wc_false rfl ?_
          refine wc_skip ?_
          refine we_block_normal ?_
          refine we_then ?_
          refine wc_region ?_
          refine wl_pure rfl rfl rfl (freshS_eq rfl) rfl ?_
          refine wl_pure rfl rfl rfl (freshS_eq rfl) rfl ?_
          refine wl_as (d := 59) (v' := .int .i64 ((s1.1 + 1 : Nat) : Int)) (S' := [_,_,_,_,_,_,_,_,_,_,_,_,_,_,_,_,_,_,_,_]) rfl rfl (nat_inc (by omega)) ?_
          refine wl_pure (S' := [_,_,_,_,_,_,_,_,_,_,_,_,_,_,_,_,_,_,_,_]) rfl rfl rfl rfl rfl ?_
          refine wl_nil ?_
          refine we_pick [2, 3, 4, 5, 6, 7, 8] rfl (H' := [_,_,_,_,_,_,_]) rfl ?_
          refine we_round (s1.1 + 1, s1.2.1, s1.2.2) (by dsimp only; omega) ⟨by dsimp only; omega, FitR.step oks1.2 hx63 hx68 (FitR.any h83)⟩ [9, 8, 42, 7, 6, 5, 4, 3, 0, 1, 2] rfl (fun _ _ hφ => ask [4, 5, 6, 7] rfl hφ) rfl
         ·
          replace h83 := ne_of_beq_false h83
          refine wc_seq ?_
          refine wc_region ?_
          refine wl_pure rfl rfl rfl (freshS_eq rfl) rfl ?_
          refine wl_pure rfl rfl rfl (freshS_eq rfl) rfl ?_
          refine wl_nil ?_
          refine we_then ?_
          refine wc_keep [85, 83, 82, 13, 12, 11, 10, 57, 9, 8, 42, 7, 6, 5, 4, 3, 0, 1, 2] (S' := [_,_,_,_,_,_,_,_,_,_,_,_,_,_,_,_,_,_,_]) rfl ?_
          refine wc_cond rfl (fun h85 => ?_) (fun h85 => ?_)
          ·
           replace h85 := eq_of_beq h85
           refine wc_seq ?_
           refine wc_region ?_
           refine wl_pure rfl rfl rfl (freshS_eq rfl) rfl ?_
           refine wl_pure (S' := [_,_,_,_,_,_,_,_,_,_,_,_,_,_,_,_,_,_,_]) rfl rfl rfl rfl rfl ?_
           refine wl_nil ?_
           refine we_then ?_
           refine wc_keep [13, 85, 83, 82, 12, 11, 10, 57, 9, 8, 42, 7, 6, 5, 4, 3, 0, 1, 2] (S' := [_,_,_,_,_,_,_,_,_,_,_,_,_,_,_,_,_,_,_]) rfl ?_
           refine wc_seq ?_
           refine wc_region ?_
           refine wl_pure rfl rfl rfl (freshS_eq rfl) rfl ?_
           refine wl_nil ?_
           refine we_then ?_
           refine wc_cond rfl (fun h88 => ?_) (fun h88 => ?_)
           ·
            replace h88 := of_decide_eq_true h88
            refine wc_seq ?_
            refine wc_region ?_
            refine wl_fieldAddr rfl rfl rfl (freshS_eq rfl) rfl rfl tF_56_0 ?_
            refine wl_loadH 2 0 rfl rfl rfl (freshS_eq rfl) rfl rfl rfl (cs := [_]) rfl tS_37 tA_37 rfl rfl ?_
            refine wl_fieldAddr rfl rfl rfl (freshS_eq rfl) rfl rfl tF_48_1 ?_
            refine wl_loadH 1 1 rfl rfl rfl (freshS_eq rfl) rfl rfl rfl (cs := [_]) rfl tS_3 tA_3 rfl rfl ?_
            refine wl_indexH 4 x63.var.toNat rfl rfl rfl (freshS_eq rfl) rfl rfl rfl rfl (by omega) (by omega) tE_37 tS_4 (fun g93 eg93 => ?_)
            subst eg93
            obtain ⟨y93, hy93⟩ : ∃ y, s1.2.1[x63.var.toNat]? = some y := ⟨_, List.getElem?_eq_getElem (by omega)⟩
            refine wl_storeRow (u := true) 4 x63.var.toNat rfl rfl rfl rfl rfl (by omega) rfl rfl tS_4 rfl (fun F w hφ => rfl) (H' := [.blk g11 [.int .u8 (x68.k), .int .i64 (x68.n), .string x68.s] 27, .blk g10 [.int .u8 (x63.k), .int .i64 (x63.var), .int .u8 (x63.v.k), .int .i64 (x63.v.n), .string x63.v.s] 48, .blk g8 [.slice (some ⟨g93, 0, none⟩) (has).length c47, .slice p51 (vals).length c51] 56, .own 27 3 vRep (.slice p51 (vals).length c51) s1.2.2, .own 4 1 bRep (.slice (some ⟨g93, 0, none⟩) (has).length c47) (s1.2.1.set x63.var.toNat true), .blk g6 [.slice none 0 0, .slice none 0 0] 56, .blk g5 [.slice p1 has.length c1, .slice p2 vals.length c2] 56, .blk g4 [.int .i64 (f.id), .int .i64 (f.ty), .slice px f.args.length cx] 36, .blk g3 [.int .u8 (c.k), .int .i64 (c.ty), .slice pa c.args.length ca, t0, t1, t2, t3, t4, t5, t6] 33]) rfl ?_
            refine wl_nil ?_
            refine we_then ?_
            refine wc_keep [88, 13, 85, 83, 82, 12, 11, 10, 57, 9, 8, 42, 7, 6, 5, 4, 3, 0, 1, 2] (S' := [_,_,_,_,_,_,_,_,_,_,_,_,_,_,_,_,_,_,_,_]) rfl ?_
            refine wc_region ?_
            refine wl_fieldAddr rfl rfl rfl (freshS_eq rfl) rfl rfl tF_56_1 ?_
            refine wl_loadH 2 1 rfl rfl rfl (freshS_eq rfl) rfl rfl rfl (cs := [_]) rfl tS_34 tA_34 rfl rfl ?_
            refine wl_fieldAddr rfl rfl rfl (freshS_eq rfl) rfl rfl tF_48_1 ?_
            refine wl_loadH 1 1 rfl rfl rfl (freshS_eq rfl) rfl rfl rfl (cs := [_]) rfl tS_3 tA_3 rfl rfl ?_
            refine wl_loadH 0 0 rfl rfl rfl (freshS_eq rfl) rfl rfl rfl (cs := [_,_,_]) rfl tS_27 tA_27 rfl rfl ?_
            refine wl_indexH 3 x63.var.toNat rfl rfl rfl (freshS_eq rfl) rfl rfl rfl rfl (by omega) (by omega) tE_34 tS_27 (fun g99 eg99 => ?_)
            subst eg99
            obtain ⟨y99, hy99⟩ : ∃ y, s1.2.2[x63.var.toNat]? = some y := ⟨_, List.getElem?_eq_getElem (by omega)⟩
            refine wl_storeRow (u := x68) 3 x63.var.toNat rfl rfl rfl rfl rfl (by omega) rfl rfl tS_27 rfl (fun F w hφ => ⟨rfl, by first | assumption | (simp [V.ok, ArgD.ok, FactD.ok, inB, inI]) | (unfold V.ok inB inI; simp; omega)⟩) (H' := [.blk g11 [.int .u8 (x68.k), .int .i64 (x68.n), .string x68.s] 27, .blk g10 [.int .u8 (x63.k), .int .i64 (x63.var), .int .u8 (x63.v.k), .int .i64 (x63.v.n), .string x63.v.s] 48, .blk g8 [.slice (some ⟨g93, 0, none⟩) (has).length c47, .slice (some ⟨g99, 0, none⟩) (vals).length c51] 56, .own 27 3 vRep (.slice (some ⟨g99, 0, none⟩) (vals).length c51) (s1.2.2.set x63.var.toNat x68), .own 4 1 bRep (.slice (some ⟨g93, 0, none⟩) (has).length c47) (s1.2.1.set x63.var.toNat true), .blk g6 [.slice none 0 0, .slice none 0 0] 56, .blk g5 [.slice p1 has.length c1, .slice p2 vals.length c2] 56, .blk g4 [.int .i64 (f.id), .int .i64 (f.ty), .slice px f.args.length cx] 36, .blk g3 [.int .u8 (c.k), .int .i64 (c.ty), .slice pa c.args.length ca, t0, t1, t2, t3, t4, t5, t6] 33]) rfl ?_
            refine wl_nil ?_
            refine we_block_normal ?_
            refine we_then ?_
            refine wc_seq ?_
            refine wc_region ?_
            refine wl_pure rfl rfl rfl (freshS_eq rfl) rfl ?_
            refine wl_pure rfl rfl rfl (freshS_eq rfl) rfl ?_
            refine wl_nil ?_
            refine we_then ?_
            refine wc_keep [128, 88, 13, 85, 83, 82, 12, 11, 10, 57, 9, 8, 42, 7, 6, 5, 4, 3, 0, 1, 2] (S' := [_,_,_,_,_,_,_,_,_,_,_,_,_,_,_,_,_,_,_,_,_]) rfl ?_
            refine wc_cond rfl (fun h128 => ?_) (fun h128 => ?_)
            ·
             replace h128 := nd_true h128
             refine wc_rowNil 4 1 bRep ?_
             refine wc_rowNil 27 3 vRep ?_
             refine wc_seq ?_
             refine wc_region ?_
             refine wl_build rfl rfl rfl (freshS_eq rfl) rfl tZ_56 tP_56 rfl (out := [_,_]) rfl ?_
             refine wl_store 7 0 rfl rfl rfl rfl rfl rfl rfl tS_56 rfl rfl rfl (all' := [_,_]) rfl (H' := [_,_,_,_,_,_,_,_,_,_,_]) rfl ?_
             refine wl_pure (S' := [_,_,_,_,_,_,_,_,_,_,_,_,_,_,_,_,_,_,_,_,_]) rfl rfl rfl rfl rfl ?_
             refine wl_nil ?_
             refine we_then ?_
             refine wc_keep [7, 128, 88, 13, 85, 83, 82, 12, 11, 10, 57, 9, 8, 42, 6, 5, 4, 3, 0, 1, 2] (S' := [_,_,_,_,_,_,_,_,_,_,_,_,_,_,_,_,_,_,_,_,_]) rfl ?_
             refine wc_ret ?_
             refine we_block_ret ?_
             refine we_then_ret ?_
             refine we_then_ret ?_
             refine we_block_ret ?_
             refine we_then_ret ?_
             refine ret_two (Hr := [.own 27 3 vRep (.slice none 0 0) [], .own 4 1 bRep (.slice none 0 0) []]) [0, 1] Try.results22 (res_cell 7 rfl rfl tS_56 tA_56 rfl rfl) (res_tmp rfl) ?_ (fun _ _ hφ => ask [] rfl hφ) rfl rfl (.inl rfl)
             exact ⟨_, _, _, _, _, _, rfl, MatchR.stop oks1.2 hx63 hx68 (h' := s1.2.1) (v' := s1.2.2) (absurd h88 h128), rfl, rfl⟩
            ·
             replace h128 := nd_false h128
             refine wc_skip ?_
             refine we_block_normal ?_
             refine we_then ?_
             refine wc_region ?_
             refine wl_pure rfl rfl rfl (freshS_eq rfl) rfl ?_
             refine wl_pure rfl rfl rfl (freshS_eq rfl) rfl ?_
             refine wl_as (d := 59) (v' := .int .i64 ((s1.1 + 1 : Nat) : Int)) (S' := [_,_,_,_,_,_,_,_,_,_,_,_,_,_,_,_,_,_,_,_,_,_]) rfl rfl (nat_inc (by omega)) ?_
             refine wl_pure (S' := [_,_,_,_,_,_,_,_,_,_,_,_,_,_,_,_,_,_,_,_,_,_]) rfl rfl rfl rfl rfl ?_
             refine wl_nil ?_
             refine we_pick [2, 3, 4, 5, 6, 7, 8] rfl (H' := [_,_,_,_,_,_,_]) rfl ?_
             refine we_round (s1.1 + 1, s1.2.1.set x63.var.toNat true, s1.2.2.set x63.var.toNat x68) (by dsimp only; omega) ⟨by dsimp only; omega, FitR.step oks1.2 hx63 hx68 (FitR.bind (h := s1.2.1) (vs := s1.2.2) h85 (by omega))⟩ [9, 8, 42, 7, 6, 5, 4, 3, 0, 1, 2] rfl (fun _ _ hφ => ask [4, 5, 6, 7] rfl hφ) rfl
           ·
            replace h88 := of_decide_eq_false h88
            refine wc_skip ?_
            refine we_block_normal ?_
            refine we_then ?_
            refine wc_seq ?_
            refine wc_region ?_
            refine wl_pure rfl rfl rfl (freshS_eq rfl) rfl ?_
            refine wl_pure rfl rfl rfl (freshS_eq rfl) rfl ?_
            refine wl_nil ?_
            refine we_then ?_
            refine wc_keep [128, 88, 13, 85, 83, 82, 12, 11, 10, 57, 9, 8, 42, 7, 6, 5, 4, 3, 0, 1, 2] (S' := [_,_,_,_,_,_,_,_,_,_,_,_,_,_,_,_,_,_,_,_,_]) rfl ?_
            refine wc_cond rfl (fun h128 => ?_) (fun h128 => ?_)
            ·
             replace h128 := nd_true h128
             refine wc_rowNil 4 1 bRep ?_
             refine wc_rowNil 27 3 vRep ?_
             refine wc_seq ?_
             refine wc_region ?_
             refine wl_build rfl rfl rfl (freshS_eq rfl) rfl tZ_56 tP_56 rfl (out := [_,_]) rfl ?_
             refine wl_store 7 0 rfl rfl rfl rfl rfl rfl rfl tS_56 rfl rfl rfl (all' := [_,_]) rfl (H' := [_,_,_,_,_,_,_,_,_,_,_]) rfl ?_
             refine wl_pure (S' := [_,_,_,_,_,_,_,_,_,_,_,_,_,_,_,_,_,_,_,_,_]) rfl rfl rfl rfl rfl ?_
             refine wl_nil ?_
             refine we_then ?_
             refine wc_keep [7, 128, 88, 13, 85, 83, 82, 12, 11, 10, 57, 9, 8, 42, 6, 5, 4, 3, 0, 1, 2] (S' := [_,_,_,_,_,_,_,_,_,_,_,_,_,_,_,_,_,_,_,_,_]) rfl ?_
             refine wc_ret ?_
             refine we_block_ret ?_
             refine we_then_ret ?_
             refine we_then_ret ?_
             refine we_block_ret ?_
             refine we_then_ret ?_
             refine ret_two (Hr := [.own 27 3 vRep (.slice none 0 0) [], .own 4 1 bRep (.slice none 0 0) []]) [0, 1] Try.results22 (res_cell 7 rfl rfl tS_56 tA_56 rfl rfl) (res_tmp rfl) ?_ (fun _ _ hφ => ask [] rfl hφ) rfl rfl (.inl rfl)
             exact ⟨_, _, _, _, _, _, rfl, MatchR.stop oks1.2 hx63 hx68 (h' := s1.2.1) (v' := s1.2.2) (FitR.out2 (h := s1.2.1) (vs := s1.2.2) h85 (by omega)), rfl, rfl⟩
            ·
             replace h128 := nd_false h128
             refine wc_skip ?_
             refine we_block_normal ?_
             refine we_then ?_
             refine wc_region ?_
             refine wl_pure rfl rfl rfl (freshS_eq rfl) rfl ?_
             refine wl_pure rfl rfl rfl (freshS_eq rfl) rfl ?_
             refine wl_as (d := 59) (v' := .int .i64 ((s1.1 + 1 : Nat) : Int)) (S' := [_,_,_,_,_,_,_,_,_,_,_,_,_,_,_,_,_,_,_,_,_,_]) rfl rfl (nat_inc (by omega)) ?_
             refine wl_pure (S' := [_,_,_,_,_,_,_,_,_,_,_,_,_,_,_,_,_,_,_,_,_,_]) rfl rfl rfl rfl rfl ?_
             refine wl_nil ?_
             refine we_pick [2, 3, 4, 5, 6, 7, 8] rfl (H' := [_,_,_,_,_,_,_]) rfl ?_
             refine we_round (s1.1 + 1, s1.2.1, s1.2.2) (by dsimp only; omega) ⟨by dsimp only; omega, FitR.step oks1.2 hx63 hx68 (absurd h128 h88)⟩ [9, 8, 42, 7, 6, 5, 4, 3, 0, 1, 2] rfl (fun _ _ hφ => ask [4, 5, 6, 7] rfl hφ) rfl
          ·
           replace h85 := ne_of_beq_false h85
           refine wc_seq ?_
           refine wc_region ?_
           refine wl_pure rfl rfl rfl (freshS_eq rfl) rfl ?_
           refine wl_pure rfl rfl rfl (freshS_eq rfl) rfl ?_
           refine wl_nil ?_
           refine we_then ?_
           refine wc_keep [100, 85, 83, 82, 13, 12, 11, 10, 57, 9, 8, 42, 7, 6, 5, 4, 3, 0, 1, 2] (S' := [_,_,_,_,_,_,_,_,_,_,_,_,_,_,_,_,_,_,_,_]) rfl ?_
           refine wc_cond rfl (fun h100 => ?_) (fun h100 => ?_)
           ·
            replace h100 := eq_of_beq h100
            refine wc_draw [0, 1, 2, 3, 4, 5, 6, 7, 8, 9, 10, 11, 12, 13, 14, 15, 16, 17, 18] rfl rfl (fun hok => ?_)
            refine wx_pure hok 0 rfl rfl rfl (freshS_eq rfl) rfl rfl ?_
            refine wx_pure hok 1 rfl rfl rfl (freshS_eq rfl) rfl rfl ?_
            refine wx_split (d := 103) (S' := [_,_,_,_,_,_,_,_,_,_,_,_,_,_,_,_,_,_,_,_,_]) rfl rfl (fun h103 => ?_) (fun h103 => ?_)
            ·
             replace h103 := of_decide_eq_true h103
             refine wx_fieldAddr hok 2 rfl rfl rfl (freshS_eq rfl) rfl rfl rfl tF_56_0 ?_
             refine wx_loadH hok 3 2 0 rfl rfl rfl (freshS_eq rfl) rfl rfl rfl rfl (cs := [_]) rfl tS_37 tA_37 rfl rfl ?_
             refine wx_fieldAddr hok 4 rfl rfl rfl (freshS_eq rfl) rfl rfl rfl tF_48_1 ?_
             refine wx_loadH hok 5 1 1 rfl rfl rfl (freshS_eq rfl) rfl rfl rfl rfl (cs := [_]) rfl tS_3 tA_3 rfl rfl ?_
             refine wx_indexH hok 6 4 x63.var.toNat rfl rfl rfl (freshS_eq rfl) rfl rfl rfl rfl rfl (by omega) (by omega) tE_37 tS_4 (fun g108 eg108 => ?_)
             subst eg108
             obtain ⟨y108, hy108⟩ : ∃ y, s1.2.1[x63.var.toNat]? = some y := ⟨_, List.getElem?_eq_getElem (by omega)⟩
             refine wx_loadRow hok 7 bRep_opens 4 x63.var.toNat 0 rfl rfl rfl (freshS_eq rfl) rfl rfl rfl rfl hy108 tS_4 tA_4 (v := .bool y108) rfl rfl (fun oky108 => ?_)
             refine wx_pure hok 8 rfl rfl rfl (freshS_eq rfl) rfl rfl ?_
             refine wx_pure hok 9 rfl rfl rfl (freshS_eq rfl) rfl rfl ?_
             refine wx_split (d := 111) (S' := [_,_,_,_,_,_,_,_,_,_,_,_,_,_,_,_,_,_,_,_,_,_,_,_,_,_,_,_,_]) rfl rfl (fun h111 => ?_) (fun h111 => ?_)
             ·
              refine wx_fieldAddr hok 10 rfl rfl rfl (freshS_eq rfl) rfl rfl rfl tF_56_1 ?_
              refine wx_loadH hok 11 2 1 rfl rfl rfl (freshS_eq rfl) rfl rfl rfl rfl (cs := [_]) rfl tS_34 tA_34 rfl rfl ?_
              refine wx_fieldAddr hok 12 rfl rfl rfl (freshS_eq rfl) rfl rfl rfl tF_48_1 ?_
              refine wx_loadH hok 13 1 1 rfl rfl rfl (freshS_eq rfl) rfl rfl rfl rfl (cs := [_]) rfl tS_3 tA_3 rfl rfl ?_
              refine wx_indexH hok 14 3 x63.var.toNat rfl rfl rfl (freshS_eq rfl) rfl rfl rfl rfl rfl (by omega) (by omega) tE_34 tS_27 (fun g116 eg116 => ?_)
              subst eg116
              obtain ⟨y116, hy116⟩ : ∃ y, s1.2.2[x63.var.toNat]? = some y := ⟨_, List.getElem?_eq_getElem (by omega)⟩
              refine wx_loadRow hok 15 vRep_opens 3 x63.var.toNat 0 rfl rfl rfl (freshS_eq rfl) rfl rfl rfl rfl hy116 tS_27 tA_27 (v := .agg #[.int .u8 (y116.k), .int .i64 (y116.n), .string y116.s]) rfl rfl (fun oky116 => ?_)
              refine wx_loadH hok 16 0 0 rfl rfl rfl (freshS_eq rfl) rfl rfl rfl rfl (cs := [_,_,_]) rfl tS_27 tA_27 rfl rfl ?_
              refine wx_bin hok 17 rfl rfl rfl (freshS_eq rfl) rfl rfl rfl rfl (eqlV _ _ y116 x68) ?_
              refine wx_pure hok 18 rfl rfl rfl (freshS_eq rfl) rfl rfl ?_
              refine wx_step1 hok 19 rfl rfl rfl rfl ?_
              refine wl_pure (S' := [_,_,_,_,_,_,_,_,_,_,_,_,_,_,_,_,_,_,_,_,_,_,_,_,_,_,_,_,_,_,_,_,_,_,_,_,_,_]) rfl rfl rfl rfl rfl ?_
              refine wl_nil ?_
              refine we_x [0, 1, 2, 3, 4, 5, 6, 7] [] rfl rfl ?_
              refine wx_done hok rfl ?_
              refine we_block_normal ?_
              refine we_then ?_
              refine wc_seq ?_
              refine wc_region ?_
              refine wl_pure rfl rfl rfl (freshS_eq rfl) rfl ?_
              refine wl_pure rfl rfl rfl (freshS_eq rfl) rfl ?_
              refine wl_nil ?_
              refine we_then ?_
              refine wc_keep [128, 13, 100, 85, 83, 82, 12, 11, 10, 57, 9, 8, 42, 7, 6, 5, 4, 3, 0, 1, 2] (S' := [_,_,_,_,_,_,_,_,_,_,_,_,_,_,_,_,_,_,_,_,_]) rfl ?_
              refine wc_cond rfl (fun h128 => ?_) (fun h128 => ?_)
              ·
               replace h128 := nd_true h128
               refine wc_rowNil 4 1 bRep ?_
               refine wc_rowNil 27 3 vRep ?_
               refine wc_seq ?_
               refine wc_region ?_
               refine wl_build rfl rfl rfl (freshS_eq rfl) rfl tZ_56 tP_56 rfl (out := [_,_]) rfl ?_
               refine wl_store 7 0 rfl rfl rfl rfl rfl rfl rfl tS_56 rfl rfl rfl (all' := [_,_]) rfl (H' := [_,_,_,_,_,_,_,_,_,_,_]) rfl ?_
               refine wl_pure (S' := [_,_,_,_,_,_,_,_,_,_,_,_,_,_,_,_,_,_,_,_,_]) rfl rfl rfl rfl rfl ?_
               refine wl_nil ?_
               refine we_then ?_
               refine wc_keep [7, 128, 13, 100, 85, 83, 82, 12, 11, 10, 57, 9, 8, 42, 6, 5, 4, 3, 0, 1, 2] (S' := [_,_,_,_,_,_,_,_,_,_,_,_,_,_,_,_,_,_,_,_,_]) rfl ?_
               refine wc_ret ?_
               refine we_block_ret ?_
               refine we_then_ret ?_
               refine we_then_ret ?_
               refine we_block_ret ?_
               refine we_then_ret ?_
               refine ret_two (Hr := [.own 27 3 vRep (.slice none 0 0) [], .own 4 1 bRep (.slice none 0 0) []]) [0, 1] Try.results22 (res_cell 7 rfl rfl tS_56 tA_56 rfl rfl) (res_tmp rfl) ?_ (fun _ _ hφ => ask [] rfl hφ) rfl rfl (.inl rfl)
               exact ⟨_, _, _, _, _, _, rfl, MatchR.stop oks1.2 hx63 hx68 (h' := s1.2.1) (v' := s1.2.2) ((FitR.known (FitR.var3 (h := s1.2.1) (vs := s1.2.2) h100 (by omega) (by rw [hy108, h111]) hy116) (decide_eq_false h128))), rfl, rfl⟩
              ·
               replace h128 := nd_false h128
               refine wc_skip ?_
               refine we_block_normal ?_
               refine we_then ?_
               refine wc_region ?_
               refine wl_pure rfl rfl rfl (freshS_eq rfl) rfl ?_
               refine wl_pure rfl rfl rfl (freshS_eq rfl) rfl ?_
               refine wl_as (d := 59) (v' := .int .i64 ((s1.1 + 1 : Nat) : Int)) (S' := [_,_,_,_,_,_,_,_,_,_,_,_,_,_,_,_,_,_,_,_,_,_]) rfl rfl (nat_inc (by omega)) ?_
               refine wl_pure (S' := [_,_,_,_,_,_,_,_,_,_,_,_,_,_,_,_,_,_,_,_,_,_]) rfl rfl rfl rfl rfl ?_
               refine wl_nil ?_
               refine we_pick [2, 3, 4, 5, 6, 7, 8] rfl (H' := [_,_,_,_,_,_,_]) rfl ?_
               refine we_round (s1.1 + 1, s1.2.1, s1.2.2) (by dsimp only; omega) ⟨by dsimp only; omega, FitR.step oks1.2 hx63 hx68 ((FitR.known (FitR.var3 (h := s1.2.1) (vs := s1.2.2) h100 (by omega) (by rw [hy108, h111]) hy116) (decide_eq_true h128)))⟩ [9, 8, 42, 7, 6, 5, 4, 3, 0, 1, 2] rfl (fun _ _ hφ => ask [4, 5, 6, 7] rfl hφ) rfl
             ·
              refine wx_off hok 10 rfl rfl rfl (freshS_eq rfl) rfl ?_
              refine wx_off hok 11 rfl rfl rfl (freshS_eq rfl) rfl ?_
              refine wx_off hok 12 rfl rfl rfl (freshS_eq rfl) rfl ?_
              refine wx_off hok 13 rfl rfl rfl (freshS_eq rfl) rfl ?_
              refine wx_off hok 14 rfl rfl rfl (freshS_eq rfl) rfl ?_
              refine wx_off hok 15 rfl rfl rfl (freshS_eq rfl) rfl ?_
              refine wx_off hok 16 rfl rfl rfl (freshS_eq rfl) rfl ?_
              refine wx_off hok 17 rfl rfl rfl (freshS_eq rfl) rfl ?_
              refine wx_pure hok 18 rfl rfl rfl (freshS_eq rfl) rfl rfl ?_
              refine wx_step1 hok 19 rfl rfl rfl rfl ?_
              refine wl_pure (S' := [_,_,_,_,_,_,_,_,_,_,_,_,_,_,_,_,_,_,_,_,_,_,_,_,_,_,_,_,_,_,_,_,_,_,_,_,_,_]) rfl rfl rfl rfl rfl ?_
              refine wl_nil ?_
              refine we_x [0, 1, 2, 3, 4, 5, 6, 7] [] rfl rfl ?_
              refine wx_done hok rfl ?_
              refine we_block_normal ?_
              refine we_then ?_
              refine wc_seq ?_
              refine wc_region ?_
              refine wl_pure rfl rfl rfl (freshS_eq rfl) rfl ?_
              refine wl_pure rfl rfl rfl (freshS_eq rfl) rfl ?_
              refine wl_nil ?_
              refine we_then ?_
              refine wc_keep [128, 13, 100, 85, 83, 82, 12, 11, 10, 57, 9, 8, 42, 7, 6, 5, 4, 3, 0, 1, 2] (S' := [_,_,_,_,_,_,_,_,_,_,_,_,_,_,_,_,_,_,_,_,_]) rfl ?_
              refine wc_true rfl ?_
              refine wc_rowNil 4 1 bRep ?_
              refine wc_rowNil 27 3 vRep ?_
              refine wc_seq ?_
              refine wc_region ?_
              refine wl_build rfl rfl rfl (freshS_eq rfl) rfl tZ_56 tP_56 rfl (out := [_,_]) rfl ?_
              refine wl_store 7 0 rfl rfl rfl rfl rfl rfl rfl tS_56 rfl rfl rfl (all' := [_,_]) rfl (H' := [_,_,_,_,_,_,_,_,_,_,_]) rfl ?_
              refine wl_pure (S' := [_,_,_,_,_,_,_,_,_,_,_,_,_,_,_,_,_,_,_,_,_]) rfl rfl rfl rfl rfl ?_
              refine wl_nil ?_
              refine we_then ?_
              refine wc_keep [7, 128, 13, 100, 85, 83, 82, 12, 11, 10, 57, 9, 8, 42, 6, 5, 4, 3, 0, 1, 2] (S' := [_,_,_,_,_,_,_,_,_,_,_,_,_,_,_,_,_,_,_,_,_]) rfl ?_
              refine wc_ret ?_
              refine we_block_ret ?_
              refine we_then_ret ?_
              refine we_then_ret ?_
              refine we_block_ret ?_
              refine we_then_ret ?_
              refine ret_two (Hr := [.own 27 3 vRep (.slice none 0 0) [], .own 4 1 bRep (.slice none 0 0) []]) [0, 1] Try.results22 (res_cell 7 rfl rfl tS_56 tA_56 rfl rfl) (res_tmp rfl) ?_ (fun _ _ hφ => ask [] rfl hφ) rfl rfl (.inl rfl)
              exact ⟨_, _, _, _, _, _, rfl, MatchR.stop oks1.2 hx63 hx68 (h' := s1.2.1) (v' := s1.2.2) (FitR.off3 (h := s1.2.1) (vs := s1.2.2) h100 (by rw [hy108, h111])), rfl, rfl⟩
            ·
             replace h103 := of_decide_eq_false h103
             refine wx_off hok 2 rfl rfl rfl (freshS_eq rfl) rfl ?_
             refine wx_off hok 3 rfl rfl rfl (freshS_eq rfl) rfl ?_
             refine wx_off hok 4 rfl rfl rfl (freshS_eq rfl) rfl ?_
             refine wx_off hok 5 rfl rfl rfl (freshS_eq rfl) rfl ?_
             refine wx_off hok 6 rfl rfl rfl (freshS_eq rfl) rfl ?_
             refine wx_off hok 7 rfl rfl rfl (freshS_eq rfl) rfl ?_
             refine wx_pure hok 8 rfl rfl rfl (freshS_eq rfl) rfl rfl ?_
             refine wx_pure hok 9 rfl rfl rfl (freshS_eq rfl) rfl rfl ?_
             refine wx_off hok 10 rfl rfl rfl (freshS_eq rfl) rfl ?_
             refine wx_off hok 11 rfl rfl rfl (freshS_eq rfl) rfl ?_
             refine wx_off hok 12 rfl rfl rfl (freshS_eq rfl) rfl ?_
             refine wx_off hok 13 rfl rfl rfl (freshS_eq rfl) rfl ?_
             refine wx_off hok 14 rfl rfl rfl (freshS_eq rfl) rfl ?_
             refine wx_off hok 15 rfl rfl rfl (freshS_eq rfl) rfl ?_
             refine wx_off hok 16 rfl rfl rfl (freshS_eq rfl) rfl ?_
             refine wx_off hok 17 rfl rfl rfl (freshS_eq rfl) rfl ?_
             refine wx_pure hok 18 rfl rfl rfl (freshS_eq rfl) rfl rfl ?_
             refine wx_step1 hok 19 rfl rfl rfl rfl ?_
             refine wl_pure (S' := [_,_,_,_,_,_,_,_,_,_,_,_,_,_,_,_,_,_,_,_,_,_,_,_,_,_,_,_,_,_,_,_,_,_,_,_,_,_]) rfl rfl rfl rfl rfl ?_
             refine wl_nil ?_
             refine we_x [0, 1, 2, 3, 4, 5, 6, 7] [] rfl rfl ?_
             refine wx_done hok rfl ?_
             refine we_block_normal ?_
             refine we_then ?_
             refine wc_seq ?_
             refine wc_region ?_
             refine wl_pure rfl rfl rfl (freshS_eq rfl) rfl ?_
             refine wl_pure rfl rfl rfl (freshS_eq rfl) rfl ?_
             refine wl_nil ?_
             refine we_then ?_
             refine wc_keep [128, 13, 100, 85, 83, 82, 12, 11, 10, 57, 9, 8, 42, 7, 6, 5, 4, 3, 0, 1, 2] (S' := [_,_,_,_,_,_,_,_,_,_,_,_,_,_,_,_,_,_,_,_,_]) rfl ?_
             refine wc_true rfl ?_
             refine wc_rowNil 4 1 bRep ?_
             refine wc_rowNil 27 3 vRep ?_
             refine wc_seq ?_
             refine wc_region ?_
             refine wl_build rfl rfl rfl (freshS_eq rfl) rfl tZ_56 tP_56 rfl (out := [_,_]) rfl ?_
             refine wl_store 7 0 rfl rfl rfl rfl rfl rfl rfl tS_56 rfl rfl rfl (all' := [_,_]) rfl (H' := [_,_,_,_,_,_,_,_,_,_,_]) rfl ?_
             refine wl_pure (S' := [_,_,_,_,_,_,_,_,_,_,_,_,_,_,_,_,_,_,_,_,_]) rfl rfl rfl rfl rfl ?_
             refine wl_nil ?_
             refine we_then ?_
             refine wc_keep [7, 128, 13, 100, 85, 83, 82, 12, 11, 10, 57, 9, 8, 42, 6, 5, 4, 3, 0, 1, 2] (S' := [_,_,_,_,_,_,_,_,_,_,_,_,_,_,_,_,_,_,_,_,_]) rfl ?_
             refine wc_ret ?_
             refine we_block_ret ?_
             refine we_then_ret ?_
             refine we_then_ret ?_
             refine we_block_ret ?_
             refine we_then_ret ?_
             refine ret_two (Hr := [.own 27 3 vRep (.slice none 0 0) [], .own 4 1 bRep (.slice none 0 0) []]) [0, 1] Try.results22 (res_cell 7 rfl rfl tS_56 tA_56 rfl rfl) (res_tmp rfl) ?_ (fun _ _ hφ => ask [] rfl hφ) rfl rfl (.inl rfl)
             exact ⟨_, _, _, _, _, _, rfl, MatchR.stop oks1.2 hx63 hx68 (h' := s1.2.1) (v' := s1.2.2) (FitR.out3 (h := s1.2.1) (vs := s1.2.2) h100 (by omega)), rfl, rfl⟩
           ·
            replace h100 := ne_of_beq_false h100
            refine wc_seq ?_
            refine wc_region ?_
            refine wl_pure rfl rfl rfl (freshS_eq rfl) rfl ?_
            refine wl_pure rfl rfl rfl (freshS_eq rfl) rfl ?_
            refine wl_nil ?_
            refine we_then ?_
            refine wc_keep [121, 100, 85, 83, 82, 13, 12, 11, 10, 57, 9, 8, 42, 7, 6, 5, 4, 3, 0, 1, 2] (S' := [_,_,_,_,_,_,_,_,_,_,_,_,_,_,_,_,_,_,_,_,_]) rfl ?_
            refine wc_cond rfl (fun h121 => ?_) (fun h121 => ?_)
            ·
             replace h121 := eq_of_beq h121
             refine wc_region ?_
             refine wl_fieldAddr rfl rfl rfl (freshS_eq rfl) rfl rfl tF_48_2 ?_
             refine wl_loadH 1 2 rfl rfl rfl (freshS_eq rfl) rfl rfl rfl (cs := [_,_,_]) rfl tS_27 tA_27 rfl rfl ?_
             refine wl_loadH 0 0 rfl rfl rfl (freshS_eq rfl) rfl rfl rfl (cs := [_,_,_]) rfl tS_27 tA_27 rfl rfl ?_
             refine wl_bin rfl rfl rfl (freshS_eq rfl) rfl rfl rfl (eqlV _ _ x63.v x68) ?_
             refine wl_pure (S' := [_,_,_,_,_,_,_,_,_,_,_,_,_,_,_,_,_,_,_,_,_,_,_,_]) rfl rfl rfl rfl rfl ?_
             refine wl_nil ?_
             refine we_block_normal ?_
             refine we_then ?_
             refine wc_seq ?_
             refine wc_region ?_
             refine wl_pure rfl rfl rfl (freshS_eq rfl) rfl ?_
             refine wl_pure rfl rfl rfl (freshS_eq rfl) rfl ?_
             refine wl_nil ?_
             refine we_then ?_
             refine wc_keep [128, 13, 121, 100, 85, 83, 82, 12, 11, 10, 57, 9, 8, 42, 7, 6, 5, 4, 3, 0, 1, 2] (S' := [_,_,_,_,_,_,_,_,_,_,_,_,_,_,_,_,_,_,_,_,_,_]) rfl ?_
             refine wc_cond rfl (fun h128 => ?_) (fun h128 => ?_)
             ·
              replace h128 := nd_true h128
              refine wc_rowNil 4 1 bRep ?_
              refine wc_rowNil 27 3 vRep ?_
              refine wc_seq ?_
              refine wc_region ?_
              refine wl_build rfl rfl rfl (freshS_eq rfl) rfl tZ_56 tP_56 rfl (out := [_,_]) rfl ?_
              refine wl_store 7 0 rfl rfl rfl rfl rfl rfl rfl tS_56 rfl rfl rfl (all' := [_,_]) rfl (H' := [_,_,_,_,_,_,_,_,_,_,_]) rfl ?_
              refine wl_pure (S' := [_,_,_,_,_,_,_,_,_,_,_,_,_,_,_,_,_,_,_,_,_,_]) rfl rfl rfl rfl rfl ?_
              refine wl_nil ?_
              refine we_then ?_
              refine wc_keep [7, 128, 13, 121, 100, 85, 83, 82, 12, 11, 10, 57, 9, 8, 42, 6, 5, 4, 3, 0, 1, 2] (S' := [_,_,_,_,_,_,_,_,_,_,_,_,_,_,_,_,_,_,_,_,_,_]) rfl ?_
              refine wc_ret ?_
              refine we_block_ret ?_
              refine we_then_ret ?_
              refine we_then_ret ?_
              refine we_block_ret ?_
              refine we_then_ret ?_
              refine ret_two (Hr := [.own 27 3 vRep (.slice none 0 0) [], .own 4 1 bRep (.slice none 0 0) []]) [0, 1] Try.results22 (res_cell 7 rfl rfl tS_56 tA_56 rfl rfl) (res_tmp rfl) ?_ (fun _ _ hφ => ask [] rfl hφ) rfl rfl (.inl rfl)
              exact ⟨_, _, _, _, _, _, rfl, MatchR.stop oks1.2 hx63 hx68 (h' := s1.2.1) (v' := s1.2.2) ((FitR.known (FitR.const (h := s1.2.1) (vs := s1.2.2) h121) (decide_eq_false h128))), rfl, rfl⟩
             ·
              replace h128 := nd_false h128
              refine wc_skip ?_
              refine we_block_normal ?_
              refine we_then ?_
              refine wc_region ?_
              refine wl_pure rfl rfl rfl (freshS_eq rfl) rfl ?_
              refine wl_pure rfl rfl rfl (freshS_eq rfl) rfl ?_
              refine wl_as (d := 59) (v' := .int .i64 ((s1.1 + 1 : Nat) : Int)) (S' := [_,_,_,_,_,_,_,_,_,_,_,_,_,_,_,_,_,_,_,_,_,_,_]) rfl rfl (nat_inc (by omega)) ?_
              refine wl_pure (S' := [_,_,_,_,_,_,_,_,_,_,_,_,_,_,_,_,_,_,_,_,_,_,_]) rfl rfl rfl rfl rfl ?_
              refine wl_nil ?_
              refine we_pick [2, 3, 4, 5, 6, 7, 8] rfl (H' := [_,_,_,_,_,_,_]) rfl ?_
              refine we_round (s1.1 + 1, s1.2.1, s1.2.2) (by dsimp only; omega) ⟨by dsimp only; omega, FitR.step oks1.2 hx63 hx68 ((FitR.known (FitR.const (h := s1.2.1) (vs := s1.2.2) h121) (decide_eq_true h128)))⟩ [9, 8, 42, 7, 6, 5, 4, 3, 0, 1, 2] rfl (fun _ _ hφ => ask [4, 5, 6, 7] rfl hφ) rfl
            ·
             replace h121 := ne_of_beq_false h121
             refine wc_skip ?_
             refine we_block_normal ?_
             refine we_then ?_
             refine wc_seq ?_
             refine wc_region ?_
             refine wl_pure rfl rfl rfl (freshS_eq rfl) rfl ?_
             refine wl_pure rfl rfl rfl (freshS_eq rfl) rfl ?_
             refine wl_nil ?_
             refine we_then ?_
             refine wc_keep [128, 121, 100, 85, 83, 82, 13, 12, 11, 10, 57, 9, 8, 42, 7, 6, 5, 4, 3, 0, 1, 2] (S' := [_,_,_,_,_,_,_,_,_,_,_,_,_,_,_,_,_,_,_,_,_,_]) rfl ?_
             refine wc_true rfl ?_
             refine wc_rowNil 4 1 bRep ?_
             refine wc_rowNil 27 3 vRep ?_
             refine wc_seq ?_
             refine wc_region ?_
             refine wl_build rfl rfl rfl (freshS_eq rfl) rfl tZ_56 tP_56 rfl (out := [_,_]) rfl ?_
             refine wl_store 7 0 rfl rfl rfl rfl rfl rfl rfl tS_56 rfl rfl rfl (all' := [_,_]) rfl (H' := [_,_,_,_,_,_,_,_,_,_,_]) rfl ?_
             refine wl_pure (S' := [_,_,_,_,_,_,_,_,_,_,_,_,_,_,_,_,_,_,_,_,_,_]) rfl rfl rfl rfl rfl ?_
             refine wl_nil ?_
             refine we_then ?_
             refine wc_keep [7, 128, 121, 100, 85, 83, 82, 13, 12, 11, 10, 57, 9, 8, 42, 6, 5, 4, 3, 0, 1, 2] (S' := [_,_,_,_,_,_,_,_,_,_,_,_,_,_,_,_,_,_,_,_,_,_]) rfl ?_
             refine wc_ret ?_
             refine we_block_ret ?_
             refine we_then_ret ?_
             refine we_then_ret ?_
             refine we_block_ret ?_
             refine we_then_ret ?_
             refine ret_two (Hr := [.own 27 3 vRep (.slice none 0 0) [], .own 4 1 bRep (.slice none 0 0) []]) [0, 1] Try.results22 (res_cell 7 rfl rfl tS_56 tA_56 rfl rfl) (res_tmp rfl) ?_ (fun _ _ hφ => ask [] rfl hφ) rfl rfl (.inl rfl)
             exact ⟨_, _, _, _, _, _, rfl, MatchR.stop oks1.2 hx63 hx68 (h' := s1.2.1) (v' := s1.2.2) (FitR.none_ (h := s1.2.1) (vs := s1.2.2) h83 h85 h100 h121), rfl, rfl⟩
        ·
         replace h73 := of_decide_eq_false h73
         refine wl_off rfl rfl rfl (freshS_eq rfl) ?_
         refine wl_off rfl rfl rfl (freshS_eq rfl) ?_
         refine wl_off rfl rfl rfl (freshS_eq rfl) ?_
         refine wl_off rfl rfl rfl (freshS_eq rfl) ?_
         refine wl_off rfl rfl rfl (freshS_eq rfl) ?_
         refine wl_off rfl rfl rfl (freshS_eq rfl) ?_
         refine wl_pure rfl rfl rfl (freshS_eq rfl) rfl ?_
         refine wl_pure rfl rfl rfl (freshS_eq rfl) rfl ?_
         refine wl_nil ?_
         refine we_then ?_
         refine wc_keep [12, 11, 10, 57, 9, 8, 42, 7, 6, 5, 4, 3, 0, 1, 2] (S' := [_,_,_,_,_,_,_,_,_,_,_,_,_,_,_]) rfl ?_
         refine wc_seq ?_
         refine wc_region ?_
         refine wl_pure rfl rfl rfl (freshS_eq rfl) rfl ?_
         refine wl_nil ?_
         refine we_then ?_
         refine wc_seq ?_
         refine wc_seq ?_
         refine wc_region ?_
         refine wl_fieldAddr rfl rfl rfl (freshS_eq rfl) rfl rfl tF_48_0 ?_
         refine wl_loadH 1 0 rfl rfl rfl (freshS_eq rfl) rfl rfl rfl (cs := [_]) rfl tS_46 tA_46 rfl rfl ?_
         refine wl_nil ?_
         refine we_then ?_
         refine wc_keep [82, 13, 12, 11, 10, 57, 9, 8, 42, 7, 6, 5, 4, 3, 0, 1, 2] (S' := [_,_,_,_,_,_,_,_,_,_,_,_,_,_,_,_,_]) rfl ?_
         refine wc_block ?_
         refine wc_seq ?_
         refine wc_region ?_
         refine wl_pure rfl rfl rfl (freshS_eq rfl) rfl ?_
         refine wl_pure rfl rfl rfl (freshS_eq rfl) rfl ?_
         refine wl_nil ?_
         refine we_then ?_
         refine wc_keep [83, 82, 13, 12, 11, 10, 57, 9, 8, 42, 7, 6, 5, 4, 3, 0, 1, 2] (S' := [_,_,_,_,_,_,_,_,_,_,_,_,_,_,_,_,_,_]) rfl ?_
         refine wc_cond rfl (fun h83 => ?_) (fun h83 => ?_)
         ·
          replace h83 := eq_of_beq h83
          refine wc_region ?_
          refine wl_pure (S' := [_,_,_,_,_,_,_,_,_,_,_,_,_,_,_,_,_]) rfl rfl rfl rfl rfl ?_
          refine wl_nil ?_
          refine we_block_normal ?_
          refine we_then ?_
          refine wc_seq ?_
          refine wc_region ?_
          refine wl_pure rfl rfl rfl (freshS_eq rfl) rfl ?_
          refine wl_pure rfl rfl rfl (freshS_eq rfl) rfl ?_
          refine wl_nil ?_
          refine we_then ?_
          refine wc_keep [128, 13, 83, 82, 12, 11, 10, 57, 9, 8, 42, 7, 6, 5, 4, 3, 0, 1, 2] (S' := [_,_,_,_,_,_,_,_,_,_,_,_,_,_,_,_,_,_,_]) rfl ?_
          refine wc_false rfl ?_
          refine wc_skip ?_
          refine we_block_normal ?_
          refine we_then ?_
          refine wc_region ?_
          refine wl_pure rfl rfl rfl (freshS_eq rfl) rfl ?_
          refine wl_pure rfl rfl rfl (freshS_eq rfl) rfl ?_
          refine wl_as (d := 59) (v' := .int .i64 ((s1.1 + 1 : Nat) : Int)) (S' := [_,_,_,_,_,_,_,_,_,_,_,_,_,_,_,_,_,_,_,_]) rfl rfl (nat_inc (by omega)) ?_
          refine wl_pure (S' := [_,_,_,_,_,_,_,_,_,_,_,_,_,_,_,_,_,_,_,_]) rfl rfl rfl rfl rfl ?_
          refine wl_nil ?_
          refine we_pick [2, 3, 4, 5, 6, 7, 8] rfl (H' := [_,_,_,_,_,_,_]) rfl ?_
          refine we_round (s1.1 + 1, s1.2.1, s1.2.2) (by dsimp only; omega) ⟨by dsimp only; omega, FitR.step oks1.2 hx63 hx68 (FitR.any h83)⟩ [9, 8, 42, 7, 6, 5, 4, 3, 0, 1, 2] rfl (fun _ _ hφ => ask [4, 5, 6, 7] rfl hφ) rfl
         ·
          replace h83 := ne_of_beq_false h83
          refine wc_seq ?_
          refine wc_region ?_
          refine wl_pure rfl rfl rfl (freshS_eq rfl) rfl ?_
          refine wl_pure rfl rfl rfl (freshS_eq rfl) rfl ?_
          refine wl_nil ?_
          refine we_then ?_
          refine wc_keep [85, 83, 82, 13, 12, 11, 10, 57, 9, 8, 42, 7, 6, 5, 4, 3, 0, 1, 2] (S' := [_,_,_,_,_,_,_,_,_,_,_,_,_,_,_,_,_,_,_]) rfl ?_
          refine wc_cond rfl (fun h85 => ?_) (fun h85 => ?_)
          ·
           replace h85 := eq_of_beq h85
           refine wc_seq ?_
           refine wc_region ?_
           refine wl_pure rfl rfl rfl (freshS_eq rfl) rfl ?_
           refine wl_pure (S' := [_,_,_,_,_,_,_,_,_,_,_,_,_,_,_,_,_,_,_]) rfl rfl rfl rfl rfl ?_
           refine wl_nil ?_
           refine we_then ?_
           refine wc_keep [13, 85, 83, 82, 12, 11, 10, 57, 9, 8, 42, 7, 6, 5, 4, 3, 0, 1, 2] (S' := [_,_,_,_,_,_,_,_,_,_,_,_,_,_,_,_,_,_,_]) rfl ?_
           refine wc_seq ?_
           refine wc_region ?_
           refine wl_pure rfl rfl rfl (freshS_eq rfl) rfl ?_
           refine wl_nil ?_
           refine we_then ?_
           refine wc_false rfl ?_
           refine wc_skip ?_
           refine we_block_normal ?_
           refine we_then ?_
           refine wc_seq ?_
           refine wc_region ?_
           refine wl_pure rfl rfl rfl (freshS_eq rfl) rfl ?_
           refine wl_pure rfl rfl rfl (freshS_eq rfl) rfl ?_
           refine wl_nil ?_
           refine we_then ?_
           refine wc_keep [128, 88, 13, 85, 83, 82, 12, 11, 10, 57, 9, 8, 42, 7, 6, 5, 4, 3, 0, 1, 2] (S' := [_,_,_,_,_,_,_,_,_,_,_,_,_,_,_,_,_,_,_,_,_]) rfl ?_
           refine wc_true rfl ?_
           refine wc_rowNil 4 1 bRep ?_
           refine wc_rowNil 27 3 vRep ?_
           refine wc_seq ?_
           refine wc_region ?_
           refine wl_build rfl rfl rfl (freshS_eq rfl) rfl tZ_56 tP_56 rfl (out := [_,_]) rfl ?_
           refine wl_store 7 0 rfl rfl rfl rfl rfl rfl rfl tS_56 rfl rfl rfl (all' := [_,_]) rfl (H' := [_,_,_,_,_,_,_,_,_,_,_]) rfl ?_
           refine wl_pure (S' := [_,_,_,_,_,_,_,_,_,_,_,_,_,_,_,_,_,_,_,_,_]) rfl rfl rfl rfl rfl ?_
           refine wl_nil ?_
           refine we_then ?_
           refine wc_keep [7, 128, 88, 13, 85, 83, 82, 12, 11, 10, 57, 9, 8, 42, 6, 5, 4, 3, 0, 1, 2] (S' := [_,_,_,_,_,_,_,_,_,_,_,_,_,_,_,_,_,_,_,_,_]) rfl ?_
           refine wc_ret ?_
           refine we_block_ret ?_
           refine we_then_ret ?_
           refine we_then_ret ?_
           refine we_block_ret ?_
           refine we_then_ret ?_
           refine ret_two (Hr := [.own 27 3 vRep (.slice none 0 0) [], .own 4 1 bRep (.slice none 0 0) []]) [0, 1] Try.results22 (res_cell 7 rfl rfl tS_56 tA_56 rfl rfl) (res_tmp rfl) ?_ (fun _ _ hφ => ask [] rfl hφ) rfl rfl (.inl rfl)
           exact ⟨_, _, _, _, _, _, rfl, MatchR.stop oks1.2 hx63 hx68 (h' := s1.2.1) (v' := s1.2.2) (FitR.out2 (h := s1.2.1) (vs := s1.2.2) h85 (by omega)), rfl, rfl⟩
          ·
           replace h85 := ne_of_beq_false h85
           refine wc_seq ?_
           refine wc_region ?_
           refine wl_pure rfl rfl rfl (freshS_eq rfl) rfl ?_
           refine wl_pure rfl rfl rfl (freshS_eq rfl) rfl ?_
           refine wl_nil ?_
           refine we_then ?_
           refine wc_keep [100, 85, 83, 82, 13, 12, 11, 10, 57, 9, 8, 42, 7, 6, 5, 4, 3, 0, 1, 2] (S' := [_,_,_,_,_,_,_,_,_,_,_,_,_,_,_,_,_,_,_,_]) rfl ?_
           refine wc_cond rfl (fun h100 => ?_) (fun h100 => ?_)
           ·
            replace h100 := eq_of_beq h100
            refine wc_draw [0, 1, 2, 3, 4, 5, 6, 7, 8, 9, 10, 11, 12, 13, 14, 15, 16, 17, 18] rfl rfl (fun hok => ?_)
            refine wx_pure hok 0 rfl rfl rfl (freshS_eq rfl) rfl rfl ?_
            refine wx_pure hok 1 rfl rfl rfl (freshS_eq rfl) rfl rfl ?_
            refine wx_off hok 2 rfl rfl rfl (freshS_eq rfl) rfl ?_
            refine wx_off hok 3 rfl rfl rfl (freshS_eq rfl) rfl ?_
            refine wx_off hok 4 rfl rfl rfl (freshS_eq rfl) rfl ?_
            refine wx_off hok 5 rfl rfl rfl (freshS_eq rfl) rfl ?_
            refine wx_off hok 6 rfl rfl rfl (freshS_eq rfl) rfl ?_
            refine wx_off hok 7 rfl rfl rfl (freshS_eq rfl) rfl ?_
            refine wx_pure hok 8 rfl rfl rfl (freshS_eq rfl) rfl rfl ?_
            refine wx_pure hok 9 rfl rfl rfl (freshS_eq rfl) rfl rfl ?_
            refine wx_off hok 10 rfl rfl rfl (freshS_eq rfl) rfl ?_
            refine wx_off hok 11 rfl rfl rfl (freshS_eq rfl) rfl ?_
            refine wx_off hok 12 rfl rfl rfl (freshS_eq rfl) rfl ?_
            refine wx_off hok 13 rfl rfl rfl (freshS_eq rfl) rfl ?_
            refine wx_off hok 14 rfl rfl rfl (freshS_eq rfl) rfl ?_
            refine wx_off hok 15 rfl rfl rfl (freshS_eq rfl) rfl ?_
            refine wx_off hok 16 rfl rfl rfl (freshS_eq rfl) rfl ?_
            refine wx_off hok 17 rfl rfl rfl (freshS_eq rfl) rfl ?_
            refine wx_pure hok 18 rfl rfl rfl (freshS_eq rfl) rfl rfl ?_
            refine wx_step1 hok 19 rfl rfl rfl rfl ?_
            refine wl_pure (S' := [_,_,_,_,_,_,_,_,_,_,_,_,_,_,_,_,_,_,_,_,_,_,_,_,_,_,_,_,_,_,_,_,_,_,_,_,_,_]) rfl rfl rfl rfl rfl ?_
            refine wl_nil ?_
            refine we_x [0, 1, 2, 3, 4, 5, 6, 7] [] rfl rfl ?_
            refine wx_done hok rfl ?_
            refine we_block_normal ?_
            refine we_then ?_
            refine wc_seq ?_
            refine wc_region ?_
            refine wl_pure rfl rfl rfl (freshS_eq rfl) rfl ?_
            refine wl_pure rfl rfl rfl (freshS_eq rfl) rfl ?_
            refine wl_nil ?_
            refine we_then ?_
            refine wc_keep [128, 13, 100, 85, 83, 82, 12, 11, 10, 57, 9, 8, 42, 7, 6, 5, 4, 3, 0, 1, 2] (S' := [_,_,_,_,_,_,_,_,_,_,_,_,_,_,_,_,_,_,_,_,_]) rfl ?_
            refine wc_true rfl ?_
            refine wc_rowNil 4 1 bRep ?_
            refine wc_rowNil 27 3 vRep ?_
            refine wc_seq ?_
            refine wc_region ?_
            refine wl_build rfl rfl rfl (freshS_eq rfl) rfl tZ_56 tP_56 rfl (out := [_,_]) rfl ?_
            refine wl_store 7 0 rfl rfl rfl rfl rfl rfl rfl tS_56 rfl rfl rfl (all' := [_,_]) rfl (H' := [_,_,_,_,_,_,_,_,_,_,_]) rfl ?_
            refine wl_pure (S' := [_,_,_,_,_,_,_,_,_,_,_,_,_,_,_,_,_,_,_,_,_]) rfl rfl rfl rfl rfl ?_
            refine wl_nil ?_
            refine we_then ?_
            refine wc_keep [7, 128, 13, 100, 85, 83, 82, 12, 11, 10, 57, 9, 8, 42, 6, 5, 4, 3, 0, 1, 2] (S' := [_,_,_,_,_,_,_,_,_,_,_,_,_,_,_,_,_,_,_,_,_]) rfl ?_
            refine wc_ret ?_
            refine we_block_ret ?_
            refine we_then_ret ?_
            refine we_then_ret ?_
            refine we_block_ret ?_
            refine we_then_ret ?_
            refine ret_two (Hr := [.own 27 3 vRep (.slice none 0 0) [], .own 4 1 bRep (.slice none 0 0) []]) [0, 1] Try.results22 (res_cell 7 rfl rfl tS_56 tA_56 rfl rfl) (res_tmp rfl) ?_ (fun _ _ hφ => ask [] rfl hφ) rfl rfl (.inl rfl)
            exact ⟨_, _, _, _, _, _, rfl, MatchR.stop oks1.2 hx63 hx68 (h' := s1.2.1) (v' := s1.2.2) (FitR.out3 (h := s1.2.1) (vs := s1.2.2) h100 (by omega)), rfl, rfl⟩
           ·
            replace h100 := ne_of_beq_false h100
            refine wc_seq ?_
            refine wc_region ?_
            refine wl_pure rfl rfl rfl (freshS_eq rfl) rfl ?_
            refine wl_pure rfl rfl rfl (freshS_eq rfl) rfl ?_
            refine wl_nil ?_
            refine we_then ?_
            refine wc_keep [121, 100, 85, 83, 82, 13, 12, 11, 10, 57, 9, 8, 42, 7, 6, 5, 4, 3, 0, 1, 2] (S' := [_,_,_,_,_,_,_,_,_,_,_,_,_,_,_,_,_,_,_,_,_]) rfl ?_
            refine wc_cond rfl (fun h121 => ?_) (fun h121 => ?_)
            ·
             replace h121 := eq_of_beq h121
             refine wc_region ?_
             refine wl_fieldAddr rfl rfl rfl (freshS_eq rfl) rfl rfl tF_48_2 ?_
             refine wl_loadH 1 2 rfl rfl rfl (freshS_eq rfl) rfl rfl rfl (cs := [_,_,_]) rfl tS_27 tA_27 rfl rfl ?_
             refine wl_loadH 0 0 rfl rfl rfl (freshS_eq rfl) rfl rfl rfl (cs := [_,_,_]) rfl tS_27 tA_27 rfl rfl ?_
             refine wl_bin rfl rfl rfl (freshS_eq rfl) rfl rfl rfl (eqlV _ _ x63.v x68) ?_
             refine wl_pure (S' := [_,_,_,_,_,_,_,_,_,_,_,_,_,_,_,_,_,_,_,_,_,_,_,_]) rfl rfl rfl rfl rfl ?_
             refine wl_nil ?_
             refine we_block_normal ?_
             refine we_then ?_
             refine wc_seq ?_
             refine wc_region ?_
             refine wl_pure rfl rfl rfl (freshS_eq rfl) rfl ?_
             refine wl_pure rfl rfl rfl (freshS_eq rfl) rfl ?_
             refine wl_nil ?_
             refine we_then ?_
             refine wc_keep [128, 13, 121, 100, 85, 83, 82, 12, 11, 10, 57, 9, 8, 42, 7, 6, 5, 4, 3, 0, 1, 2] (S' := [_,_,_,_,_,_,_,_,_,_,_,_,_,_,_,_,_,_,_,_,_,_]) rfl ?_
             refine wc_cond rfl (fun h128 => ?_) (fun h128 => ?_)
             ·
              replace h128 := nd_true h128
              refine wc_rowNil 4 1 bRep ?_
              refine wc_rowNil 27 3 vRep ?_
              refine wc_seq ?_
              refine wc_region ?_
              refine wl_build rfl rfl rfl (freshS_eq rfl) rfl tZ_56 tP_56 rfl (out := [_,_]) rfl ?_
              refine wl_store 7 0 rfl rfl rfl rfl rfl rfl rfl tS_56 rfl rfl rfl (all' := [_,_]) rfl (H' := [_,_,_,_,_,_,_,_,_,_,_]) rfl ?_
              refine wl_pure (S' := [_,_,_,_,_,_,_,_,_,_,_,_,_,_,_,_,_,_,_,_,_,_]) rfl rfl rfl rfl rfl ?_
              refine wl_nil ?_
              refine we_then ?_
              refine wc_keep [7, 128, 13, 121, 100, 85, 83, 82, 12, 11, 10, 57, 9, 8, 42, 6, 5, 4, 3, 0, 1, 2] (S' := [_,_,_,_,_,_,_,_,_,_,_,_,_,_,_,_,_,_,_,_,_,_]) rfl ?_
              refine wc_ret ?_
              refine we_block_ret ?_
              refine we_then_ret ?_
              refine we_then_ret ?_
              refine we_block_ret ?_
              refine we_then_ret ?_
              refine ret_two (Hr := [.own 27 3 vRep (.slice none 0 0) [], .own 4 1 bRep (.slice none 0 0) []]) [0, 1] Try.results22 (res_cell 7 rfl rfl tS_56 tA_56 rfl rfl) (res_tmp rfl) ?_ (fun _ _ hφ => ask [] rfl hφ) rfl rfl (.inl rfl)
              exact ⟨_, _, _, _, _, _, rfl, MatchR.stop oks1.2 hx63 hx68 (h' := s1.2.1) (v' := s1.2.2) ((FitR.known (FitR.const (h := s1.2.1) (vs := s1.2.2) h121) (decide_eq_false h128))), rfl, rfl⟩
             ·
              replace h128 := nd_false h128
              refine wc_skip ?_
              refine we_block_normal ?_
              refine we_then ?_
              refine wc_region ?_
              refine wl_pure rfl rfl rfl (freshS_eq rfl) rfl ?_
              refine wl_pure rfl rfl rfl (freshS_eq rfl) rfl ?_
              refine wl_as (d := 59) (v' := .int .i64 ((s1.1 + 1 : Nat) : Int)) (S' := [_,_,_,_,_,_,_,_,_,_,_,_,_,_,_,_,_,_,_,_,_,_,_]) rfl rfl (nat_inc (by omega)) ?_
              refine wl_pure (S' := [_,_,_,_,_,_,_,_,_,_,_,_,_,_,_,_,_,_,_,_,_,_,_]) rfl rfl rfl rfl rfl ?_
              refine wl_nil ?_
              refine we_pick [2, 3, 4, 5, 6, 7, 8] rfl (H' := [_,_,_,_,_,_,_]) rfl ?_
              refine we_round (s1.1 + 1, s1.2.1, s1.2.2) (by dsimp only; omega) ⟨by dsimp only; omega, FitR.step oks1.2 hx63 hx68 ((FitR.known (FitR.const (h := s1.2.1) (vs := s1.2.2) h121) (decide_eq_true h128)))⟩ [9, 8, 42, 7, 6, 5, 4, 3, 0, 1, 2] rfl (fun _ _ hφ => ask [4, 5, 6, 7] rfl hφ) rfl
            ·
             replace h121 := ne_of_beq_false h121
             refine wc_skip ?_
             refine we_block_normal ?_
             refine we_then ?_
             refine wc_seq ?_
             refine wc_region ?_
             refine wl_pure rfl rfl rfl (freshS_eq rfl) rfl ?_
             refine wl_pure rfl rfl rfl (freshS_eq rfl) rfl ?_
             refine wl_nil ?_
             refine we_then ?_
             refine wc_keep [128, 121, 100, 85, 83, 82, 13, 12, 11, 10, 57, 9, 8, 42, 7, 6, 5, 4, 3, 0, 1, 2] (S' := [_,_,_,_,_,_,_,_,_,_,_,_,_,_,_,_,_,_,_,_,_,_]) rfl ?_
             refine wc_true rfl ?_
             refine wc_rowNil 4 1 bRep ?_
             refine wc_rowNil 27 3 vRep ?_
             refine wc_seq ?_
             refine wc_region ?_
             refine wl_build rfl rfl rfl (freshS_eq rfl) rfl tZ_56 tP_56 rfl (out := [_,_]) rfl ?_
             refine wl_store 7 0 rfl rfl rfl rfl rfl rfl rfl tS_56 rfl rfl rfl (all' := [_,_]) rfl (H' := [_,_,_,_,_,_,_,_,_,_,_]) rfl ?_
             refine wl_pure (S' := [_,_,_,_,_,_,_,_,_,_,_,_,_,_,_,_,_,_,_,_,_,_]) rfl rfl rfl rfl rfl ?_
             refine wl_nil ?_
             refine we_then ?_
             refine wc_keep [7, 128, 121, 100, 85, 83, 82, 13, 12, 11, 10, 57, 9, 8, 42, 6, 5, 4, 3, 0, 1, 2] (S' := [_,_,_,_,_,_,_,_,_,_,_,_,_,_,_,_,_,_,_,_,_,_]) rfl ?_
             refine wc_ret ?_
             refine we_block_ret ?_
             refine we_then_ret ?_
             refine we_then_ret ?_
             refine we_block_ret ?_
             refine we_then_ret ?_
             refine ret_two (Hr := [.own 27 3 vRep (.slice none 0 0) [], .own 4 1 bRep (.slice none 0 0) []]) [0, 1] Try.results22 (res_cell 7 rfl rfl tS_56 tA_56 rfl rfl) (res_tmp rfl) ?_ (fun _ _ hφ => ask [] rfl hφ) rfl rfl (.inl rfl)
             exact ⟨_, _, _, _, _, _, rfl, MatchR.stop oks1.2 hx63 hx68 (h' := s1.2.1) (v' := s1.2.2) (FitR.none_ (h := s1.2.1) (vs := s1.2.2) h83 h85 h100 h121), rfl, rfl⟩
      ·
       replace h57 := of_decide_eq_false h57
       refine wc_exit ?_
       refine we_then_exit ?_
       refine we_then_exit ?_
       refine we_block_hit ?_
       refine we_then ?_
       refine wc_seq ?_
       refine wc_region ?_
       refine wl_loadH 0 0 rfl rfl rfl (freshS_eq rfl) rfl rfl rfl (cs := [_,_]) rfl tS_56 tA_56 rfl rfl ?_
       refine wl_store 3 0 rfl rfl rfl rfl rfl rfl rfl tS_56 rfl rfl rfl (all' := [_,_]) rfl (H' := [_,_,_,_,_,_,_]) rfl ?_
       refine wl_pure (S' := [_,_,_,_,_,_,_,_,_,_,_,_]) rfl rfl rfl rfl rfl ?_
       refine wl_nil ?_
       refine we_then ?_
       refine wc_keep [7, 57, 9, 8, 42, 6, 5, 4, 3, 0, 1, 2] (S' := [_,_,_,_,_,_,_,_,_,_,_,_]) rfl ?_
       refine wc_ret ?_
       refine ret_two (Hr := [.own 27 3 vRep (.slice p51 (vals).length c51) s1.2.2, .own 4 1 bRep (.slice p47 (has).length c47) s1.2.1]) [1, 2] Try.results22 (res_cell 3 rfl rfl tS_56 tA_56 rfl rfl) (res_tmp rfl) ?_ (fun _ _ hφ => ask [] rfl hφ) rfl rfl (.inl rfl)
       exact ⟨true, ⟨s1.2.1, s1.2.2⟩, p47, c47, p51, c51, by simp only [hq.1, hq.2], MatchR.yes ⟨by omega, by omega, by omega, hb15.1 h17⟩ oks1.2 (by omega), rfl, by simp only [hq.1, hq.2]⟩

end Go.Proofs.Ytffcijddfhhbdaa
