/- Walks, printed by a program out of the loaded code (wip/sep). -/
import Derived.Test.YtffcijddfhhbdaaW7
import Derived.Test.YtffcijddfhhbdaaMap
import Derived.Test.YtffcijddfhhbdaaFills
import Derived.Test.YtffcijddfhhbdaaEqB
namespace Go.Proofs.Ytffcijddfhhbdaa
open Go.RowKit
set_option maxRecDepth 100000 in
set_option maxHeartbeats 4000000 in
theorem fills_s (pa px p1 p2 : Option Addr) (ca cx c1 c2 : Nat) (t0 t1 t2 t3 t4 t5 t6 : Value) (c : CondD) (f : FactD) (has : List Bool) (vals : List V) (v0 : V) (okv0 : v0.ok) : Spec Try.prog 3 [.agg #[.int .u8 (c.k), .int .i64 (c.ty), .slice pa c.args.length ca, t0, t1, t2, t3, t4, t5, t6], .agg #[.int .i64 (f.id), .int .i64 (f.ty), .slice px f.args.length cx], .slice p1 has.length c1, .slice p2 vals.length c2, .agg #[.int .u8 (v0.k), .int .i64 (v0.n), .string v0.s]] [.sli 5 aRep pa ca c.args, .sli 3 vRep px cx f.args, .sli 1 bRep p1 c1 has, .sli 3 vRep p2 c2 vals] [] (fun v Φr Hr => v = .bool true ∧ Φr = [] ∧ Hr = []) := by
 refine spec_of Try.func3 rfl Try.ntmps3 rfl (S := [_,_,_,_,_]) rfl (fun C => ?_)
 refine wc_know (fun F w h => sli_cap (h _ (mem_at (k := 0) rfl))) (fun hcap => ?_)
 refine wc_seq ?_
 refine wc_region ?_
 refine wl_box rfl rfl rfl (freshS_eq rfl) rfl rfl rfl (fun g5 => ?_)
 refine wl_box rfl rfl rfl (freshS_eq rfl) rfl rfl rfl (fun g6 => ?_)
 refine wl_box rfl rfl rfl (freshS_eq rfl) rfl rfl rfl (fun g9 => ?_)
 refine wl_pure rfl rfl rfl (freshS_eq rfl) rfl ?_
 refine wl_nil ?_
 refine we_then ?_
 refine wc_seq ?_
 refine wc_seq ?_
 refine wc_region ?_
 refine wl_call [] [0, 1, 2] rfl rfl rfl (freshS_eq rfl) rfl rfl fn_5 rfl awake_s (fun _ _ hφ => ask [] rfl hφ) rfl (H' := [_,_,_]) rfl ?_
 rintro _ _ _ ⟨rfl, rfl, rfl⟩
 refine wl_pure rfl rfl rfl (freshS_eq rfl) rfl ?_
 refine wl_nil ?_
 refine we_then ?_
 refine wc_keep [30, 10, 9, 6, 5, 0, 1, 2, 3, 4] (S' := [_,_,_,_,_,_,_,_,_,_]) rfl ?_
 refine wc_false rfl ?_
 refine wc_skip ?_
 refine we_then ?_
 refine wc_seq ?_
 refine wc_seq ?_
 refine wc_region ?_
 refine wl_fieldAddr rfl rfl rfl (freshS_eq rfl) rfl rfl tF_33_2 ?_
 refine wl_loadH 2 2 rfl rfl rfl (freshS_eq rfl) rfl rfl rfl (cs := [_]) rfl tS_23 tA_23 rfl rfl ?_
 refine wl_len rfl rfl rfl (freshS_eq rfl) rfl rfl tE_23 ?_
 refine wl_pure rfl rfl rfl (freshS_eq rfl) rfl ?_
 refine wl_pure rfl rfl rfl (freshS_eq rfl) rfl ?_
 refine wl_split (d := 35) (S' := [_,_,_,_,_,_,_,_,_,_,_,_,_,_]) rfl rfl (fun h35 => ?_) (fun h35 => ?_)
 ·
  replace h35 := of_decide_eq_true h35
  refine wl_off rfl rfl rfl (freshS_eq rfl) ?_
  refine wl_off rfl rfl rfl (freshS_eq rfl) ?_
  refine wl_off rfl rfl rfl (freshS_eq rfl) ?_
  refine wl_off rfl rfl rfl (freshS_eq rfl) ?_
  refine wl_pure rfl rfl rfl (freshS_eq rfl) rfl ?_
  refine wl_pure rfl rfl rfl (freshS_eq rfl) rfl ?_
  refine wl_off rfl rfl rfl (freshS_eq rfl) ?_
  refine wl_off rfl rfl rfl (freshS_eq rfl) ?_
  refine wl_off rfl rfl rfl (freshS_eq rfl) ?_
  refine wl_pure rfl rfl rfl (freshS_eq rfl) rfl ?_
  refine wl_pure rfl rfl rfl (freshS_eq rfl) rfl ?_
  refine wl_off rfl rfl rfl (freshS_eq rfl) ?_
  refine wl_off rfl rfl rfl (freshS_eq rfl) ?_
  refine wl_off rfl rfl rfl (freshS_eq rfl) ?_
  refine wl_pure rfl rfl rfl (freshS_eq rfl) rfl ?_
  refine wl_nil ?_
  refine we_then ?_
  refine wc_keep [50, 30, 10, 9, 6, 5, 0, 1, 2, 3, 4] (S' := [_,_,_,_,_,_,_,_,_,_,_]) rfl ?_
  refine wc_true rfl ?_
  refine wc_seq ?_
  refine wc_region ?_
  refine wl_pure (S' := [_,_,_,_,_,_,_,_,_,_]) rfl rfl rfl rfl rfl ?_
  refine wl_nil ?_
  refine we_then ?_
  refine wc_ret ?_
  refine we_then_ret ?_
  refine ret_one (Hr := []) [] Try.results3 (res_tmp rfl) ?_ (fun _ _ hφ => ask [] rfl hφ) rfl rfl (.inl rfl)
  exact ⟨rfl, rfl, rfl⟩
 ·
  replace h35 := of_decide_eq_false h35
  refine wl_fieldAddr rfl rfl rfl (freshS_eq rfl) rfl rfl tF_36_2 ?_
  refine wl_loadH 1 2 rfl rfl rfl (freshS_eq rfl) rfl rfl rfl (cs := [_]) rfl tS_34 tA_34 rfl rfl ?_
  refine wl_len rfl rfl rfl (freshS_eq rfl) rfl rfl tE_34 ?_
  refine wl_pure rfl rfl rfl (freshS_eq rfl) rfl ?_
  refine wl_pure rfl rfl rfl (freshS_eq rfl) rfl ?_
  refine wl_pure rfl rfl rfl (freshS_eq rfl) rfl ?_
  refine wl_split (d := 41) (S' := [_,_,_,_,_,_,_,_,_,_,_,_,_,_,_,_,_,_,_,_]) rfl rfl (fun h41 => ?_) (fun h41 => ?_)
  ·
   replace h41 := of_decide_eq_true h41
   refine wl_off rfl rfl rfl (freshS_eq rfl) ?_
   refine wl_off rfl rfl rfl (freshS_eq rfl) ?_
   refine wl_off rfl rfl rfl (freshS_eq rfl) ?_
   refine wl_pure rfl rfl rfl (freshS_eq rfl) rfl ?_
   refine wl_pure rfl rfl rfl (freshS_eq rfl) rfl ?_
   refine wl_off rfl rfl rfl (freshS_eq rfl) ?_
   refine wl_off rfl rfl rfl (freshS_eq rfl) ?_
   refine wl_off rfl rfl rfl (freshS_eq rfl) ?_
   refine wl_pure rfl rfl rfl (freshS_eq rfl) rfl ?_
   refine wl_nil ?_
   refine we_then ?_
   refine wc_keep [50, 30, 10, 9, 6, 5, 0, 1, 2, 3, 4] (S' := [_,_,_,_,_,_,_,_,_,_,_]) rfl ?_
   refine wc_true rfl ?_
   refine wc_seq ?_
   refine wc_region ?_
   refine wl_pure (S' := [_,_,_,_,_,_,_,_,_,_]) rfl rfl rfl rfl rfl ?_
   refine wl_nil ?_
   refine we_then ?_
   refine wc_ret ?_
   refine we_then_ret ?_
   refine ret_one (Hr := []) [] Try.results3 (res_tmp rfl) ?_ (fun _ _ hφ => ask [] rfl hφ) rfl rfl (.inl rfl)
   exact ⟨rfl, rfl, rfl⟩
  ·
   replace h41 := of_decide_eq_false h41
   refine wl_pure rfl rfl rfl (freshS_eq rfl) rfl ?_
   refine wl_len rfl rfl rfl (freshS_eq rfl) rfl rfl tE_37 ?_
   refine wl_pure rfl rfl rfl (freshS_eq rfl) rfl ?_
   refine wl_pure rfl rfl rfl (freshS_eq rfl) rfl ?_
   refine wl_pure rfl rfl rfl (freshS_eq rfl) rfl ?_
   refine wl_split (d := 46) (S' := [_,_,_,_,_,_,_,_,_,_,_,_,_,_,_,_,_,_,_,_,_,_,_,_,_]) rfl rfl (fun h46 => ?_) (fun h46 => ?_)
   ·
    replace h46 := of_decide_eq_true h46
    refine wl_off rfl rfl rfl (freshS_eq rfl) ?_
    refine wl_off rfl rfl rfl (freshS_eq rfl) ?_
    refine wl_off rfl rfl rfl (freshS_eq rfl) ?_
    refine wl_pure rfl rfl rfl (freshS_eq rfl) rfl ?_
    refine wl_nil ?_
    refine we_then ?_
    refine wc_keep [50, 30, 10, 9, 6, 5, 0, 1, 2, 3, 4] (S' := [_,_,_,_,_,_,_,_,_,_,_]) rfl ?_
    refine wc_true rfl ?_
    refine wc_seq ?_
    refine wc_region ?_
    refine wl_pure (S' := [_,_,_,_,_,_,_,_,_,_]) rfl rfl rfl rfl rfl ?_
    refine wl_nil ?_
    refine we_then ?_
    refine wc_ret ?_
    refine we_then_ret ?_
    refine ret_one (Hr := []) [] Try.results3 (res_tmp rfl) ?_ (fun _ _ hφ => ask [] rfl hφ) rfl rfl (.inl rfl)
    exact ⟨rfl, rfl, rfl⟩
   ·
    replace h46 := of_decide_eq_false h46
    refine wl_pure rfl rfl rfl (freshS_eq rfl) rfl ?_
    refine wl_len rfl rfl rfl (freshS_eq rfl) rfl rfl tE_34 ?_
    refine wl_pure rfl rfl rfl (freshS_eq rfl) rfl ?_
    refine wl_pure rfl rfl rfl (freshS_eq rfl) rfl ?_
    refine wl_nil ?_
    refine we_then ?_
    refine wc_keep [50, 30, 10, 9, 6, 5, 0, 1, 2, 3, 4] (S' := [_,_,_,_,_,_,_,_,_,_,_]) rfl ?_
    refine wc_cond rfl (fun h50 => ?_) (fun h50 => ?_)
    ·
     replace h50 := of_decide_eq_true h50
     refine wc_seq ?_
     refine wc_region ?_
     refine wl_pure (S' := [_,_,_,_,_,_,_,_,_,_]) rfl rfl rfl rfl rfl ?_
     refine wl_nil ?_
     refine we_then ?_
     refine wc_ret ?_
     refine we_then_ret ?_
     refine ret_one (Hr := []) [] Try.results3 (res_tmp rfl) ?_ (fun _ _ hφ => ask [] rfl hφ) rfl rfl (.inl rfl)
     exact ⟨rfl, rfl, rfl⟩
    ·
     replace h50 := of_decide_eq_false h50
     refine wc_skip ?_
     refine we_then ?_
     refine wc_seq ?_
     refine wc_region ?_
     refine wl_buildSlice rfl rfl rfl (freshS_eq rfl) rfl tE_37 tS_4 tZ_4 rfl (zs := []) (by kernel_rfl) rfl (out := []) rfl (fun g51 => ?_)
     refine wl_pure rfl rfl rfl (freshS_eq rfl) rfl ?_
     refine wl_row (sz := 1) (m := 0) bRep [] 0 rfl (fun F w hφ => rfl) rfl (by decide) (H' := [_,_,_,_]) rfl ?_
     refine wl_append 0 2 rfl rfl rfl (freshS_eq rfl) rfl rfl rfl rfl rfl tE_37 tR_4 rfl rfl (by simp; omega) (by simp; omega) (H2 := fun p53 c53 => [.own 4 1 bRep (.slice p53 (has).length c53) has, .blk g9 [.int .u8 (v0.k), .int .i64 (v0.n), .string v0.s] 27, .blk g6 [.int .i64 (f.id), .int .i64 (f.ty), .slice px f.args.length cx] 36, .blk g5 [.int .u8 (c.k), .int .i64 (c.ty), .slice pa c.args.length ca, t0, t1, t2, t3, t4, t5, t6] 33]) (fun _ _ => rfl) (fun p53 c53 => ?_)
     refine wl_pure rfl rfl rfl (freshS_eq rfl) rfl ?_
     refine wl_call [] [0, 1, 2, 3] rfl rfl rfl (freshS_eq rfl) rfl rfl fn_6 rfl (CopyValues_s _ _ _ (by omega)) (fun _ _ hφ => ask [3] rfl hφ) rfl (H' := [_,_,_,_]) rfl ?_
     rintro _ _ _ ⟨p55, c55, rfl, rfl, rfl⟩
     refine wl_build rfl rfl rfl (freshS_eq rfl) rfl tZ_41 tP_41 rfl (out := [_,_]) rfl ?_
     refine wl_alloc rfl rfl rfl (freshS_eq rfl) rfl tZ_41 rfl (fun g11 => ?_)
     refine wl_store 0 0 rfl rfl rfl rfl rfl rfl rfl tS_41 rfl rfl rfl (all' := [_,_]) rfl (H' := [_,_,_,_,_,_]) rfl ?_
     refine wl_nil ?_
     refine we_then ?_
     refine wc_keep [11, 50, 30, 10, 9, 6, 5, 0, 1, 2, 3, 4] (S' := [_,_,_,_,_,_,_,_,_,_,_,_]) rfl ?_
     refine wc_seq ?_
     refine wc_region ?_
     refine wl_loadH 5 0 rfl rfl rfl (freshS_eq rfl) rfl rfl rfl (cs := [_,_,_,_,_,_,_,_,_,_]) rfl tS_33 tA_33 rfl rfl ?_
     refine wl_loadH 4 0 rfl rfl rfl (freshS_eq rfl) rfl rfl rfl (cs := [_,_,_]) rfl tS_36 tA_36 rfl rfl ?_
     refine wl_loadH 0 0 rfl rfl rfl (freshS_eq rfl) rfl rfl rfl (cs := [_,_]) rfl tS_41 tA_41 rfl rfl ?_
     refine wl_lend [] [0, 1, 2, 3, 4, 5] [1, 2] rfl rfl rfl (freshS_eq rfl) rfl rfl fn_7 rfl (Match_s _ _ _ _ _ _ _ _ _ _ _ _ _ _ _ ⟨c.k, c.ty, c.args⟩ ⟨f.id, f.ty, f.args⟩ has vals (by first | omega | (simp; omega)) (by first | omega | (simp; omega))) (fun F w hφ hh => (ask_cons (hφ _ (mem_at (k := 0) rfl)) (ask_cons (hφ _ (mem_at (k := 1) rfl)) (ask_cons (own_sli (hh _ (mem_at (k := 1) rfl))) (ask_cons (own_sli (hh _ (mem_at (k := 0) rfl))) ask_nil))))) (fun _ _ _ hR => by rcases hR with ⟨r61, e61, p61, c61, p61_2, c61_2, rfl, hmr61, rfl, rfl⟩ <;> exact ⟨rfl, by simp [own_free, blk_free, vRep_free, bRep_free, iRep_free, aRep_free]⟩) rfl rfl (H' := [_,_,_,_,_,_]) rfl ?_
     rintro _ _ _ ⟨r61, e61, p61, c61, p61_2, c61_2, rfl, hmr61, rfl, rfl⟩
     refine wl_pure rfl rfl rfl (freshS_eq rfl) rfl ?_
     refine wl_pure rfl rfl rfl (freshS_eq rfl) rfl ?_
     refine wl_pure rfl rfl rfl (freshS_eq rfl) rfl ?_
     refine wl_alloc rfl rfl rfl (freshS_eq rfl) rfl tZ_41 rfl (fun g12 => ?_)
     refine wl_store 0 0 rfl rfl rfl rfl rfl rfl rfl tS_41 rfl rfl rfl (all' := [_,_]) rfl (H' := [_,_,_,_,_,_,_,_,_]) rfl ?_
     refine wl_pure rfl rfl rfl (freshS_eq rfl) rfl ?_
     refine wl_nil ?_
     refine we_then ?_
     refine wc_keep [13, 12, 11, 50, 30, 10, 9, 6, 5, 0, 1, 2, 3, 4] (S' := [_,_,_,_,_,_,_,_,_,_,_,_,_,_]) rfl ?_
     refine wc_seq ?_
     refine wc_seq ?_
     refine wc_region ?_
     refine wl_pure rfl rfl rfl (freshS_eq rfl) rfl ?_
     refine wl_pure rfl rfl rfl (freshS_eq rfl) rfl ?_
     refine wl_nil ?_
     refine we_then ?_
     refine wc_keep [65, 13, 12, 11, 50, 30, 10, 9, 6, 5, 0, 1, 2, 3, 4] (S' := [_,_,_,_,_,_,_,_,_,_,_,_,_,_,_]) rfl ?_
     refine wc_cond rfl (fun h65 => ?_) (fun h65 => ?_)
     ·
      replace h65 := not_true h65
      obtain ⟨_, he61⟩ := hmr61.2 h65
      refine wc_seq ?_
      refine wc_region ?_
      refine wl_fieldAddr rfl rfl rfl (freshS_eq rfl) rfl rfl tF_41_0 ?_
      refine wl_loadH 0 0 rfl rfl rfl (freshS_eq rfl) rfl rfl rfl (cs := [_]) rfl tS_37 tA_37 rfl rfl ?_
      refine wl_len rfl rfl rfl (freshS_eq rfl) rfl rfl tE_37 ?_
      refine wl_pure rfl rfl rfl (freshS_eq rfl) rfl ?_
      refine wl_pure rfl rfl rfl (freshS_eq rfl) rfl ?_
      refine wl_split (d := 70) (S' := [_,_,_,_,_,_,_,_,_,_,_,_,_,_,_,_,_,_,_]) rfl rfl (fun h70 => ?_) (fun h70 => ?_)
      ·
       replace h70 := eq_of_beq h70
       refine wl_fieldAddr rfl rfl rfl (freshS_eq rfl) rfl rfl tF_41_1 ?_
       refine wl_loadH 0 1 rfl rfl rfl (freshS_eq rfl) rfl rfl rfl (cs := [_]) rfl tS_34 tA_34 rfl rfl ?_
       refine wl_len rfl rfl rfl (freshS_eq rfl) rfl rfl tE_34 ?_
       refine wl_pure rfl rfl rfl (freshS_eq rfl) rfl ?_
       refine wl_pure rfl rfl rfl (freshS_eq rfl) rfl ?_
       refine wl_pure (S' := [_,_,_,_,_,_,_,_,_,_,_,_,_,_,_,_,_,_,_,_,_,_,_,_]) rfl rfl rfl rfl rfl ?_
       refine wl_nil ?_
       refine we_then ?_
       refine wc_keep [10, 65, 13, 12, 11, 50, 30, 9, 6, 5, 0, 1, 2, 3, 4] (S' := [_,_,_,_,_,_,_,_,_,_,_,_,_,_,_]) rfl ?_
       refine wc_ret ?_
       refine we_then_ret ?_
       refine ret_one (Hr := []) [] Try.results3 (res_tmp rfl) ?_ (fun _ _ hφ => ask [] rfl hφ) rfl rfl (.inl rfl)
       exact ⟨by rw [he61]; rfl, rfl, rfl⟩
      ·
       replace h70 := ne_of_beq_false h70
       exfalso
       rw [he61] at h70
       exact h70 rfl
     ·
      replace h65 := not_false_ h65
      have hm1 := hmr61.1 h65
      obtain ⟨hck, hty, hla, hmade, hfit⟩ := match_some hm1
      dsimp only at hck hty hla hmade hfit
      have hl := hmade.1
      have hlen := fitTo_len hfit
      refine wc_skip ?_
      refine we_then ?_
      refine wc_seq ?_
      refine wc_seq ?_
      refine wc_region ?_
      refine wl_pure rfl rfl rfl (freshS_eq rfl) rfl ?_
      refine wl_len rfl rfl rfl (freshS_eq rfl) rfl rfl tE_37 ?_
      refine wl_pure rfl rfl rfl (freshS_eq rfl) rfl ?_
      refine wl_len rfl rfl rfl (freshS_eq rfl) rfl rfl tE_34 ?_
      refine wl_pure rfl rfl rfl (freshS_eq rfl) rfl ?_
      refine wl_pure rfl rfl rfl (freshS_eq rfl) rfl ?_
      refine wl_split (d := 81) (S' := [_,_,_,_,_,_,_,_,_,_,_,_,_,_,_,_,_,_,_,_]) rfl rfl (fun h81 => ?_) (fun h81 => ?_)
      ·
       replace h81 := bne_iff_ne.1 h81
       exfalso
       omega
      ·
       replace h81 := bne_eq_false_iff_eq.1 h81
       refine wl_fieldAddr rfl rfl rfl (freshS_eq rfl) rfl rfl tF_41_0 ?_
       refine wl_loadH 0 0 rfl rfl rfl (freshS_eq rfl) rfl rfl rfl (cs := [_]) rfl tS_37 tA_37 rfl rfl ?_
       refine wl_len rfl rfl rfl (freshS_eq rfl) rfl rfl tE_37 ?_
       refine wl_pure rfl rfl rfl (freshS_eq rfl) rfl ?_
       refine wl_len rfl rfl rfl (freshS_eq rfl) rfl rfl tE_37 ?_
       refine wl_pure rfl rfl rfl (freshS_eq rfl) rfl ?_
       refine wl_pure rfl rfl rfl (freshS_eq rfl) rfl ?_
       refine wl_pure rfl rfl rfl (freshS_eq rfl) rfl ?_
       refine wl_split (d := 89) (S' := [_,_,_,_,_,_,_,_,_,_,_,_,_,_,_,_,_,_,_,_,_,_,_,_,_,_,_,_]) rfl rfl (fun h89 => ?_) (fun h89 => ?_)
       ·
        replace h89 := bne_iff_ne.1 h89
        exfalso
        omega
       ·
        replace h89 := bne_eq_false_iff_eq.1 h89
        refine wl_fieldAddr rfl rfl rfl (freshS_eq rfl) rfl rfl tF_41_1 ?_
        refine wl_loadH 0 1 rfl rfl rfl (freshS_eq rfl) rfl rfl rfl (cs := [_]) rfl tS_34 tA_34 rfl rfl ?_
        refine wl_len rfl rfl rfl (freshS_eq rfl) rfl rfl tE_34 ?_
        refine wl_pure rfl rfl rfl (freshS_eq rfl) rfl ?_
        refine wl_len rfl rfl rfl (freshS_eq rfl) rfl rfl tE_34 ?_
        refine wl_pure rfl rfl rfl (freshS_eq rfl) rfl ?_
        refine wl_pure rfl rfl rfl (freshS_eq rfl) rfl ?_
        refine wl_pure rfl rfl rfl (freshS_eq rfl) rfl ?_
        refine wl_split (d := 97) (S' := [_,_,_,_,_,_,_,_,_,_,_,_,_,_,_,_,_,_,_,_,_,_,_,_,_,_,_,_,_,_,_,_,_,_,_,_]) rfl rfl (fun h97 => ?_) (fun h97 => ?_)
        ·
         replace h97 := bne_iff_ne.1 h97
         exfalso
         omega
        ·
         replace h97 := bne_eq_false_iff_eq.1 h97
         refine wl_fieldAddr rfl rfl rfl (freshS_eq rfl) rfl rfl tF_33_2 ?_
         refine wl_loadH 8 2 rfl rfl rfl (freshS_eq rfl) rfl rfl rfl (cs := [_]) rfl tS_23 tA_23 rfl rfl ?_
         refine wl_len rfl rfl rfl (freshS_eq rfl) rfl rfl tE_23 ?_
         refine wl_fieldAddr rfl rfl rfl (freshS_eq rfl) rfl rfl tF_36_2 ?_
         refine wl_loadH 7 2 rfl rfl rfl (freshS_eq rfl) rfl rfl rfl (cs := [_]) rfl tS_34 tA_34 rfl rfl ?_
         refine wl_len rfl rfl rfl (freshS_eq rfl) rfl rfl tE_34 ?_
         refine wl_pure rfl rfl rfl (freshS_eq rfl) rfl ?_
         refine wl_pure rfl rfl rfl (freshS_eq rfl) rfl ?_
         refine wl_pure rfl rfl rfl (freshS_eq rfl) rfl ?_
         refine wl_split (d := 106) (S' := [_,_,_,_,_,_,_,_,_,_,_,_,_,_,_,_,_,_,_,_,_,_,_,_,_,_,_,_,_,_,_,_,_,_,_,_,_,_,_,_,_,_,_,_,_]) rfl rfl (fun h106 => ?_) (fun h106 => ?_)
         ·
          replace h106 := bne_iff_ne.1 h106
          exfalso
          omega
         ·
          replace h106 := bne_eq_false_iff_eq.1 h106
          refine wl_fieldAddr rfl rfl rfl (freshS_eq rfl) rfl rfl tF_33_1 ?_
          refine wl_loadH 8 1 rfl rfl rfl (freshS_eq rfl) rfl rfl rfl (cs := [_]) rfl tS_3 tA_3 rfl rfl ?_
          refine wl_fieldAddr rfl rfl rfl (freshS_eq rfl) rfl rfl tF_36_1 ?_
          refine wl_loadH 7 1 rfl rfl rfl (freshS_eq rfl) rfl rfl rfl (cs := [_]) rfl tS_3 tA_3 rfl rfl ?_
          refine wl_pure rfl rfl rfl (freshS_eq rfl) rfl ?_
          refine wl_pure rfl rfl rfl (freshS_eq rfl) rfl ?_
          refine wl_nil ?_
          refine we_then ?_
          refine wc_keep [112, 65, 13, 12, 11, 50, 30, 10, 9, 6, 5, 0, 1, 2, 3, 4] (S' := [_,_,_,_,_,_,_,_,_,_,_,_,_,_,_,_]) rfl ?_
          refine wc_cond rfl (fun h112 => ?_) (fun h112 => ?_)
          ·
           replace h112 := bne_iff_ne.1 h112
           exfalso
           omega
          ·
           replace h112 := bne_eq_false_iff_eq.1 h112
           refine wc_skip ?_
           refine we_then ?_
           refine wc_seq ?_
           refine wc_region ?_
           refine wl_makeMap 3 3 (mInt tU_3) rfl rfl rfl (freshS_eq rfl) rfl (fun g113 => ?_)
           refine wl_pure rfl rfl rfl (freshS_eq rfl) rfl ?_
           refine wl_nil ?_
           refine we_then ?_
           refine wc_keep [14, 112, 65, 13, 12, 11, 50, 30, 10, 9, 6, 5, 0, 1, 2, 3, 4] (S' := [_,_,_,_,_,_,_,_,_,_,_,_,_,_,_,_,_]) rfl ?_
           refine wc_seq ?_
           refine wc_region ?_
           refine wl_pure rfl rfl rfl (freshS_eq rfl) rfl ?_
           refine wl_nil ?_
           refine we_then ?_
           refine wc_seq ?_
           refine wc_region ?_
           refine wl_makeMap 3 4 (mBool tU_4) rfl rfl rfl (freshS_eq rfl) rfl (fun g114 => ?_)
           refine wl_pure rfl rfl rfl (freshS_eq rfl) rfl ?_
           refine wl_nil ?_
           refine we_then ?_
           refine wc_keep [16, 15, 14, 112, 65, 13, 12, 11, 50, 30, 10, 9, 6, 5, 0, 1, 2, 3, 4] (S' := [_,_,_,_,_,_,_,_,_,_,_,_,_,_,_,_,_,_,_]) rfl ?_
           refine wc_seq ?_
           refine wc_seq ?_
           refine wc_region ?_
           refine wl_pure rfl rfl rfl (freshS_eq rfl) rfl ?_
           refine wl_nil ?_
           refine we_then ?_
           refine wc_block ?_
           refine wc_loop (σ := Nat × Nat × Nat × (Int → Option Int) × (Int → Option Bool) × Bool) (fun s => s.1 ≤ c.args.length ∧ s.2.1 ≤ s.1 ∧ s.2.2.1 ≤ s.1 ∧ s.2.2.2.1 = lastTo c.args s.1 ∧ s.2.2.2.2.1 = askedTo c.args s.1 ∧ s.2.2.2.2.2 = lateTo c.args s.1) (fun s => c.args.length - s.1) (fun s => [(17, .int .i64 ((s.1 : Nat) : Int)), (16, .map (some g114)), (15, .bool (s.2.2.2.2.2)), (14, .map (some g113)), (112, .bool (c.ty != f.ty)), (65, .bool (!r61)), (13, .bool r61), (12, .pointer (some ⟨g12, 0, none⟩)), (11, .pointer (some ⟨g11, 0, none⟩)), (50, .bool (decide (((vals.length : Nat) : Int) > 2000))), (30, .bool false), (10, .bool false), (9, .pointer (some ⟨g9, 0, none⟩)), (6, .pointer (some ⟨g6, 0, none⟩)), (5, .pointer (some ⟨g5, 0, none⟩)), (0, .agg #[.int .u8 (c.k), .int .i64 (c.ty), .slice pa c.args.length ca, t0, t1, t2, t3, t4, t5, t6]), (1, .agg #[.int .i64 (f.id), .int .i64 (f.ty), .slice px f.args.length cx]), (2, .slice p1 has.length c1), (3, .slice p2 vals.length c2), (4, .agg #[.int .u8 (v0.k), .int .i64 (v0.n), .string v0.s])]) (fun s => [.sli 5 aRep pa ca c.args, .sli 3 vRep px cx f.args, .sli 1 bRep p1 c1 has, .sli 3 vRep p2 c2 vals]) (fun s => [mapF Try.prog 3 4 (mBool tU_4) g114 s.2.2.1 s.2.2.2.2.1, mapF Try.prog 3 3 (mInt tU_3) g113 s.2.1 s.2.2.2.1, .blk g12 [.slice p61 e61.has.length c61, .slice p61_2 e61.vals.length c61_2] 41, .own 27 3 vRep (.slice p61_2 e61.vals.length c61_2) e61.vals, .own 4 1 bRep (.slice p61 e61.has.length c61) e61.has, .blk g11 [.slice p53 (has).length c53, .slice p55 vals.length c55] 41, .own 27 3 vRep (.slice p55 vals.length c55) vals, .own 4 1 bRep (.slice p53 (has).length c53) has, .blk g9 [.int .u8 (v0.k), .int .i64 (v0.n), .string v0.s] 27, .blk g6 [.int .i64 (f.id), .int .i64 (f.ty), .slice px f.args.length cx] 36, .blk g5 [.int .u8 (c.k), .int .i64 (c.ty), .slice pa c.args.length ca, t0, t1, t2, t3, t4, t5, t6] 33]) (0, 0, 0, (fun _ => none), (fun _ => none), false) ⟨by simp, by simp, by simp, rfl, rfl, rfl⟩ [17, 16, 15, 14, 112, 65, 13, 12, 11, 50, 30, 10, 9, 6, 5, 0, 1, 2, 3, 4] rfl (fun _ _ hφ => ask [0, 1, 2, 3] rfl hφ) rfl (fun s1 oks1 => ?_)
           refine wc_seq ?_
           refine wc_seq ?_
           refine wc_region ?_
           refine wl_pure rfl rfl rfl (freshS_eq rfl) rfl ?_
           refine wl_fieldAddr rfl rfl rfl (freshS_eq rfl) rfl rfl tF_33_2 ?_
           refine wl_loadH 10 2 rfl rfl rfl (freshS_eq rfl) rfl rfl rfl (cs := [_]) rfl tS_23 tA_23 rfl rfl ?_
           refine wl_len rfl rfl rfl (freshS_eq rfl) rfl rfl tE_23 ?_
           refine wl_pure rfl rfl rfl (freshS_eq rfl) rfl ?_
           refine wl_nil ?_
           refine we_then ?_
           refine wc_keep [119, 17, 16, 15, 14, 112, 65, 13, 12, 11, 50, 30, 10, 9, 6, 5, 0, 1, 2, 3, 4] (S' := [_,_,_,_,_,_,_,_,_,_,_,_,_,_,_,_,_,_,_,_,_]) rfl ?_
           refine wc_cond rfl (fun h119 => ?_) (fun h119 => ?_)
           ·
            replace h119 := of_decide_eq_true h119
            refine wc_skip ?_
            refine we_then ?_
            refine wc_seq ?_
            refine wc_block ?_
            refine wc_seq ?_
            refine wc_region ?_
            refine wl_fieldAddr rfl rfl rfl (freshS_eq rfl) rfl rfl tF_33_2 ?_
            refine wl_loadH 10 2 rfl rfl rfl (freshS_eq rfl) rfl rfl rfl (cs := [_]) rfl tS_23 tA_23 rfl rfl ?_
            refine wl_pure rfl rfl rfl (freshS_eq rfl) rfl ?_
            refine wl_index 0 s1.1 rfl rfl rfl (freshS_eq rfl) rfl rfl rfl rfl rfl (by omega) tE_23 tS_48 (fun b125 q125 cs125 x125 hx125 hlx125 => ?_)
            refine wl_open aRep_opens 1 rfl (fun r125 er125 okx125 => ?_)
            subst er125
            refine wl_load 0 0 rfl rfl rfl (freshS_eq rfl) rfl rfl rfl (cs := [_,_,_,_,_]) rfl tS_48 tA_48 rfl rfl ?_
            refine wl_alloc rfl rfl rfl (freshS_eq rfl) rfl tZ_48 rfl (fun g18 => ?_)
            refine wl_store 0 0 rfl rfl rfl rfl rfl rfl rfl tS_48 rfl rfl rfl (all' := [_,_,_,_,_]) rfl (H' := [_,_,_,_,_,_,_,_,_,_,_,_]) rfl ?_
            refine wl_nil ?_
            refine we_then ?_
            refine wc_keep [18, 119, 17, 16, 15, 14, 112, 65, 13, 12, 11, 50, 30, 10, 9, 6, 5, 0, 1, 2, 3, 4] (S' := [_,_,_,_,_,_,_,_,_,_,_,_,_,_,_,_,_,_,_,_,_,_]) rfl ?_
            refine wc_seq ?_
            refine wc_seq ?_
            refine wc_region ?_
            refine wl_fieldAddr rfl rfl rfl (freshS_eq rfl) rfl rfl tF_48_0 ?_
            refine wl_loadH 0 0 rfl rfl rfl (freshS_eq rfl) rfl rfl rfl (cs := [_]) rfl tS_46 tA_46 rfl rfl ?_
            refine wl_pure rfl rfl rfl (freshS_eq rfl) rfl ?_
            refine wl_nil ?_
            refine we_then ?_
            refine wc_keep [129, 18, 119, 17, 16, 15, 14, 112, 65, 13, 12, 11, 50, 30, 10, 9, 6, 5, 0, 1, 2, 3, 4] (S' := [_,_,_,_,_,_,_,_,_,_,_,_,_,_,_,_,_,_,_,_,_,_,_]) rfl ?_
            refine wc_cond rfl (fun h129 => ?_) (fun h129 => ?_)
            ·
             replace h129 := eq_of_beq h129
             obtain ⟨xi, hxi, h4c, h3c⟩ := fills_at hfit hl hx125
             refine wc_seq ?_
             refine wc_region ?_
             refine wl_pure rfl rfl rfl (freshS_eq rfl) rfl ?_
             refine wl_fieldAddr rfl rfl rfl (freshS_eq rfl) rfl rfl tF_48_1 ?_
             refine wl_loadH 0 1 rfl rfl rfl (freshS_eq rfl) rfl rfl rfl (cs := [_]) rfl tS_3 tA_3 rfl rfl ?_
             refine wl_pure rfl rfl rfl (freshS_eq rfl) rfl ?_
             refine wl_mapUpdate (E := (mInt tU_3)) (u := ((s1.1 : Nat) : Int)) 2 rfl rfl rfl rfl rfl rfl rfl tU_3 tM_44 (by omega) okx125.2.1 (inI_wf (by unfold inI; omega)) (H' := [_,_,_,_,_,_,_,_,_,_,_,_]) rfl ?_
             refine wl_nil ?_
             refine we_then ?_
             refine wc_keep [129, 18, 119, 17, 16, 15, 14, 112, 65, 13, 12, 11, 50, 30, 10, 9, 6, 5, 0, 1, 2, 3, 4] (S' := [_,_,_,_,_,_,_,_,_,_,_,_,_,_,_,_,_,_,_,_,_,_,_]) rfl ?_
             refine wc_region ?_
             refine wl_pure rfl rfl rfl (freshS_eq rfl) rfl ?_
             refine wl_pure rfl rfl rfl (freshS_eq rfl) rfl ?_
             refine wl_split (d := 135) (S' := [_,_,_,_,_,_,_,_,_,_,_,_,_,_,_,_,_,_,_,_,_,_,_,_]) rfl rfl (fun h135 => ?_) (fun h135 => ?_)
             ·
              refine wl_off rfl rfl rfl (freshS_eq rfl) ?_
              refine wl_off rfl rfl rfl (freshS_eq rfl) ?_
              refine wl_off rfl rfl rfl (freshS_eq rfl) ?_
              refine wl_off rfl rfl rfl (freshS_eq rfl) ?_
              refine wl_pure rfl rfl rfl (freshS_eq rfl) rfl ?_
              refine wl_pure (S' := [_,_,_,_,_,_,_,_,_,_,_,_,_,_,_,_,_,_,_,_,_,_,_,_,_,_,_,_,_]) rfl rfl rfl rfl rfl ?_
              refine wl_nil ?_
              refine we_then ?_
              refine wc_keep [15, 129, 18, 119, 17, 16, 14, 112, 65, 13, 12, 11, 50, 30, 10, 9, 6, 5, 0, 1, 2, 3, 4] (S' := [_,_,_,_,_,_,_,_,_,_,_,_,_,_,_,_,_,_,_,_,_,_,_]) rfl ?_
              refine wc_seq ?_
              refine wc_seq ?_
              refine wc_region ?_
              refine wl_fieldAddr rfl rfl rfl (freshS_eq rfl) rfl rfl tF_48_0 ?_
              refine wl_loadH 0 0 rfl rfl rfl (freshS_eq rfl) rfl rfl rfl (cs := [_]) rfl tS_46 tA_46 rfl rfl ?_
              refine wl_pure rfl rfl rfl (freshS_eq rfl) rfl ?_
              refine wl_nil ?_
              refine we_then ?_
              refine wc_keep [143, 15, 129, 18, 119, 17, 16, 14, 112, 65, 13, 12, 11, 50, 30, 10, 9, 6, 5, 0, 1, 2, 3, 4] (S' := [_,_,_,_,_,_,_,_,_,_,_,_,_,_,_,_,_,_,_,_,_,_,_,_]) rfl ?_
              refine wc_cond rfl (fun h143 => ?_) (fun h143 => ?_)
              ·
               replace h143 := eq_of_beq h143
               exfalso
               omega
              ·
               replace h143 := ne_of_beq_false h143
               refine wc_skip ?_
               refine we_then ?_
               refine wc_seq ?_
               refine wc_seq ?_
               refine wc_draw [0, 1, 2, 3, 4, 5, 6, 7, 8, 9, 10, 11, 12] rfl rfl (fun hok => ?_)
               refine wx_fieldAddr hok 0 rfl rfl rfl (freshS_eq rfl) rfl rfl rfl tF_48_0 ?_
               refine wx_loadH hok 1 0 0 rfl rfl rfl (freshS_eq rfl) rfl rfl rfl rfl (cs := [_]) rfl tS_46 tA_46 rfl rfl ?_
               refine wx_pure hok 2 rfl rfl rfl (freshS_eq rfl) rfl rfl ?_
               refine wx_pure hok 3 rfl rfl rfl (freshS_eq rfl) rfl rfl ?_
               refine wx_split (d := 150) (S' := [_,_,_,_,_,_,_,_,_,_,_,_,_,_,_,_,_,_,_,_,_,_,_,_,_,_,_]) rfl rfl (fun h150 => ?_) (fun h150 => ?_)
               ·
                replace h150 := eq_of_beq h150
                exfalso
                omega
               ·
                replace h150 := ne_of_beq_false h150
                refine wx_off hok 4 rfl rfl rfl (freshS_eq rfl) rfl ?_
                refine wx_off hok 5 rfl rfl rfl (freshS_eq rfl) rfl ?_
                refine wx_off hok 6 rfl rfl rfl (freshS_eq rfl) rfl ?_
                refine wx_off hok 7 rfl rfl rfl (freshS_eq rfl) rfl ?_
                refine wx_off hok 8 rfl rfl rfl (freshS_eq rfl) rfl ?_
                refine wx_off hok 9 rfl rfl rfl (freshS_eq rfl) rfl ?_
                refine wx_off hok 10 rfl rfl rfl (freshS_eq rfl) rfl ?_
                refine wx_off hok 11 rfl rfl rfl (freshS_eq rfl) rfl ?_
                refine wx_pure hok 12 rfl rfl rfl (freshS_eq rfl) rfl rfl ?_
                refine wx_done hok rfl ?_
                refine we_then ?_
                refine wc_keep [159, 143, 15, 129, 18, 119, 17, 16, 14, 112, 65, 13, 12, 11, 50, 30, 10, 9, 6, 5, 0, 1, 2, 3, 4] (S' := [_,_,_,_,_,_,_,_,_,_,_,_,_,_,_,_,_,_,_,_,_,_,_,_,_]) rfl ?_
                refine wc_false rfl ?_
                refine wc_skip ?_
                refine we_then ?_
                refine wc_seq ?_
                refine wc_seq ?_
                refine wc_region ?_
                refine wl_fieldAddr rfl rfl rfl (freshS_eq rfl) rfl rfl tF_48_0 ?_
                refine wl_loadH 0 0 rfl rfl rfl (freshS_eq rfl) rfl rfl rfl (cs := [_]) rfl tS_46 tA_46 rfl rfl ?_
                refine wl_pure rfl rfl rfl (freshS_eq rfl) rfl ?_
                refine wl_pure rfl rfl rfl (freshS_eq rfl) rfl ?_
                refine wl_split (d := 163) (S' := [_,_,_,_,_,_,_,_,_,_,_,_,_,_,_,_,_,_,_,_,_,_,_,_,_,_,_,_]) rfl rfl (fun h163 => ?_) (fun h163 => ?_)
                ·
                 replace h163 := eq_of_beq h163
                 exfalso
                 omega
                ·
                 replace h163 := ne_of_beq_false h163
                 refine wl_off rfl rfl rfl (freshS_eq rfl) ?_
                 refine wl_off rfl rfl rfl (freshS_eq rfl) ?_
                 refine wl_off rfl rfl rfl (freshS_eq rfl) ?_
                 refine wl_off rfl rfl rfl (freshS_eq rfl) ?_
                 refine wl_off rfl rfl rfl (freshS_eq rfl) ?_
                 refine wl_off rfl rfl rfl (freshS_eq rfl) ?_
                 refine wl_off rfl rfl rfl (freshS_eq rfl) ?_
                 refine wl_off rfl rfl rfl (freshS_eq rfl) ?_
                 refine wl_off rfl rfl rfl (freshS_eq rfl) ?_
                 refine wl_off rfl rfl rfl (freshS_eq rfl) ?_
                 refine wl_pure rfl rfl rfl (freshS_eq rfl) rfl ?_
                 refine wl_nil ?_
                 refine we_then ?_
                 refine wc_keep [174, 159, 143, 15, 129, 18, 119, 17, 16, 14, 112, 65, 13, 12, 11, 50, 30, 10, 9, 6, 5, 0, 1, 2, 3, 4] (S' := [_,_,_,_,_,_,_,_,_,_,_,_,_,_,_,_,_,_,_,_,_,_,_,_,_,_]) rfl ?_
                 refine wc_false rfl ?_
                 refine wc_skip ?_
                 refine we_then ?_
                 refine wc_seq ?_
                 refine wc_region ?_
                 refine wl_pure rfl rfl rfl (freshS_eq rfl) rfl ?_
                 refine wl_fieldAddr rfl rfl rfl (freshS_eq rfl) rfl rfl tF_48_1 ?_
                 refine wl_loadH 0 1 rfl rfl rfl (freshS_eq rfl) rfl rfl rfl (cs := [_]) rfl tS_3 tA_3 rfl rfl ?_
                 refine wl_keyed (f := fun q => if q = x125.var then some ((s1.1 : Nat) : Int) else s1.2.2.2.1 q) x125.var (fun hk179 => ?_) (fun kx179 hk179 => ?_)
                 ·
                  refine wl_lookup (E := (mInt tU_3)) 2 rfl rfl rfl (freshS_eq rfl) rfl rfl rfl rfl tZ_3 tU_3 tM_44 okx125.2.1 (v := .tuple #[.int .i64 0, .bool false]) (by rw [hk179]; rfl) ?_
                  refine wl_pure rfl rfl rfl (freshS_eq rfl) rfl ?_
                  refine wl_pure rfl rfl rfl (freshS_eq rfl) rfl ?_
                  refine wl_pure rfl rfl rfl (freshS_eq rfl) rfl ?_
                  refine wl_pure rfl rfl rfl (freshS_eq rfl) rfl ?_
                  refine wl_pure rfl rfl rfl (freshS_eq rfl) rfl ?_
                  refine wl_nil ?_
                  refine we_then ?_
                  refine wc_keep [20, 19, 174, 159, 143, 15, 129, 18, 119, 17, 16, 14, 112, 65, 13, 12, 11, 50, 30, 10, 9, 6, 5, 0, 1, 2, 3, 4] (S' := [_,_,_,_,_,_,_,_,_,_,_,_,_,_,_,_,_,_,_,_,_,_,_,_,_,_,_,_]) rfl ?_
                  refine wc_seq ?_
                  refine wc_draw [0, 1, 2, 3, 4, 5, 6, 7, 8, 9, 10, 11, 12, 13, 14, 15, 16, 17, 18, 19, 20, 21, 22, 23, 24, 25, 26, 27, 28, 29, 30, 31, 32, 33, 34, 35, 36, 37, 38, 39, 40, 41, 42, 43] rfl rfl (fun hok => ?_)
                  refine wx_fieldAddr hok 0 rfl rfl rfl (freshS_eq rfl) rfl rfl rfl tF_48_0 ?_
                  refine wx_loadH hok 1 0 0 rfl rfl rfl (freshS_eq rfl) rfl rfl rfl rfl (cs := [_]) rfl tS_46 tA_46 rfl rfl ?_
                  refine wx_pure hok 2 rfl rfl rfl (freshS_eq rfl) rfl rfl ?_
                  refine wx_pure hok 3 rfl rfl rfl (freshS_eq rfl) rfl rfl ?_
                  refine wx_split (d := 185) (S' := [_,_,_,_,_,_,_,_,_,_,_,_,_,_,_,_,_,_,_,_,_,_,_,_,_,_,_,_,_,_,_]) rfl rfl (fun h185 => ?_) (fun h185 => ?_)
                  ·
                   replace h185 := eq_of_beq h185
                   exfalso
                   omega
                  ·
                   replace h185 := ne_of_beq_false h185
                   refine wx_off hok 4 rfl rfl rfl (freshS_eq rfl) rfl ?_
                   refine wx_off hok 5 rfl rfl rfl (freshS_eq rfl) rfl ?_
                   refine wx_off hok 6 rfl rfl rfl (freshS_eq rfl) rfl ?_
                   refine wx_off hok 7 rfl rfl rfl (freshS_eq rfl) rfl ?_
                   refine wx_off hok 8 rfl rfl rfl (freshS_eq rfl) rfl ?_
                   refine wx_off hok 9 rfl rfl rfl (freshS_eq rfl) rfl ?_
                   refine wx_off hok 10 rfl rfl rfl (freshS_eq rfl) rfl ?_
                   refine wx_off hok 11 rfl rfl rfl (freshS_eq rfl) rfl ?_
                   refine wx_off hok 12 rfl rfl rfl (freshS_eq rfl) rfl ?_
                   refine wx_off hok 13 rfl rfl rfl (freshS_eq rfl) rfl ?_
                   refine wx_off hok 14 rfl rfl rfl (freshS_eq rfl) rfl ?_
                   refine wx_off hok 15 rfl rfl rfl (freshS_eq rfl) rfl ?_
                   refine wx_off hok 16 rfl rfl rfl (freshS_eq rfl) rfl ?_
                   refine wx_off hok 17 rfl rfl rfl (freshS_eq rfl) rfl ?_
                   refine wx_off hok 18 rfl rfl rfl (freshS_eq rfl) rfl ?_
                   refine wx_off hok 19 rfl rfl rfl (freshS_eq rfl) rfl ?_
                   refine wx_off hok 20 rfl rfl rfl (freshS_eq rfl) rfl ?_
                   refine wx_off hok 21 rfl rfl rfl (freshS_eq rfl) rfl ?_
                   refine wx_off hok 22 rfl rfl rfl (freshS_eq rfl) rfl ?_
                   refine wx_off hok 23 rfl rfl rfl (freshS_eq rfl) rfl ?_
                   refine wx_off hok 24 rfl rfl rfl (freshS_eq rfl) rfl ?_
                   refine wx_off hok 25 rfl rfl rfl (freshS_eq rfl) rfl ?_
                   refine wx_off hok 26 rfl rfl rfl (freshS_eq rfl) rfl ?_
                   refine wx_off hok 27 rfl rfl rfl (freshS_eq rfl) rfl ?_
                   refine wx_off hok 28 rfl rfl rfl (freshS_eq rfl) rfl ?_
                   refine wx_off hok 29 rfl rfl rfl (freshS_eq rfl) rfl ?_
                   refine wx_off hok 30 rfl rfl rfl (freshS_eq rfl) rfl ?_
                   refine wx_off hok 31 rfl rfl rfl (freshS_eq rfl) rfl ?_
                   refine wx_off hok 32 rfl rfl rfl (freshS_eq rfl) rfl ?_
                   refine wx_off hok 33 rfl rfl rfl (freshS_eq rfl) rfl ?_
                   refine wx_off hok 34 rfl rfl rfl (freshS_eq rfl) rfl ?_
                   refine wx_off hok 35 rfl rfl rfl (freshS_eq rfl) rfl ?_
                   refine wx_off hok 36 rfl rfl rfl (freshS_eq rfl) rfl ?_
                   refine wx_off hok 37 rfl rfl rfl (freshS_eq rfl) rfl ?_
                   refine wx_off hok 38 rfl rfl rfl (freshS_eq rfl) rfl ?_
                   refine wx_off hok 39 rfl rfl rfl (freshS_eq rfl) rfl ?_
                   refine wx_off hok 40 rfl rfl rfl (freshS_eq rfl) rfl ?_
                   refine wx_off hok 41 rfl rfl rfl (freshS_eq rfl) rfl ?_
                   refine wx_off hok 42 rfl rfl rfl (freshS_eq rfl) rfl ?_
                   refine wx_pure hok 43 rfl rfl rfl (freshS_eq rfl) rfl rfl ?_
                   refine wx_done hok rfl ?_
                   refine we_then ?_
                   refine wc_keep [225, 20, 19, 174, 159, 143, 15, 129, 18, 119, 17, 16, 14, 112, 65, 13, 12, 11, 50, 30, 10, 9, 6, 5, 0, 1, 2, 3, 4] (S' := [_,_,_,_,_,_,_,_,_,_,_,_,_,_,_,_,_,_,_,_,_,_,_,_,_,_,_,_,_]) rfl ?_
                   refine wc_false rfl ?_
                   refine wc_skip ?_
                   refine we_block_normal ?_
                   refine we_then ?_
                   refine wc_region ?_
                   refine wl_pure rfl rfl rfl (freshS_eq rfl) rfl ?_
                   refine wl_pure rfl rfl rfl (freshS_eq rfl) rfl ?_
                   refine wl_as (d := 121) (v' := .int .i64 ((s1.1 + 1 : Nat) : Int)) (S' := [_,_,_,_,_,_,_,_,_,_,_,_,_,_,_,_,_,_,_,_,_,_,_,_,_,_,_,_,_,_]) rfl rfl (nat_inc (by omega)) ?_
                   refine wl_pure (S' := [_,_,_,_,_,_,_,_,_,_,_,_,_,_,_,_,_,_,_,_,_,_,_,_,_,_,_,_,_,_]) rfl rfl rfl rfl rfl ?_
                   refine wl_nil ?_
                   refine we_pick [1, 2, 3, 4, 5, 6, 7, 8, 9, 10, 11] rfl (H' := [_,_,_,_,_,_,_,_,_,_,_]) rfl ?_
                   refine we_round (s1.1 + 1, s1.2.1 + 1, s1.2.2.1, fun q => if q = x125.var then some ((s1.1 : Nat) : Int) else s1.2.2.2.1 q, s1.2.2.2.2.1, true) (by dsimp only; omega) ⟨by dsimp only; omega, by dsimp only; omega, by dsimp only; omega, by rw [last_step hx125, ← oks1.2.2.2.1]; funext q; simp [h129], by rw [asked_step hx125, ← oks1.2.2.2.2.1]; funext q; simp [h129], by rw [late_step hx125, ← oks1.2.2.2.2.1, ← oks1.2.2.2.2.2]; simp [h129, h135]⟩ [17, 16, 15, 14, 112, 65, 13, 12, 11, 50, 30, 10, 9, 6, 5, 0, 1, 2, 3, 4] rfl (fun _ _ hφ => ask [2, 3, 4, 5] rfl hφ) rfl
                 ·
                  refine wl_lookup (E := (mInt tU_3)) 2 rfl rfl rfl (freshS_eq rfl) rfl rfl rfl rfl tZ_3 tU_3 tM_44 okx125.2.1 (v := .tuple #[.int .i64 kx179, .bool true]) (by rw [hk179]; rfl) ?_
                  refine wl_pure rfl rfl rfl (freshS_eq rfl) rfl ?_
                  refine wl_pure rfl rfl rfl (freshS_eq rfl) rfl ?_
                  refine wl_pure rfl rfl rfl (freshS_eq rfl) rfl ?_
                  refine wl_pure rfl rfl rfl (freshS_eq rfl) rfl ?_
                  refine wl_pure rfl rfl rfl (freshS_eq rfl) rfl ?_
                  refine wl_nil ?_
                  refine we_then ?_
                  refine wc_keep [20, 19, 174, 159, 143, 15, 129, 18, 119, 17, 16, 14, 112, 65, 13, 12, 11, 50, 30, 10, 9, 6, 5, 0, 1, 2, 3, 4] (S' := [_,_,_,_,_,_,_,_,_,_,_,_,_,_,_,_,_,_,_,_,_,_,_,_,_,_,_,_]) rfl ?_
                  refine wc_seq ?_
                  refine wc_draw [0, 1, 2, 3, 4, 5, 6, 7, 8, 9, 10, 11, 12, 13, 14, 15, 16, 17, 18, 19, 20, 21, 22, 23, 24, 25, 26, 27, 28, 29, 30, 31, 32, 33, 34, 35, 36, 37, 38, 39, 40, 41, 42, 43] rfl rfl (fun hok => ?_)
                  refine wx_fieldAddr hok 0 rfl rfl rfl (freshS_eq rfl) rfl rfl rfl tF_48_0 ?_
                  refine wx_loadH hok 1 0 0 rfl rfl rfl (freshS_eq rfl) rfl rfl rfl rfl (cs := [_]) rfl tS_46 tA_46 rfl rfl ?_
                  refine wx_pure hok 2 rfl rfl rfl (freshS_eq rfl) rfl rfl ?_
                  refine wx_pure hok 3 rfl rfl rfl (freshS_eq rfl) rfl rfl ?_
                  refine wx_split (d := 185) (S' := [_,_,_,_,_,_,_,_,_,_,_,_,_,_,_,_,_,_,_,_,_,_,_,_,_,_,_,_,_,_,_]) rfl rfl (fun h185 => ?_) (fun h185 => ?_)
                  ·
                   replace h185 := eq_of_beq h185
                   exfalso
                   omega
                  ·
                   replace h185 := ne_of_beq_false h185
                   refine wx_off hok 4 rfl rfl rfl (freshS_eq rfl) rfl ?_
                   refine wx_off hok 5 rfl rfl rfl (freshS_eq rfl) rfl ?_
                   refine wx_off hok 6 rfl rfl rfl (freshS_eq rfl) rfl ?_
                   refine wx_off hok 7 rfl rfl rfl (freshS_eq rfl) rfl ?_
                   refine wx_off hok 8 rfl rfl rfl (freshS_eq rfl) rfl ?_
                   refine wx_off hok 9 rfl rfl rfl (freshS_eq rfl) rfl ?_
                   refine wx_off hok 10 rfl rfl rfl (freshS_eq rfl) rfl ?_
                   refine wx_off hok 11 rfl rfl rfl (freshS_eq rfl) rfl ?_
                   refine wx_off hok 12 rfl rfl rfl (freshS_eq rfl) rfl ?_
                   refine wx_off hok 13 rfl rfl rfl (freshS_eq rfl) rfl ?_
                   refine wx_off hok 14 rfl rfl rfl (freshS_eq rfl) rfl ?_
                   refine wx_off hok 15 rfl rfl rfl (freshS_eq rfl) rfl ?_
                   refine wx_off hok 16 rfl rfl rfl (freshS_eq rfl) rfl ?_
                   refine wx_off hok 17 rfl rfl rfl (freshS_eq rfl) rfl ?_
                   refine wx_off hok 18 rfl rfl rfl (freshS_eq rfl) rfl ?_
                   refine wx_off hok 19 rfl rfl rfl (freshS_eq rfl) rfl ?_
                   refine wx_off hok 20 rfl rfl rfl (freshS_eq rfl) rfl ?_
                   refine wx_off hok 21 rfl rfl rfl (freshS_eq rfl) rfl ?_
                   refine wx_off hok 22 rfl rfl rfl (freshS_eq rfl) rfl ?_
                   refine wx_off hok 23 rfl rfl rfl (freshS_eq rfl) rfl ?_
                   refine wx_off hok 24 rfl rfl rfl (freshS_eq rfl) rfl ?_
                   refine wx_off hok 25 rfl rfl rfl (freshS_eq rfl) rfl ?_
                   refine wx_off hok 26 rfl rfl rfl (freshS_eq rfl) rfl ?_
                   refine wx_off hok 27 rfl rfl rfl (freshS_eq rfl) rfl ?_
                   refine wx_off hok 28 rfl rfl rfl (freshS_eq rfl) rfl ?_
                   refine wx_off hok 29 rfl rfl rfl (freshS_eq rfl) rfl ?_
                   refine wx_off hok 30 rfl rfl rfl (freshS_eq rfl) rfl ?_
                   refine wx_off hok 31 rfl rfl rfl (freshS_eq rfl) rfl ?_
                   refine wx_off hok 32 rfl rfl rfl (freshS_eq rfl) rfl ?_
                   refine wx_off hok 33 rfl rfl rfl (freshS_eq rfl) rfl ?_
                   refine wx_off hok 34 rfl rfl rfl (freshS_eq rfl) rfl ?_
                   refine wx_off hok 35 rfl rfl rfl (freshS_eq rfl) rfl ?_
                   refine wx_off hok 36 rfl rfl rfl (freshS_eq rfl) rfl ?_
                   refine wx_off hok 37 rfl rfl rfl (freshS_eq rfl) rfl ?_
                   refine wx_off hok 38 rfl rfl rfl (freshS_eq rfl) rfl ?_
                   refine wx_off hok 39 rfl rfl rfl (freshS_eq rfl) rfl ?_
                   refine wx_off hok 40 rfl rfl rfl (freshS_eq rfl) rfl ?_
                   refine wx_off hok 41 rfl rfl rfl (freshS_eq rfl) rfl ?_
                   refine wx_off hok 42 rfl rfl rfl (freshS_eq rfl) rfl ?_
                   refine wx_pure hok 43 rfl rfl rfl (freshS_eq rfl) rfl rfl ?_
                   refine wx_done hok rfl ?_
                   refine we_then ?_
                   refine wc_keep [225, 20, 19, 174, 159, 143, 15, 129, 18, 119, 17, 16, 14, 112, 65, 13, 12, 11, 50, 30, 10, 9, 6, 5, 0, 1, 2, 3, 4] (S' := [_,_,_,_,_,_,_,_,_,_,_,_,_,_,_,_,_,_,_,_,_,_,_,_,_,_,_,_,_]) rfl ?_
                   refine wc_false rfl ?_
                   refine wc_skip ?_
                   refine we_block_normal ?_
                   refine we_then ?_
                   refine wc_region ?_
                   refine wl_pure rfl rfl rfl (freshS_eq rfl) rfl ?_
                   refine wl_pure rfl rfl rfl (freshS_eq rfl) rfl ?_
                   refine wl_as (d := 121) (v' := .int .i64 ((s1.1 + 1 : Nat) : Int)) (S' := [_,_,_,_,_,_,_,_,_,_,_,_,_,_,_,_,_,_,_,_,_,_,_,_,_,_,_,_,_,_]) rfl rfl (nat_inc (by omega)) ?_
                   refine wl_pure (S' := [_,_,_,_,_,_,_,_,_,_,_,_,_,_,_,_,_,_,_,_,_,_,_,_,_,_,_,_,_,_]) rfl rfl rfl rfl rfl ?_
                   refine wl_nil ?_
                   refine we_pick [1, 2, 3, 4, 5, 6, 7, 8, 9, 10, 11] rfl (H' := [_,_,_,_,_,_,_,_,_,_,_]) rfl ?_
                   refine we_round (s1.1 + 1, s1.2.1 + 1, s1.2.2.1, fun q => if q = x125.var then some ((s1.1 : Nat) : Int) else s1.2.2.2.1 q, s1.2.2.2.2.1, true) (by dsimp only; omega) ⟨by dsimp only; omega, by dsimp only; omega, by dsimp only; omega, by rw [last_step hx125, ← oks1.2.2.2.1]; funext q; simp [h129], by rw [asked_step hx125, ← oks1.2.2.2.2.1]; funext q; simp [h129], by rw [late_step hx125, ← oks1.2.2.2.2.1, ← oks1.2.2.2.2.2]; simp [h129, h135]⟩ [17, 16, 15, 14, 112, 65, 13, 12, 11, 50, 30, 10, 9, 6, 5, 0, 1, 2, 3, 4] rfl (fun _ _ hφ => ask [2, 3, 4, 5] rfl hφ) rfl
             ·
              refine wl_pure rfl rfl rfl (freshS_eq rfl) rfl ?_
              refine wl_fieldAddr rfl rfl rfl (freshS_eq rfl) rfl rfl tF_48_1 ?_
              refine wl_loadH 0 1 rfl rfl rfl (freshS_eq rfl) rfl rfl rfl (cs := [_]) rfl tS_3 tA_3 rfl rfl ?_
              refine wl_lookup (E := (mBool tU_4)) 1 rfl rfl rfl (freshS_eq rfl) rfl rfl rfl rfl tZ_4 tU_3 tM_45 okx125.2.1 (v := .bool ((s1.2.2.2.2.1 x125.var).getD false)) (by cases (s1.2.2.2.2.1 x125.var) <;> rfl) ?_
              refine wl_pure rfl rfl rfl (freshS_eq rfl) rfl ?_
              refine wl_pure (S' := [_,_,_,_,_,_,_,_,_,_,_,_,_,_,_,_,_,_,_,_,_,_,_,_,_,_,_,_,_]) rfl rfl rfl rfl rfl ?_
              refine wl_nil ?_
              refine we_then ?_
              refine wc_keep [15, 129, 18, 119, 17, 16, 14, 112, 65, 13, 12, 11, 50, 30, 10, 9, 6, 5, 0, 1, 2, 3, 4] (S' := [_,_,_,_,_,_,_,_,_,_,_,_,_,_,_,_,_,_,_,_,_,_,_]) rfl ?_
              refine wc_seq ?_
              refine wc_seq ?_
              refine wc_region ?_
              refine wl_fieldAddr rfl rfl rfl (freshS_eq rfl) rfl rfl tF_48_0 ?_
              refine wl_loadH 0 0 rfl rfl rfl (freshS_eq rfl) rfl rfl rfl (cs := [_]) rfl tS_46 tA_46 rfl rfl ?_
              refine wl_pure rfl rfl rfl (freshS_eq rfl) rfl ?_
              refine wl_nil ?_
              refine we_then ?_
              refine wc_keep [143, 15, 129, 18, 119, 17, 16, 14, 112, 65, 13, 12, 11, 50, 30, 10, 9, 6, 5, 0, 1, 2, 3, 4] (S' := [_,_,_,_,_,_,_,_,_,_,_,_,_,_,_,_,_,_,_,_,_,_,_,_]) rfl ?_
              refine wc_cond rfl (fun h143 => ?_) (fun h143 => ?_)
              ·
               replace h143 := eq_of_beq h143
               exfalso
               omega
              ·
               replace h143 := ne_of_beq_false h143
               refine wc_skip ?_
               refine we_then ?_
               refine wc_seq ?_
               refine wc_seq ?_
               refine wc_draw [0, 1, 2, 3, 4, 5, 6, 7, 8, 9, 10, 11, 12] rfl rfl (fun hok => ?_)
               refine wx_fieldAddr hok 0 rfl rfl rfl (freshS_eq rfl) rfl rfl rfl tF_48_0 ?_
               refine wx_loadH hok 1 0 0 rfl rfl rfl (freshS_eq rfl) rfl rfl rfl rfl (cs := [_]) rfl tS_46 tA_46 rfl rfl ?_
               refine wx_pure hok 2 rfl rfl rfl (freshS_eq rfl) rfl rfl ?_
               refine wx_pure hok 3 rfl rfl rfl (freshS_eq rfl) rfl rfl ?_
               refine wx_split (d := 150) (S' := [_,_,_,_,_,_,_,_,_,_,_,_,_,_,_,_,_,_,_,_,_,_,_,_,_,_,_]) rfl rfl (fun h150 => ?_) (fun h150 => ?_)
               ·
                replace h150 := eq_of_beq h150
                exfalso
                omega
               ·
                replace h150 := ne_of_beq_false h150
                refine wx_off hok 4 rfl rfl rfl (freshS_eq rfl) rfl ?_
                refine wx_off hok 5 rfl rfl rfl (freshS_eq rfl) rfl ?_
                refine wx_off hok 6 rfl rfl rfl (freshS_eq rfl) rfl ?_
                refine wx_off hok 7 rfl rfl rfl (freshS_eq rfl) rfl ?_
                refine wx_off hok 8 rfl rfl rfl (freshS_eq rfl) rfl ?_
                refine wx_off hok 9 rfl rfl rfl (freshS_eq rfl) rfl ?_
                refine wx_off hok 10 rfl rfl rfl (freshS_eq rfl) rfl ?_
                refine wx_off hok 11 rfl rfl rfl (freshS_eq rfl) rfl ?_
                refine wx_pure hok 12 rfl rfl rfl (freshS_eq rfl) rfl rfl ?_
                refine wx_done hok rfl ?_
                refine we_then ?_
                refine wc_keep [159, 143, 15, 129, 18, 119, 17, 16, 14, 112, 65, 13, 12, 11, 50, 30, 10, 9, 6, 5, 0, 1, 2, 3, 4] (S' := [_,_,_,_,_,_,_,_,_,_,_,_,_,_,_,_,_,_,_,_,_,_,_,_,_]) rfl ?_
                refine wc_false rfl ?_
                refine wc_skip ?_
                refine we_then ?_
                refine wc_seq ?_
                refine wc_seq ?_
                refine wc_region ?_
                refine wl_fieldAddr rfl rfl rfl (freshS_eq rfl) rfl rfl tF_48_0 ?_
                refine wl_loadH 0 0 rfl rfl rfl (freshS_eq rfl) rfl rfl rfl (cs := [_]) rfl tS_46 tA_46 rfl rfl ?_
                refine wl_pure rfl rfl rfl (freshS_eq rfl) rfl ?_
                refine wl_pure rfl rfl rfl (freshS_eq rfl) rfl ?_
                refine wl_split (d := 163) (S' := [_,_,_,_,_,_,_,_,_,_,_,_,_,_,_,_,_,_,_,_,_,_,_,_,_,_,_,_]) rfl rfl (fun h163 => ?_) (fun h163 => ?_)
                ·
                 replace h163 := eq_of_beq h163
                 exfalso
                 omega
                ·
                 replace h163 := ne_of_beq_false h163
                 refine wl_off rfl rfl rfl (freshS_eq rfl) ?_
                 refine wl_off rfl rfl rfl (freshS_eq rfl) ?_
                 refine wl_off rfl rfl rfl (freshS_eq rfl) ?_
                 refine wl_off rfl rfl rfl (freshS_eq rfl) ?_
                 refine wl_off rfl rfl rfl (freshS_eq rfl) ?_
                 refine wl_off rfl rfl rfl (freshS_eq rfl) ?_
                 refine wl_off rfl rfl rfl (freshS_eq rfl) ?_
                 refine wl_off rfl rfl rfl (freshS_eq rfl) ?_
                 refine wl_off rfl rfl rfl (freshS_eq rfl) ?_
                 refine wl_off rfl rfl rfl (freshS_eq rfl) ?_
                 refine wl_pure rfl rfl rfl (freshS_eq rfl) rfl ?_
                 refine wl_nil ?_
                 refine we_then ?_
                 refine wc_keep [174, 159, 143, 15, 129, 18, 119, 17, 16, 14, 112, 65, 13, 12, 11, 50, 30, 10, 9, 6, 5, 0, 1, 2, 3, 4] (S' := [_,_,_,_,_,_,_,_,_,_,_,_,_,_,_,_,_,_,_,_,_,_,_,_,_,_]) rfl ?_
                 refine wc_false rfl ?_
                 refine wc_skip ?_
                 refine we_then ?_
                 refine wc_seq ?_
                 refine wc_region ?_
                 refine wl_pure rfl rfl rfl (freshS_eq rfl) rfl ?_
                 refine wl_fieldAddr rfl rfl rfl (freshS_eq rfl) rfl rfl tF_48_1 ?_
                 refine wl_loadH 0 1 rfl rfl rfl (freshS_eq rfl) rfl rfl rfl (cs := [_]) rfl tS_3 tA_3 rfl rfl ?_
                 refine wl_keyed (f := fun q => if q = x125.var then some ((s1.1 : Nat) : Int) else s1.2.2.2.1 q) x125.var (fun hk179 => ?_) (fun kx179 hk179 => ?_)
                 ·
                  refine wl_lookup (E := (mInt tU_3)) 2 rfl rfl rfl (freshS_eq rfl) rfl rfl rfl rfl tZ_3 tU_3 tM_44 okx125.2.1 (v := .tuple #[.int .i64 0, .bool false]) (by rw [hk179]; rfl) ?_
                  refine wl_pure rfl rfl rfl (freshS_eq rfl) rfl ?_
                  refine wl_pure rfl rfl rfl (freshS_eq rfl) rfl ?_
                  refine wl_pure rfl rfl rfl (freshS_eq rfl) rfl ?_
                  refine wl_pure rfl rfl rfl (freshS_eq rfl) rfl ?_
                  refine wl_pure rfl rfl rfl (freshS_eq rfl) rfl ?_
                  refine wl_nil ?_
                  refine we_then ?_
                  refine wc_keep [20, 19, 174, 159, 143, 15, 129, 18, 119, 17, 16, 14, 112, 65, 13, 12, 11, 50, 30, 10, 9, 6, 5, 0, 1, 2, 3, 4] (S' := [_,_,_,_,_,_,_,_,_,_,_,_,_,_,_,_,_,_,_,_,_,_,_,_,_,_,_,_]) rfl ?_
                  refine wc_seq ?_
                  refine wc_draw [0, 1, 2, 3, 4, 5, 6, 7, 8, 9, 10, 11, 12, 13, 14, 15, 16, 17, 18, 19, 20, 21, 22, 23, 24, 25, 26, 27, 28, 29, 30, 31, 32, 33, 34, 35, 36, 37, 38, 39, 40, 41, 42, 43] rfl rfl (fun hok => ?_)
                  refine wx_fieldAddr hok 0 rfl rfl rfl (freshS_eq rfl) rfl rfl rfl tF_48_0 ?_
                  refine wx_loadH hok 1 0 0 rfl rfl rfl (freshS_eq rfl) rfl rfl rfl rfl (cs := [_]) rfl tS_46 tA_46 rfl rfl ?_
                  refine wx_pure hok 2 rfl rfl rfl (freshS_eq rfl) rfl rfl ?_
                  refine wx_pure hok 3 rfl rfl rfl (freshS_eq rfl) rfl rfl ?_
                  refine wx_split (d := 185) (S' := [_,_,_,_,_,_,_,_,_,_,_,_,_,_,_,_,_,_,_,_,_,_,_,_,_,_,_,_,_,_,_]) rfl rfl (fun h185 => ?_) (fun h185 => ?_)
                  ·
                   replace h185 := eq_of_beq h185
                   exfalso
                   omega
                  ·
                   replace h185 := ne_of_beq_false h185
                   refine wx_off hok 4 rfl rfl rfl (freshS_eq rfl) rfl ?_
                   refine wx_off hok 5 rfl rfl rfl (freshS_eq rfl) rfl ?_
                   refine wx_off hok 6 rfl rfl rfl (freshS_eq rfl) rfl ?_
                   refine wx_off hok 7 rfl rfl rfl (freshS_eq rfl) rfl ?_
                   refine wx_off hok 8 rfl rfl rfl (freshS_eq rfl) rfl ?_
                   refine wx_off hok 9 rfl rfl rfl (freshS_eq rfl) rfl ?_
                   refine wx_off hok 10 rfl rfl rfl (freshS_eq rfl) rfl ?_
                   refine wx_off hok 11 rfl rfl rfl (freshS_eq rfl) rfl ?_
                   refine wx_off hok 12 rfl rfl rfl (freshS_eq rfl) rfl ?_
                   refine wx_off hok 13 rfl rfl rfl (freshS_eq rfl) rfl ?_
                   refine wx_off hok 14 rfl rfl rfl (freshS_eq rfl) rfl ?_
                   refine wx_off hok 15 rfl rfl rfl (freshS_eq rfl) rfl ?_
                   refine wx_off hok 16 rfl rfl rfl (freshS_eq rfl) rfl ?_
                   refine wx_off hok 17 rfl rfl rfl (freshS_eq rfl) rfl ?_
                   refine wx_off hok 18 rfl rfl rfl (freshS_eq rfl) rfl ?_
                   refine wx_off hok 19 rfl rfl rfl (freshS_eq rfl) rfl ?_
                   refine wx_off hok 20 rfl rfl rfl (freshS_eq rfl) rfl ?_
                   refine wx_off hok 21 rfl rfl rfl (freshS_eq rfl) rfl ?_
                   refine wx_off hok 22 rfl rfl rfl (freshS_eq rfl) rfl ?_
                   refine wx_off hok 23 rfl rfl rfl (freshS_eq rfl) rfl ?_
                   refine wx_off hok 24 rfl rfl rfl (freshS_eq rfl) rfl ?_
                   refine wx_off hok 25 rfl rfl rfl (freshS_eq rfl) rfl ?_
                   refine wx_off hok 26 rfl rfl rfl (freshS_eq rfl) rfl ?_
                   refine wx_off hok 27 rfl rfl rfl (freshS_eq rfl) rfl ?_
                   refine wx_off hok 28 rfl rfl rfl (freshS_eq rfl) rfl ?_
                   refine wx_off hok 29 rfl rfl rfl (freshS_eq rfl) rfl ?_
                   refine wx_off hok 30 rfl rfl rfl (freshS_eq rfl) rfl ?_
                   refine wx_off hok 31 rfl rfl rfl (freshS_eq rfl) rfl ?_
                   refine wx_off hok 32 rfl rfl rfl (freshS_eq rfl) rfl ?_
                   refine wx_off hok 33 rfl rfl rfl (freshS_eq rfl) rfl ?_
                   refine wx_off hok 34 rfl rfl rfl (freshS_eq rfl) rfl ?_
                   refine wx_off hok 35 rfl rfl rfl (freshS_eq rfl) rfl ?_
                   refine wx_off hok 36 rfl rfl rfl (freshS_eq rfl) rfl ?_
                   refine wx_off hok 37 rfl rfl rfl (freshS_eq rfl) rfl ?_
                   refine wx_off hok 38 rfl rfl rfl (freshS_eq rfl) rfl ?_
                   refine wx_off hok 39 rfl rfl rfl (freshS_eq rfl) rfl ?_
                   refine wx_off hok 40 rfl rfl rfl (freshS_eq rfl) rfl ?_
                   refine wx_off hok 41 rfl rfl rfl (freshS_eq rfl) rfl ?_
                   refine wx_off hok 42 rfl rfl rfl (freshS_eq rfl) rfl ?_
                   refine wx_pure hok 43 rfl rfl rfl (freshS_eq rfl) rfl rfl ?_
                   refine wx_done hok rfl ?_
                   refine we_then ?_
                   refine wc_keep [225, 20, 19, 174, 159, 143, 15, 129, 18, 119, 17, 16, 14, 112, 65, 13, 12, 11, 50, 30, 10, 9, 6, 5, 0, 1, 2, 3, 4] (S' := [_,_,_,_,_,_,_,_,_,_,_,_,_,_,_,_,_,_,_,_,_,_,_,_,_,_,_,_,_]) rfl ?_
                   refine wc_false rfl ?_
                   refine wc_skip ?_
                   refine we_block_normal ?_
                   refine we_then ?_
                   refine wc_region ?_
                   refine wl_pure rfl rfl rfl (freshS_eq rfl) rfl ?_
                   refine wl_pure rfl rfl rfl (freshS_eq rfl) rfl ?_
                   refine wl_as (d := 121) (v' := .int .i64 ((s1.1 + 1 : Nat) : Int)) (S' := [_,_,_,_,_,_,_,_,_,_,_,_,_,_,_,_,_,_,_,_,_,_,_,_,_,_,_,_,_,_]) rfl rfl (nat_inc (by omega)) ?_
                   refine wl_pure (S' := [_,_,_,_,_,_,_,_,_,_,_,_,_,_,_,_,_,_,_,_,_,_,_,_,_,_,_,_,_,_]) rfl rfl rfl rfl rfl ?_
                   refine wl_nil ?_
                   refine we_pick [1, 2, 3, 4, 5, 6, 7, 8, 9, 10, 11] rfl (H' := [_,_,_,_,_,_,_,_,_,_,_]) rfl ?_
                   refine we_round (s1.1 + 1, s1.2.1 + 1, s1.2.2.1, fun q => if q = x125.var then some ((s1.1 : Nat) : Int) else s1.2.2.2.1 q, s1.2.2.2.2.1, (s1.2.2.2.2.1 x125.var).getD false) (by dsimp only; omega) ⟨by dsimp only; omega, by dsimp only; omega, by dsimp only; omega, by rw [last_step hx125, ← oks1.2.2.2.1]; funext q; simp [h129], by rw [asked_step hx125, ← oks1.2.2.2.2.1]; funext q; simp [h129], by rw [late_step hx125, ← oks1.2.2.2.2.1, ← oks1.2.2.2.2.2]; simp [h129, h135]⟩ [17, 16, 15, 14, 112, 65, 13, 12, 11, 50, 30, 10, 9, 6, 5, 0, 1, 2, 3, 4] rfl (fun _ _ hφ => ask [2, 3, 4, 5] rfl hφ) rfl
                 ·
                  refine wl_lookup (E := (mInt tU_3)) 2 rfl rfl rfl (freshS_eq rfl) rfl rfl rfl rfl tZ_3 tU_3 tM_44 okx125.2.1 (v := .tuple #[.int .i64 kx179, .bool true]) (by rw [hk179]; rfl) ?_
                  refine wl_pure rfl rfl rfl (freshS_eq rfl) rfl ?_
                  refine wl_pure rfl rfl rfl (freshS_eq rfl) rfl ?_
                  refine wl_pure rfl rfl rfl (freshS_eq rfl) rfl ?_
                  refine wl_pure rfl rfl rfl (freshS_eq rfl) rfl ?_
                  refine wl_pure rfl rfl rfl (freshS_eq rfl) rfl ?_
                  refine wl_nil ?_
                  refine we_then ?_
                  refine wc_keep [20, 19, 174, 159, 143, 15, 129, 18, 119, 17, 16, 14, 112, 65, 13, 12, 11, 50, 30, 10, 9, 6, 5, 0, 1, 2, 3, 4] (S' := [_,_,_,_,_,_,_,_,_,_,_,_,_,_,_,_,_,_,_,_,_,_,_,_,_,_,_,_]) rfl ?_
                  refine wc_seq ?_
                  refine wc_draw [0, 1, 2, 3, 4, 5, 6, 7, 8, 9, 10, 11, 12, 13, 14, 15, 16, 17, 18, 19, 20, 21, 22, 23, 24, 25, 26, 27, 28, 29, 30, 31, 32, 33, 34, 35, 36, 37, 38, 39, 40, 41, 42, 43] rfl rfl (fun hok => ?_)
                  refine wx_fieldAddr hok 0 rfl rfl rfl (freshS_eq rfl) rfl rfl rfl tF_48_0 ?_
                  refine wx_loadH hok 1 0 0 rfl rfl rfl (freshS_eq rfl) rfl rfl rfl rfl (cs := [_]) rfl tS_46 tA_46 rfl rfl ?_
                  refine wx_pure hok 2 rfl rfl rfl (freshS_eq rfl) rfl rfl ?_
                  refine wx_pure hok 3 rfl rfl rfl (freshS_eq rfl) rfl rfl ?_
                  refine wx_split (d := 185) (S' := [_,_,_,_,_,_,_,_,_,_,_,_,_,_,_,_,_,_,_,_,_,_,_,_,_,_,_,_,_,_,_]) rfl rfl (fun h185 => ?_) (fun h185 => ?_)
                  ·
                   replace h185 := eq_of_beq h185
                   exfalso
                   omega
                  ·
                   replace h185 := ne_of_beq_false h185
                   refine wx_off hok 4 rfl rfl rfl (freshS_eq rfl) rfl ?_
                   refine wx_off hok 5 rfl rfl rfl (freshS_eq rfl) rfl ?_
                   refine wx_off hok 6 rfl rfl rfl (freshS_eq rfl) rfl ?_
                   refine wx_off hok 7 rfl rfl rfl (freshS_eq rfl) rfl ?_
                   refine wx_off hok 8 rfl rfl rfl (freshS_eq rfl) rfl ?_
                   refine wx_off hok 9 rfl rfl rfl (freshS_eq rfl) rfl ?_
                   refine wx_off hok 10 rfl rfl rfl (freshS_eq rfl) rfl ?_
                   refine wx_off hok 11 rfl rfl rfl (freshS_eq rfl) rfl ?_
                   refine wx_off hok 12 rfl rfl rfl (freshS_eq rfl) rfl ?_
                   refine wx_off hok 13 rfl rfl rfl (freshS_eq rfl) rfl ?_
                   refine wx_off hok 14 rfl rfl rfl (freshS_eq rfl) rfl ?_
                   refine wx_off hok 15 rfl rfl rfl (freshS_eq rfl) rfl ?_
                   refine wx_off hok 16 rfl rfl rfl (freshS_eq rfl) rfl ?_
                   refine wx_off hok 17 rfl rfl rfl (freshS_eq rfl) rfl ?_
                   refine wx_off hok 18 rfl rfl rfl (freshS_eq rfl) rfl ?_
                   refine wx_off hok 19 rfl rfl rfl (freshS_eq rfl) rfl ?_
                   refine wx_off hok 20 rfl rfl rfl (freshS_eq rfl) rfl ?_
                   refine wx_off hok 21 rfl rfl rfl (freshS_eq rfl) rfl ?_
                   refine wx_off hok 22 rfl rfl rfl (freshS_eq rfl) rfl ?_
                   refine wx_off hok 23 rfl rfl rfl (freshS_eq rfl) rfl ?_
                   refine wx_off hok 24 rfl rfl rfl (freshS_eq rfl) rfl ?_
                   refine wx_off hok 25 rfl rfl rfl (freshS_eq rfl) rfl ?_
                   refine wx_off hok 26 rfl rfl rfl (freshS_eq rfl) rfl ?_
                   refine wx_off hok 27 rfl rfl rfl (freshS_eq rfl) rfl ?_
                   refine wx_off hok 28 rfl rfl rfl (freshS_eq rfl) rfl ?_
                   refine wx_off hok 29 rfl rfl rfl (freshS_eq rfl) rfl ?_
                   refine wx_off hok 30 rfl rfl rfl (freshS_eq rfl) rfl ?_
                   refine wx_off hok 31 rfl rfl rfl (freshS_eq rfl) rfl ?_
                   refine wx_off hok 32 rfl rfl rfl (freshS_eq rfl) rfl ?_
                   refine wx_off hok 33 rfl rfl rfl (freshS_eq rfl) rfl ?_
                   refine wx_off hok 34 rfl rfl rfl (freshS_eq rfl) rfl ?_
                   refine wx_off hok 35 rfl rfl rfl (freshS_eq rfl) rfl ?_
                   refine wx_off hok 36 rfl rfl rfl (freshS_eq rfl) rfl ?_
                   refine wx_off hok 37 rfl rfl rfl (freshS_eq rfl) rfl ?_
                   refine wx_off hok 38 rfl rfl rfl (freshS_eq rfl) rfl ?_
                   refine wx_off hok 39 rfl rfl rfl (freshS_eq rfl) rfl ?_
                   refine wx_off hok 40 rfl rfl rfl (freshS_eq rfl) rfl ?_
                   refine wx_off hok 41 rfl rfl rfl (freshS_eq rfl) rfl ?_
                   refine wx_off hok 42 rfl rfl rfl (freshS_eq rfl) rfl ?_
                   refine wx_pure hok 43 rfl rfl rfl (freshS_eq rfl) rfl rfl ?_
                   refine wx_done hok rfl ?_
                   refine we_then ?_
                   refine wc_keep [225, 20, 19, 174, 159, 143, 15, 129, 18, 119, 17, 16, 14, 112, 65, 13, 12, 11, 50, 30, 10, 9, 6, 5, 0, 1, 2, 3, 4] (S' := [_,_,_,_,_,_,_,_,_,_,_,_,_,_,_,_,_,_,_,_,_,_,_,_,_,_,_,_,_]) rfl ?_
                   refine wc_false rfl ?_
                   refine wc_skip ?_
                   refine we_block_normal ?_
                   refine we_then ?_
                   refine wc_region ?_
                   refine wl_pure rfl rfl rfl (freshS_eq rfl) rfl ?_
                   refine wl_pure rfl rfl rfl (freshS_eq rfl) rfl ?_
                   refine wl_as (d := 121) (v' := .int .i64 ((s1.1 + 1 : Nat) : Int)) (S' := [_,_,_,_,_,_,_,_,_,_,_,_,_,_,_,_,_,_,_,_,_,_,_,_,_,_,_,_,_,_]) rfl rfl (nat_inc (by omega)) ?_
                   refine wl_pure (S' := [_,_,_,_,_,_,_,_,_,_,_,_,_,_,_,_,_,_,_,_,_,_,_,_,_,_,_,_,_,_]) rfl rfl rfl rfl rfl ?_
                   refine wl_nil ?_
                   refine we_pick [1, 2, 3, 4, 5, 6, 7, 8, 9, 10, 11] rfl (H' := [_,_,_,_,_,_,_,_,_,_,_]) rfl ?_
                   refine we_round (s1.1 + 1, s1.2.1 + 1, s1.2.2.1, fun q => if q = x125.var then some ((s1.1 : Nat) : Int) else s1.2.2.2.1 q, s1.2.2.2.2.1, (s1.2.2.2.2.1 x125.var).getD false) (by dsimp only; omega) ⟨by dsimp only; omega, by dsimp only; omega, by dsimp only; omega, by rw [last_step hx125, ← oks1.2.2.2.1]; funext q; simp [h129], by rw [asked_step hx125, ← oks1.2.2.2.2.1]; funext q; simp [h129], by rw [late_step hx125, ← oks1.2.2.2.2.1, ← oks1.2.2.2.2.2]; simp [h129, h135]⟩ [17, 16, 15, 14, 112, 65, 13, 12, 11, 50, 30, 10, 9, 6, 5, 0, 1, 2, 3, 4] rfl (fun _ _ hφ => ask [2, 3, 4, 5] rfl hφ) rfl
            ·
             replace h129 := ne_of_beq_false h129
             obtain ⟨xi, hxi, h4c, h3c⟩ := fills_at hfit hl hx125
             refine wc_skip ?_
             refine we_then ?_
             refine wc_seq ?_
             refine wc_seq ?_
             refine wc_region ?_
             refine wl_fieldAddr rfl rfl rfl (freshS_eq rfl) rfl rfl tF_48_0 ?_
             refine wl_loadH 0 0 rfl rfl rfl (freshS_eq rfl) rfl rfl rfl (cs := [_]) rfl tS_46 tA_46 rfl rfl ?_
             refine wl_pure rfl rfl rfl (freshS_eq rfl) rfl ?_
             refine wl_nil ?_
             refine we_then ?_
             refine wc_keep [143, 129, 18, 119, 17, 16, 15, 14, 112, 65, 13, 12, 11, 50, 30, 10, 9, 6, 5, 0, 1, 2, 3, 4] (S' := [_,_,_,_,_,_,_,_,_,_,_,_,_,_,_,_,_,_,_,_,_,_,_,_]) rfl ?_
             refine wc_cond rfl (fun h143 => ?_) (fun h143 => ?_)
             ·
              replace h143 := eq_of_beq h143
              refine wc_region ?_
              refine wl_pure rfl rfl rfl (freshS_eq rfl) rfl ?_
              refine wl_fieldAddr rfl rfl rfl (freshS_eq rfl) rfl rfl tF_48_1 ?_
              refine wl_loadH 0 1 rfl rfl rfl (freshS_eq rfl) rfl rfl rfl (cs := [_]) rfl tS_3 tA_3 rfl rfl ?_
              refine wl_mapUpdate (E := (mBool tU_4)) (u := true) 1 rfl rfl rfl rfl rfl rfl rfl tU_3 tM_45 (by omega) okx125.2.1 trivial (H' := [_,_,_,_,_,_,_,_,_,_,_,_]) rfl ?_
              refine wl_nil ?_
              refine we_then ?_
              refine wc_keep [143, 129, 18, 119, 17, 16, 15, 14, 112, 65, 13, 12, 11, 50, 30, 10, 9, 6, 5, 0, 1, 2, 3, 4] (S' := [_,_,_,_,_,_,_,_,_,_,_,_,_,_,_,_,_,_,_,_,_,_,_,_]) rfl ?_
              refine wc_seq ?_
              refine wc_seq ?_
              refine wc_draw [0, 1, 2, 3, 4, 5, 6, 7, 8, 9, 10, 11, 12] rfl rfl (fun hok => ?_)
              refine wx_fieldAddr hok 0 rfl rfl rfl (freshS_eq rfl) rfl rfl rfl tF_48_0 ?_
              refine wx_loadH hok 1 0 0 rfl rfl rfl (freshS_eq rfl) rfl rfl rfl rfl (cs := [_]) rfl tS_46 tA_46 rfl rfl ?_
              refine wx_pure hok 2 rfl rfl rfl (freshS_eq rfl) rfl rfl ?_
              refine wx_pure hok 3 rfl rfl rfl (freshS_eq rfl) rfl rfl ?_
              refine wx_split (d := 150) (S' := [_,_,_,_,_,_,_,_,_,_,_,_,_,_,_,_,_,_,_,_,_,_,_,_,_,_,_]) rfl rfl (fun h150 => ?_) (fun h150 => ?_)
              ·
               replace h150 := eq_of_beq h150
               exfalso
               omega
              ·
               replace h150 := ne_of_beq_false h150
               refine wx_off hok 4 rfl rfl rfl (freshS_eq rfl) rfl ?_
               refine wx_off hok 5 rfl rfl rfl (freshS_eq rfl) rfl ?_
               refine wx_off hok 6 rfl rfl rfl (freshS_eq rfl) rfl ?_
               refine wx_off hok 7 rfl rfl rfl (freshS_eq rfl) rfl ?_
               refine wx_off hok 8 rfl rfl rfl (freshS_eq rfl) rfl ?_
               refine wx_off hok 9 rfl rfl rfl (freshS_eq rfl) rfl ?_
               refine wx_off hok 10 rfl rfl rfl (freshS_eq rfl) rfl ?_
               refine wx_off hok 11 rfl rfl rfl (freshS_eq rfl) rfl ?_
               refine wx_pure hok 12 rfl rfl rfl (freshS_eq rfl) rfl rfl ?_
               refine wx_done hok rfl ?_
               refine we_then ?_
               refine wc_keep [159, 143, 129, 18, 119, 17, 16, 15, 14, 112, 65, 13, 12, 11, 50, 30, 10, 9, 6, 5, 0, 1, 2, 3, 4] (S' := [_,_,_,_,_,_,_,_,_,_,_,_,_,_,_,_,_,_,_,_,_,_,_,_,_]) rfl ?_
               refine wc_false rfl ?_
               refine wc_skip ?_
               refine we_then ?_
               refine wc_seq ?_
               refine wc_seq ?_
               refine wc_region ?_
               refine wl_fieldAddr rfl rfl rfl (freshS_eq rfl) rfl rfl tF_48_0 ?_
               refine wl_loadH 0 0 rfl rfl rfl (freshS_eq rfl) rfl rfl rfl (cs := [_]) rfl tS_46 tA_46 rfl rfl ?_
               refine wl_pure rfl rfl rfl (freshS_eq rfl) rfl ?_
               refine wl_pure rfl rfl rfl (freshS_eq rfl) rfl ?_
               refine wl_split (d := 163) (S' := [_,_,_,_,_,_,_,_,_,_,_,_,_,_,_,_,_,_,_,_,_,_,_,_,_,_,_,_]) rfl rfl (fun h163 => ?_) (fun h163 => ?_)
               ·
                replace h163 := eq_of_beq h163
                obtain ⟨hva, hvb, hvc, hvd⟩ := h3c h143
                refine wl_fieldAddr rfl rfl rfl (freshS_eq rfl) rfl rfl tF_48_1 ?_
                refine wl_loadH 0 1 rfl rfl rfl (freshS_eq rfl) rfl rfl rfl (cs := [_]) rfl tS_3 tA_3 rfl rfl ?_
                refine wl_pure rfl rfl rfl (freshS_eq rfl) rfl ?_
                refine wl_pure rfl rfl rfl (freshS_eq rfl) rfl ?_
                refine wl_split (d := 167) (S' := [_,_,_,_,_,_,_,_,_,_,_,_,_,_,_,_,_,_,_,_,_,_,_,_,_,_,_,_,_,_,_,_]) rfl rfl (fun h167 => ?_) (fun h167 => ?_)
                ·
                 replace h167 := of_decide_eq_true h167
                 exfalso
                 omega
                ·
                 replace h167 := of_decide_eq_false h167
                 refine wl_fieldAddr rfl rfl rfl (freshS_eq rfl) rfl rfl tF_48_1 ?_
                 refine wl_loadH 0 1 rfl rfl rfl (freshS_eq rfl) rfl rfl rfl (cs := [_]) rfl tS_3 tA_3 rfl rfl ?_
                 refine wl_pure rfl rfl rfl (freshS_eq rfl) rfl ?_
                 refine wl_len rfl rfl rfl (freshS_eq rfl) rfl rfl tE_37 ?_
                 refine wl_pure rfl rfl rfl (freshS_eq rfl) rfl ?_
                 refine wl_pure rfl rfl rfl (freshS_eq rfl) rfl ?_
                 refine wl_pure rfl rfl rfl (freshS_eq rfl) rfl ?_
                 refine wl_nil ?_
                 refine we_then ?_
                 refine wc_keep [174, 159, 143, 129, 18, 119, 17, 16, 15, 14, 112, 65, 13, 12, 11, 50, 30, 10, 9, 6, 5, 0, 1, 2, 3, 4] (S' := [_,_,_,_,_,_,_,_,_,_,_,_,_,_,_,_,_,_,_,_,_,_,_,_,_,_]) rfl ?_
                 refine wc_cond rfl (fun h174 => ?_) (fun h174 => ?_)
                 ·
                  replace h174 := of_decide_eq_true h174
                  exfalso
                  omega
                 ·
                  replace h174 := of_decide_eq_false h174
                  refine wc_skip ?_
                  refine we_then ?_
                  refine wc_seq ?_
                  refine wc_region ?_
                  refine wl_pure rfl rfl rfl (freshS_eq rfl) rfl ?_
                  refine wl_fieldAddr rfl rfl rfl (freshS_eq rfl) rfl rfl tF_48_1 ?_
                  refine wl_loadH 0 1 rfl rfl rfl (freshS_eq rfl) rfl rfl rfl (cs := [_]) rfl tS_3 tA_3 rfl rfl ?_
                  refine wl_keyed (f := s1.2.2.2.1) x125.var (fun hk179 => ?_) (fun kx179 hk179 => ?_)
                  ·
                   refine wl_lookup (E := (mInt tU_3)) 2 rfl rfl rfl (freshS_eq rfl) rfl rfl rfl rfl tZ_3 tU_3 tM_44 okx125.2.1 (v := .tuple #[.int .i64 0, .bool false]) (by rw [hk179]; rfl) ?_
                   refine wl_pure rfl rfl rfl (freshS_eq rfl) rfl ?_
                   refine wl_pure rfl rfl rfl (freshS_eq rfl) rfl ?_
                   refine wl_pure rfl rfl rfl (freshS_eq rfl) rfl ?_
                   refine wl_pure rfl rfl rfl (freshS_eq rfl) rfl ?_
                   refine wl_pure rfl rfl rfl (freshS_eq rfl) rfl ?_
                   refine wl_nil ?_
                   refine we_then ?_
                   refine wc_keep [20, 19, 174, 159, 143, 129, 18, 119, 17, 16, 15, 14, 112, 65, 13, 12, 11, 50, 30, 10, 9, 6, 5, 0, 1, 2, 3, 4] (S' := [_,_,_,_,_,_,_,_,_,_,_,_,_,_,_,_,_,_,_,_,_,_,_,_,_,_,_,_]) rfl ?_
                   refine wc_seq ?_
                   refine wc_draw [0, 1, 2, 3, 4, 5, 6, 7, 8, 9, 10, 11, 12, 13, 14, 15, 16, 17, 18, 19, 20, 21, 22, 23, 24, 25, 26, 27, 28, 29, 30, 31, 32, 33, 34, 35, 36, 37, 38, 39, 40, 41, 42, 43] rfl rfl (fun hok => ?_)
                   refine wx_fieldAddr hok 0 rfl rfl rfl (freshS_eq rfl) rfl rfl rfl tF_48_0 ?_
                   refine wx_loadH hok 1 0 0 rfl rfl rfl (freshS_eq rfl) rfl rfl rfl rfl (cs := [_]) rfl tS_46 tA_46 rfl rfl ?_
                   refine wx_pure hok 2 rfl rfl rfl (freshS_eq rfl) rfl rfl ?_
                   refine wx_pure hok 3 rfl rfl rfl (freshS_eq rfl) rfl rfl ?_
                   refine wx_split (d := 185) (S' := [_,_,_,_,_,_,_,_,_,_,_,_,_,_,_,_,_,_,_,_,_,_,_,_,_,_,_,_,_,_,_]) rfl rfl (fun h185 => ?_) (fun h185 => ?_)
                   ·
                    replace h185 := eq_of_beq h185
                    obtain ⟨hn1, hn2⟩ := hvd (by rw [← oks1.2.2.2.1]; exact hk179)
                    refine wx_pure hok 4 rfl rfl rfl (freshS_eq rfl) rfl rfl ?_
                    refine wx_pure hok 5 rfl rfl rfl (freshS_eq rfl) rfl rfl ?_
                    refine wx_off hok 6 rfl rfl rfl (freshS_eq rfl) rfl ?_
                    refine wx_off hok 7 rfl rfl rfl (freshS_eq rfl) rfl ?_
                    refine wx_off hok 8 rfl rfl rfl (freshS_eq rfl) rfl ?_
                    refine wx_off hok 9 rfl rfl rfl (freshS_eq rfl) rfl ?_
                    refine wx_off hok 10 rfl rfl rfl (freshS_eq rfl) rfl ?_
                    refine wx_off hok 11 rfl rfl rfl (freshS_eq rfl) rfl ?_
                    refine wx_off hok 12 rfl rfl rfl (freshS_eq rfl) rfl ?_
                    refine wx_off hok 13 rfl rfl rfl (freshS_eq rfl) rfl ?_
                    refine wx_off hok 14 rfl rfl rfl (freshS_eq rfl) rfl ?_
                    refine wx_off hok 15 rfl rfl rfl (freshS_eq rfl) rfl ?_
                    refine wx_off hok 16 rfl rfl rfl (freshS_eq rfl) rfl ?_
                    refine wx_pure hok 17 rfl rfl rfl (freshS_eq rfl) rfl rfl ?_
                    refine wx_pure hok 18 rfl rfl rfl (freshS_eq rfl) rfl rfl ?_
                    refine wx_pure hok 19 rfl rfl rfl (freshS_eq rfl) rfl rfl ?_
                    refine wx_pure hok 20 rfl rfl rfl (freshS_eq rfl) rfl rfl ?_
                    refine wx_pure hok 21 rfl rfl rfl (freshS_eq rfl) rfl rfl ?_
                    refine wx_pure hok 22 rfl rfl rfl (freshS_eq rfl) rfl rfl ?_
                    refine wx_fieldAddr hok 23 rfl rfl rfl (freshS_eq rfl) rfl rfl rfl tF_48_1 ?_
                    refine wx_loadH hok 24 0 1 rfl rfl rfl (freshS_eq rfl) rfl rfl rfl rfl (cs := [_]) rfl tS_3 tA_3 rfl rfl ?_
                    refine wx_index hok 25 4 x125.var.toNat rfl rfl rfl (freshS_eq rfl) rfl rfl rfl rfl rfl (by omega) (by omega) tE_37 tS_4 (fun b207 q207 cs207 x207 hx207 hlx207 => ?_)
                    refine wx_openR bRep_opens 1 rfl (fun r207 er207 okx207 => ?_)
                    subst er207
                    refine wx_load hok 26 0 0 rfl rfl rfl (freshS_eq rfl) rfl rfl rfl rfl (cs := [_]) rfl tS_4 tA_4 rfl rfl ?_
                    refine wx_pure hok 27 rfl rfl rfl (freshS_eq rfl) rfl rfl ?_
                    refine wx_pure hok 28 rfl rfl rfl (freshS_eq rfl) rfl rfl ?_
                    refine wx_split (d := 210) (S' := [_,_,_,_,_,_,_,_,_,_,_,_,_,_,_,_,_,_,_,_,_,_,_,_,_,_,_,_,_,_,_,_,_,_,_,_,_,_,_,_,_,_,_,_,_,_,_,_,_,_,_,_,_,_,_,_]) rfl rfl (fun h210 => ?_) (fun h210 => ?_)
                    ·
                     replace h210 := not_true h210
                     exfalso
                     rw [hn1] at hx207
                     cases hx207
                     cases h210
                    ·
                     replace h210 := not_false_ h210
                     refine wx_pure hok 29 rfl rfl rfl (freshS_eq rfl) rfl rfl ?_
                     refine wx_fieldAddr hok 30 rfl rfl rfl (freshS_eq rfl) rfl rfl rfl tF_48_1 ?_
                     refine wx_loadH hok 31 0 1 rfl rfl rfl (freshS_eq rfl) rfl rfl rfl rfl (cs := [_]) rfl tS_3 tA_3 rfl rfl ?_
                     refine wx_index hok 32 7 x125.var.toNat rfl rfl rfl (freshS_eq rfl) rfl rfl rfl rfl rfl (by omega) (by omega) tE_34 tS_27 (fun b214 q214 cs214 x214 hx214 hlx214 => ?_)
                     refine wx_openR vRep_opens 1 rfl (fun r214 er214 okx214 => ?_)
                     subst er214
                     refine wx_load hok 33 0 0 rfl rfl rfl (freshS_eq rfl) rfl rfl rfl rfl (cs := [_,_,_]) rfl tS_27 tA_27 rfl rfl ?_
                     refine wx_fieldAddr hok 34 rfl rfl rfl (freshS_eq rfl) rfl rfl rfl tF_36_2 ?_
                     refine wx_loadH hok 35 10 2 rfl rfl rfl (freshS_eq rfl) rfl rfl rfl rfl (cs := [_]) rfl tS_34 tA_34 rfl rfl ?_
                     refine wx_pure hok 36 rfl rfl rfl (freshS_eq rfl) rfl rfl ?_
                     refine wx_index hok 37 7 s1.1 rfl rfl rfl (freshS_eq rfl) rfl rfl rfl rfl rfl rfl (by omega) tE_34 tS_27 (fun b219 q219 cs219 x219 hx219 hlx219 => ?_)
                     refine wx_openR vRep_opens 1 rfl (fun r219 er219 okx219 => ?_)
                     subst er219
                     refine wx_load hok 38 0 0 rfl rfl rfl (freshS_eq rfl) rfl rfl rfl rfl (cs := [_,_,_]) rfl tS_27 tA_27 rfl rfl ?_
                     refine wx_bin hok 39 rfl rfl rfl (freshS_eq rfl) rfl rfl rfl rfl (neqV _ _ x214 x219) ?_
                     refine wx_pure hok 40 rfl rfl rfl (freshS_eq rfl) rfl rfl ?_
                     refine wx_pure hok 41 rfl rfl rfl (freshS_eq rfl) rfl rfl ?_
                     refine wx_pure hok 42 rfl rfl rfl (freshS_eq rfl) rfl rfl ?_
                     refine wx_pure hok 43 rfl rfl rfl (freshS_eq rfl) rfl rfl ?_
                     refine wx_done hok rfl ?_
                     refine we_then ?_
                     refine wc_keep [225, 20, 19, 174, 159, 143, 129, 18, 119, 17, 16, 15, 14, 112, 65, 13, 12, 11, 50, 30, 10, 9, 6, 5, 0, 1, 2, 3, 4] (S' := [_,_,_,_,_,_,_,_,_,_,_,_,_,_,_,_,_,_,_,_,_,_,_,_,_,_,_,_,_]) rfl ?_
                     refine wc_cond rfl (fun h225 => ?_) (fun h225 => ?_)
                     ·
                      replace h225 := nd_true h225
                      exfalso
                      rw [hn2] at hx214
                      rw [hxi] at hx219
                      exact h225 ((Option.some.inj hx214).symm.trans (Option.some.inj hx219))
                     ·
                      replace h225 := nd_false h225
                      refine wc_skip ?_
                      refine we_block_normal ?_
                      refine we_then ?_
                      refine wc_region ?_
                      refine wl_pure rfl rfl rfl (freshS_eq rfl) rfl ?_
                      refine wl_pure rfl rfl rfl (freshS_eq rfl) rfl ?_
                      refine wl_as (d := 121) (v' := .int .i64 ((s1.1 + 1 : Nat) : Int)) (S' := [_,_,_,_,_,_,_,_,_,_,_,_,_,_,_,_,_,_,_,_,_,_,_,_,_,_,_,_,_,_]) rfl rfl (nat_inc (by omega)) ?_
                      refine wl_pure (S' := [_,_,_,_,_,_,_,_,_,_,_,_,_,_,_,_,_,_,_,_,_,_,_,_,_,_,_,_,_,_]) rfl rfl rfl rfl rfl ?_
                      refine wl_nil ?_
                      refine we_pick [1, 2, 3, 4, 5, 6, 7, 8, 9, 10, 11] rfl (H' := [_,_,_,_,_,_,_,_,_,_,_]) rfl ?_
                      refine we_round (s1.1 + 1, s1.2.1, s1.2.2.1 + 1, s1.2.2.2.1, fun q => if q = x125.var then some true else s1.2.2.2.2.1 q, s1.2.2.2.2.2) (by dsimp only; omega) ⟨by dsimp only; omega, by dsimp only; omega, by dsimp only; omega, by rw [last_step hx125, ← oks1.2.2.2.1]; funext q; simp [h129], by rw [asked_step hx125, ← oks1.2.2.2.2.1]; funext q; simp [h143], by rw [late_step hx125, ← oks1.2.2.2.2.1, ← oks1.2.2.2.2.2]; simp [h129]⟩ [17, 16, 15, 14, 112, 65, 13, 12, 11, 50, 30, 10, 9, 6, 5, 0, 1, 2, 3, 4] rfl (fun _ _ hφ => ask [8, 9, 10, 11] rfl hφ) rfl
                   ·
                    replace h185 := ne_of_beq_false h185
                    exfalso
                    omega
                  ·
                   refine wl_lookup (E := (mInt tU_3)) 2 rfl rfl rfl (freshS_eq rfl) rfl rfl rfl rfl tZ_3 tU_3 tM_44 okx125.2.1 (v := .tuple #[.int .i64 kx179, .bool true]) (by rw [hk179]; rfl) ?_
                   refine wl_pure rfl rfl rfl (freshS_eq rfl) rfl ?_
                   refine wl_pure rfl rfl rfl (freshS_eq rfl) rfl ?_
                   refine wl_pure rfl rfl rfl (freshS_eq rfl) rfl ?_
                   refine wl_pure rfl rfl rfl (freshS_eq rfl) rfl ?_
                   refine wl_pure rfl rfl rfl (freshS_eq rfl) rfl ?_
                   refine wl_nil ?_
                   refine we_then ?_
                   refine wc_keep [20, 19, 174, 159, 143, 129, 18, 119, 17, 16, 15, 14, 112, 65, 13, 12, 11, 50, 30, 10, 9, 6, 5, 0, 1, 2, 3, 4] (S' := [_,_,_,_,_,_,_,_,_,_,_,_,_,_,_,_,_,_,_,_,_,_,_,_,_,_,_,_]) rfl ?_
                   refine wc_seq ?_
                   refine wc_draw [0, 1, 2, 3, 4, 5, 6, 7, 8, 9, 10, 11, 12, 13, 14, 15, 16, 17, 18, 19, 20, 21, 22, 23, 24, 25, 26, 27, 28, 29, 30, 31, 32, 33, 34, 35, 36, 37, 38, 39, 40, 41, 42, 43] rfl rfl (fun hok => ?_)
                   refine wx_fieldAddr hok 0 rfl rfl rfl (freshS_eq rfl) rfl rfl rfl tF_48_0 ?_
                   refine wx_loadH hok 1 0 0 rfl rfl rfl (freshS_eq rfl) rfl rfl rfl rfl (cs := [_]) rfl tS_46 tA_46 rfl rfl ?_
                   refine wx_pure hok 2 rfl rfl rfl (freshS_eq rfl) rfl rfl ?_
                   refine wx_pure hok 3 rfl rfl rfl (freshS_eq rfl) rfl rfl ?_
                   refine wx_split (d := 185) (S' := [_,_,_,_,_,_,_,_,_,_,_,_,_,_,_,_,_,_,_,_,_,_,_,_,_,_,_,_,_,_,_]) rfl rfl (fun h185 => ?_) (fun h185 => ?_)
                   ·
                    replace h185 := eq_of_beq h185
                    obtain ⟨m, hm1, hm2, hm3⟩ := hvc _ (by rw [← oks1.2.2.2.1]; exact hk179)
                    refine wx_pure hok 4 rfl rfl rfl (freshS_eq rfl) rfl rfl ?_
                    refine wx_pure hok 5 rfl rfl rfl (freshS_eq rfl) rfl rfl ?_
                    refine wx_fieldAddr hok 6 rfl rfl rfl (freshS_eq rfl) rfl rfl rfl tF_36_2 ?_
                    refine wx_loadH hok 7 10 2 rfl rfl rfl (freshS_eq rfl) rfl rfl rfl rfl (cs := [_]) rfl tS_34 tA_34 rfl rfl ?_
                    refine wx_pure hok 8 rfl rfl rfl (freshS_eq rfl) rfl rfl ?_
                    refine wx_index hok 9 3 m rfl rfl rfl (freshS_eq rfl) rfl rfl rfl rfl rfl hm1 (by omega) tE_34 tS_27 (fun b191 q191 cs191 x191 hx191 hlx191 => ?_)
                    refine wx_openR vRep_opens 1 rfl (fun r191 er191 okx191 => ?_)
                    subst er191
                    refine wx_load hok 10 0 0 rfl rfl rfl (freshS_eq rfl) rfl rfl rfl rfl (cs := [_,_,_]) rfl tS_27 tA_27 rfl rfl ?_
                    refine wx_fieldAddr hok 11 rfl rfl rfl (freshS_eq rfl) rfl rfl rfl tF_36_2 ?_
                    refine wx_loadH hok 12 10 2 rfl rfl rfl (freshS_eq rfl) rfl rfl rfl rfl (cs := [_]) rfl tS_34 tA_34 rfl rfl ?_
                    refine wx_pure hok 13 rfl rfl rfl (freshS_eq rfl) rfl rfl ?_
                    refine wx_index hok 14 5 s1.1 rfl rfl rfl (freshS_eq rfl) rfl rfl rfl rfl rfl rfl (by omega) tE_34 tS_27 (fun b196 q196 cs196 x196 hx196 hlx196 => ?_)
                    refine wx_openR vRep_opens 1 rfl (fun r196 er196 okx196 => ?_)
                    subst er196
                    refine wx_load hok 15 0 0 rfl rfl rfl (freshS_eq rfl) rfl rfl rfl rfl (cs := [_,_,_]) rfl tS_27 tA_27 rfl rfl ?_
                    refine wx_bin hok 16 rfl rfl rfl (freshS_eq rfl) rfl rfl rfl rfl (neqV _ _ x191 x196) ?_
                    refine wx_pure hok 17 rfl rfl rfl (freshS_eq rfl) rfl rfl ?_
                    refine wx_pure hok 18 rfl rfl rfl (freshS_eq rfl) rfl rfl ?_
                    refine wx_split (d := 200) (S' := [_,_,_,_,_,_,_,_,_,_,_,_,_,_,_,_,_,_,_,_,_,_,_,_,_,_,_,_,_,_,_,_,_,_,_,_,_,_,_,_,_,_,_,_,_,_]) rfl rfl (fun h200 => ?_) (fun h200 => ?_)
                    ·
                     replace h200 := nd_true h200
                     exfalso
                     rw [hm3] at hx191
                     rw [hxi] at hx196
                     exact h200 ((Option.some.inj hx191).symm.trans (Option.some.inj hx196))
                    ·
                     replace h200 := nd_false h200
                     refine wx_pure hok 19 rfl rfl rfl (freshS_eq rfl) rfl rfl ?_
                     refine wx_pure hok 20 rfl rfl rfl (freshS_eq rfl) rfl rfl ?_
                     refine wx_pure hok 21 rfl rfl rfl (freshS_eq rfl) rfl rfl ?_
                     refine wx_off hok 22 rfl rfl rfl (freshS_eq rfl) rfl ?_
                     refine wx_off hok 23 rfl rfl rfl (freshS_eq rfl) rfl ?_
                     refine wx_off hok 24 rfl rfl rfl (freshS_eq rfl) rfl ?_
                     refine wx_off hok 25 rfl rfl rfl (freshS_eq rfl) rfl ?_
                     refine wx_off hok 26 rfl rfl rfl (freshS_eq rfl) rfl ?_
                     refine wx_off hok 27 rfl rfl rfl (freshS_eq rfl) rfl ?_
                     refine wx_off hok 28 rfl rfl rfl (freshS_eq rfl) rfl ?_
                     refine wx_off hok 29 rfl rfl rfl (freshS_eq rfl) rfl ?_
                     refine wx_off hok 30 rfl rfl rfl (freshS_eq rfl) rfl ?_
                     refine wx_off hok 31 rfl rfl rfl (freshS_eq rfl) rfl ?_
                     refine wx_off hok 32 rfl rfl rfl (freshS_eq rfl) rfl ?_
                     refine wx_off hok 33 rfl rfl rfl (freshS_eq rfl) rfl ?_
                     refine wx_off hok 34 rfl rfl rfl (freshS_eq rfl) rfl ?_
                     refine wx_off hok 35 rfl rfl rfl (freshS_eq rfl) rfl ?_
                     refine wx_off hok 36 rfl rfl rfl (freshS_eq rfl) rfl ?_
                     refine wx_off hok 37 rfl rfl rfl (freshS_eq rfl) rfl ?_
                     refine wx_off hok 38 rfl rfl rfl (freshS_eq rfl) rfl ?_
                     refine wx_off hok 39 rfl rfl rfl (freshS_eq rfl) rfl ?_
                     refine wx_off hok 40 rfl rfl rfl (freshS_eq rfl) rfl ?_
                     refine wx_pure hok 41 rfl rfl rfl (freshS_eq rfl) rfl rfl ?_
                     refine wx_pure hok 42 rfl rfl rfl (freshS_eq rfl) rfl rfl ?_
                     refine wx_pure hok 43 rfl rfl rfl (freshS_eq rfl) rfl rfl ?_
                     refine wx_done hok rfl ?_
                     refine we_then ?_
                     refine wc_keep [225, 20, 19, 174, 159, 143, 129, 18, 119, 17, 16, 15, 14, 112, 65, 13, 12, 11, 50, 30, 10, 9, 6, 5, 0, 1, 2, 3, 4] (S' := [_,_,_,_,_,_,_,_,_,_,_,_,_,_,_,_,_,_,_,_,_,_,_,_,_,_,_,_,_]) rfl ?_
                     refine wc_false rfl ?_
                     refine wc_skip ?_
                     refine we_block_normal ?_
                     refine we_then ?_
                     refine wc_region ?_
                     refine wl_pure rfl rfl rfl (freshS_eq rfl) rfl ?_
                     refine wl_pure rfl rfl rfl (freshS_eq rfl) rfl ?_
                     refine wl_as (d := 121) (v' := .int .i64 ((s1.1 + 1 : Nat) : Int)) (S' := [_,_,_,_,_,_,_,_,_,_,_,_,_,_,_,_,_,_,_,_,_,_,_,_,_,_,_,_,_,_]) rfl rfl (nat_inc (by omega)) ?_
                     refine wl_pure (S' := [_,_,_,_,_,_,_,_,_,_,_,_,_,_,_,_,_,_,_,_,_,_,_,_,_,_,_,_,_,_]) rfl rfl rfl rfl rfl ?_
                     refine wl_nil ?_
                     refine we_pick [1, 2, 3, 4, 5, 6, 7, 8, 9, 10, 11] rfl (H' := [_,_,_,_,_,_,_,_,_,_,_]) rfl ?_
                     refine we_round (s1.1 + 1, s1.2.1, s1.2.2.1 + 1, s1.2.2.2.1, fun q => if q = x125.var then some true else s1.2.2.2.2.1 q, s1.2.2.2.2.2) (by dsimp only; omega) ⟨by dsimp only; omega, by dsimp only; omega, by dsimp only; omega, by rw [last_step hx125, ← oks1.2.2.2.1]; funext q; simp [h129], by rw [asked_step hx125, ← oks1.2.2.2.2.1]; funext q; simp [h143], by rw [late_step hx125, ← oks1.2.2.2.2.1, ← oks1.2.2.2.2.2]; simp [h129]⟩ [17, 16, 15, 14, 112, 65, 13, 12, 11, 50, 30, 10, 9, 6, 5, 0, 1, 2, 3, 4] rfl (fun _ _ hφ => ask [6, 7, 8, 9] rfl hφ) rfl
                   ·
                    replace h185 := ne_of_beq_false h185
                    exfalso
                    omega
               ·
                replace h163 := ne_of_beq_false h163
                exfalso
                omega
             ·
              replace h143 := ne_of_beq_false h143
              refine wc_skip ?_
              refine we_then ?_
              refine wc_seq ?_
              refine wc_seq ?_
              refine wc_draw [0, 1, 2, 3, 4, 5, 6, 7, 8, 9, 10, 11, 12] rfl rfl (fun hok => ?_)
              refine wx_fieldAddr hok 0 rfl rfl rfl (freshS_eq rfl) rfl rfl rfl tF_48_0 ?_
              refine wx_loadH hok 1 0 0 rfl rfl rfl (freshS_eq rfl) rfl rfl rfl rfl (cs := [_]) rfl tS_46 tA_46 rfl rfl ?_
              refine wx_pure hok 2 rfl rfl rfl (freshS_eq rfl) rfl rfl ?_
              refine wx_pure hok 3 rfl rfl rfl (freshS_eq rfl) rfl rfl ?_
              refine wx_split (d := 150) (S' := [_,_,_,_,_,_,_,_,_,_,_,_,_,_,_,_,_,_,_,_,_,_,_,_,_,_,_]) rfl rfl (fun h150 => ?_) (fun h150 => ?_)
              ·
               replace h150 := eq_of_beq h150
               refine wx_fieldAddr hok 4 rfl rfl rfl (freshS_eq rfl) rfl rfl rfl tF_48_2 ?_
               refine wx_loadH hok 5 0 2 rfl rfl rfl (freshS_eq rfl) rfl rfl rfl rfl (cs := [_,_,_]) rfl tS_27 tA_27 rfl rfl ?_
               refine wx_fieldAddr hok 6 rfl rfl rfl (freshS_eq rfl) rfl rfl rfl tF_36_2 ?_
               refine wx_loadH hok 7 10 2 rfl rfl rfl (freshS_eq rfl) rfl rfl rfl rfl (cs := [_]) rfl tS_34 tA_34 rfl rfl ?_
               refine wx_pure hok 8 rfl rfl rfl (freshS_eq rfl) rfl rfl ?_
               refine wx_index hok 9 3 s1.1 rfl rfl rfl (freshS_eq rfl) rfl rfl rfl rfl rfl rfl (by omega) tE_34 tS_27 (fun b156 q156 cs156 x156 hx156 hlx156 => ?_)
               refine wx_openR vRep_opens 1 rfl (fun r156 er156 okx156 => ?_)
               subst er156
               refine wx_load hok 10 0 0 rfl rfl rfl (freshS_eq rfl) rfl rfl rfl rfl (cs := [_,_,_]) rfl tS_27 tA_27 rfl rfl ?_
               refine wx_bin hok 11 rfl rfl rfl (freshS_eq rfl) rfl rfl rfl rfl (neqV _ _ x125.v x156) ?_
               refine wx_pure hok 12 rfl rfl rfl (freshS_eq rfl) rfl rfl ?_
               refine wx_done hok rfl ?_
               refine we_then ?_
               refine wc_keep [159, 143, 129, 18, 119, 17, 16, 15, 14, 112, 65, 13, 12, 11, 50, 30, 10, 9, 6, 5, 0, 1, 2, 3, 4] (S' := [_,_,_,_,_,_,_,_,_,_,_,_,_,_,_,_,_,_,_,_,_,_,_,_,_]) rfl ?_
               refine wc_cond rfl (fun h159 => ?_) (fun h159 => ?_)
               ·
                replace h159 := nd_true h159
                exfalso
                exact h159 (by rw [h4c h150]; rw [hxi] at hx156; exact Option.some.inj hx156)
               ·
                replace h159 := nd_false h159
                refine wc_skip ?_
                refine we_then ?_
                refine wc_seq ?_
                refine wc_seq ?_
                refine wc_region ?_
                refine wl_fieldAddr rfl rfl rfl (freshS_eq rfl) rfl rfl tF_48_0 ?_
                refine wl_loadH 0 0 rfl rfl rfl (freshS_eq rfl) rfl rfl rfl (cs := [_]) rfl tS_46 tA_46 rfl rfl ?_
                refine wl_pure rfl rfl rfl (freshS_eq rfl) rfl ?_
                refine wl_pure rfl rfl rfl (freshS_eq rfl) rfl ?_
                refine wl_split (d := 163) (S' := [_,_,_,_,_,_,_,_,_,_,_,_,_,_,_,_,_,_,_,_,_,_,_,_,_,_,_,_]) rfl rfl (fun h163 => ?_) (fun h163 => ?_)
                ·
                 replace h163 := eq_of_beq h163
                 exfalso
                 omega
                ·
                 replace h163 := ne_of_beq_false h163
                 refine wl_off rfl rfl rfl (freshS_eq rfl) ?_
                 refine wl_off rfl rfl rfl (freshS_eq rfl) ?_
                 refine wl_off rfl rfl rfl (freshS_eq rfl) ?_
                 refine wl_off rfl rfl rfl (freshS_eq rfl) ?_
                 refine wl_off rfl rfl rfl (freshS_eq rfl) ?_
                 refine wl_off rfl rfl rfl (freshS_eq rfl) ?_
                 refine wl_off rfl rfl rfl (freshS_eq rfl) ?_
                 refine wl_off rfl rfl rfl (freshS_eq rfl) ?_
                 refine wl_off rfl rfl rfl (freshS_eq rfl) ?_
                 refine wl_off rfl rfl rfl (freshS_eq rfl) ?_
                 refine wl_pure rfl rfl rfl (freshS_eq rfl) rfl ?_
                 refine wl_nil ?_
                 refine we_then ?_
                 refine wc_keep [174, 159, 143, 129, 18, 119, 17, 16, 15, 14, 112, 65, 13, 12, 11, 50, 30, 10, 9, 6, 5, 0, 1, 2, 3, 4] (S' := [_,_,_,_,_,_,_,_,_,_,_,_,_,_,_,_,_,_,_,_,_,_,_,_,_,_]) rfl ?_
                 refine wc_false rfl ?_
                 refine wc_skip ?_
                 refine we_then ?_
                 refine wc_seq ?_
                 refine wc_region ?_
                 refine wl_pure rfl rfl rfl (freshS_eq rfl) rfl ?_
                 refine wl_fieldAddr rfl rfl rfl (freshS_eq rfl) rfl rfl tF_48_1 ?_
                 refine wl_loadH 0 1 rfl rfl rfl (freshS_eq rfl) rfl rfl rfl (cs := [_]) rfl tS_3 tA_3 rfl rfl ?_
                 refine wl_keyed (f := s1.2.2.2.1) x125.var (fun hk179 => ?_) (fun kx179 hk179 => ?_)
                 ·
                  refine wl_lookup (E := (mInt tU_3)) 2 rfl rfl rfl (freshS_eq rfl) rfl rfl rfl rfl tZ_3 tU_3 tM_44 okx125.2.1 (v := .tuple #[.int .i64 0, .bool false]) (by rw [hk179]; rfl) ?_
                  refine wl_pure rfl rfl rfl (freshS_eq rfl) rfl ?_
                  refine wl_pure rfl rfl rfl (freshS_eq rfl) rfl ?_
                  refine wl_pure rfl rfl rfl (freshS_eq rfl) rfl ?_
                  refine wl_pure rfl rfl rfl (freshS_eq rfl) rfl ?_
                  refine wl_pure rfl rfl rfl (freshS_eq rfl) rfl ?_
                  refine wl_nil ?_
                  refine we_then ?_
                  refine wc_keep [20, 19, 174, 159, 143, 129, 18, 119, 17, 16, 15, 14, 112, 65, 13, 12, 11, 50, 30, 10, 9, 6, 5, 0, 1, 2, 3, 4] (S' := [_,_,_,_,_,_,_,_,_,_,_,_,_,_,_,_,_,_,_,_,_,_,_,_,_,_,_,_]) rfl ?_
                  refine wc_seq ?_
                  refine wc_draw [0, 1, 2, 3, 4, 5, 6, 7, 8, 9, 10, 11, 12, 13, 14, 15, 16, 17, 18, 19, 20, 21, 22, 23, 24, 25, 26, 27, 28, 29, 30, 31, 32, 33, 34, 35, 36, 37, 38, 39, 40, 41, 42, 43] rfl rfl (fun hok => ?_)
                  refine wx_fieldAddr hok 0 rfl rfl rfl (freshS_eq rfl) rfl rfl rfl tF_48_0 ?_
                  refine wx_loadH hok 1 0 0 rfl rfl rfl (freshS_eq rfl) rfl rfl rfl rfl (cs := [_]) rfl tS_46 tA_46 rfl rfl ?_
                  refine wx_pure hok 2 rfl rfl rfl (freshS_eq rfl) rfl rfl ?_
                  refine wx_pure hok 3 rfl rfl rfl (freshS_eq rfl) rfl rfl ?_
                  refine wx_split (d := 185) (S' := [_,_,_,_,_,_,_,_,_,_,_,_,_,_,_,_,_,_,_,_,_,_,_,_,_,_,_,_,_,_,_]) rfl rfl (fun h185 => ?_) (fun h185 => ?_)
                  ·
                   replace h185 := eq_of_beq h185
                   exfalso
                   omega
                  ·
                   replace h185 := ne_of_beq_false h185
                   refine wx_off hok 4 rfl rfl rfl (freshS_eq rfl) rfl ?_
                   refine wx_off hok 5 rfl rfl rfl (freshS_eq rfl) rfl ?_
                   refine wx_off hok 6 rfl rfl rfl (freshS_eq rfl) rfl ?_
                   refine wx_off hok 7 rfl rfl rfl (freshS_eq rfl) rfl ?_
                   refine wx_off hok 8 rfl rfl rfl (freshS_eq rfl) rfl ?_
                   refine wx_off hok 9 rfl rfl rfl (freshS_eq rfl) rfl ?_
                   refine wx_off hok 10 rfl rfl rfl (freshS_eq rfl) rfl ?_
                   refine wx_off hok 11 rfl rfl rfl (freshS_eq rfl) rfl ?_
                   refine wx_off hok 12 rfl rfl rfl (freshS_eq rfl) rfl ?_
                   refine wx_off hok 13 rfl rfl rfl (freshS_eq rfl) rfl ?_
                   refine wx_off hok 14 rfl rfl rfl (freshS_eq rfl) rfl ?_
                   refine wx_off hok 15 rfl rfl rfl (freshS_eq rfl) rfl ?_
                   refine wx_off hok 16 rfl rfl rfl (freshS_eq rfl) rfl ?_
                   refine wx_off hok 17 rfl rfl rfl (freshS_eq rfl) rfl ?_
                   refine wx_off hok 18 rfl rfl rfl (freshS_eq rfl) rfl ?_
                   refine wx_off hok 19 rfl rfl rfl (freshS_eq rfl) rfl ?_
                   refine wx_off hok 20 rfl rfl rfl (freshS_eq rfl) rfl ?_
                   refine wx_off hok 21 rfl rfl rfl (freshS_eq rfl) rfl ?_
                   refine wx_off hok 22 rfl rfl rfl (freshS_eq rfl) rfl ?_
                   refine wx_off hok 23 rfl rfl rfl (freshS_eq rfl) rfl ?_
                   refine wx_off hok 24 rfl rfl rfl (freshS_eq rfl) rfl ?_
                   refine wx_off hok 25 rfl rfl rfl (freshS_eq rfl) rfl ?_
                   refine wx_off hok 26 rfl rfl rfl (freshS_eq rfl) rfl ?_
                   refine wx_off hok 27 rfl rfl rfl (freshS_eq rfl) rfl ?_
                   refine wx_off hok 28 rfl rfl rfl (freshS_eq rfl) rfl ?_
                   refine wx_off hok 29 rfl rfl rfl (freshS_eq rfl) rfl ?_
                   refine wx_off hok 30 rfl rfl rfl (freshS_eq rfl) rfl ?_
                   refine wx_off hok 31 rfl rfl rfl (freshS_eq rfl) rfl ?_
                   refine wx_off hok 32 rfl rfl rfl (freshS_eq rfl) rfl ?_
                   refine wx_off hok 33 rfl rfl rfl (freshS_eq rfl) rfl ?_
                   refine wx_off hok 34 rfl rfl rfl (freshS_eq rfl) rfl ?_
                   refine wx_off hok 35 rfl rfl rfl (freshS_eq rfl) rfl ?_
                   refine wx_off hok 36 rfl rfl rfl (freshS_eq rfl) rfl ?_
                   refine wx_off hok 37 rfl rfl rfl (freshS_eq rfl) rfl ?_
                   refine wx_off hok 38 rfl rfl rfl (freshS_eq rfl) rfl ?_
                   refine wx_off hok 39 rfl rfl rfl (freshS_eq rfl) rfl ?_
                   refine wx_off hok 40 rfl rfl rfl (freshS_eq rfl) rfl ?_
                   refine wx_off hok 41 rfl rfl rfl (freshS_eq rfl) rfl ?_
                   refine wx_off hok 42 rfl rfl rfl (freshS_eq rfl) rfl ?_
                   refine wx_pure hok 43 rfl rfl rfl (freshS_eq rfl) rfl rfl ?_
                   refine wx_done hok rfl ?_
                   refine we_then ?_
                   refine wc_keep [225, 20, 19, 174, 159, 143, 129, 18, 119, 17, 16, 15, 14, 112, 65, 13, 12, 11, 50, 30, 10, 9, 6, 5, 0, 1, 2, 3, 4] (S' := [_,_,_,_,_,_,_,_,_,_,_,_,_,_,_,_,_,_,_,_,_,_,_,_,_,_,_,_,_]) rfl ?_
                   refine wc_false rfl ?_
                   refine wc_skip ?_
                   refine we_block_normal ?_
                   refine we_then ?_
                   refine wc_region ?_
                   refine wl_pure rfl rfl rfl (freshS_eq rfl) rfl ?_
                   refine wl_pure rfl rfl rfl (freshS_eq rfl) rfl ?_
                   refine wl_as (d := 121) (v' := .int .i64 ((s1.1 + 1 : Nat) : Int)) (S' := [_,_,_,_,_,_,_,_,_,_,_,_,_,_,_,_,_,_,_,_,_,_,_,_,_,_,_,_,_,_]) rfl rfl (nat_inc (by omega)) ?_
                   refine wl_pure (S' := [_,_,_,_,_,_,_,_,_,_,_,_,_,_,_,_,_,_,_,_,_,_,_,_,_,_,_,_,_,_]) rfl rfl rfl rfl rfl ?_
                   refine wl_nil ?_
                   refine we_pick [1, 2, 3, 4, 5, 6, 7, 8, 9, 10, 11] rfl (H' := [_,_,_,_,_,_,_,_,_,_,_]) rfl ?_
                   refine we_round (s1.1 + 1, s1.2.1, s1.2.2.1, s1.2.2.2.1, s1.2.2.2.2.1, s1.2.2.2.2.2) (by dsimp only; omega) ⟨by dsimp only; omega, by dsimp only; omega, by dsimp only; omega, by rw [last_step hx125, ← oks1.2.2.2.1]; funext q; simp [h129], by rw [asked_step hx125, ← oks1.2.2.2.2.1]; funext q; simp [h143], by rw [late_step hx125, ← oks1.2.2.2.2.1, ← oks1.2.2.2.2.2]; simp [h129]⟩ [17, 16, 15, 14, 112, 65, 13, 12, 11, 50, 30, 10, 9, 6, 5, 0, 1, 2, 3, 4] rfl (fun _ _ hφ => ask [4, 5, 6, 7] rfl hφ) rfl
                 ·
                  refine wl_lookup (E := (mInt tU_3)) 2 rfl rfl rfl (freshS_eq rfl) rfl rfl rfl rfl tZ_3 tU_3 tM_44 okx125.2.1 (v := .tuple #[.int .i64 kx179, .bool true]) (by rw [hk179]; rfl) ?_
                  refine wl_pure rfl rfl rfl (freshS_eq rfl) rfl ?_
                  refine wl_pure rfl rfl rfl (freshS_eq rfl) rfl ?_
                  refine wl_pure rfl rfl rfl (freshS_eq rfl) rfl ?_
                  refine wl_pure rfl rfl rfl (freshS_eq rfl) rfl ?_
                  refine wl_pure rfl rfl rfl (freshS_eq rfl) rfl ?_
                  refine wl_nil ?_
                  refine we_then ?_
                  refine wc_keep [20, 19, 174, 159, 143, 129, 18, 119, 17, 16, 15, 14, 112, 65, 13, 12, 11, 50, 30, 10, 9, 6, 5, 0, 1, 2, 3, 4] (S' := [_,_,_,_,_,_,_,_,_,_,_,_,_,_,_,_,_,_,_,_,_,_,_,_,_,_,_,_]) rfl ?_
                  refine wc_seq ?_
                  refine wc_draw [0, 1, 2, 3, 4, 5, 6, 7, 8, 9, 10, 11, 12, 13, 14, 15, 16, 17, 18, 19, 20, 21, 22, 23, 24, 25, 26, 27, 28, 29, 30, 31, 32, 33, 34, 35, 36, 37, 38, 39, 40, 41, 42, 43] rfl rfl (fun hok => ?_)
                  refine wx_fieldAddr hok 0 rfl rfl rfl (freshS_eq rfl) rfl rfl rfl tF_48_0 ?_
                  refine wx_loadH hok 1 0 0 rfl rfl rfl (freshS_eq rfl) rfl rfl rfl rfl (cs := [_]) rfl tS_46 tA_46 rfl rfl ?_
                  refine wx_pure hok 2 rfl rfl rfl (freshS_eq rfl) rfl rfl ?_
                  refine wx_pure hok 3 rfl rfl rfl (freshS_eq rfl) rfl rfl ?_
                  refine wx_split (d := 185) (S' := [_,_,_,_,_,_,_,_,_,_,_,_,_,_,_,_,_,_,_,_,_,_,_,_,_,_,_,_,_,_,_]) rfl rfl (fun h185 => ?_) (fun h185 => ?_)
                  ·
                   replace h185 := eq_of_beq h185
                   exfalso
                   omega
                  ·
                   replace h185 := ne_of_beq_false h185
                   refine wx_off hok 4 rfl rfl rfl (freshS_eq rfl) rfl ?_
                   refine wx_off hok 5 rfl rfl rfl (freshS_eq rfl) rfl ?_
                   refine wx_off hok 6 rfl rfl rfl (freshS_eq rfl) rfl ?_
                   refine wx_off hok 7 rfl rfl rfl (freshS_eq rfl) rfl ?_
                   refine wx_off hok 8 rfl rfl rfl (freshS_eq rfl) rfl ?_
                   refine wx_off hok 9 rfl rfl rfl (freshS_eq rfl) rfl ?_
                   refine wx_off hok 10 rfl rfl rfl (freshS_eq rfl) rfl ?_
                   refine wx_off hok 11 rfl rfl rfl (freshS_eq rfl) rfl ?_
                   refine wx_off hok 12 rfl rfl rfl (freshS_eq rfl) rfl ?_
                   refine wx_off hok 13 rfl rfl rfl (freshS_eq rfl) rfl ?_
                   refine wx_off hok 14 rfl rfl rfl (freshS_eq rfl) rfl ?_
                   refine wx_off hok 15 rfl rfl rfl (freshS_eq rfl) rfl ?_
                   refine wx_off hok 16 rfl rfl rfl (freshS_eq rfl) rfl ?_
                   refine wx_off hok 17 rfl rfl rfl (freshS_eq rfl) rfl ?_
                   refine wx_off hok 18 rfl rfl rfl (freshS_eq rfl) rfl ?_
                   refine wx_off hok 19 rfl rfl rfl (freshS_eq rfl) rfl ?_
                   refine wx_off hok 20 rfl rfl rfl (freshS_eq rfl) rfl ?_
                   refine wx_off hok 21 rfl rfl rfl (freshS_eq rfl) rfl ?_
                   refine wx_off hok 22 rfl rfl rfl (freshS_eq rfl) rfl ?_
                   refine wx_off hok 23 rfl rfl rfl (freshS_eq rfl) rfl ?_
                   refine wx_off hok 24 rfl rfl rfl (freshS_eq rfl) rfl ?_
                   refine wx_off hok 25 rfl rfl rfl (freshS_eq rfl) rfl ?_
                   refine wx_off hok 26 rfl rfl rfl (freshS_eq rfl) rfl ?_
                   refine wx_off hok 27 rfl rfl rfl (freshS_eq rfl) rfl ?_
                   refine wx_off hok 28 rfl rfl rfl (freshS_eq rfl) rfl ?_
                   refine wx_off hok 29 rfl rfl rfl (freshS_eq rfl) rfl ?_
                   refine wx_off hok 30 rfl rfl rfl (freshS_eq rfl) rfl ?_
                   refine wx_off hok 31 rfl rfl rfl (freshS_eq rfl) rfl ?_
                   refine wx_off hok 32 rfl rfl rfl (freshS_eq rfl) rfl ?_
                   refine wx_off hok 33 rfl rfl rfl (freshS_eq rfl) rfl ?_
                   refine wx_off hok 34 rfl rfl rfl (freshS_eq rfl) rfl ?_
                   refine wx_off hok 35 rfl rfl rfl (freshS_eq rfl) rfl ?_
                   refine wx_off hok 36 rfl rfl rfl (freshS_eq rfl) rfl ?_
                   refine wx_off hok 37 rfl rfl rfl (freshS_eq rfl) rfl ?_
                   refine wx_off hok 38 rfl rfl rfl (freshS_eq rfl) rfl ?_
                   refine wx_off hok 39 rfl rfl rfl (freshS_eq rfl) rfl ?_
                   refine wx_off hok 40 rfl rfl rfl (freshS_eq rfl) rfl ?_
                   refine wx_off hok 41 rfl rfl rfl (freshS_eq rfl) rfl ?_
                   refine wx_off hok 42 rfl rfl rfl (freshS_eq rfl) rfl ?_
                   refine wx_pure hok 43 rfl rfl rfl (freshS_eq rfl) rfl rfl ?_
                   refine wx_done hok rfl ?_
                   refine we_then ?_
                   refine wc_keep [225, 20, 19, 174, 159, 143, 129, 18, 119, 17, 16, 15, 14, 112, 65, 13, 12, 11, 50, 30, 10, 9, 6, 5, 0, 1, 2, 3, 4] (S' := [_,_,_,_,_,_,_,_,_,_,_,_,_,_,_,_,_,_,_,_,_,_,_,_,_,_,_,_,_]) rfl ?_
                   refine wc_false rfl ?_
                   refine wc_skip ?_
                   refine we_block_normal ?_
                   refine we_then ?_
                   refine wc_region ?_
                   refine wl_pure rfl rfl rfl (freshS_eq rfl) rfl ?_
                   refine wl_pure rfl rfl rfl (freshS_eq rfl) rfl ?_
                   refine wl_as (d := 121) (v' := .int .i64 ((s1.1 + 1 : Nat) : Int)) (S' := [_,_,_,_,_,_,_,_,_,_,_,_,_,_,_,_,_,_,_,_,_,_,_,_,_,_,_,_,_,_]) rfl rfl (nat_inc (by omega)) ?_
                   refine wl_pure (S' := [_,_,_,_,_,_,_,_,_,_,_,_,_,_,_,_,_,_,_,_,_,_,_,_,_,_,_,_,_,_]) rfl rfl rfl rfl rfl ?_
                   refine wl_nil ?_
                   refine we_pick [1, 2, 3, 4, 5, 6, 7, 8, 9, 10, 11] rfl (H' := [_,_,_,_,_,_,_,_,_,_,_]) rfl ?_
                   refine we_round (s1.1 + 1, s1.2.1, s1.2.2.1, s1.2.2.2.1, s1.2.2.2.2.1, s1.2.2.2.2.2) (by dsimp only; omega) ⟨by dsimp only; omega, by dsimp only; omega, by dsimp only; omega, by rw [last_step hx125, ← oks1.2.2.2.1]; funext q; simp [h129], by rw [asked_step hx125, ← oks1.2.2.2.2.1]; funext q; simp [h143], by rw [late_step hx125, ← oks1.2.2.2.2.1, ← oks1.2.2.2.2.2]; simp [h129]⟩ [17, 16, 15, 14, 112, 65, 13, 12, 11, 50, 30, 10, 9, 6, 5, 0, 1, 2, 3, 4] rfl (fun _ _ hφ => ask [4, 5, 6, 7] rfl hφ) rfl
              ·
               replace h150 := ne_of_beq_false h150
               refine wx_off hok 4 rfl rfl rfl (freshS_eq rfl) rfl ?_
               refine wx_off hok 5 rfl rfl rfl (freshS_eq rfl) rfl ?_
               refine wx_off hok 6 rfl rfl rfl (freshS_eq rfl) rfl ?_
               refine wx_off hok 7 rfl rfl rfl (freshS_eq rfl) rfl ?_
               refine wx_off hok 8 rfl rfl rfl (freshS_eq rfl) rfl ?_
               refine wx_off hok 9 rfl rfl rfl (freshS_eq rfl) rfl ?_
               refine wx_off hok 10 rfl rfl rfl (freshS_eq rfl) rfl ?_
               refine wx_off hok 11 rfl rfl rfl (freshS_eq rfl) rfl ?_
               refine wx_pure hok 12 rfl rfl rfl (freshS_eq rfl) rfl rfl ?_
               refine wx_done hok rfl ?_
               refine we_then ?_
               refine wc_keep [159, 143, 129, 18, 119, 17, 16, 15, 14, 112, 65, 13, 12, 11, 50, 30, 10, 9, 6, 5, 0, 1, 2, 3, 4] (S' := [_,_,_,_,_,_,_,_,_,_,_,_,_,_,_,_,_,_,_,_,_,_,_,_,_]) rfl ?_
               refine wc_false rfl ?_
               refine wc_skip ?_
               refine we_then ?_
               refine wc_seq ?_
               refine wc_seq ?_
               refine wc_region ?_
               refine wl_fieldAddr rfl rfl rfl (freshS_eq rfl) rfl rfl tF_48_0 ?_
               refine wl_loadH 0 0 rfl rfl rfl (freshS_eq rfl) rfl rfl rfl (cs := [_]) rfl tS_46 tA_46 rfl rfl ?_
               refine wl_pure rfl rfl rfl (freshS_eq rfl) rfl ?_
               refine wl_pure rfl rfl rfl (freshS_eq rfl) rfl ?_
               refine wl_split (d := 163) (S' := [_,_,_,_,_,_,_,_,_,_,_,_,_,_,_,_,_,_,_,_,_,_,_,_,_,_,_,_]) rfl rfl (fun h163 => ?_) (fun h163 => ?_)
               ·
                replace h163 := eq_of_beq h163
                exfalso
                omega
               ·
                replace h163 := ne_of_beq_false h163
                refine wl_off rfl rfl rfl (freshS_eq rfl) ?_
                refine wl_off rfl rfl rfl (freshS_eq rfl) ?_
                refine wl_off rfl rfl rfl (freshS_eq rfl) ?_
                refine wl_off rfl rfl rfl (freshS_eq rfl) ?_
                refine wl_off rfl rfl rfl (freshS_eq rfl) ?_
                refine wl_off rfl rfl rfl (freshS_eq rfl) ?_
                refine wl_off rfl rfl rfl (freshS_eq rfl) ?_
                refine wl_off rfl rfl rfl (freshS_eq rfl) ?_
                refine wl_off rfl rfl rfl (freshS_eq rfl) ?_
                refine wl_off rfl rfl rfl (freshS_eq rfl) ?_
                refine wl_pure rfl rfl rfl (freshS_eq rfl) rfl ?_
                refine wl_nil ?_
                refine we_then ?_
                refine wc_keep [174, 159, 143, 129, 18, 119, 17, 16, 15, 14, 112, 65, 13, 12, 11, 50, 30, 10, 9, 6, 5, 0, 1, 2, 3, 4] (S' := [_,_,_,_,_,_,_,_,_,_,_,_,_,_,_,_,_,_,_,_,_,_,_,_,_,_]) rfl ?_
                refine wc_false rfl ?_
                refine wc_skip ?_
                refine we_then ?_
                refine wc_seq ?_
                refine wc_region ?_
                refine wl_pure rfl rfl rfl (freshS_eq rfl) rfl ?_
                refine wl_fieldAddr rfl rfl rfl (freshS_eq rfl) rfl rfl tF_48_1 ?_
                refine wl_loadH 0 1 rfl rfl rfl (freshS_eq rfl) rfl rfl rfl (cs := [_]) rfl tS_3 tA_3 rfl rfl ?_
                refine wl_keyed (f := s1.2.2.2.1) x125.var (fun hk179 => ?_) (fun kx179 hk179 => ?_)
                ·
                 refine wl_lookup (E := (mInt tU_3)) 2 rfl rfl rfl (freshS_eq rfl) rfl rfl rfl rfl tZ_3 tU_3 tM_44 okx125.2.1 (v := .tuple #[.int .i64 0, .bool false]) (by rw [hk179]; rfl) ?_
                 refine wl_pure rfl rfl rfl (freshS_eq rfl) rfl ?_
                 refine wl_pure rfl rfl rfl (freshS_eq rfl) rfl ?_
                 refine wl_pure rfl rfl rfl (freshS_eq rfl) rfl ?_
                 refine wl_pure rfl rfl rfl (freshS_eq rfl) rfl ?_
                 refine wl_pure rfl rfl rfl (freshS_eq rfl) rfl ?_
                 refine wl_nil ?_
                 refine we_then ?_
                 refine wc_keep [20, 19, 174, 159, 143, 129, 18, 119, 17, 16, 15, 14, 112, 65, 13, 12, 11, 50, 30, 10, 9, 6, 5, 0, 1, 2, 3, 4] (S' := [_,_,_,_,_,_,_,_,_,_,_,_,_,_,_,_,_,_,_,_,_,_,_,_,_,_,_,_]) rfl ?_
                 refine wc_seq ?_
                 refine wc_draw [0, 1, 2, 3, 4, 5, 6, 7, 8, 9, 10, 11, 12, 13, 14, 15, 16, 17, 18, 19, 20, 21, 22, 23, 24, 25, 26, 27, 28, 29, 30, 31, 32, 33, 34, 35, 36, 37, 38, 39, 40, 41, 42, 43] rfl rfl (fun hok => ?_)
                 refine wx_fieldAddr hok 0 rfl rfl rfl (freshS_eq rfl) rfl rfl rfl tF_48_0 ?_
                 refine wx_loadH hok 1 0 0 rfl rfl rfl (freshS_eq rfl) rfl rfl rfl rfl (cs := [_]) rfl tS_46 tA_46 rfl rfl ?_
                 refine wx_pure hok 2 rfl rfl rfl (freshS_eq rfl) rfl rfl ?_
                 refine wx_pure hok 3 rfl rfl rfl (freshS_eq rfl) rfl rfl ?_
                 refine wx_split (d := 185) (S' := [_,_,_,_,_,_,_,_,_,_,_,_,_,_,_,_,_,_,_,_,_,_,_,_,_,_,_,_,_,_,_]) rfl rfl (fun h185 => ?_) (fun h185 => ?_)
                 ·
                  replace h185 := eq_of_beq h185
                  exfalso
                  omega
                 ·
                  replace h185 := ne_of_beq_false h185
                  refine wx_off hok 4 rfl rfl rfl (freshS_eq rfl) rfl ?_
                  refine wx_off hok 5 rfl rfl rfl (freshS_eq rfl) rfl ?_
                  refine wx_off hok 6 rfl rfl rfl (freshS_eq rfl) rfl ?_
                  refine wx_off hok 7 rfl rfl rfl (freshS_eq rfl) rfl ?_
                  refine wx_off hok 8 rfl rfl rfl (freshS_eq rfl) rfl ?_
                  refine wx_off hok 9 rfl rfl rfl (freshS_eq rfl) rfl ?_
                  refine wx_off hok 10 rfl rfl rfl (freshS_eq rfl) rfl ?_
                  refine wx_off hok 11 rfl rfl rfl (freshS_eq rfl) rfl ?_
                  refine wx_off hok 12 rfl rfl rfl (freshS_eq rfl) rfl ?_
                  refine wx_off hok 13 rfl rfl rfl (freshS_eq rfl) rfl ?_
                  refine wx_off hok 14 rfl rfl rfl (freshS_eq rfl) rfl ?_
                  refine wx_off hok 15 rfl rfl rfl (freshS_eq rfl) rfl ?_
                  refine wx_off hok 16 rfl rfl rfl (freshS_eq rfl) rfl ?_
                  refine wx_off hok 17 rfl rfl rfl (freshS_eq rfl) rfl ?_
                  refine wx_off hok 18 rfl rfl rfl (freshS_eq rfl) rfl ?_
                  refine wx_off hok 19 rfl rfl rfl (freshS_eq rfl) rfl ?_
                  refine wx_off hok 20 rfl rfl rfl (freshS_eq rfl) rfl ?_
                  refine wx_off hok 21 rfl rfl rfl (freshS_eq rfl) rfl ?_
                  refine wx_off hok 22 rfl rfl rfl (freshS_eq rfl) rfl ?_
                  refine wx_off hok 23 rfl rfl rfl (freshS_eq rfl) rfl ?_
                  refine wx_off hok 24 rfl rfl rfl (freshS_eq rfl) rfl ?_
                  refine wx_off hok 25 rfl rfl rfl (freshS_eq rfl) rfl ?_
                  refine wx_off hok 26 rfl rfl rfl (freshS_eq rfl) rfl ?_
                  refine wx_off hok 27 rfl rfl rfl (freshS_eq rfl) rfl ?_
                  refine wx_off hok 28 rfl rfl rfl (freshS_eq rfl) rfl ?_
                  refine wx_off hok 29 rfl rfl rfl (freshS_eq rfl) rfl ?_
                  refine wx_off hok 30 rfl rfl rfl (freshS_eq rfl) rfl ?_
                  refine wx_off hok 31 rfl rfl rfl (freshS_eq rfl) rfl ?_
                  refine wx_off hok 32 rfl rfl rfl (freshS_eq rfl) rfl ?_
                  refine wx_off hok 33 rfl rfl rfl (freshS_eq rfl) rfl ?_
                  refine wx_off hok 34 rfl rfl rfl (freshS_eq rfl) rfl ?_
                  refine wx_off hok 35 rfl rfl rfl (freshS_eq rfl) rfl ?_
                  refine wx_off hok 36 rfl rfl rfl (freshS_eq rfl) rfl ?_
                  refine wx_off hok 37 rfl rfl rfl (freshS_eq rfl) rfl ?_
                  refine wx_off hok 38 rfl rfl rfl (freshS_eq rfl) rfl ?_
                  refine wx_off hok 39 rfl rfl rfl (freshS_eq rfl) rfl ?_
                  refine wx_off hok 40 rfl rfl rfl (freshS_eq rfl) rfl ?_
                  refine wx_off hok 41 rfl rfl rfl (freshS_eq rfl) rfl ?_
                  refine wx_off hok 42 rfl rfl rfl (freshS_eq rfl) rfl ?_
                  refine wx_pure hok 43 rfl rfl rfl (freshS_eq rfl) rfl rfl ?_
                  refine wx_done hok rfl ?_
                  refine we_then ?_
                  refine wc_keep [225, 20, 19, 174, 159, 143, 129, 18, 119, 17, 16, 15, 14, 112, 65, 13, 12, 11, 50, 30, 10, 9, 6, 5, 0, 1, 2, 3, 4] (S' := [_,_,_,_,_,_,_,_,_,_,_,_,_,_,_,_,_,_,_,_,_,_,_,_,_,_,_,_,_]) rfl ?_
                  refine wc_false rfl ?_
                  refine wc_skip ?_
                  refine we_block_normal ?_
                  refine we_then ?_
                  refine wc_region ?_
                  refine wl_pure rfl rfl rfl (freshS_eq rfl) rfl ?_
                  refine wl_pure rfl rfl rfl (freshS_eq rfl) rfl ?_
                  refine wl_as (d := 121) (v' := .int .i64 ((s1.1 + 1 : Nat) : Int)) (S' := [_,_,_,_,_,_,_,_,_,_,_,_,_,_,_,_,_,_,_,_,_,_,_,_,_,_,_,_,_,_]) rfl rfl (nat_inc (by omega)) ?_
                  refine wl_pure (S' := [_,_,_,_,_,_,_,_,_,_,_,_,_,_,_,_,_,_,_,_,_,_,_,_,_,_,_,_,_,_]) rfl rfl rfl rfl rfl ?_
                  refine wl_nil ?_
                  refine we_pick [1, 2, 3, 4, 5, 6, 7, 8, 9, 10, 11] rfl (H' := [_,_,_,_,_,_,_,_,_,_,_]) rfl ?_
                  refine we_round (s1.1 + 1, s1.2.1, s1.2.2.1, s1.2.2.2.1, s1.2.2.2.2.1, s1.2.2.2.2.2) (by dsimp only; omega) ⟨by dsimp only; omega, by dsimp only; omega, by dsimp only; omega, by rw [last_step hx125, ← oks1.2.2.2.1]; funext q; simp [h129], by rw [asked_step hx125, ← oks1.2.2.2.2.1]; funext q; simp [h143], by rw [late_step hx125, ← oks1.2.2.2.2.1, ← oks1.2.2.2.2.2]; simp [h129]⟩ [17, 16, 15, 14, 112, 65, 13, 12, 11, 50, 30, 10, 9, 6, 5, 0, 1, 2, 3, 4] rfl (fun _ _ hφ => ask [2, 3, 4, 5] rfl hφ) rfl
                ·
                 refine wl_lookup (E := (mInt tU_3)) 2 rfl rfl rfl (freshS_eq rfl) rfl rfl rfl rfl tZ_3 tU_3 tM_44 okx125.2.1 (v := .tuple #[.int .i64 kx179, .bool true]) (by rw [hk179]; rfl) ?_
                 refine wl_pure rfl rfl rfl (freshS_eq rfl) rfl ?_
                 refine wl_pure rfl rfl rfl (freshS_eq rfl) rfl ?_
                 refine wl_pure rfl rfl rfl (freshS_eq rfl) rfl ?_
                 refine wl_pure rfl rfl rfl (freshS_eq rfl) rfl ?_
                 refine wl_pure rfl rfl rfl (freshS_eq rfl) rfl ?_
                 refine wl_nil ?_
                 refine we_then ?_
                 refine wc_keep [20, 19, 174, 159, 143, 129, 18, 119, 17, 16, 15, 14, 112, 65, 13, 12, 11, 50, 30, 10, 9, 6, 5, 0, 1, 2, 3, 4] (S' := [_,_,_,_,_,_,_,_,_,_,_,_,_,_,_,_,_,_,_,_,_,_,_,_,_,_,_,_]) rfl ?_
                 refine wc_seq ?_
                 refine wc_draw [0, 1, 2, 3, 4, 5, 6, 7, 8, 9, 10, 11, 12, 13, 14, 15, 16, 17, 18, 19, 20, 21, 22, 23, 24, 25, 26, 27, 28, 29, 30, 31, 32, 33, 34, 35, 36, 37, 38, 39, 40, 41, 42, 43] rfl rfl (fun hok => ?_)
                 refine wx_fieldAddr hok 0 rfl rfl rfl (freshS_eq rfl) rfl rfl rfl tF_48_0 ?_
                 refine wx_loadH hok 1 0 0 rfl rfl rfl (freshS_eq rfl) rfl rfl rfl rfl (cs := [_]) rfl tS_46 tA_46 rfl rfl ?_
                 refine wx_pure hok 2 rfl rfl rfl (freshS_eq rfl) rfl rfl ?_
                 refine wx_pure hok 3 rfl rfl rfl (freshS_eq rfl) rfl rfl ?_
                 refine wx_split (d := 185) (S' := [_,_,_,_,_,_,_,_,_,_,_,_,_,_,_,_,_,_,_,_,_,_,_,_,_,_,_,_,_,_,_]) rfl rfl (fun h185 => ?_) (fun h185 => ?_)
                 ·
                  replace h185 := eq_of_beq h185
                  exfalso
                  omega
                 ·
                  replace h185 := ne_of_beq_false h185
                  refine wx_off hok 4 rfl rfl rfl (freshS_eq rfl) rfl ?_
                  refine wx_off hok 5 rfl rfl rfl (freshS_eq rfl) rfl ?_
                  refine wx_off hok 6 rfl rfl rfl (freshS_eq rfl) rfl ?_
                  refine wx_off hok 7 rfl rfl rfl (freshS_eq rfl) rfl ?_
                  refine wx_off hok 8 rfl rfl rfl (freshS_eq rfl) rfl ?_
                  refine wx_off hok 9 rfl rfl rfl (freshS_eq rfl) rfl ?_
                  refine wx_off hok 10 rfl rfl rfl (freshS_eq rfl) rfl ?_
                  refine wx_off hok 11 rfl rfl rfl (freshS_eq rfl) rfl ?_
                  refine wx_off hok 12 rfl rfl rfl (freshS_eq rfl) rfl ?_
                  refine wx_off hok 13 rfl rfl rfl (freshS_eq rfl) rfl ?_
                  refine wx_off hok 14 rfl rfl rfl (freshS_eq rfl) rfl ?_
                  refine wx_off hok 15 rfl rfl rfl (freshS_eq rfl) rfl ?_
                  refine wx_off hok 16 rfl rfl rfl (freshS_eq rfl) rfl ?_
                  refine wx_off hok 17 rfl rfl rfl (freshS_eq rfl) rfl ?_
                  refine wx_off hok 18 rfl rfl rfl (freshS_eq rfl) rfl ?_
                  refine wx_off hok 19 rfl rfl rfl (freshS_eq rfl) rfl ?_
                  refine wx_off hok 20 rfl rfl rfl (freshS_eq rfl) rfl ?_
                  refine wx_off hok 21 rfl rfl rfl (freshS_eq rfl) rfl ?_
                  refine wx_off hok 22 rfl rfl rfl (freshS_eq rfl) rfl ?_
                  refine wx_off hok 23 rfl rfl rfl (freshS_eq rfl) rfl ?_
                  refine wx_off hok 24 rfl rfl rfl (freshS_eq rfl) rfl ?_
                  refine wx_off hok 25 rfl rfl rfl (freshS_eq rfl) rfl ?_
                  refine wx_off hok 26 rfl rfl rfl (freshS_eq rfl) rfl ?_
                  refine wx_off hok 27 rfl rfl rfl (freshS_eq rfl) rfl ?_
                  refine wx_off hok 28 rfl rfl rfl (freshS_eq rfl) rfl ?_
                  refine wx_off hok 29 rfl rfl rfl (freshS_eq rfl) rfl ?_
                  refine wx_off hok 30 rfl rfl rfl (freshS_eq rfl) rfl ?_
                  refine wx_off hok 31 rfl rfl rfl (freshS_eq rfl) rfl ?_
                  refine wx_off hok 32 rfl rfl rfl (freshS_eq rfl) rfl ?_
                  refine wx_off hok 33 rfl rfl rfl (freshS_eq rfl) rfl ?_
                  refine wx_off hok 34 rfl rfl rfl (freshS_eq rfl) rfl ?_
                  refine wx_off hok 35 rfl rfl rfl (freshS_eq rfl) rfl ?_
                  refine wx_off hok 36 rfl rfl rfl (freshS_eq rfl) rfl ?_
                  refine wx_off hok 37 rfl rfl rfl (freshS_eq rfl) rfl ?_
                  refine wx_off hok 38 rfl rfl rfl (freshS_eq rfl) rfl ?_
                  refine wx_off hok 39 rfl rfl rfl (freshS_eq rfl) rfl ?_
                  refine wx_off hok 40 rfl rfl rfl (freshS_eq rfl) rfl ?_
                  refine wx_off hok 41 rfl rfl rfl (freshS_eq rfl) rfl ?_
                  refine wx_off hok 42 rfl rfl rfl (freshS_eq rfl) rfl ?_
                  refine wx_pure hok 43 rfl rfl rfl (freshS_eq rfl) rfl rfl ?_
                  refine wx_done hok rfl ?_
                  refine we_then ?_
                  refine wc_keep [225, 20, 19, 174, 159, 143, 129, 18, 119, 17, 16, 15, 14, 112, 65, 13, 12, 11, 50, 30, 10, 9, 6, 5, 0, 1, 2, 3, 4] (S' := [_,_,_,_,_,_,_,_,_,_,_,_,_,_,_,_,_,_,_,_,_,_,_,_,_,_,_,_,_]) rfl ?_
                  refine wc_false rfl ?_
                  refine wc_skip ?_
                  refine we_block_normal ?_
                  refine we_then ?_
                  refine wc_region ?_
                  refine wl_pure rfl rfl rfl (freshS_eq rfl) rfl ?_
                  refine wl_pure rfl rfl rfl (freshS_eq rfl) rfl ?_
                  refine wl_as (d := 121) (v' := .int .i64 ((s1.1 + 1 : Nat) : Int)) (S' := [_,_,_,_,_,_,_,_,_,_,_,_,_,_,_,_,_,_,_,_,_,_,_,_,_,_,_,_,_,_]) rfl rfl (nat_inc (by omega)) ?_
                  refine wl_pure (S' := [_,_,_,_,_,_,_,_,_,_,_,_,_,_,_,_,_,_,_,_,_,_,_,_,_,_,_,_,_,_]) rfl rfl rfl rfl rfl ?_
                  refine wl_nil ?_
                  refine we_pick [1, 2, 3, 4, 5, 6, 7, 8, 9, 10, 11] rfl (H' := [_,_,_,_,_,_,_,_,_,_,_]) rfl ?_
                  refine we_round (s1.1 + 1, s1.2.1, s1.2.2.1, s1.2.2.2.1, s1.2.2.2.2.1, s1.2.2.2.2.2) (by dsimp only; omega) ⟨by dsimp only; omega, by dsimp only; omega, by dsimp only; omega, by rw [last_step hx125, ← oks1.2.2.2.1]; funext q; simp [h129], by rw [asked_step hx125, ← oks1.2.2.2.2.1]; funext q; simp [h143], by rw [late_step hx125, ← oks1.2.2.2.2.1, ← oks1.2.2.2.2.2]; simp [h129]⟩ [17, 16, 15, 14, 112, 65, 13, 12, 11, 50, 30, 10, 9, 6, 5, 0, 1, 2, 3, 4] rfl (fun _ _ hφ => ask [2, 3, 4, 5] rfl hφ) rfl
           ·
            replace h119 := of_decide_eq_false h119
            have hn : s1.1 = c.args.length := by omega
            have hlast : s1.2.2.2.1 = lastTo c.args c.args.length := by rw [← hn]; exact oks1.2.2.2.1
            have hlate : s1.2.2.2.2.2 = lateTo c.args c.args.length := by rw [← hn]; exact oks1.2.2.2.2.2
            refine wc_exit ?_
            refine we_then_exit ?_
            refine we_then_exit ?_
            refine we_block_hit ?_
            refine we_then ?_
            refine wc_seq ?_
            refine wc_seq ?_
            refine wc_region ?_
            refine wl_pure rfl rfl rfl (freshS_eq rfl) rfl ?_
            refine wl_nil ?_
            refine we_then ?_
            refine wc_block ?_
            refine wc_loop (σ := Nat) (fun s => s ≤ has.length) (fun s => has.length - s) (fun s => [(21, .int .i64 ((s : Nat) : Int)), (119, .bool (decide (((s1.1 : Nat) : Int) < ((c.args.length : Nat) : Int)))), (17, .int .i64 ((s1.1 : Nat) : Int)), (16, .map (some g114)), (15, .bool (s1.2.2.2.2.2)), (14, .map (some g113)), (112, .bool (c.ty != f.ty)), (65, .bool (!r61)), (13, .bool r61), (12, .pointer (some ⟨g12, 0, none⟩)), (11, .pointer (some ⟨g11, 0, none⟩)), (50, .bool (decide (((vals.length : Nat) : Int) > 2000))), (30, .bool false), (10, .bool false), (9, .pointer (some ⟨g9, 0, none⟩)), (6, .pointer (some ⟨g6, 0, none⟩)), (5, .pointer (some ⟨g5, 0, none⟩)), (0, .agg #[.int .u8 (c.k), .int .i64 (c.ty), .slice pa c.args.length ca, t0, t1, t2, t3, t4, t5, t6]), (1, .agg #[.int .i64 (f.id), .int .i64 (f.ty), .slice px f.args.length cx]), (2, .slice p1 has.length c1), (3, .slice p2 vals.length c2), (4, .agg #[.int .u8 (v0.k), .int .i64 (v0.n), .string v0.s])]) (fun s => [.sli 5 aRep pa ca c.args, .sli 3 vRep px cx f.args, .sli 1 bRep p1 c1 has, .sli 3 vRep p2 c2 vals]) (fun s => [mapF Try.prog 3 4 (mBool tU_4) g114 s1.2.2.1 s1.2.2.2.2.1, mapF Try.prog 3 3 (mInt tU_3) g113 s1.2.1 s1.2.2.2.1, .blk g12 [.slice p61 e61.has.length c61, .slice p61_2 e61.vals.length c61_2] 41, .own 27 3 vRep (.slice p61_2 e61.vals.length c61_2) e61.vals, .own 4 1 bRep (.slice p61 e61.has.length c61) e61.has, .blk g11 [.slice p53 (has).length c53, .slice p55 vals.length c55] 41, .own 27 3 vRep (.slice p55 vals.length c55) vals, .own 4 1 bRep (.slice p53 (has).length c53) has, .blk g9 [.int .u8 (v0.k), .int .i64 (v0.n), .string v0.s] 27, .blk g6 [.int .i64 (f.id), .int .i64 (f.ty), .slice px f.args.length cx] 36, .blk g5 [.int .u8 (c.k), .int .i64 (c.ty), .slice pa c.args.length ca, t0, t1, t2, t3, t4, t5, t6] 33]) 0 (by simp) [21, 119, 17, 16, 15, 14, 112, 65, 13, 12, 11, 50, 30, 10, 9, 6, 5, 0, 1, 2, 3, 4] rfl (fun _ _ hφ => ask [0, 1, 2, 3] rfl hφ) rfl (fun s2 oks2 => ?_)
            refine wc_seq ?_
            refine wc_seq ?_
            refine wc_region ?_
            refine wl_pure rfl rfl rfl (freshS_eq rfl) rfl ?_
            refine wl_pure rfl rfl rfl (freshS_eq rfl) rfl ?_
            refine wl_len rfl rfl rfl (freshS_eq rfl) rfl rfl tE_37 ?_
            refine wl_pure rfl rfl rfl (freshS_eq rfl) rfl ?_
            refine wl_nil ?_
            refine we_then ?_
            refine wc_keep [229, 21, 119, 17, 16, 15, 14, 112, 65, 13, 12, 11, 50, 30, 10, 9, 6, 5, 0, 1, 2, 3, 4] (S' := [_,_,_,_,_,_,_,_,_,_,_,_,_,_,_,_,_,_,_,_,_,_,_]) rfl ?_
            refine wc_cond rfl (fun h229 => ?_) (fun h229 => ?_)
            ·
             replace h229 := of_decide_eq_true h229
             refine wc_skip ?_
             refine we_then ?_
             refine wc_seq ?_
             refine wc_block ?_
             refine wc_seq ?_
             refine wc_region ?_
             refine wl_pure rfl rfl rfl (freshS_eq rfl) rfl ?_
             refine wl_pure rfl rfl rfl (freshS_eq rfl) rfl ?_
             refine wl_keyed (f := s1.2.2.2.1) ((s2 : Nat) : Int) (fun hk235 => ?_) (fun kx235 hk235 => ?_)
             ·
              refine wl_lookup (E := (mInt tU_3)) 1 rfl rfl rfl (freshS_eq rfl) rfl rfl rfl rfl tZ_3 tU_3 tM_44 (by unfold inI; omega) (v := .tuple #[.int .i64 0, .bool false]) (by rw [hk235]; rfl) ?_
              obtain ⟨hn3, hn4⟩ := (told hl hfit s2 (by omega)).2 (by rw [← hlast]; exact hk235)
              refine wl_pure rfl rfl rfl (freshS_eq rfl) rfl ?_
              refine wl_pure rfl rfl rfl (freshS_eq rfl) rfl ?_
              refine wl_pure rfl rfl rfl (freshS_eq rfl) rfl ?_
              refine wl_pure rfl rfl rfl (freshS_eq rfl) rfl ?_
              refine wl_pure rfl rfl rfl (freshS_eq rfl) rfl ?_
              refine wl_nil ?_
              refine we_then ?_
              refine wc_keep [23, 22, 229, 21, 119, 17, 16, 15, 14, 112, 65, 13, 12, 11, 50, 30, 10, 9, 6, 5, 0, 1, 2, 3, 4] (S' := [_,_,_,_,_,_,_,_,_,_,_,_,_,_,_,_,_,_,_,_,_,_,_,_,_]) rfl ?_
              refine wc_seq ?_
              refine wc_draw [0, 1, 2, 3, 4, 5, 6, 7, 8, 9, 10, 11, 12, 13, 14, 15, 16, 17, 18, 19, 20, 21, 22, 23, 24, 25, 26, 27, 28, 29, 30, 31, 32, 33, 34, 35, 36, 37, 38, 39, 40, 41, 42, 43, 44, 45, 46, 47, 48, 49] rfl rfl (fun hok => ?_)
              refine wx_pure hok 0 rfl rfl rfl (freshS_eq rfl) rfl rfl ?_
              refine wx_pure hok 1 rfl rfl rfl (freshS_eq rfl) rfl rfl ?_
              refine wx_off hok 2 rfl rfl rfl (freshS_eq rfl) rfl ?_
              refine wx_off hok 3 rfl rfl rfl (freshS_eq rfl) rfl ?_
              refine wx_off hok 4 rfl rfl rfl (freshS_eq rfl) rfl ?_
              refine wx_off hok 5 rfl rfl rfl (freshS_eq rfl) rfl ?_
              refine wx_off hok 6 rfl rfl rfl (freshS_eq rfl) rfl ?_
              refine wx_off hok 7 rfl rfl rfl (freshS_eq rfl) rfl ?_
              refine wx_off hok 8 rfl rfl rfl (freshS_eq rfl) rfl ?_
              refine wx_off hok 9 rfl rfl rfl (freshS_eq rfl) rfl ?_
              refine wx_off hok 10 rfl rfl rfl (freshS_eq rfl) rfl ?_
              refine wx_off hok 11 rfl rfl rfl (freshS_eq rfl) rfl ?_
              refine wx_off hok 12 rfl rfl rfl (freshS_eq rfl) rfl ?_
              refine wx_off hok 13 rfl rfl rfl (freshS_eq rfl) rfl ?_
              refine wx_off hok 14 rfl rfl rfl (freshS_eq rfl) rfl ?_
              refine wx_off hok 15 rfl rfl rfl (freshS_eq rfl) rfl ?_
              refine wx_off hok 16 rfl rfl rfl (freshS_eq rfl) rfl ?_
              refine wx_off hok 17 rfl rfl rfl (freshS_eq rfl) rfl ?_
              refine wx_off hok 18 rfl rfl rfl (freshS_eq rfl) rfl ?_
              refine wx_off hok 19 rfl rfl rfl (freshS_eq rfl) rfl ?_
              refine wx_off hok 20 rfl rfl rfl (freshS_eq rfl) rfl ?_
              refine wx_pure hok 21 rfl rfl rfl (freshS_eq rfl) rfl rfl ?_
              refine wx_pure hok 22 rfl rfl rfl (freshS_eq rfl) rfl rfl ?_
              refine wx_pure hok 23 rfl rfl rfl (freshS_eq rfl) rfl rfl ?_
              refine wx_pure hok 24 rfl rfl rfl (freshS_eq rfl) rfl rfl ?_
              refine wx_pure hok 25 rfl rfl rfl (freshS_eq rfl) rfl rfl ?_
              refine wx_fieldAddr hok 26 rfl rfl rfl (freshS_eq rfl) rfl rfl rfl tF_41_0 ?_
              refine wx_loadH hok 27 2 0 rfl rfl rfl (freshS_eq rfl) rfl rfl rfl rfl (cs := [_]) rfl tS_37 tA_37 rfl rfl ?_
              refine wx_pure hok 28 rfl rfl rfl (freshS_eq rfl) rfl rfl ?_
              refine wx_indexH hok 29 4 s2 rfl rfl rfl (freshS_eq rfl) rfl rfl rfl rfl rfl rfl (by omega) tE_37 tS_4 (fun g267 eg267 => ?_)
              subst eg267
              obtain ⟨y267, hy267⟩ : ∃ y, e61.has[s2]? = some y := ⟨_, List.getElem?_eq_getElem (by omega)⟩
              refine wx_loadRow hok 30 bRep_opens 4 s2 0 rfl rfl rfl (freshS_eq rfl) rfl rfl rfl rfl hy267 tS_4 tA_4 (v := .bool y267) rfl rfl (fun oky267 => ?_)
              refine wx_pure hok 31 rfl rfl rfl (freshS_eq rfl) rfl rfl ?_
              refine wx_pure hok 32 rfl rfl rfl (freshS_eq rfl) rfl rfl ?_
              refine wx_index hok 33 2 s2 rfl rfl rfl (freshS_eq rfl) rfl rfl rfl rfl rfl rfl (by omega) tE_37 tS_4 (fun b271 q271 cs271 x271 hx271 hlx271 => ?_)
              refine wx_openR bRep_opens 1 rfl (fun r271 er271 okx271 => ?_)
              subst er271
              refine wx_load hok 34 0 0 rfl rfl rfl (freshS_eq rfl) rfl rfl rfl rfl (cs := [_]) rfl tS_4 tA_4 rfl rfl ?_
              refine wx_bin hok 35 rfl rfl rfl (freshS_eq rfl) rfl rfl rfl rfl (neqB _ _ y267 x271) ?_
              refine wx_pure hok 36 rfl rfl rfl (freshS_eq rfl) rfl rfl ?_
              refine wx_split (d := 274) (S' := [_,_,_,_,_,_,_,_,_,_,_,_,_,_,_,_,_,_,_,_,_,_,_,_,_,_,_,_,_,_,_,_,_,_,_,_,_,_,_,_,_,_,_,_,_,_,_,_,_,_,_,_,_,_,_,_,_,_,_,_,_]) rfl rfl (fun h274 => ?_) (fun h274 => ?_)
              ·
               replace h274 := bne_iff_ne.1 h274
               exfalso
               rw [hn3, hx271] at hy267
               exact h274 (Option.some.inj hy267).symm
              ·
               replace h274 := bne_eq_false_iff_eq.1 h274
               refine wx_fieldAddr hok 37 rfl rfl rfl (freshS_eq rfl) rfl rfl rfl tF_41_1 ?_
               refine wx_loadH hok 38 2 1 rfl rfl rfl (freshS_eq rfl) rfl rfl rfl rfl (cs := [_]) rfl tS_34 tA_34 rfl rfl ?_
               refine wx_pure hok 39 rfl rfl rfl (freshS_eq rfl) rfl rfl ?_
               refine wx_indexH hok 40 3 s2 rfl rfl rfl (freshS_eq rfl) rfl rfl rfl rfl rfl rfl (by omega) tE_34 tS_27 (fun g278 eg278 => ?_)
               subst eg278
               obtain ⟨y278, hy278⟩ : ∃ y, e61.vals[s2]? = some y := ⟨_, List.getElem?_eq_getElem (by omega)⟩
               refine wx_loadRow hok 41 vRep_opens 3 s2 0 rfl rfl rfl (freshS_eq rfl) rfl rfl rfl rfl hy278 tS_27 tA_27 (v := .agg #[.int .u8 (y278.k), .int .i64 (y278.n), .string y278.s]) rfl rfl (fun oky278 => ?_)
               refine wx_pure hok 42 rfl rfl rfl (freshS_eq rfl) rfl rfl ?_
               refine wx_pure hok 43 rfl rfl rfl (freshS_eq rfl) rfl rfl ?_
               refine wx_index hok 44 5 s2 rfl rfl rfl (freshS_eq rfl) rfl rfl rfl rfl rfl rfl (by omega) tE_34 tS_27 (fun b282 q282 cs282 x282 hx282 hlx282 => ?_)
               refine wx_openR vRep_opens 1 rfl (fun r282 er282 okx282 => ?_)
               subst er282
               refine wx_load hok 45 0 0 rfl rfl rfl (freshS_eq rfl) rfl rfl rfl rfl (cs := [_,_,_]) rfl tS_27 tA_27 rfl rfl ?_
               refine wx_bin hok 46 rfl rfl rfl (freshS_eq rfl) rfl rfl rfl rfl (neqV _ _ y278 x282) ?_
               refine wx_pure hok 47 rfl rfl rfl (freshS_eq rfl) rfl rfl ?_
               refine wx_pure hok 48 rfl rfl rfl (freshS_eq rfl) rfl rfl ?_
               refine wx_pure hok 49 rfl rfl rfl (freshS_eq rfl) rfl rfl ?_
               refine wx_done hok rfl ?_
               refine we_then ?_
               refine wc_keep [287, 23, 22, 229, 21, 119, 17, 16, 15, 14, 112, 65, 13, 12, 11, 50, 30, 10, 9, 6, 5, 0, 1, 2, 3, 4] (S' := [_,_,_,_,_,_,_,_,_,_,_,_,_,_,_,_,_,_,_,_,_,_,_,_,_,_]) rfl ?_
               refine wc_cond rfl (fun h287 => ?_) (fun h287 => ?_)
               ·
                replace h287 := nd_true h287
                exfalso
                rw [hn4, hx282] at hy278
                exact h287 (Option.some.inj hy278).symm
               ·
                replace h287 := nd_false h287
                refine wc_skip ?_
                refine we_block_normal ?_
                refine we_then ?_
                refine wc_region ?_
                refine wl_pure rfl rfl rfl (freshS_eq rfl) rfl ?_
                refine wl_pure rfl rfl rfl (freshS_eq rfl) rfl ?_
                refine wl_as (d := 231) (v' := .int .i64 ((s2 + 1 : Nat) : Int)) (S' := [_,_,_,_,_,_,_,_,_,_,_,_,_,_,_,_,_,_,_,_,_,_,_,_,_,_,_]) rfl rfl (nat_inc (by omega)) ?_
                refine wl_pure (S' := [_,_,_,_,_,_,_,_,_,_,_,_,_,_,_,_,_,_,_,_,_,_,_,_,_,_,_]) rfl rfl rfl rfl rfl ?_
                refine wl_nil ?_
                refine we_round (s2 + 1) (by omega) (by omega) [21, 119, 17, 16, 15, 14, 112, 65, 13, 12, 11, 50, 30, 10, 9, 6, 5, 0, 1, 2, 3, 4] rfl (fun _ _ hφ => ask [4, 5, 6, 7] rfl hφ) rfl
             ·
              refine wl_lookup (E := (mInt tU_3)) 1 rfl rfl rfl (freshS_eq rfl) rfl rfl rfl rfl tZ_3 tU_3 tM_44 (by unfold inI; omega) (v := .tuple #[.int .i64 kx235, .bool true]) (by rw [hk235]; rfl) ?_
              obtain ⟨m, hm1, hm2, hm3, hm4⟩ := (told hl hfit s2 (by omega)).1 _ (by rw [← hlast]; exact hk235)
              refine wl_pure rfl rfl rfl (freshS_eq rfl) rfl ?_
              refine wl_pure rfl rfl rfl (freshS_eq rfl) rfl ?_
              refine wl_pure rfl rfl rfl (freshS_eq rfl) rfl ?_
              refine wl_pure rfl rfl rfl (freshS_eq rfl) rfl ?_
              refine wl_pure rfl rfl rfl (freshS_eq rfl) rfl ?_
              refine wl_nil ?_
              refine we_then ?_
              refine wc_keep [23, 22, 229, 21, 119, 17, 16, 15, 14, 112, 65, 13, 12, 11, 50, 30, 10, 9, 6, 5, 0, 1, 2, 3, 4] (S' := [_,_,_,_,_,_,_,_,_,_,_,_,_,_,_,_,_,_,_,_,_,_,_,_,_]) rfl ?_
              refine wc_seq ?_
              refine wc_draw [0, 1, 2, 3, 4, 5, 6, 7, 8, 9, 10, 11, 12, 13, 14, 15, 16, 17, 18, 19, 20, 21, 22, 23, 24, 25, 26, 27, 28, 29, 30, 31, 32, 33, 34, 35, 36, 37, 38, 39, 40, 41, 42, 43, 44, 45, 46, 47, 48, 49] rfl rfl (fun hok => ?_)
              refine wx_pure hok 0 rfl rfl rfl (freshS_eq rfl) rfl rfl ?_
              refine wx_pure hok 1 rfl rfl rfl (freshS_eq rfl) rfl rfl ?_
              refine wx_fieldAddr hok 2 rfl rfl rfl (freshS_eq rfl) rfl rfl rfl tF_41_0 ?_
              refine wx_loadH hok 3 2 0 rfl rfl rfl (freshS_eq rfl) rfl rfl rfl rfl (cs := [_]) rfl tS_37 tA_37 rfl rfl ?_
              refine wx_pure hok 4 rfl rfl rfl (freshS_eq rfl) rfl rfl ?_
              refine wx_indexH hok 5 4 s2 rfl rfl rfl (freshS_eq rfl) rfl rfl rfl rfl rfl rfl (by omega) tE_37 tS_4 (fun g243 eg243 => ?_)
              subst eg243
              obtain ⟨y243, hy243⟩ : ∃ y, e61.has[s2]? = some y := ⟨_, List.getElem?_eq_getElem (by omega)⟩
              refine wx_loadRow hok 6 bRep_opens 4 s2 0 rfl rfl rfl (freshS_eq rfl) rfl rfl rfl rfl hy243 tS_4 tA_4 (v := .bool y243) rfl rfl (fun oky243 => ?_)
              refine wx_pure hok 7 rfl rfl rfl (freshS_eq rfl) rfl rfl ?_
              refine wx_pure hok 8 rfl rfl rfl (freshS_eq rfl) rfl rfl ?_
              refine wx_split (d := 246) (S' := [_,_,_,_,_,_,_,_,_,_,_,_,_,_,_,_,_,_,_,_,_,_,_,_,_,_,_,_,_,_,_,_,_]) rfl rfl (fun h246 => ?_) (fun h246 => ?_)
              ·
               replace h246 := not_true h246
               exfalso
               rw [hm3] at hy243
               cases hy243
               cases h246
              ·
               replace h246 := not_false_ h246
               refine wx_fieldAddr hok 9 rfl rfl rfl (freshS_eq rfl) rfl rfl rfl tF_41_1 ?_
               refine wx_loadH hok 10 2 1 rfl rfl rfl (freshS_eq rfl) rfl rfl rfl rfl (cs := [_]) rfl tS_34 tA_34 rfl rfl ?_
               refine wx_pure hok 11 rfl rfl rfl (freshS_eq rfl) rfl rfl ?_
               refine wx_indexH hok 12 3 s2 rfl rfl rfl (freshS_eq rfl) rfl rfl rfl rfl rfl rfl (by omega) tE_34 tS_27 (fun g250 eg250 => ?_)
               subst eg250
               obtain ⟨y250, hy250⟩ : ∃ y, e61.vals[s2]? = some y := ⟨_, List.getElem?_eq_getElem (by omega)⟩
               refine wx_loadRow hok 13 vRep_opens 3 s2 0 rfl rfl rfl (freshS_eq rfl) rfl rfl rfl rfl hy250 tS_27 tA_27 (v := .agg #[.int .u8 (y250.k), .int .i64 (y250.n), .string y250.s]) rfl rfl (fun oky250 => ?_)
               refine wx_fieldAddr hok 14 rfl rfl rfl (freshS_eq rfl) rfl rfl rfl tF_36_2 ?_
               refine wx_loadH hok 15 9 2 rfl rfl rfl (freshS_eq rfl) rfl rfl rfl rfl (cs := [_]) rfl tS_34 tA_34 rfl rfl ?_
               refine wx_pure hok 16 rfl rfl rfl (freshS_eq rfl) rfl rfl ?_
               refine wx_index hok 17 1 m rfl rfl rfl (freshS_eq rfl) rfl rfl rfl rfl rfl hm1 (by omega) tE_34 tS_27 (fun b255 q255 cs255 x255 hx255 hlx255 => ?_)
               refine wx_openR vRep_opens 1 rfl (fun r255 er255 okx255 => ?_)
               subst er255
               refine wx_load hok 18 0 0 rfl rfl rfl (freshS_eq rfl) rfl rfl rfl rfl (cs := [_,_,_]) rfl tS_27 tA_27 rfl rfl ?_
               refine wx_bin hok 19 rfl rfl rfl (freshS_eq rfl) rfl rfl rfl rfl (neqV _ _ y250 x255) ?_
               refine wx_pure hok 20 rfl rfl rfl (freshS_eq rfl) rfl rfl ?_
               refine wx_pure hok 21 rfl rfl rfl (freshS_eq rfl) rfl rfl ?_
               refine wx_pure hok 22 rfl rfl rfl (freshS_eq rfl) rfl rfl ?_
               refine wx_split (d := 260) (S' := [_,_,_,_,_,_,_,_,_,_,_,_,_,_,_,_,_,_,_,_,_,_,_,_,_,_,_,_,_,_,_,_,_,_,_,_,_,_,_,_,_,_,_,_,_,_,_]) rfl rfl (fun h260 => ?_) (fun h260 => ?_)
               ·
                replace h260 := nd_true h260
                exfalso
                rw [hm4] at hy250
                rw [hx255] at hy250
                exact h260 (Option.some.inj hy250).symm
               ·
                replace h260 := nd_false h260
                refine wx_pure hok 23 rfl rfl rfl (freshS_eq rfl) rfl rfl ?_
                refine wx_pure hok 24 rfl rfl rfl (freshS_eq rfl) rfl rfl ?_
                refine wx_pure hok 25 rfl rfl rfl (freshS_eq rfl) rfl rfl ?_
                refine wx_off hok 26 rfl rfl rfl (freshS_eq rfl) rfl ?_
                refine wx_off hok 27 rfl rfl rfl (freshS_eq rfl) rfl ?_
                refine wx_off hok 28 rfl rfl rfl (freshS_eq rfl) rfl ?_
                refine wx_off hok 29 rfl rfl rfl (freshS_eq rfl) rfl ?_
                refine wx_off hok 30 rfl rfl rfl (freshS_eq rfl) rfl ?_
                refine wx_off hok 31 rfl rfl rfl (freshS_eq rfl) rfl ?_
                refine wx_off hok 32 rfl rfl rfl (freshS_eq rfl) rfl ?_
                refine wx_off hok 33 rfl rfl rfl (freshS_eq rfl) rfl ?_
                refine wx_off hok 34 rfl rfl rfl (freshS_eq rfl) rfl ?_
                refine wx_off hok 35 rfl rfl rfl (freshS_eq rfl) rfl ?_
                refine wx_off hok 36 rfl rfl rfl (freshS_eq rfl) rfl ?_
                refine wx_off hok 37 rfl rfl rfl (freshS_eq rfl) rfl ?_
                refine wx_off hok 38 rfl rfl rfl (freshS_eq rfl) rfl ?_
                refine wx_off hok 39 rfl rfl rfl (freshS_eq rfl) rfl ?_
                refine wx_off hok 40 rfl rfl rfl (freshS_eq rfl) rfl ?_
                refine wx_off hok 41 rfl rfl rfl (freshS_eq rfl) rfl ?_
                refine wx_off hok 42 rfl rfl rfl (freshS_eq rfl) rfl ?_
                refine wx_off hok 43 rfl rfl rfl (freshS_eq rfl) rfl ?_
                refine wx_off hok 44 rfl rfl rfl (freshS_eq rfl) rfl ?_
                refine wx_off hok 45 rfl rfl rfl (freshS_eq rfl) rfl ?_
                refine wx_off hok 46 rfl rfl rfl (freshS_eq rfl) rfl ?_
                refine wx_off hok 47 rfl rfl rfl (freshS_eq rfl) rfl ?_
                refine wx_pure hok 48 rfl rfl rfl (freshS_eq rfl) rfl rfl ?_
                refine wx_pure hok 49 rfl rfl rfl (freshS_eq rfl) rfl rfl ?_
                refine wx_done hok rfl ?_
                refine we_then ?_
                refine wc_keep [287, 23, 22, 229, 21, 119, 17, 16, 15, 14, 112, 65, 13, 12, 11, 50, 30, 10, 9, 6, 5, 0, 1, 2, 3, 4] (S' := [_,_,_,_,_,_,_,_,_,_,_,_,_,_,_,_,_,_,_,_,_,_,_,_,_,_]) rfl ?_
                refine wc_false rfl ?_
                refine wc_skip ?_
                refine we_block_normal ?_
                refine we_then ?_
                refine wc_region ?_
                refine wl_pure rfl rfl rfl (freshS_eq rfl) rfl ?_
                refine wl_pure rfl rfl rfl (freshS_eq rfl) rfl ?_
                refine wl_as (d := 231) (v' := .int .i64 ((s2 + 1 : Nat) : Int)) (S' := [_,_,_,_,_,_,_,_,_,_,_,_,_,_,_,_,_,_,_,_,_,_,_,_,_,_,_]) rfl rfl (nat_inc (by omega)) ?_
                refine wl_pure (S' := [_,_,_,_,_,_,_,_,_,_,_,_,_,_,_,_,_,_,_,_,_,_,_,_,_,_,_]) rfl rfl rfl rfl rfl ?_
                refine wl_nil ?_
                refine we_round (s2 + 1) (by omega) (by omega) [21, 119, 17, 16, 15, 14, 112, 65, 13, 12, 11, 50, 30, 10, 9, 6, 5, 0, 1, 2, 3, 4] rfl (fun _ _ hφ => ask [2, 3, 4, 5] rfl hφ) rfl
            ·
             replace h229 := of_decide_eq_false h229
             obtain ⟨hw310, hv310⟩ : Made (has ++ [true]) (vals ++ [v0]) ∧ fitTo c.args f.args (has ++ [true]) (vals ++ [v0]) c.args.length = some (e61.has ++ [true], e61.vals ++ [v0]) := ⟨made_wide hmade v0, fit_wide hl v0 hfit⟩
             refine wc_exit ?_
             refine we_then_exit ?_
             refine we_then_exit ?_
             refine we_block_hit ?_
             refine we_then ?_
             refine wc_seq ?_
             refine wc_region ?_
             refine wl_loadH 10 0 rfl rfl rfl (freshS_eq rfl) rfl rfl rfl (cs := [_,_,_,_,_,_,_,_,_,_]) rfl tS_33 tA_33 rfl rfl ?_
             refine wl_loadH 9 0 rfl rfl rfl (freshS_eq rfl) rfl rfl rfl (cs := [_,_,_]) rfl tS_36 tA_36 rfl rfl ?_
             refine wl_loadH 2 0 rfl rfl rfl (freshS_eq rfl) rfl rfl rfl (cs := [_,_]) rfl tS_41 tA_41 rfl rfl ?_
             refine wl_lend [] [0, 1, 2, 3, 4, 5, 6, 7, 8, 9, 10] [3, 4] rfl rfl rfl (freshS_eq rfl) rfl rfl fn_7 rfl (Match_s _ _ _ _ _ _ _ _ _ _ _ _ _ _ _ ⟨c.k, c.ty, c.args⟩ ⟨f.id, f.ty, f.args⟩ e61.has e61.vals (by first | omega | (simp; omega)) (by first | omega | (simp; omega))) (fun F w hφ hh => (ask_cons (hφ _ (mem_at (k := 0) rfl)) (ask_cons (hφ _ (mem_at (k := 1) rfl)) (ask_cons (own_sli (hh _ (mem_at (k := 1) rfl))) (ask_cons (own_sli (hh _ (mem_at (k := 0) rfl))) ask_nil))))) (fun _ _ _ hR => by rcases hR with ⟨r292, e292, p292, c292, p292_2, c292_2, rfl, hmr292, rfl, rfl⟩ <;> exact ⟨rfl, by simp [own_free, blk_free, vRep_free, bRep_free, iRep_free, aRep_free]⟩) rfl rfl (H' := [_,_,_,_,_,_,_,_,_,_,_]) rfl ?_
             rintro _ _ _ ⟨r292, e292, p292, c292, p292_2, c292_2, rfl, hmr292, rfl, rfl⟩
             refine wl_pure rfl rfl rfl (freshS_eq rfl) rfl ?_
             refine wl_pure rfl rfl rfl (freshS_eq rfl) rfl ?_
             refine wl_pure rfl rfl rfl (freshS_eq rfl) rfl ?_
             refine wl_alloc rfl rfl rfl (freshS_eq rfl) rfl tZ_41 rfl (fun g24 => ?_)
             refine wl_store 0 0 rfl rfl rfl rfl rfl rfl rfl tS_41 rfl rfl rfl (all' := [_,_]) rfl (H' := [_,_,_,_,_,_,_,_,_,_,_,_,_,_]) rfl ?_
             refine wl_pure rfl rfl rfl (freshS_eq rfl) rfl ?_
             refine wl_nil ?_
             refine we_then ?_
             refine wc_keep [25, 24, 229, 21, 119, 17, 16, 15, 14, 112, 65, 13, 12, 11, 50, 30, 10, 9, 6, 5, 0, 1, 2, 3, 4] (S' := [_,_,_,_,_,_,_,_,_,_,_,_,_,_,_,_,_,_,_,_,_,_,_,_,_]) rfl ?_
             refine wc_seq ?_
             refine wc_draw [1, 5, 7, 10] rfl rfl (fun hok => ?_)
             refine wx_memo (σ := Nat × Option Addr × Nat × Nat × Option Addr × Nat × Option Addr × Nat × Nat × Option Addr × Nat × Nat) (fun (g295, p297, c297, g298, p299, c299, p301, c301, g303, p304, c304, g26) => True) [11, 10, 9, 8, 6, 4, 3, 2, 0, 7, 5, 1] (fun (g295, p297, c297, g298, p299, c299, p301, c301, g303, p304, c304, g26) => [(7, .blk g9 [.int .u8 (v0.k), .int .i64 (v0.n), .string v0.s] 27)]) (fun (g295, p297, c297, g298, p299, c299, p301, c301, g303, p304, c304, g26) => [.sli 5 aRep pa ca c.args, .sli 3 vRep px cx f.args, .sli 1 bRep p1 c1 has, .sli 3 vRep p2 c2 vals]) (fun (g295, p297, c297, g298, p299, c299, p301, c301, g303, p304, c304, g26) => [.blk g26 [.slice none 0 0, .slice none 0 0] 41, .own 27 3 vRep (.slice p304 ((vals ++ [v0]).length) c304) (vals ++ [v0]), .own 4 1 bRep (.slice p299 ((has ++ [true]).length) c299) (has ++ [true]), .blk g24 [.slice p292 e292.has.length c292, .slice p292_2 e292.vals.length c292_2] 41, .own 27 3 vRep (.slice p292_2 e292.vals.length c292_2) e292.vals, .own 4 1 bRep (.slice p292 e292.has.length c292) e292.has, mapF Try.prog 3 4 (mBool tU_4) g114 s1.2.2.1 s1.2.2.2.2.1, mapF Try.prog 3 3 (mInt tU_3) g113 s1.2.1 s1.2.2.2.1, .blk g12 [.slice p61 e61.has.length c61, .slice p61_2 e61.vals.length c61_2] 41, .own 27 3 vRep (.slice p61_2 e61.vals.length c61_2) e61.vals, .own 4 1 bRep (.slice p61 e61.has.length c61) e61.has, .blk g11 [.slice p53 (has).length c53, .slice p55 vals.length c55] 41, .own 27 3 vRep (.slice p55 vals.length c55) vals, .own 4 1 bRep (.slice p53 (has).length c53) has, .blk g9 [.int .u8 (v0.k), .int .i64 (v0.n), .string v0.s] 27, .blk g6 [.int .i64 (f.id), .int .i64 (f.ty), .slice px f.args.length cx] 36, .blk g5 [.int .u8 (c.k), .int .i64 (c.ty), .slice pa c.args.length ca, t0, t1, t2, t3, t4, t5, t6] 33]) (fun (g295, p297, c297, g298, p299, c299, p301, c301, g303, p304, c304, g26) => [(26, .pointer (some ⟨g26, 0, none⟩)), (305, .agg #[.slice p299 ((has ++ [true]).length) c299, .slice p304 ((vals ++ [v0]).length) c304]), (25, .bool r292), (24, .pointer (some ⟨g24, 0, none⟩)), (229, .bool (decide (((s2 : Nat) : Int) < ((has.length : Nat) : Int)))), (21, .int .i64 ((s2 : Nat) : Int)), (119, .bool (decide (((s1.1 : Nat) : Int) < ((c.args.length : Nat) : Int)))), (17, .int .i64 ((s1.1 : Nat) : Int)), (16, .map (some g114)), (15, .bool (s1.2.2.2.2.2)), (14, .map (some g113)), (112, .bool (c.ty != f.ty)), (65, .bool (!r61)), (13, .bool r61), (12, .pointer (some ⟨g12, 0, none⟩)), (11, .pointer (some ⟨g11, 0, none⟩)), (50, .bool (decide (((vals.length : Nat) : Int) > 2000))), (30, .bool false), (10, .bool false), (9, .pointer (some ⟨g9, 0, none⟩)), (6, .pointer (some ⟨g6, 0, none⟩)), (5, .pointer (some ⟨g5, 0, none⟩)), (0, .agg #[.int .u8 (c.k), .int .i64 (c.ty), .slice pa c.args.length ca, t0, t1, t2, t3, t4, t5, t6]), (1, .agg #[.int .i64 (f.id), .int .i64 (f.ty), .slice px f.args.length cx]), (2, .slice p1 has.length c1), (3, .slice p2 vals.length c2), (4, .agg #[.int .u8 (v0.k), .int .i64 (v0.n), .string v0.s])]) ?_ (fun m0_37 => ?_)
             ·
              rintro ⟨g295, p297, c297, g298, p299, c299, p301, c301, g303, p304, c304, g26⟩ _
              try dsimp only
              refine wx_step1 hok 12 rfl rfl rfl rfl ?_
              refine wl_store 0 0 rfl rfl rfl rfl rfl rfl rfl tS_41 rfl rfl rfl (all' := [_,_]) rfl (H' := [_,_,_,_,_,_,_,_,_,_,_,_,_,_,_,_,_]) rfl ?_
              refine wl_nil ?_
              refine we_x [0, 1, 2, 3] [] rfl rfl ?_
              refine wx_done hok rfl ?_
              refine we_then ?_
              refine wc_keep [26, 25, 24, 229, 21, 119, 17, 16, 15, 14, 112, 65, 13, 12, 11, 50, 30, 10, 9, 6, 5, 0, 1, 2, 3, 4] (S' := [_,_,_,_,_,_,_,_,_,_,_,_,_,_,_,_,_,_,_,_,_,_,_,_,_,_]) rfl ?_
              refine wc_seq ?_
              refine wc_region ?_
              refine wl_loadH 16 0 rfl rfl rfl (freshS_eq rfl) rfl rfl rfl (cs := [_,_,_,_,_,_,_,_,_,_]) rfl tS_33 tA_33 rfl rfl ?_
              refine wl_loadH 15 0 rfl rfl rfl (freshS_eq rfl) rfl rfl rfl (cs := [_,_,_]) rfl tS_36 tA_36 rfl rfl ?_
              refine wl_loadH 0 0 rfl rfl rfl (freshS_eq rfl) rfl rfl rfl (cs := [_,_]) rfl tS_41 tA_41 rfl rfl ?_
              refine wl_lend [] [0, 1, 2, 3, 4, 5, 6, 7, 8, 9, 10, 11, 12, 13, 14, 15, 16] [1, 2] rfl rfl rfl (freshS_eq rfl) rfl rfl fn_7 rfl (Match_s _ _ _ _ _ _ _ _ _ _ _ _ _ _ _ ⟨c.k, c.ty, c.args⟩ ⟨f.id, f.ty, f.args⟩ (has ++ [true]) (vals ++ [v0]) (by first | omega | (simp; omega)) (by first | omega | (simp; omega))) (fun F w hφ hh => (ask_cons (hφ _ (mem_at (k := 0) rfl)) (ask_cons (hφ _ (mem_at (k := 1) rfl)) (ask_cons (own_sli (hh _ (mem_at (k := 1) rfl))) (ask_cons (own_sli (hh _ (mem_at (k := 0) rfl))) ask_nil))))) (fun _ _ _ hR => by rcases hR with ⟨r310, e310, p310, c310, p310_2, c310_2, rfl, hmr310, rfl, rfl⟩ <;> exact ⟨rfl, by simp [own_free, blk_free, vRep_free, bRep_free, iRep_free, aRep_free]⟩) rfl rfl (H' := [_,_,_,_,_,_,_,_,_,_,_,_,_,_,_,_,_]) rfl ?_
              rintro _ _ _ ⟨r310, e310, p310, c310, p310_2, c310_2, rfl, hmr310, rfl, rfl⟩
              refine wl_pure rfl rfl rfl (freshS_eq rfl) rfl ?_
              refine wl_pure rfl rfl rfl (freshS_eq rfl) rfl ?_
              refine wl_pure rfl rfl rfl (freshS_eq rfl) rfl ?_
              refine wl_alloc rfl rfl rfl (freshS_eq rfl) rfl tZ_41 rfl (fun g27 => ?_)
              refine wl_store 0 0 rfl rfl rfl rfl rfl rfl rfl tS_41 rfl rfl rfl (all' := [_,_]) rfl (H' := [_,_,_,_,_,_,_,_,_,_,_,_,_,_,_,_,_,_,_,_]) rfl ?_
              refine wl_pure rfl rfl rfl (freshS_eq rfl) rfl ?_
              refine wl_nil ?_
              refine we_then ?_
              refine wc_keep [28, 27, 26, 25, 24, 229, 21, 119, 17, 16, 15, 14, 112, 65, 13, 12, 11, 50, 30, 10, 9, 6, 5, 0, 1, 2, 3, 4] (S' := [_,_,_,_,_,_,_,_,_,_,_,_,_,_,_,_,_,_,_,_,_,_,_,_,_,_,_,_]) rfl ?_
              refine wc_seq ?_
              refine wc_draw [0, 1, 2, 3, 4, 5, 6, 7, 9, 10, 11, 12, 13, 14, 15, 16, 17, 18, 19, 20, 21, 22, 23, 24, 25, 26, 27, 29, 30, 32] rfl rfl (fun hok => ?_)
              refine wx_pure hok 0 rfl rfl rfl (freshS_eq rfl) rfl rfl ?_
              refine wx_pure hok 1 rfl rfl rfl (freshS_eq rfl) rfl rfl ?_
              refine wx_split (d := 314) (S' := [_,_,_,_,_,_,_,_,_,_,_,_,_,_,_,_,_,_,_,_,_,_,_,_,_,_,_,_,_]) rfl rfl (fun h314 => ?_) (fun h314 => ?_)
              ·
               obtain ⟨hr310, he310⟩ := hmr310.is (match_mk hck hty hla hw310 hv310)
               refine wx_off hok 2 rfl rfl rfl (freshS_eq rfl) rfl ?_
               refine wx_off hok 3 rfl rfl rfl (freshS_eq rfl) rfl ?_
               refine wx_off hok 4 rfl rfl rfl (freshS_eq rfl) rfl ?_
               refine wx_off hok 5 rfl rfl rfl (freshS_eq rfl) rfl ?_
               refine wx_off hok 6 rfl rfl rfl (freshS_eq rfl) rfl ?_
               refine wx_off hok 7 rfl rfl rfl (freshS_eq rfl) rfl ?_
               refine wx_step1 hok 8 rfl rfl rfl rfl ?_
               refine wl_off rfl rfl rfl (freshS_eq rfl) ?_
               refine wl_nil ?_
               refine we_x [0, 1, 2, 3] [] rfl rfl ?_
               refine wx_off hok 9 rfl rfl rfl (freshS_eq rfl) rfl ?_
               refine wx_pure hok 10 rfl rfl rfl (freshS_eq rfl) rfl rfl ?_
               refine wx_pure hok 11 rfl rfl rfl (freshS_eq rfl) rfl rfl ?_
               refine wx_pure hok 12 rfl rfl rfl (freshS_eq rfl) rfl rfl ?_
               refine wx_pure hok 13 rfl rfl rfl (freshS_eq rfl) rfl rfl ?_
               refine wx_pure hok 14 rfl rfl rfl (freshS_eq rfl) rfl rfl ?_
               refine wx_split (d := 327) (S' := [_,_,_,_,_,_,_,_,_,_,_,_,_,_,_,_,_,_,_,_,_,_,_,_,_,_,_,_,_,_,_,_,_,_,_,_,_,_,_,_,_,_]) rfl rfl (fun h327 => ?_) (fun h327 => ?_)
               ·
                refine wx_fieldAddr hok 15 rfl rfl rfl (freshS_eq rfl) rfl rfl rfl tF_41_1 ?_
                refine wx_loadH hok 16 0 1 rfl rfl rfl (freshS_eq rfl) rfl rfl rfl rfl (cs := [_]) rfl tS_34 tA_34 rfl rfl ?_
                refine wx_len hok 17 rfl rfl rfl (freshS_eq rfl) rfl rfl rfl tE_34 ?_
                refine wx_pure hok 18 rfl rfl rfl (freshS_eq rfl) rfl rfl ?_
                refine wx_len hok 19 rfl rfl rfl (freshS_eq rfl) rfl rfl rfl tE_34 ?_
                refine wx_pure hok 20 rfl rfl rfl (freshS_eq rfl) rfl rfl ?_
                refine wx_as (d := 333) (v' := .int .i64 ((vals.length + 1 : Nat) : Int)) (S' := [_,_,_,_,_,_,_,_,_,_,_,_,_,_,_,_,_,_,_,_,_,_,_,_,_,_,_,_,_,_,_,_,_,_,_,_,_,_,_,_,_,_,_,_,_,_,_,_]) rfl rfl (nat_inc (by omega)) ?_
                refine wx_pure hok 21 rfl rfl rfl (freshS_eq rfl) rfl rfl ?_
                refine wx_pure hok 22 rfl rfl rfl (freshS_eq rfl) rfl rfl ?_
                refine wx_pure hok 23 rfl rfl rfl (freshS_eq rfl) rfl rfl ?_
                refine wx_split (d := 336) (S' := [_,_,_,_,_,_,_,_,_,_,_,_,_,_,_,_,_,_,_,_,_,_,_,_,_,_,_,_,_,_,_,_,_,_,_,_,_,_,_,_,_,_,_,_,_,_,_,_,_,_,_]) rfl rfl (fun h336 => ?_) (fun h336 => ?_)
                ·
                 replace h336 := eq_of_beq h336
                 refine wx_fieldAddr hok 24 rfl rfl rfl (freshS_eq rfl) rfl rfl rfl tF_41_1 ?_
                 refine wx_loadH hok 25 0 1 rfl rfl rfl (freshS_eq rfl) rfl rfl rfl rfl (cs := [_]) rfl tS_34 tA_34 rfl rfl ?_
                 refine wx_pure hok 26 rfl rfl rfl (freshS_eq rfl) rfl rfl ?_
                 refine wx_len hok 27 rfl rfl rfl (freshS_eq rfl) rfl rfl rfl tE_34 ?_
                 refine wx_fieldAddr hok 29 rfl rfl rfl (freshS_eq rfl) rfl rfl rfl tF_41_1 ?_
                 refine wx_loadH hok 30 11 1 rfl rfl rfl (freshS_eq rfl) rfl rfl rfl rfl (cs := [_]) rfl tS_34 tA_34 rfl rfl ?_
                 refine wx_step1 hok 28 rfl rfl rfl rfl ?_
                 refine wl_ownSpot 1 rfl (fun hsp hcm => ?_)
                 refine wl_sliceTo rfl rfl rfl (freshS_eq rfl) rfl rfl rfl rfl tE_34 tS_27 (by omega) hsp ?_
                 refine wl_as (d := 341) (v' := .slice p310_2 ((e310.vals.take vals.length).length) c310_2) (S' := [_,_,_,_,_,_,_,_,_,_,_,_,_,_,_,_,_,_,_,_,_,_,_,_,_,_,_,_,_,_,_,_,_,_,_,_,_,_,_,_,_,_,_,_,_,_,_,_,_,_,_,_,_,_,_,_,_,_]) rfl rfl (by rw [List.length_take]; congr 1; omega) ?_
                 refine wl_nil ?_
                 refine we_x [0, 1, 2, 3] [11, 0] rfl rfl ?_
                 refine wx_step1 hok 31 rfl rfl rfl rfl ?_
                 refine wl_lend [] [0, 1, 2, 3, 4, 5, 6, 7, 8, 9, 10, 11, 12, 13, 14, 15, 16, 17, 18, 19] [12, 1] rfl rfl rfl (freshS_eq rfl) rfl rfl fn_8 rfl (SameValues_s _ _ _ _ (e310.vals.take vals.length) e61.vals) (fun F w hφ hh => (ask_cons (own_take (hh _ (mem_at (k := 1) rfl)) vals.length) (ask_cons (own_sli (hh _ (mem_at (k := 0) rfl))) ask_nil))) (fun _ _ _ hR => by rcases hR with ⟨rfl, rfl, rfl⟩ <;> exact ⟨rfl, by simp [own_free, blk_free, vRep_free, bRep_free, iRep_free, aRep_free]⟩) rfl rfl (H' := [_,_,_,_,_,_,_,_,_,_,_,_,_,_,_,_,_,_,_,_]) rfl ?_
                 rintro _ _ _ ⟨rfl, rfl, rfl⟩
                 refine wl_nil ?_
                 refine we_x [0, 1, 2, 3] [0, 0] rfl rfl ?_
                 refine wx_pure hok 32 rfl rfl rfl (freshS_eq rfl) rfl rfl ?_
                 refine wx_step1 hok 33 rfl rfl rfl rfl ?_
                 refine wl_pure (S' := [_,_,_,_,_,_,_,_,_,_,_,_,_,_,_,_,_,_,_,_,_,_,_,_,_,_,_,_,_,_,_,_,_,_,_,_,_,_,_,_,_,_,_,_,_,_,_,_,_,_,_,_,_,_,_,_,_,_,_,_]) rfl rfl rfl rfl rfl ?_
                 refine wl_nil ?_
                 refine we_x [0, 1, 2, 3] [] rfl rfl ?_
                 refine wx_done hok rfl ?_
                 refine we_then ?_
                 refine wc_keep [10, 28, 27, 26, 25, 24, 229, 21, 119, 17, 16, 15, 14, 112, 65, 13, 12, 11, 50, 30, 9, 6, 5, 0, 1, 2, 3, 4] (S' := [_,_,_,_,_,_,_,_,_,_,_,_,_,_,_,_,_,_,_,_,_,_,_,_,_,_,_,_]) rfl ?_
                 refine wc_ret ?_
                 refine ret_one (Hr := []) [] Try.results3 (res_tmp rfl) ?_ (fun _ _ hφ => ask [] rfl hφ) rfl rfl (.inl rfl)
                 exact ⟨congrArg Value.bool (decide_eq_true (by rw [he310]; exact take_wide (by omega))), rfl, rfl⟩
                ·
                 replace h336 := ne_of_beq_false h336
                 exfalso
                 exact h336 (by rw [he310]; simp; omega)
               ·
                exfalso
                rw [hr310] at h327
                cases h327
              ·
               obtain ⟨hr292, he292⟩ := hmr292.is (match_mk hck hty hla (made_to hmade hfit) (fit_again hl rfl hfit (by rw [← hlate]; exact h314)))
               refine wx_pure hok 2 rfl rfl rfl (freshS_eq rfl) rfl rfl ?_
               refine wx_pure hok 3 rfl rfl rfl (freshS_eq rfl) rfl rfl ?_
               refine wx_split (d := 316) (S' := [_,_,_,_,_,_,_,_,_,_,_,_,_,_,_,_,_,_,_,_,_,_,_,_,_,_,_,_,_,_,_]) rfl rfl (fun h316 => ?_) (fun h316 => ?_)
               ·
                refine wx_fieldAddr hok 4 rfl rfl rfl (freshS_eq rfl) rfl rfl rfl tF_41_1 ?_
                refine wx_loadH hok 5 6 1 rfl rfl rfl (freshS_eq rfl) rfl rfl rfl rfl (cs := [_]) rfl tS_34 tA_34 rfl rfl ?_
                refine wx_fieldAddr hok 6 rfl rfl rfl (freshS_eq rfl) rfl rfl rfl tF_41_1 ?_
                refine wx_loadH hok 7 11 1 rfl rfl rfl (freshS_eq rfl) rfl rfl rfl rfl (cs := [_]) rfl tS_34 tA_34 rfl rfl ?_
                refine wx_step1 hok 8 rfl rfl rfl rfl ?_
                refine wl_lend [] [0, 1, 2, 3, 4, 5, 6, 7, 8, 9, 10, 11, 12, 13, 14, 15, 16, 17, 18, 19] [12, 7] rfl rfl rfl (freshS_eq rfl) rfl rfl fn_8 rfl (SameValues_s _ _ _ _ e292.vals e61.vals) (fun F w hφ hh => (ask_cons (own_sli (hh _ (mem_at (k := 1) rfl))) (ask_cons (own_sli (hh _ (mem_at (k := 0) rfl))) ask_nil))) (fun _ _ _ hR => by rcases hR with ⟨rfl, rfl, rfl⟩ <;> exact ⟨rfl, by simp [own_free, blk_free, vRep_free, bRep_free, iRep_free, aRep_free]⟩) rfl rfl (H' := [_,_,_,_,_,_,_,_,_,_,_,_,_,_,_,_,_,_,_,_]) rfl ?_
                rintro _ _ _ ⟨rfl, rfl, rfl⟩
                refine wl_nil ?_
                refine we_x [0, 1, 2, 3] [] rfl rfl ?_
                refine wx_pure hok 9 rfl rfl rfl (freshS_eq rfl) rfl rfl ?_
                refine wx_pure hok 10 rfl rfl rfl (freshS_eq rfl) rfl rfl ?_
                refine wx_pure hok 11 rfl rfl rfl (freshS_eq rfl) rfl rfl ?_
                refine wx_split (d := 324) (S' := [_,_,_,_,_,_,_,_,_,_,_,_,_,_,_,_,_,_,_,_,_,_,_,_,_,_,_,_,_,_,_,_,_,_,_,_,_,_,_]) rfl rfl (fun h324 => ?_) (fun h324 => ?_)
                ·
                 replace h324 := of_decide_eq_true h324
                 obtain ⟨hr310, he310⟩ := hmr310.is (match_mk hck hty hla hw310 hv310)
                 refine wx_pure hok 12 rfl rfl rfl (freshS_eq rfl) rfl rfl ?_
                 refine wx_pure hok 13 rfl rfl rfl (freshS_eq rfl) rfl rfl ?_
                 refine wx_pure hok 14 rfl rfl rfl (freshS_eq rfl) rfl rfl ?_
                 refine wx_split (d := 327) (S' := [_,_,_,_,_,_,_,_,_,_,_,_,_,_,_,_,_,_,_,_,_,_,_,_,_,_,_,_,_,_,_,_,_,_,_,_,_,_,_,_,_,_]) rfl rfl (fun h327 => ?_) (fun h327 => ?_)
                 ·
                  refine wx_fieldAddr hok 15 rfl rfl rfl (freshS_eq rfl) rfl rfl rfl tF_41_1 ?_
                  refine wx_loadH hok 16 0 1 rfl rfl rfl (freshS_eq rfl) rfl rfl rfl rfl (cs := [_]) rfl tS_34 tA_34 rfl rfl ?_
                  refine wx_len hok 17 rfl rfl rfl (freshS_eq rfl) rfl rfl rfl tE_34 ?_
                  refine wx_pure hok 18 rfl rfl rfl (freshS_eq rfl) rfl rfl ?_
                  refine wx_len hok 19 rfl rfl rfl (freshS_eq rfl) rfl rfl rfl tE_34 ?_
                  refine wx_pure hok 20 rfl rfl rfl (freshS_eq rfl) rfl rfl ?_
                  refine wx_as (d := 333) (v' := .int .i64 ((vals.length + 1 : Nat) : Int)) (S' := [_,_,_,_,_,_,_,_,_,_,_,_,_,_,_,_,_,_,_,_,_,_,_,_,_,_,_,_,_,_,_,_,_,_,_,_,_,_,_,_,_,_,_,_,_,_,_,_]) rfl rfl (nat_inc (by omega)) ?_
                  refine wx_pure hok 21 rfl rfl rfl (freshS_eq rfl) rfl rfl ?_
                  refine wx_pure hok 22 rfl rfl rfl (freshS_eq rfl) rfl rfl ?_
                  refine wx_pure hok 23 rfl rfl rfl (freshS_eq rfl) rfl rfl ?_
                  refine wx_split (d := 336) (S' := [_,_,_,_,_,_,_,_,_,_,_,_,_,_,_,_,_,_,_,_,_,_,_,_,_,_,_,_,_,_,_,_,_,_,_,_,_,_,_,_,_,_,_,_,_,_,_,_,_,_,_]) rfl rfl (fun h336 => ?_) (fun h336 => ?_)
                  ·
                   replace h336 := eq_of_beq h336
                   refine wx_fieldAddr hok 24 rfl rfl rfl (freshS_eq rfl) rfl rfl rfl tF_41_1 ?_
                   refine wx_loadH hok 25 0 1 rfl rfl rfl (freshS_eq rfl) rfl rfl rfl rfl (cs := [_]) rfl tS_34 tA_34 rfl rfl ?_
                   refine wx_pure hok 26 rfl rfl rfl (freshS_eq rfl) rfl rfl ?_
                   refine wx_len hok 27 rfl rfl rfl (freshS_eq rfl) rfl rfl rfl tE_34 ?_
                   refine wx_fieldAddr hok 29 rfl rfl rfl (freshS_eq rfl) rfl rfl rfl tF_41_1 ?_
                   refine wx_loadH hok 30 11 1 rfl rfl rfl (freshS_eq rfl) rfl rfl rfl rfl (cs := [_]) rfl tS_34 tA_34 rfl rfl ?_
                   refine wx_step1 hok 28 rfl rfl rfl rfl ?_
                   refine wl_ownSpot 1 rfl (fun hsp hcm => ?_)
                   refine wl_sliceTo rfl rfl rfl (freshS_eq rfl) rfl rfl rfl rfl tE_34 tS_27 (by omega) hsp ?_
                   refine wl_as (d := 341) (v' := .slice p310_2 ((e310.vals.take vals.length).length) c310_2) (S' := [_,_,_,_,_,_,_,_,_,_,_,_,_,_,_,_,_,_,_,_,_,_,_,_,_,_,_,_,_,_,_,_,_,_,_,_,_,_,_,_,_,_,_,_,_,_,_,_,_,_,_,_,_,_,_,_,_,_]) rfl rfl (by rw [List.length_take]; congr 1; omega) ?_
                   refine wl_nil ?_
                   refine we_x [0, 1, 2, 3] [11, 0, 11, 6] rfl rfl ?_
                   refine wx_step1 hok 31 rfl rfl rfl rfl ?_
                   refine wl_lend [] [0, 1, 2, 3, 4, 5, 6, 7, 8, 9, 10, 11, 12, 13, 14, 15, 16, 17, 18, 19] [12, 1] rfl rfl rfl (freshS_eq rfl) rfl rfl fn_8 rfl (SameValues_s _ _ _ _ (e310.vals.take vals.length) e61.vals) (fun F w hφ hh => (ask_cons (own_take (hh _ (mem_at (k := 1) rfl)) vals.length) (ask_cons (own_sli (hh _ (mem_at (k := 0) rfl))) ask_nil))) (fun _ _ _ hR => by rcases hR with ⟨rfl, rfl, rfl⟩ <;> exact ⟨rfl, by simp [own_free, blk_free, vRep_free, bRep_free, iRep_free, aRep_free]⟩) rfl rfl (H' := [_,_,_,_,_,_,_,_,_,_,_,_,_,_,_,_,_,_,_,_]) rfl ?_
                   rintro _ _ _ ⟨rfl, rfl, rfl⟩
                   refine wl_nil ?_
                   refine we_x [0, 1, 2, 3] [0, 0, 11, 6] rfl rfl ?_
                   refine wx_pure hok 32 rfl rfl rfl (freshS_eq rfl) rfl rfl ?_
                   refine wx_step1 hok 33 rfl rfl rfl rfl ?_
                   refine wl_pure (S' := [_,_,_,_,_,_,_,_,_,_,_,_,_,_,_,_,_,_,_,_,_,_,_,_,_,_,_,_,_,_,_,_,_,_,_,_,_,_,_,_,_,_,_,_,_,_,_,_,_,_,_,_,_,_,_,_,_,_,_,_]) rfl rfl rfl rfl rfl ?_
                   refine wl_nil ?_
                   refine we_x [0, 1, 2, 3] [] rfl rfl ?_
                   refine wx_done hok rfl ?_
                   refine we_then ?_
                   refine wc_keep [10, 28, 27, 26, 25, 24, 229, 21, 119, 17, 16, 15, 14, 112, 65, 13, 12, 11, 50, 30, 9, 6, 5, 0, 1, 2, 3, 4] (S' := [_,_,_,_,_,_,_,_,_,_,_,_,_,_,_,_,_,_,_,_,_,_,_,_,_,_,_,_]) rfl ?_
                   refine wc_ret ?_
                   refine ret_one (Hr := []) [] Try.results3 (res_tmp rfl) ?_ (fun _ _ hφ => ask [] rfl hφ) rfl rfl (.inl rfl)
                   exact ⟨congrArg Value.bool (decide_eq_true (by rw [he310]; exact take_wide (by omega))), rfl, rfl⟩
                  ·
                   replace h336 := ne_of_beq_false h336
                   exfalso
                   exact h336 (by rw [he310]; simp; omega)
                 ·
                  exfalso
                  rw [hr310] at h327
                  cases h327
                ·
                 replace h324 := of_decide_eq_false h324
                 exfalso
                 exact h324 (by rw [he292])
               ·
                exfalso
                rw [hr292] at h316
                cases h316
             refine wx_memo (σ := Nat × Option Addr × Nat × Nat × Option Addr × Nat × Option Addr × Nat × Nat × Nat) (fun (g295, p297, c297, g298, p299, c299, p301, c301, g303, g26) => True) [11, 8, 6, 4, 3, 2, 0, 7, 5, 1] (fun (g295, p297, c297, g298, p299, c299, p301, c301, g303, g26) => [(7, .blk g9 [.int .u8 (v0.k), .int .i64 (v0.n), .string v0.s] 27)]) (fun (g295, p297, c297, g298, p299, c299, p301, c301, g303, g26) => [.sli 5 aRep pa ca c.args, .sli 3 vRep px cx f.args, .sli 1 bRep p1 c1 has, .sli 3 vRep p2 c2 vals]) (fun (g295, p297, c297, g298, p299, c299, p301, c301, g303, g26) => [.blk g26 [.slice none 0 0, .slice none 0 0] 41, .blk g303 [.int .u8 (v0.k), .int .i64 (v0.n), .string v0.s] 27, .own 27 3 vRep (.slice p301 vals.length c301) vals, .own 4 1 bRep (.slice p299 ((has ++ [true]).length) c299) (has ++ [true]), .blk g24 [.slice p292 e292.has.length c292, .slice p292_2 e292.vals.length c292_2] 41, .own 27 3 vRep (.slice p292_2 e292.vals.length c292_2) e292.vals, .own 4 1 bRep (.slice p292 e292.has.length c292) e292.has, mapF Try.prog 3 4 (mBool tU_4) g114 s1.2.2.1 s1.2.2.2.2.1, mapF Try.prog 3 3 (mInt tU_3) g113 s1.2.1 s1.2.2.2.1, .blk g12 [.slice p61 e61.has.length c61, .slice p61_2 e61.vals.length c61_2] 41, .own 27 3 vRep (.slice p61_2 e61.vals.length c61_2) e61.vals, .own 4 1 bRep (.slice p61 e61.has.length c61) e61.has, .blk g11 [.slice p53 (has).length c53, .slice p55 vals.length c55] 41, .own 27 3 vRep (.slice p55 vals.length c55) vals, .own 4 1 bRep (.slice p53 (has).length c53) has, .blk g9 [.int .u8 (v0.k), .int .i64 (v0.n), .string v0.s] 27, .blk g6 [.int .i64 (f.id), .int .i64 (f.ty), .slice px f.args.length cx] 36, .blk g5 [.int .u8 (c.k), .int .i64 (c.ty), .slice pa c.args.length ca, t0, t1, t2, t3, t4, t5, t6] 33]) (fun (g295, p297, c297, g298, p299, c299, p301, c301, g303, g26) => [(26, .pointer (some ⟨g26, 0, none⟩)), (303, .slice (some ⟨g303, 0, none⟩) 1 1), (301, .slice p301 vals.length c301), (299, .slice p299 ((has ++ [true]).length) c299), (25, .bool r292), (24, .pointer (some ⟨g24, 0, none⟩)), (229, .bool (decide (((s2 : Nat) : Int) < ((has.length : Nat) : Int)))), (21, .int .i64 ((s2 : Nat) : Int)), (119, .bool (decide (((s1.1 : Nat) : Int) < ((c.args.length : Nat) : Int)))), (17, .int .i64 ((s1.1 : Nat) : Int)), (16, .map (some g114)), (15, .bool (s1.2.2.2.2.2)), (14, .map (some g113)), (112, .bool (c.ty != f.ty)), (65, .bool (!r61)), (13, .bool r61), (12, .pointer (some ⟨g12, 0, none⟩)), (11, .pointer (some ⟨g11, 0, none⟩)), (50, .bool (decide (((vals.length : Nat) : Int) > 2000))), (30, .bool false), (10, .bool false), (9, .pointer (some ⟨g9, 0, none⟩)), (6, .pointer (some ⟨g6, 0, none⟩)), (5, .pointer (some ⟨g5, 0, none⟩)), (0, .agg #[.int .u8 (c.k), .int .i64 (c.ty), .slice pa c.args.length ca, t0, t1, t2, t3, t4, t5, t6]), (1, .agg #[.int .i64 (f.id), .int .i64 (f.ty), .slice px f.args.length cx]), (2, .slice p1 has.length c1), (3, .slice p2 vals.length c2), (4, .agg #[.int .u8 (v0.k), .int .i64 (v0.n), .string v0.s])]) ?_ (fun m1_37 => ?_)
             ·
              rintro ⟨g295, p297, c297, g298, p299, c299, p301, c301, g303, g26⟩ _
              try dsimp only
              refine wx_step1 hok 9 rfl rfl rfl rfl ?_
              refine wl_appendH [v0] 2 1 rfl rfl rfl (freshS_eq rfl) rfl rfl rfl rfl rfl (fun F w hφ => ⟨[.int .u8 (v0.k), .int .i64 (v0.n), .string v0.s], [], rfl, rfl, ⟨rfl, by first | assumption | (simp [V.ok, ArgD.ok, FactD.ok, inB, inI]) | (unfold V.ok inB inI; simp; omega)⟩, rfl⟩) tE_34 tR_27 rfl rfl (by simp; omega) (by simp; omega) (H2 := fun p304 c304 => [.blk g26 [.slice none 0 0, .slice none 0 0] 41, .blk g303 [.int .u8 (v0.k), .int .i64 (v0.n), .string v0.s] 27, .own 27 3 vRep (.slice p304 ((vals ++ [v0]).length) c304) (vals ++ [v0]), .own 4 1 bRep (.slice p299 ((has ++ [true]).length) c299) (has ++ [true]), .blk g24 [.slice p292 e292.has.length c292, .slice p292_2 e292.vals.length c292_2] 41, .own 27 3 vRep (.slice p292_2 e292.vals.length c292_2) e292.vals, .own 4 1 bRep (.slice p292 e292.has.length c292) e292.has, mapF Try.prog 3 4 (mBool tU_4) g114 s1.2.2.1 s1.2.2.2.2.1, mapF Try.prog 3 3 (mInt tU_3) g113 s1.2.1 s1.2.2.2.1, .blk g12 [.slice p61 e61.has.length c61, .slice p61_2 e61.vals.length c61_2] 41, .own 27 3 vRep (.slice p61_2 e61.vals.length c61_2) e61.vals, .own 4 1 bRep (.slice p61 e61.has.length c61) e61.has, .blk g11 [.slice p53 (has).length c53, .slice p55 vals.length c55] 41, .own 27 3 vRep (.slice p55 vals.length c55) vals, .own 4 1 bRep (.slice p53 (has).length c53) has, .blk g9 [.int .u8 (v0.k), .int .i64 (v0.n), .string v0.s] 27, .blk g6 [.int .i64 (f.id), .int .i64 (f.ty), .slice px f.args.length cx] 36, .blk g5 [.int .u8 (c.k), .int .i64 (c.ty), .slice pa c.args.length ca, t0, t1, t2, t3, t4, t5, t6] 33]) (fun _ _ => rfl) (fun p304 c304 => ?_)
              refine wl_drop 1 rfl (H' := [_,_,_,_,_,_,_,_,_,_,_,_,_,_,_,_,_]) rfl ?_
              refine wl_nil ?_
              refine we_x [0, 1, 2, 3] [14] rfl rfl ?_
              refine wx_build hok 10 rfl rfl rfl (freshS_eq rfl) rfl rfl tZ_41 tP_41 rfl (out := [_,_]) rfl ?_
              exact wx_at (m0_37 (g295, p297, c297, g298, p299, c299, p301, c301, g303, p304, c304, g26) trivial) rfl [0] [0] [0, 1, 2, 3] [0, 1, 2, 3] [0, 1, 2, 3, 4, 5, 6, 7, 8, 9, 10, 11, 12, 13, 14, 15, 16] [0, 1, 2, 3, 4, 5, 6, 7, 8, 9, 10, 11, 12, 13, 14, 15, 16] [26, 305, 25, 24, 229, 21, 119, 17, 16, 15, 14, 112, 65, 13, 12, 11, 50, 30, 10, 9, 6, 5, 0, 1, 2, 3, 4] rfl rfl rfl rfl rfl rfl rfl rfl
             refine wx_memo (σ := Nat × Option Addr × Nat × Nat × Option Addr × Nat × Option Addr × Nat × Nat) (fun (g295, p297, c297, g298, p299, c299, p301, c301, g303) => True) [8, 6, 4, 3, 2, 0, 7, 5, 1] (fun (g295, p297, c297, g298, p299, c299, p301, c301, g303) => [(7, .blk g9 [.int .u8 (v0.k), .int .i64 (v0.n), .string v0.s] 27)]) (fun (g295, p297, c297, g298, p299, c299, p301, c301, g303) => [.sli 5 aRep pa ca c.args, .sli 3 vRep px cx f.args, .sli 1 bRep p1 c1 has, .sli 3 vRep p2 c2 vals]) (fun (g295, p297, c297, g298, p299, c299, p301, c301, g303) => [.blk g303 [.int .u8 (v0.k), .int .i64 (v0.n), .string v0.s] 27, .own 27 3 vRep (.slice p301 vals.length c301) vals, .own 4 1 bRep (.slice p299 ((has ++ [true]).length) c299) (has ++ [true]), .blk g24 [.slice p292 e292.has.length c292, .slice p292_2 e292.vals.length c292_2] 41, .own 27 3 vRep (.slice p292_2 e292.vals.length c292_2) e292.vals, .own 4 1 bRep (.slice p292 e292.has.length c292) e292.has, mapF Try.prog 3 4 (mBool tU_4) g114 s1.2.2.1 s1.2.2.2.2.1, mapF Try.prog 3 3 (mInt tU_3) g113 s1.2.1 s1.2.2.2.1, .blk g12 [.slice p61 e61.has.length c61, .slice p61_2 e61.vals.length c61_2] 41, .own 27 3 vRep (.slice p61_2 e61.vals.length c61_2) e61.vals, .own 4 1 bRep (.slice p61 e61.has.length c61) e61.has, .blk g11 [.slice p53 (has).length c53, .slice p55 vals.length c55] 41, .own 27 3 vRep (.slice p55 vals.length c55) vals, .own 4 1 bRep (.slice p53 (has).length c53) has, .blk g9 [.int .u8 (v0.k), .int .i64 (v0.n), .string v0.s] 27, .blk g6 [.int .i64 (f.id), .int .i64 (f.ty), .slice px f.args.length cx] 36, .blk g5 [.int .u8 (c.k), .int .i64 (c.ty), .slice pa c.args.length ca, t0, t1, t2, t3, t4, t5, t6] 33]) (fun (g295, p297, c297, g298, p299, c299, p301, c301, g303) => [(303, .slice (some ⟨g303, 0, none⟩) 1 1), (301, .slice p301 vals.length c301), (299, .slice p299 ((has ++ [true]).length) c299), (25, .bool r292), (24, .pointer (some ⟨g24, 0, none⟩)), (229, .bool (decide (((s2 : Nat) : Int) < ((has.length : Nat) : Int)))), (21, .int .i64 ((s2 : Nat) : Int)), (119, .bool (decide (((s1.1 : Nat) : Int) < ((c.args.length : Nat) : Int)))), (17, .int .i64 ((s1.1 : Nat) : Int)), (16, .map (some g114)), (15, .bool (s1.2.2.2.2.2)), (14, .map (some g113)), (112, .bool (c.ty != f.ty)), (65, .bool (!r61)), (13, .bool r61), (12, .pointer (some ⟨g12, 0, none⟩)), (11, .pointer (some ⟨g11, 0, none⟩)), (50, .bool (decide (((vals.length : Nat) : Int) > 2000))), (30, .bool false), (10, .bool false), (9, .pointer (some ⟨g9, 0, none⟩)), (6, .pointer (some ⟨g6, 0, none⟩)), (5, .pointer (some ⟨g5, 0, none⟩)), (0, .agg #[.int .u8 (c.k), .int .i64 (c.ty), .slice pa c.args.length ca, t0, t1, t2, t3, t4, t5, t6]), (1, .agg #[.int .i64 (f.id), .int .i64 (f.ty), .slice px f.args.length cx]), (2, .slice p1 has.length c1), (3, .slice p2 vals.length c2), (4, .agg #[.int .u8 (v0.k), .int .i64 (v0.n), .string v0.s])]) ?_ (fun m2_37 => ?_)
             ·
              rintro ⟨g295, p297, c297, g298, p299, c299, p301, c301, g303⟩ _
              try dsimp only
              refine wx_step2 hok 9 11 rfl rfl rfl rfl rfl rfl ?_ ?_
              ·
               refine wl_appendH [v0] 1 0 rfl rfl rfl (freshS_eq rfl) rfl rfl rfl rfl rfl (fun F w hφ => ⟨[.int .u8 (v0.k), .int .i64 (v0.n), .string v0.s], [], rfl, rfl, ⟨rfl, by first | assumption | (simp [V.ok, ArgD.ok, FactD.ok, inB, inI]) | (unfold V.ok inB inI; simp; omega)⟩, rfl⟩) tE_34 tR_27 rfl rfl (by simp; omega) (by simp; omega) (H2 := fun p304 c304 => [.blk g303 [.int .u8 (v0.k), .int .i64 (v0.n), .string v0.s] 27, .own 27 3 vRep (.slice p304 ((vals ++ [v0]).length) c304) (vals ++ [v0]), .own 4 1 bRep (.slice p299 ((has ++ [true]).length) c299) (has ++ [true]), .blk g24 [.slice p292 e292.has.length c292, .slice p292_2 e292.vals.length c292_2] 41, .own 27 3 vRep (.slice p292_2 e292.vals.length c292_2) e292.vals, .own 4 1 bRep (.slice p292 e292.has.length c292) e292.has, mapF Try.prog 3 4 (mBool tU_4) g114 s1.2.2.1 s1.2.2.2.2.1, mapF Try.prog 3 3 (mInt tU_3) g113 s1.2.1 s1.2.2.2.1, .blk g12 [.slice p61 e61.has.length c61, .slice p61_2 e61.vals.length c61_2] 41, .own 27 3 vRep (.slice p61_2 e61.vals.length c61_2) e61.vals, .own 4 1 bRep (.slice p61 e61.has.length c61) e61.has, .blk g11 [.slice p53 (has).length c53, .slice p55 vals.length c55] 41, .own 27 3 vRep (.slice p55 vals.length c55) vals, .own 4 1 bRep (.slice p53 (has).length c53) has, .blk g9 [.int .u8 (v0.k), .int .i64 (v0.n), .string v0.s] 27, .blk g6 [.int .i64 (f.id), .int .i64 (f.ty), .slice px f.args.length cx] 36, .blk g5 [.int .u8 (c.k), .int .i64 (c.ty), .slice pa c.args.length ca, t0, t1, t2, t3, t4, t5, t6] 33]) (fun _ _ => rfl) (fun p304 c304 => ?_)
               refine wl_drop 0 rfl (H' := [_,_,_,_,_,_,_,_,_,_,_,_,_,_,_,_]) rfl ?_
               refine wl_nil ?_
               refine we_x [0, 1, 2, 3] [13] rfl rfl ?_
               refine wx_build hok 10 rfl rfl rfl (freshS_eq rfl) rfl rfl tZ_41 tP_41 rfl (out := [_,_]) rfl ?_
               refine wx_step1 hok 11 rfl rfl rfl rfl ?_
               refine wl_alloc rfl rfl rfl (freshS_eq rfl) rfl tZ_41 rfl (fun g26 => ?_)
               refine wl_nil ?_
               refine we_x [0, 1, 2, 3] [14] rfl rfl ?_
               exact wx_at (m0_37 (g295, p297, c297, g298, p299, c299, p301, c301, g303, p304, c304, g26) trivial) rfl [0] [0] [0, 1, 2, 3] [0, 1, 2, 3] [0, 1, 2, 3, 4, 5, 6, 7, 8, 9, 10, 11, 12, 13, 14, 15, 16] [0, 1, 2, 3, 4, 5, 6, 7, 8, 9, 10, 11, 12, 13, 14, 15, 16] [26, 305, 25, 24, 229, 21, 119, 17, 16, 15, 14, 112, 65, 13, 12, 11, 50, 30, 10, 9, 6, 5, 0, 1, 2, 3, 4] rfl rfl rfl rfl rfl rfl rfl rfl
              ·
               refine wl_alloc rfl rfl rfl (freshS_eq rfl) rfl tZ_41 rfl (fun g26 => ?_)
               refine wl_nil ?_
               refine we_x [0, 1, 2, 3] [15] rfl rfl ?_
               exact wx_at (m1_37 (g295, p297, c297, g298, p299, c299, p301, c301, g303, g26) trivial) rfl [0] [0] [0, 1, 2, 3] [0, 1, 2, 3] [0, 1, 2, 3, 4, 5, 6, 7, 8, 9, 10, 11, 12, 13, 14, 15, 16, 17] [0, 1, 2, 3, 4, 5, 6, 7, 8, 9, 10, 11, 12, 13, 14, 15, 16, 17] [26, 303, 301, 299, 25, 24, 229, 21, 119, 17, 16, 15, 14, 112, 65, 13, 12, 11, 50, 30, 10, 9, 6, 5, 0, 1, 2, 3, 4] rfl rfl rfl rfl rfl rfl rfl rfl
             refine wx_memo (σ := Nat × Option Addr × Nat × Nat × Option Addr × Nat × Option Addr × Nat × Nat) (fun (g295, p297, c297, g298, p299, c299, p301, c301, g26) => True) [11, 6, 4, 3, 2, 0, 7, 5, 1] (fun (g295, p297, c297, g298, p299, c299, p301, c301, g26) => [(7, .blk g9 [.int .u8 (v0.k), .int .i64 (v0.n), .string v0.s] 27)]) (fun (g295, p297, c297, g298, p299, c299, p301, c301, g26) => [.sli 5 aRep pa ca c.args, .sli 3 vRep px cx f.args, .sli 1 bRep p1 c1 has, .sli 3 vRep p2 c2 vals]) (fun (g295, p297, c297, g298, p299, c299, p301, c301, g26) => [.blk g26 [.slice none 0 0, .slice none 0 0] 41, .own 27 3 vRep (.slice p301 vals.length c301) vals, .own 4 1 bRep (.slice p299 ((has ++ [true]).length) c299) (has ++ [true]), .blk g24 [.slice p292 e292.has.length c292, .slice p292_2 e292.vals.length c292_2] 41, .own 27 3 vRep (.slice p292_2 e292.vals.length c292_2) e292.vals, .own 4 1 bRep (.slice p292 e292.has.length c292) e292.has, mapF Try.prog 3 4 (mBool tU_4) g114 s1.2.2.1 s1.2.2.2.2.1, mapF Try.prog 3 3 (mInt tU_3) g113 s1.2.1 s1.2.2.2.1, .blk g12 [.slice p61 e61.has.length c61, .slice p61_2 e61.vals.length c61_2] 41, .own 27 3 vRep (.slice p61_2 e61.vals.length c61_2) e61.vals, .own 4 1 bRep (.slice p61 e61.has.length c61) e61.has, .blk g11 [.slice p53 (has).length c53, .slice p55 vals.length c55] 41, .own 27 3 vRep (.slice p55 vals.length c55) vals, .own 4 1 bRep (.slice p53 (has).length c53) has, .blk g9 [.int .u8 (v0.k), .int .i64 (v0.n), .string v0.s] 27, .blk g6 [.int .i64 (f.id), .int .i64 (f.ty), .slice px f.args.length cx] 36, .blk g5 [.int .u8 (c.k), .int .i64 (c.ty), .slice pa c.args.length ca, t0, t1, t2, t3, t4, t5, t6] 33]) (fun (g295, p297, c297, g298, p299, c299, p301, c301, g26) => [(26, .pointer (some ⟨g26, 0, none⟩)), (301, .slice p301 vals.length c301), (299, .slice p299 ((has ++ [true]).length) c299), (302, .agg #[.int .u8 (v0.k), .int .i64 (v0.n), .string v0.s]), (25, .bool r292), (24, .pointer (some ⟨g24, 0, none⟩)), (229, .bool (decide (((s2 : Nat) : Int) < ((has.length : Nat) : Int)))), (21, .int .i64 ((s2 : Nat) : Int)), (119, .bool (decide (((s1.1 : Nat) : Int) < ((c.args.length : Nat) : Int)))), (17, .int .i64 ((s1.1 : Nat) : Int)), (16, .map (some g114)), (15, .bool (s1.2.2.2.2.2)), (14, .map (some g113)), (112, .bool (c.ty != f.ty)), (65, .bool (!r61)), (13, .bool r61), (12, .pointer (some ⟨g12, 0, none⟩)), (11, .pointer (some ⟨g11, 0, none⟩)), (50, .bool (decide (((vals.length : Nat) : Int) > 2000))), (30, .bool false), (10, .bool false), (9, .pointer (some ⟨g9, 0, none⟩)), (6, .pointer (some ⟨g6, 0, none⟩)), (5, .pointer (some ⟨g5, 0, none⟩)), (0, .agg #[.int .u8 (c.k), .int .i64 (c.ty), .slice pa c.args.length ca, t0, t1, t2, t3, t4, t5, t6]), (1, .agg #[.int .i64 (f.id), .int .i64 (f.ty), .slice px f.args.length cx]), (2, .slice p1 has.length c1), (3, .slice p2 vals.length c2), (4, .agg #[.int .u8 (v0.k), .int .i64 (v0.n), .string v0.s])]) ?_ (fun m3_37 => ?_)
             ·
              rintro ⟨g295, p297, c297, g298, p299, c299, p301, c301, g26⟩ _
              try dsimp only
              refine wx_step1 hok 8 rfl rfl rfl rfl ?_
              refine wl_buildSlice rfl rfl rfl (freshS_eq rfl) rfl tE_34 tS_27 tZ_27 rfl (zs := [.int .u8 0, .int .i64 0, .string ⟨#[]⟩]) (by kernel_rfl) rfl (out := [_,_,_]) rfl (fun g303 => ?_)
              refine wl_nil ?_
              refine we_x [0, 1, 2, 3] [] rfl rfl ?_
              exact wx_at (m1_37 (g295, p297, c297, g298, p299, c299, p301, c301, g303, g26) trivial) rfl [0] [0] [0, 1, 2, 3] [0, 1, 2, 3] [1, 0, 2, 3, 4, 5, 6, 7, 8, 9, 10, 11, 12, 13, 14, 15, 16, 17] [1, 0, 2, 3, 4, 5, 6, 7, 8, 9, 10, 11, 12, 13, 14, 15, 16, 17] [26, 303, 301, 299, 25, 24, 229, 21, 119, 17, 16, 15, 14, 112, 65, 13, 12, 11, 50, 30, 10, 9, 6, 5, 0, 1, 2, 3, 4] rfl rfl rfl rfl rfl rfl rfl rfl
             refine wx_memo (σ := Nat × Option Addr × Nat × Nat × Option Addr × Nat × Nat × Nat) (fun (g295, p297, c297, g298, p299, c299, g303, g26) => True) [11, 8, 4, 3, 2, 0, 7, 5, 1] (fun (g295, p297, c297, g298, p299, c299, g303, g26) => [(7, .blk g9 [.int .u8 (v0.k), .int .i64 (v0.n), .string v0.s] 27)]) (fun (g295, p297, c297, g298, p299, c299, g303, g26) => [.sli 5 aRep pa ca c.args, .sli 3 vRep px cx f.args, .sli 1 bRep p1 c1 has, .sli 3 vRep p2 c2 vals]) (fun (g295, p297, c297, g298, p299, c299, g303, g26) => [.blk g26 [.slice none 0 0, .slice none 0 0] 41, .blk g303 [.int .u8 (v0.k), .int .i64 (v0.n), .string v0.s] 27, .own 4 1 bRep (.slice p299 ((has ++ [true]).length) c299) (has ++ [true]), .blk g24 [.slice p292 e292.has.length c292, .slice p292_2 e292.vals.length c292_2] 41, .own 27 3 vRep (.slice p292_2 e292.vals.length c292_2) e292.vals, .own 4 1 bRep (.slice p292 e292.has.length c292) e292.has, mapF Try.prog 3 4 (mBool tU_4) g114 s1.2.2.1 s1.2.2.2.2.1, mapF Try.prog 3 3 (mInt tU_3) g113 s1.2.1 s1.2.2.2.1, .blk g12 [.slice p61 e61.has.length c61, .slice p61_2 e61.vals.length c61_2] 41, .own 27 3 vRep (.slice p61_2 e61.vals.length c61_2) e61.vals, .own 4 1 bRep (.slice p61 e61.has.length c61) e61.has, .blk g11 [.slice p53 (has).length c53, .slice p55 vals.length c55] 41, .own 27 3 vRep (.slice p55 vals.length c55) vals, .own 4 1 bRep (.slice p53 (has).length c53) has, .blk g9 [.int .u8 (v0.k), .int .i64 (v0.n), .string v0.s] 27, .blk g6 [.int .i64 (f.id), .int .i64 (f.ty), .slice px f.args.length cx] 36, .blk g5 [.int .u8 (c.k), .int .i64 (c.ty), .slice pa c.args.length ca, t0, t1, t2, t3, t4, t5, t6] 33]) (fun (g295, p297, c297, g298, p299, c299, g303, g26) => [(26, .pointer (some ⟨g26, 0, none⟩)), (303, .slice (some ⟨g303, 0, none⟩) 1 1), (299, .slice p299 ((has ++ [true]).length) c299), (300, .slice p2 vals.length c2), (25, .bool r292), (24, .pointer (some ⟨g24, 0, none⟩)), (229, .bool (decide (((s2 : Nat) : Int) < ((has.length : Nat) : Int)))), (21, .int .i64 ((s2 : Nat) : Int)), (119, .bool (decide (((s1.1 : Nat) : Int) < ((c.args.length : Nat) : Int)))), (17, .int .i64 ((s1.1 : Nat) : Int)), (16, .map (some g114)), (15, .bool (s1.2.2.2.2.2)), (14, .map (some g113)), (112, .bool (c.ty != f.ty)), (65, .bool (!r61)), (13, .bool r61), (12, .pointer (some ⟨g12, 0, none⟩)), (11, .pointer (some ⟨g11, 0, none⟩)), (50, .bool (decide (((vals.length : Nat) : Int) > 2000))), (30, .bool false), (10, .bool false), (9, .pointer (some ⟨g9, 0, none⟩)), (6, .pointer (some ⟨g6, 0, none⟩)), (5, .pointer (some ⟨g5, 0, none⟩)), (0, .agg #[.int .u8 (c.k), .int .i64 (c.ty), .slice pa c.args.length ca, t0, t1, t2, t3, t4, t5, t6]), (1, .agg #[.int .i64 (f.id), .int .i64 (f.ty), .slice px f.args.length cx]), (2, .slice p1 has.length c1), (3, .slice p2 vals.length c2), (4, .agg #[.int .u8 (v0.k), .int .i64 (v0.n), .string v0.s])]) ?_ (fun m4_37 => ?_)
             ·
              rintro ⟨g295, p297, c297, g298, p299, c299, g303, g26⟩ _
              try dsimp only
              refine wx_step1 hok 6 rfl rfl rfl rfl ?_
              refine wl_call [] [0, 1, 2, 3, 4, 5, 6, 7, 8, 9, 10, 11, 12, 13, 14, 15, 16] rfl rfl rfl (freshS_eq rfl) rfl rfl fn_6 rfl (CopyValues_s _ _ _ (by omega)) (fun _ _ hφ => ask [3] rfl hφ) rfl (H' := [_,_,_,_,_,_,_,_,_,_,_,_,_,_,_,_,_]) rfl ?_
              rintro _ _ _ ⟨p301, c301, rfl, rfl, rfl⟩
              refine wl_nil ?_
              refine we_x [0, 1, 2, 3] [15] rfl rfl ?_
              exact wx_at (m1_37 (g295, p297, c297, g298, p299, c299, p301, c301, g303, g26) trivial) rfl [0] [0] [0, 1, 2, 3] [0, 1, 2, 3] [1, 2, 0, 3, 4, 5, 6, 7, 8, 9, 10, 11, 12, 13, 14, 15, 16, 17] [2, 0, 1, 3, 4, 5, 6, 7, 8, 9, 10, 11, 12, 13, 14, 15, 16, 17] [26, 303, 301, 299, 25, 24, 229, 21, 119, 17, 16, 15, 14, 112, 65, 13, 12, 11, 50, 30, 10, 9, 6, 5, 0, 1, 2, 3, 4] rfl rfl rfl rfl rfl rfl rfl rfl
             refine wx_memo (σ := Nat × Option Addr × Nat × Nat × Option Addr × Nat × Nat) (fun (g295, p297, c297, g298, p299, c299, g303) => True) [8, 4, 3, 2, 0, 7, 5, 1] (fun (g295, p297, c297, g298, p299, c299, g303) => [(7, .blk g9 [.int .u8 (v0.k), .int .i64 (v0.n), .string v0.s] 27)]) (fun (g295, p297, c297, g298, p299, c299, g303) => [.sli 5 aRep pa ca c.args, .sli 3 vRep px cx f.args, .sli 1 bRep p1 c1 has, .sli 3 vRep p2 c2 vals]) (fun (g295, p297, c297, g298, p299, c299, g303) => [.blk g303 [.int .u8 (v0.k), .int .i64 (v0.n), .string v0.s] 27, .own 4 1 bRep (.slice p299 ((has ++ [true]).length) c299) (has ++ [true]), .blk g24 [.slice p292 e292.has.length c292, .slice p292_2 e292.vals.length c292_2] 41, .own 27 3 vRep (.slice p292_2 e292.vals.length c292_2) e292.vals, .own 4 1 bRep (.slice p292 e292.has.length c292) e292.has, mapF Try.prog 3 4 (mBool tU_4) g114 s1.2.2.1 s1.2.2.2.2.1, mapF Try.prog 3 3 (mInt tU_3) g113 s1.2.1 s1.2.2.2.1, .blk g12 [.slice p61 e61.has.length c61, .slice p61_2 e61.vals.length c61_2] 41, .own 27 3 vRep (.slice p61_2 e61.vals.length c61_2) e61.vals, .own 4 1 bRep (.slice p61 e61.has.length c61) e61.has, .blk g11 [.slice p53 (has).length c53, .slice p55 vals.length c55] 41, .own 27 3 vRep (.slice p55 vals.length c55) vals, .own 4 1 bRep (.slice p53 (has).length c53) has, .blk g9 [.int .u8 (v0.k), .int .i64 (v0.n), .string v0.s] 27, .blk g6 [.int .i64 (f.id), .int .i64 (f.ty), .slice px f.args.length cx] 36, .blk g5 [.int .u8 (c.k), .int .i64 (c.ty), .slice pa c.args.length ca, t0, t1, t2, t3, t4, t5, t6] 33]) (fun (g295, p297, c297, g298, p299, c299, g303) => [(303, .slice (some ⟨g303, 0, none⟩) 1 1), (299, .slice p299 ((has ++ [true]).length) c299), (300, .slice p2 vals.length c2), (25, .bool r292), (24, .pointer (some ⟨g24, 0, none⟩)), (229, .bool (decide (((s2 : Nat) : Int) < ((has.length : Nat) : Int)))), (21, .int .i64 ((s2 : Nat) : Int)), (119, .bool (decide (((s1.1 : Nat) : Int) < ((c.args.length : Nat) : Int)))), (17, .int .i64 ((s1.1 : Nat) : Int)), (16, .map (some g114)), (15, .bool (s1.2.2.2.2.2)), (14, .map (some g113)), (112, .bool (c.ty != f.ty)), (65, .bool (!r61)), (13, .bool r61), (12, .pointer (some ⟨g12, 0, none⟩)), (11, .pointer (some ⟨g11, 0, none⟩)), (50, .bool (decide (((vals.length : Nat) : Int) > 2000))), (30, .bool false), (10, .bool false), (9, .pointer (some ⟨g9, 0, none⟩)), (6, .pointer (some ⟨g6, 0, none⟩)), (5, .pointer (some ⟨g5, 0, none⟩)), (0, .agg #[.int .u8 (c.k), .int .i64 (c.ty), .slice pa c.args.length ca, t0, t1, t2, t3, t4, t5, t6]), (1, .agg #[.int .i64 (f.id), .int .i64 (f.ty), .slice px f.args.length cx]), (2, .slice p1 has.length c1), (3, .slice p2 vals.length c2), (4, .agg #[.int .u8 (v0.k), .int .i64 (v0.n), .string v0.s])]) ?_ (fun m5_37 => ?_)
             ·
              rintro ⟨g295, p297, c297, g298, p299, c299, g303⟩ _
              try dsimp only
              refine wx_step2 hok 6 11 rfl rfl rfl rfl rfl rfl ?_ ?_
              ·
               refine wl_call [] [0, 1, 2, 3, 4, 5, 6, 7, 8, 9, 10, 11, 12, 13, 14, 15] rfl rfl rfl (freshS_eq rfl) rfl rfl fn_6 rfl (CopyValues_s _ _ _ (by omega)) (fun _ _ hφ => ask [3] rfl hφ) rfl (H' := [_,_,_,_,_,_,_,_,_,_,_,_,_,_,_,_]) rfl ?_
               rintro _ _ _ ⟨p301, c301, rfl, rfl, rfl⟩
               refine wl_nil ?_
               refine we_x [0, 1, 2, 3] [14] rfl rfl ?_
               exact wx_at (m2_37 (g295, p297, c297, g298, p299, c299, p301, c301, g303) trivial) rfl [0] [0] [0, 1, 2, 3] [0, 1, 2, 3] [1, 0, 2, 3, 4, 5, 6, 7, 8, 9, 10, 11, 12, 13, 14, 15, 16] [1, 0, 2, 3, 4, 5, 6, 7, 8, 9, 10, 11, 12, 13, 14, 15, 16] [303, 301, 299, 25, 24, 229, 21, 119, 17, 16, 15, 14, 112, 65, 13, 12, 11, 50, 30, 10, 9, 6, 5, 0, 1, 2, 3, 4] rfl rfl rfl rfl rfl rfl rfl rfl
              ·
               refine wl_alloc rfl rfl rfl (freshS_eq rfl) rfl tZ_41 rfl (fun g26 => ?_)
               refine wl_nil ?_
               refine we_x [0, 1, 2, 3] [14] rfl rfl ?_
               exact wx_at (m4_37 (g295, p297, c297, g298, p299, c299, g303, g26) trivial) rfl [0] [0] [0, 1, 2, 3] [0, 1, 2, 3] [0, 1, 2, 3, 4, 5, 6, 7, 8, 9, 10, 11, 12, 13, 14, 15, 16] [0, 1, 2, 3, 4, 5, 6, 7, 8, 9, 10, 11, 12, 13, 14, 15, 16] [26, 303, 299, 300, 25, 24, 229, 21, 119, 17, 16, 15, 14, 112, 65, 13, 12, 11, 50, 30, 10, 9, 6, 5, 0, 1, 2, 3, 4] rfl rfl rfl rfl rfl rfl rfl rfl
             refine wx_memo (σ := Nat × Option Addr × Nat × Nat × Option Addr × Nat × Nat) (fun (g295, p297, c297, g298, p299, c299, g26) => True) [11, 4, 3, 2, 0, 7, 5, 1] (fun (g295, p297, c297, g298, p299, c299, g26) => [(7, .blk g9 [.int .u8 (v0.k), .int .i64 (v0.n), .string v0.s] 27)]) (fun (g295, p297, c297, g298, p299, c299, g26) => [.sli 5 aRep pa ca c.args, .sli 3 vRep px cx f.args, .sli 1 bRep p1 c1 has, .sli 3 vRep p2 c2 vals]) (fun (g295, p297, c297, g298, p299, c299, g26) => [.blk g26 [.slice none 0 0, .slice none 0 0] 41, .own 4 1 bRep (.slice p299 ((has ++ [true]).length) c299) (has ++ [true]), .blk g24 [.slice p292 e292.has.length c292, .slice p292_2 e292.vals.length c292_2] 41, .own 27 3 vRep (.slice p292_2 e292.vals.length c292_2) e292.vals, .own 4 1 bRep (.slice p292 e292.has.length c292) e292.has, mapF Try.prog 3 4 (mBool tU_4) g114 s1.2.2.1 s1.2.2.2.2.1, mapF Try.prog 3 3 (mInt tU_3) g113 s1.2.1 s1.2.2.2.1, .blk g12 [.slice p61 e61.has.length c61, .slice p61_2 e61.vals.length c61_2] 41, .own 27 3 vRep (.slice p61_2 e61.vals.length c61_2) e61.vals, .own 4 1 bRep (.slice p61 e61.has.length c61) e61.has, .blk g11 [.slice p53 (has).length c53, .slice p55 vals.length c55] 41, .own 27 3 vRep (.slice p55 vals.length c55) vals, .own 4 1 bRep (.slice p53 (has).length c53) has, .blk g9 [.int .u8 (v0.k), .int .i64 (v0.n), .string v0.s] 27, .blk g6 [.int .i64 (f.id), .int .i64 (f.ty), .slice px f.args.length cx] 36, .blk g5 [.int .u8 (c.k), .int .i64 (c.ty), .slice pa c.args.length ca, t0, t1, t2, t3, t4, t5, t6] 33]) (fun (g295, p297, c297, g298, p299, c299, g26) => [(26, .pointer (some ⟨g26, 0, none⟩)), (299, .slice p299 ((has ++ [true]).length) c299), (302, .agg #[.int .u8 (v0.k), .int .i64 (v0.n), .string v0.s]), (300, .slice p2 vals.length c2), (25, .bool r292), (24, .pointer (some ⟨g24, 0, none⟩)), (229, .bool (decide (((s2 : Nat) : Int) < ((has.length : Nat) : Int)))), (21, .int .i64 ((s2 : Nat) : Int)), (119, .bool (decide (((s1.1 : Nat) : Int) < ((c.args.length : Nat) : Int)))), (17, .int .i64 ((s1.1 : Nat) : Int)), (16, .map (some g114)), (15, .bool (s1.2.2.2.2.2)), (14, .map (some g113)), (112, .bool (c.ty != f.ty)), (65, .bool (!r61)), (13, .bool r61), (12, .pointer (some ⟨g12, 0, none⟩)), (11, .pointer (some ⟨g11, 0, none⟩)), (50, .bool (decide (((vals.length : Nat) : Int) > 2000))), (30, .bool false), (10, .bool false), (9, .pointer (some ⟨g9, 0, none⟩)), (6, .pointer (some ⟨g6, 0, none⟩)), (5, .pointer (some ⟨g5, 0, none⟩)), (0, .agg #[.int .u8 (c.k), .int .i64 (c.ty), .slice pa c.args.length ca, t0, t1, t2, t3, t4, t5, t6]), (1, .agg #[.int .i64 (f.id), .int .i64 (f.ty), .slice px f.args.length cx]), (2, .slice p1 has.length c1), (3, .slice p2 vals.length c2), (4, .agg #[.int .u8 (v0.k), .int .i64 (v0.n), .string v0.s])]) ?_ (fun m6_37 => ?_)
             ·
              rintro ⟨g295, p297, c297, g298, p299, c299, g26⟩ _
              try dsimp only
              refine wx_step2 hok 6 8 rfl rfl rfl rfl rfl rfl ?_ ?_
              ·
               refine wl_call [] [0, 1, 2, 3, 4, 5, 6, 7, 8, 9, 10, 11, 12, 13, 14, 15] rfl rfl rfl (freshS_eq rfl) rfl rfl fn_6 rfl (CopyValues_s _ _ _ (by omega)) (fun _ _ hφ => ask [3] rfl hφ) rfl (H' := [_,_,_,_,_,_,_,_,_,_,_,_,_,_,_,_]) rfl ?_
               rintro _ _ _ ⟨p301, c301, rfl, rfl, rfl⟩
               refine wl_nil ?_
               refine we_x [0, 1, 2, 3] [14] rfl rfl ?_
               exact wx_at (m3_37 (g295, p297, c297, g298, p299, c299, p301, c301, g26) trivial) rfl [0] [0] [0, 1, 2, 3] [0, 1, 2, 3] [1, 0, 2, 3, 4, 5, 6, 7, 8, 9, 10, 11, 12, 13, 14, 15, 16] [1, 0, 2, 3, 4, 5, 6, 7, 8, 9, 10, 11, 12, 13, 14, 15, 16] [26, 301, 299, 302, 25, 24, 229, 21, 119, 17, 16, 15, 14, 112, 65, 13, 12, 11, 50, 30, 10, 9, 6, 5, 0, 1, 2, 3, 4] rfl rfl rfl rfl rfl rfl rfl rfl
              ·
               refine wl_buildSlice rfl rfl rfl (freshS_eq rfl) rfl tE_34 tS_27 tZ_27 rfl (zs := [.int .u8 0, .int .i64 0, .string ⟨#[]⟩]) (by kernel_rfl) rfl (out := [_,_,_]) rfl (fun g303 => ?_)
               refine wl_nil ?_
               refine we_x [0, 1, 2, 3] [] rfl rfl ?_
               exact wx_at (m4_37 (g295, p297, c297, g298, p299, c299, g303, g26) trivial) rfl [0] [0] [0, 1, 2, 3] [0, 1, 2, 3] [1, 0, 2, 3, 4, 5, 6, 7, 8, 9, 10, 11, 12, 13, 14, 15, 16] [1, 0, 2, 3, 4, 5, 6, 7, 8, 9, 10, 11, 12, 13, 14, 15, 16] [26, 303, 299, 300, 25, 24, 229, 21, 119, 17, 16, 15, 14, 112, 65, 13, 12, 11, 50, 30, 10, 9, 6, 5, 0, 1, 2, 3, 4] rfl rfl rfl rfl rfl rfl rfl rfl
             refine wx_memo (σ := Nat × Option Addr × Nat × Nat × Nat × Nat) (fun (g295, p297, c297, g298, g303, g26) => True) [11, 8, 3, 2, 0, 7, 5, 1] (fun (g295, p297, c297, g298, g303, g26) => [(7, .blk g9 [.int .u8 (v0.k), .int .i64 (v0.n), .string v0.s] 27)]) (fun (g295, p297, c297, g298, g303, g26) => [.sli 5 aRep pa ca c.args, .sli 3 vRep px cx f.args, .sli 1 bRep p1 c1 has, .sli 3 vRep p2 c2 vals]) (fun (g295, p297, c297, g298, g303, g26) => [.blk g26 [.slice none 0 0, .slice none 0 0] 41, .blk g303 [.int .u8 (v0.k), .int .i64 (v0.n), .string v0.s] 27, .blk g298 [.bool true] 4, .own 4 1 bRep (.slice p297 (has).length c297) has, .blk g24 [.slice p292 e292.has.length c292, .slice p292_2 e292.vals.length c292_2] 41, .own 27 3 vRep (.slice p292_2 e292.vals.length c292_2) e292.vals, .own 4 1 bRep (.slice p292 e292.has.length c292) e292.has, mapF Try.prog 3 4 (mBool tU_4) g114 s1.2.2.1 s1.2.2.2.2.1, mapF Try.prog 3 3 (mInt tU_3) g113 s1.2.1 s1.2.2.2.1, .blk g12 [.slice p61 e61.has.length c61, .slice p61_2 e61.vals.length c61_2] 41, .own 27 3 vRep (.slice p61_2 e61.vals.length c61_2) e61.vals, .own 4 1 bRep (.slice p61 e61.has.length c61) e61.has, .blk g11 [.slice p53 (has).length c53, .slice p55 vals.length c55] 41, .own 27 3 vRep (.slice p55 vals.length c55) vals, .own 4 1 bRep (.slice p53 (has).length c53) has, .blk g9 [.int .u8 (v0.k), .int .i64 (v0.n), .string v0.s] 27, .blk g6 [.int .i64 (f.id), .int .i64 (f.ty), .slice px f.args.length cx] 36, .blk g5 [.int .u8 (c.k), .int .i64 (c.ty), .slice pa c.args.length ca, t0, t1, t2, t3, t4, t5, t6] 33]) (fun (g295, p297, c297, g298, g303, g26) => [(26, .pointer (some ⟨g26, 0, none⟩)), (303, .slice (some ⟨g303, 0, none⟩) 1 1), (298, .slice (some ⟨g298, 0, none⟩) 1 1), (297, .slice p297 (has).length c297), (300, .slice p2 vals.length c2), (25, .bool r292), (24, .pointer (some ⟨g24, 0, none⟩)), (229, .bool (decide (((s2 : Nat) : Int) < ((has.length : Nat) : Int)))), (21, .int .i64 ((s2 : Nat) : Int)), (119, .bool (decide (((s1.1 : Nat) : Int) < ((c.args.length : Nat) : Int)))), (17, .int .i64 ((s1.1 : Nat) : Int)), (16, .map (some g114)), (15, .bool (s1.2.2.2.2.2)), (14, .map (some g113)), (112, .bool (c.ty != f.ty)), (65, .bool (!r61)), (13, .bool r61), (12, .pointer (some ⟨g12, 0, none⟩)), (11, .pointer (some ⟨g11, 0, none⟩)), (50, .bool (decide (((vals.length : Nat) : Int) > 2000))), (30, .bool false), (10, .bool false), (9, .pointer (some ⟨g9, 0, none⟩)), (6, .pointer (some ⟨g6, 0, none⟩)), (5, .pointer (some ⟨g5, 0, none⟩)), (0, .agg #[.int .u8 (c.k), .int .i64 (c.ty), .slice pa c.args.length ca, t0, t1, t2, t3, t4, t5, t6]), (1, .agg #[.int .i64 (f.id), .int .i64 (f.ty), .slice px f.args.length cx]), (2, .slice p1 has.length c1), (3, .slice p2 vals.length c2), (4, .agg #[.int .u8 (v0.k), .int .i64 (v0.n), .string v0.s])]) ?_ (fun m7_37 => ?_)
             ·
              rintro ⟨g295, p297, c297, g298, g303, g26⟩ _
              try dsimp only
              refine wx_step1 hok 4 rfl rfl rfl rfl ?_
              refine wl_appendH [true] 3 2 rfl rfl rfl (freshS_eq rfl) rfl rfl rfl rfl rfl (fun F w hφ => ⟨[.bool true], [], rfl, rfl, rfl, rfl⟩) tE_37 tR_4 rfl rfl (by simp; omega) (by simp; omega) (H2 := fun p299 c299 => [.blk g26 [.slice none 0 0, .slice none 0 0] 41, .blk g303 [.int .u8 (v0.k), .int .i64 (v0.n), .string v0.s] 27, .blk g298 [.bool true] 4, .own 4 1 bRep (.slice p299 ((has ++ [true]).length) c299) (has ++ [true]), .blk g24 [.slice p292 e292.has.length c292, .slice p292_2 e292.vals.length c292_2] 41, .own 27 3 vRep (.slice p292_2 e292.vals.length c292_2) e292.vals, .own 4 1 bRep (.slice p292 e292.has.length c292) e292.has, mapF Try.prog 3 4 (mBool tU_4) g114 s1.2.2.1 s1.2.2.2.2.1, mapF Try.prog 3 3 (mInt tU_3) g113 s1.2.1 s1.2.2.2.1, .blk g12 [.slice p61 e61.has.length c61, .slice p61_2 e61.vals.length c61_2] 41, .own 27 3 vRep (.slice p61_2 e61.vals.length c61_2) e61.vals, .own 4 1 bRep (.slice p61 e61.has.length c61) e61.has, .blk g11 [.slice p53 (has).length c53, .slice p55 vals.length c55] 41, .own 27 3 vRep (.slice p55 vals.length c55) vals, .own 4 1 bRep (.slice p53 (has).length c53) has, .blk g9 [.int .u8 (v0.k), .int .i64 (v0.n), .string v0.s] 27, .blk g6 [.int .i64 (f.id), .int .i64 (f.ty), .slice px f.args.length cx] 36, .blk g5 [.int .u8 (c.k), .int .i64 (c.ty), .slice pa c.args.length ca, t0, t1, t2, t3, t4, t5, t6] 33]) (fun _ _ => rfl) (fun p299 c299 => ?_)
              refine wl_drop 2 rfl (H' := [_,_,_,_,_,_,_,_,_,_,_,_,_,_,_,_,_]) rfl ?_
              refine wl_nil ?_
              refine we_x [0, 1, 2, 3] [14] rfl rfl ?_
              exact wx_at (m4_37 (g295, p297, c297, g298, p299, c299, g303, g26) trivial) rfl [0] [0] [0, 1, 2, 3] [0, 1, 2, 3] [0, 1, 2, 3, 4, 5, 6, 7, 8, 9, 10, 11, 12, 13, 14, 15, 16] [0, 1, 2, 3, 4, 5, 6, 7, 8, 9, 10, 11, 12, 13, 14, 15, 16] [26, 303, 299, 300, 25, 24, 229, 21, 119, 17, 16, 15, 14, 112, 65, 13, 12, 11, 50, 30, 10, 9, 6, 5, 0, 1, 2, 3, 4] rfl rfl rfl rfl rfl rfl rfl rfl
             refine wx_memo (σ := Nat × Option Addr × Nat × Nat × Nat) (fun (g295, p297, c297, g298, g303) => True) [8, 3, 2, 0, 7, 5, 1] (fun (g295, p297, c297, g298, g303) => [(7, .blk g9 [.int .u8 (v0.k), .int .i64 (v0.n), .string v0.s] 27)]) (fun (g295, p297, c297, g298, g303) => [.sli 5 aRep pa ca c.args, .sli 3 vRep px cx f.args, .sli 1 bRep p1 c1 has, .sli 3 vRep p2 c2 vals]) (fun (g295, p297, c297, g298, g303) => [.blk g303 [.int .u8 (v0.k), .int .i64 (v0.n), .string v0.s] 27, .blk g298 [.bool true] 4, .own 4 1 bRep (.slice p297 (has).length c297) has, .blk g24 [.slice p292 e292.has.length c292, .slice p292_2 e292.vals.length c292_2] 41, .own 27 3 vRep (.slice p292_2 e292.vals.length c292_2) e292.vals, .own 4 1 bRep (.slice p292 e292.has.length c292) e292.has, mapF Try.prog 3 4 (mBool tU_4) g114 s1.2.2.1 s1.2.2.2.2.1, mapF Try.prog 3 3 (mInt tU_3) g113 s1.2.1 s1.2.2.2.1, .blk g12 [.slice p61 e61.has.length c61, .slice p61_2 e61.vals.length c61_2] 41, .own 27 3 vRep (.slice p61_2 e61.vals.length c61_2) e61.vals, .own 4 1 bRep (.slice p61 e61.has.length c61) e61.has, .blk g11 [.slice p53 (has).length c53, .slice p55 vals.length c55] 41, .own 27 3 vRep (.slice p55 vals.length c55) vals, .own 4 1 bRep (.slice p53 (has).length c53) has, .blk g9 [.int .u8 (v0.k), .int .i64 (v0.n), .string v0.s] 27, .blk g6 [.int .i64 (f.id), .int .i64 (f.ty), .slice px f.args.length cx] 36, .blk g5 [.int .u8 (c.k), .int .i64 (c.ty), .slice pa c.args.length ca, t0, t1, t2, t3, t4, t5, t6] 33]) (fun (g295, p297, c297, g298, g303) => [(303, .slice (some ⟨g303, 0, none⟩) 1 1), (298, .slice (some ⟨g298, 0, none⟩) 1 1), (297, .slice p297 (has).length c297), (300, .slice p2 vals.length c2), (25, .bool r292), (24, .pointer (some ⟨g24, 0, none⟩)), (229, .bool (decide (((s2 : Nat) : Int) < ((has.length : Nat) : Int)))), (21, .int .i64 ((s2 : Nat) : Int)), (119, .bool (decide (((s1.1 : Nat) : Int) < ((c.args.length : Nat) : Int)))), (17, .int .i64 ((s1.1 : Nat) : Int)), (16, .map (some g114)), (15, .bool (s1.2.2.2.2.2)), (14, .map (some g113)), (112, .bool (c.ty != f.ty)), (65, .bool (!r61)), (13, .bool r61), (12, .pointer (some ⟨g12, 0, none⟩)), (11, .pointer (some ⟨g11, 0, none⟩)), (50, .bool (decide (((vals.length : Nat) : Int) > 2000))), (30, .bool false), (10, .bool false), (9, .pointer (some ⟨g9, 0, none⟩)), (6, .pointer (some ⟨g6, 0, none⟩)), (5, .pointer (some ⟨g5, 0, none⟩)), (0, .agg #[.int .u8 (c.k), .int .i64 (c.ty), .slice pa c.args.length ca, t0, t1, t2, t3, t4, t5, t6]), (1, .agg #[.int .i64 (f.id), .int .i64 (f.ty), .slice px f.args.length cx]), (2, .slice p1 has.length c1), (3, .slice p2 vals.length c2), (4, .agg #[.int .u8 (v0.k), .int .i64 (v0.n), .string v0.s])]) ?_ (fun m8_37 => ?_)
             ·
              rintro ⟨g295, p297, c297, g298, g303⟩ _
              try dsimp only
              refine wx_step2 hok 4 11 rfl rfl rfl rfl rfl rfl ?_ ?_
              ·
               refine wl_appendH [true] 2 1 rfl rfl rfl (freshS_eq rfl) rfl rfl rfl rfl rfl (fun F w hφ => ⟨[.bool true], [], rfl, rfl, rfl, rfl⟩) tE_37 tR_4 rfl rfl (by simp; omega) (by simp; omega) (H2 := fun p299 c299 => [.blk g303 [.int .u8 (v0.k), .int .i64 (v0.n), .string v0.s] 27, .blk g298 [.bool true] 4, .own 4 1 bRep (.slice p299 ((has ++ [true]).length) c299) (has ++ [true]), .blk g24 [.slice p292 e292.has.length c292, .slice p292_2 e292.vals.length c292_2] 41, .own 27 3 vRep (.slice p292_2 e292.vals.length c292_2) e292.vals, .own 4 1 bRep (.slice p292 e292.has.length c292) e292.has, mapF Try.prog 3 4 (mBool tU_4) g114 s1.2.2.1 s1.2.2.2.2.1, mapF Try.prog 3 3 (mInt tU_3) g113 s1.2.1 s1.2.2.2.1, .blk g12 [.slice p61 e61.has.length c61, .slice p61_2 e61.vals.length c61_2] 41, .own 27 3 vRep (.slice p61_2 e61.vals.length c61_2) e61.vals, .own 4 1 bRep (.slice p61 e61.has.length c61) e61.has, .blk g11 [.slice p53 (has).length c53, .slice p55 vals.length c55] 41, .own 27 3 vRep (.slice p55 vals.length c55) vals, .own 4 1 bRep (.slice p53 (has).length c53) has, .blk g9 [.int .u8 (v0.k), .int .i64 (v0.n), .string v0.s] 27, .blk g6 [.int .i64 (f.id), .int .i64 (f.ty), .slice px f.args.length cx] 36, .blk g5 [.int .u8 (c.k), .int .i64 (c.ty), .slice pa c.args.length ca, t0, t1, t2, t3, t4, t5, t6] 33]) (fun _ _ => rfl) (fun p299 c299 => ?_)
               refine wl_drop 1 rfl (H' := [_,_,_,_,_,_,_,_,_,_,_,_,_,_,_,_]) rfl ?_
               refine wl_nil ?_
               refine we_x [0, 1, 2, 3] [13] rfl rfl ?_
               exact wx_at (m5_37 (g295, p297, c297, g298, p299, c299, g303) trivial) rfl [0] [0] [0, 1, 2, 3] [0, 1, 2, 3] [0, 1, 2, 3, 4, 5, 6, 7, 8, 9, 10, 11, 12, 13, 14, 15] [0, 1, 2, 3, 4, 5, 6, 7, 8, 9, 10, 11, 12, 13, 14, 15] [303, 299, 300, 25, 24, 229, 21, 119, 17, 16, 15, 14, 112, 65, 13, 12, 11, 50, 30, 10, 9, 6, 5, 0, 1, 2, 3, 4] rfl rfl rfl rfl rfl rfl rfl rfl
              ·
               refine wl_alloc rfl rfl rfl (freshS_eq rfl) rfl tZ_41 rfl (fun g26 => ?_)
               refine wl_nil ?_
               refine we_x [0, 1, 2, 3] [15] rfl rfl ?_
               exact wx_at (m7_37 (g295, p297, c297, g298, g303, g26) trivial) rfl [0] [0] [0, 1, 2, 3] [0, 1, 2, 3] [0, 1, 2, 3, 4, 5, 6, 7, 8, 9, 10, 11, 12, 13, 14, 15, 16, 17] [0, 1, 2, 3, 4, 5, 6, 7, 8, 9, 10, 11, 12, 13, 14, 15, 16, 17] [26, 303, 298, 297, 300, 25, 24, 229, 21, 119, 17, 16, 15, 14, 112, 65, 13, 12, 11, 50, 30, 10, 9, 6, 5, 0, 1, 2, 3, 4] rfl rfl rfl rfl rfl rfl rfl rfl
             refine wx_memo (σ := Nat × Option Addr × Nat × Nat × Nat) (fun (g295, p297, c297, g298, g26) => True) [11, 3, 2, 0, 7, 5, 1] (fun (g295, p297, c297, g298, g26) => [(7, .blk g9 [.int .u8 (v0.k), .int .i64 (v0.n), .string v0.s] 27)]) (fun (g295, p297, c297, g298, g26) => [.sli 5 aRep pa ca c.args, .sli 3 vRep px cx f.args, .sli 1 bRep p1 c1 has, .sli 3 vRep p2 c2 vals]) (fun (g295, p297, c297, g298, g26) => [.blk g26 [.slice none 0 0, .slice none 0 0] 41, .blk g298 [.bool true] 4, .own 4 1 bRep (.slice p297 (has).length c297) has, .blk g24 [.slice p292 e292.has.length c292, .slice p292_2 e292.vals.length c292_2] 41, .own 27 3 vRep (.slice p292_2 e292.vals.length c292_2) e292.vals, .own 4 1 bRep (.slice p292 e292.has.length c292) e292.has, mapF Try.prog 3 4 (mBool tU_4) g114 s1.2.2.1 s1.2.2.2.2.1, mapF Try.prog 3 3 (mInt tU_3) g113 s1.2.1 s1.2.2.2.1, .blk g12 [.slice p61 e61.has.length c61, .slice p61_2 e61.vals.length c61_2] 41, .own 27 3 vRep (.slice p61_2 e61.vals.length c61_2) e61.vals, .own 4 1 bRep (.slice p61 e61.has.length c61) e61.has, .blk g11 [.slice p53 (has).length c53, .slice p55 vals.length c55] 41, .own 27 3 vRep (.slice p55 vals.length c55) vals, .own 4 1 bRep (.slice p53 (has).length c53) has, .blk g9 [.int .u8 (v0.k), .int .i64 (v0.n), .string v0.s] 27, .blk g6 [.int .i64 (f.id), .int .i64 (f.ty), .slice px f.args.length cx] 36, .blk g5 [.int .u8 (c.k), .int .i64 (c.ty), .slice pa c.args.length ca, t0, t1, t2, t3, t4, t5, t6] 33]) (fun (g295, p297, c297, g298, g26) => [(26, .pointer (some ⟨g26, 0, none⟩)), (298, .slice (some ⟨g298, 0, none⟩) 1 1), (297, .slice p297 (has).length c297), (302, .agg #[.int .u8 (v0.k), .int .i64 (v0.n), .string v0.s]), (300, .slice p2 vals.length c2), (25, .bool r292), (24, .pointer (some ⟨g24, 0, none⟩)), (229, .bool (decide (((s2 : Nat) : Int) < ((has.length : Nat) : Int)))), (21, .int .i64 ((s2 : Nat) : Int)), (119, .bool (decide (((s1.1 : Nat) : Int) < ((c.args.length : Nat) : Int)))), (17, .int .i64 ((s1.1 : Nat) : Int)), (16, .map (some g114)), (15, .bool (s1.2.2.2.2.2)), (14, .map (some g113)), (112, .bool (c.ty != f.ty)), (65, .bool (!r61)), (13, .bool r61), (12, .pointer (some ⟨g12, 0, none⟩)), (11, .pointer (some ⟨g11, 0, none⟩)), (50, .bool (decide (((vals.length : Nat) : Int) > 2000))), (30, .bool false), (10, .bool false), (9, .pointer (some ⟨g9, 0, none⟩)), (6, .pointer (some ⟨g6, 0, none⟩)), (5, .pointer (some ⟨g5, 0, none⟩)), (0, .agg #[.int .u8 (c.k), .int .i64 (c.ty), .slice pa c.args.length ca, t0, t1, t2, t3, t4, t5, t6]), (1, .agg #[.int .i64 (f.id), .int .i64 (f.ty), .slice px f.args.length cx]), (2, .slice p1 has.length c1), (3, .slice p2 vals.length c2), (4, .agg #[.int .u8 (v0.k), .int .i64 (v0.n), .string v0.s])]) ?_ (fun m9_37 => ?_)
             ·
              rintro ⟨g295, p297, c297, g298, g26⟩ _
              try dsimp only
              refine wx_step2 hok 4 8 rfl rfl rfl rfl rfl rfl ?_ ?_
              ·
               refine wl_appendH [true] 2 1 rfl rfl rfl (freshS_eq rfl) rfl rfl rfl rfl rfl (fun F w hφ => ⟨[.bool true], [], rfl, rfl, rfl, rfl⟩) tE_37 tR_4 rfl rfl (by simp; omega) (by simp; omega) (H2 := fun p299 c299 => [.blk g26 [.slice none 0 0, .slice none 0 0] 41, .blk g298 [.bool true] 4, .own 4 1 bRep (.slice p299 ((has ++ [true]).length) c299) (has ++ [true]), .blk g24 [.slice p292 e292.has.length c292, .slice p292_2 e292.vals.length c292_2] 41, .own 27 3 vRep (.slice p292_2 e292.vals.length c292_2) e292.vals, .own 4 1 bRep (.slice p292 e292.has.length c292) e292.has, mapF Try.prog 3 4 (mBool tU_4) g114 s1.2.2.1 s1.2.2.2.2.1, mapF Try.prog 3 3 (mInt tU_3) g113 s1.2.1 s1.2.2.2.1, .blk g12 [.slice p61 e61.has.length c61, .slice p61_2 e61.vals.length c61_2] 41, .own 27 3 vRep (.slice p61_2 e61.vals.length c61_2) e61.vals, .own 4 1 bRep (.slice p61 e61.has.length c61) e61.has, .blk g11 [.slice p53 (has).length c53, .slice p55 vals.length c55] 41, .own 27 3 vRep (.slice p55 vals.length c55) vals, .own 4 1 bRep (.slice p53 (has).length c53) has, .blk g9 [.int .u8 (v0.k), .int .i64 (v0.n), .string v0.s] 27, .blk g6 [.int .i64 (f.id), .int .i64 (f.ty), .slice px f.args.length cx] 36, .blk g5 [.int .u8 (c.k), .int .i64 (c.ty), .slice pa c.args.length ca, t0, t1, t2, t3, t4, t5, t6] 33]) (fun _ _ => rfl) (fun p299 c299 => ?_)
               refine wl_drop 1 rfl (H' := [_,_,_,_,_,_,_,_,_,_,_,_,_,_,_,_]) rfl ?_
               refine wl_nil ?_
               refine we_x [0, 1, 2, 3] [13] rfl rfl ?_
               exact wx_at (m6_37 (g295, p297, c297, g298, p299, c299, g26) trivial) rfl [0] [0] [0, 1, 2, 3] [0, 1, 2, 3] [0, 1, 2, 3, 4, 5, 6, 7, 8, 9, 10, 11, 12, 13, 14, 15] [0, 1, 2, 3, 4, 5, 6, 7, 8, 9, 10, 11, 12, 13, 14, 15] [26, 299, 302, 300, 25, 24, 229, 21, 119, 17, 16, 15, 14, 112, 65, 13, 12, 11, 50, 30, 10, 9, 6, 5, 0, 1, 2, 3, 4] rfl rfl rfl rfl rfl rfl rfl rfl
              ·
               refine wl_buildSlice rfl rfl rfl (freshS_eq rfl) rfl tE_34 tS_27 tZ_27 rfl (zs := [.int .u8 0, .int .i64 0, .string ⟨#[]⟩]) (by kernel_rfl) rfl (out := [_,_,_]) rfl (fun g303 => ?_)
               refine wl_nil ?_
               refine we_x [0, 1, 2, 3] [] rfl rfl ?_
               exact wx_at (m7_37 (g295, p297, c297, g298, g303, g26) trivial) rfl [0] [0] [0, 1, 2, 3] [0, 1, 2, 3] [1, 0, 2, 3, 4, 5, 6, 7, 8, 9, 10, 11, 12, 13, 14, 15, 16, 17] [1, 0, 2, 3, 4, 5, 6, 7, 8, 9, 10, 11, 12, 13, 14, 15, 16, 17] [26, 303, 298, 297, 300, 25, 24, 229, 21, 119, 17, 16, 15, 14, 112, 65, 13, 12, 11, 50, 30, 10, 9, 6, 5, 0, 1, 2, 3, 4] rfl rfl rfl rfl rfl rfl rfl rfl
             refine wx_memo (σ := Nat × Option Addr × Nat × Nat × Nat) (fun (g295, p297, c297, g303, g26) => True) [11, 8, 2, 0, 7, 5, 1] (fun (g295, p297, c297, g303, g26) => [(7, .blk g9 [.int .u8 (v0.k), .int .i64 (v0.n), .string v0.s] 27)]) (fun (g295, p297, c297, g303, g26) => [.sli 5 aRep pa ca c.args, .sli 3 vRep px cx f.args, .sli 1 bRep p1 c1 has, .sli 3 vRep p2 c2 vals]) (fun (g295, p297, c297, g303, g26) => [.blk g26 [.slice none 0 0, .slice none 0 0] 41, .blk g303 [.int .u8 (v0.k), .int .i64 (v0.n), .string v0.s] 27, .own 4 1 bRep (.slice p297 (has).length c297) has, .blk g24 [.slice p292 e292.has.length c292, .slice p292_2 e292.vals.length c292_2] 41, .own 27 3 vRep (.slice p292_2 e292.vals.length c292_2) e292.vals, .own 4 1 bRep (.slice p292 e292.has.length c292) e292.has, mapF Try.prog 3 4 (mBool tU_4) g114 s1.2.2.1 s1.2.2.2.2.1, mapF Try.prog 3 3 (mInt tU_3) g113 s1.2.1 s1.2.2.2.1, .blk g12 [.slice p61 e61.has.length c61, .slice p61_2 e61.vals.length c61_2] 41, .own 27 3 vRep (.slice p61_2 e61.vals.length c61_2) e61.vals, .own 4 1 bRep (.slice p61 e61.has.length c61) e61.has, .blk g11 [.slice p53 (has).length c53, .slice p55 vals.length c55] 41, .own 27 3 vRep (.slice p55 vals.length c55) vals, .own 4 1 bRep (.slice p53 (has).length c53) has, .blk g9 [.int .u8 (v0.k), .int .i64 (v0.n), .string v0.s] 27, .blk g6 [.int .i64 (f.id), .int .i64 (f.ty), .slice px f.args.length cx] 36, .blk g5 [.int .u8 (c.k), .int .i64 (c.ty), .slice pa c.args.length ca, t0, t1, t2, t3, t4, t5, t6] 33]) (fun (g295, p297, c297, g303, g26) => [(26, .pointer (some ⟨g26, 0, none⟩)), (303, .slice (some ⟨g303, 0, none⟩) 1 1), (297, .slice p297 (has).length c297), (300, .slice p2 vals.length c2), (25, .bool r292), (24, .pointer (some ⟨g24, 0, none⟩)), (229, .bool (decide (((s2 : Nat) : Int) < ((has.length : Nat) : Int)))), (21, .int .i64 ((s2 : Nat) : Int)), (119, .bool (decide (((s1.1 : Nat) : Int) < ((c.args.length : Nat) : Int)))), (17, .int .i64 ((s1.1 : Nat) : Int)), (16, .map (some g114)), (15, .bool (s1.2.2.2.2.2)), (14, .map (some g113)), (112, .bool (c.ty != f.ty)), (65, .bool (!r61)), (13, .bool r61), (12, .pointer (some ⟨g12, 0, none⟩)), (11, .pointer (some ⟨g11, 0, none⟩)), (50, .bool (decide (((vals.length : Nat) : Int) > 2000))), (30, .bool false), (10, .bool false), (9, .pointer (some ⟨g9, 0, none⟩)), (6, .pointer (some ⟨g6, 0, none⟩)), (5, .pointer (some ⟨g5, 0, none⟩)), (0, .agg #[.int .u8 (c.k), .int .i64 (c.ty), .slice pa c.args.length ca, t0, t1, t2, t3, t4, t5, t6]), (1, .agg #[.int .i64 (f.id), .int .i64 (f.ty), .slice px f.args.length cx]), (2, .slice p1 has.length c1), (3, .slice p2 vals.length c2), (4, .agg #[.int .u8 (v0.k), .int .i64 (v0.n), .string v0.s])]) ?_ (fun m10_37 => ?_)
             ·
              rintro ⟨g295, p297, c297, g303, g26⟩ _
              try dsimp only
              refine wx_step1 hok 3 rfl rfl rfl rfl ?_
              refine wl_buildSlice rfl rfl rfl (freshS_eq rfl) rfl tE_37 tS_4 tZ_4 rfl (zs := [.bool false]) (by kernel_rfl) rfl (out := [_]) rfl (fun g298 => ?_)
              refine wl_nil ?_
              refine we_x [0, 1, 2, 3] [15] rfl rfl ?_
              exact wx_at (m7_37 (g295, p297, c297, g298, g303, g26) trivial) rfl [0] [0] [0, 1, 2, 3] [0, 1, 2, 3] [1, 2, 0, 3, 4, 5, 6, 7, 8, 9, 10, 11, 12, 13, 14, 15, 16, 17] [2, 0, 1, 3, 4, 5, 6, 7, 8, 9, 10, 11, 12, 13, 14, 15, 16, 17] [26, 303, 298, 297, 300, 25, 24, 229, 21, 119, 17, 16, 15, 14, 112, 65, 13, 12, 11, 50, 30, 10, 9, 6, 5, 0, 1, 2, 3, 4] rfl rfl rfl rfl rfl rfl rfl rfl
             refine wx_memo (σ := Nat × Nat × Nat × Nat) (fun (g295, g298, g303, g26) => True) [11, 8, 3, 0, 7, 5, 1] (fun (g295, g298, g303, g26) => [(7, .blk g9 [.int .u8 (v0.k), .int .i64 (v0.n), .string v0.s] 27)]) (fun (g295, g298, g303, g26) => [.sli 5 aRep pa ca c.args, .sli 3 vRep px cx f.args, .sli 1 bRep p1 c1 has, .sli 3 vRep p2 c2 vals]) (fun (g295, g298, g303, g26) => [.blk g26 [.slice none 0 0, .slice none 0 0] 41, .blk g303 [.int .u8 (v0.k), .int .i64 (v0.n), .string v0.s] 27, .blk g298 [.bool true] 4, .blk g295 [] 4, .blk g24 [.slice p292 e292.has.length c292, .slice p292_2 e292.vals.length c292_2] 41, .own 27 3 vRep (.slice p292_2 e292.vals.length c292_2) e292.vals, .own 4 1 bRep (.slice p292 e292.has.length c292) e292.has, mapF Try.prog 3 4 (mBool tU_4) g114 s1.2.2.1 s1.2.2.2.2.1, mapF Try.prog 3 3 (mInt tU_3) g113 s1.2.1 s1.2.2.2.1, .blk g12 [.slice p61 e61.has.length c61, .slice p61_2 e61.vals.length c61_2] 41, .own 27 3 vRep (.slice p61_2 e61.vals.length c61_2) e61.vals, .own 4 1 bRep (.slice p61 e61.has.length c61) e61.has, .blk g11 [.slice p53 (has).length c53, .slice p55 vals.length c55] 41, .own 27 3 vRep (.slice p55 vals.length c55) vals, .own 4 1 bRep (.slice p53 (has).length c53) has, .blk g9 [.int .u8 (v0.k), .int .i64 (v0.n), .string v0.s] 27, .blk g6 [.int .i64 (f.id), .int .i64 (f.ty), .slice px f.args.length cx] 36, .blk g5 [.int .u8 (c.k), .int .i64 (c.ty), .slice pa c.args.length ca, t0, t1, t2, t3, t4, t5, t6] 33]) (fun (g295, g298, g303, g26) => [(26, .pointer (some ⟨g26, 0, none⟩)), (303, .slice (some ⟨g303, 0, none⟩) 1 1), (298, .slice (some ⟨g298, 0, none⟩) 1 1), (295, .slice (some ⟨g295, 0, none⟩) 0 0), (300, .slice p2 vals.length c2), (296, .slice p1 has.length c1), (25, .bool r292), (24, .pointer (some ⟨g24, 0, none⟩)), (229, .bool (decide (((s2 : Nat) : Int) < ((has.length : Nat) : Int)))), (21, .int .i64 ((s2 : Nat) : Int)), (119, .bool (decide (((s1.1 : Nat) : Int) < ((c.args.length : Nat) : Int)))), (17, .int .i64 ((s1.1 : Nat) : Int)), (16, .map (some g114)), (15, .bool (s1.2.2.2.2.2)), (14, .map (some g113)), (112, .bool (c.ty != f.ty)), (65, .bool (!r61)), (13, .bool r61), (12, .pointer (some ⟨g12, 0, none⟩)), (11, .pointer (some ⟨g11, 0, none⟩)), (50, .bool (decide (((vals.length : Nat) : Int) > 2000))), (30, .bool false), (10, .bool false), (9, .pointer (some ⟨g9, 0, none⟩)), (6, .pointer (some ⟨g6, 0, none⟩)), (5, .pointer (some ⟨g5, 0, none⟩)), (0, .agg #[.int .u8 (c.k), .int .i64 (c.ty), .slice pa c.args.length ca, t0, t1, t2, t3, t4, t5, t6]), (1, .agg #[.int .i64 (f.id), .int .i64 (f.ty), .slice px f.args.length cx]), (2, .slice p1 has.length c1), (3, .slice p2 vals.length c2), (4, .agg #[.int .u8 (v0.k), .int .i64 (v0.n), .string v0.s])]) ?_ (fun m11_37 => ?_)
             ·
              rintro ⟨g295, g298, g303, g26⟩ _
              try dsimp only
              refine wx_step1 hok 2 rfl rfl rfl rfl ?_
              refine wl_row (sz := 1) (m := 0) bRep [] 3 rfl (fun F w hφ => rfl) rfl (by decide) (H' := [_,_,_,_,_,_,_,_,_,_,_,_,_,_,_,_,_,_]) rfl ?_
              refine wl_append 3 2 rfl rfl rfl (freshS_eq rfl) rfl rfl rfl rfl rfl tE_37 tR_4 rfl rfl (by simp; omega) (by simp; omega) (H2 := fun p297 c297 => [.blk g26 [.slice none 0 0, .slice none 0 0] 41, .blk g303 [.int .u8 (v0.k), .int .i64 (v0.n), .string v0.s] 27, .blk g298 [.bool true] 4, .own 4 1 bRep (.slice p297 (has).length c297) has, .blk g24 [.slice p292 e292.has.length c292, .slice p292_2 e292.vals.length c292_2] 41, .own 27 3 vRep (.slice p292_2 e292.vals.length c292_2) e292.vals, .own 4 1 bRep (.slice p292 e292.has.length c292) e292.has, mapF Try.prog 3 4 (mBool tU_4) g114 s1.2.2.1 s1.2.2.2.2.1, mapF Try.prog 3 3 (mInt tU_3) g113 s1.2.1 s1.2.2.2.1, .blk g12 [.slice p61 e61.has.length c61, .slice p61_2 e61.vals.length c61_2] 41, .own 27 3 vRep (.slice p61_2 e61.vals.length c61_2) e61.vals, .own 4 1 bRep (.slice p61 e61.has.length c61) e61.has, .blk g11 [.slice p53 (has).length c53, .slice p55 vals.length c55] 41, .own 27 3 vRep (.slice p55 vals.length c55) vals, .own 4 1 bRep (.slice p53 (has).length c53) has, .blk g9 [.int .u8 (v0.k), .int .i64 (v0.n), .string v0.s] 27, .blk g6 [.int .i64 (f.id), .int .i64 (f.ty), .slice px f.args.length cx] 36, .blk g5 [.int .u8 (c.k), .int .i64 (c.ty), .slice pa c.args.length ca, t0, t1, t2, t3, t4, t5, t6] 33]) (fun _ _ => rfl) (fun p297 c297 => ?_)
              refine wl_nil ?_
              refine we_x [0, 1, 2, 3] [15] rfl rfl ?_
              exact wx_at (m7_37 (g295, p297, c297, g298, g303, g26) trivial) rfl [0] [0] [0, 1, 2, 3] [0, 1, 2, 3] [0, 1, 2, 3, 4, 5, 6, 7, 8, 9, 10, 11, 12, 13, 14, 15, 16, 17] [0, 1, 2, 3, 4, 5, 6, 7, 8, 9, 10, 11, 12, 13, 14, 15, 16, 17] [26, 303, 298, 297, 300, 25, 24, 229, 21, 119, 17, 16, 15, 14, 112, 65, 13, 12, 11, 50, 30, 10, 9, 6, 5, 0, 1, 2, 3, 4] rfl rfl rfl rfl rfl rfl rfl rfl
             refine wx_memo (σ := Nat × Option Addr × Nat × Nat) (fun (g295, p297, c297, g298) => True) [3, 2, 0, 7, 5, 1] (fun (g295, p297, c297, g298) => [(7, .blk g9 [.int .u8 (v0.k), .int .i64 (v0.n), .string v0.s] 27)]) (fun (g295, p297, c297, g298) => [.sli 5 aRep pa ca c.args, .sli 3 vRep px cx f.args, .sli 1 bRep p1 c1 has, .sli 3 vRep p2 c2 vals]) (fun (g295, p297, c297, g298) => [.blk g298 [.bool true] 4, .own 4 1 bRep (.slice p297 (has).length c297) has, .blk g24 [.slice p292 e292.has.length c292, .slice p292_2 e292.vals.length c292_2] 41, .own 27 3 vRep (.slice p292_2 e292.vals.length c292_2) e292.vals, .own 4 1 bRep (.slice p292 e292.has.length c292) e292.has, mapF Try.prog 3 4 (mBool tU_4) g114 s1.2.2.1 s1.2.2.2.2.1, mapF Try.prog 3 3 (mInt tU_3) g113 s1.2.1 s1.2.2.2.1, .blk g12 [.slice p61 e61.has.length c61, .slice p61_2 e61.vals.length c61_2] 41, .own 27 3 vRep (.slice p61_2 e61.vals.length c61_2) e61.vals, .own 4 1 bRep (.slice p61 e61.has.length c61) e61.has, .blk g11 [.slice p53 (has).length c53, .slice p55 vals.length c55] 41, .own 27 3 vRep (.slice p55 vals.length c55) vals, .own 4 1 bRep (.slice p53 (has).length c53) has, .blk g9 [.int .u8 (v0.k), .int .i64 (v0.n), .string v0.s] 27, .blk g6 [.int .i64 (f.id), .int .i64 (f.ty), .slice px f.args.length cx] 36, .blk g5 [.int .u8 (c.k), .int .i64 (c.ty), .slice pa c.args.length ca, t0, t1, t2, t3, t4, t5, t6] 33]) (fun (g295, p297, c297, g298) => [(298, .slice (some ⟨g298, 0, none⟩) 1 1), (297, .slice p297 (has).length c297), (302, .agg #[.int .u8 (v0.k), .int .i64 (v0.n), .string v0.s]), (300, .slice p2 vals.length c2), (25, .bool r292), (24, .pointer (some ⟨g24, 0, none⟩)), (229, .bool (decide (((s2 : Nat) : Int) < ((has.length : Nat) : Int)))), (21, .int .i64 ((s2 : Nat) : Int)), (119, .bool (decide (((s1.1 : Nat) : Int) < ((c.args.length : Nat) : Int)))), (17, .int .i64 ((s1.1 : Nat) : Int)), (16, .map (some g114)), (15, .bool (s1.2.2.2.2.2)), (14, .map (some g113)), (112, .bool (c.ty != f.ty)), (65, .bool (!r61)), (13, .bool r61), (12, .pointer (some ⟨g12, 0, none⟩)), (11, .pointer (some ⟨g11, 0, none⟩)), (50, .bool (decide (((vals.length : Nat) : Int) > 2000))), (30, .bool false), (10, .bool false), (9, .pointer (some ⟨g9, 0, none⟩)), (6, .pointer (some ⟨g6, 0, none⟩)), (5, .pointer (some ⟨g5, 0, none⟩)), (0, .agg #[.int .u8 (c.k), .int .i64 (c.ty), .slice pa c.args.length ca, t0, t1, t2, t3, t4, t5, t6]), (1, .agg #[.int .i64 (f.id), .int .i64 (f.ty), .slice px f.args.length cx]), (2, .slice p1 has.length c1), (3, .slice p2 vals.length c2), (4, .agg #[.int .u8 (v0.k), .int .i64 (v0.n), .string v0.s])]) ?_ (fun m12_37 => ?_)
             ·
              rintro ⟨g295, p297, c297, g298⟩ _
              try dsimp only
              refine wx_step3 hok 4 8 11 rfl rfl rfl rfl rfl rfl rfl rfl ?_ ?_ ?_
              ·
               refine wl_appendH [true] 1 0 rfl rfl rfl (freshS_eq rfl) rfl rfl rfl rfl rfl (fun F w hφ => ⟨[.bool true], [], rfl, rfl, rfl, rfl⟩) tE_37 tR_4 rfl rfl (by simp; omega) (by simp; omega) (H2 := fun p299 c299 => [.blk g298 [.bool true] 4, .own 4 1 bRep (.slice p299 ((has ++ [true]).length) c299) (has ++ [true]), .blk g24 [.slice p292 e292.has.length c292, .slice p292_2 e292.vals.length c292_2] 41, .own 27 3 vRep (.slice p292_2 e292.vals.length c292_2) e292.vals, .own 4 1 bRep (.slice p292 e292.has.length c292) e292.has, mapF Try.prog 3 4 (mBool tU_4) g114 s1.2.2.1 s1.2.2.2.2.1, mapF Try.prog 3 3 (mInt tU_3) g113 s1.2.1 s1.2.2.2.1, .blk g12 [.slice p61 e61.has.length c61, .slice p61_2 e61.vals.length c61_2] 41, .own 27 3 vRep (.slice p61_2 e61.vals.length c61_2) e61.vals, .own 4 1 bRep (.slice p61 e61.has.length c61) e61.has, .blk g11 [.slice p53 (has).length c53, .slice p55 vals.length c55] 41, .own 27 3 vRep (.slice p55 vals.length c55) vals, .own 4 1 bRep (.slice p53 (has).length c53) has, .blk g9 [.int .u8 (v0.k), .int .i64 (v0.n), .string v0.s] 27, .blk g6 [.int .i64 (f.id), .int .i64 (f.ty), .slice px f.args.length cx] 36, .blk g5 [.int .u8 (c.k), .int .i64 (c.ty), .slice pa c.args.length ca, t0, t1, t2, t3, t4, t5, t6] 33]) (fun _ _ => rfl) (fun p299 c299 => ?_)
               refine wl_drop 0 rfl (H' := [_,_,_,_,_,_,_,_,_,_,_,_,_,_,_]) rfl ?_
               refine wl_nil ?_
               refine we_x [0, 1, 2, 3] [12] rfl rfl ?_
               refine wx_step3 hok 6 8 11 rfl rfl rfl rfl rfl rfl rfl rfl ?_ ?_ ?_
               ·
                refine wl_call [] [0, 1, 2, 3, 4, 5, 6, 7, 8, 9, 10, 11, 12, 13, 14] rfl rfl rfl (freshS_eq rfl) rfl rfl fn_6 rfl (CopyValues_s _ _ _ (by omega)) (fun _ _ hφ => ask [3] rfl hφ) rfl (H' := [_,_,_,_,_,_,_,_,_,_,_,_,_,_,_]) rfl ?_
                rintro _ _ _ ⟨p301, c301, rfl, rfl, rfl⟩
                refine wl_nil ?_
                refine we_x [0, 1, 2, 3] [13] rfl rfl ?_
                refine wx_step2 hok 8 11 rfl rfl rfl rfl rfl rfl ?_ ?_
                ·
                 refine wl_buildSlice rfl rfl rfl (freshS_eq rfl) rfl tE_34 tS_27 tZ_27 rfl (zs := [.int .u8 0, .int .i64 0, .string ⟨#[]⟩]) (by kernel_rfl) rfl (out := [_,_,_]) rfl (fun g303 => ?_)
                 refine wl_nil ?_
                 refine we_x [0, 1, 2, 3] [] rfl rfl ?_
                 exact wx_at (m2_37 (g295, p297, c297, g298, p299, c299, p301, c301, g303) trivial) rfl [0] [0] [0, 1, 2, 3] [0, 1, 2, 3] [0, 1, 2, 3, 4, 5, 6, 7, 8, 9, 10, 11, 12, 13, 14, 15, 16] [0, 1, 2, 3, 4, 5, 6, 7, 8, 9, 10, 11, 12, 13, 14, 15, 16] [303, 301, 299, 25, 24, 229, 21, 119, 17, 16, 15, 14, 112, 65, 13, 12, 11, 50, 30, 10, 9, 6, 5, 0, 1, 2, 3, 4] rfl rfl rfl rfl rfl rfl rfl rfl
                ·
                 refine wl_alloc rfl rfl rfl (freshS_eq rfl) rfl tZ_41 rfl (fun g26 => ?_)
                 refine wl_nil ?_
                 refine we_x [0, 1, 2, 3] [14] rfl rfl ?_
                 exact wx_at (m3_37 (g295, p297, c297, g298, p299, c299, p301, c301, g26) trivial) rfl [0] [0] [0, 1, 2, 3] [0, 1, 2, 3] [0, 1, 2, 3, 4, 5, 6, 7, 8, 9, 10, 11, 12, 13, 14, 15, 16] [0, 1, 2, 3, 4, 5, 6, 7, 8, 9, 10, 11, 12, 13, 14, 15, 16] [26, 301, 299, 302, 25, 24, 229, 21, 119, 17, 16, 15, 14, 112, 65, 13, 12, 11, 50, 30, 10, 9, 6, 5, 0, 1, 2, 3, 4] rfl rfl rfl rfl rfl rfl rfl rfl
               ·
                refine wl_buildSlice rfl rfl rfl (freshS_eq rfl) rfl tE_34 tS_27 tZ_27 rfl (zs := [.int .u8 0, .int .i64 0, .string ⟨#[]⟩]) (by kernel_rfl) rfl (out := [_,_,_]) rfl (fun g303 => ?_)
                refine wl_nil ?_
                refine we_x [0, 1, 2, 3] [] rfl rfl ?_
                exact wx_at (m5_37 (g295, p297, c297, g298, p299, c299, g303) trivial) rfl [0] [0] [0, 1, 2, 3] [0, 1, 2, 3] [0, 1, 2, 3, 4, 5, 6, 7, 8, 9, 10, 11, 12, 13, 14, 15] [0, 1, 2, 3, 4, 5, 6, 7, 8, 9, 10, 11, 12, 13, 14, 15] [303, 299, 300, 25, 24, 229, 21, 119, 17, 16, 15, 14, 112, 65, 13, 12, 11, 50, 30, 10, 9, 6, 5, 0, 1, 2, 3, 4] rfl rfl rfl rfl rfl rfl rfl rfl
               ·
                refine wl_alloc rfl rfl rfl (freshS_eq rfl) rfl tZ_41 rfl (fun g26 => ?_)
                refine wl_nil ?_
                refine we_x [0, 1, 2, 3] [13] rfl rfl ?_
                exact wx_at (m6_37 (g295, p297, c297, g298, p299, c299, g26) trivial) rfl [0] [0] [0, 1, 2, 3] [0, 1, 2, 3] [0, 1, 2, 3, 4, 5, 6, 7, 8, 9, 10, 11, 12, 13, 14, 15] [0, 1, 2, 3, 4, 5, 6, 7, 8, 9, 10, 11, 12, 13, 14, 15] [26, 299, 302, 300, 25, 24, 229, 21, 119, 17, 16, 15, 14, 112, 65, 13, 12, 11, 50, 30, 10, 9, 6, 5, 0, 1, 2, 3, 4] rfl rfl rfl rfl rfl rfl rfl rfl
              ·
               refine wl_buildSlice rfl rfl rfl (freshS_eq rfl) rfl tE_34 tS_27 tZ_27 rfl (zs := [.int .u8 0, .int .i64 0, .string ⟨#[]⟩]) (by kernel_rfl) rfl (out := [_,_,_]) rfl (fun g303 => ?_)
               refine wl_nil ?_
               refine we_x [0, 1, 2, 3] [] rfl rfl ?_
               exact wx_at (m8_37 (g295, p297, c297, g298, g303) trivial) rfl [0] [0] [0, 1, 2, 3] [0, 1, 2, 3] [0, 1, 2, 3, 4, 5, 6, 7, 8, 9, 10, 11, 12, 13, 14, 15, 16] [0, 1, 2, 3, 4, 5, 6, 7, 8, 9, 10, 11, 12, 13, 14, 15, 16] [303, 298, 297, 300, 25, 24, 229, 21, 119, 17, 16, 15, 14, 112, 65, 13, 12, 11, 50, 30, 10, 9, 6, 5, 0, 1, 2, 3, 4] rfl rfl rfl rfl rfl rfl rfl rfl
              ·
               refine wl_alloc rfl rfl rfl (freshS_eq rfl) rfl tZ_41 rfl (fun g26 => ?_)
               refine wl_nil ?_
               refine we_x [0, 1, 2, 3] [14] rfl rfl ?_
               exact wx_at (m9_37 (g295, p297, c297, g298, g26) trivial) rfl [0] [0] [0, 1, 2, 3] [0, 1, 2, 3] [0, 1, 2, 3, 4, 5, 6, 7, 8, 9, 10, 11, 12, 13, 14, 15, 16] [0, 1, 2, 3, 4, 5, 6, 7, 8, 9, 10, 11, 12, 13, 14, 15, 16] [26, 298, 297, 302, 300, 25, 24, 229, 21, 119, 17, 16, 15, 14, 112, 65, 13, 12, 11, 50, 30, 10, 9, 6, 5, 0, 1, 2, 3, 4] rfl rfl rfl rfl rfl rfl rfl rfl
             refine wx_memo (σ := Nat × Option Addr × Nat × Nat) (fun (g295, p297, c297, g303) => True) [8, 2, 0, 7, 5, 1] (fun (g295, p297, c297, g303) => [(7, .blk g9 [.int .u8 (v0.k), .int .i64 (v0.n), .string v0.s] 27)]) (fun (g295, p297, c297, g303) => [.sli 5 aRep pa ca c.args, .sli 3 vRep px cx f.args, .sli 1 bRep p1 c1 has, .sli 3 vRep p2 c2 vals]) (fun (g295, p297, c297, g303) => [.blk g303 [.int .u8 (v0.k), .int .i64 (v0.n), .string v0.s] 27, .own 4 1 bRep (.slice p297 (has).length c297) has, .blk g24 [.slice p292 e292.has.length c292, .slice p292_2 e292.vals.length c292_2] 41, .own 27 3 vRep (.slice p292_2 e292.vals.length c292_2) e292.vals, .own 4 1 bRep (.slice p292 e292.has.length c292) e292.has, mapF Try.prog 3 4 (mBool tU_4) g114 s1.2.2.1 s1.2.2.2.2.1, mapF Try.prog 3 3 (mInt tU_3) g113 s1.2.1 s1.2.2.2.1, .blk g12 [.slice p61 e61.has.length c61, .slice p61_2 e61.vals.length c61_2] 41, .own 27 3 vRep (.slice p61_2 e61.vals.length c61_2) e61.vals, .own 4 1 bRep (.slice p61 e61.has.length c61) e61.has, .blk g11 [.slice p53 (has).length c53, .slice p55 vals.length c55] 41, .own 27 3 vRep (.slice p55 vals.length c55) vals, .own 4 1 bRep (.slice p53 (has).length c53) has, .blk g9 [.int .u8 (v0.k), .int .i64 (v0.n), .string v0.s] 27, .blk g6 [.int .i64 (f.id), .int .i64 (f.ty), .slice px f.args.length cx] 36, .blk g5 [.int .u8 (c.k), .int .i64 (c.ty), .slice pa c.args.length ca, t0, t1, t2, t3, t4, t5, t6] 33]) (fun (g295, p297, c297, g303) => [(303, .slice (some ⟨g303, 0, none⟩) 1 1), (297, .slice p297 (has).length c297), (300, .slice p2 vals.length c2), (25, .bool r292), (24, .pointer (some ⟨g24, 0, none⟩)), (229, .bool (decide (((s2 : Nat) : Int) < ((has.length : Nat) : Int)))), (21, .int .i64 ((s2 : Nat) : Int)), (119, .bool (decide (((s1.1 : Nat) : Int) < ((c.args.length : Nat) : Int)))), (17, .int .i64 ((s1.1 : Nat) : Int)), (16, .map (some g114)), (15, .bool (s1.2.2.2.2.2)), (14, .map (some g113)), (112, .bool (c.ty != f.ty)), (65, .bool (!r61)), (13, .bool r61), (12, .pointer (some ⟨g12, 0, none⟩)), (11, .pointer (some ⟨g11, 0, none⟩)), (50, .bool (decide (((vals.length : Nat) : Int) > 2000))), (30, .bool false), (10, .bool false), (9, .pointer (some ⟨g9, 0, none⟩)), (6, .pointer (some ⟨g6, 0, none⟩)), (5, .pointer (some ⟨g5, 0, none⟩)), (0, .agg #[.int .u8 (c.k), .int .i64 (c.ty), .slice pa c.args.length ca, t0, t1, t2, t3, t4, t5, t6]), (1, .agg #[.int .i64 (f.id), .int .i64 (f.ty), .slice px f.args.length cx]), (2, .slice p1 has.length c1), (3, .slice p2 vals.length c2), (4, .agg #[.int .u8 (v0.k), .int .i64 (v0.n), .string v0.s])]) ?_ (fun m13_37 => ?_)
             ·
              rintro ⟨g295, p297, c297, g303⟩ _
              try dsimp only
              refine wx_step2 hok 3 11 rfl rfl rfl rfl rfl rfl ?_ ?_
              ·
               refine wl_buildSlice rfl rfl rfl (freshS_eq rfl) rfl tE_37 tS_4 tZ_4 rfl (zs := [.bool false]) (by kernel_rfl) rfl (out := [_]) rfl (fun g298 => ?_)
               refine wl_nil ?_
               refine we_x [0, 1, 2, 3] [14] rfl rfl ?_
               exact wx_at (m8_37 (g295, p297, c297, g298, g303) trivial) rfl [0] [0] [0, 1, 2, 3] [0, 1, 2, 3] [1, 0, 2, 3, 4, 5, 6, 7, 8, 9, 10, 11, 12, 13, 14, 15, 16] [1, 0, 2, 3, 4, 5, 6, 7, 8, 9, 10, 11, 12, 13, 14, 15, 16] [303, 298, 297, 300, 25, 24, 229, 21, 119, 17, 16, 15, 14, 112, 65, 13, 12, 11, 50, 30, 10, 9, 6, 5, 0, 1, 2, 3, 4] rfl rfl rfl rfl rfl rfl rfl rfl
              ·
               refine wl_alloc rfl rfl rfl (freshS_eq rfl) rfl tZ_41 rfl (fun g26 => ?_)
               refine wl_nil ?_
               refine we_x [0, 1, 2, 3] [14] rfl rfl ?_
               exact wx_at (m10_37 (g295, p297, c297, g303, g26) trivial) rfl [0] [0] [0, 1, 2, 3] [0, 1, 2, 3] [0, 1, 2, 3, 4, 5, 6, 7, 8, 9, 10, 11, 12, 13, 14, 15, 16] [0, 1, 2, 3, 4, 5, 6, 7, 8, 9, 10, 11, 12, 13, 14, 15, 16] [26, 303, 297, 300, 25, 24, 229, 21, 119, 17, 16, 15, 14, 112, 65, 13, 12, 11, 50, 30, 10, 9, 6, 5, 0, 1, 2, 3, 4] rfl rfl rfl rfl rfl rfl rfl rfl
             refine wx_memo (σ := Nat × Option Addr × Nat × Nat) (fun (g295, p297, c297, g26) => True) [11, 2, 0, 7, 5, 1] (fun (g295, p297, c297, g26) => [(7, .blk g9 [.int .u8 (v0.k), .int .i64 (v0.n), .string v0.s] 27)]) (fun (g295, p297, c297, g26) => [.sli 5 aRep pa ca c.args, .sli 3 vRep px cx f.args, .sli 1 bRep p1 c1 has, .sli 3 vRep p2 c2 vals]) (fun (g295, p297, c297, g26) => [.blk g26 [.slice none 0 0, .slice none 0 0] 41, .own 4 1 bRep (.slice p297 (has).length c297) has, .blk g24 [.slice p292 e292.has.length c292, .slice p292_2 e292.vals.length c292_2] 41, .own 27 3 vRep (.slice p292_2 e292.vals.length c292_2) e292.vals, .own 4 1 bRep (.slice p292 e292.has.length c292) e292.has, mapF Try.prog 3 4 (mBool tU_4) g114 s1.2.2.1 s1.2.2.2.2.1, mapF Try.prog 3 3 (mInt tU_3) g113 s1.2.1 s1.2.2.2.1, .blk g12 [.slice p61 e61.has.length c61, .slice p61_2 e61.vals.length c61_2] 41, .own 27 3 vRep (.slice p61_2 e61.vals.length c61_2) e61.vals, .own 4 1 bRep (.slice p61 e61.has.length c61) e61.has, .blk g11 [.slice p53 (has).length c53, .slice p55 vals.length c55] 41, .own 27 3 vRep (.slice p55 vals.length c55) vals, .own 4 1 bRep (.slice p53 (has).length c53) has, .blk g9 [.int .u8 (v0.k), .int .i64 (v0.n), .string v0.s] 27, .blk g6 [.int .i64 (f.id), .int .i64 (f.ty), .slice px f.args.length cx] 36, .blk g5 [.int .u8 (c.k), .int .i64 (c.ty), .slice pa c.args.length ca, t0, t1, t2, t3, t4, t5, t6] 33]) (fun (g295, p297, c297, g26) => [(26, .pointer (some ⟨g26, 0, none⟩)), (297, .slice p297 (has).length c297), (302, .agg #[.int .u8 (v0.k), .int .i64 (v0.n), .string v0.s]), (300, .slice p2 vals.length c2), (25, .bool r292), (24, .pointer (some ⟨g24, 0, none⟩)), (229, .bool (decide (((s2 : Nat) : Int) < ((has.length : Nat) : Int)))), (21, .int .i64 ((s2 : Nat) : Int)), (119, .bool (decide (((s1.1 : Nat) : Int) < ((c.args.length : Nat) : Int)))), (17, .int .i64 ((s1.1 : Nat) : Int)), (16, .map (some g114)), (15, .bool (s1.2.2.2.2.2)), (14, .map (some g113)), (112, .bool (c.ty != f.ty)), (65, .bool (!r61)), (13, .bool r61), (12, .pointer (some ⟨g12, 0, none⟩)), (11, .pointer (some ⟨g11, 0, none⟩)), (50, .bool (decide (((vals.length : Nat) : Int) > 2000))), (30, .bool false), (10, .bool false), (9, .pointer (some ⟨g9, 0, none⟩)), (6, .pointer (some ⟨g6, 0, none⟩)), (5, .pointer (some ⟨g5, 0, none⟩)), (0, .agg #[.int .u8 (c.k), .int .i64 (c.ty), .slice pa c.args.length ca, t0, t1, t2, t3, t4, t5, t6]), (1, .agg #[.int .i64 (f.id), .int .i64 (f.ty), .slice px f.args.length cx]), (2, .slice p1 has.length c1), (3, .slice p2 vals.length c2), (4, .agg #[.int .u8 (v0.k), .int .i64 (v0.n), .string v0.s])]) ?_ (fun m14_37 => ?_)
             ·
              rintro ⟨g295, p297, c297, g26⟩ _
              try dsimp only
              refine wx_step2 hok 3 8 rfl rfl rfl rfl rfl rfl ?_ ?_
              ·
               refine wl_buildSlice rfl rfl rfl (freshS_eq rfl) rfl tE_37 tS_4 tZ_4 rfl (zs := [.bool false]) (by kernel_rfl) rfl (out := [_]) rfl (fun g298 => ?_)
               refine wl_nil ?_
               refine we_x [0, 1, 2, 3] [14] rfl rfl ?_
               exact wx_at (m9_37 (g295, p297, c297, g298, g26) trivial) rfl [0] [0] [0, 1, 2, 3] [0, 1, 2, 3] [1, 0, 2, 3, 4, 5, 6, 7, 8, 9, 10, 11, 12, 13, 14, 15, 16] [1, 0, 2, 3, 4, 5, 6, 7, 8, 9, 10, 11, 12, 13, 14, 15, 16] [26, 298, 297, 302, 300, 25, 24, 229, 21, 119, 17, 16, 15, 14, 112, 65, 13, 12, 11, 50, 30, 10, 9, 6, 5, 0, 1, 2, 3, 4] rfl rfl rfl rfl rfl rfl rfl rfl
              ·
               refine wl_buildSlice rfl rfl rfl (freshS_eq rfl) rfl tE_34 tS_27 tZ_27 rfl (zs := [.int .u8 0, .int .i64 0, .string ⟨#[]⟩]) (by kernel_rfl) rfl (out := [_,_,_]) rfl (fun g303 => ?_)
               refine wl_nil ?_
               refine we_x [0, 1, 2, 3] [] rfl rfl ?_
               exact wx_at (m10_37 (g295, p297, c297, g303, g26) trivial) rfl [0] [0] [0, 1, 2, 3] [0, 1, 2, 3] [1, 0, 2, 3, 4, 5, 6, 7, 8, 9, 10, 11, 12, 13, 14, 15, 16] [1, 0, 2, 3, 4, 5, 6, 7, 8, 9, 10, 11, 12, 13, 14, 15, 16] [26, 303, 297, 300, 25, 24, 229, 21, 119, 17, 16, 15, 14, 112, 65, 13, 12, 11, 50, 30, 10, 9, 6, 5, 0, 1, 2, 3, 4] rfl rfl rfl rfl rfl rfl rfl rfl
             refine wx_memo (σ := Nat × Nat × Nat) (fun (g295, g298, g303) => True) [8, 3, 0, 7, 5, 1] (fun (g295, g298, g303) => [(7, .blk g9 [.int .u8 (v0.k), .int .i64 (v0.n), .string v0.s] 27)]) (fun (g295, g298, g303) => [.sli 5 aRep pa ca c.args, .sli 3 vRep px cx f.args, .sli 1 bRep p1 c1 has, .sli 3 vRep p2 c2 vals]) (fun (g295, g298, g303) => [.blk g303 [.int .u8 (v0.k), .int .i64 (v0.n), .string v0.s] 27, .blk g298 [.bool true] 4, .blk g295 [] 4, .blk g24 [.slice p292 e292.has.length c292, .slice p292_2 e292.vals.length c292_2] 41, .own 27 3 vRep (.slice p292_2 e292.vals.length c292_2) e292.vals, .own 4 1 bRep (.slice p292 e292.has.length c292) e292.has, mapF Try.prog 3 4 (mBool tU_4) g114 s1.2.2.1 s1.2.2.2.2.1, mapF Try.prog 3 3 (mInt tU_3) g113 s1.2.1 s1.2.2.2.1, .blk g12 [.slice p61 e61.has.length c61, .slice p61_2 e61.vals.length c61_2] 41, .own 27 3 vRep (.slice p61_2 e61.vals.length c61_2) e61.vals, .own 4 1 bRep (.slice p61 e61.has.length c61) e61.has, .blk g11 [.slice p53 (has).length c53, .slice p55 vals.length c55] 41, .own 27 3 vRep (.slice p55 vals.length c55) vals, .own 4 1 bRep (.slice p53 (has).length c53) has, .blk g9 [.int .u8 (v0.k), .int .i64 (v0.n), .string v0.s] 27, .blk g6 [.int .i64 (f.id), .int .i64 (f.ty), .slice px f.args.length cx] 36, .blk g5 [.int .u8 (c.k), .int .i64 (c.ty), .slice pa c.args.length ca, t0, t1, t2, t3, t4, t5, t6] 33]) (fun (g295, g298, g303) => [(303, .slice (some ⟨g303, 0, none⟩) 1 1), (298, .slice (some ⟨g298, 0, none⟩) 1 1), (295, .slice (some ⟨g295, 0, none⟩) 0 0), (300, .slice p2 vals.length c2), (296, .slice p1 has.length c1), (25, .bool r292), (24, .pointer (some ⟨g24, 0, none⟩)), (229, .bool (decide (((s2 : Nat) : Int) < ((has.length : Nat) : Int)))), (21, .int .i64 ((s2 : Nat) : Int)), (119, .bool (decide (((s1.1 : Nat) : Int) < ((c.args.length : Nat) : Int)))), (17, .int .i64 ((s1.1 : Nat) : Int)), (16, .map (some g114)), (15, .bool (s1.2.2.2.2.2)), (14, .map (some g113)), (112, .bool (c.ty != f.ty)), (65, .bool (!r61)), (13, .bool r61), (12, .pointer (some ⟨g12, 0, none⟩)), (11, .pointer (some ⟨g11, 0, none⟩)), (50, .bool (decide (((vals.length : Nat) : Int) > 2000))), (30, .bool false), (10, .bool false), (9, .pointer (some ⟨g9, 0, none⟩)), (6, .pointer (some ⟨g6, 0, none⟩)), (5, .pointer (some ⟨g5, 0, none⟩)), (0, .agg #[.int .u8 (c.k), .int .i64 (c.ty), .slice pa c.args.length ca, t0, t1, t2, t3, t4, t5, t6]), (1, .agg #[.int .i64 (f.id), .int .i64 (f.ty), .slice px f.args.length cx]), (2, .slice p1 has.length c1), (3, .slice p2 vals.length c2), (4, .agg #[.int .u8 (v0.k), .int .i64 (v0.n), .string v0.s])]) ?_ (fun m15_37 => ?_)
             ·
              rintro ⟨g295, g298, g303⟩ _
              try dsimp only
              refine wx_step2 hok 2 11 rfl rfl rfl rfl rfl rfl ?_ ?_
              ·
               refine wl_row (sz := 1) (m := 0) bRep [] 2 rfl (fun F w hφ => rfl) rfl (by decide) (H' := [_,_,_,_,_,_,_,_,_,_,_,_,_,_,_,_,_]) rfl ?_
               refine wl_append 2 2 rfl rfl rfl (freshS_eq rfl) rfl rfl rfl rfl rfl tE_37 tR_4 rfl rfl (by simp; omega) (by simp; omega) (H2 := fun p297 c297 => [.blk g303 [.int .u8 (v0.k), .int .i64 (v0.n), .string v0.s] 27, .blk g298 [.bool true] 4, .own 4 1 bRep (.slice p297 (has).length c297) has, .blk g24 [.slice p292 e292.has.length c292, .slice p292_2 e292.vals.length c292_2] 41, .own 27 3 vRep (.slice p292_2 e292.vals.length c292_2) e292.vals, .own 4 1 bRep (.slice p292 e292.has.length c292) e292.has, mapF Try.prog 3 4 (mBool tU_4) g114 s1.2.2.1 s1.2.2.2.2.1, mapF Try.prog 3 3 (mInt tU_3) g113 s1.2.1 s1.2.2.2.1, .blk g12 [.slice p61 e61.has.length c61, .slice p61_2 e61.vals.length c61_2] 41, .own 27 3 vRep (.slice p61_2 e61.vals.length c61_2) e61.vals, .own 4 1 bRep (.slice p61 e61.has.length c61) e61.has, .blk g11 [.slice p53 (has).length c53, .slice p55 vals.length c55] 41, .own 27 3 vRep (.slice p55 vals.length c55) vals, .own 4 1 bRep (.slice p53 (has).length c53) has, .blk g9 [.int .u8 (v0.k), .int .i64 (v0.n), .string v0.s] 27, .blk g6 [.int .i64 (f.id), .int .i64 (f.ty), .slice px f.args.length cx] 36, .blk g5 [.int .u8 (c.k), .int .i64 (c.ty), .slice pa c.args.length ca, t0, t1, t2, t3, t4, t5, t6] 33]) (fun _ _ => rfl) (fun p297 c297 => ?_)
               refine wl_nil ?_
               refine we_x [0, 1, 2, 3] [14] rfl rfl ?_
               exact wx_at (m8_37 (g295, p297, c297, g298, g303) trivial) rfl [0] [0] [0, 1, 2, 3] [0, 1, 2, 3] [0, 1, 2, 3, 4, 5, 6, 7, 8, 9, 10, 11, 12, 13, 14, 15, 16] [0, 1, 2, 3, 4, 5, 6, 7, 8, 9, 10, 11, 12, 13, 14, 15, 16] [303, 298, 297, 300, 25, 24, 229, 21, 119, 17, 16, 15, 14, 112, 65, 13, 12, 11, 50, 30, 10, 9, 6, 5, 0, 1, 2, 3, 4] rfl rfl rfl rfl rfl rfl rfl rfl
              ·
               refine wl_alloc rfl rfl rfl (freshS_eq rfl) rfl tZ_41 rfl (fun g26 => ?_)
               refine wl_nil ?_
               refine we_x [0, 1, 2, 3] [15] rfl rfl ?_
               exact wx_at (m11_37 (g295, g298, g303, g26) trivial) rfl [0] [0] [0, 1, 2, 3] [0, 1, 2, 3] [0, 1, 2, 3, 4, 5, 6, 7, 8, 9, 10, 11, 12, 13, 14, 15, 16, 17] [0, 1, 2, 3, 4, 5, 6, 7, 8, 9, 10, 11, 12, 13, 14, 15, 16, 17] [26, 303, 298, 295, 300, 296, 25, 24, 229, 21, 119, 17, 16, 15, 14, 112, 65, 13, 12, 11, 50, 30, 10, 9, 6, 5, 0, 1, 2, 3, 4] rfl rfl rfl rfl rfl rfl rfl rfl
             refine wx_memo (σ := Nat × Nat × Nat) (fun (g295, g298, g26) => True) [11, 3, 0, 7, 5, 1] (fun (g295, g298, g26) => [(7, .blk g9 [.int .u8 (v0.k), .int .i64 (v0.n), .string v0.s] 27)]) (fun (g295, g298, g26) => [.sli 5 aRep pa ca c.args, .sli 3 vRep px cx f.args, .sli 1 bRep p1 c1 has, .sli 3 vRep p2 c2 vals]) (fun (g295, g298, g26) => [.blk g26 [.slice none 0 0, .slice none 0 0] 41, .blk g298 [.bool true] 4, .blk g295 [] 4, .blk g24 [.slice p292 e292.has.length c292, .slice p292_2 e292.vals.length c292_2] 41, .own 27 3 vRep (.slice p292_2 e292.vals.length c292_2) e292.vals, .own 4 1 bRep (.slice p292 e292.has.length c292) e292.has, mapF Try.prog 3 4 (mBool tU_4) g114 s1.2.2.1 s1.2.2.2.2.1, mapF Try.prog 3 3 (mInt tU_3) g113 s1.2.1 s1.2.2.2.1, .blk g12 [.slice p61 e61.has.length c61, .slice p61_2 e61.vals.length c61_2] 41, .own 27 3 vRep (.slice p61_2 e61.vals.length c61_2) e61.vals, .own 4 1 bRep (.slice p61 e61.has.length c61) e61.has, .blk g11 [.slice p53 (has).length c53, .slice p55 vals.length c55] 41, .own 27 3 vRep (.slice p55 vals.length c55) vals, .own 4 1 bRep (.slice p53 (has).length c53) has, .blk g9 [.int .u8 (v0.k), .int .i64 (v0.n), .string v0.s] 27, .blk g6 [.int .i64 (f.id), .int .i64 (f.ty), .slice px f.args.length cx] 36, .blk g5 [.int .u8 (c.k), .int .i64 (c.ty), .slice pa c.args.length ca, t0, t1, t2, t3, t4, t5, t6] 33]) (fun (g295, g298, g26) => [(26, .pointer (some ⟨g26, 0, none⟩)), (298, .slice (some ⟨g298, 0, none⟩) 1 1), (295, .slice (some ⟨g295, 0, none⟩) 0 0), (302, .agg #[.int .u8 (v0.k), .int .i64 (v0.n), .string v0.s]), (300, .slice p2 vals.length c2), (296, .slice p1 has.length c1), (25, .bool r292), (24, .pointer (some ⟨g24, 0, none⟩)), (229, .bool (decide (((s2 : Nat) : Int) < ((has.length : Nat) : Int)))), (21, .int .i64 ((s2 : Nat) : Int)), (119, .bool (decide (((s1.1 : Nat) : Int) < ((c.args.length : Nat) : Int)))), (17, .int .i64 ((s1.1 : Nat) : Int)), (16, .map (some g114)), (15, .bool (s1.2.2.2.2.2)), (14, .map (some g113)), (112, .bool (c.ty != f.ty)), (65, .bool (!r61)), (13, .bool r61), (12, .pointer (some ⟨g12, 0, none⟩)), (11, .pointer (some ⟨g11, 0, none⟩)), (50, .bool (decide (((vals.length : Nat) : Int) > 2000))), (30, .bool false), (10, .bool false), (9, .pointer (some ⟨g9, 0, none⟩)), (6, .pointer (some ⟨g6, 0, none⟩)), (5, .pointer (some ⟨g5, 0, none⟩)), (0, .agg #[.int .u8 (c.k), .int .i64 (c.ty), .slice pa c.args.length ca, t0, t1, t2, t3, t4, t5, t6]), (1, .agg #[.int .i64 (f.id), .int .i64 (f.ty), .slice px f.args.length cx]), (2, .slice p1 has.length c1), (3, .slice p2 vals.length c2), (4, .agg #[.int .u8 (v0.k), .int .i64 (v0.n), .string v0.s])]) ?_ (fun m16_37 => ?_)
             ·
              rintro ⟨g295, g298, g26⟩ _
              try dsimp only
              refine wx_step2 hok 2 8 rfl rfl rfl rfl rfl rfl ?_ ?_
              ·
               refine wl_row (sz := 1) (m := 0) bRep [] 2 rfl (fun F w hφ => rfl) rfl (by decide) (H' := [_,_,_,_,_,_,_,_,_,_,_,_,_,_,_,_,_]) rfl ?_
               refine wl_append 2 2 rfl rfl rfl (freshS_eq rfl) rfl rfl rfl rfl rfl tE_37 tR_4 rfl rfl (by simp; omega) (by simp; omega) (H2 := fun p297 c297 => [.blk g26 [.slice none 0 0, .slice none 0 0] 41, .blk g298 [.bool true] 4, .own 4 1 bRep (.slice p297 (has).length c297) has, .blk g24 [.slice p292 e292.has.length c292, .slice p292_2 e292.vals.length c292_2] 41, .own 27 3 vRep (.slice p292_2 e292.vals.length c292_2) e292.vals, .own 4 1 bRep (.slice p292 e292.has.length c292) e292.has, mapF Try.prog 3 4 (mBool tU_4) g114 s1.2.2.1 s1.2.2.2.2.1, mapF Try.prog 3 3 (mInt tU_3) g113 s1.2.1 s1.2.2.2.1, .blk g12 [.slice p61 e61.has.length c61, .slice p61_2 e61.vals.length c61_2] 41, .own 27 3 vRep (.slice p61_2 e61.vals.length c61_2) e61.vals, .own 4 1 bRep (.slice p61 e61.has.length c61) e61.has, .blk g11 [.slice p53 (has).length c53, .slice p55 vals.length c55] 41, .own 27 3 vRep (.slice p55 vals.length c55) vals, .own 4 1 bRep (.slice p53 (has).length c53) has, .blk g9 [.int .u8 (v0.k), .int .i64 (v0.n), .string v0.s] 27, .blk g6 [.int .i64 (f.id), .int .i64 (f.ty), .slice px f.args.length cx] 36, .blk g5 [.int .u8 (c.k), .int .i64 (c.ty), .slice pa c.args.length ca, t0, t1, t2, t3, t4, t5, t6] 33]) (fun _ _ => rfl) (fun p297 c297 => ?_)
               refine wl_nil ?_
               refine we_x [0, 1, 2, 3] [14] rfl rfl ?_
               exact wx_at (m9_37 (g295, p297, c297, g298, g26) trivial) rfl [0] [0] [0, 1, 2, 3] [0, 1, 2, 3] [0, 1, 2, 3, 4, 5, 6, 7, 8, 9, 10, 11, 12, 13, 14, 15, 16] [0, 1, 2, 3, 4, 5, 6, 7, 8, 9, 10, 11, 12, 13, 14, 15, 16] [26, 298, 297, 302, 300, 25, 24, 229, 21, 119, 17, 16, 15, 14, 112, 65, 13, 12, 11, 50, 30, 10, 9, 6, 5, 0, 1, 2, 3, 4] rfl rfl rfl rfl rfl rfl rfl rfl
              ·
               refine wl_buildSlice rfl rfl rfl (freshS_eq rfl) rfl tE_34 tS_27 tZ_27 rfl (zs := [.int .u8 0, .int .i64 0, .string ⟨#[]⟩]) (by kernel_rfl) rfl (out := [_,_,_]) rfl (fun g303 => ?_)
               refine wl_nil ?_
               refine we_x [0, 1, 2, 3] [] rfl rfl ?_
               exact wx_at (m11_37 (g295, g298, g303, g26) trivial) rfl [0] [0] [0, 1, 2, 3] [0, 1, 2, 3] [1, 0, 2, 3, 4, 5, 6, 7, 8, 9, 10, 11, 12, 13, 14, 15, 16, 17] [1, 0, 2, 3, 4, 5, 6, 7, 8, 9, 10, 11, 12, 13, 14, 15, 16, 17] [26, 303, 298, 295, 300, 296, 25, 24, 229, 21, 119, 17, 16, 15, 14, 112, 65, 13, 12, 11, 50, 30, 10, 9, 6, 5, 0, 1, 2, 3, 4] rfl rfl rfl rfl rfl rfl rfl rfl
             refine wx_memo (σ := Nat × Nat × Nat) (fun (g295, g303, g26) => True) [11, 8, 0, 7, 5, 1] (fun (g295, g303, g26) => [(7, .blk g9 [.int .u8 (v0.k), .int .i64 (v0.n), .string v0.s] 27)]) (fun (g295, g303, g26) => [.sli 5 aRep pa ca c.args, .sli 3 vRep px cx f.args, .sli 1 bRep p1 c1 has, .sli 3 vRep p2 c2 vals]) (fun (g295, g303, g26) => [.blk g26 [.slice none 0 0, .slice none 0 0] 41, .blk g303 [.int .u8 (v0.k), .int .i64 (v0.n), .string v0.s] 27, .blk g295 [] 4, .blk g24 [.slice p292 e292.has.length c292, .slice p292_2 e292.vals.length c292_2] 41, .own 27 3 vRep (.slice p292_2 e292.vals.length c292_2) e292.vals, .own 4 1 bRep (.slice p292 e292.has.length c292) e292.has, mapF Try.prog 3 4 (mBool tU_4) g114 s1.2.2.1 s1.2.2.2.2.1, mapF Try.prog 3 3 (mInt tU_3) g113 s1.2.1 s1.2.2.2.1, .blk g12 [.slice p61 e61.has.length c61, .slice p61_2 e61.vals.length c61_2] 41, .own 27 3 vRep (.slice p61_2 e61.vals.length c61_2) e61.vals, .own 4 1 bRep (.slice p61 e61.has.length c61) e61.has, .blk g11 [.slice p53 (has).length c53, .slice p55 vals.length c55] 41, .own 27 3 vRep (.slice p55 vals.length c55) vals, .own 4 1 bRep (.slice p53 (has).length c53) has, .blk g9 [.int .u8 (v0.k), .int .i64 (v0.n), .string v0.s] 27, .blk g6 [.int .i64 (f.id), .int .i64 (f.ty), .slice px f.args.length cx] 36, .blk g5 [.int .u8 (c.k), .int .i64 (c.ty), .slice pa c.args.length ca, t0, t1, t2, t3, t4, t5, t6] 33]) (fun (g295, g303, g26) => [(26, .pointer (some ⟨g26, 0, none⟩)), (303, .slice (some ⟨g303, 0, none⟩) 1 1), (295, .slice (some ⟨g295, 0, none⟩) 0 0), (300, .slice p2 vals.length c2), (296, .slice p1 has.length c1), (25, .bool r292), (24, .pointer (some ⟨g24, 0, none⟩)), (229, .bool (decide (((s2 : Nat) : Int) < ((has.length : Nat) : Int)))), (21, .int .i64 ((s2 : Nat) : Int)), (119, .bool (decide (((s1.1 : Nat) : Int) < ((c.args.length : Nat) : Int)))), (17, .int .i64 ((s1.1 : Nat) : Int)), (16, .map (some g114)), (15, .bool (s1.2.2.2.2.2)), (14, .map (some g113)), (112, .bool (c.ty != f.ty)), (65, .bool (!r61)), (13, .bool r61), (12, .pointer (some ⟨g12, 0, none⟩)), (11, .pointer (some ⟨g11, 0, none⟩)), (50, .bool (decide (((vals.length : Nat) : Int) > 2000))), (30, .bool false), (10, .bool false), (9, .pointer (some ⟨g9, 0, none⟩)), (6, .pointer (some ⟨g6, 0, none⟩)), (5, .pointer (some ⟨g5, 0, none⟩)), (0, .agg #[.int .u8 (c.k), .int .i64 (c.ty), .slice pa c.args.length ca, t0, t1, t2, t3, t4, t5, t6]), (1, .agg #[.int .i64 (f.id), .int .i64 (f.ty), .slice px f.args.length cx]), (2, .slice p1 has.length c1), (3, .slice p2 vals.length c2), (4, .agg #[.int .u8 (v0.k), .int .i64 (v0.n), .string v0.s])]) ?_ (fun m17_37 => ?_)
             ·
              rintro ⟨g295, g303, g26⟩ _
              try dsimp only
              refine wx_step2 hok 2 3 rfl rfl rfl rfl rfl rfl ?_ ?_
              ·
               refine wl_row (sz := 1) (m := 0) bRep [] 2 rfl (fun F w hφ => rfl) rfl (by decide) (H' := [_,_,_,_,_,_,_,_,_,_,_,_,_,_,_,_,_]) rfl ?_
               refine wl_append 2 2 rfl rfl rfl (freshS_eq rfl) rfl rfl rfl rfl rfl tE_37 tR_4 rfl rfl (by simp; omega) (by simp; omega) (H2 := fun p297 c297 => [.blk g26 [.slice none 0 0, .slice none 0 0] 41, .blk g303 [.int .u8 (v0.k), .int .i64 (v0.n), .string v0.s] 27, .own 4 1 bRep (.slice p297 (has).length c297) has, .blk g24 [.slice p292 e292.has.length c292, .slice p292_2 e292.vals.length c292_2] 41, .own 27 3 vRep (.slice p292_2 e292.vals.length c292_2) e292.vals, .own 4 1 bRep (.slice p292 e292.has.length c292) e292.has, mapF Try.prog 3 4 (mBool tU_4) g114 s1.2.2.1 s1.2.2.2.2.1, mapF Try.prog 3 3 (mInt tU_3) g113 s1.2.1 s1.2.2.2.1, .blk g12 [.slice p61 e61.has.length c61, .slice p61_2 e61.vals.length c61_2] 41, .own 27 3 vRep (.slice p61_2 e61.vals.length c61_2) e61.vals, .own 4 1 bRep (.slice p61 e61.has.length c61) e61.has, .blk g11 [.slice p53 (has).length c53, .slice p55 vals.length c55] 41, .own 27 3 vRep (.slice p55 vals.length c55) vals, .own 4 1 bRep (.slice p53 (has).length c53) has, .blk g9 [.int .u8 (v0.k), .int .i64 (v0.n), .string v0.s] 27, .blk g6 [.int .i64 (f.id), .int .i64 (f.ty), .slice px f.args.length cx] 36, .blk g5 [.int .u8 (c.k), .int .i64 (c.ty), .slice pa c.args.length ca, t0, t1, t2, t3, t4, t5, t6] 33]) (fun _ _ => rfl) (fun p297 c297 => ?_)
               refine wl_nil ?_
               refine we_x [0, 1, 2, 3] [14] rfl rfl ?_
               exact wx_at (m10_37 (g295, p297, c297, g303, g26) trivial) rfl [0] [0] [0, 1, 2, 3] [0, 1, 2, 3] [0, 1, 2, 3, 4, 5, 6, 7, 8, 9, 10, 11, 12, 13, 14, 15, 16] [0, 1, 2, 3, 4, 5, 6, 7, 8, 9, 10, 11, 12, 13, 14, 15, 16] [26, 303, 297, 300, 25, 24, 229, 21, 119, 17, 16, 15, 14, 112, 65, 13, 12, 11, 50, 30, 10, 9, 6, 5, 0, 1, 2, 3, 4] rfl rfl rfl rfl rfl rfl rfl rfl
              ·
               refine wl_buildSlice rfl rfl rfl (freshS_eq rfl) rfl tE_37 tS_4 tZ_4 rfl (zs := [.bool false]) (by kernel_rfl) rfl (out := [_]) rfl (fun g298 => ?_)
               refine wl_nil ?_
               refine we_x [0, 1, 2, 3] [15] rfl rfl ?_
               exact wx_at (m11_37 (g295, g298, g303, g26) trivial) rfl [0] [0] [0, 1, 2, 3] [0, 1, 2, 3] [1, 2, 0, 3, 4, 5, 6, 7, 8, 9, 10, 11, 12, 13, 14, 15, 16, 17] [2, 0, 1, 3, 4, 5, 6, 7, 8, 9, 10, 11, 12, 13, 14, 15, 16, 17] [26, 303, 298, 295, 300, 296, 25, 24, 229, 21, 119, 17, 16, 15, 14, 112, 65, 13, 12, 11, 50, 30, 10, 9, 6, 5, 0, 1, 2, 3, 4] rfl rfl rfl rfl rfl rfl rfl rfl
             refine wx_memo (σ := Nat × Nat × Nat) (fun (g298, g303, g26) => True) [11, 8, 3, 7, 5, 1] (fun (g298, g303, g26) => [(7, .blk g9 [.int .u8 (v0.k), .int .i64 (v0.n), .string v0.s] 27)]) (fun (g298, g303, g26) => [.sli 5 aRep pa ca c.args, .sli 3 vRep px cx f.args, .sli 1 bRep p1 c1 has, .sli 3 vRep p2 c2 vals]) (fun (g298, g303, g26) => [.blk g26 [.slice none 0 0, .slice none 0 0] 41, .blk g303 [.int .u8 (v0.k), .int .i64 (v0.n), .string v0.s] 27, .blk g298 [.bool true] 4, .blk g24 [.slice p292 e292.has.length c292, .slice p292_2 e292.vals.length c292_2] 41, .own 27 3 vRep (.slice p292_2 e292.vals.length c292_2) e292.vals, .own 4 1 bRep (.slice p292 e292.has.length c292) e292.has, mapF Try.prog 3 4 (mBool tU_4) g114 s1.2.2.1 s1.2.2.2.2.1, mapF Try.prog 3 3 (mInt tU_3) g113 s1.2.1 s1.2.2.2.1, .blk g12 [.slice p61 e61.has.length c61, .slice p61_2 e61.vals.length c61_2] 41, .own 27 3 vRep (.slice p61_2 e61.vals.length c61_2) e61.vals, .own 4 1 bRep (.slice p61 e61.has.length c61) e61.has, .blk g11 [.slice p53 (has).length c53, .slice p55 vals.length c55] 41, .own 27 3 vRep (.slice p55 vals.length c55) vals, .own 4 1 bRep (.slice p53 (has).length c53) has, .blk g9 [.int .u8 (v0.k), .int .i64 (v0.n), .string v0.s] 27, .blk g6 [.int .i64 (f.id), .int .i64 (f.ty), .slice px f.args.length cx] 36, .blk g5 [.int .u8 (c.k), .int .i64 (c.ty), .slice pa c.args.length ca, t0, t1, t2, t3, t4, t5, t6] 33]) (fun (g298, g303, g26) => [(26, .pointer (some ⟨g26, 0, none⟩)), (303, .slice (some ⟨g303, 0, none⟩) 1 1), (298, .slice (some ⟨g298, 0, none⟩) 1 1), (300, .slice p2 vals.length c2), (296, .slice p1 has.length c1), (25, .bool r292), (24, .pointer (some ⟨g24, 0, none⟩)), (229, .bool (decide (((s2 : Nat) : Int) < ((has.length : Nat) : Int)))), (21, .int .i64 ((s2 : Nat) : Int)), (119, .bool (decide (((s1.1 : Nat) : Int) < ((c.args.length : Nat) : Int)))), (17, .int .i64 ((s1.1 : Nat) : Int)), (16, .map (some g114)), (15, .bool (s1.2.2.2.2.2)), (14, .map (some g113)), (112, .bool (c.ty != f.ty)), (65, .bool (!r61)), (13, .bool r61), (12, .pointer (some ⟨g12, 0, none⟩)), (11, .pointer (some ⟨g11, 0, none⟩)), (50, .bool (decide (((vals.length : Nat) : Int) > 2000))), (30, .bool false), (10, .bool false), (9, .pointer (some ⟨g9, 0, none⟩)), (6, .pointer (some ⟨g6, 0, none⟩)), (5, .pointer (some ⟨g5, 0, none⟩)), (0, .agg #[.int .u8 (c.k), .int .i64 (c.ty), .slice pa c.args.length ca, t0, t1, t2, t3, t4, t5, t6]), (1, .agg #[.int .i64 (f.id), .int .i64 (f.ty), .slice px f.args.length cx]), (2, .slice p1 has.length c1), (3, .slice p2 vals.length c2), (4, .agg #[.int .u8 (v0.k), .int .i64 (v0.n), .string v0.s])]) ?_ (fun m18_37 => ?_)
             ·
              rintro ⟨g298, g303, g26⟩ _
              try dsimp only
              refine wx_step1 hok 0 rfl rfl rfl rfl ?_
              refine wl_buildSlice rfl rfl rfl (freshS_eq rfl) rfl tE_37 tS_4 tZ_4 rfl (zs := []) (by kernel_rfl) rfl (out := []) rfl (fun g295 => ?_)
              refine wl_nil ?_
              refine we_x [0, 1, 2, 3] [15] rfl rfl ?_
              exact wx_at (m11_37 (g295, g298, g303, g26) trivial) rfl [0] [0] [0, 1, 2, 3] [0, 1, 2, 3] [1, 2, 3, 0, 4, 5, 6, 7, 8, 9, 10, 11, 12, 13, 14, 15, 16, 17] [3, 0, 1, 2, 4, 5, 6, 7, 8, 9, 10, 11, 12, 13, 14, 15, 16, 17] [26, 303, 298, 295, 300, 296, 25, 24, 229, 21, 119, 17, 16, 15, 14, 112, 65, 13, 12, 11, 50, 30, 10, 9, 6, 5, 0, 1, 2, 3, 4] rfl rfl rfl rfl rfl rfl rfl rfl
             refine wx_memo (σ := Nat × Nat) (fun (g295, g298) => True) [3, 0, 7, 5, 1] (fun (g295, g298) => [(7, .blk g9 [.int .u8 (v0.k), .int .i64 (v0.n), .string v0.s] 27)]) (fun (g295, g298) => [.sli 5 aRep pa ca c.args, .sli 3 vRep px cx f.args, .sli 1 bRep p1 c1 has, .sli 3 vRep p2 c2 vals]) (fun (g295, g298) => [.blk g298 [.bool true] 4, .blk g295 [] 4, .blk g24 [.slice p292 e292.has.length c292, .slice p292_2 e292.vals.length c292_2] 41, .own 27 3 vRep (.slice p292_2 e292.vals.length c292_2) e292.vals, .own 4 1 bRep (.slice p292 e292.has.length c292) e292.has, mapF Try.prog 3 4 (mBool tU_4) g114 s1.2.2.1 s1.2.2.2.2.1, mapF Try.prog 3 3 (mInt tU_3) g113 s1.2.1 s1.2.2.2.1, .blk g12 [.slice p61 e61.has.length c61, .slice p61_2 e61.vals.length c61_2] 41, .own 27 3 vRep (.slice p61_2 e61.vals.length c61_2) e61.vals, .own 4 1 bRep (.slice p61 e61.has.length c61) e61.has, .blk g11 [.slice p53 (has).length c53, .slice p55 vals.length c55] 41, .own 27 3 vRep (.slice p55 vals.length c55) vals, .own 4 1 bRep (.slice p53 (has).length c53) has, .blk g9 [.int .u8 (v0.k), .int .i64 (v0.n), .string v0.s] 27, .blk g6 [.int .i64 (f.id), .int .i64 (f.ty), .slice px f.args.length cx] 36, .blk g5 [.int .u8 (c.k), .int .i64 (c.ty), .slice pa c.args.length ca, t0, t1, t2, t3, t4, t5, t6] 33]) (fun (g295, g298) => [(298, .slice (some ⟨g298, 0, none⟩) 1 1), (295, .slice (some ⟨g295, 0, none⟩) 0 0), (302, .agg #[.int .u8 (v0.k), .int .i64 (v0.n), .string v0.s]), (300, .slice p2 vals.length c2), (296, .slice p1 has.length c1), (25, .bool r292), (24, .pointer (some ⟨g24, 0, none⟩)), (229, .bool (decide (((s2 : Nat) : Int) < ((has.length : Nat) : Int)))), (21, .int .i64 ((s2 : Nat) : Int)), (119, .bool (decide (((s1.1 : Nat) : Int) < ((c.args.length : Nat) : Int)))), (17, .int .i64 ((s1.1 : Nat) : Int)), (16, .map (some g114)), (15, .bool (s1.2.2.2.2.2)), (14, .map (some g113)), (112, .bool (c.ty != f.ty)), (65, .bool (!r61)), (13, .bool r61), (12, .pointer (some ⟨g12, 0, none⟩)), (11, .pointer (some ⟨g11, 0, none⟩)), (50, .bool (decide (((vals.length : Nat) : Int) > 2000))), (30, .bool false), (10, .bool false), (9, .pointer (some ⟨g9, 0, none⟩)), (6, .pointer (some ⟨g6, 0, none⟩)), (5, .pointer (some ⟨g5, 0, none⟩)), (0, .agg #[.int .u8 (c.k), .int .i64 (c.ty), .slice pa c.args.length ca, t0, t1, t2, t3, t4, t5, t6]), (1, .agg #[.int .i64 (f.id), .int .i64 (f.ty), .slice px f.args.length cx]), (2, .slice p1 has.length c1), (3, .slice p2 vals.length c2), (4, .agg #[.int .u8 (v0.k), .int .i64 (v0.n), .string v0.s])]) ?_ (fun m19_37 => ?_)
             ·
              rintro ⟨g295, g298⟩ _
              try dsimp only
              refine wx_step3 hok 2 8 11 rfl rfl rfl rfl rfl rfl rfl rfl ?_ ?_ ?_
              ·
               refine wl_row (sz := 1) (m := 0) bRep [] 1 rfl (fun F w hφ => rfl) rfl (by decide) (H' := [_,_,_,_,_,_,_,_,_,_,_,_,_,_,_,_]) rfl ?_
               refine wl_append 1 2 rfl rfl rfl (freshS_eq rfl) rfl rfl rfl rfl rfl tE_37 tR_4 rfl rfl (by simp; omega) (by simp; omega) (H2 := fun p297 c297 => [.blk g298 [.bool true] 4, .own 4 1 bRep (.slice p297 (has).length c297) has, .blk g24 [.slice p292 e292.has.length c292, .slice p292_2 e292.vals.length c292_2] 41, .own 27 3 vRep (.slice p292_2 e292.vals.length c292_2) e292.vals, .own 4 1 bRep (.slice p292 e292.has.length c292) e292.has, mapF Try.prog 3 4 (mBool tU_4) g114 s1.2.2.1 s1.2.2.2.2.1, mapF Try.prog 3 3 (mInt tU_3) g113 s1.2.1 s1.2.2.2.1, .blk g12 [.slice p61 e61.has.length c61, .slice p61_2 e61.vals.length c61_2] 41, .own 27 3 vRep (.slice p61_2 e61.vals.length c61_2) e61.vals, .own 4 1 bRep (.slice p61 e61.has.length c61) e61.has, .blk g11 [.slice p53 (has).length c53, .slice p55 vals.length c55] 41, .own 27 3 vRep (.slice p55 vals.length c55) vals, .own 4 1 bRep (.slice p53 (has).length c53) has, .blk g9 [.int .u8 (v0.k), .int .i64 (v0.n), .string v0.s] 27, .blk g6 [.int .i64 (f.id), .int .i64 (f.ty), .slice px f.args.length cx] 36, .blk g5 [.int .u8 (c.k), .int .i64 (c.ty), .slice pa c.args.length ca, t0, t1, t2, t3, t4, t5, t6] 33]) (fun _ _ => rfl) (fun p297 c297 => ?_)
               refine wl_nil ?_
               refine we_x [0, 1, 2, 3] [13] rfl rfl ?_
               exact wx_at (m12_37 (g295, p297, c297, g298) trivial) rfl [0] [0] [0, 1, 2, 3] [0, 1, 2, 3] [0, 1, 2, 3, 4, 5, 6, 7, 8, 9, 10, 11, 12, 13, 14, 15] [0, 1, 2, 3, 4, 5, 6, 7, 8, 9, 10, 11, 12, 13, 14, 15] [298, 297, 302, 300, 25, 24, 229, 21, 119, 17, 16, 15, 14, 112, 65, 13, 12, 11, 50, 30, 10, 9, 6, 5, 0, 1, 2, 3, 4] rfl rfl rfl rfl rfl rfl rfl rfl
              ·
               refine wl_buildSlice rfl rfl rfl (freshS_eq rfl) rfl tE_34 tS_27 tZ_27 rfl (zs := [.int .u8 0, .int .i64 0, .string ⟨#[]⟩]) (by kernel_rfl) rfl (out := [_,_,_]) rfl (fun g303 => ?_)
               refine wl_nil ?_
               refine we_x [0, 1, 2, 3] [] rfl rfl ?_
               exact wx_at (m15_37 (g295, g298, g303) trivial) rfl [0] [0] [0, 1, 2, 3] [0, 1, 2, 3] [0, 1, 2, 3, 4, 5, 6, 7, 8, 9, 10, 11, 12, 13, 14, 15, 16] [0, 1, 2, 3, 4, 5, 6, 7, 8, 9, 10, 11, 12, 13, 14, 15, 16] [303, 298, 295, 300, 296, 25, 24, 229, 21, 119, 17, 16, 15, 14, 112, 65, 13, 12, 11, 50, 30, 10, 9, 6, 5, 0, 1, 2, 3, 4] rfl rfl rfl rfl rfl rfl rfl rfl
              ·
               refine wl_alloc rfl rfl rfl (freshS_eq rfl) rfl tZ_41 rfl (fun g26 => ?_)
               refine wl_nil ?_
               refine we_x [0, 1, 2, 3] [14] rfl rfl ?_
               exact wx_at (m16_37 (g295, g298, g26) trivial) rfl [0] [0] [0, 1, 2, 3] [0, 1, 2, 3] [0, 1, 2, 3, 4, 5, 6, 7, 8, 9, 10, 11, 12, 13, 14, 15, 16] [0, 1, 2, 3, 4, 5, 6, 7, 8, 9, 10, 11, 12, 13, 14, 15, 16] [26, 298, 295, 302, 300, 296, 25, 24, 229, 21, 119, 17, 16, 15, 14, 112, 65, 13, 12, 11, 50, 30, 10, 9, 6, 5, 0, 1, 2, 3, 4] rfl rfl rfl rfl rfl rfl rfl rfl
             refine wx_memo (σ := Nat × Nat) (fun (g295, g303) => True) [8, 0, 7, 5, 1] (fun (g295, g303) => [(7, .blk g9 [.int .u8 (v0.k), .int .i64 (v0.n), .string v0.s] 27)]) (fun (g295, g303) => [.sli 5 aRep pa ca c.args, .sli 3 vRep px cx f.args, .sli 1 bRep p1 c1 has, .sli 3 vRep p2 c2 vals]) (fun (g295, g303) => [.blk g303 [.int .u8 (v0.k), .int .i64 (v0.n), .string v0.s] 27, .blk g295 [] 4, .blk g24 [.slice p292 e292.has.length c292, .slice p292_2 e292.vals.length c292_2] 41, .own 27 3 vRep (.slice p292_2 e292.vals.length c292_2) e292.vals, .own 4 1 bRep (.slice p292 e292.has.length c292) e292.has, mapF Try.prog 3 4 (mBool tU_4) g114 s1.2.2.1 s1.2.2.2.2.1, mapF Try.prog 3 3 (mInt tU_3) g113 s1.2.1 s1.2.2.2.1, .blk g12 [.slice p61 e61.has.length c61, .slice p61_2 e61.vals.length c61_2] 41, .own 27 3 vRep (.slice p61_2 e61.vals.length c61_2) e61.vals, .own 4 1 bRep (.slice p61 e61.has.length c61) e61.has, .blk g11 [.slice p53 (has).length c53, .slice p55 vals.length c55] 41, .own 27 3 vRep (.slice p55 vals.length c55) vals, .own 4 1 bRep (.slice p53 (has).length c53) has, .blk g9 [.int .u8 (v0.k), .int .i64 (v0.n), .string v0.s] 27, .blk g6 [.int .i64 (f.id), .int .i64 (f.ty), .slice px f.args.length cx] 36, .blk g5 [.int .u8 (c.k), .int .i64 (c.ty), .slice pa c.args.length ca, t0, t1, t2, t3, t4, t5, t6] 33]) (fun (g295, g303) => [(303, .slice (some ⟨g303, 0, none⟩) 1 1), (295, .slice (some ⟨g295, 0, none⟩) 0 0), (300, .slice p2 vals.length c2), (296, .slice p1 has.length c1), (25, .bool r292), (24, .pointer (some ⟨g24, 0, none⟩)), (229, .bool (decide (((s2 : Nat) : Int) < ((has.length : Nat) : Int)))), (21, .int .i64 ((s2 : Nat) : Int)), (119, .bool (decide (((s1.1 : Nat) : Int) < ((c.args.length : Nat) : Int)))), (17, .int .i64 ((s1.1 : Nat) : Int)), (16, .map (some g114)), (15, .bool (s1.2.2.2.2.2)), (14, .map (some g113)), (112, .bool (c.ty != f.ty)), (65, .bool (!r61)), (13, .bool r61), (12, .pointer (some ⟨g12, 0, none⟩)), (11, .pointer (some ⟨g11, 0, none⟩)), (50, .bool (decide (((vals.length : Nat) : Int) > 2000))), (30, .bool false), (10, .bool false), (9, .pointer (some ⟨g9, 0, none⟩)), (6, .pointer (some ⟨g6, 0, none⟩)), (5, .pointer (some ⟨g5, 0, none⟩)), (0, .agg #[.int .u8 (c.k), .int .i64 (c.ty), .slice pa c.args.length ca, t0, t1, t2, t3, t4, t5, t6]), (1, .agg #[.int .i64 (f.id), .int .i64 (f.ty), .slice px f.args.length cx]), (2, .slice p1 has.length c1), (3, .slice p2 vals.length c2), (4, .agg #[.int .u8 (v0.k), .int .i64 (v0.n), .string v0.s])]) ?_ (fun m20_37 => ?_)
             ·
              rintro ⟨g295, g303⟩ _
              try dsimp only
              refine wx_step3 hok 2 3 11 rfl rfl rfl rfl rfl rfl rfl rfl ?_ ?_ ?_
              ·
               refine wl_row (sz := 1) (m := 0) bRep [] 1 rfl (fun F w hφ => rfl) rfl (by decide) (H' := [_,_,_,_,_,_,_,_,_,_,_,_,_,_,_,_]) rfl ?_
               refine wl_append 1 2 rfl rfl rfl (freshS_eq rfl) rfl rfl rfl rfl rfl tE_37 tR_4 rfl rfl (by simp; omega) (by simp; omega) (H2 := fun p297 c297 => [.blk g303 [.int .u8 (v0.k), .int .i64 (v0.n), .string v0.s] 27, .own 4 1 bRep (.slice p297 (has).length c297) has, .blk g24 [.slice p292 e292.has.length c292, .slice p292_2 e292.vals.length c292_2] 41, .own 27 3 vRep (.slice p292_2 e292.vals.length c292_2) e292.vals, .own 4 1 bRep (.slice p292 e292.has.length c292) e292.has, mapF Try.prog 3 4 (mBool tU_4) g114 s1.2.2.1 s1.2.2.2.2.1, mapF Try.prog 3 3 (mInt tU_3) g113 s1.2.1 s1.2.2.2.1, .blk g12 [.slice p61 e61.has.length c61, .slice p61_2 e61.vals.length c61_2] 41, .own 27 3 vRep (.slice p61_2 e61.vals.length c61_2) e61.vals, .own 4 1 bRep (.slice p61 e61.has.length c61) e61.has, .blk g11 [.slice p53 (has).length c53, .slice p55 vals.length c55] 41, .own 27 3 vRep (.slice p55 vals.length c55) vals, .own 4 1 bRep (.slice p53 (has).length c53) has, .blk g9 [.int .u8 (v0.k), .int .i64 (v0.n), .string v0.s] 27, .blk g6 [.int .i64 (f.id), .int .i64 (f.ty), .slice px f.args.length cx] 36, .blk g5 [.int .u8 (c.k), .int .i64 (c.ty), .slice pa c.args.length ca, t0, t1, t2, t3, t4, t5, t6] 33]) (fun _ _ => rfl) (fun p297 c297 => ?_)
               refine wl_nil ?_
               refine we_x [0, 1, 2, 3] [13] rfl rfl ?_
               exact wx_at (m13_37 (g295, p297, c297, g303) trivial) rfl [0] [0] [0, 1, 2, 3] [0, 1, 2, 3] [0, 1, 2, 3, 4, 5, 6, 7, 8, 9, 10, 11, 12, 13, 14, 15] [0, 1, 2, 3, 4, 5, 6, 7, 8, 9, 10, 11, 12, 13, 14, 15] [303, 297, 300, 25, 24, 229, 21, 119, 17, 16, 15, 14, 112, 65, 13, 12, 11, 50, 30, 10, 9, 6, 5, 0, 1, 2, 3, 4] rfl rfl rfl rfl rfl rfl rfl rfl
              ·
               refine wl_buildSlice rfl rfl rfl (freshS_eq rfl) rfl tE_37 tS_4 tZ_4 rfl (zs := [.bool false]) (by kernel_rfl) rfl (out := [_]) rfl (fun g298 => ?_)
               refine wl_nil ?_
               refine we_x [0, 1, 2, 3] [14] rfl rfl ?_
               exact wx_at (m15_37 (g295, g298, g303) trivial) rfl [0] [0] [0, 1, 2, 3] [0, 1, 2, 3] [1, 0, 2, 3, 4, 5, 6, 7, 8, 9, 10, 11, 12, 13, 14, 15, 16] [1, 0, 2, 3, 4, 5, 6, 7, 8, 9, 10, 11, 12, 13, 14, 15, 16] [303, 298, 295, 300, 296, 25, 24, 229, 21, 119, 17, 16, 15, 14, 112, 65, 13, 12, 11, 50, 30, 10, 9, 6, 5, 0, 1, 2, 3, 4] rfl rfl rfl rfl rfl rfl rfl rfl
              ·
               refine wl_alloc rfl rfl rfl (freshS_eq rfl) rfl tZ_41 rfl (fun g26 => ?_)
               refine wl_nil ?_
               refine we_x [0, 1, 2, 3] [14] rfl rfl ?_
               exact wx_at (m17_37 (g295, g303, g26) trivial) rfl [0] [0] [0, 1, 2, 3] [0, 1, 2, 3] [0, 1, 2, 3, 4, 5, 6, 7, 8, 9, 10, 11, 12, 13, 14, 15, 16] [0, 1, 2, 3, 4, 5, 6, 7, 8, 9, 10, 11, 12, 13, 14, 15, 16] [26, 303, 295, 300, 296, 25, 24, 229, 21, 119, 17, 16, 15, 14, 112, 65, 13, 12, 11, 50, 30, 10, 9, 6, 5, 0, 1, 2, 3, 4] rfl rfl rfl rfl rfl rfl rfl rfl
             refine wx_memo (σ := Nat × Nat) (fun (g295, g26) => True) [11, 0, 7, 5, 1] (fun (g295, g26) => [(7, .blk g9 [.int .u8 (v0.k), .int .i64 (v0.n), .string v0.s] 27)]) (fun (g295, g26) => [.sli 5 aRep pa ca c.args, .sli 3 vRep px cx f.args, .sli 1 bRep p1 c1 has, .sli 3 vRep p2 c2 vals]) (fun (g295, g26) => [.blk g26 [.slice none 0 0, .slice none 0 0] 41, .blk g295 [] 4, .blk g24 [.slice p292 e292.has.length c292, .slice p292_2 e292.vals.length c292_2] 41, .own 27 3 vRep (.slice p292_2 e292.vals.length c292_2) e292.vals, .own 4 1 bRep (.slice p292 e292.has.length c292) e292.has, mapF Try.prog 3 4 (mBool tU_4) g114 s1.2.2.1 s1.2.2.2.2.1, mapF Try.prog 3 3 (mInt tU_3) g113 s1.2.1 s1.2.2.2.1, .blk g12 [.slice p61 e61.has.length c61, .slice p61_2 e61.vals.length c61_2] 41, .own 27 3 vRep (.slice p61_2 e61.vals.length c61_2) e61.vals, .own 4 1 bRep (.slice p61 e61.has.length c61) e61.has, .blk g11 [.slice p53 (has).length c53, .slice p55 vals.length c55] 41, .own 27 3 vRep (.slice p55 vals.length c55) vals, .own 4 1 bRep (.slice p53 (has).length c53) has, .blk g9 [.int .u8 (v0.k), .int .i64 (v0.n), .string v0.s] 27, .blk g6 [.int .i64 (f.id), .int .i64 (f.ty), .slice px f.args.length cx] 36, .blk g5 [.int .u8 (c.k), .int .i64 (c.ty), .slice pa c.args.length ca, t0, t1, t2, t3, t4, t5, t6] 33]) (fun (g295, g26) => [(26, .pointer (some ⟨g26, 0, none⟩)), (295, .slice (some ⟨g295, 0, none⟩) 0 0), (302, .agg #[.int .u8 (v0.k), .int .i64 (v0.n), .string v0.s]), (300, .slice p2 vals.length c2), (296, .slice p1 has.length c1), (25, .bool r292), (24, .pointer (some ⟨g24, 0, none⟩)), (229, .bool (decide (((s2 : Nat) : Int) < ((has.length : Nat) : Int)))), (21, .int .i64 ((s2 : Nat) : Int)), (119, .bool (decide (((s1.1 : Nat) : Int) < ((c.args.length : Nat) : Int)))), (17, .int .i64 ((s1.1 : Nat) : Int)), (16, .map (some g114)), (15, .bool (s1.2.2.2.2.2)), (14, .map (some g113)), (112, .bool (c.ty != f.ty)), (65, .bool (!r61)), (13, .bool r61), (12, .pointer (some ⟨g12, 0, none⟩)), (11, .pointer (some ⟨g11, 0, none⟩)), (50, .bool (decide (((vals.length : Nat) : Int) > 2000))), (30, .bool false), (10, .bool false), (9, .pointer (some ⟨g9, 0, none⟩)), (6, .pointer (some ⟨g6, 0, none⟩)), (5, .pointer (some ⟨g5, 0, none⟩)), (0, .agg #[.int .u8 (c.k), .int .i64 (c.ty), .slice pa c.args.length ca, t0, t1, t2, t3, t4, t5, t6]), (1, .agg #[.int .i64 (f.id), .int .i64 (f.ty), .slice px f.args.length cx]), (2, .slice p1 has.length c1), (3, .slice p2 vals.length c2), (4, .agg #[.int .u8 (v0.k), .int .i64 (v0.n), .string v0.s])]) ?_ (fun m21_37 => ?_)
             ·
              rintro ⟨g295, g26⟩ _
              try dsimp only
              refine wx_step3 hok 2 3 8 rfl rfl rfl rfl rfl rfl rfl rfl ?_ ?_ ?_
              ·
               refine wl_row (sz := 1) (m := 0) bRep [] 1 rfl (fun F w hφ => rfl) rfl (by decide) (H' := [_,_,_,_,_,_,_,_,_,_,_,_,_,_,_,_]) rfl ?_
               refine wl_append 1 2 rfl rfl rfl (freshS_eq rfl) rfl rfl rfl rfl rfl tE_37 tR_4 rfl rfl (by simp; omega) (by simp; omega) (H2 := fun p297 c297 => [.blk g26 [.slice none 0 0, .slice none 0 0] 41, .own 4 1 bRep (.slice p297 (has).length c297) has, .blk g24 [.slice p292 e292.has.length c292, .slice p292_2 e292.vals.length c292_2] 41, .own 27 3 vRep (.slice p292_2 e292.vals.length c292_2) e292.vals, .own 4 1 bRep (.slice p292 e292.has.length c292) e292.has, mapF Try.prog 3 4 (mBool tU_4) g114 s1.2.2.1 s1.2.2.2.2.1, mapF Try.prog 3 3 (mInt tU_3) g113 s1.2.1 s1.2.2.2.1, .blk g12 [.slice p61 e61.has.length c61, .slice p61_2 e61.vals.length c61_2] 41, .own 27 3 vRep (.slice p61_2 e61.vals.length c61_2) e61.vals, .own 4 1 bRep (.slice p61 e61.has.length c61) e61.has, .blk g11 [.slice p53 (has).length c53, .slice p55 vals.length c55] 41, .own 27 3 vRep (.slice p55 vals.length c55) vals, .own 4 1 bRep (.slice p53 (has).length c53) has, .blk g9 [.int .u8 (v0.k), .int .i64 (v0.n), .string v0.s] 27, .blk g6 [.int .i64 (f.id), .int .i64 (f.ty), .slice px f.args.length cx] 36, .blk g5 [.int .u8 (c.k), .int .i64 (c.ty), .slice pa c.args.length ca, t0, t1, t2, t3, t4, t5, t6] 33]) (fun _ _ => rfl) (fun p297 c297 => ?_)
               refine wl_nil ?_
               refine we_x [0, 1, 2, 3] [13] rfl rfl ?_
               exact wx_at (m14_37 (g295, p297, c297, g26) trivial) rfl [0] [0] [0, 1, 2, 3] [0, 1, 2, 3] [0, 1, 2, 3, 4, 5, 6, 7, 8, 9, 10, 11, 12, 13, 14, 15] [0, 1, 2, 3, 4, 5, 6, 7, 8, 9, 10, 11, 12, 13, 14, 15] [26, 297, 302, 300, 25, 24, 229, 21, 119, 17, 16, 15, 14, 112, 65, 13, 12, 11, 50, 30, 10, 9, 6, 5, 0, 1, 2, 3, 4] rfl rfl rfl rfl rfl rfl rfl rfl
              ·
               refine wl_buildSlice rfl rfl rfl (freshS_eq rfl) rfl tE_37 tS_4 tZ_4 rfl (zs := [.bool false]) (by kernel_rfl) rfl (out := [_]) rfl (fun g298 => ?_)
               refine wl_nil ?_
               refine we_x [0, 1, 2, 3] [14] rfl rfl ?_
               exact wx_at (m16_37 (g295, g298, g26) trivial) rfl [0] [0] [0, 1, 2, 3] [0, 1, 2, 3] [1, 0, 2, 3, 4, 5, 6, 7, 8, 9, 10, 11, 12, 13, 14, 15, 16] [1, 0, 2, 3, 4, 5, 6, 7, 8, 9, 10, 11, 12, 13, 14, 15, 16] [26, 298, 295, 302, 300, 296, 25, 24, 229, 21, 119, 17, 16, 15, 14, 112, 65, 13, 12, 11, 50, 30, 10, 9, 6, 5, 0, 1, 2, 3, 4] rfl rfl rfl rfl rfl rfl rfl rfl
              ·
               refine wl_buildSlice rfl rfl rfl (freshS_eq rfl) rfl tE_34 tS_27 tZ_27 rfl (zs := [.int .u8 0, .int .i64 0, .string ⟨#[]⟩]) (by kernel_rfl) rfl (out := [_,_,_]) rfl (fun g303 => ?_)
               refine wl_nil ?_
               refine we_x [0, 1, 2, 3] [] rfl rfl ?_
               exact wx_at (m17_37 (g295, g303, g26) trivial) rfl [0] [0] [0, 1, 2, 3] [0, 1, 2, 3] [1, 0, 2, 3, 4, 5, 6, 7, 8, 9, 10, 11, 12, 13, 14, 15, 16] [1, 0, 2, 3, 4, 5, 6, 7, 8, 9, 10, 11, 12, 13, 14, 15, 16] [26, 303, 295, 300, 296, 25, 24, 229, 21, 119, 17, 16, 15, 14, 112, 65, 13, 12, 11, 50, 30, 10, 9, 6, 5, 0, 1, 2, 3, 4] rfl rfl rfl rfl rfl rfl rfl rfl
             refine wx_memo (σ := Nat × Nat) (fun (g298, g303) => True) [8, 3, 7, 5, 1] (fun (g298, g303) => [(7, .blk g9 [.int .u8 (v0.k), .int .i64 (v0.n), .string v0.s] 27)]) (fun (g298, g303) => [.sli 5 aRep pa ca c.args, .sli 3 vRep px cx f.args, .sli 1 bRep p1 c1 has, .sli 3 vRep p2 c2 vals]) (fun (g298, g303) => [.blk g303 [.int .u8 (v0.k), .int .i64 (v0.n), .string v0.s] 27, .blk g298 [.bool true] 4, .blk g24 [.slice p292 e292.has.length c292, .slice p292_2 e292.vals.length c292_2] 41, .own 27 3 vRep (.slice p292_2 e292.vals.length c292_2) e292.vals, .own 4 1 bRep (.slice p292 e292.has.length c292) e292.has, mapF Try.prog 3 4 (mBool tU_4) g114 s1.2.2.1 s1.2.2.2.2.1, mapF Try.prog 3 3 (mInt tU_3) g113 s1.2.1 s1.2.2.2.1, .blk g12 [.slice p61 e61.has.length c61, .slice p61_2 e61.vals.length c61_2] 41, .own 27 3 vRep (.slice p61_2 e61.vals.length c61_2) e61.vals, .own 4 1 bRep (.slice p61 e61.has.length c61) e61.has, .blk g11 [.slice p53 (has).length c53, .slice p55 vals.length c55] 41, .own 27 3 vRep (.slice p55 vals.length c55) vals, .own 4 1 bRep (.slice p53 (has).length c53) has, .blk g9 [.int .u8 (v0.k), .int .i64 (v0.n), .string v0.s] 27, .blk g6 [.int .i64 (f.id), .int .i64 (f.ty), .slice px f.args.length cx] 36, .blk g5 [.int .u8 (c.k), .int .i64 (c.ty), .slice pa c.args.length ca, t0, t1, t2, t3, t4, t5, t6] 33]) (fun (g298, g303) => [(303, .slice (some ⟨g303, 0, none⟩) 1 1), (298, .slice (some ⟨g298, 0, none⟩) 1 1), (300, .slice p2 vals.length c2), (296, .slice p1 has.length c1), (25, .bool r292), (24, .pointer (some ⟨g24, 0, none⟩)), (229, .bool (decide (((s2 : Nat) : Int) < ((has.length : Nat) : Int)))), (21, .int .i64 ((s2 : Nat) : Int)), (119, .bool (decide (((s1.1 : Nat) : Int) < ((c.args.length : Nat) : Int)))), (17, .int .i64 ((s1.1 : Nat) : Int)), (16, .map (some g114)), (15, .bool (s1.2.2.2.2.2)), (14, .map (some g113)), (112, .bool (c.ty != f.ty)), (65, .bool (!r61)), (13, .bool r61), (12, .pointer (some ⟨g12, 0, none⟩)), (11, .pointer (some ⟨g11, 0, none⟩)), (50, .bool (decide (((vals.length : Nat) : Int) > 2000))), (30, .bool false), (10, .bool false), (9, .pointer (some ⟨g9, 0, none⟩)), (6, .pointer (some ⟨g6, 0, none⟩)), (5, .pointer (some ⟨g5, 0, none⟩)), (0, .agg #[.int .u8 (c.k), .int .i64 (c.ty), .slice pa c.args.length ca, t0, t1, t2, t3, t4, t5, t6]), (1, .agg #[.int .i64 (f.id), .int .i64 (f.ty), .slice px f.args.length cx]), (2, .slice p1 has.length c1), (3, .slice p2 vals.length c2), (4, .agg #[.int .u8 (v0.k), .int .i64 (v0.n), .string v0.s])]) ?_ (fun m22_37 => ?_)
             ·
              rintro ⟨g298, g303⟩ _
              try dsimp only
              refine wx_step2 hok 0 11 rfl rfl rfl rfl rfl rfl ?_ ?_
              ·
               refine wl_buildSlice rfl rfl rfl (freshS_eq rfl) rfl tE_37 tS_4 tZ_4 rfl (zs := []) (by kernel_rfl) rfl (out := []) rfl (fun g295 => ?_)
               refine wl_nil ?_
               refine we_x [0, 1, 2, 3] [14] rfl rfl ?_
               exact wx_at (m15_37 (g295, g298, g303) trivial) rfl [0] [0] [0, 1, 2, 3] [0, 1, 2, 3] [1, 2, 0, 3, 4, 5, 6, 7, 8, 9, 10, 11, 12, 13, 14, 15, 16] [2, 0, 1, 3, 4, 5, 6, 7, 8, 9, 10, 11, 12, 13, 14, 15, 16] [303, 298, 295, 300, 296, 25, 24, 229, 21, 119, 17, 16, 15, 14, 112, 65, 13, 12, 11, 50, 30, 10, 9, 6, 5, 0, 1, 2, 3, 4] rfl rfl rfl rfl rfl rfl rfl rfl
              ·
               refine wl_alloc rfl rfl rfl (freshS_eq rfl) rfl tZ_41 rfl (fun g26 => ?_)
               refine wl_nil ?_
               refine we_x [0, 1, 2, 3] [14] rfl rfl ?_
               exact wx_at (m18_37 (g298, g303, g26) trivial) rfl [0] [0] [0, 1, 2, 3] [0, 1, 2, 3] [0, 1, 2, 3, 4, 5, 6, 7, 8, 9, 10, 11, 12, 13, 14, 15, 16] [0, 1, 2, 3, 4, 5, 6, 7, 8, 9, 10, 11, 12, 13, 14, 15, 16] [26, 303, 298, 300, 296, 25, 24, 229, 21, 119, 17, 16, 15, 14, 112, 65, 13, 12, 11, 50, 30, 10, 9, 6, 5, 0, 1, 2, 3, 4] rfl rfl rfl rfl rfl rfl rfl rfl
             refine wx_memo (σ := Nat × Nat) (fun (g298, g26) => True) [11, 3, 7, 5, 1] (fun (g298, g26) => [(7, .blk g9 [.int .u8 (v0.k), .int .i64 (v0.n), .string v0.s] 27)]) (fun (g298, g26) => [.sli 5 aRep pa ca c.args, .sli 3 vRep px cx f.args, .sli 1 bRep p1 c1 has, .sli 3 vRep p2 c2 vals]) (fun (g298, g26) => [.blk g26 [.slice none 0 0, .slice none 0 0] 41, .blk g298 [.bool true] 4, .blk g24 [.slice p292 e292.has.length c292, .slice p292_2 e292.vals.length c292_2] 41, .own 27 3 vRep (.slice p292_2 e292.vals.length c292_2) e292.vals, .own 4 1 bRep (.slice p292 e292.has.length c292) e292.has, mapF Try.prog 3 4 (mBool tU_4) g114 s1.2.2.1 s1.2.2.2.2.1, mapF Try.prog 3 3 (mInt tU_3) g113 s1.2.1 s1.2.2.2.1, .blk g12 [.slice p61 e61.has.length c61, .slice p61_2 e61.vals.length c61_2] 41, .own 27 3 vRep (.slice p61_2 e61.vals.length c61_2) e61.vals, .own 4 1 bRep (.slice p61 e61.has.length c61) e61.has, .blk g11 [.slice p53 (has).length c53, .slice p55 vals.length c55] 41, .own 27 3 vRep (.slice p55 vals.length c55) vals, .own 4 1 bRep (.slice p53 (has).length c53) has, .blk g9 [.int .u8 (v0.k), .int .i64 (v0.n), .string v0.s] 27, .blk g6 [.int .i64 (f.id), .int .i64 (f.ty), .slice px f.args.length cx] 36, .blk g5 [.int .u8 (c.k), .int .i64 (c.ty), .slice pa c.args.length ca, t0, t1, t2, t3, t4, t5, t6] 33]) (fun (g298, g26) => [(26, .pointer (some ⟨g26, 0, none⟩)), (298, .slice (some ⟨g298, 0, none⟩) 1 1), (302, .agg #[.int .u8 (v0.k), .int .i64 (v0.n), .string v0.s]), (300, .slice p2 vals.length c2), (296, .slice p1 has.length c1), (25, .bool r292), (24, .pointer (some ⟨g24, 0, none⟩)), (229, .bool (decide (((s2 : Nat) : Int) < ((has.length : Nat) : Int)))), (21, .int .i64 ((s2 : Nat) : Int)), (119, .bool (decide (((s1.1 : Nat) : Int) < ((c.args.length : Nat) : Int)))), (17, .int .i64 ((s1.1 : Nat) : Int)), (16, .map (some g114)), (15, .bool (s1.2.2.2.2.2)), (14, .map (some g113)), (112, .bool (c.ty != f.ty)), (65, .bool (!r61)), (13, .bool r61), (12, .pointer (some ⟨g12, 0, none⟩)), (11, .pointer (some ⟨g11, 0, none⟩)), (50, .bool (decide (((vals.length : Nat) : Int) > 2000))), (30, .bool false), (10, .bool false), (9, .pointer (some ⟨g9, 0, none⟩)), (6, .pointer (some ⟨g6, 0, none⟩)), (5, .pointer (some ⟨g5, 0, none⟩)), (0, .agg #[.int .u8 (c.k), .int .i64 (c.ty), .slice pa c.args.length ca, t0, t1, t2, t3, t4, t5, t6]), (1, .agg #[.int .i64 (f.id), .int .i64 (f.ty), .slice px f.args.length cx]), (2, .slice p1 has.length c1), (3, .slice p2 vals.length c2), (4, .agg #[.int .u8 (v0.k), .int .i64 (v0.n), .string v0.s])]) ?_ (fun m23_37 => ?_)
             ·
              rintro ⟨g298, g26⟩ _
              try dsimp only
              refine wx_step2 hok 0 8 rfl rfl rfl rfl rfl rfl ?_ ?_
              ·
               refine wl_buildSlice rfl rfl rfl (freshS_eq rfl) rfl tE_37 tS_4 tZ_4 rfl (zs := []) (by kernel_rfl) rfl (out := []) rfl (fun g295 => ?_)
               refine wl_nil ?_
               refine we_x [0, 1, 2, 3] [14] rfl rfl ?_
               exact wx_at (m16_37 (g295, g298, g26) trivial) rfl [0] [0] [0, 1, 2, 3] [0, 1, 2, 3] [1, 2, 0, 3, 4, 5, 6, 7, 8, 9, 10, 11, 12, 13, 14, 15, 16] [2, 0, 1, 3, 4, 5, 6, 7, 8, 9, 10, 11, 12, 13, 14, 15, 16] [26, 298, 295, 302, 300, 296, 25, 24, 229, 21, 119, 17, 16, 15, 14, 112, 65, 13, 12, 11, 50, 30, 10, 9, 6, 5, 0, 1, 2, 3, 4] rfl rfl rfl rfl rfl rfl rfl rfl
              ·
               refine wl_buildSlice rfl rfl rfl (freshS_eq rfl) rfl tE_34 tS_27 tZ_27 rfl (zs := [.int .u8 0, .int .i64 0, .string ⟨#[]⟩]) (by kernel_rfl) rfl (out := [_,_,_]) rfl (fun g303 => ?_)
               refine wl_nil ?_
               refine we_x [0, 1, 2, 3] [] rfl rfl ?_
               exact wx_at (m18_37 (g298, g303, g26) trivial) rfl [0] [0] [0, 1, 2, 3] [0, 1, 2, 3] [1, 0, 2, 3, 4, 5, 6, 7, 8, 9, 10, 11, 12, 13, 14, 15, 16] [1, 0, 2, 3, 4, 5, 6, 7, 8, 9, 10, 11, 12, 13, 14, 15, 16] [26, 303, 298, 300, 296, 25, 24, 229, 21, 119, 17, 16, 15, 14, 112, 65, 13, 12, 11, 50, 30, 10, 9, 6, 5, 0, 1, 2, 3, 4] rfl rfl rfl rfl rfl rfl rfl rfl
             refine wx_memo (σ := Nat × Nat) (fun (g303, g26) => True) [11, 8, 7, 5, 1] (fun (g303, g26) => [(7, .blk g9 [.int .u8 (v0.k), .int .i64 (v0.n), .string v0.s] 27)]) (fun (g303, g26) => [.sli 5 aRep pa ca c.args, .sli 3 vRep px cx f.args, .sli 1 bRep p1 c1 has, .sli 3 vRep p2 c2 vals]) (fun (g303, g26) => [.blk g26 [.slice none 0 0, .slice none 0 0] 41, .blk g303 [.int .u8 (v0.k), .int .i64 (v0.n), .string v0.s] 27, .blk g24 [.slice p292 e292.has.length c292, .slice p292_2 e292.vals.length c292_2] 41, .own 27 3 vRep (.slice p292_2 e292.vals.length c292_2) e292.vals, .own 4 1 bRep (.slice p292 e292.has.length c292) e292.has, mapF Try.prog 3 4 (mBool tU_4) g114 s1.2.2.1 s1.2.2.2.2.1, mapF Try.prog 3 3 (mInt tU_3) g113 s1.2.1 s1.2.2.2.1, .blk g12 [.slice p61 e61.has.length c61, .slice p61_2 e61.vals.length c61_2] 41, .own 27 3 vRep (.slice p61_2 e61.vals.length c61_2) e61.vals, .own 4 1 bRep (.slice p61 e61.has.length c61) e61.has, .blk g11 [.slice p53 (has).length c53, .slice p55 vals.length c55] 41, .own 27 3 vRep (.slice p55 vals.length c55) vals, .own 4 1 bRep (.slice p53 (has).length c53) has, .blk g9 [.int .u8 (v0.k), .int .i64 (v0.n), .string v0.s] 27, .blk g6 [.int .i64 (f.id), .int .i64 (f.ty), .slice px f.args.length cx] 36, .blk g5 [.int .u8 (c.k), .int .i64 (c.ty), .slice pa c.args.length ca, t0, t1, t2, t3, t4, t5, t6] 33]) (fun (g303, g26) => [(26, .pointer (some ⟨g26, 0, none⟩)), (303, .slice (some ⟨g303, 0, none⟩) 1 1), (300, .slice p2 vals.length c2), (296, .slice p1 has.length c1), (25, .bool r292), (24, .pointer (some ⟨g24, 0, none⟩)), (229, .bool (decide (((s2 : Nat) : Int) < ((has.length : Nat) : Int)))), (21, .int .i64 ((s2 : Nat) : Int)), (119, .bool (decide (((s1.1 : Nat) : Int) < ((c.args.length : Nat) : Int)))), (17, .int .i64 ((s1.1 : Nat) : Int)), (16, .map (some g114)), (15, .bool (s1.2.2.2.2.2)), (14, .map (some g113)), (112, .bool (c.ty != f.ty)), (65, .bool (!r61)), (13, .bool r61), (12, .pointer (some ⟨g12, 0, none⟩)), (11, .pointer (some ⟨g11, 0, none⟩)), (50, .bool (decide (((vals.length : Nat) : Int) > 2000))), (30, .bool false), (10, .bool false), (9, .pointer (some ⟨g9, 0, none⟩)), (6, .pointer (some ⟨g6, 0, none⟩)), (5, .pointer (some ⟨g5, 0, none⟩)), (0, .agg #[.int .u8 (c.k), .int .i64 (c.ty), .slice pa c.args.length ca, t0, t1, t2, t3, t4, t5, t6]), (1, .agg #[.int .i64 (f.id), .int .i64 (f.ty), .slice px f.args.length cx]), (2, .slice p1 has.length c1), (3, .slice p2 vals.length c2), (4, .agg #[.int .u8 (v0.k), .int .i64 (v0.n), .string v0.s])]) ?_ (fun m24_37 => ?_)
             ·
              rintro ⟨g303, g26⟩ _
              try dsimp only
              refine wx_step2 hok 0 3 rfl rfl rfl rfl rfl rfl ?_ ?_
              ·
               refine wl_buildSlice rfl rfl rfl (freshS_eq rfl) rfl tE_37 tS_4 tZ_4 rfl (zs := []) (by kernel_rfl) rfl (out := []) rfl (fun g295 => ?_)
               refine wl_nil ?_
               refine we_x [0, 1, 2, 3] [14] rfl rfl ?_
               exact wx_at (m17_37 (g295, g303, g26) trivial) rfl [0] [0] [0, 1, 2, 3] [0, 1, 2, 3] [1, 2, 0, 3, 4, 5, 6, 7, 8, 9, 10, 11, 12, 13, 14, 15, 16] [2, 0, 1, 3, 4, 5, 6, 7, 8, 9, 10, 11, 12, 13, 14, 15, 16] [26, 303, 295, 300, 296, 25, 24, 229, 21, 119, 17, 16, 15, 14, 112, 65, 13, 12, 11, 50, 30, 10, 9, 6, 5, 0, 1, 2, 3, 4] rfl rfl rfl rfl rfl rfl rfl rfl
              ·
               refine wl_buildSlice rfl rfl rfl (freshS_eq rfl) rfl tE_37 tS_4 tZ_4 rfl (zs := [.bool false]) (by kernel_rfl) rfl (out := [_]) rfl (fun g298 => ?_)
               refine wl_nil ?_
               refine we_x [0, 1, 2, 3] [14] rfl rfl ?_
               exact wx_at (m18_37 (g298, g303, g26) trivial) rfl [0] [0] [0, 1, 2, 3] [0, 1, 2, 3] [1, 2, 0, 3, 4, 5, 6, 7, 8, 9, 10, 11, 12, 13, 14, 15, 16] [2, 0, 1, 3, 4, 5, 6, 7, 8, 9, 10, 11, 12, 13, 14, 15, 16] [26, 303, 298, 300, 296, 25, 24, 229, 21, 119, 17, 16, 15, 14, 112, 65, 13, 12, 11, 50, 30, 10, 9, 6, 5, 0, 1, 2, 3, 4] rfl rfl rfl rfl rfl rfl rfl rfl
             refine wx_pure hok 1 rfl rfl rfl (freshS_eq rfl) rfl rfl ?_
             refine wx_pure hok 5 rfl rfl rfl (freshS_eq rfl) rfl rfl ?_
             refine wx_loadH hok 7 11 0 rfl rfl rfl (freshS_eq rfl) rfl rfl rfl rfl (cs := [_,_,_]) rfl tS_27 tA_27 rfl rfl ?_
             refine wx_step4 hok 0 3 8 11 rfl rfl rfl rfl rfl rfl rfl rfl rfl rfl ?_ ?_ ?_ ?_
             ·
              refine wl_buildSlice rfl rfl rfl (freshS_eq rfl) rfl tE_37 tS_4 tZ_4 rfl (zs := []) (by kernel_rfl) rfl (out := []) rfl (fun g295 => ?_)
              refine wl_nil ?_
              refine we_x [0, 1, 2, 3] [12] rfl rfl ?_
              refine wx_step4 hok 2 3 8 11 rfl rfl rfl rfl rfl rfl rfl rfl rfl rfl ?_ ?_ ?_ ?_
              ·
               refine wl_row (sz := 1) (m := 0) bRep [] 0 rfl (fun F w hφ => rfl) rfl (by decide) (H' := [_,_,_,_,_,_,_,_,_,_,_,_,_,_,_]) rfl ?_
               refine wl_append 0 2 rfl rfl rfl (freshS_eq rfl) rfl rfl rfl rfl rfl tE_37 tR_4 rfl rfl (by simp; omega) (by simp; omega) (H2 := fun p297 c297 => [.own 4 1 bRep (.slice p297 (has).length c297) has, .blk g24 [.slice p292 e292.has.length c292, .slice p292_2 e292.vals.length c292_2] 41, .own 27 3 vRep (.slice p292_2 e292.vals.length c292_2) e292.vals, .own 4 1 bRep (.slice p292 e292.has.length c292) e292.has, mapF Try.prog 3 4 (mBool tU_4) g114 s1.2.2.1 s1.2.2.2.2.1, mapF Try.prog 3 3 (mInt tU_3) g113 s1.2.1 s1.2.2.2.1, .blk g12 [.slice p61 e61.has.length c61, .slice p61_2 e61.vals.length c61_2] 41, .own 27 3 vRep (.slice p61_2 e61.vals.length c61_2) e61.vals, .own 4 1 bRep (.slice p61 e61.has.length c61) e61.has, .blk g11 [.slice p53 (has).length c53, .slice p55 vals.length c55] 41, .own 27 3 vRep (.slice p55 vals.length c55) vals, .own 4 1 bRep (.slice p53 (has).length c53) has, .blk g9 [.int .u8 (v0.k), .int .i64 (v0.n), .string v0.s] 27, .blk g6 [.int .i64 (f.id), .int .i64 (f.ty), .slice px f.args.length cx] 36, .blk g5 [.int .u8 (c.k), .int .i64 (c.ty), .slice pa c.args.length ca, t0, t1, t2, t3, t4, t5, t6] 33]) (fun _ _ => rfl) (fun p297 c297 => ?_)
               refine wl_nil ?_
               refine we_x [0, 1, 2, 3] [12] rfl rfl ?_
               refine wx_step3 hok 3 8 11 rfl rfl rfl rfl rfl rfl rfl rfl ?_ ?_ ?_
               ·
                refine wl_buildSlice rfl rfl rfl (freshS_eq rfl) rfl tE_37 tS_4 tZ_4 rfl (zs := [.bool false]) (by kernel_rfl) rfl (out := [_]) rfl (fun g298 => ?_)
                refine wl_nil ?_
                refine we_x [0, 1, 2, 3] [13] rfl rfl ?_
                exact wx_at (m12_37 (g295, p297, c297, g298) trivial) rfl [0] [0] [0, 1, 2, 3] [0, 1, 2, 3] [0, 1, 2, 3, 4, 5, 6, 7, 8, 9, 10, 11, 12, 13, 14, 15] [0, 1, 2, 3, 4, 5, 6, 7, 8, 9, 10, 11, 12, 13, 14, 15] [298, 297, 302, 300, 25, 24, 229, 21, 119, 17, 16, 15, 14, 112, 65, 13, 12, 11, 50, 30, 10, 9, 6, 5, 0, 1, 2, 3, 4] rfl rfl rfl rfl rfl rfl rfl rfl
               ·
                refine wl_buildSlice rfl rfl rfl (freshS_eq rfl) rfl tE_34 tS_27 tZ_27 rfl (zs := [.int .u8 0, .int .i64 0, .string ⟨#[]⟩]) (by kernel_rfl) rfl (out := [_,_,_]) rfl (fun g303 => ?_)
                refine wl_nil ?_
                refine we_x [0, 1, 2, 3] [] rfl rfl ?_
                exact wx_at (m13_37 (g295, p297, c297, g303) trivial) rfl [0] [0] [0, 1, 2, 3] [0, 1, 2, 3] [0, 1, 2, 3, 4, 5, 6, 7, 8, 9, 10, 11, 12, 13, 14, 15] [0, 1, 2, 3, 4, 5, 6, 7, 8, 9, 10, 11, 12, 13, 14, 15] [303, 297, 300, 25, 24, 229, 21, 119, 17, 16, 15, 14, 112, 65, 13, 12, 11, 50, 30, 10, 9, 6, 5, 0, 1, 2, 3, 4] rfl rfl rfl rfl rfl rfl rfl rfl
               ·
                refine wl_alloc rfl rfl rfl (freshS_eq rfl) rfl tZ_41 rfl (fun g26 => ?_)
                refine wl_nil ?_
                refine we_x [0, 1, 2, 3] [13] rfl rfl ?_
                exact wx_at (m14_37 (g295, p297, c297, g26) trivial) rfl [0] [0] [0, 1, 2, 3] [0, 1, 2, 3] [0, 1, 2, 3, 4, 5, 6, 7, 8, 9, 10, 11, 12, 13, 14, 15] [0, 1, 2, 3, 4, 5, 6, 7, 8, 9, 10, 11, 12, 13, 14, 15] [26, 297, 302, 300, 25, 24, 229, 21, 119, 17, 16, 15, 14, 112, 65, 13, 12, 11, 50, 30, 10, 9, 6, 5, 0, 1, 2, 3, 4] rfl rfl rfl rfl rfl rfl rfl rfl
              ·
               refine wl_buildSlice rfl rfl rfl (freshS_eq rfl) rfl tE_37 tS_4 tZ_4 rfl (zs := [.bool false]) (by kernel_rfl) rfl (out := [_]) rfl (fun g298 => ?_)
               refine wl_nil ?_
               refine we_x [0, 1, 2, 3] [13] rfl rfl ?_
               exact wx_at (m19_37 (g295, g298) trivial) rfl [0] [0] [0, 1, 2, 3] [0, 1, 2, 3] [0, 1, 2, 3, 4, 5, 6, 7, 8, 9, 10, 11, 12, 13, 14, 15] [0, 1, 2, 3, 4, 5, 6, 7, 8, 9, 10, 11, 12, 13, 14, 15] [298, 295, 302, 300, 296, 25, 24, 229, 21, 119, 17, 16, 15, 14, 112, 65, 13, 12, 11, 50, 30, 10, 9, 6, 5, 0, 1, 2, 3, 4] rfl rfl rfl rfl rfl rfl rfl rfl
              ·
               refine wl_buildSlice rfl rfl rfl (freshS_eq rfl) rfl tE_34 tS_27 tZ_27 rfl (zs := [.int .u8 0, .int .i64 0, .string ⟨#[]⟩]) (by kernel_rfl) rfl (out := [_,_,_]) rfl (fun g303 => ?_)
               refine wl_nil ?_
               refine we_x [0, 1, 2, 3] [] rfl rfl ?_
               exact wx_at (m20_37 (g295, g303) trivial) rfl [0] [0] [0, 1, 2, 3] [0, 1, 2, 3] [0, 1, 2, 3, 4, 5, 6, 7, 8, 9, 10, 11, 12, 13, 14, 15] [0, 1, 2, 3, 4, 5, 6, 7, 8, 9, 10, 11, 12, 13, 14, 15] [303, 295, 300, 296, 25, 24, 229, 21, 119, 17, 16, 15, 14, 112, 65, 13, 12, 11, 50, 30, 10, 9, 6, 5, 0, 1, 2, 3, 4] rfl rfl rfl rfl rfl rfl rfl rfl
              ·
               refine wl_alloc rfl rfl rfl (freshS_eq rfl) rfl tZ_41 rfl (fun g26 => ?_)
               refine wl_nil ?_
               refine we_x [0, 1, 2, 3] [13] rfl rfl ?_
               exact wx_at (m21_37 (g295, g26) trivial) rfl [0] [0] [0, 1, 2, 3] [0, 1, 2, 3] [0, 1, 2, 3, 4, 5, 6, 7, 8, 9, 10, 11, 12, 13, 14, 15] [0, 1, 2, 3, 4, 5, 6, 7, 8, 9, 10, 11, 12, 13, 14, 15] [26, 295, 302, 300, 296, 25, 24, 229, 21, 119, 17, 16, 15, 14, 112, 65, 13, 12, 11, 50, 30, 10, 9, 6, 5, 0, 1, 2, 3, 4] rfl rfl rfl rfl rfl rfl rfl rfl
             ·
              refine wl_buildSlice rfl rfl rfl (freshS_eq rfl) rfl tE_37 tS_4 tZ_4 rfl (zs := [.bool false]) (by kernel_rfl) rfl (out := [_]) rfl (fun g298 => ?_)
              refine wl_nil ?_
              refine we_x [0, 1, 2, 3] [12] rfl rfl ?_
              refine wx_step3 hok 0 8 11 rfl rfl rfl rfl rfl rfl rfl rfl ?_ ?_ ?_
              ·
               refine wl_buildSlice rfl rfl rfl (freshS_eq rfl) rfl tE_37 tS_4 tZ_4 rfl (zs := []) (by kernel_rfl) rfl (out := []) rfl (fun g295 => ?_)
               refine wl_nil ?_
               refine we_x [0, 1, 2, 3] [13] rfl rfl ?_
               exact wx_at (m19_37 (g295, g298) trivial) rfl [0] [0] [0, 1, 2, 3] [0, 1, 2, 3] [1, 0, 2, 3, 4, 5, 6, 7, 8, 9, 10, 11, 12, 13, 14, 15] [1, 0, 2, 3, 4, 5, 6, 7, 8, 9, 10, 11, 12, 13, 14, 15] [298, 295, 302, 300, 296, 25, 24, 229, 21, 119, 17, 16, 15, 14, 112, 65, 13, 12, 11, 50, 30, 10, 9, 6, 5, 0, 1, 2, 3, 4] rfl rfl rfl rfl rfl rfl rfl rfl
              ·
               refine wl_buildSlice rfl rfl rfl (freshS_eq rfl) rfl tE_34 tS_27 tZ_27 rfl (zs := [.int .u8 0, .int .i64 0, .string ⟨#[]⟩]) (by kernel_rfl) rfl (out := [_,_,_]) rfl (fun g303 => ?_)
               refine wl_nil ?_
               refine we_x [0, 1, 2, 3] [] rfl rfl ?_
               exact wx_at (m22_37 (g298, g303) trivial) rfl [0] [0] [0, 1, 2, 3] [0, 1, 2, 3] [0, 1, 2, 3, 4, 5, 6, 7, 8, 9, 10, 11, 12, 13, 14, 15] [0, 1, 2, 3, 4, 5, 6, 7, 8, 9, 10, 11, 12, 13, 14, 15] [303, 298, 300, 296, 25, 24, 229, 21, 119, 17, 16, 15, 14, 112, 65, 13, 12, 11, 50, 30, 10, 9, 6, 5, 0, 1, 2, 3, 4] rfl rfl rfl rfl rfl rfl rfl rfl
              ·
               refine wl_alloc rfl rfl rfl (freshS_eq rfl) rfl tZ_41 rfl (fun g26 => ?_)
               refine wl_nil ?_
               refine we_x [0, 1, 2, 3] [13] rfl rfl ?_
               exact wx_at (m23_37 (g298, g26) trivial) rfl [0] [0] [0, 1, 2, 3] [0, 1, 2, 3] [0, 1, 2, 3, 4, 5, 6, 7, 8, 9, 10, 11, 12, 13, 14, 15] [0, 1, 2, 3, 4, 5, 6, 7, 8, 9, 10, 11, 12, 13, 14, 15] [26, 298, 302, 300, 296, 25, 24, 229, 21, 119, 17, 16, 15, 14, 112, 65, 13, 12, 11, 50, 30, 10, 9, 6, 5, 0, 1, 2, 3, 4] rfl rfl rfl rfl rfl rfl rfl rfl
             ·
              refine wl_buildSlice rfl rfl rfl (freshS_eq rfl) rfl tE_34 tS_27 tZ_27 rfl (zs := [.int .u8 0, .int .i64 0, .string ⟨#[]⟩]) (by kernel_rfl) rfl (out := [_,_,_]) rfl (fun g303 => ?_)
              refine wl_nil ?_
              refine we_x [0, 1, 2, 3] [] rfl rfl ?_
              refine wx_step3 hok 0 3 11 rfl rfl rfl rfl rfl rfl rfl rfl ?_ ?_ ?_
              ·
               refine wl_buildSlice rfl rfl rfl (freshS_eq rfl) rfl tE_37 tS_4 tZ_4 rfl (zs := []) (by kernel_rfl) rfl (out := []) rfl (fun g295 => ?_)
               refine wl_nil ?_
               refine we_x [0, 1, 2, 3] [13] rfl rfl ?_
               exact wx_at (m20_37 (g295, g303) trivial) rfl [0] [0] [0, 1, 2, 3] [0, 1, 2, 3] [1, 0, 2, 3, 4, 5, 6, 7, 8, 9, 10, 11, 12, 13, 14, 15] [1, 0, 2, 3, 4, 5, 6, 7, 8, 9, 10, 11, 12, 13, 14, 15] [303, 295, 300, 296, 25, 24, 229, 21, 119, 17, 16, 15, 14, 112, 65, 13, 12, 11, 50, 30, 10, 9, 6, 5, 0, 1, 2, 3, 4] rfl rfl rfl rfl rfl rfl rfl rfl
              ·
               refine wl_buildSlice rfl rfl rfl (freshS_eq rfl) rfl tE_37 tS_4 tZ_4 rfl (zs := [.bool false]) (by kernel_rfl) rfl (out := [_]) rfl (fun g298 => ?_)
               refine wl_nil ?_
               refine we_x [0, 1, 2, 3] [13] rfl rfl ?_
               exact wx_at (m22_37 (g298, g303) trivial) rfl [0] [0] [0, 1, 2, 3] [0, 1, 2, 3] [1, 0, 2, 3, 4, 5, 6, 7, 8, 9, 10, 11, 12, 13, 14, 15] [1, 0, 2, 3, 4, 5, 6, 7, 8, 9, 10, 11, 12, 13, 14, 15] [303, 298, 300, 296, 25, 24, 229, 21, 119, 17, 16, 15, 14, 112, 65, 13, 12, 11, 50, 30, 10, 9, 6, 5, 0, 1, 2, 3, 4] rfl rfl rfl rfl rfl rfl rfl rfl
              ·
               refine wl_alloc rfl rfl rfl (freshS_eq rfl) rfl tZ_41 rfl (fun g26 => ?_)
               refine wl_nil ?_
               refine we_x [0, 1, 2, 3] [13] rfl rfl ?_
               exact wx_at (m24_37 (g303, g26) trivial) rfl [0] [0] [0, 1, 2, 3] [0, 1, 2, 3] [0, 1, 2, 3, 4, 5, 6, 7, 8, 9, 10, 11, 12, 13, 14, 15] [0, 1, 2, 3, 4, 5, 6, 7, 8, 9, 10, 11, 12, 13, 14, 15] [26, 303, 300, 296, 25, 24, 229, 21, 119, 17, 16, 15, 14, 112, 65, 13, 12, 11, 50, 30, 10, 9, 6, 5, 0, 1, 2, 3, 4] rfl rfl rfl rfl rfl rfl rfl rfl
             ·
              refine wl_alloc rfl rfl rfl (freshS_eq rfl) rfl tZ_41 rfl (fun g26 => ?_)
              refine wl_nil ?_
              refine we_x [0, 1, 2, 3] [12] rfl rfl ?_
              refine wx_step3 hok 0 3 8 rfl rfl rfl rfl rfl rfl rfl rfl ?_ ?_ ?_
              ·
               refine wl_buildSlice rfl rfl rfl (freshS_eq rfl) rfl tE_37 tS_4 tZ_4 rfl (zs := []) (by kernel_rfl) rfl (out := []) rfl (fun g295 => ?_)
               refine wl_nil ?_
               refine we_x [0, 1, 2, 3] [13] rfl rfl ?_
               exact wx_at (m21_37 (g295, g26) trivial) rfl [0] [0] [0, 1, 2, 3] [0, 1, 2, 3] [1, 0, 2, 3, 4, 5, 6, 7, 8, 9, 10, 11, 12, 13, 14, 15] [1, 0, 2, 3, 4, 5, 6, 7, 8, 9, 10, 11, 12, 13, 14, 15] [26, 295, 302, 300, 296, 25, 24, 229, 21, 119, 17, 16, 15, 14, 112, 65, 13, 12, 11, 50, 30, 10, 9, 6, 5, 0, 1, 2, 3, 4] rfl rfl rfl rfl rfl rfl rfl rfl
              ·
               refine wl_buildSlice rfl rfl rfl (freshS_eq rfl) rfl tE_37 tS_4 tZ_4 rfl (zs := [.bool false]) (by kernel_rfl) rfl (out := [_]) rfl (fun g298 => ?_)
               refine wl_nil ?_
               refine we_x [0, 1, 2, 3] [13] rfl rfl ?_
               exact wx_at (m23_37 (g298, g26) trivial) rfl [0] [0] [0, 1, 2, 3] [0, 1, 2, 3] [1, 0, 2, 3, 4, 5, 6, 7, 8, 9, 10, 11, 12, 13, 14, 15] [1, 0, 2, 3, 4, 5, 6, 7, 8, 9, 10, 11, 12, 13, 14, 15] [26, 298, 302, 300, 296, 25, 24, 229, 21, 119, 17, 16, 15, 14, 112, 65, 13, 12, 11, 50, 30, 10, 9, 6, 5, 0, 1, 2, 3, 4] rfl rfl rfl rfl rfl rfl rfl rfl
              ·
               refine wl_buildSlice rfl rfl rfl (freshS_eq rfl) rfl tE_34 tS_27 tZ_27 rfl (zs := [.int .u8 0, .int .i64 0, .string ⟨#[]⟩]) (by kernel_rfl) rfl (out := [_,_,_]) rfl (fun g303 => ?_)
               refine wl_nil ?_
               refine we_x [0, 1, 2, 3] [] rfl rfl ?_
               exact wx_at (m24_37 (g303, g26) trivial) rfl [0] [0] [0, 1, 2, 3] [0, 1, 2, 3] [1, 0, 2, 3, 4, 5, 6, 7, 8, 9, 10, 11, 12, 13, 14, 15] [1, 0, 2, 3, 4, 5, 6, 7, 8, 9, 10, 11, 12, 13, 14, 15] [26, 303, 300, 296, 25, 24, 229, 21, 119, 17, 16, 15, 14, 112, 65, 13, 12, 11, 50, 30, 10, 9, 6, 5, 0, 1, 2, 3, 4] rfl rfl rfl rfl rfl rfl rfl rfl

end Go.Proofs.Ytffcijddfhhbdaa
