/- Walks, printed by a program out of the loaded code (wip/sep). -/
import Derived.Test.YtffcijddfhhbdaaW7
import Derived.Test.YtffcijddfhhbdaaW12
import Derived.Test.YtffcijddfhhbdaaW13
import Derived.Test.YtffcijddfhhbdaaEqB
namespace Go.Proofs.Ytffcijddfhhbdaa
open Go.RowKit
set_option maxRecDepth 100000 in
set_option maxHeartbeats 4000000 in
theorem lawsome_s (pa p1 p2 : Option Addr) (ca c1 c2 : Nat) (t0 t1 t2 t3 t4 t5 t6 : Value) (c : CondD) (has : List Bool) (vals : List V) (p : Option Addr) (cl : Nat) (l : List FactD) : Spec Try.prog 4 [.agg #[.int .u8 (c.k), .int .i64 (c.ty), .slice pa c.args.length ca, t0, t1, t2, t3, t4, t5, t6], .slice p1 has.length c1, .slice p2 vals.length c2, .slice p l.length cl] [.sli 5 aRep pa ca c.args, .sli 1 bRep p1 c1 has, .sli 3 vRep p2 c2 vals, .sli 3 fRep p cl l] [] (fun v Φr Hr => v = .bool true ∧ Φr = [] ∧ Hr = []) := by
 refine spec_of Try.func4 rfl Try.ntmps4 rfl (S := [_,_,_,_]) rfl (fun C => ?_)
 refine wc_know (fun F w h => sli_cap (h _ (mem_at (k := 3) rfl))) (fun hcap => ?_)
 refine wc_seq ?_
 refine wc_region ?_
 refine wl_box rfl rfl rfl (freshS_eq rfl) rfl rfl rfl (fun g4 => ?_)
 refine wl_pure rfl rfl rfl (freshS_eq rfl) rfl ?_
 refine wl_nil ?_
 refine we_then ?_
 refine wc_seq ?_
 refine wc_seq ?_
 refine wc_region ?_
 refine wl_fieldAddr rfl rfl rfl (freshS_eq rfl) rfl rfl tF_33_2 ?_
 refine wl_loadH 0 2 rfl rfl rfl (freshS_eq rfl) rfl rfl rfl (cs := [_]) rfl tS_23 tA_23 rfl rfl ?_
 refine wl_len rfl rfl rfl (freshS_eq rfl) rfl rfl tE_23 ?_
 refine wl_pure rfl rfl rfl (freshS_eq rfl) rfl ?_
 refine wl_pure rfl rfl rfl (freshS_eq rfl) rfl ?_
 refine wl_split (d := 16) (S' := [_,_,_,_,_,_,_,_,_,_]) rfl rfl (fun h16 => ?_) (fun h16 => ?_)
 ·
  replace h16 := of_decide_eq_true h16
  refine wl_off rfl rfl rfl (freshS_eq rfl) ?_
  refine wl_off rfl rfl rfl (freshS_eq rfl) ?_
  refine wl_off rfl rfl rfl (freshS_eq rfl) ?_
  refine wl_pure rfl rfl rfl (freshS_eq rfl) rfl ?_
  refine wl_pure rfl rfl rfl (freshS_eq rfl) rfl ?_
  refine wl_off rfl rfl rfl (freshS_eq rfl) ?_
  refine wl_off rfl rfl rfl (freshS_eq rfl) ?_
  refine wl_off rfl rfl rfl (freshS_eq rfl) ?_
  refine wl_pure rfl rfl rfl (freshS_eq rfl) rfl ?_
  refine wl_pure rfl rfl rfl (freshS_eq rfl) rfl ?_
  refine wl_off rfl rfl rfl (freshS_eq rfl) ?_
  refine wl_off rfl rfl rfl (freshS_eq rfl) ?_
  refine wl_off rfl rfl rfl (freshS_eq rfl) ?_
  refine wl_pure rfl rfl rfl (freshS_eq rfl) rfl ?_
  refine wl_nil ?_
  refine we_then ?_
  refine wc_keep [30, 8, 4, 0, 1, 2, 3] (S' := [_,_,_,_,_,_,_]) rfl ?_
  refine wc_true rfl ?_
  refine wc_seq ?_
  refine wc_region ?_
  refine wl_call [] [0] rfl rfl rfl (freshS_eq rfl) rfl rfl fn_5 rfl awake_s (fun _ _ hφ => ask [] rfl hφ) rfl (H' := [_]) rfl ?_
  rintro _ _ _ ⟨rfl, rfl, rfl⟩
  refine wl_pure (S' := [_,_,_,_,_,_,_]) rfl rfl rfl rfl rfl ?_
  refine wl_nil ?_
  refine we_then ?_
  refine wc_keep [8, 30, 4, 0, 1, 2, 3] (S' := [_,_,_,_,_,_,_]) rfl ?_
  refine wc_ret ?_
  refine we_then_ret ?_
  refine ret_one (Hr := []) [] Try.results4 (res_tmp rfl) ?_ (fun _ _ hφ => ask [] rfl hφ) rfl rfl (.inl rfl)
  exact ⟨rfl, rfl, rfl⟩
 ·
  replace h16 := of_decide_eq_false h16
  refine wl_pure rfl rfl rfl (freshS_eq rfl) rfl ?_
  refine wl_len rfl rfl rfl (freshS_eq rfl) rfl rfl tE_37 ?_
  refine wl_pure rfl rfl rfl (freshS_eq rfl) rfl ?_
  refine wl_pure rfl rfl rfl (freshS_eq rfl) rfl ?_
  refine wl_pure rfl rfl rfl (freshS_eq rfl) rfl ?_
  refine wl_split (d := 21) (S' := [_,_,_,_,_,_,_,_,_,_,_,_,_,_,_]) rfl rfl (fun h21 => ?_) (fun h21 => ?_)
  ·
   replace h21 := of_decide_eq_true h21
   refine wl_off rfl rfl rfl (freshS_eq rfl) ?_
   refine wl_off rfl rfl rfl (freshS_eq rfl) ?_
   refine wl_off rfl rfl rfl (freshS_eq rfl) ?_
   refine wl_pure rfl rfl rfl (freshS_eq rfl) rfl ?_
   refine wl_pure rfl rfl rfl (freshS_eq rfl) rfl ?_
   refine wl_off rfl rfl rfl (freshS_eq rfl) ?_
   refine wl_off rfl rfl rfl (freshS_eq rfl) ?_
   refine wl_off rfl rfl rfl (freshS_eq rfl) ?_
   refine wl_pure rfl rfl rfl (freshS_eq rfl) rfl ?_
   refine wl_nil ?_
   refine we_then ?_
   refine wc_keep [30, 8, 4, 0, 1, 2, 3] (S' := [_,_,_,_,_,_,_]) rfl ?_
   refine wc_true rfl ?_
   refine wc_seq ?_
   refine wc_region ?_
   refine wl_call [] [0] rfl rfl rfl (freshS_eq rfl) rfl rfl fn_5 rfl awake_s (fun _ _ hφ => ask [] rfl hφ) rfl (H' := [_]) rfl ?_
   rintro _ _ _ ⟨rfl, rfl, rfl⟩
   refine wl_pure (S' := [_,_,_,_,_,_,_]) rfl rfl rfl rfl rfl ?_
   refine wl_nil ?_
   refine we_then ?_
   refine wc_keep [8, 30, 4, 0, 1, 2, 3] (S' := [_,_,_,_,_,_,_]) rfl ?_
   refine wc_ret ?_
   refine we_then_ret ?_
   refine ret_one (Hr := []) [] Try.results4 (res_tmp rfl) ?_ (fun _ _ hφ => ask [] rfl hφ) rfl rfl (.inl rfl)
   exact ⟨rfl, rfl, rfl⟩
  ·
   replace h21 := of_decide_eq_false h21
   refine wl_pure rfl rfl rfl (freshS_eq rfl) rfl ?_
   refine wl_len rfl rfl rfl (freshS_eq rfl) rfl rfl tE_34 ?_
   refine wl_pure rfl rfl rfl (freshS_eq rfl) rfl ?_
   refine wl_pure rfl rfl rfl (freshS_eq rfl) rfl ?_
   refine wl_pure rfl rfl rfl (freshS_eq rfl) rfl ?_
   refine wl_split (d := 26) (S' := [_,_,_,_,_,_,_,_,_,_,_,_,_,_,_,_,_,_,_,_]) rfl rfl (fun h26 => ?_) (fun h26 => ?_)
   ·
    replace h26 := of_decide_eq_true h26
    refine wl_off rfl rfl rfl (freshS_eq rfl) ?_
    refine wl_off rfl rfl rfl (freshS_eq rfl) ?_
    refine wl_off rfl rfl rfl (freshS_eq rfl) ?_
    refine wl_pure rfl rfl rfl (freshS_eq rfl) rfl ?_
    refine wl_nil ?_
    refine we_then ?_
    refine wc_keep [30, 8, 4, 0, 1, 2, 3] (S' := [_,_,_,_,_,_,_]) rfl ?_
    refine wc_true rfl ?_
    refine wc_seq ?_
    refine wc_region ?_
    refine wl_call [] [0] rfl rfl rfl (freshS_eq rfl) rfl rfl fn_5 rfl awake_s (fun _ _ hφ => ask [] rfl hφ) rfl (H' := [_]) rfl ?_
    rintro _ _ _ ⟨rfl, rfl, rfl⟩
    refine wl_pure (S' := [_,_,_,_,_,_,_]) rfl rfl rfl rfl rfl ?_
    refine wl_nil ?_
    refine we_then ?_
    refine wc_keep [8, 30, 4, 0, 1, 2, 3] (S' := [_,_,_,_,_,_,_]) rfl ?_
    refine wc_ret ?_
    refine we_then_ret ?_
    refine ret_one (Hr := []) [] Try.results4 (res_tmp rfl) ?_ (fun _ _ hφ => ask [] rfl hφ) rfl rfl (.inl rfl)
    exact ⟨rfl, rfl, rfl⟩
   ·
    replace h26 := of_decide_eq_false h26
    refine wl_pure rfl rfl rfl (freshS_eq rfl) rfl ?_
    refine wl_len rfl rfl rfl (freshS_eq rfl) rfl rfl tE_52 ?_
    refine wl_pure rfl rfl rfl (freshS_eq rfl) rfl ?_
    refine wl_pure rfl rfl rfl (freshS_eq rfl) rfl ?_
    refine wl_nil ?_
    refine we_then ?_
    refine wc_keep [30, 8, 4, 0, 1, 2, 3] (S' := [_,_,_,_,_,_,_]) rfl ?_
    refine wc_cond rfl (fun h30 => ?_) (fun h30 => ?_)
    ·
     replace h30 := of_decide_eq_true h30
     refine wc_seq ?_
     refine wc_region ?_
     refine wl_call [] [0] rfl rfl rfl (freshS_eq rfl) rfl rfl fn_5 rfl awake_s (fun _ _ hφ => ask [] rfl hφ) rfl (H' := [_]) rfl ?_
     rintro _ _ _ ⟨rfl, rfl, rfl⟩
     refine wl_pure (S' := [_,_,_,_,_,_,_]) rfl rfl rfl rfl rfl ?_
     refine wl_nil ?_
     refine we_then ?_
     refine wc_keep [8, 30, 4, 0, 1, 2, 3] (S' := [_,_,_,_,_,_,_]) rfl ?_
     refine wc_ret ?_
     refine we_then_ret ?_
     refine ret_one (Hr := []) [] Try.results4 (res_tmp rfl) ?_ (fun _ _ hφ => ask [] rfl hφ) rfl rfl (.inl rfl)
     exact ⟨rfl, rfl, rfl⟩
    ·
     replace h30 := of_decide_eq_false h30
     refine wc_skip ?_
     refine we_then ?_
     refine wc_seq ?_
     refine wc_seq ?_
     refine wc_region ?_
     refine wl_pure rfl rfl rfl (freshS_eq rfl) rfl ?_
     refine wl_nil ?_
     refine we_then ?_
     refine wc_block ?_
     refine wc_loop (σ := Nat) (fun s => s ≤ l.length ∧ ∀ f ∈ l.take s, f.args.length ≤ 50) (fun s => l.length - s) (fun s => [(9, .int .i64 ((s : Nat) : Int)), (30, .bool (decide (((l.length : Nat) : Int) > 300))), (8, .bool false), (4, .pointer (some ⟨g4, 0, none⟩)), (0, .agg #[.int .u8 (c.k), .int .i64 (c.ty), .slice pa c.args.length ca, t0, t1, t2, t3, t4, t5, t6]), (1, .slice p1 has.length c1), (2, .slice p2 vals.length c2), (3, .slice p l.length cl)]) (fun s => [.sli 5 aRep pa ca c.args, .sli 1 bRep p1 c1 has, .sli 3 vRep p2 c2 vals, .sli 3 fRep p cl l]) (fun s => [.blk g4 [.int .u8 (c.k), .int .i64 (c.ty), .slice pa c.args.length ca, t0, t1, t2, t3, t4, t5, t6] 33]) 0 ⟨by simp, by simp⟩ [9, 30, 8, 4, 0, 1, 2, 3] rfl (fun _ _ hφ => ask [0, 1, 2, 3] rfl hφ) rfl (fun s1 oks1 => ?_)
     refine wc_seq ?_
     refine wc_seq ?_
     refine wc_region ?_
     refine wl_pure rfl rfl rfl (freshS_eq rfl) rfl ?_
     refine wl_pure rfl rfl rfl (freshS_eq rfl) rfl ?_
     refine wl_len rfl rfl rfl (freshS_eq rfl) rfl rfl tE_52 ?_
     refine wl_pure rfl rfl rfl (freshS_eq rfl) rfl ?_
     refine wl_nil ?_
     refine we_then ?_
     refine wc_keep [35, 9, 30, 8, 4, 0, 1, 2, 3] (S' := [_,_,_,_,_,_,_,_,_]) rfl ?_
     refine wc_cond rfl (fun h35 => ?_) (fun h35 => ?_)
     ·
      replace h35 := of_decide_eq_true h35
      refine wc_skip ?_
      refine we_then ?_
      refine wc_seq ?_
      refine wc_block ?_
      refine wc_seq ?_
      refine wc_region ?_
      refine wl_pure rfl rfl rfl (freshS_eq rfl) rfl ?_
      refine wl_pure rfl rfl rfl (freshS_eq rfl) rfl ?_
      refine wl_index 3 s1 rfl rfl rfl (freshS_eq rfl) rfl rfl rfl rfl rfl (by omega) tE_52 tS_36 (fun b40 q40 cs40 x40 hx40 hlx40 => ?_)
      refine wl_open fRep_opens 1 rfl (fun r40 er40 okx40 => ?_)
      subst er40
      refine wl_fieldAddr rfl rfl rfl (freshS_eq rfl) rfl rfl tF_36_2 ?_
      refine wl_load 1 2 rfl rfl rfl (freshS_eq rfl) rfl rfl rfl (cs := [_]) rfl tS_34 tA_34 rfl rfl ?_
      refine wl_len rfl rfl rfl (freshS_eq rfl) rfl rfl tE_34 ?_
      refine wl_pure rfl rfl rfl (freshS_eq rfl) rfl ?_
      refine wl_nil ?_
      refine we_then ?_
      refine wc_keep [44, 35, 9, 30, 8, 4, 0, 1, 2, 3] (S' := [_,_,_,_,_,_,_,_,_,_]) rfl ?_
      refine wc_cond rfl (fun h44 => ?_) (fun h44 => ?_)
      ·
       replace h44 := of_decide_eq_true h44
       refine wc_seq ?_
       refine wc_region ?_
       refine wl_call [] [0] rfl rfl rfl (freshS_eq rfl) rfl rfl fn_5 rfl awake_s (fun _ _ hφ => ask [] rfl hφ) rfl (H' := [_]) rfl ?_
       rintro _ _ _ ⟨rfl, rfl, rfl⟩
       refine wl_pure (S' := [_,_,_,_,_,_,_,_,_,_]) rfl rfl rfl rfl rfl ?_
       refine wl_nil ?_
       refine we_then ?_
       refine wc_keep [8, 44, 35, 9, 30, 4, 0, 1, 2, 3] (S' := [_,_,_,_,_,_,_,_,_,_]) rfl ?_
       refine wc_ret ?_
       refine we_block_ret ?_
       refine we_then_ret ?_
       refine we_then_ret ?_
       refine we_block_ret ?_
       refine we_then_ret ?_
       refine ret_one (Hr := []) [] Try.results4 (res_tmp rfl) ?_ (fun _ _ hφ => ask [] rfl hφ) rfl rfl (.inl rfl)
       exact ⟨rfl, rfl, rfl⟩
      ·
       replace h44 := of_decide_eq_false h44
       refine wc_skip ?_
       refine we_block_normal ?_
       refine we_then ?_
       refine wc_region ?_
       refine wl_pure rfl rfl rfl (freshS_eq rfl) rfl ?_
       refine wl_pure rfl rfl rfl (freshS_eq rfl) rfl ?_
       refine wl_as (d := 37) (v' := .int .i64 ((s1 + 1 : Nat) : Int)) (S' := [_,_,_,_,_,_,_,_,_,_,_]) rfl rfl (nat_inc (by omega)) ?_
       refine wl_pure (S' := [_,_,_,_,_,_,_,_,_,_,_]) rfl rfl rfl rfl rfl ?_
       refine wl_nil ?_
       refine we_round (s1 + 1) (by omega) ⟨by omega, take_step oks1.2 hx40 (by omega)⟩ [9, 30, 8, 4, 0, 1, 2, 3] rfl (fun _ _ hφ => ask [3, 4, 5, 6] rfl hφ) rfl
     ·
      replace h35 := of_decide_eq_false h35
      refine wc_exit ?_
      refine we_then_exit ?_
      refine we_then_exit ?_
      refine we_block_hit ?_
      refine we_then ?_
      refine wc_seq ?_
      refine wc_region ?_
      refine wl_pure rfl rfl rfl (freshS_eq rfl) rfl ?_
      refine wl_call [] [0] rfl rfl rfl (freshS_eq rfl) rfl rfl fn_9 rfl (lentFacts_s _ _ l (by omega) (fun f hf => by have hh := oks1.2 f (by rw [List.take_of_length_le (by omega)]; exact hf); omega)) (fun _ _ hφ => ask [3] rfl hφ) rfl (H' := [_]) rfl ?_
      rintro _ _ _ ⟨p47, c47, rfl, rfl, rfl⟩
      refine wl_pure rfl rfl rfl (freshS_eq rfl) rfl ?_
      refine wl_nil ?_
      refine we_then ?_
      refine wc_keep [10, 35, 9, 30, 8, 4, 0, 1, 2, 3] (S' := [_,_,_,_,_,_,_,_,_,_]) rfl ?_
      refine wc_seq ?_
      refine wc_region ?_
      refine wl_pure rfl rfl rfl (freshS_eq rfl) rfl ?_
      refine wl_pure rfl rfl rfl (freshS_eq rfl) rfl ?_
      refine wl_build rfl rfl rfl (freshS_eq rfl) rfl tZ_41 tP_41 rfl (out := [_,_]) rfl ?_
      refine wl_alloc rfl rfl rfl (freshS_eq rfl) rfl tZ_41 rfl (fun g11 => ?_)
      refine wl_store 0 0 rfl rfl rfl rfl rfl rfl rfl tS_41 rfl rfl rfl (all' := [_,_]) rfl (H' := [_,_]) rfl ?_
      refine wl_nil ?_
      refine we_then ?_
      refine wc_keep [11, 10, 35, 9, 30, 8, 4, 0, 1, 2, 3] (S' := [_,_,_,_,_,_,_,_,_,_,_]) rfl ?_
      refine wc_seq ?_
      refine wc_draw [0, 1, 2, 4, 5, 6, 7, 8, 10, 11, 12, 13, 15, 16, 18] rfl rfl (fun hok => ?_)
      refine wx_loadH hok 0 1 0 rfl rfl rfl (freshS_eq rfl) rfl rfl rfl rfl (cs := [_,_,_,_,_,_,_,_,_,_]) rfl tS_33 tA_33 rfl rfl ?_
      refine wx_loadH hok 1 0 0 rfl rfl rfl (freshS_eq rfl) rfl rfl rfl rfl (cs := [_,_]) rfl tS_41 tA_41 rfl rfl ?_
      refine wx_pure hok 2 rfl rfl rfl (freshS_eq rfl) rfl rfl ?_
      refine wx_loadH hok 4 1 0 rfl rfl rfl (freshS_eq rfl) rfl rfl rfl rfl (cs := [_,_,_,_,_,_,_,_,_,_]) rfl tS_33 tA_33 rfl rfl ?_
      refine wx_pure hok 5 rfl rfl rfl (freshS_eq rfl) rfl rfl ?_
      refine wx_pure hok 6 rfl rfl rfl (freshS_eq rfl) rfl rfl ?_
      refine wx_build hok 7 rfl rfl rfl (freshS_eq rfl) rfl rfl tZ_56 tP_56 rfl (out := [_,_]) rfl ?_
      refine wx_pure hok 8 rfl rfl rfl (freshS_eq rfl) rfl rfl ?_
      refine wx_step1 hok 3 rfl rfl rfl rfl ?_
      refine wl_lend [] [0, 1] [] rfl rfl rfl (freshS_eq rfl) rfl rfl fn_10 rfl (some_s _ _ _ _ _ _ _ _ _ _ _ _ _ c has vals (by omega) (by omega) _ _ l) (fun F w hφ hh => (ask_cons (hφ _ (mem_at (k := 1) rfl)) (ask_cons (hφ _ (mem_at (k := 2) rfl)) (ask_cons (hφ _ (mem_at (k := 3) rfl)) (ask_cons (sli_lentF (sli_pre (hφ _ (mem_at (k := 0) rfl)))) ask_nil))))) (fun _ _ _ hR => by rcases hR with ⟨b54, rfl, hbb54, rfl, rfl⟩ <;> exact ⟨rfl, by simp [own_free, blk_free, vRep_free, bRep_free, iRep_free, aRep_free]⟩) rfl rfl (H' := [_,_]) rfl ?_
      rintro _ _ _ ⟨b54, rfl, hbb54, rfl, rfl⟩
      refine wl_nil ?_
      refine we_x [0, 1, 2, 3, 4] [1] rfl rfl ?_
      refine wx_step1 hok 9 rfl rfl rfl rfl ?_
      refine wl_call [] [0, 1] rfl rfl rfl (freshS_eq rfl) rfl rfl fn_11 rfl (rsome_s _ _ _ _ _ _ _ _ _ _ _ _ _ c has vals (by omega) (by omega) _ _ l) (fun _ _ hφ => ask [1, 2, 3, 4] rfl hφ) rfl (H' := [_,_]) rfl ?_
      rintro _ _ _ ⟨b60, rfl, hbb60, rfl, rfl⟩
      refine wl_nil ?_
      refine we_x [0, 1, 2, 3, 4] [0, 1] rfl rfl ?_
      refine wx_bin hok 10 rfl rfl rfl (freshS_eq rfl) rfl rfl rfl rfl (eqlB _ _ b54 b60) ?_
      refine wx_pure hok 11 rfl rfl rfl (freshS_eq rfl) rfl rfl ?_
      refine wx_split (d := 62) (S' := [_,_,_,_,_,_,_,_,_,_,_,_,_,_,_,_,_,_,_,_,_,_]) rfl rfl (fun h62 => ?_) (fun h62 => ?_)
      ·
       replace h62 := eq_of_beq h62
       refine wx_pure hok 12 rfl rfl rfl (freshS_eq rfl) rfl rfl ?_
       refine wx_pure hok 13 rfl rfl rfl (freshS_eq rfl) rfl rfl ?_
       refine wx_step1 hok 14 rfl rfl rfl rfl ?_
       refine wl_call [] [0, 1] rfl rfl rfl (freshS_eq rfl) rfl rfl fn_12 rfl (keptFacts_s _ _ _ _ l l) (fun _ _ hφ => ask [0, 4] rfl hφ) rfl (H' := [_,_]) rfl ?_
       rintro _ _ _ ⟨b65, rfl, hbb65, rfl, rfl⟩
       refine wl_nil ?_
       refine we_x [0, 1, 2, 3, 4] [1, 0, 1] rfl rfl ?_
       refine wx_pure hok 15 rfl rfl rfl (freshS_eq rfl) rfl rfl ?_
       refine wx_pure hok 16 rfl rfl rfl (freshS_eq rfl) rfl rfl ?_
       refine wx_step1 hok 17 rfl rfl rfl rfl ?_
       refine wl_split (d := 67) (S' := [_,_,_,_,_,_,_,_,_,_,_,_,_,_,_,_,_,_,_,_,_,_,_,_,_,_,_]) rfl rfl (fun h67 => ?_) (fun h67 => ?_)
       ·
        refine wl_call [] [0, 1] rfl rfl rfl (freshS_eq rfl) rfl rfl fn_5 rfl awake_s (fun _ _ hφ => ask [] rfl hφ) rfl (H' := [_,_]) rfl ?_
        rintro _ _ _ ⟨rfl, rfl, rfl⟩
        refine wl_nil ?_
        refine we_x [0, 1, 2, 3, 4] [1, 0, 1] rfl rfl ?_
        refine wx_pure hok 18 rfl rfl rfl (freshS_eq rfl) rfl rfl ?_
        refine wx_step1 hok 19 rfl rfl rfl rfl ?_
        refine wl_pure (S' := [_,_,_,_,_,_,_,_,_,_,_,_,_,_,_,_,_,_,_,_,_,_,_,_,_,_,_,_,_]) rfl rfl rfl rfl rfl ?_
        refine wl_nil ?_
        refine we_x [0, 1, 2, 3, 4] [] rfl rfl ?_
        refine wx_done hok rfl ?_
        refine we_then ?_
        refine wc_keep [8, 11, 10, 35, 9, 30, 4, 0, 1, 2, 3] (S' := [_,_,_,_,_,_,_,_,_,_,_]) rfl ?_
        refine wc_ret ?_
        refine ret_one (Hr := []) [] Try.results4 (res_tmp rfl) ?_ (fun _ _ hφ => ask [] rfl hφ) rfl rfl (.inl rfl)
        exact ⟨rfl, rfl, rfl⟩
       ·
        exfalso
        rw [hbb65.2 rfl] at h67
        cases h67
      ·
       replace h62 := ne_of_beq_false h62
       exfalso
       exact h62 (Bool.eq_iff_iff.2 (hbb54.trans hbb60.symm))

end Go.Proofs.Ytffcijddfhhbdaa
