/- Walks, printed by a program out of the loaded code (wip/sep). -/
import Derived.Test.YtffcijddfhhbdaaW1
namespace Go.Proofs.Ytffcijddfhhbdaa
open Go.RowKit
set_option maxRecDepth 100000 in
set_option maxHeartbeats 4000000 in
theorem made_s (p1 p2 : Option Addr) (c1 c2 : Nat) (has : List Bool) (vals : List V) : Spec Try.prog 15 [.agg #[.slice p1 has.length c1, .slice p2 vals.length c2]] [.sli 1 bRep p1 c1 has, .sli 3 vRep p2 c2 vals] [] (fun v Φr Hr => ∃ b, v = .bool b ∧ (b = true ↔ Made has vals) ∧ Φr = [] ∧ Hr = []) := by
 refine spec_of Try.func15 rfl Try.ntmps15 rfl (S := [_]) rfl (fun C => ?_)
 refine wc_know (fun F w h => sli_cap (h _ (mem_at (k := 0) rfl))) (fun hcap => ?_)
 refine wc_seq ?_
 refine wc_region ?_
 refine wl_box rfl rfl rfl (freshS_eq rfl) rfl rfl rfl (fun g1 => ?_)
 refine wl_pure rfl rfl rfl (freshS_eq rfl) rfl ?_
 refine wl_nil ?_
 refine we_then ?_
 refine wc_seq ?_
 refine wc_seq ?_
 refine wc_region ?_
 refine wl_fieldAddr rfl rfl rfl (freshS_eq rfl) rfl rfl tF_41_0 ?_
 refine wl_loadH 0 0 rfl rfl rfl (freshS_eq rfl) rfl rfl rfl (cs := [_]) rfl tS_37 tA_37 rfl rfl ?_
 refine wl_len rfl rfl rfl (freshS_eq rfl) rfl rfl tE_37 ?_
 refine wl_fieldAddr rfl rfl rfl (freshS_eq rfl) rfl rfl tF_41_1 ?_
 refine wl_loadH 0 1 rfl rfl rfl (freshS_eq rfl) rfl rfl rfl (cs := [_]) rfl tS_34 tA_34 rfl rfl ?_
 refine wl_len rfl rfl rfl (freshS_eq rfl) rfl rfl tE_34 ?_
 refine wl_pure rfl rfl rfl (freshS_eq rfl) rfl ?_
 refine wl_nil ?_
 refine we_then ?_
 refine wc_keep [11, 2, 1, 0] (S' := [_,_,_,_]) rfl ?_
 refine wc_cond rfl (fun h11 => ?_) (fun h11 => ?_)
 ·
  replace h11 := bne_iff_ne.1 h11
  refine wc_seq ?_
  refine wc_region ?_
  refine wl_pure (S' := [_,_,_]) rfl rfl rfl rfl rfl ?_
  refine wl_nil ?_
  refine we_then ?_
  refine wc_ret ?_
  refine we_then_ret ?_
  refine ret_one (Hr := []) [] Try.results15 (res_tmp rfl) ?_ (fun _ _ hφ => ask [] rfl hφ) rfl rfl (.inl rfl)
  exact ⟨false, rfl, by simp [Made]; intro h; omega, rfl, rfl⟩
 ·
  replace h11 := bne_eq_false_iff_eq.1 h11
  refine wc_skip ?_
  refine we_then ?_
  refine wc_seq ?_
  refine wc_seq ?_
  refine wc_region ?_
  refine wl_fieldAddr rfl rfl rfl (freshS_eq rfl) rfl rfl tF_41_0 ?_
  refine wl_loadH 0 0 rfl rfl rfl (freshS_eq rfl) rfl rfl rfl (cs := [_]) rfl tS_37 tA_37 rfl rfl ?_
  refine wl_len rfl rfl rfl (freshS_eq rfl) rfl rfl tE_37 ?_
  refine wl_pure rfl rfl rfl (freshS_eq rfl) rfl ?_
  refine wl_nil ?_
  refine we_then ?_
  refine wc_keep [15, 14, 13, 11, 2, 1, 0] (S' := [_,_,_,_,_,_,_]) rfl ?_
  refine wc_block ?_
  refine wc_loop (σ := Nat) (fun s => s ≤ has.length ∧ ∀ i, i < s → ∀ x, has[i]? = some false → vals[i]? = some x → x = V.zero) (fun s => has.length - s) (fun s => [(15, .int .i64 ((s : Nat) : Int)), (14, .int .i64 ((has.length : Nat) : Int)), (13, .slice p1 has.length c1), (11, .bool (((has.length : Nat) : Int) != ((vals.length : Nat) : Int))), (2, .bool false), (1, .pointer (some ⟨g1, 0, none⟩)), (0, .agg #[.slice p1 has.length c1, .slice p2 vals.length c2])]) (fun s => [.sli 1 bRep p1 c1 has, .sli 3 vRep p2 c2 vals]) (fun s => [.blk g1 [.slice p1 has.length c1, .slice p2 vals.length c2] 41]) 0 (by simp) [15, 14, 13, 11, 2, 1, 0] rfl (fun _ _ hφ => ask [0, 1] rfl hφ) rfl (fun s1 oks1 => ?_)
  refine wc_seq ?_
  refine wc_region ?_
  refine wl_pure rfl rfl rfl (freshS_eq rfl) rfl ?_
  refine wl_nil ?_
  refine we_then ?_
  refine wc_seq ?_
  refine wc_cond rfl (fun h16 => ?_) (fun h16 => ?_)
  ·
   replace h16 := of_decide_eq_true h16
   refine wc_skip ?_
   refine we_then ?_
   refine wc_seq ?_
   refine wc_block ?_
   refine wc_seq ?_
   refine wc_region ?_
   refine wl_pure rfl rfl rfl (freshS_eq rfl) rfl ?_
   refine wl_index 0 s1 rfl rfl rfl (freshS_eq rfl) rfl rfl rfl rfl rfl (by omega) tE_37 tS_4 (fun b18 q18 cs18 x18 hx18 hlx18 => ?_)
   refine wl_open bRep_opens 1 rfl (fun r18 er18 okx18 => ?_)
   subst er18
   refine wl_load 0 0 rfl rfl rfl (freshS_eq rfl) rfl rfl rfl (cs := [_]) rfl tS_4 tA_4 rfl rfl ?_
   refine wl_pure rfl rfl rfl (freshS_eq rfl) rfl ?_
   refine wl_pure rfl rfl rfl (freshS_eq rfl) rfl ?_
   refine wl_nil ?_
   refine we_then ?_
   refine wc_keep [4, 3, 16, 15, 14, 13, 11, 2, 1, 0] (S' := [_,_,_,_,_,_,_,_,_,_]) rfl ?_
   refine wc_seq ?_
   refine wc_region ?_
   refine wl_pure rfl rfl rfl (freshS_eq rfl) rfl ?_
   refine wl_pure rfl rfl rfl (freshS_eq rfl) rfl ?_
   refine wl_pure rfl rfl rfl (freshS_eq rfl) rfl ?_
   refine wl_split (d := 22) (S' := [_,_,_,_,_,_,_,_,_,_,_,_]) rfl rfl (fun h22 => ?_) (fun h22 => ?_)
   ·
    replace h22 := not_true h22
    refine wl_fieldAddr rfl rfl rfl (freshS_eq rfl) rfl rfl tF_41_1 ?_
    refine wl_loadH 0 1 rfl rfl rfl (freshS_eq rfl) rfl rfl rfl (cs := [_]) rfl tS_34 tA_34 rfl rfl ?_
    refine wl_pure rfl rfl rfl (freshS_eq rfl) rfl ?_
    refine wl_index 3 s1 rfl rfl rfl (freshS_eq rfl) rfl rfl rfl rfl rfl (by omega) tE_34 tS_27 (fun b26 q26 cs26 x26 hx26 hlx26 => ?_)
    refine wl_open vRep_opens 1 rfl (fun r26 er26 okx26 => ?_)
    subst er26
    refine wl_load 0 0 rfl rfl rfl (freshS_eq rfl) rfl rfl rfl (cs := [_,_,_]) rfl tS_27 tA_27 rfl rfl ?_
    refine wl_build rfl rfl rfl (freshS_eq rfl) rfl tZ_27 tP_27 rfl (out := [_,_,_]) rfl ?_
    refine wl_bin rfl rfl rfl (freshS_eq rfl) rfl rfl rfl (neqV _ _ x26 (⟨0, 0, ⟨#[]⟩⟩ : V)) ?_
    refine wl_pure rfl rfl rfl (freshS_eq rfl) rfl ?_
    refine wl_nil ?_
    refine we_then ?_
    refine wc_keep [30, 4, 3, 16, 15, 14, 13, 11, 2, 1, 0] (S' := [_,_,_,_,_,_,_,_,_,_,_]) rfl ?_
    refine wc_cond rfl (fun h30 => ?_) (fun h30 => ?_)
    ·
     replace h30 := nd_true h30
     refine wc_seq ?_
     refine wc_region ?_
     refine wl_pure (S' := [_,_,_,_,_,_,_,_,_,_]) rfl rfl rfl rfl rfl ?_
     refine wl_nil ?_
     refine we_then ?_
     refine wc_ret ?_
     refine we_block_ret ?_
     refine we_then_ret ?_
     refine we_then_ret ?_
     refine we_block_ret ?_
     refine we_then_ret ?_
     refine ret_one (Hr := []) [] Try.results15 (res_tmp rfl) ?_ (fun _ _ hφ => ask [] rfl hφ) rfl rfl (.inl rfl)
     refine ⟨false, rfl, ?_, rfl, rfl⟩
     simp only [Bool.false_eq_true, false_iff]
     exact fun h => h30 (h.2 s1 _ (by rw [hx18, h22]) hx26)
    ·
     replace h30 := nd_false h30
     refine wc_skip ?_
     refine we_block_normal ?_
     refine we_then ?_
     refine wc_region ?_
     refine wl_pure rfl rfl rfl (freshS_eq rfl) rfl ?_
     refine wl_as (d := 31) (v' := .int .i64 ((s1 + 1 : Nat) : Int)) (S' := [_,_,_,_,_,_,_,_,_,_,_]) rfl rfl (nat_inc (by omega)) ?_
     refine wl_pure (S' := [_,_,_,_,_,_,_,_,_,_,_]) rfl rfl rfl rfl rfl ?_
     refine wl_nil ?_
     refine we_round (s1 + 1) (by omega) ⟨by omega, fun i hi x h1 h2 => by
      rcases Nat.lt_or_ge i s1 with hlt | hge
      · exact oks1.2 i hlt x h1 h2
      · obtain rfl : i = s1 := by omega
        rw [hx26] at h2; cases h2; exact h30⟩ [15, 14, 13, 11, 2, 1, 0] rfl (fun _ _ hφ => ask [4, 5] rfl hφ) rfl
   ·
    replace h22 := not_false_ h22
    refine wl_off rfl rfl rfl (freshS_eq rfl) ?_
    refine wl_off rfl rfl rfl (freshS_eq rfl) ?_
    refine wl_off rfl rfl rfl (freshS_eq rfl) ?_
    refine wl_off rfl rfl rfl (freshS_eq rfl) ?_
    refine wl_off rfl rfl rfl (freshS_eq rfl) ?_
    refine wl_off rfl rfl rfl (freshS_eq rfl) ?_
    refine wl_off rfl rfl rfl (freshS_eq rfl) ?_
    refine wl_pure rfl rfl rfl (freshS_eq rfl) rfl ?_
    refine wl_nil ?_
    refine we_then ?_
    refine wc_keep [30, 4, 3, 16, 15, 14, 13, 11, 2, 1, 0] (S' := [_,_,_,_,_,_,_,_,_,_,_]) rfl ?_
    refine wc_false rfl ?_
    refine wc_skip ?_
    refine we_block_normal ?_
    refine we_then ?_
    refine wc_region ?_
    refine wl_pure rfl rfl rfl (freshS_eq rfl) rfl ?_
    refine wl_as (d := 31) (v' := .int .i64 ((s1 + 1 : Nat) : Int)) (S' := [_,_,_,_,_,_,_,_,_,_,_]) rfl rfl (nat_inc (by omega)) ?_
    refine wl_pure (S' := [_,_,_,_,_,_,_,_,_,_,_]) rfl rfl rfl rfl rfl ?_
    refine wl_nil ?_
    refine we_round (s1 + 1) (by omega) ⟨by omega, fun i hi x h1 h2 => by
      rcases Nat.lt_or_ge i s1 with hlt | hge
      · exact oks1.2 i hlt x h1 h2
      · obtain rfl : i = s1 := by omega
        rw [hx18, h22] at h1; cases h1⟩ [15, 14, 13, 11, 2, 1, 0] rfl (fun _ _ hφ => ask [2, 3] rfl hφ) rfl
  ·
   replace h16 := of_decide_eq_false h16
   refine wc_exit ?_
   refine we_then_exit ?_
   refine we_then_exit ?_
   refine we_block_hit ?_
   refine we_then ?_
   refine wc_seq ?_
   refine wc_region ?_
   refine wl_pure (S' := [_,_,_,_,_,_,_]) rfl rfl rfl rfl rfl ?_
   refine wl_nil ?_
   refine we_then ?_
   refine wc_ret ?_
   refine ret_one (Hr := []) [] Try.results15 (res_tmp rfl) ?_ (fun _ _ hφ => ask [] rfl hφ) rfl rfl (.inl rfl)
   refine ⟨true, rfl, ?_, rfl, rfl⟩
   simp only [true_iff]
   exact ⟨by omega, fun i x hi hx => oks1.2 i (by have := (List.getElem?_eq_some_iff.1 hi).1; omega) x hi hx⟩

set_option maxRecDepth 100000 in
set_option maxHeartbeats 4000000 in
theorem of_s (p1 p2 : Option Addr) (c1 c2 : Nat) (has : List Bool) (vals : List V) (hb : has.length ≤ 1048576) (hc : vals.length ≤ 1048576) : Spec Try.prog 16 [.agg #[.slice p1 has.length c1, .slice p2 vals.length c2]] [.sli 1 bRep p1 c1 has, .sli 3 vRep p2 c2 vals] [] (fun v Φr Hr => ∃ p1 c1 p2 c2, v = .agg #[.slice p1 has.length c1, .slice p2 vals.length c2] ∧ Φr = [] ∧ Hr = [.own 27 3 vRep (.slice p2 vals.length c2) vals, .own 4 1 bRep (.slice p1 has.length c1) has]) := by
 refine spec_of Try.func16 rfl Try.ntmps16 rfl (S := [_]) rfl (fun C => ?_)
 refine wc_seq ?_
 refine wc_region ?_
 refine wl_box rfl rfl rfl (freshS_eq rfl) rfl rfl rfl (fun g1 => ?_)
 refine wl_alloc rfl rfl rfl (freshS_eq rfl) rfl tZ_62 rfl (fun g2 => ?_)
 refine wl_nil ?_
 refine we_then ?_
 refine wc_seq ?_
 refine wc_draw [0, 1, 3, 4, 6, 7] rfl rfl (fun hok => ?_)
 refine wx_fieldAddr hok 0 rfl rfl rfl (freshS_eq rfl) rfl rfl rfl tF_41_0 ?_
 refine wx_loadH hok 1 1 0 rfl rfl rfl (freshS_eq rfl) rfl rfl rfl rfl (cs := [_]) rfl tS_37 tA_37 rfl rfl ?_
 refine wx_fieldAddr hok 3 rfl rfl rfl (freshS_eq rfl) rfl rfl rfl tF_41_1 ?_
 refine wx_loadH hok 4 1 1 rfl rfl rfl (freshS_eq rfl) rfl rfl rfl rfl (cs := [_]) rfl tS_34 tA_34 rfl rfl ?_
 refine wx_step1 hok 2 rfl rfl rfl rfl ?_
 refine wl_call [] [0, 1] rfl rfl rfl (freshS_eq rfl) rfl rfl fn_25 rfl (CloneB_s _ _ _ (by omega)) (fun _ _ hφ => ask [0] rfl hφ) rfl (H' := [_,_]) rfl ?_
 rintro _ _ _ ⟨p5, c5, rfl, rfl, rfl⟩
 refine wl_nil ?_
 refine we_x [0, 1] [2] rfl rfl ?_
 refine wx_step1 hok 5 rfl rfl rfl rfl ?_
 refine wl_call [] [0, 1, 2] rfl rfl rfl (freshS_eq rfl) rfl rfl fn_26 rfl (CloneV_s _ _ _ (by omega)) (fun _ _ hφ => ask [1] rfl hφ) rfl (H' := [_,_,_]) rfl ?_
 rintro _ _ _ ⟨p8, c8, rfl, rfl, rfl⟩
 refine wl_nil ?_
 refine we_x [0, 1] [3] rfl rfl ?_
 refine wx_build hok 6 rfl rfl rfl (freshS_eq rfl) rfl rfl tZ_41 tP_41 rfl (out := [_,_]) rfl ?_
 refine wx_build hok 7 rfl rfl rfl (freshS_eq rfl) rfl rfl tZ_62 tP_62 rfl (out := [_,_]) rfl ?_
 refine wx_step1 hok 8 rfl rfl rfl rfl ?_
 refine wl_store 2 0 rfl rfl rfl rfl rfl rfl rfl tS_62 rfl rfl rfl (all' := [_,_]) rfl (H' := [_,_,_,_]) rfl ?_
 refine wl_nil ?_
 refine we_x [0, 1] [] rfl rfl ?_
 refine wx_done hok rfl ?_
 refine we_then ?_
 refine wc_keep [2, 1, 0] (S' := [_,_,_]) rfl ?_
 refine wc_ret ?_
 refine ret_one (Hr := [.own 27 3 vRep (.slice p8 vals.length c8) vals, .own 4 1 bRep (.slice p5 has.length c5) has]) [0, 1] Try.results16 (res_cell 2 rfl rfl tS_62 tA_62 rfl rfl) ?_ (fun _ _ hφ => ask [] rfl hφ) rfl rfl (.inl rfl)
 exact ⟨_, _, _, _, rfl, rfl, rfl⟩

end Go.Proofs.Ytffcijddfhhbdaa
