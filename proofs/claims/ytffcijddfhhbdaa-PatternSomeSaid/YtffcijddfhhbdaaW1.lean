/- Walks, printed by a program out of the loaded code (wip/sep). -/
import Derived.Test.YtffcijddfhhbdaaEq
import Derived.Test.YtffcijddfhhbdaaPatD
namespace Go.Proofs.Ytffcijddfhhbdaa
open Go.RowKit
set_option maxRecDepth 100000 in
set_option maxHeartbeats 4000000 in
theorem CopyValues_s (p : Option Addr) (c : Nat) (l : List V) (hb : l.length ≤ 1048576) : Spec Try.prog 6 [.slice p l.length c] [.sli 3 vRep p c l] [] (fun v Φr Hr => ∃ p c, v = .slice p l.length c ∧ Φr = [] ∧ Hr = [.own 27 3 vRep v l]) := by
 refine spec_of Try.func6 rfl Try.ntmps6 rfl (S := [_]) rfl (fun C => ?_)
 refine wc_seq ?_
 refine wc_region ?_
 refine wl_pure rfl rfl rfl (freshS_eq rfl) rfl ?_
 refine wl_nil ?_
 refine we_then ?_
 refine wc_seq ?_
 refine wc_region ?_
 refine wl_pure rfl rfl rfl (freshS_eq rfl) rfl ?_
 refine wl_nil ?_
 refine we_then ?_
 refine wc_seq ?_
 refine wc_region ?_
 refine wl_pure rfl rfl rfl (freshS_eq rfl) rfl ?_
 refine wl_pure rfl rfl rfl (freshS_eq rfl) rfl ?_
 refine wl_rowNil 27 3 vRep ?_
 refine wl_append 0 0 rfl rfl rfl (freshS_eq rfl) rfl rfl rfl rfl rfl tE_34 tR_27 rfl rfl (by simp; omega) (by simp; omega) (H2 := fun p6 c6 => [.own 27 3 vRep (.slice p6 (l).length c6) l]) (fun _ _ => rfl) (fun p6 c6 => ?_)
 refine wl_pure (S' := [_,_,_,_,_]) rfl rfl rfl rfl rfl ?_
 refine wl_nil ?_
 refine we_then ?_
 refine wc_keep [2, 3, 0] (S' := [_,_,_]) rfl ?_
 refine wc_ret ?_
 refine ret_one (Hr := [.own 27 3 vRep (.slice p6 (l).length c6) l]) [0] Try.results6 (res_tmp rfl) ?_ (fun _ _ hφ => ask [] rfl hφ) rfl rfl (.inl rfl)
 exact ⟨_, _, rfl, rfl, rfl⟩

set_option maxRecDepth 100000 in
set_option maxHeartbeats 4000000 in
theorem SameValues_s (p q : Option Addr) (c d : Nat) (l m : List V) : Spec Try.prog 8 [.slice p l.length c, .slice q m.length d] [.sli 3 vRep p c l, .sli 3 vRep q d m] [] (fun v Φr Hr => v = .bool (decide (l = m)) ∧ Φr = [] ∧ Hr = []) := by
 refine spec_of Try.func8 rfl Try.ntmps8 rfl (S := [_,_]) rfl (fun C => ?_)
 refine wc_know (fun F w h => sli_cap (h _ (mem_at (k := 0) rfl))) (fun hcap => ?_)
 refine wc_seq ?_
 refine wc_region ?_
 refine wl_pure rfl rfl rfl (freshS_eq rfl) rfl ?_
 refine wl_nil ?_
 refine we_then ?_
 refine wc_seq ?_
 refine wc_seq ?_
 refine wc_region ?_
 refine wl_pure rfl rfl rfl (freshS_eq rfl) rfl ?_
 refine wl_len rfl rfl rfl (freshS_eq rfl) rfl rfl tE_34 ?_
 refine wl_pure rfl rfl rfl (freshS_eq rfl) rfl ?_
 refine wl_len rfl rfl rfl (freshS_eq rfl) rfl rfl tE_34 ?_
 refine wl_pure rfl rfl rfl (freshS_eq rfl) rfl ?_
 refine wl_nil ?_
 refine we_then ?_
 refine wc_keep [10, 4, 0, 1] (S' := [_,_,_,_]) rfl ?_
 refine wc_cond rfl (fun h10 => ?_) (fun h10 => ?_)
 ·
  replace h10 := bne_iff_ne.1 h10
  refine wc_seq ?_
  refine wc_region ?_
  refine wl_pure (S' := [_,_,_]) rfl rfl rfl rfl rfl ?_
  refine wl_nil ?_
  refine we_then ?_
  refine wc_ret ?_
  refine we_then_ret ?_
  refine ret_one (Hr := []) [] Try.results8 (res_tmp rfl) ?_ (fun _ _ hφ => ask [] rfl hφ) rfl rfl (.inl rfl)
  exact ⟨by rw [decide_eq_false (fun e => h10 (by rw [e]))], rfl, rfl⟩
 ·
  replace h10 := bne_eq_false_iff_eq.1 h10
  refine wc_skip ?_
  refine we_then ?_
  refine wc_seq ?_
  refine wc_seq ?_
  refine wc_region ?_
  refine wl_pure rfl rfl rfl (freshS_eq rfl) rfl ?_
  refine wl_nil ?_
  refine we_then ?_
  refine wc_block ?_
  refine wc_loop (σ := Nat) (fun s => s ≤ l.length ∧ l.take s = m.take s) (fun s => l.length - s) (fun s => [(5, .int .i64 ((s : Nat) : Int)), (10, .bool (((l.length : Nat) : Int) != ((m.length : Nat) : Int))), (4, .bool false), (0, .slice p l.length c), (1, .slice q m.length d)]) (fun s => [.sli 3 vRep p c l, .sli 3 vRep q d m]) (fun s => []) 0 (by simp) [5, 10, 4, 0, 1] rfl (fun _ _ hφ => ask [0, 1] rfl hφ) rfl (fun s1 oks1 => ?_)
  refine wc_seq ?_
  refine wc_seq ?_
  refine wc_region ?_
  refine wl_pure rfl rfl rfl (freshS_eq rfl) rfl ?_
  refine wl_pure rfl rfl rfl (freshS_eq rfl) rfl ?_
  refine wl_len rfl rfl rfl (freshS_eq rfl) rfl rfl tE_34 ?_
  refine wl_pure rfl rfl rfl (freshS_eq rfl) rfl ?_
  refine wl_nil ?_
  refine we_then ?_
  refine wc_keep [14, 5, 10, 4, 0, 1] (S' := [_,_,_,_,_,_]) rfl ?_
  refine wc_cond rfl (fun h14 => ?_) (fun h14 => ?_)
  ·
   replace h14 := of_decide_eq_true h14
   refine wc_skip ?_
   refine we_then ?_
   refine wc_seq ?_
   refine wc_block ?_
   refine wc_seq ?_
   refine wc_draw [0, 1, 2, 3, 4, 5, 6, 7, 8] rfl rfl (fun hok => ?_)
   refine wx_pure hok 0 rfl rfl rfl (freshS_eq rfl) rfl rfl ?_
   refine wx_pure hok 1 rfl rfl rfl (freshS_eq rfl) rfl rfl ?_
   refine wx_index hok 2 0 s1 rfl rfl rfl (freshS_eq rfl) rfl rfl rfl rfl rfl rfl (by omega) tE_34 tS_27 (fun b19 q19 cs19 x19 hx19 hlx19 => ?_)
   refine wx_openR vRep_opens 1 rfl (fun r19 er19 okx19 => ?_)
   subst er19
   refine wx_load hok 3 0 0 rfl rfl rfl (freshS_eq rfl) rfl rfl rfl rfl (cs := [_,_,_]) rfl tS_27 tA_27 rfl rfl ?_
   refine wx_pure hok 4 rfl rfl rfl (freshS_eq rfl) rfl rfl ?_
   refine wx_pure hok 5 rfl rfl rfl (freshS_eq rfl) rfl rfl ?_
   refine wx_index hok 6 3 s1 rfl rfl rfl (freshS_eq rfl) rfl rfl rfl rfl rfl rfl (by omega) tE_34 tS_27 (fun b23 q23 cs23 x23 hx23 hlx23 => ?_)
   refine wx_openR vRep_opens 1 rfl (fun r23 er23 okx23 => ?_)
   subst er23
   refine wx_load hok 7 0 0 rfl rfl rfl (freshS_eq rfl) rfl rfl rfl rfl (cs := [_,_,_]) rfl tS_27 tA_27 rfl rfl ?_
   refine wx_bin hok 8 rfl rfl rfl (freshS_eq rfl) rfl rfl rfl rfl (neqV _ _ x19 x23) ?_
   refine wx_done hok rfl ?_
   refine we_then ?_
   refine wc_keep [25, 14, 5, 10, 4, 0, 1] (S' := [_,_,_,_,_,_,_]) rfl ?_
   refine wc_cond rfl (fun h25 => ?_) (fun h25 => ?_)
   ·
    replace h25 := nd_true h25
    refine wc_seq ?_
    refine wc_region ?_
    refine wl_pure (S' := [_,_,_,_,_,_]) rfl rfl rfl rfl rfl ?_
    refine wl_nil ?_
    refine we_then ?_
    refine wc_ret ?_
    refine we_block_ret ?_
    refine we_then_ret ?_
    refine we_then_ret ?_
    refine we_block_ret ?_
    refine we_then_ret ?_
    refine ret_one (Hr := []) [] Try.results8 (res_tmp rfl) ?_ (fun _ _ hφ => ask [] rfl hφ) rfl rfl (.inl rfl)
    exact ⟨by rw [decide_eq_false (fun e => h25 (by subst e; rw [hx19] at hx23; exact Option.some.inj hx23))], rfl, rfl⟩
   ·
    replace h25 := nd_false h25
    refine wc_skip ?_
    refine we_block_normal ?_
    refine we_then ?_
    refine wc_region ?_
    refine wl_pure rfl rfl rfl (freshS_eq rfl) rfl ?_
    refine wl_pure rfl rfl rfl (freshS_eq rfl) rfl ?_
    refine wl_as (d := 16) (v' := .int .i64 ((s1 + 1 : Nat) : Int)) (S' := [_,_,_,_,_,_,_,_]) rfl rfl (nat_inc (by omega)) ?_
    refine wl_pure (S' := [_,_,_,_,_,_,_,_]) rfl rfl rfl rfl rfl ?_
    refine wl_nil ?_
    refine we_round (s1 + 1) (by omega) ⟨by omega, by rw [List.take_add_one, List.take_add_one, oks1.2, hx19, hx23, h25]⟩ [5, 10, 4, 0, 1] rfl (fun _ _ hφ => ask [4, 5] rfl hφ) rfl
  ·
   replace h14 := of_decide_eq_false h14
   refine wc_exit ?_
   refine we_then_exit ?_
   refine we_then_exit ?_
   refine we_block_hit ?_
   refine we_then ?_
   refine wc_seq ?_
   refine wc_region ?_
   refine wl_pure (S' := [_,_,_,_,_]) rfl rfl rfl rfl rfl ?_
   refine wl_nil ?_
   refine we_then ?_
   refine wc_ret ?_
   refine ret_one (Hr := []) [] Try.results8 (res_tmp rfl) ?_ (fun _ _ hφ => ask [] rfl hφ) rfl rfl (.inl rfl)
   have e : s1 = l.length := by omega
   have e2 : l = m := by
    have := oks1.2
    rwa [e, List.take_length, show l.length = m.length from by omega, List.take_length] at this
   exact ⟨by rw [decide_eq_true e2], rfl, rfl⟩

set_option maxRecDepth 100000 in
set_option maxHeartbeats 4000000 in
theorem CloneB_s (p : Option Addr) (c : Nat) (l : List Bool) (hb : l.length ≤ 1048576) : Spec Try.prog 25 [.slice p l.length c] [.sli 1 bRep p c l] [] (fun v Φr Hr => ∃ p c, v = .slice p l.length c ∧ Φr = [] ∧ Hr = [.own 4 1 bRep v l]) := by
 refine spec_of Try.func25 rfl Try.ntmps25 rfl (S := [_]) rfl (fun C => ?_)
 refine wc_know (fun F w h => sli_nil (h _ (mem_at (k := 0) rfl))) (fun isnil => ?_)
 refine wc_seq ?_
 refine wc_region ?_
 refine wl_pure rfl rfl rfl (freshS_eq rfl) rfl ?_
 refine wl_nil ?_
 refine we_then ?_
 refine wc_seq ?_
 refine wc_seq ?_
 refine wc_region ?_
 refine wl_pure rfl rfl rfl (freshS_eq rfl) rfl ?_
 refine wl_eqlNil rfl rfl rfl (freshS_eq rfl) rfl rfl rfl tE_37 ?_
 refine wl_nil ?_
 refine we_then ?_
 refine wc_keep [4, 2, 0] (S' := [_,_,_]) rfl ?_
 refine wc_cond rfl (fun h4 => ?_) (fun h4 => ?_)
 ·
  replace h4 := isNone_true h4
  obtain rfl := isnil h4
  subst h4
  refine wc_rowNil 4 1 bRep ?_
  refine wc_seq ?_
  refine wc_region ?_
  refine wl_pure (S' := [_,_]) rfl rfl rfl rfl rfl ?_
  refine wl_nil ?_
  refine we_then ?_
  refine wc_ret ?_
  refine we_then_ret ?_
  refine ret_one (Hr := [.own 4 1 bRep (.slice none 0 0) []]) [0] Try.results25 (res_tmp rfl) ?_ (fun _ _ hφ => ask [] rfl hφ) rfl rfl (.inl rfl)
  exact ⟨none, 0, rfl, rfl, rfl⟩
 ·
  replace h4 := isNone_false h4
  refine wc_skip ?_
  refine we_then ?_
  refine wc_seq ?_
  refine wc_region ?_
  refine wl_buildSlice rfl rfl rfl (freshS_eq rfl) rfl tE_37 tS_4 tZ_4 rfl (zs := []) (by kernel_rfl) rfl (out := []) rfl (fun g5 => ?_)
  refine wl_pure rfl rfl rfl (freshS_eq rfl) rfl ?_
  refine wl_row (sz := 1) (m := 0) bRep [] 0 rfl (fun F w hφ => rfl) rfl (by decide) (H' := [_]) rfl ?_
  refine wl_append 0 0 rfl rfl rfl (freshS_eq rfl) rfl rfl rfl rfl rfl tE_37 tR_4 rfl rfl (by simp; omega) (by simp; omega) (H2 := fun p7 c7 => [.own 4 1 bRep (.slice p7 (l).length c7) l]) (fun _ _ => rfl) (fun p7 c7 => ?_)
  refine wl_pure (S' := [_,_,_,_,_]) rfl rfl rfl rfl rfl ?_
  refine wl_nil ?_
  refine we_then ?_
  refine wc_keep [2, 4, 0] (S' := [_,_,_]) rfl ?_
  refine wc_ret ?_
  refine ret_one (Hr := [.own 4 1 bRep (.slice p7 (l).length c7) l]) [0] Try.results25 (res_tmp rfl) ?_ (fun _ _ hφ => ask [] rfl hφ) rfl rfl (.inl rfl)
  exact ⟨_, _, rfl, rfl, rfl⟩

set_option maxRecDepth 100000 in
set_option maxHeartbeats 4000000 in
theorem CloneV_s (p : Option Addr) (c : Nat) (l : List V) (hb : l.length ≤ 1048576) : Spec Try.prog 26 [.slice p l.length c] [.sli 3 vRep p c l] [] (fun v Φr Hr => ∃ p c, v = .slice p l.length c ∧ Φr = [] ∧ Hr = [.own 27 3 vRep v l]) := by
 refine spec_of Try.func26 rfl Try.ntmps26 rfl (S := [_]) rfl (fun C => ?_)
 refine wc_know (fun F w h => sli_nil (h _ (mem_at (k := 0) rfl))) (fun isnil => ?_)
 refine wc_seq ?_
 refine wc_region ?_
 refine wl_pure rfl rfl rfl (freshS_eq rfl) rfl ?_
 refine wl_nil ?_
 refine we_then ?_
 refine wc_seq ?_
 refine wc_seq ?_
 refine wc_region ?_
 refine wl_pure rfl rfl rfl (freshS_eq rfl) rfl ?_
 refine wl_eqlNil rfl rfl rfl (freshS_eq rfl) rfl rfl rfl tE_34 ?_
 refine wl_nil ?_
 refine we_then ?_
 refine wc_keep [4, 2, 0] (S' := [_,_,_]) rfl ?_
 refine wc_cond rfl (fun h4 => ?_) (fun h4 => ?_)
 ·
  replace h4 := isNone_true h4
  obtain rfl := isnil h4
  subst h4
  refine wc_rowNil 27 3 vRep ?_
  refine wc_seq ?_
  refine wc_region ?_
  refine wl_pure (S' := [_,_]) rfl rfl rfl rfl rfl ?_
  refine wl_nil ?_
  refine we_then ?_
  refine wc_ret ?_
  refine we_then_ret ?_
  refine ret_one (Hr := [.own 27 3 vRep (.slice none 0 0) []]) [0] Try.results26 (res_tmp rfl) ?_ (fun _ _ hφ => ask [] rfl hφ) rfl rfl (.inl rfl)
  exact ⟨none, 0, rfl, rfl, rfl⟩
 ·
  replace h4 := isNone_false h4
  refine wc_skip ?_
  refine we_then ?_
  refine wc_seq ?_
  refine wc_region ?_
  refine wl_buildSlice rfl rfl rfl (freshS_eq rfl) rfl tE_34 tS_27 tZ_27 rfl (zs := []) (by kernel_rfl) rfl (out := []) rfl (fun g5 => ?_)
  refine wl_pure rfl rfl rfl (freshS_eq rfl) rfl ?_
  refine wl_row (sz := 3) (m := 0) vRep [] 0 rfl (fun F w hφ => rfl) rfl (by decide) (H' := [_]) rfl ?_
  refine wl_append 0 0 rfl rfl rfl (freshS_eq rfl) rfl rfl rfl rfl rfl tE_34 tR_27 rfl rfl (by simp; omega) (by simp; omega) (H2 := fun p7 c7 => [.own 27 3 vRep (.slice p7 (l).length c7) l]) (fun _ _ => rfl) (fun p7 c7 => ?_)
  refine wl_pure (S' := [_,_,_,_,_]) rfl rfl rfl rfl rfl ?_
  refine wl_nil ?_
  refine we_then ?_
  refine wc_keep [2, 4, 0] (S' := [_,_,_]) rfl ?_
  refine wc_ret ?_
  refine ret_one (Hr := [.own 27 3 vRep (.slice p7 (l).length c7) l]) [0] Try.results26 (res_tmp rfl) ?_ (fun _ _ hφ => ask [] rfl hφ) rfl rfl (.inl rfl)
  exact ⟨_, _, rfl, rfl, rfl⟩

end Go.Proofs.Ytffcijddfhhbdaa
