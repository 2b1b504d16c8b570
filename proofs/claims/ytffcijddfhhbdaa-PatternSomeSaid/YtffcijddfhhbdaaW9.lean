/- Walks, printed by a program out of the loaded code (wip/sep). -/
import Derived.Test.YtffcijddfhhbdaaW4
import Derived.Test.YtffcijddfhhbdaaLent
namespace Go.Proofs.Ytffcijddfhhbdaa
open Go.RowKit
set_option maxRecDepth 100000 in
set_option maxHeartbeats 4000000 in
theorem mark_s (k i : Nat) (hk : k ≤ 1000) (hi : i ≤ 1000000) : Spec Try.prog 28 [.int .i64 ((k : Nat) : Int), .int .i64 ((i : Nat) : Int)] [] [] (fun v Φr Hr => v = .int .i64 (1000003 * ((k : Int) + 7) + i) ∧ Φr = [] ∧ Hr = []) := by
 refine spec_of Try.func28 rfl Try.ntmps28 rfl (S := [_,_]) rfl (fun C => ?_)
 refine wc_seq ?_
 refine wc_region ?_
 refine wl_pure rfl rfl rfl (freshS_eq rfl) rfl ?_
 refine wl_nil ?_
 refine we_then ?_
 refine wc_seq ?_
 refine wc_region ?_
 refine wl_pure rfl rfl rfl (freshS_eq rfl) rfl ?_
 refine wl_pure rfl rfl rfl (freshS_eq rfl) rfl ?_
 refine wl_as (d := 6) (v' := .int .i64 ((k + 7 : Nat) : Int)) (S' := [_,_,_,_]) rfl rfl (nat_add (a := k) (b := 7) (by omega)) ?_
 refine wl_pure rfl rfl rfl (freshS_eq rfl) rfl ?_
 refine wl_pure rfl rfl rfl (freshS_eq rfl) rfl ?_
 refine wl_pure rfl rfl rfl (freshS_eq rfl) rfl ?_
 refine wl_pure (S' := [_,_,_,_,_,_,_]) rfl rfl rfl rfl rfl ?_
 refine wl_nil ?_
 refine we_then ?_
 refine wc_keep [4, 0, 1] (S' := [_,_,_]) rfl ?_
 refine wc_ret ?_
 refine ret_one (Hr := []) [] Try.results28 (res_tmp rfl) ?_ (fun _ _ hφ => ask [] rfl hφ) rfl rfl (.inl rfl)
 exact ⟨congrArg (Value.int .i64) (wrap_mark2 hk hi), rfl, rfl⟩

set_option maxRecDepth 100000 in
set_option maxHeartbeats 4000000 in
theorem markValue_s (k i : Nat) (hk : k ≤ 1000) (hi : i ≤ 1000000) : Spec Try.prog 32 [.int .i64 ((k : Nat) : Int), .int .i64 ((i : Nat) : Int)] [] [] (fun v Φr Hr => v = .agg (vCells (markV k i) ()).toArray ∧ Φr = [] ∧ Hr = []) := by
 refine spec_of Try.func32 rfl Try.ntmps32 rfl (S := [_,_]) rfl (fun C => ?_)
 refine wc_seq ?_
 refine wc_region ?_
 refine wl_alloc rfl rfl rfl (freshS_eq rfl) rfl tZ_27 rfl (fun g4 => ?_)
 refine wl_nil ?_
 refine we_then ?_
 refine wc_seq ?_
 refine wc_region ?_
 refine wl_pure rfl rfl rfl (freshS_eq rfl) rfl ?_
 refine wl_pure rfl rfl rfl (freshS_eq rfl) rfl ?_
 refine wl_call [] [0] rfl rfl rfl (freshS_eq rfl) rfl rfl fn_28 rfl (mark_s k i hk hi) (fun _ _ hφ => ask [] rfl hφ) rfl (H' := [_]) rfl ?_
 rintro _ _ _ ⟨rfl, rfl, rfl⟩
 refine wl_build rfl rfl rfl (freshS_eq rfl) rfl tZ_27 tP_27 rfl (out := [_,_,_]) rfl ?_
 refine wl_store 0 0 rfl rfl rfl rfl rfl rfl rfl tS_27 rfl rfl rfl (all' := [_,_,_]) rfl (H' := [_]) rfl ?_
 refine wl_nil ?_
 refine we_then ?_
 refine wc_keep [4, 0, 1] (S' := [_,_,_]) rfl ?_
 refine wc_ret ?_
 refine ret_one (Hr := []) [] Try.results32 (res_cell 0 rfl rfl tS_27 tA_27 rfl rfl) ?_ (fun _ _ hφ => ask [] rfl hφ) rfl rfl (.inl rfl)
 exact ⟨rfl, rfl, rfl⟩

set_option maxRecDepth 100000 in
set_option maxHeartbeats 4000000 in
theorem lentValues_s (p : Option Addr) (c : Nat) (l : List V) (hb : l.length ≤ 1048576) : Spec Try.prog 27 [.slice p l.length c] [.sli 3 vRep p c l] [] (fun v Φr Hr => ∃ p c, v = .slice p l.length c ∧ Φr = [.sli 3 vRep p c (l ++ marksV 1 12)] ∧ Hr = []) := by
 refine spec_of Try.func27 rfl Try.ntmps27 rfl (S := [_]) rfl (fun C => ?_)
 refine wc_seq ?_
 refine wc_region ?_
 refine wl_pure rfl rfl rfl (freshS_eq rfl) rfl ?_
 refine wl_nil ?_
 refine we_then ?_
 refine wc_seq ?_
 refine wc_region ?_
 refine wl_pure rfl rfl rfl (freshS_eq rfl) rfl ?_
 refine wl_len rfl rfl rfl (freshS_eq rfl) rfl rfl tE_34 ?_
 refine wl_pure rfl rfl rfl (freshS_eq rfl) rfl ?_
 refine wl_as (d := 7) (v' := .int .i64 ((l.length + 12 : Nat) : Int)) (S' := [_,_,_,_]) rfl rfl (nat_add (a := l.length) (b := 12) (by omega)) ?_
 refine wl_makeCap (m := l.length + 12) vRep rfl rfl rfl (freshS_eq rfl) rfl rfl rfl rfl tE_34 tR_27 rfl rfl (by omega) (by omega) (fun g8 => ?_)
 refine wl_pure rfl rfl rfl (freshS_eq rfl) rfl ?_
 refine wl_nil ?_
 refine we_then ?_
 refine wc_keep [3, 2, 0] (S' := [_,_,_]) rfl ?_
 refine wc_seq ?_
 refine wc_region ?_
 refine wl_pure rfl rfl rfl (freshS_eq rfl) rfl ?_
 refine wl_pure rfl rfl rfl (freshS_eq rfl) rfl ?_
 refine wl_append 0 0 rfl rfl rfl (freshS_eq rfl) rfl rfl rfl rfl rfl tE_34 tR_27 rfl rfl (by simp; omega) (by simp; omega) (H2 := fun p11 c11 => [.own 27 3 vRep (.slice p11 (l).length c11) l]) (fun _ _ => rfl) (fun p11 c11 => ?_)
 refine wl_pure (S' := [_,_,_,_,_]) rfl rfl rfl rfl rfl ?_
 refine wl_nil ?_
 refine we_then ?_
 refine wc_keep [3, 2, 0] (S' := [_,_,_]) rfl ?_
 refine wc_seq ?_
 refine wc_seq ?_
 refine wc_region ?_
 refine wl_pure rfl rfl rfl (freshS_eq rfl) rfl ?_
 refine wl_nil ?_
 refine we_then ?_
 refine wc_block ?_
 refine wc_loop (σ := Nat × List V × Option Addr × Nat) (fun s => s.1 ≤ 12 ∧ s.2.1 = l ++ marksV 1 s.1) (fun s => 12 - s.1) (fun s => [(4, .int .i64 ((s.1 : Nat) : Int)), (3, .slice s.2.2.1 s.2.1.length s.2.2.2), (2, .slice none 0 0), (0, .slice p l.length c)]) (fun s => [.sli 3 vRep p c l]) (fun s => [.own 27 3 vRep (.slice s.2.2.1 s.2.1.length s.2.2.2) s.2.1]) (0, l, p11, c11) ⟨by simp, by simp [marksV]⟩ [4, 3, 2, 0] rfl (fun _ _ hφ => ask [0] rfl hφ) rfl (fun s1 oks1 => ?_)
 refine wc_seq ?_
 refine wc_seq ?_
 refine wc_region ?_
 refine wl_pure rfl rfl rfl (freshS_eq rfl) rfl ?_
 refine wl_pure rfl rfl rfl (freshS_eq rfl) rfl ?_
 refine wl_nil ?_
 refine we_then ?_
 refine wc_keep [13, 4, 3, 2, 0] (S' := [_,_,_,_,_]) rfl ?_
 refine wc_cond rfl (fun h13 => ?_) (fun h13 => ?_)
 ·
  replace h13 := of_decide_eq_true h13
  refine wc_skip ?_
  refine we_then ?_
  refine wc_seq ?_
  refine wc_block ?_
  refine wc_region ?_
  refine wl_pure rfl rfl rfl (freshS_eq rfl) rfl ?_
  refine wl_pure rfl rfl rfl (freshS_eq rfl) rfl ?_
  refine wl_call [] [0] rfl rfl rfl (freshS_eq rfl) rfl rfl fn_32 rfl (markValue_s 1 s1.1 (by omega) (by omega)) (fun _ _ hφ => ask [] rfl hφ) rfl (H' := [_]) rfl ?_
  rintro _ _ _ ⟨rfl, rfl, rfl⟩
  refine wl_buildSlice rfl rfl rfl (freshS_eq rfl) rfl tE_34 tS_27 tZ_27 rfl (zs := [.int .u8 0, .int .i64 0, .string ⟨#[]⟩]) (by kernel_rfl) rfl (out := [_,_,_]) rfl (fun g19 => ?_)
  refine wl_appendH ([(markV 1 s1.1)]) 1 0 rfl rfl rfl (freshS_eq rfl) rfl rfl rfl rfl rfl (fun F w hφ => ⟨[.int .u8 ((markV 1 s1.1).k), .int .i64 ((markV 1 s1.1).n), .string ((markV 1 s1.1).s)], [], rfl, rfl, ⟨rfl, markV_ok (by omega) (by omega)⟩, rfl⟩) tE_34 tR_27 rfl rfl (by have := congrArg List.length oks1.2; simp [marksV_len] at this; simp; omega) (by have := congrArg List.length oks1.2; simp [marksV_len] at this; simp; omega) (H2 := fun p20 c20 => [.blk g19 [.int .u8 ((markV 1 s1.1).k), .int .i64 ((markV 1 s1.1).n), .string ((markV 1 s1.1).s)] 27, .own 27 3 vRep (.slice p20 ((s1.2.1 ++ ([(markV 1 s1.1)])).length) c20) (s1.2.1 ++ ([(markV 1 s1.1)]))]) (fun _ _ => rfl) (fun p20 c20 => ?_)
  refine wl_drop 0 rfl (H' := [_]) rfl ?_
  refine wl_pure (S' := [_,_,_,_,_,_,_,_,_]) rfl rfl rfl rfl rfl ?_
  refine wl_nil ?_
  refine we_block_normal ?_
  refine we_then ?_
  refine wc_region ?_
  refine wl_pure rfl rfl rfl (freshS_eq rfl) rfl ?_
  refine wl_pure rfl rfl rfl (freshS_eq rfl) rfl ?_
  refine wl_as (d := 15) (v' := .int .i64 ((s1.1 + 1 : Nat) : Int)) (S' := [_,_,_,_,_,_,_,_,_,_,_]) rfl rfl (nat_inc (by omega)) ?_
  refine wl_pure (S' := [_,_,_,_,_,_,_,_,_,_,_]) rfl rfl rfl rfl rfl ?_
  refine wl_nil ?_
  refine we_round (s1.1 + 1, s1.2.1 ++ ([(markV 1 s1.1)]), p20, c20) (by dsimp only; omega) ⟨by dsimp only; omega, by dsimp only; rw [marksV_succ, oks1.2, List.append_assoc]⟩ [4, 3, 2, 0] rfl (fun _ _ hφ => ask [0] rfl hφ) rfl
 ·
  replace h13 := of_decide_eq_false h13
  refine wc_exit ?_
  refine we_then_exit ?_
  refine we_then_exit ?_
  refine we_block_hit ?_
  refine we_then ?_
  refine wc_seq ?_
  refine wc_region ?_
  refine wl_pure rfl rfl rfl (freshS_eq rfl) rfl ?_
  refine wl_pure rfl rfl rfl (freshS_eq rfl) rfl ?_
  refine wl_len rfl rfl rfl (freshS_eq rfl) rfl rfl tE_34 ?_
  refine wl_ownSpot 0 rfl (fun hsp hcm => ?_)
  refine wl_sliceTo rfl rfl rfl (freshS_eq rfl) rfl rfl rfl rfl tE_34 tS_27 (by have := hcm; have := oks1.2; simp_all [marksV_len]; omega) hsp ?_
  refine wl_freeze 0 rfl (H' := []) rfl ?_
  refine wl_fact (.sli 3 vRep s1.2.2.1 s1.2.2.2 s1.2.1) (fun F w hφ => own_sli (hφ _ (mem_at (k := 0) rfl))) ?_
  refine wl_pure (S' := [_,_,_,_,_,_,_,_]) rfl rfl rfl rfl rfl ?_
  refine wl_nil ?_
  refine we_then ?_
  refine wc_keep [2, 13, 4, 3, 0] (S' := [_,_,_,_,_]) rfl ?_
  refine wc_ret ?_
  refine ret_one (Hr := []) [] Try.results27 (res_tmp rfl) ?_ (fun _ _ hφ => ask [0] rfl hφ) rfl rfl (.inl rfl)
  obtain ⟨h1, h2⟩ := oks1
  have h3 : s1.1 = 12 := by omega
  rw [h3] at h2
  exact ⟨_, _, rfl, by rw [← h2]; rfl, rfl⟩

set_option maxRecDepth 100000 in
set_option maxHeartbeats 4000000 in
theorem keptValues_s (p q : Option Addr) (c d : Nat) (l m : List V) : Spec Try.prog 31 [.slice p l.length c, .slice q m.length d] [.sli 3 vRep p c (l ++ marksV 1 12), .sli 3 vRep q d m] [] (fun v Φr Hr => v = .bool (decide (l = m)) ∧ Φr = [] ∧ Hr = []) := by
 refine spec_of Try.func31 rfl Try.ntmps31 rfl (S := [_,_]) rfl (fun C => ?_)
 have hlen : (l ++ marksV 1 12).length = l.length + 12 := by simp [marksV_len]
 refine wc_know (fun F w h => sli_cap (h _ (mem_at (k := 0) rfl))) (fun hcap => ?_)
 refine wc_seq ?_
 refine wc_region ?_
 refine wl_pure rfl rfl rfl (freshS_eq rfl) rfl ?_
 refine wl_nil ?_
 refine we_then ?_
 refine wc_seq ?_
 refine wc_seq ?_
 refine wc_region ?_
 refine wl_pure rfl rfl rfl (freshS_eq rfl) rfl ?_
 refine wl_len rfl rfl rfl (freshS_eq rfl) rfl rfl tE_34 ?_
 refine wl_pure rfl rfl rfl (freshS_eq rfl) rfl ?_
 refine wl_len rfl rfl rfl (freshS_eq rfl) rfl rfl tE_34 ?_
 refine wl_pure rfl rfl rfl (freshS_eq rfl) rfl ?_
 refine wl_nil ?_
 refine we_then ?_
 refine wc_keep [11, 4, 0, 1] (S' := [_,_,_,_]) rfl ?_
 refine wc_cond rfl (fun h11 => ?_) (fun h11 => ?_)
 ·
  replace h11 := bne_iff_ne.1 h11
  refine wc_seq ?_
  refine wc_region ?_
  refine wl_pure (S' := [_,_,_]) rfl rfl rfl rfl rfl ?_
  refine wl_nil ?_
  refine we_then ?_
  refine wc_ret ?_
  refine we_then_ret ?_
  refine ret_one (Hr := []) [] Try.results31 (res_tmp rfl) ?_ (fun _ _ hφ => ask [] rfl hφ) rfl rfl (.inl rfl)
  exact ⟨by rw [decide_eq_false (fun e => h11 (by rw [e]))], rfl, rfl⟩
 ·
  replace h11 := bne_eq_false_iff_eq.1 h11
  refine wc_skip ?_
  refine we_then ?_
  refine wc_seq ?_
  refine wc_region ?_
  refine wl_pure rfl rfl rfl (freshS_eq rfl) rfl ?_
  refine wl_pure rfl rfl rfl (freshS_eq rfl) rfl ?_
  refine wl_len rfl rfl rfl (freshS_eq rfl) rfl rfl tE_34 ?_
  refine wl_pure rfl rfl rfl (freshS_eq rfl) rfl ?_
  refine wl_as (d := 15) (v' := .int .i64 ((m.length + 12 : Nat) : Int)) (S' := [_,_,_,_,_,_,_]) rfl rfl (nat_add (a := m.length) (b := 12) (by omega)) ?_
  refine wl_sliSpot 0 rfl (by omega) (fun hsp hcm => ?_)
  refine wl_sliceTo rfl rfl rfl (freshS_eq rfl) rfl rfl rfl rfl tE_34 tS_27 (by omega) hsp ?_
  refine wl_as (d := 16) (v' := .slice p ((l ++ marksV 1 12).length) c) (S' := [_,_,_,_,_,_,_,_]) rfl rfl (by congr 1; omega) ?_
  refine wl_pure rfl rfl rfl (freshS_eq rfl) rfl ?_
  refine wl_nil ?_
  refine we_then ?_
  refine wc_keep [5, 11, 4, 0, 1] (S' := [_,_,_,_,_]) rfl ?_
  refine wc_seq ?_
  refine wc_seq ?_
  refine wc_region ?_
  refine wl_pure rfl rfl rfl (freshS_eq rfl) rfl ?_
  refine wl_nil ?_
  refine we_then ?_
  refine wc_block ?_
  refine wc_loop (σ := Nat) (fun s => s ≤ l.length + 12 ∧ l.take s = m.take s) (fun s => l.length + 12 - s) (fun s => [(6, .int .i64 ((s : Nat) : Int)), (5, .slice p ((l ++ marksV 1 12).length) c), (11, .bool (((l.length : Nat) : Int) != ((m.length : Nat) : Int))), (4, .bool false), (0, .slice p l.length c), (1, .slice q m.length d)]) (fun s => [.sli 3 vRep p c (l ++ marksV 1 12), .sli 3 vRep q d m]) (fun s => []) 0 (by simp) [6, 5, 11, 4, 0, 1] rfl (fun _ _ hφ => ask [0, 1] rfl hφ) rfl (fun s1 oks1 => ?_)
  refine wc_seq ?_
  refine wc_seq ?_
  refine wc_region ?_
  refine wl_pure rfl rfl rfl (freshS_eq rfl) rfl ?_
  refine wl_pure rfl rfl rfl (freshS_eq rfl) rfl ?_
  refine wl_len rfl rfl rfl (freshS_eq rfl) rfl rfl tE_34 ?_
  refine wl_pure rfl rfl rfl (freshS_eq rfl) rfl ?_
  refine wl_nil ?_
  refine we_then ?_
  refine wc_keep [20, 6, 5, 11, 4, 0, 1] (S' := [_,_,_,_,_,_,_]) rfl ?_
  refine wc_cond rfl (fun h20 => ?_) (fun h20 => ?_)
  ·
   replace h20 := of_decide_eq_true h20
   refine wc_skip ?_
   refine we_then ?_
   refine wc_seq ?_
   refine wc_block ?_
   refine wc_seq ?_
   refine wc_draw [0, 1, 2, 3, 4, 5, 6, 7, 8, 9, 10, 11, 12, 13, 14, 15, 16, 17, 18, 19, 20, 21, 22, 23, 24, 25, 26, 27, 28, 29, 31, 32, 33, 34] rfl rfl (fun hok => ?_)
   refine wx_pure hok 0 rfl rfl rfl (freshS_eq rfl) rfl rfl ?_
   refine wx_pure hok 1 rfl rfl rfl (freshS_eq rfl) rfl rfl ?_
   refine wx_len hok 2 rfl rfl rfl (freshS_eq rfl) rfl rfl rfl tE_34 ?_
   refine wx_pure hok 3 rfl rfl rfl (freshS_eq rfl) rfl rfl ?_
   refine wx_pure hok 4 rfl rfl rfl (freshS_eq rfl) rfl rfl ?_
   refine wx_split (d := 27) (S' := [_,_,_,_,_,_,_,_,_,_,_]) rfl rfl (fun h27 => ?_) (fun h27 => ?_)
   ·
    replace h27 := of_decide_eq_true h27
    refine wx_pure hok 5 rfl rfl rfl (freshS_eq rfl) rfl rfl ?_
    refine wx_pure hok 6 rfl rfl rfl (freshS_eq rfl) rfl rfl ?_
    refine wx_index hok 7 0 s1 rfl rfl rfl (freshS_eq rfl) rfl rfl rfl rfl rfl rfl (by omega) tE_34 tS_27 (fun b30 q30 cs30 x30 hx30 hlx30 => ?_)
    refine wx_openR vRep_opens 1 rfl (fun r30 er30 okx30 => ?_)
    subst er30
    refine wx_load hok 8 0 0 rfl rfl rfl (freshS_eq rfl) rfl rfl rfl rfl (cs := [_,_,_]) rfl tS_27 tA_27 rfl rfl ?_
    refine wx_pure hok 9 rfl rfl rfl (freshS_eq rfl) rfl rfl ?_
    refine wx_pure hok 10 rfl rfl rfl (freshS_eq rfl) rfl rfl ?_
    refine wx_index hok 11 3 s1 rfl rfl rfl (freshS_eq rfl) rfl rfl rfl rfl rfl rfl (by omega) tE_34 tS_27 (fun b34 q34 cs34 x34 hx34 hlx34 => ?_)
    refine wx_openR vRep_opens 1 rfl (fun r34 er34 okx34 => ?_)
    subst er34
    refine wx_load hok 12 0 0 rfl rfl rfl (freshS_eq rfl) rfl rfl rfl rfl (cs := [_,_,_]) rfl tS_27 tA_27 rfl rfl ?_
    refine wx_bin hok 13 rfl rfl rfl (freshS_eq rfl) rfl rfl rfl rfl (eqlV _ _ x30 x34) ?_
    refine wx_pure hok 14 rfl rfl rfl (freshS_eq rfl) rfl rfl ?_
    refine wx_pure hok 15 rfl rfl rfl (freshS_eq rfl) rfl rfl ?_
    refine wx_pure hok 16 rfl rfl rfl (freshS_eq rfl) rfl rfl ?_
    refine wx_split (d := 39) (S' := [_,_,_,_,_,_,_,_,_,_,_,_,_,_,_,_,_,_,_,_,_,_,_]) rfl rfl (fun h39 => ?_) (fun h39 => ?_)
    ·
     replace h39 := nd_true h39
     refine wx_off hok 17 rfl rfl rfl (freshS_eq rfl) rfl ?_
     refine wx_off hok 18 rfl rfl rfl (freshS_eq rfl) rfl ?_
     refine wx_off hok 19 rfl rfl rfl (freshS_eq rfl) rfl ?_
     refine wx_off hok 20 rfl rfl rfl (freshS_eq rfl) rfl ?_
     refine wx_off hok 21 rfl rfl rfl (freshS_eq rfl) rfl ?_
     refine wx_off hok 22 rfl rfl rfl (freshS_eq rfl) rfl ?_
     refine wx_off hok 23 rfl rfl rfl (freshS_eq rfl) rfl ?_
     refine wx_off hok 24 rfl rfl rfl (freshS_eq rfl) rfl ?_
     refine wx_off hok 25 rfl rfl rfl (freshS_eq rfl) rfl ?_
     refine wx_off hok 26 rfl rfl rfl (freshS_eq rfl) rfl ?_
     refine wx_off hok 27 rfl rfl rfl (freshS_eq rfl) rfl ?_
     refine wx_off hok 28 rfl rfl rfl (freshS_eq rfl) rfl ?_
     refine wx_off hok 29 rfl rfl rfl (freshS_eq rfl) rfl ?_
     refine wx_step1 hok 30 rfl rfl rfl rfl ?_
     refine wl_off rfl rfl rfl (freshS_eq rfl) ?_
     refine wl_nil ?_
     refine we_x [0, 1, 2, 3, 4, 5] [] rfl rfl ?_
     refine wx_off hok 31 rfl rfl rfl (freshS_eq rfl) rfl ?_
     refine wx_off hok 32 rfl rfl rfl (freshS_eq rfl) rfl ?_
     refine wx_off hok 33 rfl rfl rfl (freshS_eq rfl) rfl ?_
     refine wx_pure hok 34 rfl rfl rfl (freshS_eq rfl) rfl rfl ?_
     refine wx_done hok rfl ?_
     refine we_then ?_
     refine wc_keep [57, 20, 6, 5, 11, 4, 0, 1] (S' := [_,_,_,_,_,_,_,_]) rfl ?_
     refine wc_true rfl ?_
     refine wc_seq ?_
     refine wc_region ?_
     refine wl_pure (S' := [_,_,_,_,_,_,_]) rfl rfl rfl rfl rfl ?_
     refine wl_nil ?_
     refine we_then ?_
     refine wc_ret ?_
     refine we_block_ret ?_
     refine we_then_ret ?_
     refine we_then_ret ?_
     refine we_block_ret ?_
     refine we_then_ret ?_
     refine ret_one (Hr := []) [] Try.results31 (res_tmp rfl) ?_ (fun _ _ hφ => ask [] rfl hφ) rfl rfl (.inl rfl)
     exact ⟨by rw [decide_eq_false (kept_ne hx30 hx34 h39)], rfl, rfl⟩
    ·
     replace h39 := nd_false h39
     refine wx_pure hok 17 rfl rfl rfl (freshS_eq rfl) rfl rfl ?_
     refine wx_pure hok 18 rfl rfl rfl (freshS_eq rfl) rfl rfl ?_
     refine wx_len hok 19 rfl rfl rfl (freshS_eq rfl) rfl rfl rfl tE_34 ?_
     refine wx_pure hok 20 rfl rfl rfl (freshS_eq rfl) rfl rfl ?_
     refine wx_pure hok 21 rfl rfl rfl (freshS_eq rfl) rfl rfl ?_
     refine wx_split (d := 44) (S' := [_,_,_,_,_,_,_,_,_,_,_,_,_,_,_,_,_,_,_,_,_,_,_,_,_,_,_,_]) rfl rfl (fun h44 => ?_) (fun h44 => ?_)
     ·
      replace h44 := of_decide_eq_true h44
      exfalso
      omega
     ·
      replace h44 := of_decide_eq_false h44
      refine wx_off hok 22 rfl rfl rfl (freshS_eq rfl) rfl ?_
      refine wx_off hok 23 rfl rfl rfl (freshS_eq rfl) rfl ?_
      refine wx_off hok 24 rfl rfl rfl (freshS_eq rfl) rfl ?_
      refine wx_off hok 25 rfl rfl rfl (freshS_eq rfl) rfl ?_
      refine wx_off hok 26 rfl rfl rfl (freshS_eq rfl) rfl ?_
      refine wx_off hok 27 rfl rfl rfl (freshS_eq rfl) rfl ?_
      refine wx_off hok 28 rfl rfl rfl (freshS_eq rfl) rfl ?_
      refine wx_off hok 29 rfl rfl rfl (freshS_eq rfl) rfl ?_
      refine wx_step1 hok 30 rfl rfl rfl rfl ?_
      refine wl_off rfl rfl rfl (freshS_eq rfl) ?_
      refine wl_nil ?_
      refine we_x [0, 1, 2, 3, 4, 5] [] rfl rfl ?_
      refine wx_off hok 31 rfl rfl rfl (freshS_eq rfl) rfl ?_
      refine wx_off hok 32 rfl rfl rfl (freshS_eq rfl) rfl ?_
      refine wx_pure hok 33 rfl rfl rfl (freshS_eq rfl) rfl rfl ?_
      refine wx_pure hok 34 rfl rfl rfl (freshS_eq rfl) rfl rfl ?_
      refine wx_done hok rfl ?_
      refine we_then ?_
      refine wc_keep [57, 20, 6, 5, 11, 4, 0, 1] (S' := [_,_,_,_,_,_,_,_]) rfl ?_
      refine wc_false rfl ?_
      refine wc_skip ?_
      refine we_block_normal ?_
      refine we_then ?_
      refine wc_region ?_
      refine wl_pure rfl rfl rfl (freshS_eq rfl) rfl ?_
      refine wl_pure rfl rfl rfl (freshS_eq rfl) rfl ?_
      refine wl_as (d := 22) (v' := .int .i64 ((s1 + 1 : Nat) : Int)) (S' := [_,_,_,_,_,_,_,_,_]) rfl rfl (nat_inc (by omega)) ?_
      refine wl_pure (S' := [_,_,_,_,_,_,_,_,_]) rfl rfl rfl rfl rfl ?_
      refine wl_nil ?_
      refine we_round (s1 + 1) (by omega) ⟨by omega, kept_step oks1.2 (by omega) hx30 hx34 h39⟩ [6, 5, 11, 4, 0, 1] rfl (fun _ _ hφ => ask [4, 5] rfl hφ) rfl
   ·
    replace h27 := of_decide_eq_false h27
    refine wx_off hok 5 rfl rfl rfl (freshS_eq rfl) rfl ?_
    refine wx_off hok 6 rfl rfl rfl (freshS_eq rfl) rfl ?_
    refine wx_off hok 7 rfl rfl rfl (freshS_eq rfl) rfl ?_
    refine wx_off hok 8 rfl rfl rfl (freshS_eq rfl) rfl ?_
    refine wx_off hok 9 rfl rfl rfl (freshS_eq rfl) rfl ?_
    refine wx_off hok 10 rfl rfl rfl (freshS_eq rfl) rfl ?_
    refine wx_off hok 11 rfl rfl rfl (freshS_eq rfl) rfl ?_
    refine wx_off hok 12 rfl rfl rfl (freshS_eq rfl) rfl ?_
    refine wx_off hok 13 rfl rfl rfl (freshS_eq rfl) rfl ?_
    refine wx_off hok 14 rfl rfl rfl (freshS_eq rfl) rfl ?_
    refine wx_pure hok 15 rfl rfl rfl (freshS_eq rfl) rfl rfl ?_
    refine wx_pure hok 16 rfl rfl rfl (freshS_eq rfl) rfl rfl ?_
    refine wx_pure hok 17 rfl rfl rfl (freshS_eq rfl) rfl rfl ?_
    refine wx_pure hok 18 rfl rfl rfl (freshS_eq rfl) rfl rfl ?_
    refine wx_len hok 19 rfl rfl rfl (freshS_eq rfl) rfl rfl rfl tE_34 ?_
    refine wx_pure hok 20 rfl rfl rfl (freshS_eq rfl) rfl rfl ?_
    refine wx_pure hok 21 rfl rfl rfl (freshS_eq rfl) rfl rfl ?_
    refine wx_split (d := 44) (S' := [_,_,_,_,_,_,_,_,_,_,_,_,_,_,_,_,_,_,_,_,_,_,_,_,_,_,_,_]) rfl rfl (fun h44 => ?_) (fun h44 => ?_)
    ·
     replace h44 := of_decide_eq_true h44
     refine wx_pure hok 22 rfl rfl rfl (freshS_eq rfl) rfl rfl ?_
     refine wx_pure hok 23 rfl rfl rfl (freshS_eq rfl) rfl rfl ?_
     refine wx_index hok 24 0 s1 rfl rfl rfl (freshS_eq rfl) rfl rfl rfl rfl rfl rfl (by omega) tE_34 tS_27 (fun b47 q47 cs47 x47 hx47 hlx47 => ?_)
     refine wx_openR vRep_opens 1 rfl (fun r47 er47 okx47 => ?_)
     subst er47
     refine wx_load hok 25 0 0 rfl rfl rfl (freshS_eq rfl) rfl rfl rfl rfl (cs := [_,_,_]) rfl tS_27 tA_27 rfl rfl ?_
     refine wx_pure hok 26 rfl rfl rfl (freshS_eq rfl) rfl rfl ?_
     refine wx_pure hok 27 rfl rfl rfl (freshS_eq rfl) rfl rfl ?_
     refine wx_len hok 28 rfl rfl rfl (freshS_eq rfl) rfl rfl rfl tE_34 ?_
     refine wx_pure hok 29 rfl rfl rfl (freshS_eq rfl) rfl rfl ?_
     refine wx_as (d := 52) (v' := .int .i64 ((s1 - m.length : Nat) : Int)) (S' := [_,_,_,_,_,_,_,_,_,_,_,_,_,_,_,_,_,_,_,_,_,_,_,_,_,_,_,_,_,_,_,_,_,_,_,_]) rfl rfl (nat_sub (by omega)) ?_
     refine wx_step1 hok 30 rfl rfl rfl rfl ?_
     refine wl_call [] [] rfl rfl rfl (freshS_eq rfl) rfl rfl fn_32 rfl (markValue_s 1 (s1 - m.length) (by omega) (by omega)) (fun _ _ hφ => ask [] rfl hφ) rfl (H' := []) rfl ?_
     rintro _ _ _ ⟨rfl, rfl, rfl⟩
     refine wl_nil ?_
     refine we_x [0, 1, 2, 3] [] rfl rfl ?_
     refine wx_bin hok 31 rfl rfl rfl (freshS_eq rfl) rfl rfl rfl rfl (eqlV _ _ x47 (markV 1 (s1 - m.length))) ?_
     refine wx_pure hok 32 rfl rfl rfl (freshS_eq rfl) rfl rfl ?_
     refine wx_pure hok 33 rfl rfl rfl (freshS_eq rfl) rfl rfl ?_
     refine wx_pure hok 34 rfl rfl rfl (freshS_eq rfl) rfl rfl ?_
     refine wx_done hok rfl ?_
     refine we_then ?_
     refine wc_keep [57, 20, 6, 5, 11, 4, 0, 1] (S' := [_,_,_,_,_,_,_,_]) rfl ?_
     refine wc_cond rfl (fun h57 => ?_) (fun h57 => ?_)
     ·
      replace h57 := nd_true h57
      exfalso
      exact h57 (by rw [kept_mark hx47 (by omega)]; congr 1; omega)
     ·
      replace h57 := nd_false h57
      refine wc_skip ?_
      refine we_block_normal ?_
      refine we_then ?_
      refine wc_region ?_
      refine wl_pure rfl rfl rfl (freshS_eq rfl) rfl ?_
      refine wl_pure rfl rfl rfl (freshS_eq rfl) rfl ?_
      refine wl_as (d := 22) (v' := .int .i64 ((s1 + 1 : Nat) : Int)) (S' := [_,_,_,_,_,_,_,_,_]) rfl rfl (nat_inc (by omega)) ?_
      refine wl_pure (S' := [_,_,_,_,_,_,_,_,_]) rfl rfl rfl rfl rfl ?_
      refine wl_nil ?_
      refine we_round (s1 + 1) (by omega) ⟨by omega, kept_past oks1.2 (by omega) (by omega)⟩ [6, 5, 11, 4, 0, 1] rfl (fun _ _ hφ => ask [2, 3] rfl hφ) rfl
    ·
     replace h44 := of_decide_eq_false h44
     exfalso
     omega
  ·
   replace h20 := of_decide_eq_false h20
   refine wc_exit ?_
   refine we_then_exit ?_
   refine we_then_exit ?_
   refine we_block_hit ?_
   refine we_then ?_
   refine wc_seq ?_
   refine wc_region ?_
   refine wl_pure (S' := [_,_,_,_,_,_]) rfl rfl rfl rfl rfl ?_
   refine wl_nil ?_
   refine we_then ?_
   refine wc_ret ?_
   refine ret_one (Hr := []) [] Try.results31 (res_tmp rfl) ?_ (fun _ _ hφ => ask [] rfl hφ) rfl rfl (.inl rfl)
   exact ⟨by rw [decide_eq_true (kept_all oks1.2 (by omega) (by omega))], rfl, rfl⟩

end Go.Proofs.Ytffcijddfhhbdaa
