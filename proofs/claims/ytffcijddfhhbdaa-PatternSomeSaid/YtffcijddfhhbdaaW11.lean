/- Walks, printed by a program out of the loaded code (wip/sep). -/
import Derived.Test.YtffcijddfhhbdaaW10
namespace Go.Proofs.Ytffcijddfhhbdaa
open Go.RowKit
set_option maxRecDepth 100000 in
set_option maxHeartbeats 4000000 in
theorem lentFacts_s (p : Option Addr) (c : Nat) (l : List FactD) (hb : l.length ≤ 1048576) (hb2 : ∀ x ∈ l, x.args.length ≤ 1048576) : Spec Try.prog 9 [.slice p l.length c] [.sli 3 fRep p c l] [] (fun v Φr Hr => ∃ p c, v = .slice p l.length c ∧ Φr = [.sli 3 flRep p c (lentF l ++ marksG 12)] ∧ Hr = []) := by
 refine spec_of Try.func9 rfl Try.ntmps9 rfl (S := [_]) rfl (fun C => ?_)
 refine wc_know (fun F w h => sli_cap (h _ (mem_at (k := 0) rfl))) (fun hcap => ?_)
 refine wc_seq ?_
 refine wc_region ?_
 refine wl_pure rfl rfl rfl (freshS_eq rfl) rfl ?_
 refine wl_nil ?_
 refine we_then ?_
 refine wc_seq ?_
 refine wc_region ?_
 refine wl_pure rfl rfl rfl (freshS_eq rfl) rfl ?_
 refine wl_len rfl rfl rfl (freshS_eq rfl) rfl rfl tE_52 ?_
 refine wl_pure rfl rfl rfl (freshS_eq rfl) rfl ?_
 refine wl_as (d := 9) (v' := .int .i64 ((l.length + 12 : Nat) : Int)) (S' := [_,_,_,_]) rfl rfl (nat_add (a := l.length) (b := 12) (by omega)) ?_
 refine wl_makeCap (m := l.length + 12) flRep rfl rfl rfl (freshS_eq rfl) rfl rfl rfl rfl tE_52 tR_36 rfl rfl (by omega) (by omega) (fun g10 => ?_)
 refine wl_pure rfl rfl rfl (freshS_eq rfl) rfl ?_
 refine wl_nil ?_
 refine we_then ?_
 refine wc_keep [3, 2, 0] (S' := [_,_,_]) rfl ?_
 refine wc_seq ?_
 refine wc_seq ?_
 refine wc_region ?_
 refine wl_pure rfl rfl rfl (freshS_eq rfl) rfl ?_
 refine wl_nil ?_
 refine we_then ?_
 refine wc_block ?_
 refine wc_loop (σ := Nat × List (FactD × List V) × Option Addr × Nat) (fun s => s.1 ≤ l.length ∧ s.2.1 = lentF (l.take s.1)) (fun s => l.length - s.1) (fun s => [(4, .int .i64 ((s.1 : Nat) : Int)), (3, .slice s.2.2.1 s.2.1.length s.2.2.2), (2, .slice none 0 0), (0, .slice p l.length c)]) (fun s => [.sli 3 fRep p c l]) (fun s => [.own 36 3 flRep (.slice s.2.2.1 s.2.1.length s.2.2.2) s.2.1]) (0, [], some ⟨g10, 0, none⟩, l.length + 12) ⟨by simp, rfl⟩ [4, 3, 2, 0] rfl (fun _ _ hφ => ask [0] rfl hφ) rfl (fun s1 oks1 => ?_)
 refine wc_seq ?_
 refine wc_seq ?_
 refine wc_region ?_
 refine wl_pure rfl rfl rfl (freshS_eq rfl) rfl ?_
 refine wl_pure rfl rfl rfl (freshS_eq rfl) rfl ?_
 refine wl_len rfl rfl rfl (freshS_eq rfl) rfl rfl tE_52 ?_
 refine wl_pure rfl rfl rfl (freshS_eq rfl) rfl ?_
 refine wl_nil ?_
 refine we_then ?_
 refine wc_keep [14, 4, 3, 2, 0] (S' := [_,_,_,_,_]) rfl ?_
 refine wc_cond rfl (fun h14 => ?_) (fun h14 => ?_)
 ·
  replace h14 := of_decide_eq_true h14
  refine wc_skip ?_
  refine we_then ?_
  refine wc_seq ?_
  refine wc_block ?_
  refine wc_seq ?_
  refine wc_region ?_
  refine wl_pure rfl rfl rfl (freshS_eq rfl) rfl ?_
  refine wl_pure rfl rfl rfl (freshS_eq rfl) rfl ?_
  refine wl_index 0 s1.1 rfl rfl rfl (freshS_eq rfl) rfl rfl rfl rfl rfl (by omega) tE_52 tS_36 (fun b19 q19 cs19 x19 hx19 hlx19 => ?_)
  refine wl_open fRep_opens 1 rfl (fun r19 er19 okx19 => ?_)
  subst er19
  refine wl_load 1 0 rfl rfl rfl (freshS_eq rfl) rfl rfl rfl (cs := [_,_,_]) rfl tS_36 tA_36 rfl rfl ?_
  refine wl_call [] [0] rfl rfl rfl (freshS_eq rfl) rfl rfl fn_18 rfl (lentFact_s _ _ x19 (hb2 _ (List.mem_of_getElem? hx19))) (fun _ _ hφ => ask [0] rfl hφ) rfl (H' := [_]) rfl ?_
  rintro _ _ _ ⟨p21, c21, rfl, rfl, rfl⟩
  refine wl_alloc rfl rfl rfl (freshS_eq rfl) rfl tZ_36 rfl (fun g5 => ?_)
  refine wl_store 0 0 rfl rfl rfl rfl rfl rfl rfl tS_36 rfl rfl rfl (all' := [_,_,_]) rfl (H' := [_,_]) rfl ?_
  refine wl_nil ?_
  refine we_then ?_
  refine wc_keep [5, 14, 4, 3, 2, 0] (S' := [_,_,_,_,_,_]) rfl ?_
  refine wc_region ?_
  refine wl_pure rfl rfl rfl (freshS_eq rfl) rfl ?_
  refine wl_loadH 0 0 rfl rfl rfl (freshS_eq rfl) rfl rfl rfl (cs := [_,_,_]) rfl tS_36 tA_36 rfl rfl ?_
  refine wl_buildSlice rfl rfl rfl (freshS_eq rfl) rfl tE_52 tS_36 tZ_36 rfl (zs := [.int .i64 0, .int .i64 0, .slice none 0 0]) (by kernel_rfl) rfl (out := [_,_,_]) rfl (fun g24 => ?_)
  refine wl_appendH ([(x19, marksV 1 12)]) 2 0 rfl rfl rfl (freshS_eq rfl) rfl rfl rfl rfl rfl (fun F w hφ => ⟨[.int .i64 (x19.id), .int .i64 (x19.ty), .slice p21 x19.args.length c21], [], rfl, rfl, ⟨okx19, (p21, c21), rfl, hφ _ (mem_at (k := 0) rfl)⟩, rfl⟩) tE_52 tR_36 rfl rfl (by have := congrArg List.length oks1.2; simp [lentF_len, marksG_len] at this; simp; omega) (by have := congrArg List.length oks1.2; simp [lentF_len, marksG_len] at this; simp; omega) (H2 := fun p25 c25 => [.blk g24 [.int .i64 (x19.id), .int .i64 (x19.ty), .slice p21 x19.args.length c21] 36, .blk g5 [.int .i64 (x19.id), .int .i64 (x19.ty), .slice p21 x19.args.length c21] 36, .own 36 3 flRep (.slice p25 ((s1.2.1 ++ ([(x19, marksV 1 12)])).length) c25) (s1.2.1 ++ ([(x19, marksV 1 12)]))]) (fun _ _ => rfl) (fun p25 c25 => ?_)
  refine wl_drop 0 rfl (H' := [_,_]) rfl ?_
  refine wl_pure (S' := [_,_,_,_,_,_,_,_,_]) rfl rfl rfl rfl rfl ?_
  refine wl_nil ?_
  refine we_block_normal ?_
  refine we_then ?_
  refine wc_region ?_
  refine wl_pure rfl rfl rfl (freshS_eq rfl) rfl ?_
  refine wl_pure rfl rfl rfl (freshS_eq rfl) rfl ?_
  refine wl_as (d := 16) (v' := .int .i64 ((s1.1 + 1 : Nat) : Int)) (S' := [_,_,_,_,_,_,_,_,_,_,_]) rfl rfl (nat_inc (by omega)) ?_
  refine wl_pure (S' := [_,_,_,_,_,_,_,_,_,_,_]) rfl rfl rfl rfl rfl ?_
  refine wl_nil ?_
  refine we_pick [1] rfl (H' := [_]) rfl ?_
  refine we_round (s1.1 + 1, s1.2.1 ++ ([(x19, marksV 1 12)]), p25, c25) (by dsimp only; omega) ⟨by dsimp only; omega, by dsimp only; rw [lentF_step hx19, oks1.2]⟩ [4, 3, 2, 0] rfl (fun _ _ hφ => ask [4] rfl hφ) rfl
 ·
  replace h14 := of_decide_eq_false h14
  refine wc_exit ?_
  refine we_then_exit ?_
  refine we_then_exit ?_
  refine we_block_hit ?_
  refine we_then ?_
  refine wc_seq ?_
  refine wc_seq ?_
  refine wc_region ?_
  refine wl_pure rfl rfl rfl (freshS_eq rfl) rfl ?_
  refine wl_nil ?_
  refine we_then ?_
  refine wc_block ?_
  refine wc_loop (σ := Nat × List (FactD × List V) × Option Addr × Nat) (fun s => s.1 ≤ 12 ∧ s.2.1 = lentF l ++ marksG s.1) (fun s => 12 - s.1) (fun s => [(6, .int .i64 ((s.1 : Nat) : Int)), (14, .bool (decide (((s1.1 : Nat) : Int) < ((l.length : Nat) : Int)))), (4, .int .i64 ((s1.1 : Nat) : Int)), (3, .slice s.2.2.1 s.2.1.length s.2.2.2), (2, .slice none 0 0), (0, .slice p l.length c)]) (fun s => [.sli 3 fRep p c l]) (fun s => [.own 36 3 flRep (.slice s.2.2.1 s.2.1.length s.2.2.2) s.2.1]) (0, s1.2.1, s1.2.2.1, s1.2.2.2) ⟨by simp, by have h1 := oks1.2; rw [show s1.1 = l.length from by omega, List.take_length] at h1; simpa [marksG] using h1⟩ [6, 14, 4, 3, 2, 0] rfl (fun _ _ hφ => ask [0] rfl hφ) rfl (fun s2 oks2 => ?_)
  refine wc_seq ?_
  refine wc_seq ?_
  refine wc_region ?_
  refine wl_pure rfl rfl rfl (freshS_eq rfl) rfl ?_
  refine wl_pure rfl rfl rfl (freshS_eq rfl) rfl ?_
  refine wl_nil ?_
  refine we_then ?_
  refine wc_keep [27, 6, 14, 4, 3, 2, 0] (S' := [_,_,_,_,_,_,_]) rfl ?_
  refine wc_cond rfl (fun h27 => ?_) (fun h27 => ?_)
  ·
   replace h27 := of_decide_eq_true h27
   refine wc_skip ?_
   refine we_then ?_
   refine wc_seq ?_
   refine wc_block ?_
   refine wc_region ?_
   refine wl_pure rfl rfl rfl (freshS_eq rfl) rfl ?_
   refine wl_pure rfl rfl rfl (freshS_eq rfl) rfl ?_
   refine wl_call [] [0] rfl rfl rfl (freshS_eq rfl) rfl rfl fn_19 rfl (markFact_s 1 s2.1 (by omega) (by omega)) (fun _ _ hφ => ask [] rfl hφ) rfl (H' := [_]) rfl ?_
   rintro _ _ _ ⟨rfl, rfl, rfl⟩
   refine wl_buildSlice rfl rfl rfl (freshS_eq rfl) rfl tE_52 tS_36 tZ_36 rfl (zs := [.int .i64 0, .int .i64 0, .slice none 0 0]) (by kernel_rfl) rfl (out := [_,_,_]) rfl (fun g33 => ?_)
   refine wl_appendH ([((markF 1 s2.1), ([] : List V))]) 1 0 rfl rfl rfl (freshS_eq rfl) rfl rfl rfl rfl rfl (fun F w hφ => ⟨[.int .i64 ((markF 1 s2.1).id), .int .i64 0, .slice none 0 0], [], rfl, rfl, ⟨markF_ok (by omega) (by omega), (none, 0), rfl, sli_none⟩, rfl⟩) tE_52 tR_36 rfl rfl (by have := congrArg List.length oks2.2; simp [lentF_len, marksG_len] at this; simp; omega) (by have := congrArg List.length oks2.2; simp [lentF_len, marksG_len] at this; simp; omega) (H2 := fun p34 c34 => [.blk g33 [.int .i64 ((markF 1 s2.1).id), .int .i64 0, .slice none 0 0] 36, .own 36 3 flRep (.slice p34 ((s2.2.1 ++ ([((markF 1 s2.1), ([] : List V))])).length) c34) (s2.2.1 ++ ([((markF 1 s2.1), ([] : List V))]))]) (fun _ _ => rfl) (fun p34 c34 => ?_)
   refine wl_drop 0 rfl (H' := [_]) rfl ?_
   refine wl_pure (S' := [_,_,_,_,_,_,_,_,_,_,_]) rfl rfl rfl rfl rfl ?_
   refine wl_nil ?_
   refine we_block_normal ?_
   refine we_then ?_
   refine wc_region ?_
   refine wl_pure rfl rfl rfl (freshS_eq rfl) rfl ?_
   refine wl_pure rfl rfl rfl (freshS_eq rfl) rfl ?_
   refine wl_as (d := 29) (v' := .int .i64 ((s2.1 + 1 : Nat) : Int)) (S' := [_,_,_,_,_,_,_,_,_,_,_,_,_]) rfl rfl (nat_inc (by omega)) ?_
   refine wl_pure (S' := [_,_,_,_,_,_,_,_,_,_,_,_,_]) rfl rfl rfl rfl rfl ?_
   refine wl_nil ?_
   refine we_round (s2.1 + 1, s2.2.1 ++ ([((markF 1 s2.1), ([] : List V))]), p34, c34) (by dsimp only; omega) ⟨by dsimp only; omega, by dsimp only; rw [marksG_succ, oks2.2, List.append_assoc]⟩ [6, 14, 4, 3, 2, 0] rfl (fun _ _ hφ => ask [0] rfl hφ) rfl
  ·
   replace h27 := of_decide_eq_false h27
   refine wc_exit ?_
   refine we_then_exit ?_
   refine we_then_exit ?_
   refine we_block_hit ?_
   refine we_then ?_
   refine wc_seq ?_
   refine wc_region ?_
   refine wl_pure rfl rfl rfl (freshS_eq rfl) rfl ?_
   refine wl_pure rfl rfl rfl (freshS_eq rfl) rfl ?_
   refine wl_len rfl rfl rfl (freshS_eq rfl) rfl rfl tE_52 ?_
   refine wl_ownSpot 0 rfl (fun hsp hcm => ?_)
   refine wl_sliceTo rfl rfl rfl (freshS_eq rfl) rfl rfl rfl rfl tE_52 tS_36 (by have := hcm; have h9 := congrArg List.length oks2.2; simp [lentF_len, marksG_len] at h9; omega) hsp ?_
   refine wl_freeze 0 rfl (H' := []) rfl ?_
   refine wl_fact (.sli 3 flRep s2.2.2.1 s2.2.2.2 s2.2.1) (fun F w hφ => own_sli (hφ _ (mem_at (k := 0) rfl))) ?_
   refine wl_pure (S' := [_,_,_,_,_,_,_,_,_,_]) rfl rfl rfl rfl rfl ?_
   refine wl_nil ?_
   refine we_then ?_
   refine wc_keep [2, 27, 6, 14, 4, 3, 0] (S' := [_,_,_,_,_,_,_]) rfl ?_
   refine wc_ret ?_
   refine ret_one (Hr := []) [] Try.results9 (res_tmp rfl) ?_ (fun _ _ hφ => ask [0] rfl hφ) rfl rfl (.inl rfl)
   obtain ⟨h1, h2⟩ := oks2
   have h3 : s2.1 = 12 := by omega
   rw [h3] at h2
   exact ⟨_, _, rfl, by rw [← h2]; rfl, rfl⟩

set_option maxRecDepth 100000 in
set_option maxHeartbeats 4000000 in
theorem keptFacts_s (p q : Option Addr) (c d : Nat) (l m : List FactD) : Spec Try.prog 12 [.slice p l.length c, .slice q m.length d] [.sli 3 flRep p c (lentF l ++ marksG 12), .sli 3 fRep q d m] [] (fun v Φr Hr => ∃ b, v = .bool b ∧ (b = true ↔ l = m) ∧ Φr = [] ∧ Hr = []) := by
 refine spec_of Try.func12 rfl Try.ntmps12 rfl (S := [_,_]) rfl (fun C => ?_)
 have hlen : (lentF l ++ marksG 12).length = l.length + 12 := by simp [lentF_len, marksG_len]
 refine wc_know (fun F w h => sli_cap (h _ (mem_at (k := 0) rfl))) (fun hcap => ?_)
 refine wc_seq ?_
 refine wc_region ?_
 refine wl_pure rfl rfl rfl (freshS_eq rfl) rfl ?_
 refine wl_nil ?_
 refine we_then ?_
 refine wc_seq ?_
 refine wc_seq ?_
 refine wc_region ?_
 refine wl_pure rfl rfl rfl (freshS_eq rfl) rfl ?_
 refine wl_len rfl rfl rfl (freshS_eq rfl) rfl rfl tE_52 ?_
 refine wl_pure rfl rfl rfl (freshS_eq rfl) rfl ?_
 refine wl_len rfl rfl rfl (freshS_eq rfl) rfl rfl tE_52 ?_
 refine wl_pure rfl rfl rfl (freshS_eq rfl) rfl ?_
 refine wl_nil ?_
 refine we_then ?_
 refine wc_keep [11, 4, 0, 1] (S' := [_,_,_,_]) rfl ?_
 refine wc_cond rfl (fun h11 => ?_) (fun h11 => ?_)
 ·
  replace h11 := bne_iff_ne.1 h11
  refine wc_seq ?_
  refine wc_region ?_
  refine wl_pure (S' := [_,_,_]) rfl rfl rfl rfl rfl ?_
  refine wl_nil ?_
  refine we_then ?_
  refine wc_ret ?_
  refine we_then_ret ?_
  refine ret_one (Hr := []) [] Try.results12 (res_tmp rfl) ?_ (fun _ _ hφ => ask [] rfl hφ) rfl rfl (.inl rfl)
  exact ⟨false, rfl, by simp; exact fun e => h11 (by rw [e]), rfl, rfl⟩
 ·
  replace h11 := bne_eq_false_iff_eq.1 h11
  refine wc_skip ?_
  refine we_then ?_
  refine wc_seq ?_
  refine wc_region ?_
  refine wl_pure rfl rfl rfl (freshS_eq rfl) rfl ?_
  refine wl_pure rfl rfl rfl (freshS_eq rfl) rfl ?_
  refine wl_len rfl rfl rfl (freshS_eq rfl) rfl rfl tE_52 ?_
  refine wl_pure rfl rfl rfl (freshS_eq rfl) rfl ?_
  refine wl_as (d := 15) (v' := .int .i64 ((m.length + 12 : Nat) : Int)) (S' := [_,_,_,_,_,_,_]) rfl rfl (nat_add (a := m.length) (b := 12) (by omega)) ?_
  refine wl_sliSpot 0 rfl (by omega) (fun hsp hcm => ?_)
  refine wl_sliceTo rfl rfl rfl (freshS_eq rfl) rfl rfl rfl rfl tE_52 tS_36 (by omega) hsp ?_
  refine wl_as (d := 16) (v' := .slice p ((lentF l ++ marksG 12).length) c) (S' := [_,_,_,_,_,_,_,_]) rfl rfl (by congr 1; omega) ?_
  refine wl_pure rfl rfl rfl (freshS_eq rfl) rfl ?_
  refine wl_nil ?_
  refine we_then ?_
  refine wc_keep [5, 11, 4, 0, 1] (S' := [_,_,_,_,_]) rfl ?_
  refine wc_seq ?_
  refine wc_seq ?_
  refine wc_region ?_
  refine wl_pure rfl rfl rfl (freshS_eq rfl) rfl ?_
  refine wl_nil ?_
  refine we_then ?_
  refine wc_block ?_
  refine wc_loop (σ := Nat) (fun s => s ≤ l.length + 12 ∧ l.take s = m.take s) (fun s => l.length + 12 - s) (fun s => [(6, .int .i64 ((s : Nat) : Int)), (5, .slice p ((lentF l ++ marksG 12).length) c), (11, .bool (((l.length : Nat) : Int) != ((m.length : Nat) : Int))), (4, .bool false), (0, .slice p l.length c), (1, .slice q m.length d)]) (fun s => [.sli 3 flRep p c (lentF l ++ marksG 12), .sli 3 fRep q d m]) (fun s => []) 0 (by simp) [6, 5, 11, 4, 0, 1] rfl (fun _ _ hφ => ask [0, 1] rfl hφ) rfl (fun s1 oks1 => ?_)
  refine wc_seq ?_
  refine wc_seq ?_
  refine wc_region ?_
  refine wl_pure rfl rfl rfl (freshS_eq rfl) rfl ?_
  refine wl_pure rfl rfl rfl (freshS_eq rfl) rfl ?_
  refine wl_len rfl rfl rfl (freshS_eq rfl) rfl rfl tE_52 ?_
  refine wl_pure rfl rfl rfl (freshS_eq rfl) rfl ?_
  refine wl_nil ?_
  refine we_then ?_
  refine wc_keep [20, 6, 5, 11, 4, 0, 1] (S' := [_,_,_,_,_,_,_]) rfl ?_
  refine wc_cond rfl (fun h20 => ?_) (fun h20 => ?_)
  ·
   replace h20 := of_decide_eq_true h20
   refine wc_skip ?_
   refine we_then ?_
   refine wc_seq ?_
   refine wc_block ?_
   refine wc_seq ?_
   refine wc_draw [0, 1, 2, 3, 4, 5, 6, 7, 8, 9, 10, 11, 12, 14, 15, 16, 17, 18, 19, 20, 21, 22, 23, 24, 25, 26, 27, 28, 29, 32, 33, 34] rfl rfl (fun hok => ?_)
   refine wx_pure hok 0 rfl rfl rfl (freshS_eq rfl) rfl rfl ?_
   refine wx_pure hok 1 rfl rfl rfl (freshS_eq rfl) rfl rfl ?_
   refine wx_len hok 2 rfl rfl rfl (freshS_eq rfl) rfl rfl rfl tE_52 ?_
   refine wx_pure hok 3 rfl rfl rfl (freshS_eq rfl) rfl rfl ?_
   refine wx_pure hok 4 rfl rfl rfl (freshS_eq rfl) rfl rfl ?_
   refine wx_split (d := 27) (S' := [_,_,_,_,_,_,_,_,_,_,_]) rfl rfl (fun h27 => ?_) (fun h27 => ?_)
   ·
    replace h27 := of_decide_eq_true h27
    refine wx_pure hok 5 rfl rfl rfl (freshS_eq rfl) rfl rfl ?_
    refine wx_pure hok 6 rfl rfl rfl (freshS_eq rfl) rfl rfl ?_
    refine wx_index hok 7 0 s1 rfl rfl rfl (freshS_eq rfl) rfl rfl rfl rfl rfl rfl (by omega) tE_52 tS_36 (fun b30 q30 cs30 x30 hx30 hlx30 => ?_)
    refine wx_openR flRep_opens 1 rfl (fun r30 er30 okx30 => ?_)
    subst er30
    obtain ⟨y30, hz30, hy30⟩ := lent_at hx30 (by omega)
    subst hz30
    refine wx_load hok 8 1 0 rfl rfl rfl (freshS_eq rfl) rfl rfl rfl rfl (cs := [_,_,_]) rfl tS_36 tA_36 rfl rfl ?_
    refine wx_pure hok 9 rfl rfl rfl (freshS_eq rfl) rfl rfl ?_
    refine wx_pure hok 10 rfl rfl rfl (freshS_eq rfl) rfl rfl ?_
    refine wx_index hok 11 4 s1 rfl rfl rfl (freshS_eq rfl) rfl rfl rfl rfl rfl rfl (by omega) tE_52 tS_36 (fun b34 q34 cs34 x34 hx34 hlx34 => ?_)
    refine wx_openR fRep_opens 1 rfl (fun r34 er34 okx34 => ?_)
    subst er34
    refine wx_load hok 12 1 0 rfl rfl rfl (freshS_eq rfl) rfl rfl rfl rfl (cs := [_,_,_]) rfl tS_36 tA_36 rfl rfl ?_
    refine wx_step1 hok 13 rfl rfl rfl rfl ?_
    refine wl_call [] [] rfl rfl rfl (freshS_eq rfl) rfl rfl fn_23 rfl (keptFact_s _ _ _ _ ((y30, marksV 1 12).1) x34) (fun _ _ hφ => ask [3, 0] rfl hφ) rfl (H' := []) rfl ?_
    rintro _ _ _ ⟨b36, rfl, hbb36, rfl, rfl⟩
    refine wl_nil ?_
    refine we_x [0, 1, 2, 3, 4, 5, 6, 7] [] rfl rfl ?_
    refine wx_pure hok 14 rfl rfl rfl (freshS_eq rfl) rfl rfl ?_
    refine wx_pure hok 15 rfl rfl rfl (freshS_eq rfl) rfl rfl ?_
    refine wx_pure hok 16 rfl rfl rfl (freshS_eq rfl) rfl rfl ?_
    refine wx_split (d := 39) (S' := [_,_,_,_,_,_,_,_,_,_,_,_,_,_,_,_,_,_,_,_,_,_,_]) rfl rfl (fun h39 => ?_) (fun h39 => ?_)
    ·
     replace h39 := not_true h39
     refine wx_off hok 17 rfl rfl rfl (freshS_eq rfl) rfl ?_
     refine wx_off hok 18 rfl rfl rfl (freshS_eq rfl) rfl ?_
     refine wx_off hok 19 rfl rfl rfl (freshS_eq rfl) rfl ?_
     refine wx_off hok 20 rfl rfl rfl (freshS_eq rfl) rfl ?_
     refine wx_off hok 21 rfl rfl rfl (freshS_eq rfl) rfl ?_
     refine wx_off hok 22 rfl rfl rfl (freshS_eq rfl) rfl ?_
     refine wx_off hok 23 rfl rfl rfl (freshS_eq rfl) rfl ?_
     refine wx_off hok 24 rfl rfl rfl (freshS_eq rfl) rfl ?_
     refine wx_off hok 25 rfl rfl rfl (freshS_eq rfl) rfl ?_
     refine wx_off hok 26 rfl rfl rfl (freshS_eq rfl) rfl ?_
     refine wx_off hok 27 rfl rfl rfl (freshS_eq rfl) rfl ?_
     refine wx_off hok 28 rfl rfl rfl (freshS_eq rfl) rfl ?_
     refine wx_off hok 29 rfl rfl rfl (freshS_eq rfl) rfl ?_
     refine wx_step1 hok 30 rfl rfl rfl rfl ?_
     refine wl_off rfl rfl rfl (freshS_eq rfl) ?_
     refine wl_nil ?_
     refine we_x [0, 1, 2, 3, 4, 5, 6, 7] [] rfl rfl ?_
     refine wx_step1 hok 31 rfl rfl rfl rfl ?_
     refine wl_off rfl rfl rfl (freshS_eq rfl) ?_
     refine wl_nil ?_
     refine we_x [0, 1, 2, 3, 4, 5, 6, 7] [] rfl rfl ?_
     refine wx_off hok 32 rfl rfl rfl (freshS_eq rfl) rfl ?_
     refine wx_off hok 33 rfl rfl rfl (freshS_eq rfl) rfl ?_
     refine wx_pure hok 34 rfl rfl rfl (freshS_eq rfl) rfl rfl ?_
     refine wx_done hok rfl ?_
     refine we_then ?_
     refine wc_keep [57, 20, 6, 5, 11, 4, 0, 1] (S' := [_,_,_,_,_,_,_,_]) rfl ?_
     refine wc_true rfl ?_
     refine wc_seq ?_
     refine wc_region ?_
     refine wl_pure (S' := [_,_,_,_,_,_,_]) rfl rfl rfl rfl rfl ?_
     refine wl_nil ?_
     refine we_then ?_
     refine wc_ret ?_
     refine we_block_ret ?_
     refine we_then_ret ?_
     refine we_then_ret ?_
     refine we_block_ret ?_
     refine we_then_ret ?_
     refine ret_one (Hr := []) [] Try.results12 (res_tmp rfl) ?_ (fun _ _ hφ => ask [] rfl hφ) rfl rfl (.inl rfl)
     exact ⟨false, rfl, by simp; exact fun e => (by rw [e] at hy30; rw [hy30] at hx34; have hh := hbb36.2 (Option.some.inj hx34); rw [h39] at hh; cases hh), rfl, rfl⟩
    ·
     replace h39 := not_false_ h39
     refine wx_pure hok 17 rfl rfl rfl (freshS_eq rfl) rfl rfl ?_
     refine wx_pure hok 18 rfl rfl rfl (freshS_eq rfl) rfl rfl ?_
     refine wx_len hok 19 rfl rfl rfl (freshS_eq rfl) rfl rfl rfl tE_52 ?_
     refine wx_pure hok 20 rfl rfl rfl (freshS_eq rfl) rfl rfl ?_
     refine wx_pure hok 21 rfl rfl rfl (freshS_eq rfl) rfl rfl ?_
     refine wx_split (d := 44) (S' := [_,_,_,_,_,_,_,_,_,_,_,_,_,_,_,_,_,_,_,_,_,_,_,_,_,_,_,_]) rfl rfl (fun h44 => ?_) (fun h44 => ?_)
     ·
      replace h44 := of_decide_eq_true h44
      exfalso
      omega
     ·
      replace h44 := of_decide_eq_false h44
      refine wx_off hok 22 rfl rfl rfl (freshS_eq rfl) rfl ?_
      refine wx_off hok 23 rfl rfl rfl (freshS_eq rfl) rfl ?_
      refine wx_off hok 24 rfl rfl rfl (freshS_eq rfl) rfl ?_
      refine wx_off hok 25 rfl rfl rfl (freshS_eq rfl) rfl ?_
      refine wx_off hok 26 rfl rfl rfl (freshS_eq rfl) rfl ?_
      refine wx_off hok 27 rfl rfl rfl (freshS_eq rfl) rfl ?_
      refine wx_off hok 28 rfl rfl rfl (freshS_eq rfl) rfl ?_
      refine wx_off hok 29 rfl rfl rfl (freshS_eq rfl) rfl ?_
      refine wx_step1 hok 30 rfl rfl rfl rfl ?_
      refine wl_off rfl rfl rfl (freshS_eq rfl) ?_
      refine wl_nil ?_
      refine we_x [0, 1, 2, 3, 4, 5, 6, 7] [] rfl rfl ?_
      refine wx_step1 hok 31 rfl rfl rfl rfl ?_
      refine wl_off rfl rfl rfl (freshS_eq rfl) ?_
      refine wl_nil ?_
      refine we_x [0, 1, 2, 3, 4, 5, 6, 7] [] rfl rfl ?_
      refine wx_off hok 32 rfl rfl rfl (freshS_eq rfl) rfl ?_
      refine wx_pure hok 33 rfl rfl rfl (freshS_eq rfl) rfl rfl ?_
      refine wx_pure hok 34 rfl rfl rfl (freshS_eq rfl) rfl rfl ?_
      refine wx_done hok rfl ?_
      refine we_then ?_
      refine wc_keep [57, 20, 6, 5, 11, 4, 0, 1] (S' := [_,_,_,_,_,_,_,_]) rfl ?_
      refine wc_false rfl ?_
      refine wc_skip ?_
      refine we_block_normal ?_
      refine we_then ?_
      refine wc_region ?_
      refine wl_pure rfl rfl rfl (freshS_eq rfl) rfl ?_
      refine wl_pure rfl rfl rfl (freshS_eq rfl) rfl ?_
      refine wl_as (d := 22) (v' := .int .i64 ((s1 + 1 : Nat) : Int)) (S' := [_,_,_,_,_,_,_,_,_]) rfl rfl (nat_inc (by omega)) ?_
      refine wl_pure (S' := [_,_,_,_,_,_,_,_,_]) rfl rfl rfl rfl rfl ?_
      refine wl_nil ?_
      refine we_round (s1 + 1) (by omega) ⟨by omega, kept_fact oks1.2 (by omega) hy30 hx34 (hbb36.1 h39)⟩ [6, 5, 11, 4, 0, 1] rfl (fun _ _ hφ => ask [6, 7] rfl hφ) rfl
   ·
    replace h27 := of_decide_eq_false h27
    refine wx_off hok 5 rfl rfl rfl (freshS_eq rfl) rfl ?_
    refine wx_off hok 6 rfl rfl rfl (freshS_eq rfl) rfl ?_
    refine wx_off hok 7 rfl rfl rfl (freshS_eq rfl) rfl ?_
    refine wx_off hok 8 rfl rfl rfl (freshS_eq rfl) rfl ?_
    refine wx_off hok 9 rfl rfl rfl (freshS_eq rfl) rfl ?_
    refine wx_off hok 10 rfl rfl rfl (freshS_eq rfl) rfl ?_
    refine wx_off hok 11 rfl rfl rfl (freshS_eq rfl) rfl ?_
    refine wx_off hok 12 rfl rfl rfl (freshS_eq rfl) rfl ?_
    refine wx_step1 hok 13 rfl rfl rfl rfl ?_
    refine wl_off rfl rfl rfl (freshS_eq rfl) ?_
    refine wl_nil ?_
    refine we_x [0, 1] [] rfl rfl ?_
    refine wx_off hok 14 rfl rfl rfl (freshS_eq rfl) rfl ?_
    refine wx_pure hok 15 rfl rfl rfl (freshS_eq rfl) rfl rfl ?_
    refine wx_pure hok 16 rfl rfl rfl (freshS_eq rfl) rfl rfl ?_
    refine wx_pure hok 17 rfl rfl rfl (freshS_eq rfl) rfl rfl ?_
    refine wx_pure hok 18 rfl rfl rfl (freshS_eq rfl) rfl rfl ?_
    refine wx_len hok 19 rfl rfl rfl (freshS_eq rfl) rfl rfl rfl tE_52 ?_
    refine wx_pure hok 20 rfl rfl rfl (freshS_eq rfl) rfl rfl ?_
    refine wx_pure hok 21 rfl rfl rfl (freshS_eq rfl) rfl rfl ?_
    refine wx_split (d := 44) (S' := [_,_,_,_,_,_,_,_,_,_,_,_,_,_,_,_,_,_,_,_,_,_,_,_,_,_,_,_]) rfl rfl (fun h44 => ?_) (fun h44 => ?_)
    ·
     replace h44 := of_decide_eq_true h44
     refine wx_pure hok 22 rfl rfl rfl (freshS_eq rfl) rfl rfl ?_
     refine wx_pure hok 23 rfl rfl rfl (freshS_eq rfl) rfl rfl ?_
     refine wx_index hok 24 0 s1 rfl rfl rfl (freshS_eq rfl) rfl rfl rfl rfl rfl rfl (by omega) tE_52 tS_36 (fun b47 q47 cs47 x47 hx47 hlx47 => ?_)
     refine wx_openR flRep_opens 1 rfl (fun r47 er47 okx47 => ?_)
     subst er47
     have hz47 := lent_mark hx47 (by omega)
     subst hz47
     refine wx_load hok 25 1 0 rfl rfl rfl (freshS_eq rfl) rfl rfl rfl rfl (cs := [_,_,_]) rfl tS_36 tA_36 rfl rfl ?_
     refine wx_pure hok 26 rfl rfl rfl (freshS_eq rfl) rfl rfl ?_
     refine wx_pure hok 27 rfl rfl rfl (freshS_eq rfl) rfl rfl ?_
     refine wx_len hok 28 rfl rfl rfl (freshS_eq rfl) rfl rfl rfl tE_52 ?_
     refine wx_pure hok 29 rfl rfl rfl (freshS_eq rfl) rfl rfl ?_
     refine wx_as (d := 52) (v' := .int .i64 ((s1 - m.length : Nat) : Int)) (S' := [_,_,_,_,_,_,_,_,_,_,_,_,_,_,_,_,_,_,_,_,_,_,_,_,_,_,_,_,_,_,_,_,_,_,_,_]) rfl rfl (nat_sub (by omega)) ?_
     refine wx_step1 hok 30 rfl rfl rfl rfl ?_
     refine wl_call [] [] rfl rfl rfl (freshS_eq rfl) rfl rfl fn_19 rfl (markFact_s 1 (s1 - m.length) (by omega) (by omega)) (fun _ _ hφ => ask [] rfl hφ) rfl (H' := []) rfl ?_
     rintro _ _ _ ⟨rfl, rfl, rfl⟩
     refine wl_nil ?_
     refine we_x [0, 1, 2, 3, 4] [] rfl rfl ?_
     refine wx_step1 hok 31 rfl rfl rfl rfl ?_
     refine wl_lend [] [] [] rfl rfl rfl (freshS_eq rfl) rfl rfl fn_24 rfl (sameFact_s _ _ _ _ ((markF 1 (s1 - l.length), ([] : List V)).1) (markF 1 (s1 - m.length))) (fun F w hφ hh => (ask_cons (sli_pre (hφ _ (mem_at (k := 0) rfl))) (ask_cons sli_none ask_nil))) (fun _ _ _ hR => by rcases hR with ⟨b54, rfl, hbb54, rfl, rfl⟩ <;> exact ⟨rfl, by simp [own_free, blk_free, vRep_free, bRep_free, iRep_free, aRep_free]⟩) rfl rfl (H' := []) rfl ?_
     rintro _ _ _ ⟨b54, rfl, hbb54, rfl, rfl⟩
     refine wl_nil ?_
     refine we_x [0, 1, 2, 3, 4] [] rfl rfl ?_
     refine wx_pure hok 32 rfl rfl rfl (freshS_eq rfl) rfl rfl ?_
     refine wx_pure hok 33 rfl rfl rfl (freshS_eq rfl) rfl rfl ?_
     refine wx_pure hok 34 rfl rfl rfl (freshS_eq rfl) rfl rfl ?_
     refine wx_done hok rfl ?_
     refine we_then ?_
     refine wc_keep [57, 20, 6, 5, 11, 4, 0, 1] (S' := [_,_,_,_,_,_,_,_]) rfl ?_
     refine wc_cond rfl (fun h57 => ?_) (fun h57 => ?_)
     ·
      replace h57 := not_true h57
      exfalso
      have hh := hbb54.2 (by dsimp only; congr 1; omega)
      rw [h57] at hh
      cases hh
     ·
      replace h57 := not_false_ h57
      refine wc_skip ?_
      refine we_block_normal ?_
      refine we_then ?_
      refine wc_region ?_
      refine wl_pure rfl rfl rfl (freshS_eq rfl) rfl ?_
      refine wl_pure rfl rfl rfl (freshS_eq rfl) rfl ?_
      refine wl_as (d := 22) (v' := .int .i64 ((s1 + 1 : Nat) : Int)) (S' := [_,_,_,_,_,_,_,_,_]) rfl rfl (nat_inc (by omega)) ?_
      refine wl_pure (S' := [_,_,_,_,_,_,_,_,_]) rfl rfl rfl rfl rfl ?_
      refine wl_nil ?_
      refine we_round (s1 + 1) (by omega) ⟨by omega, kept_past oks1.2 (by omega) (by omega)⟩ [6, 5, 11, 4, 0, 1] rfl (fun _ _ hφ => ask [3, 4] rfl hφ) rfl
    ·
     replace h44 := of_decide_eq_false h44
     exfalso
     omega
  ·
   replace h20 := of_decide_eq_false h20
   refine wc_exit ?_
   refine we_then_exit ?_
   refine we_then_exit ?_
   refine we_block_hit ?_
   refine we_then ?_
   refine wc_seq ?_
   refine wc_region ?_
   refine wl_pure (S' := [_,_,_,_,_,_]) rfl rfl rfl rfl rfl ?_
   refine wl_nil ?_
   refine we_then ?_
   refine wc_ret ?_
   refine ret_one (Hr := []) [] Try.results12 (res_tmp rfl) ?_ (fun _ _ hφ => ask [] rfl hφ) rfl rfl (.inl rfl)
   exact ⟨true, rfl, by simp; exact kept_all oks1.2 (by omega) (by omega), rfl, rfl⟩

end Go.Proofs.Ytffcijddfhhbdaa
