/- Walks, printed by a program out of the loaded code (wip/sep). -/
import Derived.Test.YtffcijddfhhbdaaW5
import Derived.Test.YtffcijddfhhbdaaW11
import Derived.Test.YtffcijddfhhbdaaDyn
namespace Go.Proofs.Ytffcijddfhhbdaa
open Go.RowKit
set_option maxRecDepth 100000 in
set_option maxHeartbeats 4000000 in
theorem some1_s (g1 g2 : Nat) (pa p1 p2 : Option Addr) (ca c1 c2 : Nat) (t0 t1 t2 t3 t4 t5 t6 : Value) (c : CondD) (has : List Bool) (vals : List V) (hb : has.length ≤ 1048576) (hc : vals.length ≤ 1048576) (px : Option Addr) (cx : Nat) (f : FactD) : Spec Try.prog 21 [.agg #[.int .i64 (f.id), .int .i64 (f.ty), .slice px f.args.length cx], .pointer (some ⟨g1, 0, none⟩), .pointer (some ⟨g2, 0, none⟩)] [.blk g1 [.int .u8 (c.k), .int .i64 (c.ty), .slice pa c.args.length ca, t0, t1, t2, t3, t4, t5, t6] 33, .blk g2 [.slice p1 has.length c1, .slice p2 vals.length c2] 41, .sli 5 aRep pa ca c.args, .sli 1 bRep p1 c1 has, .sli 3 vRep p2 c2 vals, .sli 3 vRep px cx f.args] [] (fun v Φr Hr => ∃ b, v = .bool b ∧ (b = true ↔ Fits c ⟨has, vals⟩ f) ∧ Φr = [] ∧ Hr = []) := by
 refine spec_of Try.func21 rfl Try.ntmps21 rfl (S := [_,_,_]) rfl (fun C => ?_)
 refine wc_seq ?_
 refine wc_region ?_
 refine wl_box rfl rfl rfl (freshS_eq rfl) rfl rfl rfl (fun g3 => ?_)
 refine wl_pure rfl rfl rfl (freshS_eq rfl) rfl ?_
 refine wl_nil ?_
 refine we_then ?_
 refine wc_seq ?_
 refine wc_region ?_
 refine wl_loadF 0 0 rfl rfl rfl (freshS_eq rfl) rfl rfl rfl (cs := [_,_,_,_,_,_,_,_,_,_]) rfl tS_33 tA_33 rfl rfl ?_
 refine wl_loadH 0 0 rfl rfl rfl (freshS_eq rfl) rfl rfl rfl (cs := [_,_,_]) rfl tS_36 tA_36 rfl rfl ?_
 refine wl_loadF 1 0 rfl rfl rfl (freshS_eq rfl) rfl rfl rfl (cs := [_,_]) rfl tS_41 tA_41 rfl rfl ?_
 refine wl_call [] [0] rfl rfl rfl (freshS_eq rfl) rfl rfl fn_7 rfl (Match_s _ _ _ _ _ _ _ _ _ _ _ _ _ _ _ ⟨c.k, c.ty, c.args⟩ ⟨f.id, f.ty, f.args⟩ has vals hb hc) (fun _ _ hφ => ask [2, 5, 3, 4] rfl hφ) rfl (H' := [_]) rfl ?_
 rintro _ _ _ ⟨r11, e11, p11, c11, p11_2, c11_2, rfl, hmr11, rfl, rfl⟩
 refine wl_pure rfl rfl rfl (freshS_eq rfl) rfl ?_
 refine wl_pure rfl rfl rfl (freshS_eq rfl) rfl ?_
 refine wl_pure rfl rfl rfl (freshS_eq rfl) rfl ?_
 refine wl_alloc rfl rfl rfl (freshS_eq rfl) rfl tZ_41 rfl (fun g5 => ?_)
 refine wl_store 0 0 rfl rfl rfl rfl rfl rfl rfl tS_41 rfl rfl rfl (all' := [_,_]) rfl (H' := [_,_,_,_]) rfl ?_
 refine wl_pure rfl rfl rfl (freshS_eq rfl) rfl ?_
 refine wl_nil ?_
 refine we_then ?_
 refine wc_keep [6, 4, 3, 0, 1, 2] (S' := [_,_,_,_,_,_]) rfl ?_
 refine wc_seq ?_
 refine wc_region ?_
 refine wl_pure rfl rfl rfl (freshS_eq rfl) rfl ?_
 refine wl_pure (S' := [_,_,_,_,_,_]) rfl rfl rfl rfl rfl ?_
 refine wl_nil ?_
 refine we_then ?_
 refine wc_keep [4, 6, 3, 0, 1, 2] (S' := [_,_,_,_,_,_]) rfl ?_
 refine wc_ret ?_
 refine ret_one (Hr := []) [] Try.results21 (res_tmp rfl) ?_ (fun _ _ hφ => ask [] rfl hφ) rfl rfl (.inl rfl)
 exact ⟨_, rfl, (hmr11).fits, rfl, rfl⟩

set_option maxRecDepth 100000 in
set_option maxHeartbeats 4000000 in
theorem index_s (g1 g2 : Nat) (pa p1 p2 : Option Addr) (ca c1 c2 : Nat) (t0 t1 t2 t3 t4 t5 t6 : Value) (c : CondD) (has : List Bool) (vals : List V) (hb : has.length ≤ 1048576) (hc : vals.length ≤ 1048576) (p : Option Addr) (cl : Nat) (l : List FactD) : Spec Try.prog 29 [.slice p l.length cl, .func (.func 21) #[] #[.pointer (some ⟨g1, 0, none⟩), .pointer (some ⟨g2, 0, none⟩)]] [.blk g1 [.int .u8 (c.k), .int .i64 (c.ty), .slice pa c.args.length ca, t0, t1, t2, t3, t4, t5, t6] 33, .blk g2 [.slice p1 has.length c1, .slice p2 vals.length c2] 41, .sli 5 aRep pa ca c.args, .sli 1 bRep p1 c1 has, .sli 3 vRep p2 c2 vals, .sli 3 fRep p cl l] [] (fun v Φr Hr => ∃ i, v = .int .i64 i ∧ (0 ≤ i ↔ ∃ f ∈ l, Fits c ⟨has, vals⟩ f) ∧ Φr = [] ∧ Hr = []) := by
 refine spec_of Try.func29 rfl Try.ntmps29 rfl (S := [_,_]) rfl (fun C => ?_)
 refine wc_know (fun F w h => sli_cap (h _ (mem_at (k := 5) rfl))) (fun hcap => ?_)
 refine wc_seq ?_
 refine wc_region ?_
 refine wl_pure rfl rfl rfl (freshS_eq rfl) rfl ?_
 refine wl_nil ?_
 refine we_then ?_
 refine wc_seq ?_
 refine wc_seq ?_
 refine wc_region ?_
 refine wl_pure rfl rfl rfl (freshS_eq rfl) rfl ?_
 refine wl_len rfl rfl rfl (freshS_eq rfl) rfl rfl tE_52 ?_
 refine wl_pure rfl rfl rfl (freshS_eq rfl) rfl ?_
 refine wl_nil ?_
 refine we_then ?_
 refine wc_keep [8, 7, 4, 0, 1] (S' := [_,_,_,_,_]) rfl ?_
 refine wc_block ?_
 refine wc_loop (σ := Nat) (fun s => s ≤ l.length ∧ ∀ f ∈ l.take s, ¬ Fits c ⟨has, vals⟩ f) (fun s => l.length - s) (fun s => [(8, .int .i64 ((s : Nat) : Int)), (7, .int .i64 ((l.length : Nat) : Int)), (4, .int .i64 0), (0, .slice p l.length cl), (1, .func (.func 21) #[] #[.pointer (some ⟨g1, 0, none⟩), .pointer (some ⟨g2, 0, none⟩)])]) (fun s => [.blk g1 [.int .u8 (c.k), .int .i64 (c.ty), .slice pa c.args.length ca, t0, t1, t2, t3, t4, t5, t6] 33, .blk g2 [.slice p1 has.length c1, .slice p2 vals.length c2] 41, .sli 5 aRep pa ca c.args, .sli 1 bRep p1 c1 has, .sli 3 vRep p2 c2 vals, .sli 3 fRep p cl l]) (fun s => []) 0 ⟨by simp, by simp⟩ [8, 7, 4, 0, 1] rfl (fun _ _ hφ => ask [0, 1, 2, 3, 4, 5] rfl hφ) rfl (fun s1 oks1 => ?_)
 refine wc_seq ?_
 refine wc_region ?_
 refine wl_pure rfl rfl rfl (freshS_eq rfl) rfl ?_
 refine wl_nil ?_
 refine we_then ?_
 refine wc_seq ?_
 refine wc_cond rfl (fun h9 => ?_) (fun h9 => ?_)
 ·
  replace h9 := of_decide_eq_true h9
  refine wc_skip ?_
  refine we_then ?_
  refine wc_seq ?_
  refine wc_block ?_
  refine wc_seq ?_
  refine wc_region ?_
  refine wl_pure rfl rfl rfl (freshS_eq rfl) rfl ?_
  refine wl_pure rfl rfl rfl (freshS_eq rfl) rfl ?_
  refine wl_nil ?_
  refine we_then ?_
  refine wc_keep [5, 9, 8, 7, 4, 0, 1] (S' := [_,_,_,_,_,_,_]) rfl ?_
  refine wc_seq ?_
  refine wc_region ?_
  refine wl_pure rfl rfl rfl (freshS_eq rfl) rfl ?_
  refine wl_pure rfl rfl rfl (freshS_eq rfl) rfl ?_
  refine wl_pure rfl rfl rfl (freshS_eq rfl) rfl ?_
  refine wl_index 5 s1 rfl rfl rfl (freshS_eq rfl) rfl rfl rfl rfl rfl (by omega) tE_52 tS_36 (fun b14 q14 cs14 x14 hx14 hlx14 => ?_)
  refine wl_open fRep_opens 1 rfl (fun r14 er14 okx14 => ?_)
  subst er14
  refine wl_load 1 0 rfl rfl rfl (freshS_eq rfl) rfl rfl rfl (cs := [_,_,_]) rfl tS_36 tA_36 rfl rfl ?_
  refine wl_callDyn [] [] rfl rfl rfl (freshS_eq rfl) rfl rfl rfl fn_21 rfl rfl (some1_s _ _ _ _ _ _ _ _ _ _ _ _ _ _ _ c has vals hb hc _ _ x14) (fun _ _ hφ => ask [3, 4, 5, 6, 7, 0] rfl hφ) rfl (H' := []) rfl ?_
  rintro _ _ _ ⟨b16, rfl, hbb16, rfl, rfl⟩
  refine wl_nil ?_
  refine we_then ?_
  refine wc_keep [16, 5, 9, 8, 7, 4, 0, 1] (S' := [_,_,_,_,_,_,_,_]) rfl ?_
  refine wc_cond rfl (fun h16 => ?_) (fun h16 => ?_)
  ·
   refine wc_seq ?_
   refine wc_region ?_
   refine wl_pure rfl rfl rfl (freshS_eq rfl) rfl ?_
   refine wl_pure (S' := [_,_,_,_,_,_,_,_]) rfl rfl rfl rfl rfl ?_
   refine wl_nil ?_
   refine we_then ?_
   refine wc_keep [4, 16, 5, 9, 8, 7, 0, 1] (S' := [_,_,_,_,_,_,_,_]) rfl ?_
   refine wc_ret ?_
   refine we_block_ret ?_
   refine we_then_ret ?_
   refine we_then_ret ?_
   refine we_block_ret ?_
   refine we_then_ret ?_
   refine ret_one (Hr := []) [] Try.results29 (res_tmp rfl) ?_ (fun _ _ hφ => ask [] rfl hφ) rfl rfl (.inl rfl)
   exact ⟨_, rfl, ⟨fun _ => ⟨x14, List.mem_of_getElem? hx14, hbb16.1 h16⟩, fun _ => by omega⟩, rfl, rfl⟩
  ·
   refine wc_skip ?_
   refine we_block_normal ?_
   refine we_then ?_
   refine wc_region ?_
   refine wl_pure rfl rfl rfl (freshS_eq rfl) rfl ?_
   refine wl_as (d := 18) (v' := .int .i64 ((s1 + 1 : Nat) : Int)) (S' := [_,_,_,_,_,_,_,_]) rfl rfl (nat_inc (by omega)) ?_
   refine wl_pure (S' := [_,_,_,_,_,_,_,_]) rfl rfl rfl rfl rfl ?_
   refine wl_nil ?_
   refine we_round (s1 + 1) (by omega) ⟨by omega, none_step oks1.2 hx14 (fun hF => by have hh := hbb16.2 hF; rw [h16] at hh; cases hh)⟩ [8, 7, 4, 0, 1] rfl (fun _ _ hφ => ask [3, 4, 5, 6, 7, 8] rfl hφ) rfl
 ·
  replace h9 := of_decide_eq_false h9
  refine wc_exit ?_
  refine we_then_exit ?_
  refine we_then_exit ?_
  refine we_block_hit ?_
  refine we_then ?_
  refine wc_seq ?_
  refine wc_region ?_
  refine wl_pure (S' := [_,_,_,_,_]) rfl rfl rfl rfl rfl ?_
  refine wl_nil ?_
  refine we_then ?_
  refine wc_ret ?_
  refine ret_one (Hr := []) [] Try.results29 (res_tmp rfl) ?_ (fun _ _ hφ => ask [] rfl hφ) rfl rfl (.inl rfl)
  exact ⟨_, rfl, ⟨fun h => absurd h (by omega), fun h => absurd h (none_fits oks1.2 (by omega))⟩, rfl, rfl⟩

set_option maxRecDepth 100000 in
set_option maxHeartbeats 4000000 in
theorem contains_s (g1 g2 : Nat) (pa p1 p2 : Option Addr) (ca c1 c2 : Nat) (t0 t1 t2 t3 t4 t5 t6 : Value) (c : CondD) (has : List Bool) (vals : List V) (hb : has.length ≤ 1048576) (hc : vals.length ≤ 1048576) (p : Option Addr) (cl : Nat) (l : List FactD) : Spec Try.prog 20 [.slice p l.length cl, .func (.func 21) #[] #[.pointer (some ⟨g1, 0, none⟩), .pointer (some ⟨g2, 0, none⟩)]] [.blk g1 [.int .u8 (c.k), .int .i64 (c.ty), .slice pa c.args.length ca, t0, t1, t2, t3, t4, t5, t6] 33, .blk g2 [.slice p1 has.length c1, .slice p2 vals.length c2] 41, .sli 5 aRep pa ca c.args, .sli 1 bRep p1 c1 has, .sli 3 vRep p2 c2 vals, .sli 3 fRep p cl l] [] (fun v Φr Hr => ∃ b, v = .bool b ∧ (b = true ↔ ∃ f ∈ l, Fits c ⟨has, vals⟩ f) ∧ Φr = [] ∧ Hr = []) := by
 refine spec_of Try.func20 rfl Try.ntmps20 rfl (S := [_,_]) rfl (fun C => ?_)
 refine wc_seq ?_
 refine wc_region ?_
 refine wl_pure rfl rfl rfl (freshS_eq rfl) rfl ?_
 refine wl_nil ?_
 refine we_then ?_
 refine wc_seq ?_
 refine wc_region ?_
 refine wl_pure rfl rfl rfl (freshS_eq rfl) rfl ?_
 refine wl_pure rfl rfl rfl (freshS_eq rfl) rfl ?_
 refine wl_call [] [] rfl rfl rfl (freshS_eq rfl) rfl rfl fn_29 rfl (index_s _ _ _ _ _ _ _ _ _ _ _ _ _ _ _ c has vals hb hc _ _ l) (fun _ _ hφ => ask [0, 1, 2, 3, 4, 5] rfl hφ) rfl (H' := []) rfl ?_
 rintro _ _ _ ⟨n7, rfl, hn7, rfl, rfl⟩
 refine wl_pure rfl rfl rfl (freshS_eq rfl) rfl ?_
 refine wl_pure (S' := [_,_,_,_,_,_]) rfl rfl rfl rfl rfl ?_
 refine wl_nil ?_
 refine we_then ?_
 refine wc_keep [4, 0, 1] (S' := [_,_,_]) rfl ?_
 refine wc_ret ?_
 refine ret_one (Hr := []) [] Try.results20 (res_tmp rfl) ?_ (fun _ _ hφ => ask [] rfl hφ) rfl rfl (.inl rfl)
 exact ⟨_, rfl, by rw [decide_eq_true_iff]; exact hn7, rfl, rfl⟩

set_option maxRecDepth 100000 in
set_option maxHeartbeats 4000000 in
theorem some_s (pa p1 p2 : Option Addr) (ca c1 c2 : Nat) (t0 t1 t2 t3 t4 t5 t6 : Value) (c : CondD) (has : List Bool) (vals : List V) (hb : has.length ≤ 1048576) (hc : vals.length ≤ 1048576) (p : Option Addr) (cl : Nat) (l : List FactD) : Spec Try.prog 10 [.agg #[.int .u8 (c.k), .int .i64 (c.ty), .slice pa c.args.length ca, t0, t1, t2, t3, t4, t5, t6], .agg #[.slice p1 has.length c1, .slice p2 vals.length c2], .slice p l.length cl] [.sli 5 aRep pa ca c.args, .sli 1 bRep p1 c1 has, .sli 3 vRep p2 c2 vals, .sli 3 fRep p cl l] [] (fun v Φr Hr => ∃ b, v = .bool b ∧ (b = true ↔ ∃ f ∈ l, Fits c ⟨has, vals⟩ f) ∧ Φr = [] ∧ Hr = []) := by
 refine spec_of Try.func10 rfl Try.ntmps10 rfl (S := [_,_,_]) rfl (fun C => ?_)
 refine wc_seq ?_
 refine wc_region ?_
 refine wl_box rfl rfl rfl (freshS_eq rfl) rfl rfl rfl (fun g3 => ?_)
 refine wl_box rfl rfl rfl (freshS_eq rfl) rfl rfl rfl (fun g4 => ?_)
 refine wl_pure rfl rfl rfl (freshS_eq rfl) rfl ?_
 refine wl_nil ?_
 refine we_then ?_
 refine wc_seq ?_
 refine wc_region ?_
 refine wl_pure rfl rfl rfl (freshS_eq rfl) rfl ?_
 refine wl_makeFunc rfl rfl rfl (freshS_eq rfl) rfl rfl ?_
 refine wl_lend [] [0, 1] [0, 1] rfl rfl rfl (freshS_eq rfl) rfl rfl fn_20 rfl (contains_s _ _ _ _ _ _ _ _ _ _ _ _ _ _ _ c has vals hb hc _ _ l) (fun F w hφ hh => (ask_cons (hh _ (mem_at (k := 1) rfl)) (ask_cons (hh _ (mem_at (k := 0) rfl)) (ask_cons (hφ _ (mem_at (k := 0) rfl)) (ask_cons (hφ _ (mem_at (k := 1) rfl)) (ask_cons (hφ _ (mem_at (k := 2) rfl)) (ask_cons (hφ _ (mem_at (k := 3) rfl)) ask_nil))))))) (fun _ _ _ hR => by rcases hR with ⟨b9, rfl, hbb9, rfl, rfl⟩ <;> exact ⟨rfl, by simp [own_free, blk_free, vRep_free, bRep_free, iRep_free, aRep_free]⟩) rfl rfl (H' := [_,_]) rfl ?_
 rintro _ _ _ ⟨b9, rfl, hbb9, rfl, rfl⟩
 refine wl_pure (S' := [_,_,_,_,_,_,_,_]) rfl rfl rfl rfl rfl ?_
 refine wl_nil ?_
 refine we_then ?_
 refine wc_keep [6, 4, 3, 0, 1, 2] (S' := [_,_,_,_,_,_]) rfl ?_
 refine wc_ret ?_
 refine ret_one (Hr := []) [] Try.results10 (res_tmp rfl) ?_ (fun _ _ hφ => ask [] rfl hφ) rfl rfl (.inl rfl)
 exact ⟨_, rfl, hbb9, rfl, rfl⟩

end Go.Proofs.Ytffcijddfhhbdaa
