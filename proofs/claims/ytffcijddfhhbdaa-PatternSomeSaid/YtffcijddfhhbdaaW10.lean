/- Walks, printed by a program out of the loaded code (wip/sep). -/
import Derived.Test.YtffcijddfhhbdaaW9
namespace Go.Proofs.Ytffcijddfhhbdaa
open Go.RowKit
set_option maxRecDepth 100000 in
set_option maxHeartbeats 4000000 in
theorem markFact_s (k i : Nat) (hk : k ≤ 1000) (hi : i ≤ 1000000) : Spec Try.prog 19 [.int .i64 ((k : Nat) : Int), .int .i64 ((i : Nat) : Int)] [] [] (fun v Φr Hr => v = .agg #[.int .i64 (markF k i).id, .int .i64 0, .slice none 0 0] ∧ Φr = [] ∧ Hr = []) := by
 refine spec_of Try.func19 rfl Try.ntmps19 rfl (S := [_,_]) rfl (fun C => ?_)
 refine wc_seq ?_
 refine wc_region ?_
 refine wl_alloc rfl rfl rfl (freshS_eq rfl) rfl tZ_36 rfl (fun g4 => ?_)
 refine wl_nil ?_
 refine we_then ?_
 refine wc_seq ?_
 refine wc_region ?_
 refine wl_pure rfl rfl rfl (freshS_eq rfl) rfl ?_
 refine wl_pure rfl rfl rfl (freshS_eq rfl) rfl ?_
 refine wl_call [] [0] rfl rfl rfl (freshS_eq rfl) rfl rfl fn_28 rfl (mark_s k i hk hi) (fun _ _ hφ => ask [] rfl hφ) rfl (H' := [_]) rfl ?_
 rintro _ _ _ ⟨rfl, rfl, rfl⟩
 refine wl_build rfl rfl rfl (freshS_eq rfl) rfl tZ_36 tP_36 rfl (out := [_,_,_]) rfl ?_
 refine wl_store 0 0 rfl rfl rfl rfl rfl rfl rfl tS_36 rfl rfl rfl (all' := [_,_,_]) rfl (H' := [_]) rfl ?_
 refine wl_nil ?_
 refine we_then ?_
 refine wc_keep [4, 0, 1] (S' := [_,_,_]) rfl ?_
 refine wc_ret ?_
 refine ret_one (Hr := []) [] Try.results19 (res_cell 0 rfl rfl tS_36 tA_36 rfl rfl) ?_ (fun _ _ hφ => ask [] rfl hφ) rfl rfl (.inl rfl)
 exact ⟨rfl, rfl, rfl⟩

set_option maxRecDepth 100000 in
set_option maxHeartbeats 4000000 in
theorem lentFact_s (p : Option Addr) (c : Nat) (f : FactD) (hb : f.args.length ≤ 1048576) : Spec Try.prog 18 [.agg #[.int .i64 (f.id), .int .i64 (f.ty), .slice p f.args.length c]] [.sli 3 vRep p c f.args] [] (fun v Φr Hr => ∃ p c, v = .agg #[.int .i64 f.id, .int .i64 f.ty, .slice p f.args.length c] ∧ Φr = [.sli 3 vRep p c (f.args ++ marksV 1 12)] ∧ Hr = []) := by
 refine spec_of Try.func18 rfl Try.ntmps18 rfl (S := [_]) rfl (fun C => ?_)
 refine wc_seq ?_
 refine wc_region ?_
 refine wl_box rfl rfl rfl (freshS_eq rfl) rfl rfl rfl (fun g1 => ?_)
 refine wl_alloc rfl rfl rfl (freshS_eq rfl) rfl tZ_36 rfl (fun g2 => ?_)
 refine wl_nil ?_
 refine we_then ?_
 refine wc_seq ?_
 refine wc_region ?_
 refine wl_fieldAddr rfl rfl rfl (freshS_eq rfl) rfl rfl tF_36_2 ?_
 refine wl_loadH 1 2 rfl rfl rfl (freshS_eq rfl) rfl rfl rfl (cs := [_]) rfl tS_34 tA_34 rfl rfl ?_
 refine wl_call [] [0, 1] rfl rfl rfl (freshS_eq rfl) rfl rfl fn_27 rfl (lentValues_s _ _ f.args hb) (fun _ _ hφ => ask [0] rfl hφ) rfl (H' := [_,_]) rfl ?_
 rintro _ _ _ ⟨p5, c5, rfl, rfl, rfl⟩
 refine wl_fieldAddr rfl rfl rfl (freshS_eq rfl) rfl rfl tF_36_2 ?_
 refine wl_store 1 2 rfl rfl rfl rfl rfl rfl rfl tS_34 rfl rfl rfl (all' := [_,_,_]) rfl (H' := [_,_]) rfl ?_
 refine wl_nil ?_
 refine we_then ?_
 refine wc_keep [2, 1, 0] (S' := [_,_,_]) rfl ?_
 refine wc_seq ?_
 refine wc_region ?_
 refine wl_loadH 1 0 rfl rfl rfl (freshS_eq rfl) rfl rfl rfl (cs := [_,_,_]) rfl tS_36 tA_36 rfl rfl ?_
 refine wl_store 0 0 rfl rfl rfl rfl rfl rfl rfl tS_36 rfl rfl rfl (all' := [_,_,_]) rfl (H' := [_,_]) rfl ?_
 refine wl_nil ?_
 refine we_then ?_
 refine wc_keep [2, 1, 0] (S' := [_,_,_]) rfl ?_
 refine wc_ret ?_
 refine ret_one (Hr := []) [] Try.results18 (res_cell 0 rfl rfl tS_36 tA_36 rfl rfl) ?_ (fun _ _ hφ => ask [0] rfl hφ) rfl rfl (.inl rfl)
 exact ⟨_, _, rfl, rfl, rfl⟩

set_option maxRecDepth 100000 in
set_option maxHeartbeats 4000000 in
theorem sameFact_s (p q : Option Addr) (c d : Nat) (f g : FactD) : Spec Try.prog 24 [.agg #[.int .i64 (f.id), .int .i64 (f.ty), .slice p f.args.length c], .agg #[.int .i64 (g.id), .int .i64 (g.ty), .slice q g.args.length d]] [.sli 3 vRep p c f.args, .sli 3 vRep q d g.args] [] (fun v Φr Hr => ∃ b, v = .bool b ∧ (b = true ↔ f = g) ∧ Φr = [] ∧ Hr = []) := by
 refine spec_of Try.func24 rfl Try.ntmps24 rfl (S := [_,_]) rfl (fun C => ?_)
 refine wc_seq ?_
 refine wc_region ?_
 refine wl_box rfl rfl rfl (freshS_eq rfl) rfl rfl rfl (fun g2 => ?_)
 refine wl_box rfl rfl rfl (freshS_eq rfl) rfl rfl rfl (fun g3 => ?_)
 refine wl_pure rfl rfl rfl (freshS_eq rfl) rfl ?_
 refine wl_nil ?_
 refine we_then ?_
 refine wc_seq ?_
 refine wc_region ?_
 refine wl_fieldAddr rfl rfl rfl (freshS_eq rfl) rfl rfl tF_36_0 ?_
 refine wl_loadH 1 0 rfl rfl rfl (freshS_eq rfl) rfl rfl rfl (cs := [_]) rfl tS_3 tA_3 rfl rfl ?_
 refine wl_fieldAddr rfl rfl rfl (freshS_eq rfl) rfl rfl tF_36_0 ?_
 refine wl_loadH 0 0 rfl rfl rfl (freshS_eq rfl) rfl rfl rfl (cs := [_]) rfl tS_3 tA_3 rfl rfl ?_
 refine wl_pure rfl rfl rfl (freshS_eq rfl) rfl ?_
 refine wl_pure rfl rfl rfl (freshS_eq rfl) rfl ?_
 refine wl_split (d := 10) (S' := [_,_,_,_,_,_,_,_,_,_]) rfl rfl (fun h10 => ?_) (fun h10 => ?_)
 ·
  replace h10 := eq_of_beq h10
  refine wl_fieldAddr rfl rfl rfl (freshS_eq rfl) rfl rfl tF_36_1 ?_
  refine wl_loadH 1 1 rfl rfl rfl (freshS_eq rfl) rfl rfl rfl (cs := [_]) rfl tS_3 tA_3 rfl rfl ?_
  refine wl_fieldAddr rfl rfl rfl (freshS_eq rfl) rfl rfl tF_36_1 ?_
  refine wl_loadH 0 1 rfl rfl rfl (freshS_eq rfl) rfl rfl rfl (cs := [_]) rfl tS_3 tA_3 rfl rfl ?_
  refine wl_pure rfl rfl rfl (freshS_eq rfl) rfl ?_
  refine wl_pure rfl rfl rfl (freshS_eq rfl) rfl ?_
  refine wl_pure rfl rfl rfl (freshS_eq rfl) rfl ?_
  refine wl_split (d := 17) (S' := [_,_,_,_,_,_,_,_,_,_,_,_,_,_,_,_,_]) rfl rfl (fun h17 => ?_) (fun h17 => ?_)
  ·
   replace h17 := eq_of_beq h17
   refine wl_fieldAddr rfl rfl rfl (freshS_eq rfl) rfl rfl tF_36_2 ?_
   refine wl_loadH 1 2 rfl rfl rfl (freshS_eq rfl) rfl rfl rfl (cs := [_]) rfl tS_34 tA_34 rfl rfl ?_
   refine wl_fieldAddr rfl rfl rfl (freshS_eq rfl) rfl rfl tF_36_2 ?_
   refine wl_loadH 0 2 rfl rfl rfl (freshS_eq rfl) rfl rfl rfl (cs := [_]) rfl tS_34 tA_34 rfl rfl ?_
   refine wl_call [] [0, 1] rfl rfl rfl (freshS_eq rfl) rfl rfl fn_8 rfl (SameValues_s _ _ _ _ f.args g.args) (fun _ _ hφ => ask [0, 1] rfl hφ) rfl (H' := [_,_]) rfl ?_
   rintro _ _ _ ⟨rfl, rfl, rfl⟩
   refine wl_pure rfl rfl rfl (freshS_eq rfl) rfl ?_
   refine wl_pure (S' := [_,_,_,_,_,_,_,_,_,_,_,_,_,_,_,_,_,_,_,_,_,_,_]) rfl rfl rfl rfl rfl ?_
   refine wl_nil ?_
   refine we_then ?_
   refine wc_keep [4, 3, 2, 0, 1] (S' := [_,_,_,_,_]) rfl ?_
   refine wc_ret ?_
   refine ret_one (Hr := []) [] Try.results24 (res_tmp rfl) ?_ (fun _ _ hφ => ask [] rfl hφ) rfl rfl (.inl rfl)
   exact ⟨_, rfl, by rw [decide_eq_true_iff]; exact fact_eq h10 h17, rfl, rfl⟩
  ·
   replace h17 := ne_of_beq_false h17
   refine wl_off rfl rfl rfl (freshS_eq rfl) ?_
   refine wl_off rfl rfl rfl (freshS_eq rfl) ?_
   refine wl_off rfl rfl rfl (freshS_eq rfl) ?_
   refine wl_off rfl rfl rfl (freshS_eq rfl) ?_
   refine wl_off rfl rfl rfl (freshS_eq rfl) ?_
   refine wl_pure rfl rfl rfl (freshS_eq rfl) rfl ?_
   refine wl_pure (S' := [_,_,_,_,_,_,_,_,_,_,_,_,_,_,_,_,_,_,_,_,_,_,_]) rfl rfl rfl rfl rfl ?_
   refine wl_nil ?_
   refine we_then ?_
   refine wc_keep [4, 3, 2, 0, 1] (S' := [_,_,_,_,_]) rfl ?_
   refine wc_ret ?_
   refine ret_one (Hr := []) [] Try.results24 (res_tmp rfl) ?_ (fun _ _ hφ => ask [] rfl hφ) rfl rfl (.inl rfl)
   exact ⟨false, rfl, by simp; exact fun e => h17 (by rw [e]), rfl, rfl⟩
 ·
  replace h10 := ne_of_beq_false h10
  refine wl_off rfl rfl rfl (freshS_eq rfl) ?_
  refine wl_off rfl rfl rfl (freshS_eq rfl) ?_
  refine wl_off rfl rfl rfl (freshS_eq rfl) ?_
  refine wl_off rfl rfl rfl (freshS_eq rfl) ?_
  refine wl_off rfl rfl rfl (freshS_eq rfl) ?_
  refine wl_pure rfl rfl rfl (freshS_eq rfl) rfl ?_
  refine wl_pure rfl rfl rfl (freshS_eq rfl) rfl ?_
  refine wl_off rfl rfl rfl (freshS_eq rfl) ?_
  refine wl_off rfl rfl rfl (freshS_eq rfl) ?_
  refine wl_off rfl rfl rfl (freshS_eq rfl) ?_
  refine wl_off rfl rfl rfl (freshS_eq rfl) ?_
  refine wl_off rfl rfl rfl (freshS_eq rfl) ?_
  refine wl_pure rfl rfl rfl (freshS_eq rfl) rfl ?_
  refine wl_pure (S' := [_,_,_,_,_,_,_,_,_,_,_,_,_,_,_,_,_,_,_,_,_,_,_]) rfl rfl rfl rfl rfl ?_
  refine wl_nil ?_
  refine we_then ?_
  refine wc_keep [4, 3, 2, 0, 1] (S' := [_,_,_,_,_]) rfl ?_
  refine wc_ret ?_
  refine ret_one (Hr := []) [] Try.results24 (res_tmp rfl) ?_ (fun _ _ hφ => ask [] rfl hφ) rfl rfl (.inl rfl)
  exact ⟨false, rfl, by simp; exact fun e => h10 (by rw [e]), rfl, rfl⟩

set_option maxRecDepth 100000 in
set_option maxHeartbeats 4000000 in
theorem keptFact_s (p q : Option Addr) (c d : Nat) (f g : FactD) : Spec Try.prog 23 [.agg #[.int .i64 (f.id), .int .i64 (f.ty), .slice p f.args.length c], .agg #[.int .i64 (g.id), .int .i64 (g.ty), .slice q g.args.length d]] [.sli 3 vRep p c (f.args ++ marksV 1 12), .sli 3 vRep q d g.args] [] (fun v Φr Hr => ∃ b, v = .bool b ∧ (b = true ↔ f = g) ∧ Φr = [] ∧ Hr = []) := by
 refine spec_of Try.func23 rfl Try.ntmps23 rfl (S := [_,_]) rfl (fun C => ?_)
 refine wc_seq ?_
 refine wc_region ?_
 refine wl_box rfl rfl rfl (freshS_eq rfl) rfl rfl rfl (fun g2 => ?_)
 refine wl_box rfl rfl rfl (freshS_eq rfl) rfl rfl rfl (fun g3 => ?_)
 refine wl_pure rfl rfl rfl (freshS_eq rfl) rfl ?_
 refine wl_nil ?_
 refine we_then ?_
 refine wc_seq ?_
 refine wc_region ?_
 refine wl_loadH 1 0 rfl rfl rfl (freshS_eq rfl) rfl rfl rfl (cs := [_,_,_]) rfl tS_36 tA_36 rfl rfl ?_
 refine wl_loadH 0 0 rfl rfl rfl (freshS_eq rfl) rfl rfl rfl (cs := [_,_,_]) rfl tS_36 tA_36 rfl rfl ?_
 refine wl_lend [] [0, 1] [] rfl rfl rfl (freshS_eq rfl) rfl rfl fn_24 rfl (sameFact_s _ _ _ _ f g) (fun F w hφ hh => (ask_cons (sli_pre (hφ _ (mem_at (k := 0) rfl))) (ask_cons (hφ _ (mem_at (k := 1) rfl)) ask_nil))) (fun _ _ _ hR => by rcases hR with ⟨b7, rfl, hbb7, rfl, rfl⟩ <;> exact ⟨rfl, by simp [own_free, blk_free, vRep_free, bRep_free, iRep_free, aRep_free]⟩) rfl rfl (H' := [_,_]) rfl ?_
 rintro _ _ _ ⟨b7, rfl, hbb7, rfl, rfl⟩
 refine wl_pure rfl rfl rfl (freshS_eq rfl) rfl ?_
 refine wl_split (d := 8) (S' := [_,_,_,_,_,_,_,_]) rfl rfl (fun h8 => ?_) (fun h8 => ?_)
 ·
  refine wl_fieldAddr rfl rfl rfl (freshS_eq rfl) rfl rfl tF_36_2 ?_
  refine wl_loadH 1 2 rfl rfl rfl (freshS_eq rfl) rfl rfl rfl (cs := [_]) rfl tS_34 tA_34 rfl rfl ?_
  refine wl_fieldAddr rfl rfl rfl (freshS_eq rfl) rfl rfl tF_36_2 ?_
  refine wl_loadH 0 2 rfl rfl rfl (freshS_eq rfl) rfl rfl rfl (cs := [_]) rfl tS_34 tA_34 rfl rfl ?_
  refine wl_call [] [0, 1] rfl rfl rfl (freshS_eq rfl) rfl rfl fn_31 rfl (keptValues_s _ _ _ _ f.args g.args) (fun _ _ hφ => ask [0, 1] rfl hφ) rfl (H' := [_,_]) rfl ?_
  rintro _ _ _ ⟨rfl, rfl, rfl⟩
  refine wl_pure rfl rfl rfl (freshS_eq rfl) rfl ?_
  refine wl_pure (S' := [_,_,_,_,_,_,_,_,_,_,_,_,_,_]) rfl rfl rfl rfl rfl ?_
  refine wl_nil ?_
  refine we_then ?_
  refine wc_keep [4, 3, 2, 0, 1] (S' := [_,_,_,_,_]) rfl ?_
  refine wc_ret ?_
  refine ret_one (Hr := []) [] Try.results23 (res_tmp rfl) ?_ (fun _ _ hφ => ask [] rfl hφ) rfl rfl (.inl rfl)
  exact ⟨_, rfl, by rw [decide_eq_true_iff]; exact ⟨fun _ => hbb7.1 h8, fun e => by rw [e]⟩, rfl, rfl⟩
 ·
  refine wl_off rfl rfl rfl (freshS_eq rfl) ?_
  refine wl_off rfl rfl rfl (freshS_eq rfl) ?_
  refine wl_off rfl rfl rfl (freshS_eq rfl) ?_
  refine wl_off rfl rfl rfl (freshS_eq rfl) ?_
  refine wl_off rfl rfl rfl (freshS_eq rfl) ?_
  refine wl_pure rfl rfl rfl (freshS_eq rfl) rfl ?_
  refine wl_pure (S' := [_,_,_,_,_,_,_,_,_,_,_,_,_,_]) rfl rfl rfl rfl rfl ?_
  refine wl_nil ?_
  refine we_then ?_
  refine wc_keep [4, 3, 2, 0, 1] (S' := [_,_,_,_,_]) rfl ?_
  refine wc_ret ?_
  refine ret_one (Hr := []) [] Try.results23 (res_tmp rfl) ?_ (fun _ _ hφ => ask [] rfl hφ) rfl rfl (.inl rfl)
  exact ⟨false, rfl, by simp; exact fun e => (by have := hbb7.2 e; rw [h8] at this; cases this), rfl, rfl⟩

end Go.Proofs.Ytffcijddfhhbdaa
