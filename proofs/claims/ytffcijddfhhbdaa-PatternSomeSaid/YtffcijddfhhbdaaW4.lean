/- Walks, printed by a program out of the loaded code (wip/sep). -/
import Derived.Test.YtffcijddfhhbdaaW3
namespace Go.Proofs.Ytffcijddfhhbdaa
open Go.RowKit
set_option maxRecDepth 100000 in
set_option maxHeartbeats 4000000 in
theorem num_s (n : Int) : Spec Try.prog 13 [.int .i64 n] [] [] (fun v Φr Hr => v = .agg #[.int .u8 1, .int .i64 n, .string ⟨#[]⟩] ∧ Φr = [] ∧ Hr = []) := by
 refine spec_of Try.func13 rfl Try.ntmps13 rfl (S := [_]) rfl (fun C => ?_)
 refine wc_seq ?_
 refine wc_region ?_
 refine wl_alloc rfl rfl rfl (freshS_eq rfl) rfl tZ_27 rfl (fun g2 => ?_)
 refine wl_nil ?_
 refine we_then ?_
 refine wc_seq ?_
 refine wc_region ?_
 refine wl_pure rfl rfl rfl (freshS_eq rfl) rfl ?_
 refine wl_build rfl rfl rfl (freshS_eq rfl) rfl tZ_27 tP_27 rfl (out := [_,_,_]) rfl ?_
 refine wl_store 0 0 rfl rfl rfl rfl rfl rfl rfl tS_27 rfl rfl rfl (all' := [_,_,_]) rfl (H' := [_]) rfl ?_
 refine wl_nil ?_
 refine we_then ?_
 refine wc_keep [2, 0] (S' := [_,_]) rfl ?_
 refine wc_ret ?_
 refine ret_one (Hr := []) [] Try.results13 (res_cell 0 rfl rfl tS_27 tA_27 rfl rfl) ?_ (fun _ _ hφ => ask [] rfl hφ) rfl rfl (.inl rfl)
 exact ⟨rfl, rfl, rfl⟩

set_option maxRecDepth 100000 in
set_option maxHeartbeats 4000000 in
theorem New_s (n : Int) : Spec Try.prog 14 [.int .i64 n] [] [] (fun v Φr Hr => ∃ p1 c1 p2 c2, v = .agg #[.slice p1 (newOf n).has.length c1, .slice p2 (newOf n).vals.length c2] ∧ Φr = [] ∧ Hr = [.own 27 3 vRep (.slice p2 (newOf n).vals.length c2) (newOf n).vals, .own 4 1 bRep (.slice p1 (newOf n).has.length c1) (newOf n).has]) := by
 refine spec_of Try.func14 rfl Try.ntmps14 rfl (S := [_]) rfl (fun C => ?_)
 refine wc_seq ?_
 refine wc_region ?_
 refine wl_alloc rfl rfl rfl (freshS_eq rfl) rfl tZ_41 rfl (fun g2 => ?_)
 refine wl_nil ?_
 refine we_then ?_
 refine wc_seq ?_
 refine wc_seq ?_
 refine wc_region ?_
 refine wl_pure rfl rfl rfl (freshS_eq rfl) rfl ?_
 refine wl_pure rfl rfl rfl (freshS_eq rfl) rfl ?_
 refine wl_pure rfl rfl rfl (freshS_eq rfl) rfl ?_
 refine wl_split (d := 5) (S' := [_,_,_,_]) rfl rfl (fun h5 => ?_) (fun h5 => ?_)
 ·
  replace h5 := of_decide_eq_true h5
  refine wl_off rfl rfl rfl (freshS_eq rfl) ?_
  refine wl_off rfl rfl rfl (freshS_eq rfl) ?_
  refine wl_pure rfl rfl rfl (freshS_eq rfl) rfl ?_
  refine wl_nil ?_
  refine we_then ?_
  refine wc_keep [8, 2, 0] (S' := [_,_,_]) rfl ?_
  refine wc_true rfl ?_
  refine wc_rowNil 4 1 bRep ?_
  refine wc_rowNil 27 3 vRep ?_
  refine wc_seq ?_
  refine wc_region ?_
  refine wl_build rfl rfl rfl (freshS_eq rfl) rfl tZ_41 tP_41 rfl (out := [_,_]) rfl ?_
  refine wl_store 2 0 rfl rfl rfl rfl rfl rfl rfl tS_41 rfl rfl rfl (all' := [_,_]) rfl (H' := [_,_,_]) rfl ?_
  refine wl_nil ?_
  refine we_then ?_
  refine wc_keep [8, 2, 0] (S' := [_,_,_]) rfl ?_
  refine wc_ret ?_
  refine we_then_ret ?_
  refine ret_one (Hr := [.own 27 3 vRep (.slice none 0 0) [], .own 4 1 bRep (.slice none 0 0) []]) [0, 1] Try.results14 (res_cell 2 rfl rfl tS_41 tA_41 rfl rfl) ?_ (fun _ _ hφ => ask [] rfl hφ) rfl rfl (.inl rfl)
  exact ⟨none, 0, none, 0, by rw [newOf_no (by omega)]; rfl, rfl, by rw [newOf_no (by omega)]; rfl⟩
 ·
  replace h5 := of_decide_eq_false h5
  refine wl_pure rfl rfl rfl (freshS_eq rfl) rfl ?_
  refine wl_pure rfl rfl rfl (freshS_eq rfl) rfl ?_
  refine wl_pure rfl rfl rfl (freshS_eq rfl) rfl ?_
  refine wl_nil ?_
  refine we_then ?_
  refine wc_keep [8, 2, 0] (S' := [_,_,_]) rfl ?_
  refine wc_cond rfl (fun h8 => ?_) (fun h8 => ?_)
  ·
   replace h8 := of_decide_eq_true h8
   refine wc_rowNil 4 1 bRep ?_
   refine wc_rowNil 27 3 vRep ?_
   refine wc_seq ?_
   refine wc_region ?_
   refine wl_build rfl rfl rfl (freshS_eq rfl) rfl tZ_41 tP_41 rfl (out := [_,_]) rfl ?_
   refine wl_store 2 0 rfl rfl rfl rfl rfl rfl rfl tS_41 rfl rfl rfl (all' := [_,_]) rfl (H' := [_,_,_]) rfl ?_
   refine wl_nil ?_
   refine we_then ?_
   refine wc_keep [8, 2, 0] (S' := [_,_,_]) rfl ?_
   refine wc_ret ?_
   refine we_then_ret ?_
   refine ret_one (Hr := [.own 27 3 vRep (.slice none 0 0) [], .own 4 1 bRep (.slice none 0 0) []]) [0, 1] Try.results14 (res_cell 2 rfl rfl tS_41 tA_41 rfl rfl) ?_ (fun _ _ hφ => ask [] rfl hφ) rfl rfl (.inl rfl)
   exact ⟨none, 0, none, 0, by rw [newOf_no (by omega)]; rfl, rfl, by rw [newOf_no (by omega)]; rfl⟩
  ·
   replace h8 := of_decide_eq_false h8
   refine wc_skip ?_
   refine we_then ?_
   refine wc_seq ?_
   refine wc_cut (σ := Nat × Nat) (fun (g11, g13) => True) (fun (g11, g13) => [(8, .bool (decide (n > 16))), (2, .pointer (some ⟨g2, 0, none⟩)), (0, .int .i64 n)]) (fun (g11, g13) => []) (fun (g11, g13) => [.own 27 3 vRep (.slice (some ⟨g13, 0, none⟩) n.toNat n.toNat) (List.replicate n.toNat V.zero), .own 4 1 bRep (.slice (some ⟨g11, 0, none⟩) n.toNat n.toNat) (List.replicate n.toNat false), .blk g2 [.slice (some ⟨g11, 0, none⟩) n.toNat n.toNat, .slice (some ⟨g13, 0, none⟩) n.toNat n.toNat] 41]) ?_ ?_
   ·
    refine wc_draw [0, 2, 4] rfl rfl (fun hok => ?_)
    refine wx_pure hok 0 rfl rfl rfl (freshS_eq rfl) rfl rfl ?_
    refine wx_pure hok 2 rfl rfl rfl (freshS_eq rfl) rfl rfl ?_
    refine wx_step2 hok 1 3 rfl rfl rfl rfl rfl rfl ?_ ?_
    ·
     refine wl_makeSlice (m := n.toNat) bRep false rfl rfl rfl (freshS_eq rfl) rfl rfl rfl (by omega) (by omega) tE_37 tR_4 rfl rfl (fun _ _ => rfl) (by omega) (by omega) (fun g11 => ?_)
     refine wl_nil ?_
     refine we_x [] [] rfl rfl ?_
     refine wx_step1 hok 3 rfl rfl rfl rfl ?_
     refine wl_makeSlice (m := n.toNat) vRep V.zero rfl rfl rfl (freshS_eq rfl) rfl rfl rfl (by omega) (by omega) tE_34 tR_27 rfl rfl (fun _ _ => ⟨rfl, by simp [V.ok, V.zero, inB, inI]⟩) (by omega) (by omega) (fun g13 => ?_)
     refine wl_nil ?_
     refine we_x [] [] rfl rfl ?_
     refine wx_build hok 4 rfl rfl rfl (freshS_eq rfl) rfl rfl tZ_41 tP_41 rfl (out := [_,_]) rfl ?_
     refine wx_step1 hok 5 rfl rfl rfl rfl ?_
     refine wl_store 2 0 rfl rfl rfl rfl rfl rfl rfl tS_41 rfl rfl rfl (all' := [_,_]) rfl (H' := [_,_,_]) rfl ?_
     refine wl_nil ?_
     refine we_x [] [] rfl rfl ?_
     refine wx_done hok rfl ?_
     refine we_join (g11, g13) trivial [8, 2, 0] rfl (fun _ _ hφ => ask [] rfl hφ) rfl
    ·
     refine wl_makeSlice (m := n.toNat) vRep V.zero rfl rfl rfl (freshS_eq rfl) rfl rfl rfl (by omega) (by omega) tE_34 tR_27 rfl rfl (fun _ _ => ⟨rfl, by simp [V.ok, V.zero, inB, inI]⟩) (by omega) (by omega) (fun g13 => ?_)
     refine wl_nil ?_
     refine we_x [] [] rfl rfl ?_
     refine wx_step1 hok 1 rfl rfl rfl rfl ?_
     refine wl_makeSlice (m := n.toNat) bRep false rfl rfl rfl (freshS_eq rfl) rfl rfl rfl (by omega) (by omega) tE_37 tR_4 rfl rfl (fun _ _ => rfl) (by omega) (by omega) (fun g11 => ?_)
     refine wl_nil ?_
     refine we_x [] [] rfl rfl ?_
     refine wx_build hok 4 rfl rfl rfl (freshS_eq rfl) rfl rfl tZ_41 tP_41 rfl (out := [_,_]) rfl ?_
     refine wx_step1 hok 5 rfl rfl rfl rfl ?_
     refine wl_store 2 0 rfl rfl rfl rfl rfl rfl rfl tS_41 rfl rfl rfl (all' := [_,_]) rfl (H' := [_,_,_]) rfl ?_
     refine wl_nil ?_
     refine we_x [] [] rfl rfl ?_
     refine wx_done hok rfl ?_
     refine we_pick [1, 0, 2] rfl (H' := [_,_,_]) rfl ?_
     refine we_join (g11, g13) trivial [8, 2, 0] rfl (fun _ _ hφ => ask [] rfl hφ) rfl
   ·
    rintro ⟨g11, g13⟩ _
    try dsimp only
    refine wc_ret ?_
    refine ret_one (Hr := [.own 27 3 vRep (.slice (some ⟨g13, 0, none⟩) n.toNat n.toNat) (List.replicate n.toNat V.zero), .own 4 1 bRep (.slice (some ⟨g11, 0, none⟩) n.toNat n.toNat) (List.replicate n.toNat false)]) [0, 1] Try.results14 (res_cell 2 rfl rfl tS_41 tA_41 rfl rfl) ?_ (fun _ _ hφ => ask [] rfl hφ) rfl rfl (.inl rfl)
    exact ⟨(some ⟨g11, 0, none⟩), n.toNat, (some ⟨g13, 0, none⟩), n.toNat, by rw [newOf_yes (by omega)]; simp, rfl, by rw [newOf_yes (by omega)]; simp⟩

set_option maxRecDepth 100000 in
set_option maxHeartbeats 4000000 in
theorem rmade_s (p1 p2 : Option Addr) (c1 c2 : Nat) (has : List Bool) (vals : List V) : Spec Try.prog 30 [.agg #[.slice p1 has.length c1, .slice p2 vals.length c2]] [.sli 1 bRep p1 c1 has, .sli 3 vRep p2 c2 vals] [] (fun v Φr Hr => ∃ b, v = .bool b ∧ (b = true ↔ Made has vals) ∧ Φr = [] ∧ Hr = []) := by
 refine spec_of Try.func30 rfl Try.ntmps30 rfl (S := [_]) rfl (fun C => ?_)
 refine wc_know (fun F w h => sli_cap (h _ (mem_at (k := 0) rfl))) (fun hcap => ?_)
 refine wc_seq ?_
 refine wc_region ?_
 refine wl_box rfl rfl rfl (freshS_eq rfl) rfl rfl rfl (fun g1 => ?_)
 refine wl_pure rfl rfl rfl (freshS_eq rfl) rfl ?_
 refine wl_nil ?_
 refine we_then ?_
 refine wc_seq ?_
 refine wc_seq ?_
 refine wc_region ?_
 refine wl_fieldAddr rfl rfl rfl (freshS_eq rfl) rfl rfl tF_56_0 ?_
 refine wl_loadH 0 0 rfl rfl rfl (freshS_eq rfl) rfl rfl rfl (cs := [_]) rfl tS_37 tA_37 rfl rfl ?_
 refine wl_len rfl rfl rfl (freshS_eq rfl) rfl rfl tE_37 ?_
 refine wl_fieldAddr rfl rfl rfl (freshS_eq rfl) rfl rfl tF_56_1 ?_
 refine wl_loadH 0 1 rfl rfl rfl (freshS_eq rfl) rfl rfl rfl (cs := [_]) rfl tS_34 tA_34 rfl rfl ?_
 refine wl_len rfl rfl rfl (freshS_eq rfl) rfl rfl tE_34 ?_
 refine wl_pure rfl rfl rfl (freshS_eq rfl) rfl ?_
 refine wl_nil ?_
 refine we_then ?_
 refine wc_keep [10, 2, 1, 0] (S' := [_,_,_,_]) rfl ?_
 refine wc_cond rfl (fun h10 => ?_) (fun h10 => ?_)
 ·
  replace h10 := bne_iff_ne.1 h10
  refine wc_seq ?_
  refine wc_region ?_
  refine wl_pure (S' := [_,_,_]) rfl rfl rfl rfl rfl ?_
  refine wl_nil ?_
  refine we_then ?_
  refine wc_ret ?_
  refine we_then_ret ?_
  refine ret_one (Hr := []) [] Try.results30 (res_tmp rfl) ?_ (fun _ _ hφ => ask [] rfl hφ) rfl rfl (.inl rfl)
  exact ⟨false, rfl, by simp [Made]; intro h; omega, rfl, rfl⟩
 ·
  replace h10 := bne_eq_false_iff_eq.1 h10
  refine wc_skip ?_
  refine we_then ?_
  refine wc_seq ?_
  refine wc_seq ?_
  refine wc_region ?_
  refine wl_pure rfl rfl rfl (freshS_eq rfl) rfl ?_
  refine wl_nil ?_
  refine we_then ?_
  refine wc_block ?_
  refine wc_loop (σ := Nat) (fun s => s ≤ has.length ∧ ∀ i, i < s → ∀ x, has[i]? = some false → vals[i]? = some x → x = V.zero) (fun s => has.length - s) (fun s => [(3, .int .i64 ((s : Nat) : Int)), (10, .bool (((has.length : Nat) : Int) != ((vals.length : Nat) : Int))), (2, .bool false), (1, .pointer (some ⟨g1, 0, none⟩)), (0, .agg #[.slice p1 has.length c1, .slice p2 vals.length c2])]) (fun s => [.sli 1 bRep p1 c1 has, .sli 3 vRep p2 c2 vals]) (fun s => [.blk g1 [.slice p1 has.length c1, .slice p2 vals.length c2] 56]) 0 (by simp) [3, 10, 2, 1, 0] rfl (fun _ _ hφ => ask [0, 1] rfl hφ) rfl (fun s1 oks1 => ?_)
  refine wc_seq ?_
  refine wc_seq ?_
  refine wc_region ?_
  refine wl_pure rfl rfl rfl (freshS_eq rfl) rfl ?_
  refine wl_fieldAddr rfl rfl rfl (freshS_eq rfl) rfl rfl tF_56_0 ?_
  refine wl_loadH 0 0 rfl rfl rfl (freshS_eq rfl) rfl rfl rfl (cs := [_]) rfl tS_37 tA_37 rfl rfl ?_
  refine wl_len rfl rfl rfl (freshS_eq rfl) rfl rfl tE_37 ?_
  refine wl_pure rfl rfl rfl (freshS_eq rfl) rfl ?_
  refine wl_nil ?_
  refine we_then ?_
  refine wc_keep [15, 3, 10, 2, 1, 0] (S' := [_,_,_,_,_,_]) rfl ?_
  refine wc_cond rfl (fun h15 => ?_) (fun h15 => ?_)
  ·
   replace h15 := of_decide_eq_true h15
   refine wc_skip ?_
   refine we_then ?_
   refine wc_seq ?_
   refine wc_block ?_
   refine wc_seq ?_
   refine wc_region ?_
   refine wl_fieldAddr rfl rfl rfl (freshS_eq rfl) rfl rfl tF_56_0 ?_
   refine wl_loadH 0 0 rfl rfl rfl (freshS_eq rfl) rfl rfl rfl (cs := [_]) rfl tS_37 tA_37 rfl rfl ?_
   refine wl_pure rfl rfl rfl (freshS_eq rfl) rfl ?_
   refine wl_index 0 s1 rfl rfl rfl (freshS_eq rfl) rfl rfl rfl rfl rfl (by omega) tE_37 tS_4 (fun b21 q21 cs21 x21 hx21 hlx21 => ?_)
   refine wl_open bRep_opens 1 rfl (fun r21 er21 okx21 => ?_)
   subst er21
   refine wl_load 0 0 rfl rfl rfl (freshS_eq rfl) rfl rfl rfl (cs := [_]) rfl tS_4 tA_4 rfl rfl ?_
   refine wl_pure rfl rfl rfl (freshS_eq rfl) rfl ?_
   refine wl_pure rfl rfl rfl (freshS_eq rfl) rfl ?_
   refine wl_split (d := 24) (S' := [_,_,_,_,_,_,_,_,_,_,_,_]) rfl rfl (fun h24 => ?_) (fun h24 => ?_)
   ·
    replace h24 := not_true h24
    refine wl_fieldAddr rfl rfl rfl (freshS_eq rfl) rfl rfl tF_56_1 ?_
    refine wl_loadH 0 1 rfl rfl rfl (freshS_eq rfl) rfl rfl rfl (cs := [_]) rfl tS_34 tA_34 rfl rfl ?_
    refine wl_pure rfl rfl rfl (freshS_eq rfl) rfl ?_
    refine wl_index 3 s1 rfl rfl rfl (freshS_eq rfl) rfl rfl rfl rfl rfl (by omega) tE_34 tS_27 (fun b28 q28 cs28 x28 hx28 hlx28 => ?_)
    refine wl_open vRep_opens 1 rfl (fun r28 er28 okx28 => ?_)
    subst er28
    refine wl_load 0 0 rfl rfl rfl (freshS_eq rfl) rfl rfl rfl (cs := [_,_,_]) rfl tS_27 tA_27 rfl rfl ?_
    refine wl_build rfl rfl rfl (freshS_eq rfl) rfl tZ_27 tP_27 rfl (out := [_,_,_]) rfl ?_
    refine wl_bin rfl rfl rfl (freshS_eq rfl) rfl rfl rfl (neqV _ _ x28 (⟨0, 0, ⟨#[]⟩⟩ : V)) ?_
    refine wl_pure rfl rfl rfl (freshS_eq rfl) rfl ?_
    refine wl_nil ?_
    refine we_then ?_
    refine wc_keep [32, 15, 3, 10, 2, 1, 0] (S' := [_,_,_,_,_,_,_]) rfl ?_
    refine wc_cond rfl (fun h32 => ?_) (fun h32 => ?_)
    ·
     replace h32 := nd_true h32
     refine wc_seq ?_
     refine wc_region ?_
     refine wl_pure (S' := [_,_,_,_,_,_]) rfl rfl rfl rfl rfl ?_
     refine wl_nil ?_
     refine we_then ?_
     refine wc_ret ?_
     refine we_block_ret ?_
     refine we_then_ret ?_
     refine we_then_ret ?_
     refine we_block_ret ?_
     refine we_then_ret ?_
     refine ret_one (Hr := []) [] Try.results30 (res_tmp rfl) ?_ (fun _ _ hφ => ask [] rfl hφ) rfl rfl (.inl rfl)
     refine ⟨false, rfl, ?_, rfl, rfl⟩
     simp only [Bool.false_eq_true, false_iff]
     exact fun h => h32 (h.2 s1 _ (by rw [hx21, h24]) hx28)
    ·
     replace h32 := nd_false h32
     refine wc_skip ?_
     refine we_block_normal ?_
     refine we_then ?_
     refine wc_region ?_
     refine wl_pure rfl rfl rfl (freshS_eq rfl) rfl ?_
     refine wl_pure rfl rfl rfl (freshS_eq rfl) rfl ?_
     refine wl_as (d := 17) (v' := .int .i64 ((s1 + 1 : Nat) : Int)) (S' := [_,_,_,_,_,_,_,_]) rfl rfl (nat_inc (by omega)) ?_
     refine wl_pure (S' := [_,_,_,_,_,_,_,_]) rfl rfl rfl rfl rfl ?_
     refine wl_nil ?_
     refine we_round (s1 + 1) (by omega) ⟨by omega, fun i hi x h1 h2 => by
      rcases Nat.lt_or_ge i s1 with hlt | hge
      · exact oks1.2 i hlt x h1 h2
      · obtain rfl : i = s1 := by omega
        rw [hx28] at h2; cases h2; exact h32⟩ [3, 10, 2, 1, 0] rfl (fun _ _ hφ => ask [4, 5] rfl hφ) rfl
   ·
    replace h24 := not_false_ h24
    refine wl_off rfl rfl rfl (freshS_eq rfl) ?_
    refine wl_off rfl rfl rfl (freshS_eq rfl) ?_
    refine wl_off rfl rfl rfl (freshS_eq rfl) ?_
    refine wl_off rfl rfl rfl (freshS_eq rfl) ?_
    refine wl_off rfl rfl rfl (freshS_eq rfl) ?_
    refine wl_off rfl rfl rfl (freshS_eq rfl) ?_
    refine wl_off rfl rfl rfl (freshS_eq rfl) ?_
    refine wl_pure rfl rfl rfl (freshS_eq rfl) rfl ?_
    refine wl_nil ?_
    refine we_then ?_
    refine wc_keep [32, 15, 3, 10, 2, 1, 0] (S' := [_,_,_,_,_,_,_]) rfl ?_
    refine wc_false rfl ?_
    refine wc_skip ?_
    refine we_block_normal ?_
    refine we_then ?_
    refine wc_region ?_
    refine wl_pure rfl rfl rfl (freshS_eq rfl) rfl ?_
    refine wl_pure rfl rfl rfl (freshS_eq rfl) rfl ?_
    refine wl_as (d := 17) (v' := .int .i64 ((s1 + 1 : Nat) : Int)) (S' := [_,_,_,_,_,_,_,_]) rfl rfl (nat_inc (by omega)) ?_
    refine wl_pure (S' := [_,_,_,_,_,_,_,_]) rfl rfl rfl rfl rfl ?_
    refine wl_nil ?_
    refine we_round (s1 + 1) (by omega) ⟨by omega, fun i hi x h1 h2 => by
      rcases Nat.lt_or_ge i s1 with hlt | hge
      · exact oks1.2 i hlt x h1 h2
      · obtain rfl : i = s1 := by omega
        rw [hx21, h24] at h1; cases h1⟩ [3, 10, 2, 1, 0] rfl (fun _ _ hφ => ask [2, 3] rfl hφ) rfl
  ·
   replace h15 := of_decide_eq_false h15
   refine wc_exit ?_
   refine we_then_exit ?_
   refine we_then_exit ?_
   refine we_block_hit ?_
   refine we_then ?_
   refine wc_seq ?_
   refine wc_region ?_
   refine wl_pure (S' := [_,_,_,_,_]) rfl rfl rfl rfl rfl ?_
   refine wl_nil ?_
   refine we_then ?_
   refine wc_ret ?_
   refine ret_one (Hr := []) [] Try.results30 (res_tmp rfl) ?_ (fun _ _ hφ => ask [] rfl hφ) rfl rfl (.inl rfl)
   refine ⟨true, rfl, ?_, rfl, rfl⟩
   simp only [true_iff]
   exact ⟨by omega, fun i x hi hx => oks1.2 i (by have := (List.getElem?_eq_some_iff.1 hi).1; omega) x hi hx⟩

end Go.Proofs.Ytffcijddfhhbdaa
