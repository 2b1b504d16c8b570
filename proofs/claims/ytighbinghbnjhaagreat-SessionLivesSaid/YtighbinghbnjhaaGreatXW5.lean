import Derived.Test.YtighbinghbnjhaaGreatXW4
namespace Go.Proofs.YtighbinghbnjhaaGreat
open Go.RowKit
set_option maxRecDepth 100000
set_option maxHeartbeats 4000000
def z_markReply (k i : Int) : Int := IntKind.wrap .i64 ((IntKind.wrap .i64 (1000003 * (IntKind.wrap .i64 (k + 7)))) + i)
theorem z_markReply_s (k i : Int) : Spec Tryz.prog 125 [.int .i64 k, .int .i64 i] [] [] (fun v Φr Hr => v = .agg #[.int .i64 0, .int .i64 (z_markReply k i), .slice none 0 0, .slice none 0 0] ∧ Φr = [] ∧ Hr = []) := w_ropewalkkit_markReply_s 0 k i rfl
def mc_markReply (k i : Nat) : List Value := [.int .i64 0, .int .i64 (z_markReply ((k : Nat) : Int) ((i : Nat) : Int)), .slice none 0 0, .slice none 0 0]
theorem sm_SameReply (z : Int) : m_ropewalkkit_SameReply_n 2 0 z 0 z = some true := by
  simp [m_ropewalkkit_SameReply_n, m_ropewalkkit_SameReply_n_C1, m_ropewalkkit_SameValues, m_ropewalkkit_SameValues_L1, m_ropewalkkit_SameFacts, m_ropewalkkit_SameFacts_L1, m_ropewalkkit_SameFact, iter, bindO, bindS, gd]
theorem fl_flatReplies (p : Option Addr) (c : Nat) (hs : List Hdr) (hL : hs.length ≤ 1073741824) (hb : ∀ h ∈ hs, h.2.1 ≤ 1073741824) : Spec Tryz.prog 82 [.slice p hs.length c] [] [.own 77 1 hdrR (.slice p hs.length c) hs, flatF 29 4 (hs.map row0)] (fun v Φr Hr => ∃ rows, FlE hs mc_markReply rows ∧ v = .bool true ∧ Φr = [] ∧ Hr = [flatF 29 4 rows]) := by
 refine spec_of Tryz.func82 rfl Tryz.ntmps82 rfl (S := [_]) rfl (fun C => (wc_seq (wc_region (wP rfl (wl_nil (we_then (wc_seq (wc_seq (wc_region (wP rfl (wl_nil (we_then (wc_block (wc_loop (σ := List Twin × Nat) (fun s => s.2 ≤ hs.length ∧ FlA hs mc_markReply s.2 0 s.1) (fun s => hs.length - s.2) (fun s => [(3, .int .i64 ((s.2 : Nat) : Int)), (2, .bool false), (0, .slice p hs.length c)]) (fun s => []) (fun s => [.own 77 1 hdrR (.slice p hs.length c) hs, flatF 29 4 s.1]) (hs.map row0,0) ⟨Nat.zero_le _, FlA.start⟩ [3,2,0] rfl (asK [] rfl) rfl (fun s1 oks1 => ?_)))))))))))))))
 refine wc_seq (wc_seq (wc_region (wP rfl (wP rfl (wN rfl tE_78 (wP rfl (wl_nil (we_then (wc_keep [19,3,2,0] (S' := [_,_,_,_]) rfl ?_)))))))))
 refine wc_cond rfl (fun h19 => ?_) (fun h19 => ?_)
 ·
  replace h19 := of_decide_eq_true h19
  have hk1 : s1.2 < hs.length := by omega
  obtain ⟨y1, hy1⟩ : ∃ y, hs[s1.2]? = some y := ⟨_, List.getElem?_eq_getElem hk1⟩
  have hB1 : y1.2.1 ≤ 1073741824 := hb _ (List.mem_of_getElem? hy1)
  refine wc_skip (we_then (wc_seq (wc_block (wc_seq (wc_region (wP rfl (wl_nil (we_then (wc_block (wc_loop (σ := List Twin × Nat) (fun s => s.2 ≤ y1.2.1 ∧ FlA hs mc_markReply s1.2 s.2 s.1) (fun s => y1.2.1 - s.2) (fun s => [(4, .int .i64 ((s.2 : Nat) : Int)), (19, .bool (decide (((s1.2 : Nat) : Int) < ((hs.length : Nat) : Int)))), (3, .int .i64 ((s1.2 : Nat) : Int)), (2, .bool false), (0, .slice p hs.length c)]) (fun s => []) (fun s => [.own 77 1 hdrR (.slice p hs.length c) hs, flatF 29 4 s.1]) (s1.1,0) ⟨Nat.zero_le _, oks1.2⟩ [4,19,3,2,0] rfl (asK [] rfl) rfl (fun s2 oks2 => (wc_seq (wc_seq (wc_region ?_))))))))))))))
  refine wP rfl (wP rfl (wP rfl (wl_indexH 0 s1.2 rfl rfl rfl (freshS_eq rfl) rfl rfl rfl rfl rfl hk1 tE_78 tS_77 (fun g25 eg25 => ?_))))
  subst eg25
  refine wl_loadRow hdr_opens 0 s1.2 0 rfl rfl rfl (freshS_eq rfl) rfl rfl rfl hy1 tS_77 tA_77 (v := fun _ => .slice y1.1 y1.2.1 y1.2.2) (fun _ => rfl) (fun _ => rfl) (fun _ _ => (wN rfl tE_77 (wP rfl (wl_nil (we_then (wc_keep [28,4,19,3,2,0] (S' := [_,_,_,_,_,_]) rfl ?_))))))
  refine wc_cond rfl (fun h28 => ?_) (fun h28 => ?_)
  ·
   replace h28 := of_decide_eq_true h28
   obtain ⟨r2, hr2, hh2, hsm2, hl2⟩ := oks2.2.at_ hy1
   refine wc_skip (we_then (wc_seq (wc_block (wc_draw [0,1,2,3,4,5,6,8] rfl rfl (fun hok => (xP hok 0 rfl (xP hok 1 rfl (wx_indexK hok 2 0 s1.2 rfl rfl rfl (freshS_eq rfl) rfl rfl rfl rfl rfl rfl hk1 tE_78 tS_77 (wx_loadRow hok 3 hdr_opens 0 s1.2 0 rfl rfl rfl (freshS_eq rfl) rfl rfl rfl rfl hy1 tS_77 tA_77 (v := .slice y1.1 y1.2.1 y1.2.2) rfl rfl (fun _ => (xP hok 4 rfl (xP hok 5 rfl (xP hok 6 rfl (xS hok 7 rfl (wC [] [0,1] rfl fn_125 rfl (z_markReply_s ((s1.2 : Nat) : Int) ((s2.2 : Nat) : Int)) (asK [] rfl) rfl (H' := [_,_]) rfl ?_)))))))))))))))
   rintro _ _ _ ⟨rfl, rfl, rfl⟩
   refine wl_nil (we_x [] [0] rfl rfl (wx_flIdxH hok 8 (p := y1.1) (m := y1.2.1) (cp := y1.2.2) 1 s1.2 s2.2 rfl rfl rfl (freshS_eq rfl) rfl rfl rfl hr2 hh2 rfl rfl rfl (by omega) hl2 tE_77 tS_29 (fun g39 eg39 => (xS hok 9 rfl (wl_flStore (cs := mc_markReply s1.2 s2.2) 1 s1.2 s2.2 rfl rfl rfl rfl hr2 hsm2 (hdr_eq hh2 eg39) rfl (by omega) rfl rfl tS_29 rfl (one_of rfl) (H' := [_,_]) rfl (wl_nil (we_x [] [] rfl rfl (wx_done hok rfl (we_block_normal (we_then (wc_region (wP rfl (wP rfl (wl_as (d := 30) (v' := .int .i64 ((s2.2 + 1 : Nat) : Int)) (S' := [_,_,_,_,_,_,_,_,_,_,_,_,_,_,_,_]) rfl rfl (nat_add (a := s2.2) (b := 1) (by omega)) ?_))))))))))))))
   refine wl_pure (S' := [_,_,_,_,_,_,_,_,_,_,_,_,_,_,_,_]) rfl rfl rfl rfl rfl (wl_nil ?_)
   refine we_round (s2.1.set s1.2 ⟨r2.h, (r2.l.set s2.2 (some (mc_markReply s1.2 s2.2))), r2.h, (r2.l.set s2.2 (some (mc_markReply s1.2 s2.2)))⟩, s2.2 + 1) (by show y1.2.1 - (s2.2 + 1) < _; omega) ⟨by show s2.2 + 1 ≤ _; omega, oks2.2.store hy1 hr2 (by omega)⟩ [4,19,3,2,0] rfl (asK [] rfl) rfl
  ·
   replace h28 := of_decide_eq_false h28
   refine wc_exit (we_then_exit (we_then_exit (we_block_hit (we_block_normal (we_then (wc_region (wP rfl (wP rfl (wl_as (d := 21) (v' := .int .i64 ((s1.2 + 1 : Nat) : Int)) (S' := [_,_,_,_,_,_,_]) rfl rfl (nat_add (a := s1.2) (b := 1) (by omega)) (wl_pure (S' := [_,_,_,_,_,_,_]) rfl rfl rfl rfl rfl (wl_nil ?_)))))))))))
   refine we_round (s2.1, s1.2 + 1) (by show hs.length - (s1.2 + 1) < _; omega) ⟨by show s1.2 + 1 ≤ _; omega, oks2.2.next hy1 (by omega)⟩ [3,2,0] rfl (asK [] rfl) rfl
 ·
  replace h19 := of_decide_eq_false h19
  refine wc_exit (we_then_exit (we_then_exit (we_block_hit (we_then (wc_seq (wc_region (wP rfl (wN rfl tE_78 (wl_makeSlice (m := hs.length) hdrR (none, 0,0) rfl rfl rfl (freshS_eq rfl) rfl rfl rfl rfl rfl tE_78 tR_77 rfl rfl (fun _ _ => rfl) (by omega) (by omega) (fun g42 => (wP rfl (wl_nil (we_then (wc_keep [5,19,3,2,0] (S' := [_,_,_,_,_]) rfl ?_))))))))))))))
  refine wc_seq (wc_seq (wc_region (wP rfl (wl_nil (we_then (wc_block (wc_loop (σ := List Hdr × List Twin × Nat) (fun s => s.2.2 ≤ hs.length ∧ FlB hs mc_markReply s.1 s.2.2 s.2.1) (fun s => hs.length - s.2.2) (fun s => [(6, .int .i64 ((s.2.2 : Nat) : Int)), (5, .slice (some ⟨g42,0, none⟩) hs.length hs.length), (19, .bool (decide (((s1.2 : Nat) : Int) < ((hs.length : Nat) : Int)))), (3, .int .i64 ((s1.2 : Nat) : Int)), (2, .bool false), (0, .slice p hs.length c)]) (fun s => []) (fun s => [.own 77 1 hdrR (.slice (some ⟨g42,0, none⟩) hs.length hs.length) s.1, .own 77 1 hdrR (.slice p hs.length c) hs, flatF 29 4 s.2.1]) (List.replicate hs.length (none, 0,0), s1.1,0) ⟨Nat.zero_le _, oks1.2.grow (by omega) (by simp)⟩ [6,5,19,3,2,0] rfl (asK [] rfl) rfl (fun s3 oks3 => (wc_seq (wc_seq (wc_region (wP rfl (wP rfl (wN rfl tE_78 ?_))))))))))))))
  refine wP rfl (wl_nil (we_then (wc_keep [46,6,5,19,3,2,0] (S' := [_,_,_,_,_,_,_]) rfl ?_)))
  refine wc_cond rfl (fun h46 => ?_) (fun h46 => ?_)
  ·
   replace h46 := of_decide_eq_true h46
   have hk3 : s3.2.2 < hs.length := by omega
   obtain ⟨y3, hy3⟩ : ∃ y, hs[s3.2.2]? = some y := ⟨_, List.getElem?_eq_getElem hk3⟩
   have hB3 : y3.2.1 ≤ 1073741824 := hb _ (List.mem_of_getElem? hy3)
   refine wc_skip (we_then (wc_seq (wc_block (wc_seq (wc_region (wP rfl (wP rfl (wl_indexH 1 s3.2.2 rfl rfl rfl (freshS_eq rfl) rfl rfl rfl rfl rfl hk3 tE_78 tS_77 (fun g51 eg51 => ?_)))))))))
   subst eg51
   refine wl_loadRow hdr_opens 1 s3.2.2 0 rfl rfl rfl (freshS_eq rfl) rfl rfl rfl hy3 tS_77 tA_77 (v := fun _ => .slice y3.1 y3.2.1 y3.2.2) (fun _ => rfl) (fun _ => rfl) (fun _ _ => (wP rfl (wl_nil (we_then (wc_keep [7,46,6,5,19,3,2,0] (S' := [_,_,_,_,_,_,_,_]) rfl (wc_seq (wc_seq (wc_region (wP rfl (wl_nil (we_then (wc_block (wc_loop (σ := List Twin × Hdr × Nat) (fun s => s.2.2 ≤ 64 ∧ FlC hs mc_markReply s3.1 s3.2.2 s.2.2 s.2.1 s.1) (fun s => 64 - s.2.2) (fun s => [(8, .int .i64 ((s.2.2 : Nat) : Int)), (7, .slice s.2.1.1 s.2.1.2.1 s.2.1.2.2), (46, .bool (decide (((s3.2.2 : Nat) : Int) < ((hs.length : Nat) : Int)))), (6, .int .i64 ((s3.2.2 : Nat) : Int)), (5, .slice (some ⟨g42,0, none⟩) hs.length hs.length), (19, .bool (decide (((s1.2 : Nat) : Int) < ((hs.length : Nat) : Int)))), (3, .int .i64 ((s1.2 : Nat) : Int)), (2, .bool false), (0, .slice (some ⟨g51,0, none⟩) hs.length c)]) (fun s => []) (fun s => [.own 77 1 hdrR (.slice (some ⟨g42,0, none⟩) hs.length hs.length) s3.1, .own 77 1 hdrR (.slice (some ⟨g51,0, none⟩) hs.length c) hs, flatF 29 4 s.1]) (s3.2.1, y3,0) ⟨Nat.zero_le _, oks3.2.begin hy3⟩ [8,7,46,6,5,19,3,2,0] rfl (asK [] rfl) rfl (fun s4 oks4 => (wc_seq ?_)))))))))))))))
   refine wc_seq (wc_region (wP rfl (wP rfl (wl_nil (we_then (wc_keep [54,8,7,46,6,5,19,3,2,0] (S' := [_,_,_,_,_,_,_,_,_,_]) rfl ?_))))))
   refine wc_cond rfl (fun h54 => ?_) (fun h54 => ?_)
   ·
    replace h54 := of_decide_eq_true h54
    obtain ⟨r4, hr4, hh4, hl4, hg4, hm4⟩ := oks4.2.at_ hy3
    refine wc_skip (we_then (wc_seq (wc_block (wc_region (wP rfl (wP rfl (wP rfl (wP rfl (wl_indexK 1 s3.2.2 rfl rfl rfl (freshS_eq rfl) rfl rfl rfl rfl rfl hk3 tE_78 tS_77 (wl_loadRow hdr_opens 1 s3.2.2 0 rfl rfl rfl (freshS_eq rfl) rfl rfl rfl hy3 tS_77 tA_77 (v := fun _ => .slice y3.1 y3.2.1 y3.2.2) (fun _ => rfl) (fun _ => rfl) (fun _ _ => (wN rfl tE_77 (wP rfl (wP rfl ?_))))))))))))))
    refine wl_as (d := 65) (v' := .int .i64 ((y3.2.1 + s4.2.2 : Nat) : Int)) (S' := [_,_,_,_,_,_,_,_,_,_,_,_,_,_,_,_,_,_]) rfl rfl (nat_add (a := y3.2.1) (b := s4.2.2) (by omega)) (wC [] [0,1,2] rfl fn_125 rfl (z_markReply_s ((s3.2.2 : Nat) : Int) ((y3.2.1 + s4.2.2 : Nat) : Int)) (asK [] rfl) rfl (H' := [_,_,_]) rfl ?_)
    rintro _ _ _ ⟨rfl, rfl, rfl⟩
    refine wl_buildSlice rfl rfl rfl (freshS_eq rfl) rfl tE_77 tS_29 tZ_29 rfl (zs := [.int .i64 0, .int .i64 0, .slice none 0 0, .slice none 0 0]) (by kernel_rfl) rfl (out := [_,_,_,_]) rfl (fun g67 => (wl_flAppB (cs := mc_markReply s3.2.2 (y3.2.1 + s4.2.2)) 3 s3.2.2 0 rfl rfl rfl (freshS_eq rfl) rfl rfl hr4 (by rw [hg4]; rfl) rfl rfl rfl (one_of rfl) tE_77 tR_29 rfl rfl (by rw [hm4]; simp only [marks_len, List.length_append, List.length_cons, List.length_nil]; omega) (by rw [hm4]; simp only [marks_len, List.length_append, List.length_cons, List.length_nil]; omega) (H2 := fun gh68 => [_,_,_, flatF 29 4 (s4.1.set s3.2.2 ⟨r4.h, r4.l, gh68, r4.m ++ [some (mc_markReply s3.2.2 (y3.2.1 + s4.2.2))]⟩)]) (fun _ => rfl) (fun gh68 => (wl_drop 0 rfl (H' := [_,_,_]) rfl (wl_pure (S' := [_,_,_,_,_,_,_,_,_,_,_,_,_,_,_,_,_,_,_,_,_]) rfl rfl rfl rfl rfl (wl_nil (we_block_normal (we_then (wc_region (wP rfl (wP rfl (wl_as (d := 56) (v' := .int .i64 ((s4.2.2 + 1 : Nat) : Int)) (S' := [_,_,_,_,_,_,_,_,_,_,_,_,_,_,_,_,_,_,_,_,_,_,_]) rfl rfl (nat_add (a := s4.2.2) (b := 1) (by omega)) (wl_pure (S' := [_,_,_,_,_,_,_,_,_,_,_,_,_,_,_,_,_,_,_,_,_,_,_]) rfl rfl rfl rfl rfl (wl_nil ?_))))))))))))))
    refine we_round (s4.1.set s3.2.2 ⟨r4.h, r4.l, gh68, r4.m ++ [some (mc_markReply s3.2.2 (y3.2.1 + s4.2.2))]⟩, gh68, s4.2.2 + 1) (by show 64 - (s4.2.2 + 1) < _; omega) ⟨by show s4.2.2 + 1 ≤ 64; omega, oks4.2.app hy3 hr4 _⟩ [8,7,46,6,5,19,3,2,0] rfl (asK [] rfl) rfl
   ·
    replace h54 := of_decide_eq_false h54
    refine wc_exit (we_then_exit (we_then_exit (we_block_hit (we_then (wc_region (wP rfl (wP rfl (wP rfl (wl_indexK 0 s3.2.2 rfl rfl rfl (freshS_eq rfl) rfl rfl rfl rfl rfl (by rw [oks3.2.2.1]; exact hk3) tE_78 tS_77 (wl_storeRow (u := s4.2.1) 0 s3.2.2 rfl rfl rfl rfl rfl (by rw [oks3.2.2.1]; exact hk3) rfl rfl tS_77 rfl (fun _ _ _ => rfl) (H' := [_,_,_]) rfl (wl_nil (we_block_normal (we_then ?_)))))))))))))
    refine wc_region (wP rfl (wP rfl (wl_as (d := 48) (v' := .int .i64 ((s3.2.2 + 1 : Nat) : Int)) (S' := [_,_,_,_,_,_,_,_,_,_,_,_,_,_,_]) rfl rfl (nat_add (a := s3.2.2) (b := 1) (by omega)) (wl_pure (S' := [_,_,_,_,_,_,_,_,_,_,_,_,_,_,_]) rfl rfl rfl rfl rfl (wl_nil ?_)))))
    have hc3 := oks4.2
    rw [show s4.2.2 = 64 from by omega] at hc3
    refine we_round (s3.1.set s3.2.2 s4.2.1, s4.1, s3.2.2 + 1) (by show hs.length - (s3.2.2 + 1) < _; omega) ⟨by show s3.2.2 + 1 ≤ _; omega, hc3.done hk3⟩ [6,5,19,3,2,0] rfl (asK [] rfl) rfl
  ·
   replace h46 := of_decide_eq_false h46
   refine wc_exit (we_then_exit (we_then_exit (we_block_hit (we_then (wc_seq (wc_seq (wc_region (wP rfl (wl_nil (we_then (wc_block (wc_loop (σ := Nat) (fun s => s ≤ hs.length) (fun s => hs.length - s) (fun s => [(9, .int .i64 ((s : Nat) : Int)), (46, .bool (decide (((s3.2.2 : Nat) : Int) < ((hs.length : Nat) : Int)))), (6, .int .i64 ((s3.2.2 : Nat) : Int)), (5, .slice (some ⟨g42,0, none⟩) hs.length hs.length), (19, .bool (decide (((s1.2 : Nat) : Int) < ((hs.length : Nat) : Int)))), (3, .int .i64 ((s1.2 : Nat) : Int)), (2, .bool false), (0, .slice p hs.length c)]) (fun s => []) (fun s => [.own 77 1 hdrR (.slice (some ⟨g42,0, none⟩) hs.length hs.length) s3.1, .own 77 1 hdrR (.slice p hs.length c) hs, flatF 29 4 s3.2.1]) 0 (Nat.zero_le _) [9,46,6,5,19,3,2,0] rfl (asK [] rfl) rfl (fun s5 oks5 => (wc_seq ?_))))))))))))))
   refine wc_seq (wc_region (wP rfl (wP rfl (wN rfl tE_78 (wP rfl (wl_nil (we_then (wc_keep [76,9,46,6,5,19,3,2,0] (S' := [_,_,_,_,_,_,_,_,_]) rfl ?_))))))))
   refine wc_cond rfl (fun h76 => ?_) (fun h76 => ?_)
   ·
    replace h76 := of_decide_eq_true h76
    have hk5 : s5 < hs.length := by omega
    obtain ⟨y5, hy5⟩ : ∃ y, hs[s5]? = some y := ⟨_, List.getElem?_eq_getElem hk5⟩
    have hB5 : y5.2.1 ≤ 1073741824 := hb _ (List.mem_of_getElem? hy5)
    obtain ⟨r5, hr5, hh5, hl5, hg5, hm5⟩ := oks3.2.look (by omega) hy5
    refine wc_flLen 2 rfl hr5 (fun hA5 hC5 => ?_)
    rw [hl5, marks_len] at hA5
    rw [hm5, marks_len] at hC5
    refine wc_skip (we_then (wc_seq (wc_block (wc_seq (wc_region (wP rfl (wl_nil (we_then (wc_block (wc_loop (σ := Nat) (fun s => s ≤ y5.2.1 + 64) (fun s => y5.2.1 + 64 - s) (fun s => [(10, .int .i64 ((s : Nat) : Int)), (76, .bool (decide (((s5 : Nat) : Int) < ((hs.length : Nat) : Int)))), (9, .int .i64 ((s5 : Nat) : Int)), (46, .bool (decide (((s3.2.2 : Nat) : Int) < ((hs.length : Nat) : Int)))), (6, .int .i64 ((s3.2.2 : Nat) : Int)), (5, .slice (some ⟨g42,0, none⟩) hs.length hs.length), (19, .bool (decide (((s1.2 : Nat) : Int) < ((hs.length : Nat) : Int)))), (3, .int .i64 ((s1.2 : Nat) : Int)), (2, .bool false), (0, .slice p hs.length c)]) (fun s => []) (fun s => [.own 77 1 hdrR (.slice (some ⟨g42,0, none⟩) hs.length hs.length) s3.1, .own 77 1 hdrR (.slice p hs.length c) hs, flatF 29 4 s3.2.1]) 0 (Nat.zero_le _) [10,76,9,46,6,5,19,3,2,0] rfl (asK [] rfl) rfl (fun s6 oks6 => (wc_seq (wc_seq (wc_region ?_))))))))))))))
    refine wP rfl (wP rfl (wP rfl (wl_indexK 0 s5 rfl rfl rfl (freshS_eq rfl) rfl rfl rfl rfl rfl (by rw [oks3.2.2.1]; exact hk5) tE_78 tS_77 (wl_loadRow hdr_opens 0 s5 0 rfl rfl rfl (freshS_eq rfl) rfl rfl rfl hg5 tS_77 tA_77 (v := fun _ => .slice r5.g.1 r5.g.2.1 r5.g.2.2) (fun _ => rfl) (fun _ => rfl) (fun _ _ => (wN rfl tE_77 (wP rfl (wl_nil (we_then (wc_keep [85,10,76,9,46,6,5,19,3,2,0] (S' := [_,_,_,_,_,_,_,_,_,_,_]) rfl ?_))))))))))
    refine wc_cond rfl (fun h85 => ?_) (fun h85 => ?_)
    ·
     replace h85 := of_decide_eq_true h85
     refine wc_skip (we_then (wc_seq (wc_block (wc_seq (wc_draw [0,1,2,3,4,5,6,7,8,11,12,13,14,15,16,17,18,19,20,21,22,23,24,25,26,27,28,29,32,33,34] rfl rfl (fun hok => (xP hok 0 rfl (xP hok 1 rfl (wx_indexK hok 2 0 s5 rfl rfl rfl (freshS_eq rfl) rfl rfl rfl rfl rfl rfl (by rw [oks3.2.2.1]; exact hk5) tE_78 tS_77 (wx_loadRow hok 3 hdr_opens 0 s5 0 rfl rfl rfl (freshS_eq rfl) rfl rfl rfl rfl hg5 tS_77 tA_77 (v := .slice r5.g.1 r5.g.2.1 r5.g.2.2) rfl rfl (fun _ => (xP hok 4 rfl (wx_flIdxG hok 5 (p := r5.g.1) (m := r5.g.2.1) (cp := r5.g.2.2) 2 s5 s6 rfl rfl rfl (freshS_eq rfl) rfl rfl rfl hr5 rfl rfl rfl rfl (by omega) (by rw [hm5, marks_len]; omega) tE_77 tS_29 (fun g93 eg93 => (wx_flLoadG hok 6 2 s5 s6 rfl rfl rfl (freshS_eq rfl) rfl rfl rfl hr5 (hdr_eqG eg93) rfl (cs := mc_markReply s5 s6) (by rw [hm5]; exact marks_at (by omega)) tS_29 tA_29 rfl (v := .agg #[.int .i64 0, .int .i64 (z_markReply ((s5 : Nat) : Int) ((s6 : Nat) : Int)), .slice none 0 0, .slice none 0 0]) rfl (xP hok 7 rfl ?_))))))))))))))))
     refine xP hok 8 rfl (xS hok 9 rfl (wC [] [0,1,2] rfl fn_125 rfl (z_markReply_s ((s5 : Nat) : Int) ((s6 : Nat) : Int)) (asK [] rfl) rfl (H' := [_,_,_]) rfl ?_))
     rintro _ _ _ ⟨rfl, rfl, rfl⟩
     refine wl_nil (we_x [] [2,0] rfl rfl (xS hok 10 rfl (wC [] [0,1,2] rfl fn_38 rfl (w_ropewalkkit_SameReply_n_s 2 0 (z_markReply ((s5 : Nat) : Int) ((s6 : Nat) : Int)) 0 (z_markReply ((s5 : Nat) : Int) ((s6 : Nat) : Int)) _ (sm_SameReply _)) (asK [] rfl) rfl (H' := [_,_,_]) rfl ?_)))
     rintro _ _ _ ⟨rfl, rfl, rfl⟩
     refine wl_nil (we_x [] [0] rfl rfl (xP hok 11 rfl (xP hok 12 rfl (xP hok 13 rfl (xP hok 14 rfl (xP hok 15 rfl (wx_indexH hok 16 1 s5 rfl rfl rfl (freshS_eq rfl) rfl rfl rfl rfl rfl rfl hk5 tE_78 tS_77 (fun g104 eg104 => ?_))))))))
     subst eg104
     refine wx_loadRow hok 17 hdr_opens 1 s5 0 rfl rfl rfl (freshS_eq rfl) rfl rfl rfl rfl hy5 tS_77 tA_77 (v := .slice y5.1 y5.2.1 y5.2.2) rfl rfl (fun _ => (wx_len hok 18 rfl rfl rfl (freshS_eq rfl) rfl rfl rfl tE_77 (xP hok 19 rfl (xP hok 20 rfl ?_))))
     refine wx_split (d := 108) (S' := [_,_,_,_,_,_,_,_,_,_,_,_,_,_,_,_,_,_,_,_,_,_,_,_,_,_,_,_,_,_,_]) rfl rfl (fun h108 => ?_) (fun h108 => ?_)
     ·
      replace h108 := of_decide_eq_true h108
      refine xP hok 21 rfl (xP hok 22 rfl (wx_indexK hok 23 1 s5 rfl rfl rfl (freshS_eq rfl) rfl rfl rfl rfl rfl rfl hk5 tE_78 tS_77 (wx_loadRow hok 24 hdr_opens 1 s5 0 rfl rfl rfl (freshS_eq rfl) rfl rfl rfl rfl hy5 tS_77 tA_77 (v := .slice y5.1 y5.2.1 y5.2.2) rfl rfl (fun _ => (xP hok 25 rfl (wx_flIdxH hok 26 (p := y5.1) (m := y5.2.1) (cp := y5.2.2) 2 s5 s6 rfl rfl rfl (freshS_eq rfl) rfl rfl rfl hr5 hh5 rfl rfl rfl (by omega) (by rw [hl5, marks_len]) tE_77 tS_29 (fun g114 eg114 => (wx_flLoadH hok 27 2 s5 s6 rfl rfl rfl (freshS_eq rfl) rfl rfl rfl hr5 (hdr_eq hh5 eg114) rfl (cs := mc_markReply s5 s6) (by rw [hl5]; exact marks_at (by omega)) tS_29 tA_29 rfl (v := .agg #[.int .i64 0, .int .i64 (z_markReply ((s5 : Nat) : Int) ((s6 : Nat) : Int)), .slice none 0 0, .slice none 0 0]) rfl (xP hok 28 rfl (xP hok 29 rfl (xS hok 30 rfl (wC [] [0,1,2] rfl fn_125 rfl (z_markReply_s ((s5 : Nat) : Int) ((s6 : Nat) : Int)) (asK [] rfl) rfl (H' := [_,_,_]) rfl ?_))))))))))))
      rintro _ _ _ ⟨rfl, rfl, rfl⟩
      refine wl_nil (we_x [] [2,1,1,2,0] rfl rfl (xS hok 31 rfl (wC [] [0,1,2] rfl fn_38 rfl (w_ropewalkkit_SameReply_n_s 2 0 (z_markReply ((s5 : Nat) : Int) ((s6 : Nat) : Int)) 0 (z_markReply ((s5 : Nat) : Int) ((s6 : Nat) : Int)) _ (sm_SameReply _)) (asK [] rfl) rfl (H' := [_,_,_]) rfl ?_)))
      rintro _ _ _ ⟨rfl, rfl, rfl⟩
      refine wl_nil (we_x [] [1,1,2,0] rfl rfl (xP hok 32 rfl (xP hok 33 rfl (xP hok 34 rfl (wx_done hok rfl (we_then (wc_keep [122,85,10,76,9,46,6,5,19,3,2,0] (S' := [_,_,_,_,_,_,_,_,_,_,_,_]) rfl (wc_false rfl (wc_skip (we_block_normal (we_then (wc_region (wP rfl ?_)))))))))))))
      refine wP rfl (wl_as (d := 87) (v' := .int .i64 ((s6 + 1 : Nat) : Int)) (S' := [_,_,_,_,_,_,_,_,_,_,_,_,_]) rfl rfl (nat_add (a := s6) (b := 1) (by omega)) (wl_pure (S' := [_,_,_,_,_,_,_,_,_,_,_,_,_]) rfl rfl rfl rfl rfl (wl_nil ?_)))
      refine we_round (s6 + 1) (by omega) (by omega) [10,76,9,46,6,5,19,3,2,0] rfl (asK [] rfl) rfl
     ·
      replace h108 := of_decide_eq_false h108
      refine xO hok 21 rfl (xO hok 22 rfl (xO hok 23 rfl (xO hok 24 rfl (xO hok 25 rfl (xO hok 26 rfl (xO hok 27 rfl (xO hok 28 rfl (xO hok 29 rfl (xS hok 30 rfl (wO rfl (wl_nil (we_x [] [1,2,0] rfl rfl (xS hok 31 rfl ?_)))))))))))))
      refine wO rfl (wl_nil (we_x [] [1,2,0] rfl rfl (xO hok 32 rfl (xP hok 33 rfl (xP hok 34 rfl (wx_done hok rfl (we_then (wc_keep [122,85,10,76,9,46,6,5,19,3,2,0] (S' := [_,_,_,_,_,_,_,_,_,_,_,_]) rfl (wc_false rfl (wc_skip (we_block_normal (we_then (wc_region ?_)))))))))))))
      refine wP rfl (wP rfl (wl_as (d := 87) (v' := .int .i64 ((s6 + 1 : Nat) : Int)) (S' := [_,_,_,_,_,_,_,_,_,_,_,_,_]) rfl rfl (nat_add (a := s6) (b := 1) (by omega)) (wl_pure (S' := [_,_,_,_,_,_,_,_,_,_,_,_,_]) rfl rfl rfl rfl rfl (wl_nil ?_))))
      refine we_round (s6 + 1) (by omega) (by omega) [10,76,9,46,6,5,19,3,2,0] rfl (asK [] rfl) rfl
    ·
     replace h85 := of_decide_eq_false h85
     refine wc_exit (we_then_exit (we_then_exit (we_block_hit (we_block_normal (we_then (wc_region (wP rfl (wP rfl (wl_as (d := 78) (v' := .int .i64 ((s5 + 1 : Nat) : Int)) (S' := [_,_,_,_,_,_,_,_,_,_,_,_]) rfl rfl (nat_add (a := s5) (b := 1) (by omega)) (wl_pure (S' := [_,_,_,_,_,_,_,_,_,_,_,_]) rfl rfl rfl rfl rfl (wl_nil ?_)))))))))))
     refine we_round (s5 + 1) (by omega) (by omega) [9,46,6,5,19,3,2,0] rfl (asK [] rfl) rfl
   ·
    replace h76 := of_decide_eq_false h76
    refine wc_exit (we_then_exit (we_then_exit (we_block_hit (we_then (wc_seq (wc_seq (wc_region (wP rfl (wl_nil (we_then (wc_block (wc_loop (σ := List Hdr × List Twin × Nat) (fun s => s.2.2 ≤ hs.length ∧ FlD hs mc_markReply s.1 s.2.2 s.2.1) (fun s => hs.length - s.2.2) (fun s => [(11, .int .i64 ((s.2.2 : Nat) : Int)), (76, .bool (decide (((s5 : Nat) : Int) < ((hs.length : Nat) : Int)))), (9, .int .i64 ((s5 : Nat) : Int)), (46, .bool (decide (((s3.2.2 : Nat) : Int) < ((hs.length : Nat) : Int)))), (6, .int .i64 ((s3.2.2 : Nat) : Int)), (5, .slice (some ⟨g42,0, none⟩) hs.length hs.length), (19, .bool (decide (((s1.2 : Nat) : Int) < ((hs.length : Nat) : Int)))), (3, .int .i64 ((s1.2 : Nat) : Int)), (2, .bool false), (0, .slice p hs.length c)]) (fun s => []) (fun s => [.own 77 1 hdrR (.slice (some ⟨g42,0, none⟩) hs.length hs.length) s.1, .own 77 1 hdrR (.slice p hs.length c) hs, flatF 29 4 s.2.1]) (s3.1, s3.2.1,0) ⟨Nat.zero_le _, oks3.2.again⟩ [11,76,9,46,6,5,19,3,2,0] rfl (asK [] rfl) rfl (fun s7 oks7 => (wc_seq ?_))))))))))))))
    refine wc_seq (wc_region (wP rfl (wP rfl (wN rfl tE_78 (wP rfl (wl_nil (we_then (wc_keep [126,11,76,9,46,6,5,19,3,2,0] (S' := [_,_,_,_,_,_,_,_,_,_,_]) rfl ?_))))))))
    refine wc_cond rfl (fun h126 => ?_) (fun h126 => ?_)
    ·
     replace h126 := of_decide_eq_true h126
     have hk7 : s7.2.2 < hs.length := by omega
     obtain ⟨y7, hy7⟩ : ∃ y, hs[s7.2.2]? = some y := ⟨_, List.getElem?_eq_getElem hk7⟩
     have hB7 : y7.2.1 ≤ 1073741824 := hb _ (List.mem_of_getElem? hy7)
     obtain ⟨r7, hr7, hh7, hl7⟩ := oks7.2.at_ hy7
     refine wc_skip (we_then (wc_seq (wc_block (wc_seq (wc_region (wl_makeSlice (m := 64) celR (none : Cel) rfl rfl rfl (freshS_eq rfl) rfl rfl rfl rfl rfl tE_77 tR_29 rfl rfl (fun _ _ => cel_any rfl) (by omega) (by omega) (fun g129 => (wP rfl (wl_nil (we_then (wc_keep [12,126,11,76,9,46,6,5,19,3,2,0] (S' := [_,_,_,_,_,_,_,_,_,_,_,_]) rfl (wc_seq (wc_seq (wc_region ?_))))))))))))))
     refine wP rfl (wl_nil (we_then (wc_block (wc_loop (σ := List Cel × Nat) (fun s => s.2 ≤ 64 ∧ s.1.length = 64) (fun s => 64 - s.2) (fun s => [(13, .int .i64 ((s.2 : Nat) : Int)), (12, .slice (some ⟨g129,0, none⟩) 64 64), (126, .bool (decide (((s7.2.2 : Nat) : Int) < ((hs.length : Nat) : Int)))), (11, .int .i64 ((s7.2.2 : Nat) : Int)), (76, .bool (decide (((s5 : Nat) : Int) < ((hs.length : Nat) : Int)))), (9, .int .i64 ((s5 : Nat) : Int)), (46, .bool (decide (((s3.2.2 : Nat) : Int) < ((hs.length : Nat) : Int)))), (6, .int .i64 ((s3.2.2 : Nat) : Int)), (5, .slice (some ⟨g42,0, none⟩) hs.length hs.length), (19, .bool (decide (((s1.2 : Nat) : Int) < ((hs.length : Nat) : Int)))), (3, .int .i64 ((s1.2 : Nat) : Int)), (2, .bool false), (0, .slice p hs.length c)]) (fun s => []) (fun s => [.own 29 4 celR (.slice (some ⟨g129,0, none⟩) 64 64) s.1, .own 77 1 hdrR (.slice (some ⟨g42,0, none⟩) hs.length hs.length) s7.1, .own 77 1 hdrR (.slice p hs.length c) hs, flatF 29 4 s7.2.1]) (List.replicate 64 (none : Cel), 0) ⟨Nat.zero_le _, by simp⟩ [13,12,126,11,76,9,46,6,5,19,3,2,0] rfl (asK [] rfl) rfl (fun s8 oks8 => (wc_seq (wc_seq (wc_region (wP rfl (wP rfl (wl_nil (we_then (wc_keep [131,13,12,126,11,76,9,46,6,5,19,3,2,0] (S' := [_,_,_,_,_,_,_,_,_,_,_,_,_,_]) rfl ?_)))))))))))))
     refine wc_cond rfl (fun h131 => ?_) (fun h131 => ?_)
     ·
      replace h131 := of_decide_eq_true h131
      refine wc_skip (we_then (wc_seq (wc_block (wc_region (wP rfl (wP rfl (wP rfl (wP rfl (wN rfl tE_78 (wP rfl (wl_as (d := 139) (v' := .int .i64 ((s7.2.2 + hs.length : Nat) : Int)) (S' := [_,_,_,_,_,_,_,_,_,_,_,_,_,_,_,_,_,_,_]) rfl rfl (nat_add (a := s7.2.2) (b := hs.length) (by omega)) (wP rfl (wC [] [0,1,2,3] rfl fn_125 rfl (z_markReply_s ((s7.2.2 + hs.length : Nat) : Int) ((s8.2 : Nat) : Int)) (asK [] rfl) rfl (H' := [_,_,_,_]) rfl ?_)))))))))))))
      rintro _ _ _ ⟨rfl, rfl, rfl⟩
      refine wl_indexK 0 s8.2 rfl rfl rfl (freshS_eq rfl) rfl rfl rfl rfl rfl (by rw [oks8.2]; omega) tE_77 tS_29 (wl_storeRow (u := some ([.int .i64 0, .int .i64 (z_markReply ((s7.2.2 + hs.length : Nat) : Int) ((s8.2 : Nat) : Int)), .slice none 0 0, .slice none 0 0] : List Value)) 0 s8.2 rfl rfl rfl rfl rfl (by rw [oks8.2]; omega) rfl rfl tS_29 rfl (fun _ _ _ => cel_some rfl) (H' := [_,_,_,_]) rfl (wl_nil (we_block_normal (we_then (wc_region (wP rfl (wP rfl (wl_as (d := 133) (v' := .int .i64 ((s8.2 + 1 : Nat) : Int)) (S' := [_,_,_,_,_,_,_,_,_,_,_,_,_,_,_,_,_,_,_,_,_,_,_,_]) rfl rfl (nat_add (a := s8.2) (b := 1) (by omega)) (wl_pure (S' := [_,_,_,_,_,_,_,_,_,_,_,_,_,_,_,_,_,_,_,_,_,_,_,_]) rfl rfl rfl rfl rfl (wl_nil ?_))))))))))
      refine we_round (s8.1.set s8.2 (some ([.int .i64 0, .int .i64 (z_markReply ((s7.2.2 + hs.length : Nat) : Int) ((s8.2 : Nat) : Int)), .slice none 0 0, .slice none 0 0] : List Value)), s8.2 + 1) (by show 64 - (s8.2 + 1) < _; omega) ⟨by show s8.2 + 1 ≤ 64; omega, by show (List.set _ _ _).length = 64; rw [List.length_set]; exact oks8.2⟩ [13,12,126,11,76,9,46,6,5,19,3,2,0] rfl (asK [] rfl) rfl
     ·
      replace h131 := of_decide_eq_false h131
      refine wc_exit (we_then_exit (we_then_exit (we_block_hit (we_then (wc_region (wP rfl (wP rfl (wP rfl (wP rfl (wl_indexH 2 s7.2.2 rfl rfl rfl (freshS_eq rfl) rfl rfl rfl rfl rfl hk7 tE_78 tS_77 (fun g147 eg147 => ?_)))))))))))
      subst eg147
      refine wl_loadRow hdr_opens 2 s7.2.2 0 rfl rfl rfl (freshS_eq rfl) rfl rfl rfl hy7 tS_77 tA_77 (v := fun _ => .slice y7.1 y7.2.1 y7.2.2) (fun _ => rfl) (fun _ => rfl) (fun _ _ => (wP rfl (wl_sh [_,_,_, flatF 29 4 (s7.2.1.set s7.2.2 ⟨r7.h, r7.l, r7.h, r7.l⟩)] (fun _ h => h.flReset 3 s7.2.2 rfl hr7) (wl_flAppO 3 s7.2.2 0 rfl rfl rfl (freshS_eq rfl) rfl rfl (set_eqT _ hr7) (by show _ = some (hdv r7.h); rw [hh7]; rfl) rfl rfl oks8.2 (by decide) tE_77 tR_29 rfl rfl (by show r7.l.length + _ ≤ _; rw [hl7, marks_len]; omega) (by show (r7.l.length + _) * _ ≤ _; rw [hl7, marks_len]; omega) (H2 := fun gh150 => [_,_,_, flatF 29 4 ((s7.2.1.set s7.2.2 ⟨r7.h, r7.l, r7.h, r7.l⟩).set s7.2.2 ⟨r7.h, r7.l, gh150, r7.l ++ s8.1⟩)]) (fun _ => rfl) (fun gh150 => (wl_drop 0 rfl (H' := [_,_,_]) rfl (wl_indexK 0 s7.2.2 rfl rfl rfl (freshS_eq rfl) rfl rfl rfl rfl rfl (by rw [oks7.2.2.1]; exact hk7) tE_78 tS_77 (wl_storeRow (u := gh150) 0 s7.2.2 rfl rfl rfl rfl rfl (by rw [oks7.2.2.1]; exact hk7) rfl rfl tS_77 rfl (fun _ _ _ => rfl) (H' := [_,_,_]) rfl (wl_nil (we_block_normal (we_then (wc_region (wP rfl (wP rfl (wl_as (d := 128) (v' := .int .i64 ((s7.2.2 + 1 : Nat) : Int)) (S' := [_,_,_,_,_,_,_,_,_,_,_,_,_,_,_,_,_,_,_,_,_,_,_,_]) rfl rfl (nat_add (a := s7.2.2) (b := 1) (by omega)) ?_)))))))))))))))
      refine wl_pure (S' := [_,_,_,_,_,_,_,_,_,_,_,_,_,_,_,_,_,_,_,_,_,_,_,_]) rfl rfl rfl rfl rfl (wl_nil ?_)
      refine we_round (s7.1.set s7.2.2 gh150, (s7.2.1.set s7.2.2 ⟨r7.h, r7.l, r7.h, r7.l⟩).set s7.2.2 ⟨r7.h, r7.l, gh150, r7.l ++ s8.1⟩, s7.2.2 + 1) (by show hs.length - (s7.2.2 + 1) < _; omega) ⟨by show s7.2.2 + 1 ≤ _; omega, oks7.2.app hy7 hr7 _ _⟩ [11,76,9,46,6,5,19,3,2,0] rfl (asK [] rfl) rfl
    ·
     replace h126 := of_decide_eq_false h126
     refine wc_exit (we_then_exit (we_then_exit (we_block_hit (we_then (wc_seq (wc_seq (wc_region (wP rfl (wl_nil (we_then (wc_block (wc_loop (σ := Nat) (fun s => s ≤ hs.length) (fun s => hs.length - s) (fun s => [(14, .int .i64 ((s : Nat) : Int)), (126, .bool (decide (((s7.2.2 : Nat) : Int) < ((hs.length : Nat) : Int)))), (11, .int .i64 ((s7.2.2 : Nat) : Int)), (76, .bool (decide (((s5 : Nat) : Int) < ((hs.length : Nat) : Int)))), (9, .int .i64 ((s5 : Nat) : Int)), (46, .bool (decide (((s3.2.2 : Nat) : Int) < ((hs.length : Nat) : Int)))), (6, .int .i64 ((s3.2.2 : Nat) : Int)), (5, .slice (some ⟨g42,0, none⟩) hs.length hs.length), (19, .bool (decide (((s1.2 : Nat) : Int) < ((hs.length : Nat) : Int)))), (3, .int .i64 ((s1.2 : Nat) : Int)), (2, .bool false), (0, .slice p hs.length c)]) (fun s => []) (fun s => [.own 77 1 hdrR (.slice (some ⟨g42,0, none⟩) hs.length hs.length) s7.1, .own 77 1 hdrR (.slice p hs.length c) hs, flatF 29 4 s7.2.1]) 0 (Nat.zero_le _) [14,126,11,76,9,46,6,5,19,3,2,0] rfl (asK [] rfl) rfl (fun s9 oks9 => (wc_seq ?_))))))))))))))
     refine wc_seq (wc_region (wP rfl (wP rfl (wN rfl tE_78 (wP rfl (wl_nil (we_then (wc_keep [155,14,126,11,76,9,46,6,5,19,3,2,0] (S' := [_,_,_,_,_,_,_,_,_,_,_,_,_]) rfl ?_))))))))
     refine wc_cond rfl (fun h155 => ?_) (fun h155 => ?_)
     ·
      replace h155 := of_decide_eq_true h155
      have hk9 : s9 < hs.length := by omega
      obtain ⟨y9, hy9⟩ : ∃ y, hs[s9]? = some y := ⟨_, List.getElem?_eq_getElem hk9⟩
      have hB9 : y9.2.1 ≤ 1073741824 := hb _ (List.mem_of_getElem? hy9)
      obtain ⟨r9, hr9, hh9, hl9, hg9, t9, hm9⟩ := oks7.2.look (by omega) hy9
      refine wc_flLen 2 rfl hr9 (fun hA9 hC9 => ?_)
      rw [hl9, marks_len] at hA9
      have hE9 := hC9
      rw [hm9, List.length_append, marks_len] at hE9
      refine wc_skip (we_then (wc_seq (wc_block (wc_seq (wc_region (wP rfl (wl_nil (we_then (wc_block (wc_loop (σ := Nat) (fun s => s ≤ y9.2.1) (fun s => y9.2.1 - s) (fun s => [(15, .int .i64 ((s : Nat) : Int)), (155, .bool (decide (((s9 : Nat) : Int) < ((hs.length : Nat) : Int)))), (14, .int .i64 ((s9 : Nat) : Int)), (126, .bool (decide (((s7.2.2 : Nat) : Int) < ((hs.length : Nat) : Int)))), (11, .int .i64 ((s7.2.2 : Nat) : Int)), (76, .bool (decide (((s5 : Nat) : Int) < ((hs.length : Nat) : Int)))), (9, .int .i64 ((s5 : Nat) : Int)), (46, .bool (decide (((s3.2.2 : Nat) : Int) < ((hs.length : Nat) : Int)))), (6, .int .i64 ((s3.2.2 : Nat) : Int)), (5, .slice (some ⟨g42,0, none⟩) hs.length hs.length), (19, .bool (decide (((s1.2 : Nat) : Int) < ((hs.length : Nat) : Int)))), (3, .int .i64 ((s1.2 : Nat) : Int)), (2, .bool false), (0, .slice p hs.length c)]) (fun s => []) (fun s => [.own 77 1 hdrR (.slice (some ⟨g42,0, none⟩) hs.length hs.length) s7.1, .own 77 1 hdrR (.slice p hs.length c) hs, flatF 29 4 s7.2.1]) 0 (Nat.zero_le _) [15,155,14,126,11,76,9,46,6,5,19,3,2,0] rfl (asK [] rfl) rfl (fun s10 oks10 => (wc_seq (wc_seq (wc_region ?_))))))))))))))
      refine wP rfl (wP rfl (wP rfl (wl_indexH 1 s9 rfl rfl rfl (freshS_eq rfl) rfl rfl rfl rfl rfl hk9 tE_78 tS_77 (fun g161 eg161 => ?_))))
      subst eg161
      refine wl_loadRow hdr_opens 1 s9 0 rfl rfl rfl (freshS_eq rfl) rfl rfl rfl hy9 tS_77 tA_77 (v := fun _ => .slice y9.1 y9.2.1 y9.2.2) (fun _ => rfl) (fun _ => rfl) (fun _ _ => (wN rfl tE_77 (wP rfl (wl_nil (we_then (wc_keep [164,15,155,14,126,11,76,9,46,6,5,19,3,2,0] (S' := [_,_,_,_,_,_,_,_,_,_,_,_,_,_,_]) rfl ?_))))))
      refine wc_cond rfl (fun h164 => ?_) (fun h164 => ?_)
      ·
       replace h164 := of_decide_eq_true h164
       refine wc_skip (we_then (wc_seq (wc_block (wc_seq (wc_draw [0,1,2,3,4,5,6,7,8,11,12,13,14,15,16,17,18,19,20,21,24,25] rfl rfl (fun hok => (xP hok 0 rfl (xP hok 1 rfl (wx_indexK hok 2 1 s9 rfl rfl rfl (freshS_eq rfl) rfl rfl rfl rfl rfl rfl hk9 tE_78 tS_77 (wx_loadRow hok 3 hdr_opens 1 s9 0 rfl rfl rfl (freshS_eq rfl) rfl rfl rfl rfl hy9 tS_77 tA_77 (v := .slice y9.1 y9.2.1 y9.2.2) rfl rfl (fun _ => (xP hok 4 rfl (wx_flIdxH hok 5 (p := y9.1) (m := y9.2.1) (cp := y9.2.2) 2 s9 s10 rfl rfl rfl (freshS_eq rfl) rfl rfl rfl hr9 hh9 rfl rfl rfl (by omega) (by rw [hl9, marks_len]) tE_77 tS_29 (fun g172 eg172 => (wx_flLoadH hok 6 2 s9 s10 rfl rfl rfl (freshS_eq rfl) rfl rfl rfl hr9 (hdr_eq hh9 eg172) rfl (cs := mc_markReply s9 s10) (by rw [hl9]; exact marks_at (by omega)) tS_29 tA_29 rfl (v := .agg #[.int .i64 0, .int .i64 (z_markReply ((s9 : Nat) : Int) ((s10 : Nat) : Int)), .slice none 0 0, .slice none 0 0]) rfl (xP hok 7 rfl ?_))))))))))))))))
       refine xP hok 8 rfl (xS hok 9 rfl (wC [] [0,1,2] rfl fn_125 rfl (z_markReply_s ((s9 : Nat) : Int) ((s10 : Nat) : Int)) (asK [] rfl) rfl (H' := [_,_,_]) rfl ?_))
       rintro _ _ _ ⟨rfl, rfl, rfl⟩
       refine wl_nil (we_x [] [2,1] rfl rfl (xS hok 10 rfl (wC [] [0,1,2] rfl fn_38 rfl (w_ropewalkkit_SameReply_n_s 2 0 (z_markReply ((s9 : Nat) : Int) ((s10 : Nat) : Int)) 0 (z_markReply ((s9 : Nat) : Int) ((s10 : Nat) : Int)) _ (sm_SameReply _)) (asK [] rfl) rfl (H' := [_,_,_]) rfl ?_)))
       rintro _ _ _ ⟨rfl, rfl, rfl⟩
       refine wl_nil (we_x [] [1] rfl rfl (xP hok 11 rfl (xP hok 12 rfl (xP hok 13 rfl (xP hok 14 rfl (wx_indexK hok 15 0 s9 rfl rfl rfl (freshS_eq rfl) rfl rfl rfl rfl rfl rfl (by rw [oks7.2.2.1]; exact hk9) tE_78 tS_77 (wx_loadRow hok 16 hdr_opens 0 s9 0 rfl rfl rfl (freshS_eq rfl) rfl rfl rfl rfl hg9 tS_77 tA_77 (v := .slice r9.g.1 r9.g.2.1 r9.g.2.2) rfl rfl (fun _ => (xP hok 17 rfl (wx_flIdxG hok 18 (p := r9.g.1) (m := r9.g.2.1) (cp := r9.g.2.2) 2 s9 s10 rfl rfl rfl (freshS_eq rfl) rfl rfl rfl hr9 rfl rfl rfl rfl (by omega) hC9.symm tE_77 tS_29 (fun g185 eg185 => (wx_flLoadG hok 19 2 s9 s10 rfl rfl rfl (freshS_eq rfl) rfl rfl rfl hr9 (hdr_eqG eg185) rfl (cs := mc_markReply s9 s10) (by rw [hm9]; exact app_at (by omega)) tS_29 tA_29 rfl (v := .agg #[.int .i64 0, .int .i64 (z_markReply ((s9 : Nat) : Int) ((s10 : Nat) : Int)), .slice none 0 0, .slice none 0 0]) rfl (xP hok 20 rfl (xP hok 21 rfl (xS hok 22 rfl ?_)))))))))))))))
       refine wC [] [0,1,2] rfl fn_125 rfl (z_markReply_s ((s9 : Nat) : Int) ((s10 : Nat) : Int)) (asK [] rfl) rfl (H' := [_,_,_]) rfl ?_
       rintro _ _ _ ⟨rfl, rfl, rfl⟩
       refine wl_nil (we_x [] [2,0,2,1] rfl rfl (xS hok 23 rfl (wC [] [0,1,2] rfl fn_38 rfl (w_ropewalkkit_SameReply_n_s 2 0 (z_markReply ((s9 : Nat) : Int) ((s10 : Nat) : Int)) 0 (z_markReply ((s9 : Nat) : Int) ((s10 : Nat) : Int)) _ (sm_SameReply _)) (asK [] rfl) rfl (H' := [_,_,_]) rfl ?_)))
       rintro _ _ _ ⟨rfl, rfl, rfl⟩
       refine wl_nil (we_x [] [0,2,1] rfl rfl (xP hok 24 rfl (xP hok 25 rfl (wx_done hok rfl (we_then (wc_keep [192,164,15,155,14,126,11,76,9,46,6,5,19,3,2,0] (S' := [_,_,_,_,_,_,_,_,_,_,_,_,_,_,_,_]) rfl (wc_false rfl (wc_skip (we_block_normal (we_then (wc_region (wP rfl (wP rfl ?_)))))))))))))
       refine wl_as (d := 166) (v' := .int .i64 ((s10 + 1 : Nat) : Int)) (S' := [_,_,_,_,_,_,_,_,_,_,_,_,_,_,_,_,_]) rfl rfl (nat_add (a := s10) (b := 1) (by omega)) (wl_pure (S' := [_,_,_,_,_,_,_,_,_,_,_,_,_,_,_,_,_]) rfl rfl rfl rfl rfl (wl_nil ?_))
       refine we_round (s10 + 1) (by omega) (by omega) [15,155,14,126,11,76,9,46,6,5,19,3,2,0] rfl (asK [] rfl) rfl
      ·
       replace h164 := of_decide_eq_false h164
       refine wc_exit (we_then_exit (we_then_exit (we_block_hit (we_block_normal (we_then (wc_region (wP rfl (wP rfl (wl_as (d := 157) (v' := .int .i64 ((s9 + 1 : Nat) : Int)) (S' := [_,_,_,_,_,_,_,_,_,_,_,_,_,_,_,_]) rfl rfl (nat_add (a := s9) (b := 1) (by omega)) (wl_pure (S' := [_,_,_,_,_,_,_,_,_,_,_,_,_,_,_,_]) rfl rfl rfl rfl rfl (wl_nil ?_)))))))))))
       refine we_round (s9 + 1) (by omega) (by omega) [14,126,11,76,9,46,6,5,19,3,2,0] rfl (asK [] rfl) rfl
     ·
      replace h155 := of_decide_eq_false h155
      refine wc_exit (we_then_exit (we_then_exit (we_block_hit (we_then (wc_seq (wc_region (wl_pure (S' := [_,_,_,_,_,_,_,_,_,_,_,_]) rfl rfl rfl rfl rfl (wl_nil (we_then (wc_ret (ret_one (Hr := [flatF 29 4 s7.2.1]) [2] Tryz.results82 (res_tmp rfl) ?_ (asK [] rfl) rfl rfl (.inl rfl))))))))))))
      exact ⟨_, oks7.2.left, rfl, rfl, rfl⟩
theorem w_ropewalkkit_SameSession_n_s (N : Nat) (a0 : Int) (a1 : Int) (a2 : Int) (a3 : Int) (a4 : Int) (a5 : Int) (a6 : Int) (a7 : Int) (o0 : Bool) (hm : m_ropewalkkit_SameSession_n N a0 a1 a2 a3 a4 a5 a6 a7 = some o0) : Spec Tryz.prog 28 [.agg #[.int .i64 a0, .int .i64 a1, .int .i64 a2, .int .i64 a3, .slice none 0 0, .slice none 0 0], .agg #[.int .i64 a4, .int .i64 a5, .int .i64 a6, .int .i64 a7, .slice none 0 0, .slice none 0 0]] [] [] (fun v Φr Hr => v = .bool o0 ∧ Φr = [] ∧ Hr = []) := by
 unfold m_ropewalkkit_SameSession_n at hm
 refine spec_of Tryz.func28 rfl Tryz.ntmps28 rfl (S := [_,_]) rfl (fun C => (wc_seq (wc_region (wB rfl (fun g2 => (wB rfl (fun g3 => (wP rfl (wl_nil (we_then (wc_keep [3,2] (S' := [_,_]) rfl (wc_seq (wc_region (wF rfl tF_31_0 (wD 1 0 rfl tS_3 tA_3 rfl (wF rfl tF_31_0 ?_))))))))))))))))
 refine wD 0 0 rfl tS_3 tA_3 rfl (wP rfl (wP rfl ?_))
 refine wl_split (d := 10) (S' := [_,_,_,_,_,_,_]) rfl rfl (fun hs10 => ?_) (fun hs10 => ?_)
 ·
  replace hm := iteT hm hs10
  refine wF rfl tF_31_1 (wD 1 1 rfl tS_3 tA_3 rfl (wF rfl tF_31_1 (wD 0 1 rfl tS_3 tA_3 rfl (wP rfl (wP rfl (wP rfl ?_))))))
  refine wl_split (d := 17) (S' := [_,_,_,_,_,_,_,_,_,_,_,_,_,_]) rfl rfl (fun hs17 => ?_) (fun hs17 => ?_)
  ·
   replace hm := iteT hm hs17
   refine wF rfl tF_31_2 (wl_loadH 1 2 rfl rfl rfl (freshS_eq rfl) rfl rfl rfl (cs := [_,_,_,_]) rfl tS_29 tA_29 rfl rfl (wF rfl tF_31_2 (wl_loadH 0 2 rfl rfl rfl (freshS_eq rfl) rfl rfl rfl (cs := [_,_,_,_]) rfl tS_29 tA_29 rfl rfl (wl_fact (.sli 3 R_FactD none 0 ([] : List FactD)) (fun _ _ _ => sli_none) (wl_fact (.sli 3 R_V none 0 ([] : List V)) (fun _ _ _ => sli_none) (wl_fact (.sli 3 R_FactD none 0 ([] : List FactD)) (fun _ _ _ => sli_none) (wl_fact (.sli 3 R_V none 0 ([] : List V)) (fun _ _ _ => sli_none) ?_)))))))
   obtain ⟨v22, hc22, hm⟩ := bindO_some hm
   refine wC [] [0,1] rfl fn_38 rfl (w_ropewalkkit_SameReply_s N a2 a3 none 0 ([] : List FactD) none 0 ([] : List V) a6 a7 none 0 ([] : List FactD) none 0 ([] : List V) _ hc22) (asK [3,2,1,0] rfl) rfl (H' := [_,_]) rfl ?_
   rintro _ _ _ ⟨rfl, rfl, rfl⟩
   refine wP rfl (wP rfl (wl_nil (we_then (wc_keep [4] (S' := [_]) rfl (wc_ret ?_)))))
   have hE := (Option.some.inj hm).symm
   replace hE := hE.symm
   subst hE
   refine ret_one (Hr := []) [] Tryz.results28 (res_tmp rfl) ⟨rfl, rfl, rfl⟩ (asK [] rfl) rfl rfl (.inl rfl)
  ·
   replace hm := iteF hm hs17
   refine wO rfl (wO rfl (wO rfl (wO rfl (wO rfl (wP rfl (wP rfl (wl_nil (we_then (wc_keep [4] (S' := [_]) rfl (wc_ret ?_))))))))))
   have hE := (Option.some.inj hm).symm
   replace hE := hE.symm
   subst hE
   refine ret_one (Hr := []) [] Tryz.results28 (res_tmp rfl) ⟨rfl, rfl, rfl⟩ (asK [] rfl) rfl rfl (.inl rfl)
 ·
  replace hm := iteF hm hs10
  refine wO rfl (wO rfl (wO rfl (wO rfl (wO rfl (wP rfl (wP rfl (wO rfl (wO rfl (wO rfl (wO rfl (wO rfl (wP rfl (wP rfl ?_)))))))))))))
  refine wl_nil (we_then (wc_keep [4] (S' := [_]) rfl (wc_ret ?_)))
  have hE := (Option.some.inj hm).symm
  replace hE := hE.symm
  subst hE
  refine ret_one (Hr := []) [] Tryz.results28 (res_tmp rfl) ⟨rfl, rfl, rfl⟩ (asK [] rfl) rfl rfl (.inl rfl)
def z_markSession (k i : Int) : Int := IntKind.wrap .i64 ((IntKind.wrap .i64 (1000003 * (IntKind.wrap .i64 (k + 7)))) + i)
theorem z_markSession_s (k i : Int) : Spec Tryz.prog 24 [.int .i64 k, .int .i64 i] [] [] (fun v Φr Hr => v = .agg #[.int .i64 (z_markSession k i), .int .i64 0, .int .i64 0, .int .i64 0, .slice none 0 0, .slice none 0 0] ∧ Φr = [] ∧ Hr = []) := w_ropewalkkit_markSession_s 0 k i rfl
def mc_markSession (k i : Nat) : List Value := [.int .i64 (z_markSession ((k : Nat) : Int) ((i : Nat) : Int)), .int .i64 0, .int .i64 0, .int .i64 0, .slice none 0 0, .slice none 0 0]
theorem sm_SameSession (z : Int) : m_ropewalkkit_SameSession_n 2 z 0 0 0 z 0 0 0 = some true := by
  simp [m_ropewalkkit_SameSession_n, m_ropewalkkit_SameReply, m_ropewalkkit_SameReply_C1, m_ropewalkkit_SameValues, m_ropewalkkit_SameValues_L1, m_ropewalkkit_SameFacts, m_ropewalkkit_SameFacts_L1, m_ropewalkkit_SameFact, iter, bindO, bindS, gd]
theorem fl_flatSessions (p : Option Addr) (c : Nat) (hs : List Hdr) (hL : hs.length ≤ 1073741824) (hb : ∀ h ∈ hs, h.2.1 ≤ 1073741824) : Spec Tryz.prog 89 [.slice p hs.length c] [] [.own 22 1 hdrR (.slice p hs.length c) hs, flatF 31 6 (hs.map row0)] (fun v Φr Hr => ∃ rows, FlE hs mc_markSession rows ∧ v = .bool true ∧ Φr = [] ∧ Hr = [flatF 31 6 rows]) := by
 refine spec_of Tryz.func89 rfl Tryz.ntmps89 rfl (S := [_]) rfl (fun C => (wc_seq (wc_region (wP rfl (wl_nil (we_then (wc_seq (wc_seq (wc_region (wP rfl (wl_nil (we_then (wc_block (wc_loop (σ := List Twin × Nat) (fun s => s.2 ≤ hs.length ∧ FlA hs mc_markSession s.2 0 s.1) (fun s => hs.length - s.2) (fun s => [(3, .int .i64 ((s.2 : Nat) : Int)), (2, .bool false), (0, .slice p hs.length c)]) (fun s => []) (fun s => [.own 22 1 hdrR (.slice p hs.length c) hs, flatF 31 6 s.1]) (hs.map row0,0) ⟨Nat.zero_le _, FlA.start⟩ [3,2,0] rfl (asK [] rfl) rfl (fun s1 oks1 => ?_)))))))))))))))
 refine wc_seq (wc_seq (wc_region (wP rfl (wP rfl (wN rfl tE_50 (wP rfl (wl_nil (we_then (wc_keep [19,3,2,0] (S' := [_,_,_,_]) rfl ?_)))))))))
 refine wc_cond rfl (fun h19 => ?_) (fun h19 => ?_)
 ·
  replace h19 := of_decide_eq_true h19
  have hk1 : s1.2 < hs.length := by omega
  obtain ⟨y1, hy1⟩ : ∃ y, hs[s1.2]? = some y := ⟨_, List.getElem?_eq_getElem hk1⟩
  have hB1 : y1.2.1 ≤ 1073741824 := hb _ (List.mem_of_getElem? hy1)
  refine wc_skip (we_then (wc_seq (wc_block (wc_seq (wc_region (wP rfl (wl_nil (we_then (wc_block (wc_loop (σ := List Twin × Nat) (fun s => s.2 ≤ y1.2.1 ∧ FlA hs mc_markSession s1.2 s.2 s.1) (fun s => y1.2.1 - s.2) (fun s => [(4, .int .i64 ((s.2 : Nat) : Int)), (19, .bool (decide (((s1.2 : Nat) : Int) < ((hs.length : Nat) : Int)))), (3, .int .i64 ((s1.2 : Nat) : Int)), (2, .bool false), (0, .slice p hs.length c)]) (fun s => []) (fun s => [.own 22 1 hdrR (.slice p hs.length c) hs, flatF 31 6 s.1]) (s1.1,0) ⟨Nat.zero_le _, oks1.2⟩ [4,19,3,2,0] rfl (asK [] rfl) rfl (fun s2 oks2 => (wc_seq (wc_seq (wc_region ?_))))))))))))))
  refine wP rfl (wP rfl (wP rfl (wl_indexH 0 s1.2 rfl rfl rfl (freshS_eq rfl) rfl rfl rfl rfl rfl hk1 tE_50 tS_22 (fun g25 eg25 => ?_))))
  subst eg25
  refine wl_loadRow hdr_opens 0 s1.2 0 rfl rfl rfl (freshS_eq rfl) rfl rfl rfl hy1 tS_22 tA_22 (v := fun _ => .slice y1.1 y1.2.1 y1.2.2) (fun _ => rfl) (fun _ => rfl) (fun _ _ => (wN rfl tE_22 (wP rfl (wl_nil (we_then (wc_keep [28,4,19,3,2,0] (S' := [_,_,_,_,_,_]) rfl ?_))))))
  refine wc_cond rfl (fun h28 => ?_) (fun h28 => ?_)
  ·
   replace h28 := of_decide_eq_true h28
   obtain ⟨r2, hr2, hh2, hsm2, hl2⟩ := oks2.2.at_ hy1
   refine wc_skip (we_then (wc_seq (wc_block (wc_draw [0,1,2,3,4,5,6,8] rfl rfl (fun hok => (xP hok 0 rfl (xP hok 1 rfl (wx_indexK hok 2 0 s1.2 rfl rfl rfl (freshS_eq rfl) rfl rfl rfl rfl rfl rfl hk1 tE_50 tS_22 (wx_loadRow hok 3 hdr_opens 0 s1.2 0 rfl rfl rfl (freshS_eq rfl) rfl rfl rfl rfl hy1 tS_22 tA_22 (v := .slice y1.1 y1.2.1 y1.2.2) rfl rfl (fun _ => (xP hok 4 rfl (xP hok 5 rfl (xP hok 6 rfl (xS hok 7 rfl (wC [] [0,1] rfl fn_24 rfl (z_markSession_s ((s1.2 : Nat) : Int) ((s2.2 : Nat) : Int)) (asK [] rfl) rfl (H' := [_,_]) rfl ?_)))))))))))))))
   rintro _ _ _ ⟨rfl, rfl, rfl⟩
   refine wl_nil (we_x [] [0] rfl rfl (wx_flIdxH hok 8 (p := y1.1) (m := y1.2.1) (cp := y1.2.2) 1 s1.2 s2.2 rfl rfl rfl (freshS_eq rfl) rfl rfl rfl hr2 hh2 rfl rfl rfl (by omega) hl2 tE_22 tS_31 (fun g39 eg39 => (xS hok 9 rfl (wl_flStore (cs := mc_markSession s1.2 s2.2) 1 s1.2 s2.2 rfl rfl rfl rfl hr2 hsm2 (hdr_eq hh2 eg39) rfl (by omega) rfl rfl tS_31 rfl (one_of rfl) (H' := [_,_]) rfl (wl_nil (we_x [] [] rfl rfl (wx_done hok rfl (we_block_normal (we_then (wc_region (wP rfl (wP rfl (wl_as (d := 30) (v' := .int .i64 ((s2.2 + 1 : Nat) : Int)) (S' := [_,_,_,_,_,_,_,_,_,_,_,_,_,_,_,_]) rfl rfl (nat_add (a := s2.2) (b := 1) (by omega)) ?_))))))))))))))
   refine wl_pure (S' := [_,_,_,_,_,_,_,_,_,_,_,_,_,_,_,_]) rfl rfl rfl rfl rfl (wl_nil ?_)
   refine we_round (s2.1.set s1.2 ⟨r2.h, (r2.l.set s2.2 (some (mc_markSession s1.2 s2.2))), r2.h, (r2.l.set s2.2 (some (mc_markSession s1.2 s2.2)))⟩, s2.2 + 1) (by show y1.2.1 - (s2.2 + 1) < _; omega) ⟨by show s2.2 + 1 ≤ _; omega, oks2.2.store hy1 hr2 (by omega)⟩ [4,19,3,2,0] rfl (asK [] rfl) rfl
  ·
   replace h28 := of_decide_eq_false h28
   refine wc_exit (we_then_exit (we_then_exit (we_block_hit (we_block_normal (we_then (wc_region (wP rfl (wP rfl (wl_as (d := 21) (v' := .int .i64 ((s1.2 + 1 : Nat) : Int)) (S' := [_,_,_,_,_,_,_]) rfl rfl (nat_add (a := s1.2) (b := 1) (by omega)) (wl_pure (S' := [_,_,_,_,_,_,_]) rfl rfl rfl rfl rfl (wl_nil ?_)))))))))))
   refine we_round (s2.1, s1.2 + 1) (by show hs.length - (s1.2 + 1) < _; omega) ⟨by show s1.2 + 1 ≤ _; omega, oks2.2.next hy1 (by omega)⟩ [3,2,0] rfl (asK [] rfl) rfl
 ·
  replace h19 := of_decide_eq_false h19
  refine wc_exit (we_then_exit (we_then_exit (we_block_hit (we_then (wc_seq (wc_region (wP rfl (wN rfl tE_50 (wl_makeSlice (m := hs.length) hdrR (none, 0,0) rfl rfl rfl (freshS_eq rfl) rfl rfl rfl rfl rfl tE_50 tR_22 rfl rfl (fun _ _ => rfl) (by omega) (by omega) (fun g42 => (wP rfl (wl_nil (we_then (wc_keep [5,19,3,2,0] (S' := [_,_,_,_,_]) rfl ?_))))))))))))))
  refine wc_seq (wc_seq (wc_region (wP rfl (wl_nil (we_then (wc_block (wc_loop (σ := List Hdr × List Twin × Nat) (fun s => s.2.2 ≤ hs.length ∧ FlB hs mc_markSession s.1 s.2.2 s.2.1) (fun s => hs.length - s.2.2) (fun s => [(6, .int .i64 ((s.2.2 : Nat) : Int)), (5, .slice (some ⟨g42,0, none⟩) hs.length hs.length), (19, .bool (decide (((s1.2 : Nat) : Int) < ((hs.length : Nat) : Int)))), (3, .int .i64 ((s1.2 : Nat) : Int)), (2, .bool false), (0, .slice p hs.length c)]) (fun s => []) (fun s => [.own 22 1 hdrR (.slice (some ⟨g42,0, none⟩) hs.length hs.length) s.1, .own 22 1 hdrR (.slice p hs.length c) hs, flatF 31 6 s.2.1]) (List.replicate hs.length (none, 0,0), s1.1,0) ⟨Nat.zero_le _, oks1.2.grow (by omega) (by simp)⟩ [6,5,19,3,2,0] rfl (asK [] rfl) rfl (fun s3 oks3 => (wc_seq (wc_seq (wc_region (wP rfl (wP rfl (wN rfl tE_50 ?_))))))))))))))
  refine wP rfl (wl_nil (we_then (wc_keep [46,6,5,19,3,2,0] (S' := [_,_,_,_,_,_,_]) rfl ?_)))
  refine wc_cond rfl (fun h46 => ?_) (fun h46 => ?_)
  ·
   replace h46 := of_decide_eq_true h46
   have hk3 : s3.2.2 < hs.length := by omega
   obtain ⟨y3, hy3⟩ : ∃ y, hs[s3.2.2]? = some y := ⟨_, List.getElem?_eq_getElem hk3⟩
   have hB3 : y3.2.1 ≤ 1073741824 := hb _ (List.mem_of_getElem? hy3)
   refine wc_skip (we_then (wc_seq (wc_block (wc_seq (wc_region (wP rfl (wP rfl (wl_indexH 1 s3.2.2 rfl rfl rfl (freshS_eq rfl) rfl rfl rfl rfl rfl hk3 tE_50 tS_22 (fun g51 eg51 => ?_)))))))))
   subst eg51
   refine wl_loadRow hdr_opens 1 s3.2.2 0 rfl rfl rfl (freshS_eq rfl) rfl rfl rfl hy3 tS_22 tA_22 (v := fun _ => .slice y3.1 y3.2.1 y3.2.2) (fun _ => rfl) (fun _ => rfl) (fun _ _ => (wP rfl (wl_nil (we_then (wc_keep [7,46,6,5,19,3,2,0] (S' := [_,_,_,_,_,_,_,_]) rfl (wc_seq (wc_seq (wc_region (wP rfl (wl_nil (we_then (wc_block (wc_loop (σ := List Twin × Hdr × Nat) (fun s => s.2.2 ≤ 64 ∧ FlC hs mc_markSession s3.1 s3.2.2 s.2.2 s.2.1 s.1) (fun s => 64 - s.2.2) (fun s => [(8, .int .i64 ((s.2.2 : Nat) : Int)), (7, .slice s.2.1.1 s.2.1.2.1 s.2.1.2.2), (46, .bool (decide (((s3.2.2 : Nat) : Int) < ((hs.length : Nat) : Int)))), (6, .int .i64 ((s3.2.2 : Nat) : Int)), (5, .slice (some ⟨g42,0, none⟩) hs.length hs.length), (19, .bool (decide (((s1.2 : Nat) : Int) < ((hs.length : Nat) : Int)))), (3, .int .i64 ((s1.2 : Nat) : Int)), (2, .bool false), (0, .slice (some ⟨g51,0, none⟩) hs.length c)]) (fun s => []) (fun s => [.own 22 1 hdrR (.slice (some ⟨g42,0, none⟩) hs.length hs.length) s3.1, .own 22 1 hdrR (.slice (some ⟨g51,0, none⟩) hs.length c) hs, flatF 31 6 s.1]) (s3.2.1, y3,0) ⟨Nat.zero_le _, oks3.2.begin hy3⟩ [8,7,46,6,5,19,3,2,0] rfl (asK [] rfl) rfl (fun s4 oks4 => (wc_seq ?_)))))))))))))))
   refine wc_seq (wc_region (wP rfl (wP rfl (wl_nil (we_then (wc_keep [54,8,7,46,6,5,19,3,2,0] (S' := [_,_,_,_,_,_,_,_,_,_]) rfl ?_))))))
   refine wc_cond rfl (fun h54 => ?_) (fun h54 => ?_)
   ·
    replace h54 := of_decide_eq_true h54
    obtain ⟨r4, hr4, hh4, hl4, hg4, hm4⟩ := oks4.2.at_ hy3
    refine wc_skip (we_then (wc_seq (wc_block (wc_region (wP rfl (wP rfl (wP rfl (wP rfl (wl_indexK 1 s3.2.2 rfl rfl rfl (freshS_eq rfl) rfl rfl rfl rfl rfl hk3 tE_50 tS_22 (wl_loadRow hdr_opens 1 s3.2.2 0 rfl rfl rfl (freshS_eq rfl) rfl rfl rfl hy3 tS_22 tA_22 (v := fun _ => .slice y3.1 y3.2.1 y3.2.2) (fun _ => rfl) (fun _ => rfl) (fun _ _ => (wN rfl tE_22 (wP rfl (wP rfl ?_))))))))))))))
    refine wl_as (d := 65) (v' := .int .i64 ((y3.2.1 + s4.2.2 : Nat) : Int)) (S' := [_,_,_,_,_,_,_,_,_,_,_,_,_,_,_,_,_,_]) rfl rfl (nat_add (a := y3.2.1) (b := s4.2.2) (by omega)) (wC [] [0,1,2] rfl fn_24 rfl (z_markSession_s ((s3.2.2 : Nat) : Int) ((y3.2.1 + s4.2.2 : Nat) : Int)) (asK [] rfl) rfl (H' := [_,_,_]) rfl ?_)
    rintro _ _ _ ⟨rfl, rfl, rfl⟩
    refine wl_buildSlice rfl rfl rfl (freshS_eq rfl) rfl tE_22 tS_31 tZ_31 rfl (zs := [.int .i64 0, .int .i64 0, .int .i64 0, .int .i64 0, .slice none 0 0, .slice none 0 0]) (by kernel_rfl) rfl (out := [_,_,_,_,_,_]) rfl (fun g67 => (wl_flAppB (cs := mc_markSession s3.2.2 (y3.2.1 + s4.2.2)) 3 s3.2.2 0 rfl rfl rfl (freshS_eq rfl) rfl rfl hr4 (by rw [hg4]; rfl) rfl rfl rfl (one_of rfl) tE_22 tR_31 rfl rfl (by rw [hm4]; simp only [marks_len, List.length_append, List.length_cons, List.length_nil]; omega) (by rw [hm4]; simp only [marks_len, List.length_append, List.length_cons, List.length_nil]; omega) (H2 := fun gh68 => [_,_,_, flatF 31 6 (s4.1.set s3.2.2 ⟨r4.h, r4.l, gh68, r4.m ++ [some (mc_markSession s3.2.2 (y3.2.1 + s4.2.2))]⟩)]) (fun _ => rfl) (fun gh68 => (wl_drop 0 rfl (H' := [_,_,_]) rfl (wl_pure (S' := [_,_,_,_,_,_,_,_,_,_,_,_,_,_,_,_,_,_,_,_,_]) rfl rfl rfl rfl rfl (wl_nil (we_block_normal (we_then (wc_region (wP rfl (wP rfl (wl_as (d := 56) (v' := .int .i64 ((s4.2.2 + 1 : Nat) : Int)) (S' := [_,_,_,_,_,_,_,_,_,_,_,_,_,_,_,_,_,_,_,_,_,_,_]) rfl rfl (nat_add (a := s4.2.2) (b := 1) (by omega)) (wl_pure (S' := [_,_,_,_,_,_,_,_,_,_,_,_,_,_,_,_,_,_,_,_,_,_,_]) rfl rfl rfl rfl rfl (wl_nil ?_))))))))))))))
    refine we_round (s4.1.set s3.2.2 ⟨r4.h, r4.l, gh68, r4.m ++ [some (mc_markSession s3.2.2 (y3.2.1 + s4.2.2))]⟩, gh68, s4.2.2 + 1) (by show 64 - (s4.2.2 + 1) < _; omega) ⟨by show s4.2.2 + 1 ≤ 64; omega, oks4.2.app hy3 hr4 _⟩ [8,7,46,6,5,19,3,2,0] rfl (asK [] rfl) rfl
   ·
    replace h54 := of_decide_eq_false h54
    refine wc_exit (we_then_exit (we_then_exit (we_block_hit (we_then (wc_region (wP rfl (wP rfl (wP rfl (wl_indexK 0 s3.2.2 rfl rfl rfl (freshS_eq rfl) rfl rfl rfl rfl rfl (by rw [oks3.2.2.1]; exact hk3) tE_50 tS_22 (wl_storeRow (u := s4.2.1) 0 s3.2.2 rfl rfl rfl rfl rfl (by rw [oks3.2.2.1]; exact hk3) rfl rfl tS_22 rfl (fun _ _ _ => rfl) (H' := [_,_,_]) rfl (wl_nil (we_block_normal (we_then ?_)))))))))))))
    refine wc_region (wP rfl (wP rfl (wl_as (d := 48) (v' := .int .i64 ((s3.2.2 + 1 : Nat) : Int)) (S' := [_,_,_,_,_,_,_,_,_,_,_,_,_,_,_]) rfl rfl (nat_add (a := s3.2.2) (b := 1) (by omega)) (wl_pure (S' := [_,_,_,_,_,_,_,_,_,_,_,_,_,_,_]) rfl rfl rfl rfl rfl (wl_nil ?_)))))
    have hc3 := oks4.2
    rw [show s4.2.2 = 64 from by omega] at hc3
    refine we_round (s3.1.set s3.2.2 s4.2.1, s4.1, s3.2.2 + 1) (by show hs.length - (s3.2.2 + 1) < _; omega) ⟨by show s3.2.2 + 1 ≤ _; omega, hc3.done hk3⟩ [6,5,19,3,2,0] rfl (asK [] rfl) rfl
  ·
   replace h46 := of_decide_eq_false h46
   refine wc_exit (we_then_exit (we_then_exit (we_block_hit (we_then (wc_seq (wc_seq (wc_region (wP rfl (wl_nil (we_then (wc_block (wc_loop (σ := Nat) (fun s => s ≤ hs.length) (fun s => hs.length - s) (fun s => [(9, .int .i64 ((s : Nat) : Int)), (46, .bool (decide (((s3.2.2 : Nat) : Int) < ((hs.length : Nat) : Int)))), (6, .int .i64 ((s3.2.2 : Nat) : Int)), (5, .slice (some ⟨g42,0, none⟩) hs.length hs.length), (19, .bool (decide (((s1.2 : Nat) : Int) < ((hs.length : Nat) : Int)))), (3, .int .i64 ((s1.2 : Nat) : Int)), (2, .bool false), (0, .slice p hs.length c)]) (fun s => []) (fun s => [.own 22 1 hdrR (.slice (some ⟨g42,0, none⟩) hs.length hs.length) s3.1, .own 22 1 hdrR (.slice p hs.length c) hs, flatF 31 6 s3.2.1]) 0 (Nat.zero_le _) [9,46,6,5,19,3,2,0] rfl (asK [] rfl) rfl (fun s5 oks5 => (wc_seq ?_))))))))))))))
   refine wc_seq (wc_region (wP rfl (wP rfl (wN rfl tE_50 (wP rfl (wl_nil (we_then (wc_keep [76,9,46,6,5,19,3,2,0] (S' := [_,_,_,_,_,_,_,_,_]) rfl ?_))))))))
   refine wc_cond rfl (fun h76 => ?_) (fun h76 => ?_)
   ·
    replace h76 := of_decide_eq_true h76
    have hk5 : s5 < hs.length := by omega
    obtain ⟨y5, hy5⟩ : ∃ y, hs[s5]? = some y := ⟨_, List.getElem?_eq_getElem hk5⟩
    have hB5 : y5.2.1 ≤ 1073741824 := hb _ (List.mem_of_getElem? hy5)
    obtain ⟨r5, hr5, hh5, hl5, hg5, hm5⟩ := oks3.2.look (by omega) hy5
    refine wc_flLen 2 rfl hr5 (fun hA5 hC5 => ?_)
    rw [hl5, marks_len] at hA5
    rw [hm5, marks_len] at hC5
    refine wc_skip (we_then (wc_seq (wc_block (wc_seq (wc_region (wP rfl (wl_nil (we_then (wc_block (wc_loop (σ := Nat) (fun s => s ≤ y5.2.1 + 64) (fun s => y5.2.1 + 64 - s) (fun s => [(10, .int .i64 ((s : Nat) : Int)), (76, .bool (decide (((s5 : Nat) : Int) < ((hs.length : Nat) : Int)))), (9, .int .i64 ((s5 : Nat) : Int)), (46, .bool (decide (((s3.2.2 : Nat) : Int) < ((hs.length : Nat) : Int)))), (6, .int .i64 ((s3.2.2 : Nat) : Int)), (5, .slice (some ⟨g42,0, none⟩) hs.length hs.length), (19, .bool (decide (((s1.2 : Nat) : Int) < ((hs.length : Nat) : Int)))), (3, .int .i64 ((s1.2 : Nat) : Int)), (2, .bool false), (0, .slice p hs.length c)]) (fun s => []) (fun s => [.own 22 1 hdrR (.slice (some ⟨g42,0, none⟩) hs.length hs.length) s3.1, .own 22 1 hdrR (.slice p hs.length c) hs, flatF 31 6 s3.2.1]) 0 (Nat.zero_le _) [10,76,9,46,6,5,19,3,2,0] rfl (asK [] rfl) rfl (fun s6 oks6 => (wc_seq (wc_seq (wc_region ?_))))))))))))))
    refine wP rfl (wP rfl (wP rfl (wl_indexK 0 s5 rfl rfl rfl (freshS_eq rfl) rfl rfl rfl rfl rfl (by rw [oks3.2.2.1]; exact hk5) tE_50 tS_22 (wl_loadRow hdr_opens 0 s5 0 rfl rfl rfl (freshS_eq rfl) rfl rfl rfl hg5 tS_22 tA_22 (v := fun _ => .slice r5.g.1 r5.g.2.1 r5.g.2.2) (fun _ => rfl) (fun _ => rfl) (fun _ _ => (wN rfl tE_22 (wP rfl (wl_nil (we_then (wc_keep [85,10,76,9,46,6,5,19,3,2,0] (S' := [_,_,_,_,_,_,_,_,_,_,_]) rfl ?_))))))))))
    refine wc_cond rfl (fun h85 => ?_) (fun h85 => ?_)
    ·
     replace h85 := of_decide_eq_true h85
     refine wc_skip (we_then (wc_seq (wc_block (wc_seq (wc_draw [0,1,2,3,4,5,6,7,8,11,12,13,14,15,16,17,18,19,20,21,22,23,24,25,26,27,28,29,32,33,34] rfl rfl (fun hok => (xP hok 0 rfl (xP hok 1 rfl (wx_indexK hok 2 0 s5 rfl rfl rfl (freshS_eq rfl) rfl rfl rfl rfl rfl rfl (by rw [oks3.2.2.1]; exact hk5) tE_50 tS_22 (wx_loadRow hok 3 hdr_opens 0 s5 0 rfl rfl rfl (freshS_eq rfl) rfl rfl rfl rfl hg5 tS_22 tA_22 (v := .slice r5.g.1 r5.g.2.1 r5.g.2.2) rfl rfl (fun _ => (xP hok 4 rfl (wx_flIdxG hok 5 (p := r5.g.1) (m := r5.g.2.1) (cp := r5.g.2.2) 2 s5 s6 rfl rfl rfl (freshS_eq rfl) rfl rfl rfl hr5 rfl rfl rfl rfl (by omega) (by rw [hm5, marks_len]; omega) tE_22 tS_31 (fun g93 eg93 => (wx_flLoadG hok 6 2 s5 s6 rfl rfl rfl (freshS_eq rfl) rfl rfl rfl hr5 (hdr_eqG eg93) rfl (cs := mc_markSession s5 s6) (by rw [hm5]; exact marks_at (by omega)) tS_31 tA_31 rfl (v := .agg #[.int .i64 (z_markSession ((s5 : Nat) : Int) ((s6 : Nat) : Int)), .int .i64 0, .int .i64 0, .int .i64 0, .slice none 0 0, .slice none 0 0]) rfl (xP hok 7 rfl ?_))))))))))))))))
     refine xP hok 8 rfl (xS hok 9 rfl (wC [] [0,1,2] rfl fn_24 rfl (z_markSession_s ((s5 : Nat) : Int) ((s6 : Nat) : Int)) (asK [] rfl) rfl (H' := [_,_,_]) rfl ?_))
     rintro _ _ _ ⟨rfl, rfl, rfl⟩
     refine wl_nil (we_x [] [2,0] rfl rfl (xS hok 10 rfl (wC [] [0,1,2] rfl fn_28 rfl (w_ropewalkkit_SameSession_n_s 2 (z_markSession ((s5 : Nat) : Int) ((s6 : Nat) : Int)) 0 0 0 (z_markSession ((s5 : Nat) : Int) ((s6 : Nat) : Int)) 0 0 0 _ (sm_SameSession _)) (asK [] rfl) rfl (H' := [_,_,_]) rfl ?_)))
     rintro _ _ _ ⟨rfl, rfl, rfl⟩
     refine wl_nil (we_x [] [0] rfl rfl (xP hok 11 rfl (xP hok 12 rfl (xP hok 13 rfl (xP hok 14 rfl (xP hok 15 rfl (wx_indexH hok 16 1 s5 rfl rfl rfl (freshS_eq rfl) rfl rfl rfl rfl rfl rfl hk5 tE_50 tS_22 (fun g104 eg104 => ?_))))))))
     subst eg104
     refine wx_loadRow hok 17 hdr_opens 1 s5 0 rfl rfl rfl (freshS_eq rfl) rfl rfl rfl rfl hy5 tS_22 tA_22 (v := .slice y5.1 y5.2.1 y5.2.2) rfl rfl (fun _ => (wx_len hok 18 rfl rfl rfl (freshS_eq rfl) rfl rfl rfl tE_22 (xP hok 19 rfl (xP hok 20 rfl ?_))))
     refine wx_split (d := 108) (S' := [_,_,_,_,_,_,_,_,_,_,_,_,_,_,_,_,_,_,_,_,_,_,_,_,_,_,_,_,_,_,_]) rfl rfl (fun h108 => ?_) (fun h108 => ?_)
     ·
      replace h108 := of_decide_eq_true h108
      refine xP hok 21 rfl (xP hok 22 rfl (wx_indexK hok 23 1 s5 rfl rfl rfl (freshS_eq rfl) rfl rfl rfl rfl rfl rfl hk5 tE_50 tS_22 (wx_loadRow hok 24 hdr_opens 1 s5 0 rfl rfl rfl (freshS_eq rfl) rfl rfl rfl rfl hy5 tS_22 tA_22 (v := .slice y5.1 y5.2.1 y5.2.2) rfl rfl (fun _ => (xP hok 25 rfl (wx_flIdxH hok 26 (p := y5.1) (m := y5.2.1) (cp := y5.2.2) 2 s5 s6 rfl rfl rfl (freshS_eq rfl) rfl rfl rfl hr5 hh5 rfl rfl rfl (by omega) (by rw [hl5, marks_len]) tE_22 tS_31 (fun g114 eg114 => (wx_flLoadH hok 27 2 s5 s6 rfl rfl rfl (freshS_eq rfl) rfl rfl rfl hr5 (hdr_eq hh5 eg114) rfl (cs := mc_markSession s5 s6) (by rw [hl5]; exact marks_at (by omega)) tS_31 tA_31 rfl (v := .agg #[.int .i64 (z_markSession ((s5 : Nat) : Int) ((s6 : Nat) : Int)), .int .i64 0, .int .i64 0, .int .i64 0, .slice none 0 0, .slice none 0 0]) rfl (xP hok 28 rfl (xP hok 29 rfl (xS hok 30 rfl (wC [] [0,1,2] rfl fn_24 rfl (z_markSession_s ((s5 : Nat) : Int) ((s6 : Nat) : Int)) (asK [] rfl) rfl (H' := [_,_,_]) rfl ?_))))))))))))
      rintro _ _ _ ⟨rfl, rfl, rfl⟩
      refine wl_nil (we_x [] [2,1,1,2,0] rfl rfl (xS hok 31 rfl (wC [] [0,1,2] rfl fn_28 rfl (w_ropewalkkit_SameSession_n_s 2 (z_markSession ((s5 : Nat) : Int) ((s6 : Nat) : Int)) 0 0 0 (z_markSession ((s5 : Nat) : Int) ((s6 : Nat) : Int)) 0 0 0 _ (sm_SameSession _)) (asK [] rfl) rfl (H' := [_,_,_]) rfl ?_)))
      rintro _ _ _ ⟨rfl, rfl, rfl⟩
      refine wl_nil (we_x [] [1,1,2,0] rfl rfl (xP hok 32 rfl (xP hok 33 rfl (xP hok 34 rfl (wx_done hok rfl (we_then (wc_keep [122,85,10,76,9,46,6,5,19,3,2,0] (S' := [_,_,_,_,_,_,_,_,_,_,_,_]) rfl (wc_false rfl (wc_skip (we_block_normal (we_then (wc_region (wP rfl ?_)))))))))))))
      refine wP rfl (wl_as (d := 87) (v' := .int .i64 ((s6 + 1 : Nat) : Int)) (S' := [_,_,_,_,_,_,_,_,_,_,_,_,_]) rfl rfl (nat_add (a := s6) (b := 1) (by omega)) (wl_pure (S' := [_,_,_,_,_,_,_,_,_,_,_,_,_]) rfl rfl rfl rfl rfl (wl_nil ?_)))
      refine we_round (s6 + 1) (by omega) (by omega) [10,76,9,46,6,5,19,3,2,0] rfl (asK [] rfl) rfl
     ·
      replace h108 := of_decide_eq_false h108
      refine xO hok 21 rfl (xO hok 22 rfl (xO hok 23 rfl (xO hok 24 rfl (xO hok 25 rfl (xO hok 26 rfl (xO hok 27 rfl (xO hok 28 rfl (xO hok 29 rfl (xS hok 30 rfl (wO rfl (wl_nil (we_x [] [1,2,0] rfl rfl (xS hok 31 rfl ?_)))))))))))))
      refine wO rfl (wl_nil (we_x [] [1,2,0] rfl rfl (xO hok 32 rfl (xP hok 33 rfl (xP hok 34 rfl (wx_done hok rfl (we_then (wc_keep [122,85,10,76,9,46,6,5,19,3,2,0] (S' := [_,_,_,_,_,_,_,_,_,_,_,_]) rfl (wc_false rfl (wc_skip (we_block_normal (we_then (wc_region ?_)))))))))))))
      refine wP rfl (wP rfl (wl_as (d := 87) (v' := .int .i64 ((s6 + 1 : Nat) : Int)) (S' := [_,_,_,_,_,_,_,_,_,_,_,_,_]) rfl rfl (nat_add (a := s6) (b := 1) (by omega)) (wl_pure (S' := [_,_,_,_,_,_,_,_,_,_,_,_,_]) rfl rfl rfl rfl rfl (wl_nil ?_))))
      refine we_round (s6 + 1) (by omega) (by omega) [10,76,9,46,6,5,19,3,2,0] rfl (asK [] rfl) rfl
    ·
     replace h85 := of_decide_eq_false h85
     refine wc_exit (we_then_exit (we_then_exit (we_block_hit (we_block_normal (we_then (wc_region (wP rfl (wP rfl (wl_as (d := 78) (v' := .int .i64 ((s5 + 1 : Nat) : Int)) (S' := [_,_,_,_,_,_,_,_,_,_,_,_]) rfl rfl (nat_add (a := s5) (b := 1) (by omega)) (wl_pure (S' := [_,_,_,_,_,_,_,_,_,_,_,_]) rfl rfl rfl rfl rfl (wl_nil ?_)))))))))))
     refine we_round (s5 + 1) (by omega) (by omega) [9,46,6,5,19,3,2,0] rfl (asK [] rfl) rfl
   ·
    replace h76 := of_decide_eq_false h76
    refine wc_exit (we_then_exit (we_then_exit (we_block_hit (we_then (wc_seq (wc_seq (wc_region (wP rfl (wl_nil (we_then (wc_block (wc_loop (σ := List Hdr × List Twin × Nat) (fun s => s.2.2 ≤ hs.length ∧ FlD hs mc_markSession s.1 s.2.2 s.2.1) (fun s => hs.length - s.2.2) (fun s => [(11, .int .i64 ((s.2.2 : Nat) : Int)), (76, .bool (decide (((s5 : Nat) : Int) < ((hs.length : Nat) : Int)))), (9, .int .i64 ((s5 : Nat) : Int)), (46, .bool (decide (((s3.2.2 : Nat) : Int) < ((hs.length : Nat) : Int)))), (6, .int .i64 ((s3.2.2 : Nat) : Int)), (5, .slice (some ⟨g42,0, none⟩) hs.length hs.length), (19, .bool (decide (((s1.2 : Nat) : Int) < ((hs.length : Nat) : Int)))), (3, .int .i64 ((s1.2 : Nat) : Int)), (2, .bool false), (0, .slice p hs.length c)]) (fun s => []) (fun s => [.own 22 1 hdrR (.slice (some ⟨g42,0, none⟩) hs.length hs.length) s.1, .own 22 1 hdrR (.slice p hs.length c) hs, flatF 31 6 s.2.1]) (s3.1, s3.2.1,0) ⟨Nat.zero_le _, oks3.2.again⟩ [11,76,9,46,6,5,19,3,2,0] rfl (asK [] rfl) rfl (fun s7 oks7 => (wc_seq ?_))))))))))))))
    refine wc_seq (wc_region (wP rfl (wP rfl (wN rfl tE_50 (wP rfl (wl_nil (we_then (wc_keep [126,11,76,9,46,6,5,19,3,2,0] (S' := [_,_,_,_,_,_,_,_,_,_,_]) rfl ?_))))))))
    refine wc_cond rfl (fun h126 => ?_) (fun h126 => ?_)
    ·
     replace h126 := of_decide_eq_true h126
     have hk7 : s7.2.2 < hs.length := by omega
     obtain ⟨y7, hy7⟩ : ∃ y, hs[s7.2.2]? = some y := ⟨_, List.getElem?_eq_getElem hk7⟩
     have hB7 : y7.2.1 ≤ 1073741824 := hb _ (List.mem_of_getElem? hy7)
     obtain ⟨r7, hr7, hh7, hl7⟩ := oks7.2.at_ hy7
     refine wc_skip (we_then (wc_seq (wc_block (wc_seq (wc_region (wl_makeSlice (m := 64) celR (none : Cel) rfl rfl rfl (freshS_eq rfl) rfl rfl rfl rfl rfl tE_22 tR_31 rfl rfl (fun _ _ => cel_any rfl) (by omega) (by omega) (fun g129 => (wP rfl (wl_nil (we_then (wc_keep [12,126,11,76,9,46,6,5,19,3,2,0] (S' := [_,_,_,_,_,_,_,_,_,_,_,_]) rfl (wc_seq (wc_seq (wc_region ?_))))))))))))))
     refine wP rfl (wl_nil (we_then (wc_block (wc_loop (σ := List Cel × Nat) (fun s => s.2 ≤ 64 ∧ s.1.length = 64) (fun s => 64 - s.2) (fun s => [(13, .int .i64 ((s.2 : Nat) : Int)), (12, .slice (some ⟨g129,0, none⟩) 64 64), (126, .bool (decide (((s7.2.2 : Nat) : Int) < ((hs.length : Nat) : Int)))), (11, .int .i64 ((s7.2.2 : Nat) : Int)), (76, .bool (decide (((s5 : Nat) : Int) < ((hs.length : Nat) : Int)))), (9, .int .i64 ((s5 : Nat) : Int)), (46, .bool (decide (((s3.2.2 : Nat) : Int) < ((hs.length : Nat) : Int)))), (6, .int .i64 ((s3.2.2 : Nat) : Int)), (5, .slice (some ⟨g42,0, none⟩) hs.length hs.length), (19, .bool (decide (((s1.2 : Nat) : Int) < ((hs.length : Nat) : Int)))), (3, .int .i64 ((s1.2 : Nat) : Int)), (2, .bool false), (0, .slice p hs.length c)]) (fun s => []) (fun s => [.own 31 6 celR (.slice (some ⟨g129,0, none⟩) 64 64) s.1, .own 22 1 hdrR (.slice (some ⟨g42,0, none⟩) hs.length hs.length) s7.1, .own 22 1 hdrR (.slice p hs.length c) hs, flatF 31 6 s7.2.1]) (List.replicate 64 (none : Cel), 0) ⟨Nat.zero_le _, by simp⟩ [13,12,126,11,76,9,46,6,5,19,3,2,0] rfl (asK [] rfl) rfl (fun s8 oks8 => (wc_seq (wc_seq (wc_region (wP rfl (wP rfl (wl_nil (we_then (wc_keep [131,13,12,126,11,76,9,46,6,5,19,3,2,0] (S' := [_,_,_,_,_,_,_,_,_,_,_,_,_,_]) rfl ?_)))))))))))))
     refine wc_cond rfl (fun h131 => ?_) (fun h131 => ?_)
     ·
      replace h131 := of_decide_eq_true h131
      refine wc_skip (we_then (wc_seq (wc_block (wc_region (wP rfl (wP rfl (wP rfl (wP rfl (wN rfl tE_50 (wP rfl (wl_as (d := 139) (v' := .int .i64 ((s7.2.2 + hs.length : Nat) : Int)) (S' := [_,_,_,_,_,_,_,_,_,_,_,_,_,_,_,_,_,_,_]) rfl rfl (nat_add (a := s7.2.2) (b := hs.length) (by omega)) (wP rfl (wC [] [0,1,2,3] rfl fn_24 rfl (z_markSession_s ((s7.2.2 + hs.length : Nat) : Int) ((s8.2 : Nat) : Int)) (asK [] rfl) rfl (H' := [_,_,_,_]) rfl ?_)))))))))))))
      rintro _ _ _ ⟨rfl, rfl, rfl⟩
      refine wl_indexK 0 s8.2 rfl rfl rfl (freshS_eq rfl) rfl rfl rfl rfl rfl (by rw [oks8.2]; omega) tE_22 tS_31 (wl_storeRow (u := some ([.int .i64 (z_markSession ((s7.2.2 + hs.length : Nat) : Int) ((s8.2 : Nat) : Int)), .int .i64 0, .int .i64 0, .int .i64 0, .slice none 0 0, .slice none 0 0] : List Value)) 0 s8.2 rfl rfl rfl rfl rfl (by rw [oks8.2]; omega) rfl rfl tS_31 rfl (fun _ _ _ => cel_some rfl) (H' := [_,_,_,_]) rfl (wl_nil (we_block_normal (we_then (wc_region (wP rfl (wP rfl (wl_as (d := 133) (v' := .int .i64 ((s8.2 + 1 : Nat) : Int)) (S' := [_,_,_,_,_,_,_,_,_,_,_,_,_,_,_,_,_,_,_,_,_,_,_,_]) rfl rfl (nat_add (a := s8.2) (b := 1) (by omega)) (wl_pure (S' := [_,_,_,_,_,_,_,_,_,_,_,_,_,_,_,_,_,_,_,_,_,_,_,_]) rfl rfl rfl rfl rfl (wl_nil ?_))))))))))
      refine we_round (s8.1.set s8.2 (some ([.int .i64 (z_markSession ((s7.2.2 + hs.length : Nat) : Int) ((s8.2 : Nat) : Int)), .int .i64 0, .int .i64 0, .int .i64 0, .slice none 0 0, .slice none 0 0] : List Value)), s8.2 + 1) (by show 64 - (s8.2 + 1) < _; omega) ⟨by show s8.2 + 1 ≤ 64; omega, by show (List.set _ _ _).length = 64; rw [List.length_set]; exact oks8.2⟩ [13,12,126,11,76,9,46,6,5,19,3,2,0] rfl (asK [] rfl) rfl
     ·
      replace h131 := of_decide_eq_false h131
      refine wc_exit (we_then_exit (we_then_exit (we_block_hit (we_then (wc_region (wP rfl (wP rfl (wP rfl (wP rfl (wl_indexH 2 s7.2.2 rfl rfl rfl (freshS_eq rfl) rfl rfl rfl rfl rfl hk7 tE_50 tS_22 (fun g147 eg147 => ?_)))))))))))
      subst eg147
      refine wl_loadRow hdr_opens 2 s7.2.2 0 rfl rfl rfl (freshS_eq rfl) rfl rfl rfl hy7 tS_22 tA_22 (v := fun _ => .slice y7.1 y7.2.1 y7.2.2) (fun _ => rfl) (fun _ => rfl) (fun _ _ => (wP rfl (wl_sh [_,_,_, flatF 31 6 (s7.2.1.set s7.2.2 ⟨r7.h, r7.l, r7.h, r7.l⟩)] (fun _ h => h.flReset 3 s7.2.2 rfl hr7) (wl_flAppO 3 s7.2.2 0 rfl rfl rfl (freshS_eq rfl) rfl rfl (set_eqT _ hr7) (by show _ = some (hdv r7.h); rw [hh7]; rfl) rfl rfl oks8.2 (by decide) tE_22 tR_31 rfl rfl (by show r7.l.length + _ ≤ _; rw [hl7, marks_len]; omega) (by show (r7.l.length + _) * _ ≤ _; rw [hl7, marks_len]; omega) (H2 := fun gh150 => [_,_,_, flatF 31 6 ((s7.2.1.set s7.2.2 ⟨r7.h, r7.l, r7.h, r7.l⟩).set s7.2.2 ⟨r7.h, r7.l, gh150, r7.l ++ s8.1⟩)]) (fun _ => rfl) (fun gh150 => (wl_drop 0 rfl (H' := [_,_,_]) rfl (wl_indexK 0 s7.2.2 rfl rfl rfl (freshS_eq rfl) rfl rfl rfl rfl rfl (by rw [oks7.2.2.1]; exact hk7) tE_50 tS_22 (wl_storeRow (u := gh150) 0 s7.2.2 rfl rfl rfl rfl rfl (by rw [oks7.2.2.1]; exact hk7) rfl rfl tS_22 rfl (fun _ _ _ => rfl) (H' := [_,_,_]) rfl (wl_nil (we_block_normal (we_then (wc_region (wP rfl (wP rfl (wl_as (d := 128) (v' := .int .i64 ((s7.2.2 + 1 : Nat) : Int)) (S' := [_,_,_,_,_,_,_,_,_,_,_,_,_,_,_,_,_,_,_,_,_,_,_,_]) rfl rfl (nat_add (a := s7.2.2) (b := 1) (by omega)) ?_)))))))))))))))
      refine wl_pure (S' := [_,_,_,_,_,_,_,_,_,_,_,_,_,_,_,_,_,_,_,_,_,_,_,_]) rfl rfl rfl rfl rfl (wl_nil ?_)
      refine we_round (s7.1.set s7.2.2 gh150, (s7.2.1.set s7.2.2 ⟨r7.h, r7.l, r7.h, r7.l⟩).set s7.2.2 ⟨r7.h, r7.l, gh150, r7.l ++ s8.1⟩, s7.2.2 + 1) (by show hs.length - (s7.2.2 + 1) < _; omega) ⟨by show s7.2.2 + 1 ≤ _; omega, oks7.2.app hy7 hr7 _ _⟩ [11,76,9,46,6,5,19,3,2,0] rfl (asK [] rfl) rfl
    ·
     replace h126 := of_decide_eq_false h126
     refine wc_exit (we_then_exit (we_then_exit (we_block_hit (we_then (wc_seq (wc_seq (wc_region (wP rfl (wl_nil (we_then (wc_block (wc_loop (σ := Nat) (fun s => s ≤ hs.length) (fun s => hs.length - s) (fun s => [(14, .int .i64 ((s : Nat) : Int)), (126, .bool (decide (((s7.2.2 : Nat) : Int) < ((hs.length : Nat) : Int)))), (11, .int .i64 ((s7.2.2 : Nat) : Int)), (76, .bool (decide (((s5 : Nat) : Int) < ((hs.length : Nat) : Int)))), (9, .int .i64 ((s5 : Nat) : Int)), (46, .bool (decide (((s3.2.2 : Nat) : Int) < ((hs.length : Nat) : Int)))), (6, .int .i64 ((s3.2.2 : Nat) : Int)), (5, .slice (some ⟨g42,0, none⟩) hs.length hs.length), (19, .bool (decide (((s1.2 : Nat) : Int) < ((hs.length : Nat) : Int)))), (3, .int .i64 ((s1.2 : Nat) : Int)), (2, .bool false), (0, .slice p hs.length c)]) (fun s => []) (fun s => [.own 22 1 hdrR (.slice (some ⟨g42,0, none⟩) hs.length hs.length) s7.1, .own 22 1 hdrR (.slice p hs.length c) hs, flatF 31 6 s7.2.1]) 0 (Nat.zero_le _) [14,126,11,76,9,46,6,5,19,3,2,0] rfl (asK [] rfl) rfl (fun s9 oks9 => (wc_seq ?_))))))))))))))
     refine wc_seq (wc_region (wP rfl (wP rfl (wN rfl tE_50 (wP rfl (wl_nil (we_then (wc_keep [155,14,126,11,76,9,46,6,5,19,3,2,0] (S' := [_,_,_,_,_,_,_,_,_,_,_,_,_]) rfl ?_))))))))
     refine wc_cond rfl (fun h155 => ?_) (fun h155 => ?_)
     ·
      replace h155 := of_decide_eq_true h155
      have hk9 : s9 < hs.length := by omega
      obtain ⟨y9, hy9⟩ : ∃ y, hs[s9]? = some y := ⟨_, List.getElem?_eq_getElem hk9⟩
      have hB9 : y9.2.1 ≤ 1073741824 := hb _ (List.mem_of_getElem? hy9)
      obtain ⟨r9, hr9, hh9, hl9, hg9, t9, hm9⟩ := oks7.2.look (by omega) hy9
      refine wc_flLen 2 rfl hr9 (fun hA9 hC9 => ?_)
      rw [hl9, marks_len] at hA9
      have hE9 := hC9
      rw [hm9, List.length_append, marks_len] at hE9
      refine wc_skip (we_then (wc_seq (wc_block (wc_seq (wc_region (wP rfl (wl_nil (we_then (wc_block (wc_loop (σ := Nat) (fun s => s ≤ y9.2.1) (fun s => y9.2.1 - s) (fun s => [(15, .int .i64 ((s : Nat) : Int)), (155, .bool (decide (((s9 : Nat) : Int) < ((hs.length : Nat) : Int)))), (14, .int .i64 ((s9 : Nat) : Int)), (126, .bool (decide (((s7.2.2 : Nat) : Int) < ((hs.length : Nat) : Int)))), (11, .int .i64 ((s7.2.2 : Nat) : Int)), (76, .bool (decide (((s5 : Nat) : Int) < ((hs.length : Nat) : Int)))), (9, .int .i64 ((s5 : Nat) : Int)), (46, .bool (decide (((s3.2.2 : Nat) : Int) < ((hs.length : Nat) : Int)))), (6, .int .i64 ((s3.2.2 : Nat) : Int)), (5, .slice (some ⟨g42,0, none⟩) hs.length hs.length), (19, .bool (decide (((s1.2 : Nat) : Int) < ((hs.length : Nat) : Int)))), (3, .int .i64 ((s1.2 : Nat) : Int)), (2, .bool false), (0, .slice p hs.length c)]) (fun s => []) (fun s => [.own 22 1 hdrR (.slice (some ⟨g42,0, none⟩) hs.length hs.length) s7.1, .own 22 1 hdrR (.slice p hs.length c) hs, flatF 31 6 s7.2.1]) 0 (Nat.zero_le _) [15,155,14,126,11,76,9,46,6,5,19,3,2,0] rfl (asK [] rfl) rfl (fun s10 oks10 => (wc_seq (wc_seq (wc_region ?_))))))))))))))
      refine wP rfl (wP rfl (wP rfl (wl_indexH 1 s9 rfl rfl rfl (freshS_eq rfl) rfl rfl rfl rfl rfl hk9 tE_50 tS_22 (fun g161 eg161 => ?_))))
      subst eg161
      refine wl_loadRow hdr_opens 1 s9 0 rfl rfl rfl (freshS_eq rfl) rfl rfl rfl hy9 tS_22 tA_22 (v := fun _ => .slice y9.1 y9.2.1 y9.2.2) (fun _ => rfl) (fun _ => rfl) (fun _ _ => (wN rfl tE_22 (wP rfl (wl_nil (we_then (wc_keep [164,15,155,14,126,11,76,9,46,6,5,19,3,2,0] (S' := [_,_,_,_,_,_,_,_,_,_,_,_,_,_,_]) rfl ?_))))))
      refine wc_cond rfl (fun h164 => ?_) (fun h164 => ?_)
      ·
       replace h164 := of_decide_eq_true h164
       refine wc_skip (we_then (wc_seq (wc_block (wc_seq (wc_draw [0,1,2,3,4,5,6,7,8,11,12,13,14,15,16,17,18,19,20,21,24,25] rfl rfl (fun hok => (xP hok 0 rfl (xP hok 1 rfl (wx_indexK hok 2 1 s9 rfl rfl rfl (freshS_eq rfl) rfl rfl rfl rfl rfl rfl hk9 tE_50 tS_22 (wx_loadRow hok 3 hdr_opens 1 s9 0 rfl rfl rfl (freshS_eq rfl) rfl rfl rfl rfl hy9 tS_22 tA_22 (v := .slice y9.1 y9.2.1 y9.2.2) rfl rfl (fun _ => (xP hok 4 rfl (wx_flIdxH hok 5 (p := y9.1) (m := y9.2.1) (cp := y9.2.2) 2 s9 s10 rfl rfl rfl (freshS_eq rfl) rfl rfl rfl hr9 hh9 rfl rfl rfl (by omega) (by rw [hl9, marks_len]) tE_22 tS_31 (fun g172 eg172 => (wx_flLoadH hok 6 2 s9 s10 rfl rfl rfl (freshS_eq rfl) rfl rfl rfl hr9 (hdr_eq hh9 eg172) rfl (cs := mc_markSession s9 s10) (by rw [hl9]; exact marks_at (by omega)) tS_31 tA_31 rfl (v := .agg #[.int .i64 (z_markSession ((s9 : Nat) : Int) ((s10 : Nat) : Int)), .int .i64 0, .int .i64 0, .int .i64 0, .slice none 0 0, .slice none 0 0]) rfl (xP hok 7 rfl ?_))))))))))))))))
       refine xP hok 8 rfl (xS hok 9 rfl (wC [] [0,1,2] rfl fn_24 rfl (z_markSession_s ((s9 : Nat) : Int) ((s10 : Nat) : Int)) (asK [] rfl) rfl (H' := [_,_,_]) rfl ?_))
       rintro _ _ _ ⟨rfl, rfl, rfl⟩
       refine wl_nil (we_x [] [2,1] rfl rfl (xS hok 10 rfl (wC [] [0,1,2] rfl fn_28 rfl (w_ropewalkkit_SameSession_n_s 2 (z_markSession ((s9 : Nat) : Int) ((s10 : Nat) : Int)) 0 0 0 (z_markSession ((s9 : Nat) : Int) ((s10 : Nat) : Int)) 0 0 0 _ (sm_SameSession _)) (asK [] rfl) rfl (H' := [_,_,_]) rfl ?_)))
       rintro _ _ _ ⟨rfl, rfl, rfl⟩
       refine wl_nil (we_x [] [1] rfl rfl (xP hok 11 rfl (xP hok 12 rfl (xP hok 13 rfl (xP hok 14 rfl (wx_indexK hok 15 0 s9 rfl rfl rfl (freshS_eq rfl) rfl rfl rfl rfl rfl rfl (by rw [oks7.2.2.1]; exact hk9) tE_50 tS_22 (wx_loadRow hok 16 hdr_opens 0 s9 0 rfl rfl rfl (freshS_eq rfl) rfl rfl rfl rfl hg9 tS_22 tA_22 (v := .slice r9.g.1 r9.g.2.1 r9.g.2.2) rfl rfl (fun _ => (xP hok 17 rfl (wx_flIdxG hok 18 (p := r9.g.1) (m := r9.g.2.1) (cp := r9.g.2.2) 2 s9 s10 rfl rfl rfl (freshS_eq rfl) rfl rfl rfl hr9 rfl rfl rfl rfl (by omega) hC9.symm tE_22 tS_31 (fun g185 eg185 => (wx_flLoadG hok 19 2 s9 s10 rfl rfl rfl (freshS_eq rfl) rfl rfl rfl hr9 (hdr_eqG eg185) rfl (cs := mc_markSession s9 s10) (by rw [hm9]; exact app_at (by omega)) tS_31 tA_31 rfl (v := .agg #[.int .i64 (z_markSession ((s9 : Nat) : Int) ((s10 : Nat) : Int)), .int .i64 0, .int .i64 0, .int .i64 0, .slice none 0 0, .slice none 0 0]) rfl (xP hok 20 rfl (xP hok 21 rfl (xS hok 22 rfl ?_)))))))))))))))
       refine wC [] [0,1,2] rfl fn_24 rfl (z_markSession_s ((s9 : Nat) : Int) ((s10 : Nat) : Int)) (asK [] rfl) rfl (H' := [_,_,_]) rfl ?_
       rintro _ _ _ ⟨rfl, rfl, rfl⟩
       refine wl_nil (we_x [] [2,0,2,1] rfl rfl (xS hok 23 rfl (wC [] [0,1,2] rfl fn_28 rfl (w_ropewalkkit_SameSession_n_s 2 (z_markSession ((s9 : Nat) : Int) ((s10 : Nat) : Int)) 0 0 0 (z_markSession ((s9 : Nat) : Int) ((s10 : Nat) : Int)) 0 0 0 _ (sm_SameSession _)) (asK [] rfl) rfl (H' := [_,_,_]) rfl ?_)))
       rintro _ _ _ ⟨rfl, rfl, rfl⟩
       refine wl_nil (we_x [] [0,2,1] rfl rfl (xP hok 24 rfl (xP hok 25 rfl (wx_done hok rfl (we_then (wc_keep [192,164,15,155,14,126,11,76,9,46,6,5,19,3,2,0] (S' := [_,_,_,_,_,_,_,_,_,_,_,_,_,_,_,_]) rfl (wc_false rfl (wc_skip (we_block_normal (we_then (wc_region (wP rfl (wP rfl ?_)))))))))))))
       refine wl_as (d := 166) (v' := .int .i64 ((s10 + 1 : Nat) : Int)) (S' := [_,_,_,_,_,_,_,_,_,_,_,_,_,_,_,_,_]) rfl rfl (nat_add (a := s10) (b := 1) (by omega)) (wl_pure (S' := [_,_,_,_,_,_,_,_,_,_,_,_,_,_,_,_,_]) rfl rfl rfl rfl rfl (wl_nil ?_))
       refine we_round (s10 + 1) (by omega) (by omega) [15,155,14,126,11,76,9,46,6,5,19,3,2,0] rfl (asK [] rfl) rfl
      ·
       replace h164 := of_decide_eq_false h164
       refine wc_exit (we_then_exit (we_then_exit (we_block_hit (we_block_normal (we_then (wc_region (wP rfl (wP rfl (wl_as (d := 157) (v' := .int .i64 ((s9 + 1 : Nat) : Int)) (S' := [_,_,_,_,_,_,_,_,_,_,_,_,_,_,_,_]) rfl rfl (nat_add (a := s9) (b := 1) (by omega)) (wl_pure (S' := [_,_,_,_,_,_,_,_,_,_,_,_,_,_,_,_]) rfl rfl rfl rfl rfl (wl_nil ?_)))))))))))
       refine we_round (s9 + 1) (by omega) (by omega) [14,126,11,76,9,46,6,5,19,3,2,0] rfl (asK [] rfl) rfl
     ·
      replace h155 := of_decide_eq_false h155
      refine wc_exit (we_then_exit (we_then_exit (we_block_hit (we_then (wc_seq (wc_region (wl_pure (S' := [_,_,_,_,_,_,_,_,_,_,_,_]) rfl rfl rfl rfl rfl (wl_nil (we_then (wc_ret (ret_one (Hr := [flatF 31 6 s7.2.1]) [2] Tryz.results89 (res_tmp rfl) ?_ (asK [] rfl) rfl rfl (.inl rfl))))))))))))
      exact ⟨_, oks7.2.left, rfl, rfl, rfl⟩
theorem ap_apart (g : Nat) (p6 : Option Addr) (c6 : Nat) (h6 : List Hdr) (p7 : Option Addr) (c7 : Nat) (h7 : List Hdr) (p19 : Option Addr) (c19 : Nat) (h19 : List Hdr) (p26 : Option Addr) (c26 : Nat) (h26 : List Hdr) (hL6 : h6.length ≤ 1073741824) (hB6 : Bd h6) (hL7 : h7.length ≤ 1073741824) (hB7 : Bd h7) (hL19 : h19.length ≤ 1073741824) (hB19 : Bd h19) (hL26 : h26.length ≤ 1073741824) (hB26 : Bd h26) : Spec Tryz.prog 44 [.pointer (some ⟨g, 0, none⟩)] [] [.blk g [.slice none 0 0, .slice none 0 0, .slice none 0 0, .slice none 0 0, .slice none 0 0, .slice none 0 0, .slice p6 h6.length c6, .slice p7 h7.length c7, .slice none 0 0, .slice none 0 0, .slice none 0 0, .slice none 0 0, .slice none 0 0, .slice none 0 0, .slice none 0 0, .slice none 0 0, .slice none 0 0, .slice none 0 0, .slice none 0 0, .slice p19 h19.length c19, .slice none 0 0, .slice none 0 0, .slice none 0 0, .slice none 0 0, .slice none 0 0, .slice none 0 0, .slice p26 h26.length c26, .slice none 0 0, .slice none 0 0] 109, .own 27 1 hdrR (.slice p6 h6.length c6) h6, flatF 149 3 (h6.map row0), .own 26 1 hdrR (.slice p7 h7.length c7) h7, flatF 55 3 (h7.map row0), .own 77 1 hdrR (.slice p19 h19.length c19) h19, flatF 29 4 (h19.map row0), .own 22 1 hdrR (.slice p26 h26.length c26) h26, flatF 31 6 (h26.map row0)] (fun v Φr Hr => ∃ (r6 : List Twin) (r7 : List Twin) (r19 : List Twin) (r26 : List Twin), FlE h6 mc_markValue r6 ∧ FlE h7 mc_markFact r7 ∧ FlE h19 mc_markReply r19 ∧ FlE h26 mc_markSession r26 ∧ v = .bool true ∧ Φr = [] ∧ Hr = [flatF 149 3 r6, flatF 55 3 r7, flatF 29 4 r19, flatF 31 6 r26]) := by
 refine spec_of Tryz.func44 rfl Tryz.ntmps44 rfl (S := [_]) rfl (fun C => (wc_seq (wc_region (wP rfl (wl_nil (we_then (wc_seq (wc_region (wP rfl (wP rfl (wF rfl tF_109_0 (wD 0 0 rfl tS_81 tA_81 rfl (wC [] [0,1,2,3,4,5,6,7,8] rfl fn_63 rfl (nil_flat Tryz.func63 rfl Tryz.ntmps63 Tryz.results63 rfl (by kernel_rfl)) (asK [] rfl) rfl (H' := [_,_,_,_,_,_,_,_,_]) rfl ?_)))))))))))))
 rintro _ _ _ ⟨rfl, rfl, rfl⟩
 refine wP rfl (wP rfl (wP rfl (wF rfl tF_109_1 (wD 0 1 rfl tS_82 tA_82 rfl (wC [] [0,1,2,3,4,5,6,7,8] rfl fn_64 rfl (nil_flat Tryz.func64 rfl Tryz.ntmps64 Tryz.results64 rfl (by kernel_rfl)) (asK [] rfl) rfl (H' := [_,_,_,_,_,_,_,_,_]) rfl ?_)))))
 rintro _ _ _ ⟨rfl, rfl, rfl⟩
 refine wP rfl (wP rfl (wP rfl (wP rfl (wF rfl tF_109_2 (wD 0 2 rfl tS_83 tA_83 rfl (wC [] [0,1,2,3,4,5,6,7,8] rfl fn_65 rfl (nil_flat Tryz.func65 rfl Tryz.ntmps65 Tryz.results65 rfl (by kernel_rfl)) (asK [] rfl) rfl (H' := [_,_,_,_,_,_,_,_,_]) rfl ?_))))))
 rintro _ _ _ ⟨rfl, rfl, rfl⟩
 refine wP rfl (wP rfl (wP rfl (wP rfl (wF rfl tF_109_3 (wD 0 3 rfl tS_84 tA_84 rfl (wC [] [0,1,2,3,4,5,6,7,8] rfl fn_66 rfl (nil_flat Tryz.func66 rfl Tryz.ntmps66 Tryz.results66 rfl (by kernel_rfl)) (asK [] rfl) rfl (H' := [_,_,_,_,_,_,_,_,_]) rfl ?_))))))
 rintro _ _ _ ⟨rfl, rfl, rfl⟩
 refine wP rfl (wP rfl (wP rfl (wP rfl (wF rfl tF_109_4 (wD 0 4 rfl tS_85 tA_85 rfl (wC [] [0,1,2,3,4,5,6,7,8] rfl fn_67 rfl (nil_flat Tryz.func67 rfl Tryz.ntmps67 Tryz.results67 rfl (by kernel_rfl)) (asK [] rfl) rfl (H' := [_,_,_,_,_,_,_,_,_]) rfl ?_))))))
 rintro _ _ _ ⟨rfl, rfl, rfl⟩
 refine wP rfl (wP rfl (wP rfl (wP rfl (wF rfl tF_109_5 (wD 0 5 rfl tS_86 tA_86 rfl (wC [] [0,1,2,3,4,5,6,7,8] rfl fn_68 rfl (nil_flat Tryz.func68 rfl Tryz.ntmps68 Tryz.results68 rfl (by kernel_rfl)) (asK [] rfl) rfl (H' := [_,_,_,_,_,_,_,_,_]) rfl ?_))))))
 rintro _ _ _ ⟨rfl, rfl, rfl⟩
 refine wP rfl (wP rfl (wP rfl (wP rfl (wF rfl tF_109_6 (wD 0 6 rfl tS_87 tA_87 rfl (wC [1,2] [0,3,4,5,6,7,8] rfl fn_69 rfl (fl_flatValues p6 c6 h6 hL6 hB6) (asK [] rfl) rfl (H' := [_,_,_,_,_,_,_]) rfl ?_))))))
 rintro _ _ _ ⟨r6, hE6, rfl, rfl, rfl⟩
 refine wP rfl (wP rfl (wP rfl (wP rfl (wF rfl tF_109_7 (wD 1 7 rfl tS_88 tA_88 rfl (wC [2,3] [0,1,4,5,6,7] rfl fn_70 rfl (fl_flatFacts p7 c7 h7 hL7 hB7) (asK [] rfl) rfl (H' := [_,_,_,_,_,_]) rfl ?_))))))
 rintro _ _ _ ⟨r7, hE7, rfl, rfl, rfl⟩
 refine wP rfl (wP rfl (wP rfl (wP rfl (wF rfl tF_109_8 (wD 2 8 rfl tS_89 tA_89 rfl (wC [] [0,1,2,3,4,5,6] rfl fn_71 rfl (nil_flat Tryz.func71 rfl Tryz.ntmps71 Tryz.results71 rfl (by kernel_rfl)) (asK [] rfl) rfl (H' := [_,_,_,_,_,_,_]) rfl ?_))))))
 rintro _ _ _ ⟨rfl, rfl, rfl⟩
 refine wP rfl (wP rfl (wP rfl (wP rfl (wF rfl tF_109_9 (wD 2 9 rfl tS_90 tA_90 rfl (wC [] [0,1,2,3,4,5,6] rfl fn_72 rfl (nil_flat Tryz.func72 rfl Tryz.ntmps72 Tryz.results72 rfl (by kernel_rfl)) (asK [] rfl) rfl (H' := [_,_,_,_,_,_,_]) rfl ?_))))))
 rintro _ _ _ ⟨rfl, rfl, rfl⟩
 refine wP rfl (wP rfl (wP rfl (wP rfl (wF rfl tF_109_10 (wD 2 10 rfl tS_91 tA_91 rfl (wC [] [0,1,2,3,4,5,6] rfl fn_73 rfl (nil_flat Tryz.func73 rfl Tryz.ntmps73 Tryz.results73 rfl (by kernel_rfl)) (asK [] rfl) rfl (H' := [_,_,_,_,_,_,_]) rfl ?_))))))
 rintro _ _ _ ⟨rfl, rfl, rfl⟩
 refine wP rfl (wP rfl (wP rfl (wP rfl (wF rfl tF_109_11 (wD 2 11 rfl tS_92 tA_92 rfl (wC [] [0,1,2,3,4,5,6] rfl fn_74 rfl (nil_flat Tryz.func74 rfl Tryz.ntmps74 Tryz.results74 rfl (by kernel_rfl)) (asK [] rfl) rfl (H' := [_,_,_,_,_,_,_]) rfl ?_))))))
 rintro _ _ _ ⟨rfl, rfl, rfl⟩
 refine wP rfl (wP rfl (wP rfl (wP rfl (wF rfl tF_109_12 (wD 2 12 rfl tS_93 tA_93 rfl (wC [] [0,1,2,3,4,5,6] rfl fn_75 rfl (nil_flat Tryz.func75 rfl Tryz.ntmps75 Tryz.results75 rfl (by kernel_rfl)) (asK [] rfl) rfl (H' := [_,_,_,_,_,_,_]) rfl ?_))))))
 rintro _ _ _ ⟨rfl, rfl, rfl⟩
 refine wP rfl (wP rfl (wP rfl (wP rfl (wF rfl tF_109_13 (wD 2 13 rfl tS_94 tA_94 rfl (wC [] [0,1,2,3,4,5,6] rfl fn_76 rfl (nil_flat Tryz.func76 rfl Tryz.ntmps76 Tryz.results76 rfl (by kernel_rfl)) (asK [] rfl) rfl (H' := [_,_,_,_,_,_,_]) rfl ?_))))))
 rintro _ _ _ ⟨rfl, rfl, rfl⟩
 refine wP rfl (wP rfl (wP rfl (wP rfl (wF rfl tF_109_14 (wD 2 14 rfl tS_95 tA_95 rfl (wC [] [0,1,2,3,4,5,6] rfl fn_77 rfl (nil_flat Tryz.func77 rfl Tryz.ntmps77 Tryz.results77 rfl (by kernel_rfl)) (asK [] rfl) rfl (H' := [_,_,_,_,_,_,_]) rfl ?_))))))
 rintro _ _ _ ⟨rfl, rfl, rfl⟩
 refine wP rfl (wP rfl (wP rfl (wP rfl (wF rfl tF_109_15 (wD 2 15 rfl tS_96 tA_96 rfl (wC [] [0,1,2,3,4,5,6] rfl fn_78 rfl (nil_flat Tryz.func78 rfl Tryz.ntmps78 Tryz.results78 rfl (by kernel_rfl)) (asK [] rfl) rfl (H' := [_,_,_,_,_,_,_]) rfl ?_))))))
 rintro _ _ _ ⟨rfl, rfl, rfl⟩
 refine wP rfl (wP rfl (wP rfl (wP rfl (wF rfl tF_109_16 (wD 2 16 rfl tS_97 tA_97 rfl (wC [] [0,1,2,3,4,5,6] rfl fn_79 rfl (nil_flat Tryz.func79 rfl Tryz.ntmps79 Tryz.results79 rfl (by kernel_rfl)) (asK [] rfl) rfl (H' := [_,_,_,_,_,_,_]) rfl ?_))))))
 rintro _ _ _ ⟨rfl, rfl, rfl⟩
 refine wP rfl (wP rfl (wP rfl (wP rfl (wF rfl tF_109_17 (wD 2 17 rfl tS_98 tA_98 rfl (wC [] [0,1,2,3,4,5,6] rfl fn_80 rfl (nil_flat Tryz.func80 rfl Tryz.ntmps80 Tryz.results80 rfl (by kernel_rfl)) (asK [] rfl) rfl (H' := [_,_,_,_,_,_,_]) rfl ?_))))))
 rintro _ _ _ ⟨rfl, rfl, rfl⟩
 refine wP rfl (wP rfl (wP rfl (wP rfl (wF rfl tF_109_18 (wD 2 18 rfl tS_99 tA_99 rfl (wC [] [0,1,2,3,4,5,6] rfl fn_81 rfl (nil_flat Tryz.func81 rfl Tryz.ntmps81 Tryz.results81 rfl (by kernel_rfl)) (asK [] rfl) rfl (H' := [_,_,_,_,_,_,_]) rfl ?_))))))
 rintro _ _ _ ⟨rfl, rfl, rfl⟩
 refine wP rfl (wP rfl (wP rfl (wP rfl (wF rfl tF_109_19 (wD 2 19 rfl tS_78 tA_78 rfl (wC [3,4] [0,1,2,5,6] rfl fn_82 rfl (fl_flatReplies p19 c19 h19 hL19 hB19) (asK [] rfl) rfl (H' := [_,_,_,_,_]) rfl ?_))))))
 rintro _ _ _ ⟨r19, hE19, rfl, rfl, rfl⟩
 refine wP rfl (wP rfl (wP rfl (wP rfl (wF rfl tF_109_20 (wD 3 20 rfl tS_100 tA_100 rfl (wC [] [0,1,2,3,4,5] rfl fn_83 rfl (nil_flat Tryz.func83 rfl Tryz.ntmps83 Tryz.results83 rfl (by kernel_rfl)) (asK [] rfl) rfl (H' := [_,_,_,_,_,_]) rfl ?_))))))
 rintro _ _ _ ⟨rfl, rfl, rfl⟩
 refine wP rfl (wP rfl (wP rfl (wP rfl (wF rfl tF_109_21 (wD 3 21 rfl tS_101 tA_101 rfl (wC [] [0,1,2,3,4,5] rfl fn_84 rfl (nil_flat Tryz.func84 rfl Tryz.ntmps84 Tryz.results84 rfl (by kernel_rfl)) (asK [] rfl) rfl (H' := [_,_,_,_,_,_]) rfl ?_))))))
 rintro _ _ _ ⟨rfl, rfl, rfl⟩
 refine wP rfl (wP rfl (wP rfl (wP rfl (wF rfl tF_109_22 (wD 3 22 rfl tS_102 tA_102 rfl (wC [] [0,1,2,3,4,5] rfl fn_85 rfl (nil_flat Tryz.func85 rfl Tryz.ntmps85 Tryz.results85 rfl (by kernel_rfl)) (asK [] rfl) rfl (H' := [_,_,_,_,_,_]) rfl ?_))))))
 rintro _ _ _ ⟨rfl, rfl, rfl⟩
 refine wP rfl (wP rfl (wP rfl (wP rfl (wF rfl tF_109_23 (wD 3 23 rfl tS_103 tA_103 rfl (wC [] [0,1,2,3,4,5] rfl fn_86 rfl (nil_flat Tryz.func86 rfl Tryz.ntmps86 Tryz.results86 rfl (by kernel_rfl)) (asK [] rfl) rfl (H' := [_,_,_,_,_,_]) rfl ?_))))))
 rintro _ _ _ ⟨rfl, rfl, rfl⟩
 refine wP rfl (wP rfl (wP rfl (wP rfl (wF rfl tF_109_24 (wD 3 24 rfl tS_104 tA_104 rfl (wC [] [0,1,2,3,4,5] rfl fn_87 rfl (nil_flat Tryz.func87 rfl Tryz.ntmps87 Tryz.results87 rfl (by kernel_rfl)) (asK [] rfl) rfl (H' := [_,_,_,_,_,_]) rfl ?_))))))
 rintro _ _ _ ⟨rfl, rfl, rfl⟩
 refine wP rfl (wP rfl (wP rfl (wP rfl (wF rfl tF_109_25 (wD 3 25 rfl tS_105 tA_105 rfl (wC [] [0,1,2,3,4,5] rfl fn_88 rfl (nil_flat Tryz.func88 rfl Tryz.ntmps88 Tryz.results88 rfl (by kernel_rfl)) (asK [] rfl) rfl (H' := [_,_,_,_,_,_]) rfl ?_))))))
 rintro _ _ _ ⟨rfl, rfl, rfl⟩
 refine wP rfl (wP rfl (wP rfl (wP rfl (wF rfl tF_109_26 (wD 3 26 rfl tS_50 tA_50 rfl (wC [4,5] [0,1,2,3] rfl fn_89 rfl (fl_flatSessions p26 c26 h26 hL26 hB26) (asK [] rfl) rfl (H' := [_,_,_,_]) rfl ?_))))))
 rintro _ _ _ ⟨r26, hE26, rfl, rfl, rfl⟩
 refine wP rfl (wP rfl (wP rfl (wP rfl (wF rfl tF_109_27 (wD 4 27 rfl tS_106 tA_106 rfl (wC [] [0,1,2,3,4] rfl fn_90 rfl (nil_flat Tryz.func90 rfl Tryz.ntmps90 Tryz.results90 rfl (by kernel_rfl)) (asK [] rfl) rfl (H' := [_,_,_,_,_]) rfl ?_))))))
 rintro _ _ _ ⟨rfl, rfl, rfl⟩
 refine wP rfl (wP rfl (wP rfl (wP rfl (wF rfl tF_109_28 (wD 4 28 rfl tS_107 tA_107 rfl (wC [] [0,1,2,3,4] rfl fn_91 rfl (nil_flat Tryz.func91 rfl Tryz.ntmps91 Tryz.results91 rfl (by kernel_rfl)) (asK [] rfl) rfl (H' := [_,_,_,_,_]) rfl ?_))))))
 rintro _ _ _ ⟨rfl, rfl, rfl⟩
 refine wP rfl (wl_pure (S' := [_,_,_,_,_,_,_,_,_,_,_,_,_,_,_,_,_,_,_,_,_,_,_,_,_,_,_,_,_,_,_,_,_,_,_,_,_,_,_,_,_,_,_,_,_,_,_,_,_,_,_,_,_,_,_,_,_,_,_,_,_,_,_,_,_,_,_,_,_,_,_,_,_,_,_,_,_,_,_,_,_,_,_,_,_,_,_,_,_,_,_,_,_,_,_,_,_,_,_,_,_,_,_,_,_,_,_,_,_,_,_,_,_,_,_,_,_,_,_,_,_,_,_,_,_,_,_,_,_,_,_,_,_,_,_,_,_,_,_,_,_,_,_,_,_,_,_,_,_,_,_,_,_,_,_,_,_,_,_,_,_,_,_,_,_,_,_,_,_,_,_,_,_,_,_,_,_,_,_,_,_,_,_,_,_,_,_,_,_,_,_,_,_,_,_,_,_,_,_,_,_,_]) rfl rfl rfl rfl rfl (wl_nil (we_then (wc_keep [2,0] (S' := [_,_]) rfl (wc_ret (ret_one (Hr := [flatF 149 3 r6, flatF 55 3 r7, flatF 29 4 r19, flatF 31 6 r26]) [3,2,1,0] Tryz.results44 (res_tmp rfl) ?_ (asK [] rfl) rfl rfl (.inl rfl)))))))
 exact ⟨_,_,_,_, hE6, hE7, hE19, hE26, rfl, rfl, rfl⟩
theorem ap_ApartReplies (p : Option Addr) (n c : Nat) (zs : List ((List ReplyD) × (Option Addr × Nat))) (hzn : n = zs.length) (hz8 : zs.length ≤ 8) (hx : ∀ z ∈ zs, z.1.length ≤ 10000 ∧ ∀ y ∈ z.1, sz_ReplyD y) : Spec Tryz.prog 39 [.slice p n c] [] [.own 77 1 T_l_ReplyD.pair (.slice p n c) zs, bagF T_l_ReplyD (zs.drop 0) none] (fun v Φr Hr => ∃ (r6 : List Twin) (r7 : List Twin) (r19 : List Twin) (r26 : List Twin), v = .bool true ∧ Φr = [] ∧ Hr = [flatF 149 3 r6, flatF 55 3 r7, flatF 29 4 r19, flatF 31 6 r26]) := by
 subst hzn
 refine spec_of Tryz.func39 rfl Tryz.ntmps39 rfl (S := [_]) rfl (fun C => (wc_seq (wc_region (wP rfl (wl_nil (we_then (wc_seq (wc_region (wl_build rfl rfl rfl (freshS_eq rfl) rfl tZ_109 tP_109 rfl (out := [_,_,_,_,_,_,_,_,_,_,_,_,_,_,_,_,_,_,_,_,_,_,_,_,_,_,_,_,_]) rfl (wB rfl (fun g6 => (wP rfl (wl_nil (we_then (wc_keep [3,2,0] (S' := [_,_,_]) rfl ?_)))))))))))))))
 refine wc_seq (wc_seq (wc_region (wP rfl (wl_nil (we_then (wc_block (wc_sh [flatF 31 6 [], .blk g6 [.slice none 0 0, .slice none 0 0, .slice none 0 0, .slice none 0 0, .slice none 0 0, .slice none 0 0, .slice none 0 0, .slice none 0 0, .slice none 0 0, .slice none 0 0, .slice none 0 0, .slice none 0 0, .slice none 0 0, .slice none 0 0, .slice none 0 0, .slice none 0 0, .slice none 0 0, .slice none 0 0, .slice none 0 0, .slice none 0 0, .slice none 0 0, .slice none 0 0, .slice none 0 0, .slice none 0 0, .slice none 0 0, .slice none 0 0, .slice none 0 0, .slice none 0 0, .slice none 0 0] 109, .own 77 1 T_l_ReplyD.pair (.slice p zs.length c) zs, bagF T_l_ReplyD (zs.drop 0) none] (fun _ h => h.flNil 31 6) (wc_rowNil 22 1 hdrR (wc_sh [flatF 29 4 [], .own 22 1 hdrR (.slice none 0 0) [], flatF 31 6 [], .blk g6 [.slice none 0 0, .slice none 0 0, .slice none 0 0, .slice none 0 0, .slice none 0 0, .slice none 0 0, .slice none 0 0, .slice none 0 0, .slice none 0 0, .slice none 0 0, .slice none 0 0, .slice none 0 0, .slice none 0 0, .slice none 0 0, .slice none 0 0, .slice none 0 0, .slice none 0 0, .slice none 0 0, .slice none 0 0, .slice none 0 0, .slice none 0 0, .slice none 0 0, .slice none 0 0, .slice none 0 0, .slice none 0 0, .slice none 0 0, .slice none 0 0, .slice none 0 0, .slice none 0 0] 109, .own 77 1 T_l_ReplyD.pair (.slice p zs.length c) zs, bagF T_l_ReplyD (zs.drop 0) none] (fun _ h => h.flNil 29 4) (wc_rowNil 77 1 hdrR (wc_sh [flatF 55 3 [], .own 77 1 hdrR (.slice none 0 0) [], flatF 29 4 [], .own 22 1 hdrR (.slice none 0 0) [], flatF 31 6 [], .blk g6 [.slice none 0 0, .slice none 0 0, .slice none 0 0, .slice none 0 0, .slice none 0 0, .slice none 0 0, .slice none 0 0, .slice none 0 0, .slice none 0 0, .slice none 0 0, .slice none 0 0, .slice none 0 0, .slice none 0 0, .slice none 0 0, .slice none 0 0, .slice none 0 0, .slice none 0 0, .slice none 0 0, .slice none 0 0, .slice none 0 0, .slice none 0 0, .slice none 0 0, .slice none 0 0, .slice none 0 0, .slice none 0 0, .slice none 0 0, .slice none 0 0, .slice none 0 0, .slice none 0 0] 109, .own 77 1 T_l_ReplyD.pair (.slice p zs.length c) zs, bagF T_l_ReplyD (zs.drop 0) none] (fun _ h => h.flNil 55 3) (wc_rowNil 26 1 hdrR (wc_sh [flatF 149 3 [], .own 26 1 hdrR (.slice none 0 0) [], flatF 55 3 [], .own 77 1 hdrR (.slice none 0 0) [], flatF 29 4 [], .own 22 1 hdrR (.slice none 0 0) [], flatF 31 6 [], .blk g6 [.slice none 0 0, .slice none 0 0, .slice none 0 0, .slice none 0 0, .slice none 0 0, .slice none 0 0, .slice none 0 0, .slice none 0 0, .slice none 0 0, .slice none 0 0, .slice none 0 0, .slice none 0 0, .slice none 0 0, .slice none 0 0, .slice none 0 0, .slice none 0 0, .slice none 0 0, .slice none 0 0, .slice none 0 0, .slice none 0 0, .slice none 0 0, .slice none 0 0, .slice none 0 0, .slice none 0 0, .slice none 0 0, .slice none 0 0, .slice none 0 0, .slice none 0 0, .slice none 0 0] 109, .own 77 1 T_l_ReplyD.pair (.slice p zs.length c) zs, bagF T_l_ReplyD (zs.drop 0) none] (fun _ h => h.flNil 149 3) ?_)))))))))))))
 refine wc_rowNil 27 1 hdrR (wc_loop (σ := Option Addr × Nat × List Hdr × Option Addr × Nat × List Hdr × Option Addr × Nat × List Hdr × Option Addr × Nat × List Hdr × Nat) (fun s => s.2.2.2.2.2.2.2.2.2.2.2.2 ≤ zs.length ∧ s.2.2.1.length ≤ s.2.2.2.2.2.2.2.2.2.2.2.2 * 100010000 ∧ Bd s.2.2.1 ∧ s.2.2.2.2.2.1.length ≤ s.2.2.2.2.2.2.2.2.2.2.2.2 * 10000 ∧ Bd s.2.2.2.2.2.1 ∧ s.2.2.2.2.2.2.2.2.1.length ≤ s.2.2.2.2.2.2.2.2.2.2.2.2 * 1 ∧ Bd s.2.2.2.2.2.2.2.2.1 ∧ s.2.2.2.2.2.2.2.2.2.2.2.1.length ≤ s.2.2.2.2.2.2.2.2.2.2.2.2 * 0 ∧ Bd s.2.2.2.2.2.2.2.2.2.2.2.1) (fun s => zs.length - s.2.2.2.2.2.2.2.2.2.2.2.2) (fun s => [(4, .int .i64 ((s.2.2.2.2.2.2.2.2.2.2.2.2 : Nat) : Int)), (3, .pointer (some ⟨g6,0, none⟩)), (2, .bool false), (0, .slice p zs.length c)]) (fun s => []) (fun s => [.own 27 1 hdrR (.slice s.1 s.2.2.1.length s.2.1) s.2.2.1, flatF 149 3 (s.2.2.1.map row0), .own 26 1 hdrR (.slice s.2.2.2.1 s.2.2.2.2.2.1.length s.2.2.2.2.1) s.2.2.2.2.2.1, flatF 55 3 (s.2.2.2.2.2.1.map row0), .own 77 1 hdrR (.slice s.2.2.2.2.2.2.1 s.2.2.2.2.2.2.2.2.1.length s.2.2.2.2.2.2.2.1) s.2.2.2.2.2.2.2.2.1, flatF 29 4 (s.2.2.2.2.2.2.2.2.1.map row0), .own 22 1 hdrR (.slice s.2.2.2.2.2.2.2.2.2.1 s.2.2.2.2.2.2.2.2.2.2.2.1.length s.2.2.2.2.2.2.2.2.2.2.1) s.2.2.2.2.2.2.2.2.2.2.2.1, flatF 31 6 (s.2.2.2.2.2.2.2.2.2.2.2.1.map row0), .blk g6 [.slice none 0 0, .slice none 0 0, .slice none 0 0, .slice none 0 0, .slice none 0 0, .slice none 0 0, .slice s.1 s.2.2.1.length s.2.1, .slice s.2.2.2.1 s.2.2.2.2.2.1.length s.2.2.2.2.1, .slice none 0 0, .slice none 0 0, .slice none 0 0, .slice none 0 0, .slice none 0 0, .slice none 0 0, .slice none 0 0, .slice none 0 0, .slice none 0 0, .slice none 0 0, .slice none 0 0, .slice s.2.2.2.2.2.2.1 s.2.2.2.2.2.2.2.2.1.length s.2.2.2.2.2.2.2.1, .slice none 0 0, .slice none 0 0, .slice none 0 0, .slice none 0 0, .slice none 0 0, .slice none 0 0, .slice s.2.2.2.2.2.2.2.2.2.1 s.2.2.2.2.2.2.2.2.2.2.2.1.length s.2.2.2.2.2.2.2.2.2.2.1, .slice none 0 0, .slice none 0 0] 109, .own 77 1 T_l_ReplyD.pair (.slice p zs.length c) zs, bagF T_l_ReplyD (zs.drop s.2.2.2.2.2.2.2.2.2.2.2.2) none]) (none, 0,[], none, 0,[], none, 0,[], none, 0,[],0) ⟨Nat.zero_le _, Nat.zero_le _, Bd.nil, Nat.zero_le _, Bd.nil, Nat.zero_le _, Bd.nil, Nat.zero_le _, Bd.nil⟩ [4,3,2,0] rfl (asK [] rfl) rfl (fun s1 oks1 => (wc_seq (wc_seq (wc_region (wP rfl (wP rfl (wN rfl tE_78 (wP rfl (wl_nil (we_then (wc_keep [10,4,3,2,0] (S' := [_,_,_,_,_]) rfl ?_))))))))))))
 refine wc_cond rfl (fun h10 => ?_) (fun h10 => ?_)
 ·
  replace h10 := of_decide_eq_true h10
  obtain ⟨hi2, hl6, hb6, hl7, hb7, hl19, hb19, hl26, hb26⟩ := oks1
  have hi1 : s1.2.2.2.2.2.2.2.2.2.2.2.2 < zs.length := by omega
  obtain ⟨z1, hz1⟩ : ∃ z, zs[s1.2.2.2.2.2.2.2.2.2.2.2.2]? = some z := ⟨_, List.getElem?_eq_getElem hi1⟩
  have hxs := hx z1 (List.mem_of_getElem? hz1)
  refine wc_skip (we_then (wc_seq (wc_block (wc_region (wP rfl (wP rfl (wP rfl (wl_indexH 9 s1.2.2.2.2.2.2.2.2.2.2.2.2 rfl rfl rfl (freshS_eq rfl) rfl rfl rfl rfl rfl hi1 tE_78 tS_77 (fun g16 eg16 => ?_)))))))))
  subst eg16
  refine wl_loadRow pair_opens 9 s1.2.2.2.2.2.2.2.2.2.2.2.2 0 rfl rfl rfl (freshS_eq rfl) rfl rfl rfl hz1 tS_77 tA_77 (v := fun _ => .slice z1.2.1 z1.1.length z1.2.2) (fun _ => rfl) (fun _ => rfl) (fun _ _ => (wl_sh [treeF T_ReplyD 29 4 (.slice z1.2.1 z1.1.length z1.2.2) z1.1, .own 27 1 hdrR (.slice s1.1 s1.2.2.1.length s1.2.1) s1.2.2.1, flatF 149 3 (s1.2.2.1.map row0), .own 26 1 hdrR (.slice s1.2.2.2.1 s1.2.2.2.2.2.1.length s1.2.2.2.2.1) s1.2.2.2.2.2.1, flatF 55 3 (s1.2.2.2.2.2.1.map row0), .own 77 1 hdrR (.slice s1.2.2.2.2.2.2.1 s1.2.2.2.2.2.2.2.2.1.length s1.2.2.2.2.2.2.2.1) s1.2.2.2.2.2.2.2.2.1, flatF 29 4 (s1.2.2.2.2.2.2.2.2.1.map row0), .own 22 1 hdrR (.slice s1.2.2.2.2.2.2.2.2.2.1 s1.2.2.2.2.2.2.2.2.2.2.2.1.length s1.2.2.2.2.2.2.2.2.2.2.1) s1.2.2.2.2.2.2.2.2.2.2.2.1, flatF 31 6 (s1.2.2.2.2.2.2.2.2.2.2.2.1.map row0), .blk g6 [.slice none 0 0, .slice none 0 0, .slice none 0 0, .slice none 0 0, .slice none 0 0, .slice none 0 0, .slice s1.1 s1.2.2.1.length s1.2.1, .slice s1.2.2.2.1 s1.2.2.2.2.2.1.length s1.2.2.2.2.1, .slice none 0 0, .slice none 0 0, .slice none 0 0, .slice none 0 0, .slice none 0 0, .slice none 0 0, .slice none 0 0, .slice none 0 0, .slice none 0 0, .slice none 0 0, .slice none 0 0, .slice s1.2.2.2.2.2.2.1 s1.2.2.2.2.2.2.2.2.1.length s1.2.2.2.2.2.2.2.1, .slice none 0 0, .slice none 0 0, .slice none 0 0, .slice none 0 0, .slice none 0 0, .slice none 0 0, .slice s1.2.2.2.2.2.2.2.2.2.1 s1.2.2.2.2.2.2.2.2.2.2.2.1.length s1.2.2.2.2.2.2.2.2.2.2.1, .slice none 0 0, .slice none 0 0] 109, .own 77 1 T_l_ReplyD.pair (.slice (some ⟨g16,0, none⟩) zs.length c) zs, bagF T_l_ReplyD (zs.drop (s1.2.2.2.2.2.2.2.2.2.2.2.2 + 1)) none] (fun _ h => h.bagUncons 10 rfl hz1) (wC [9,1,2,3,4,5,6,0] [7,8,10,11] rfl fn_61 rfl (ap_putReplies _ s1.1 s1.2.1 s1.2.2.1 s1.2.2.2.1 s1.2.2.2.2.1 s1.2.2.2.2.2.1 s1.2.2.2.2.2.2.1 s1.2.2.2.2.2.2.2.1 s1.2.2.2.2.2.2.2.2.1 s1.2.2.2.2.2.2.2.2.2.1 s1.2.2.2.2.2.2.2.2.2.2.1 s1.2.2.2.2.2.2.2.2.2.2.2.1 z1.2.1 z1.2.2 z1.1 (by omega) hb6 (by omega) hb7 (by omega) hb19 hxs.1 hxs.2) (asK [] rfl) rfl (H' := [_,_,_,_]) rfl ?_)))
  rintro _ _ _ ⟨q6_1, d6_1, k6_1, q7_1, d7_1, k7_1, q19_1, d19_1, k19_1, hl6_1, hb6_1, hl7_1, hb7_1, hl19_1, hb19_1, rfl, rfl, rfl⟩
  refine wl_nil (we_block_normal (we_then (wc_region (wP rfl (wP rfl (wl_as (d := 12) (v' := .int .i64 ((s1.2.2.2.2.2.2.2.2.2.2.2.2 + 1 : Nat) : Int)) (S' := [_,_,_,_,_,_,_,_,_,_,_,_]) rfl rfl (nat_add (a := s1.2.2.2.2.2.2.2.2.2.2.2.2) (b := 1) (by omega)) (wl_pure (S' := [_,_,_,_,_,_,_,_,_,_,_,_]) rfl rfl rfl rfl rfl (wl_nil (we_pick [1,2,3,4,5,6,7,8,0,9,10] rfl (H' := [_,_,_,_,_,_,_,_,_,_,_]) rfl ?_)))))))))
  refine we_round (q6_1, d6_1, k6_1, q7_1, d7_1, k7_1, q19_1, d19_1, k19_1, s1.2.2.2.2.2.2.2.2.2.1, s1.2.2.2.2.2.2.2.2.2.2.1, s1.2.2.2.2.2.2.2.2.2.2.2.1, s1.2.2.2.2.2.2.2.2.2.2.2.2 + 1) (by show zs.length - (s1.2.2.2.2.2.2.2.2.2.2.2.2 + 1) < zs.length - s1.2.2.2.2.2.2.2.2.2.2.2.2; omega) ⟨by show s1.2.2.2.2.2.2.2.2.2.2.2.2 + 1 ≤ _; omega, by have := hl6_1; show List.length (k6_1) ≤ (s1.2.2.2.2.2.2.2.2.2.2.2.2 + 1) * _; omega, hb6_1, by have := hl7_1; show List.length (k7_1) ≤ (s1.2.2.2.2.2.2.2.2.2.2.2.2 + 1) * _; omega, hb7_1, by have := hl19_1; show List.length (k19_1) ≤ (s1.2.2.2.2.2.2.2.2.2.2.2.2 + 1) * _; omega, hb19_1, by have := hl26; show List.length (s1.2.2.2.2.2.2.2.2.2.2.2.1) ≤ (s1.2.2.2.2.2.2.2.2.2.2.2.2 + 1) * _; omega, hb26⟩ [4,3,2,0] rfl (asK [] rfl) rfl
 ·
  replace h10 := of_decide_eq_false h10
  obtain ⟨hi2, hl6, hb6, hl7, hb7, hl19, hb19, hl26, hb26⟩ := oks1
  refine wc_exit (we_then_exit (we_then_exit (we_block_hit (we_then (wc_seq (wc_region (wP rfl (wC [8,0,1,2,3,4,5,6,7] [9,10] rfl fn_44 rfl (ap_apart _ s1.1 s1.2.1 s1.2.2.1 s1.2.2.2.1 s1.2.2.2.2.1 s1.2.2.2.2.2.1 s1.2.2.2.2.2.2.1 s1.2.2.2.2.2.2.2.1 s1.2.2.2.2.2.2.2.2.1 s1.2.2.2.2.2.2.2.2.2.1 s1.2.2.2.2.2.2.2.2.2.2.1 s1.2.2.2.2.2.2.2.2.2.2.2.1 (by omega) hb6 (by omega) hb7 (by omega) hb19 (by omega) hb26) (asK [] rfl) rfl (H' := [_,_]) rfl ?_))))))))
  rintro _ _ _ ⟨r6, r7, r19, r26, hE6, hE7, hE19, hE26, rfl, rfl, rfl⟩
  refine wl_pure (S' := [_,_,_,_,_,_]) rfl rfl rfl rfl rfl (wl_nil (we_then (wc_keep [2,10,4,3,0] (S' := [_,_,_,_,_]) rfl (wc_ret (ret_one (Hr := [flatF 149 3 r6, flatF 55 3 r7, flatF 29 4 r19, flatF 31 6 r26]) [0,1,2,3] Tryz.results39 (res_tmp rfl) ?_ (asK [] rfl) rfl rfl (.inl rfl))))))
  exact ⟨_,_,_,_, rfl, rfl, rfl⟩
theorem w_session_Table_Next_s (N : Nat) (qg0 : Nat) (qp1 : Option Addr) (qn2 : Nat) (qc3 : Nat) (l0 : List SessD) (a1 : Int) (o0 : Int) (hm : m_session_Table_Next N l0 a1 = some o0) : Spec Tryz.prog 40 [.pointer (some ⟨qg0,0, none⟩)] [] [.blk qg0 [.slice qp1 qn2 qc3, .int .i64 a1] 65, treeF T_SessD 31 6 (.slice qp1 qn2 qc3) l0] (fun v Φr Hr => v = .int .i64 o0 ∧ Φr = [] ∧ Hr = [.blk qg0 [.slice qp1 qn2 qc3, .int .i64 a1] 65, treeF T_SessD 31 6 (.slice qp1 qn2 qc3) l0]) := by
 unfold m_session_Table_Next at hm
 refine spec_of Tryz.func40 rfl Tryz.ntmps40 rfl (S := [_]) rfl (fun C => (wc_seq (wc_region (wP rfl (wl_nil (we_then (wc_keep [0] (S' := [_]) rfl (wc_seq (wc_seq (wc_region (wP rfl ?_)))))))))))
 obtain ⟨_, hc4, hm⟩ := bindO_some hm
 try dsimp only at hm
 refine wC [0,1] [] rfl fn_42 rfl (w_session_Table_known_v2_s N qg0 qp1 qn2 qc3 l0 a1 hc4) (asK [] rfl) rfl (H' := []) rfl ?_
 rintro _ _ _ ⟨rfl, rfl, rfl⟩
 refine wP rfl (wl_nil (we_then (wc_keep [5,0] (S' := [_,_]) rfl ?_)))
 refine wc_cond rfl (fun hb5 => ?_) (fun hb5 => ?_)
 ·
  replace hm := iteT hm hb5
  refine wc_keep [] (S' := []) rfl (wc_seq (wc_region (wP rfl (wl_nil (we_then (wc_ret (we_then_ret ?_)))))))
  have hE := (Option.some.inj hm).symm
  replace hE := hE.symm
  subst hE
  refine ret_one (Hr := [_,_]) [0,1] Tryz.results40 (res_tmp rfl) ⟨rfl, rfl, rfl⟩ (asK [] rfl) rfl rfl (.inl rfl)
 ·
  replace hm := iteF hm hb5
  refine wc_keep [0] (S' := [_]) rfl (wc_skip (we_then (wc_seq (wc_region (wP rfl (wP rfl (wF rfl tF_65_1 (wD 0 1 rfl tS_3 tA_3 rfl (wP rfl (wl_nil (we_then (wc_keep [2] (S' := [_]) rfl (wc_ret ?_)))))))))))))
  have hE := (Option.some.inj hm).symm
  replace hE := hE.symm
  subst hE
  refine ret_one (Hr := [_,_]) [0,1] Tryz.results40 (res_tmp rfl) ⟨rfl, rfl, rfl⟩ (asK [] rfl) rfl rfl (.inl rfl)
theorem w_session_Table_All_s (N : Nat) (qg0 : Nat) (qp1 : Option Addr) (qn2 : Nat) (qc3 : Nat) (l0 : List SessD) (a1 : Int) (o2 : List SessD) (hm : m_session_Table_All N l0 a1 = some o2) : Spec Tryz.prog 16 [.pointer (some ⟨qg0,0, none⟩)] [] [.blk qg0 [.slice qp1 qn2 qc3, .int .i64 a1] 65, treeF T_SessD 31 6 (.slice qp1 qn2 qc3) l0] (fun v Φr Hr => ∃ (o0 : Option Addr) (o1 : Nat) (o3 : Nat), v = .slice o0 o3 o1 ∧ Φr = [] ∧ Hr = [treeF T_SessD 31 6 (.slice o0 o3 o1) o2, .blk qg0 [.slice qp1 qn2 qc3, .int .i64 a1] 65, treeF T_SessD 31 6 (.slice qp1 qn2 qc3) l0]) := by
 unfold m_session_Table_All at hm
 refine spec_of Tryz.func16 rfl Tryz.ntmps16 rfl (S := [_]) rfl (fun C => (wc_seq (wc_region (wP rfl (wl_nil (we_then (wc_keep [0] (S' := [_]) rfl (wc_seq (wc_seq (wc_region (wP rfl ?_)))))))))))
 obtain ⟨_, hc4, hm⟩ := bindO_some hm
 try dsimp only at hm
 refine wC [0,1] [] rfl fn_42 rfl (w_session_Table_known_v2_s N qg0 qp1 qn2 qc3 l0 a1 hc4) (asK [] rfl) rfl (H' := []) rfl ?_
 rintro _ _ _ ⟨rfl, rfl, rfl⟩
 refine wP rfl (wl_nil (we_then (wc_keep [5,0] (S' := [_,_]) rfl ?_)))
 refine wc_cond rfl (fun hb5 => ?_) (fun hb5 => ?_)
 ·
  replace hm := iteT hm hb5
  refine wc_keep [] (S' := []) rfl (wc_seq (wc_region (wP rfl (wl_nil (we_then (wc_ret (we_then_ret ?_)))))))
  have hE := (Option.some.inj hm).symm
  replace hE := hE.symm
  subst hE
  refine we_sh [treeF T_SessD 31 6 (.slice none 0 0) [],_,_] (fun _ h => h.treeNil T_SessD 31 6) ?_
  refine ret_one (Hr := [_,_,_]) [0,1,2] Tryz.results16 (res_tmp rfl) ⟨none, 0,0, rfl, rfl, rfl⟩ (asK [] rfl) rfl rfl (.inl rfl)
 ·
  replace hm := iteF hm hb5
  refine wc_keep [0] (S' := [_]) rfl (wc_skip (we_then (wc_seq (wc_region (wP rfl (wP rfl (wF rfl tF_65_0 (wF rfl tF_63_0 (wD 0 0 rfl tS_22 tA_22 rfl (wl_treeLen 1 rfl (fun hzt2 _ => ?_)))))))))))
  subst hzt2
  obtain ⟨v11, hc11, hm⟩ := bindO_some hm
  refine wl_lend [] [0,1] [1] rfl rfl rfl (freshS_eq rfl) rfl rfl fn_25 rfl (w_session_all_s N qp1 qc3 l0 _ hc11) (fun F w hφ hh => (ask_cons (tree_sli T_SessD_lend (hh _ (mem_at (k := 0) rfl)) (fun _ h => h) (fun _ h => h)) ask_nil)) (fun _ _ _ hR => by obtain ⟨_,_, rfl, rfl, rfl⟩ := hR; exact ⟨rfl, (free_cons (tree_free T_SessD_free) (fun _ h => free_nil h))⟩) rfl rfl (H' := [_,_]) rfl ?_
  rintro _ _ _ ⟨p11_0, c11_1, rfl, rfl, rfl⟩
  refine wP rfl (wl_nil (we_then (wc_keep [2] (S' := [_]) rfl (wc_ret ?_))))
  have hE := (Option.some.inj hm).symm
  replace hE := hE.symm
  subst hE
  refine ret_one (Hr := [_,_,_]) [0,1,2] Tryz.results16 (res_tmp rfl) ⟨p11_0, c11_1, l0.length, rfl, rfl, rfl⟩ (asK [] rfl) rfl rfl (.inl rfl)
theorem w_ropewalkkit_SameSession_s (N : Nat) (a0 : Int) (a1 : Int) (a2 : Int) (a3 : Int) (qp0 : Option Addr) (qc1 : Nat) (l4 : List FactD) (qp2 : Option Addr) (qc3 : Nat) (l5 : List V) (a6 : Int) (a7 : Int) (a8 : Int) (a9 : Int) (qp4 : Option Addr) (qc5 : Nat) (l10 : List FactD) (qp6 : Option Addr) (qc7 : Nat) (l11 : List V) (o0 : Bool) (hm : m_ropewalkkit_SameSession N a0 a1 a2 a3 l4 l5 a6 a7 a8 a9 l10 l11 = some o0) : Spec Tryz.prog 28 [.agg #[.int .i64 a0, .int .i64 a1, .int .i64 a2, .int .i64 a3, .slice qp0 l4.length qc1, .slice qp2 l5.length qc3], .agg #[.int .i64 a6, .int .i64 a7, .int .i64 a8, .int .i64 a9, .slice qp4 l10.length qc5, .slice qp6 l11.length qc7]] [.sli 3 R_FactD qp0 qc1 l4, .sli 3 R_V qp2 qc3 l5, .sli 3 R_FactD qp4 qc5 l10, .sli 3 R_V qp6 qc7 l11] [] (fun v Φr Hr => v = .bool o0 ∧ Φr = [] ∧ Hr = []) := by
 unfold m_ropewalkkit_SameSession at hm
 refine spec_of Tryz.func28 rfl Tryz.ntmps28 rfl (S := [_,_]) rfl (fun C => (wc_seq (wc_region (wB rfl (fun g2 => (wB rfl (fun g3 => (wP rfl (wl_nil (we_then (wc_keep [3,2] (S' := [_,_]) rfl (wc_seq (wc_region (wF rfl tF_31_0 (wD 1 0 rfl tS_3 tA_3 rfl (wF rfl tF_31_0 ?_))))))))))))))))
 refine wD 0 0 rfl tS_3 tA_3 rfl (wP rfl (wP rfl ?_))
 refine wl_split (d := 10) (S' := [_,_,_,_,_,_,_]) rfl rfl (fun hs10 => ?_) (fun hs10 => ?_)
 ·
  replace hm := iteT hm hs10
  refine wF rfl tF_31_1 (wD 1 1 rfl tS_3 tA_3 rfl (wF rfl tF_31_1 (wD 0 1 rfl tS_3 tA_3 rfl (wP rfl (wP rfl (wP rfl ?_))))))
  refine wl_split (d := 17) (S' := [_,_,_,_,_,_,_,_,_,_,_,_,_,_]) rfl rfl (fun hs17 => ?_) (fun hs17 => ?_)
  ·
   replace hm := iteT hm hs17
   refine wF rfl tF_31_2 (wl_loadH 1 2 rfl rfl rfl (freshS_eq rfl) rfl rfl rfl (cs := [_,_,_,_]) rfl tS_29 tA_29 rfl rfl (wF rfl tF_31_2 (wl_loadH 0 2 rfl rfl rfl (freshS_eq rfl) rfl rfl rfl (cs := [_,_,_,_]) rfl tS_29 tA_29 rfl rfl ?_)))
   obtain ⟨v22, hc22, hm⟩ := bindO_some hm
   refine wC [] [0,1] rfl fn_38 rfl (w_ropewalkkit_SameReply_s N a2 a3 qp0 qc1 l4 qp2 qc3 l5 a8 a9 qp4 qc5 l10 qp6 qc7 l11 _ hc22) (asK [0,1,2,3] rfl) rfl (H' := [_,_]) rfl ?_
   rintro _ _ _ ⟨rfl, rfl, rfl⟩
   refine wP rfl (wP rfl (wl_nil (we_then (wc_keep [4] (S' := [_]) rfl (wc_ret ?_)))))
   have hE := (Option.some.inj hm).symm
   replace hE := hE.symm
   subst hE
   refine ret_one (Hr := []) [] Tryz.results28 (res_tmp rfl) ⟨rfl, rfl, rfl⟩ (asK [] rfl) rfl rfl (.inl rfl)
  ·
   replace hm := iteF hm hs17
   refine wO rfl (wO rfl (wO rfl (wO rfl (wO rfl (wP rfl (wP rfl (wl_nil (we_then (wc_keep [4] (S' := [_]) rfl (wc_ret ?_))))))))))
   have hE := (Option.some.inj hm).symm
   replace hE := hE.symm
   subst hE
   refine ret_one (Hr := []) [] Tryz.results28 (res_tmp rfl) ⟨rfl, rfl, rfl⟩ (asK [] rfl) rfl rfl (.inl rfl)
 ·
  replace hm := iteF hm hs10
  refine wO rfl (wO rfl (wO rfl (wO rfl (wO rfl (wP rfl (wP rfl (wO rfl (wO rfl (wO rfl (wO rfl (wO rfl (wP rfl (wP rfl ?_)))))))))))))
  refine wl_nil (we_then (wc_keep [4] (S' := [_]) rfl (wc_ret ?_)))
  have hE := (Option.some.inj hm).symm
  replace hE := hE.symm
  subst hE
  refine ret_one (Hr := []) [] Tryz.results28 (res_tmp rfl) ⟨rfl, rfl, rfl⟩ (asK [] rfl) rfl rfl (.inl rfl)
theorem w_ropewalkkit_SameSessions_s (N : Nat) (qp0 : Option Addr) (qc1 : Nat) (l0 : List SessD) (qp2 : Option Addr) (qc3 : Nat) (l1 : List SessD) (o0 : Bool) (hm : m_ropewalkkit_SameSessions N l0 l1 = some o0) : Spec Tryz.prog 41 [.slice qp0 l0.length qc1, .slice qp2 l1.length qc3] [.sli 6 R_SessD qp0 qc1 l0, .sli 6 R_SessD qp2 qc3 l1] [] (fun v Φr Hr => v = .bool o0 ∧ Φr = [] ∧ Hr = []) := by
 unfold m_ropewalkkit_SameSessions at hm
 refine spec_of Tryz.func41 rfl Tryz.ntmps41 rfl (S := [_,_]) rfl (fun C => (wc_seq (wc_region (wP rfl (wl_nil (we_then (wc_keep [0,1] (S' := [_,_]) rfl (wc_seq (wc_seq (wc_region (wP rfl (wN rfl tE_22 (wP rfl (wN rfl tE_22 ?_))))))))))))))
 refine wP rfl (wl_as (d := 10) (v' := .bool (l0.length != l1.length)) (S' := [_,_,_,_,_,_]) rfl rfl (natne (a := l0.length) (b := l1.length)) (wl_nil (we_then (wc_keep [10,0,1] (S' := [_,_,_]) rfl ?_))))
 refine wc_cond rfl (fun hb10 => ?_) (fun hb10 => ?_)
 ·
  replace hm := iteT hm hb10
  refine wc_keep [] (S' := []) rfl (wc_seq (wc_region (wP rfl (wl_nil (we_then (wc_ret (we_then_ret ?_)))))))
  have hE := (Option.some.inj hm).symm
  replace hE := hE.symm
  subst hE
  refine ret_one (Hr := []) [] Tryz.results41 (res_tmp rfl) ⟨rfl, rfl, rfl⟩ (asK [] rfl) rfl rfl (.inl rfl)
 ·
  replace hm := iteF hm hb10
  refine wc_keep [0,1] (S' := [_,_]) rfl (wc_skip (we_then (wc_seq ?_)))
  obtain ⟨bj_1, hm, hLj_1⟩ := bindS_some hm
  refine wc_cut (σ := Unit) (fun _ => bj_1 = .inl ()) (fun _ => []) (fun _ => []) (fun _ => []) ?_ ?_
  ·
   refine wc_seq (wc_region (wP rfl (wl_nil (we_then (wc_block (wc_loop (σ := Nat × Nat) (fun (nu1, u1_5) => iter (m_ropewalkkit_SameSessions_L1 N l0 l1) nu1 u1_5 = some bj_1) (fun (nu1, u1_5) => nu1) (fun (nu1, u1_5) => [(5, .int .i64 ((u1_5 : Nat) : Int)), (0, .slice qp0 l0.length qc1), (1, .slice qp2 l1.length qc3)]) (fun (nu1, u1_5) => [.sli 6 R_SessD qp0 qc1 l0, .sli 6 R_SessD qp2 qc3 l1]) (fun (nu1, u1_5) => []) (N, 0) hm [5,0,1] rfl (asK [0,1] rfl) rfl (fun s_ hm => ?_)))))))
   obtain ⟨nu1, u1_5⟩ := s_
   try dsimp only at hm ⊢
   obtain ⟨mu1, bu1, hnu1, hq, hLu1⟩ := iter_some hm
   clear hm
   subst hnu1
   replace hm := hq
   clear hq
   unfold m_ropewalkkit_SameSessions_L1 at hm
   try dsimp only at hm
   refine wc_seq (wc_seq (wc_region (wP rfl (wP rfl (wN rfl tE_22 (wP rfl (wl_as (d := 14) (v' := .bool (decide (u1_5 < l0.length))) (S' := [_,_,_,_,_,_]) rfl rfl (natlt (a := u1_5) (b := l0.length)) (wl_nil (we_then (wc_keep [14,5,0,1] (S' := [_,_,_,_]) rfl ?_))))))))))
   refine wc_cond rfl (fun hb14 => ?_) (fun hb14 => ?_)
   ·
    replace hm := iteT hm hb14
    refine wc_keep [5,0,1] (S' := [_,_,_]) rfl (wc_skip (we_then (wc_seq (wc_block (wc_seq ?_)))))
    obtain ⟨x19, hx19, hm⟩ := bindO_some hm
    obtain ⟨x23, hx23, hm⟩ := bindO_some hm
    obtain ⟨v25, hc25, hm⟩ := bindO_some hm
    refine wc_draw [0,1,2,3,4,5,6,7,9] rfl rfl (fun hok => (xP hok 0 rfl (xP hok 1 rfl (wx_indexA hok 2 0 u1_5 rfl rfl rfl (freshS_eq rfl) rfl rfl rfl rfl rfl rfl hx19 tE_22 tS_31 (fun b19 q19 cs19 hlx19 => (wx_openR R_SessD_opens 1 rfl (fun r19 er19 _ => ?_)))))))
    subst er19
    refine wx_load hok 3 2 0 rfl rfl rfl (freshS_eq rfl) rfl rfl rfl rfl (cs := [_,_,_,_,_,_]) rfl tS_31 tA_31 rfl rfl (xP hok 4 rfl (xP hok 5 rfl (wx_indexA hok 6 5 u1_5 rfl rfl rfl (freshS_eq rfl) rfl rfl rfl rfl rfl rfl hx23 tE_22 tS_31 (fun b23 q23 cs23 hlx23 => (wx_openR R_SessD_opens 1 rfl (fun r23 er23 _ => ?_))))))
    subst er23
    refine wx_load hok 7 2 0 rfl rfl rfl (freshS_eq rfl) rfl rfl rfl rfl (cs := [_,_,_,_,_,_]) rfl tS_31 tA_31 rfl rfl (xS hok 8 rfl (wC [] [] rfl fn_28 rfl (w_ropewalkkit_SameSession_s N x19.id x19.seq x19.r.err x19.r.num r19.1.1 r19.1.2 x19.r.facts r19.2.1 r19.2.2 x19.r.said x23.id x23.seq x23.r.err x23.r.num r23.1.1 r23.1.2 x23.r.facts r23.2.1 r23.2.2 x23.r.said _ hc25) (asK [4,5,0,1] rfl) rfl (H' := []) rfl ?_))
    rintro _ _ _ ⟨rfl, rfl, rfl⟩
    refine wl_nil (we_x [0,1,2,3,4,5,6,7,8,9] [] rfl rfl (xP hok 9 rfl (wx_done hok rfl (we_then (wc_keep [26,5,0,1] (S' := [_,_,_,_]) rfl ?_)))))
    refine wc_cond rfl (fun hb26 => ?_) (fun hb26 => ?_)
    ·
     replace hm := iteT hm hb26
     refine wc_keep [] (S' := []) rfl (wc_seq (wc_region (wP rfl (wl_nil (we_then (wc_ret (we_block_ret (we_then_ret (we_then_ret (we_block_ret (we_then_ret ?_)))))))))))
     have hE := (Option.some.inj hm).symm
     replace hE := link_inr hLu1 hE
     replace hE := link_inr hLj_1 hE
     replace hE := hE.symm
     subst hE
     refine ret_one (Hr := []) [] Tryz.results41 (res_tmp rfl) ⟨rfl, rfl, rfl⟩ (asK [] rfl) rfl rfl (.inl rfl)
    ·
     replace hm := iteF hm hb26
     refine wc_keep [5,0,1] (S' := [_,_,_]) rfl (wc_skip (we_block_normal (we_then (wc_region (wP rfl (wP rfl ?_))))))
     obtain ⟨hg16, hm⟩ := gd_some hm
     refine wl_as (d := 16) (v' := .int .i64 ((u1_5 + 1 : Nat) : Int)) (S' := [_,_,_,_]) rfl rfl (nat_add (a := u1_5) (b := 1) hg16) (wl_pure (S' := [_,_,_,_]) rfl rfl rfl rfl rfl (wl_nil ?_))
     have hE := (Option.some.inj hm).symm
     replace hE := link_inl hLu1 hE
     refine we_roundK (_, u1_5 + 1) (Nat.lt_succ_self _) hE [5,0,1] rfl (asK [8,9] rfl) rfl
   ·
    replace hm := iteF hm hb14
    refine wc_keep [] (S' := []) rfl (wc_exit (we_then_exit (we_then_exit (we_block_hit ?_))))
    have hE := (Option.some.inj hm).symm
    replace hE := link_inr hLu1 hE
    refine we_join () hE [] rfl (asK [] rfl) rfl
  ·
   rintro _ hE
   try dsimp only
   have hm := link_inl hLj_1 hE
   try dsimp only at hm
   refine wc_seq (wc_region (wP rfl (wl_nil (we_then (wc_ret ?_)))))
   have hE := (Option.some.inj hm).symm
   replace hE := hE.symm
   subst hE
   refine ret_one (Hr := []) [] Tryz.results41 (res_tmp rfl) ⟨rfl, rfl, rfl⟩ (asK [] rfl) rfl rfl (.inl rfl)
theorem w_ropewalklaw27_alike_s (N : Nat) (qg0 : Nat) (qp1 : Option Addr) (qn2 : Nat) (qc3 : Nat) (l0 : List SessD) (a1 : Int) (qg4 : Nat) (qp5 : Option Addr) (qn6 : Nat) (qc7 : Nat) (l2 : List SessD) (a3 : Int) (o0 : Bool) (hm : m_ropewalklaw27_alike N l0 a1 l2 a3 = some o0) : Spec Tryz.prog 15 [.pointer (some ⟨qg0,0, none⟩), .pointer (some ⟨qg4,0, none⟩)] [] [.blk qg0 [.slice qp1 qn2 qc3, .int .i64 a1] 65, treeF T_SessD 31 6 (.slice qp1 qn2 qc3) l0, .blk qg4 [.slice qp5 qn6 qc7, .int .i64 a3] 67, .own 31 6 R_SessD (.slice qp5 qn6 qc7) l2] (fun v Φr Hr => v = .bool o0 ∧ Φr = [] ∧ Hr = [.blk qg0 [.slice qp1 qn2 qc3, .int .i64 a1] 65, treeF T_SessD 31 6 (.slice qp1 qn2 qc3) l0, .blk qg4 [.slice qp5 qn6 qc7, .int .i64 a3] 67, .own 31 6 R_SessD (.slice qp5 qn6 qc7) l2]) := by
 unfold m_ropewalklaw27_alike at hm
 refine spec_of Tryz.func15 rfl Tryz.ntmps15 rfl (S := [_,_]) rfl (fun C => (wc_seq (wc_region (wP rfl (wl_nil (we_then (wc_keep [0,1] (S' := [_,_]) rfl (wc_seq ?_))))))))
 obtain ⟨v6, hc6, hm⟩ := bindO_some hm
 rcases ite_some hm with ⟨hs12, hm⟩ | ⟨hs12, hm⟩
 ·
  obtain ⟨v14, hc14, hm⟩ := bindO_some hm
  obtain ⟨v19, hc19, hm⟩ := bindO_some hm
  refine wc_draw [0,2,3,4,5,6,7,8,10,11,12,13,15] rfl rfl (fun hok => (xP hok 0 rfl (xP hok 2 rfl (xP hok 3 rfl (wx_fieldAddr hok 4 rfl rfl rfl (freshS_eq rfl) rfl rfl rfl tF_67_1 (wx_loadH hok 5 2 1 rfl rfl rfl (freshS_eq rfl) rfl rfl rfl rfl (cs := [_]) rfl tS_3 tA_3 rfl rfl (xS hok 1 rfl (wC [0,1] [2,3] rfl fn_40 rfl (w_session_Table_Next_s N qg0 qp1 qn2 qc3 l0 a1 _ hc6) (asK [] rfl) rfl (H' := [_,_]) rfl ?_))))))))
  rintro _ _ _ ⟨rfl, rfl, rfl⟩
  refine wl_nil (we_x [] [2] rfl rfl (xP hok 6 rfl (xP hok 7 rfl (wx_as (d := 12) (v' := .bool true) (S' := [_,_,_,_,_,_,_,_,_]) rfl rfl (bool_is hs12) (xP hok 8 rfl (xP hok 10 rfl (xP hok 11 rfl (wx_fieldAddr hok 12 rfl rfl rfl (freshS_eq rfl) rfl rfl rfl tF_67_0 (wx_loadH hok 13 2 0 rfl rfl rfl (freshS_eq rfl) rfl rfl rfl rfl (cs := [_]) rfl tS_22 tA_22 rfl rfl (xS hok 9 rfl (wC [0,1] [2,3] rfl fn_16 rfl (w_session_Table_All_s N qg0 qp1 qn2 qc3 l0 a1 _ hc14) (asK [] rfl) rfl (H' := [_,_]) rfl ?_)))))))))))
  rintro _ _ _ ⟨p14_0, c14_1, c14_2, rfl, rfl, rfl⟩
  refine wl_nil (we_x [] [3,3] rfl rfl (xS hok 14 rfl (wl_treeLen 0 rfl (fun hzt4 _ => ?_))))
  subst hzt4
  refine wl_ownLen 4 rfl (fun hzqn6 _ => ?_)
  subst hzqn6
  refine wl_lend [] [0,1,2,3,4] [0,4] rfl rfl rfl (freshS_eq rfl) rfl rfl fn_41 rfl (w_ropewalkkit_SameSessions_s N p14_0 c14_1 v14 qp5 qc7 l2 _ hc19) (fun F w hφ hh => (ask_cons (tree_sli T_SessD_lend (hh _ (mem_at (k := 0) rfl)) (fun _ h => h) (fun _ h => h)) (ask_cons (own_sli (hh _ (mem_at (k := 1) rfl))) ask_nil))) (fun _ _ _ hR => by obtain ⟨rfl, rfl, rfl⟩ := hR; exact ⟨rfl, (fun _ h => free_nil h)⟩) rfl rfl (H' := [_,_,_,_,_]) rfl ?_
  rintro _ _ _ ⟨rfl, rfl, rfl⟩
  refine wl_nil (we_x [] [3] rfl rfl (xP hok 15 rfl (xS hok 16 rfl (wP rfl (wl_nil (we_x [] [] rfl rfl (wx_done hok rfl (we_then (wc_keep [4] (S' := [_]) rfl (wc_ret ?_))))))))))
  have hE := (Option.some.inj hm).symm
  replace hE := hE.symm
  subst hE
  refine ret_one (Hr := [_,_,_,_]) [1,2,3,4] Tryz.results15 (res_tmp rfl) ⟨rfl, rfl, rfl⟩ (asK [] rfl) rfl rfl (.inl rfl)
 ·
  refine wc_draw [0,2,3,4,5,6,7,8,10,11,12,13,15] rfl rfl (fun hok => (xP hok 0 rfl (xP hok 2 rfl (xP hok 3 rfl (wx_fieldAddr hok 4 rfl rfl rfl (freshS_eq rfl) rfl rfl rfl tF_67_1 (wx_loadH hok 5 2 1 rfl rfl rfl (freshS_eq rfl) rfl rfl rfl rfl (cs := [_]) rfl tS_3 tA_3 rfl rfl (xS hok 1 rfl (wC [0,1] [2,3] rfl fn_40 rfl (w_session_Table_Next_s N qg0 qp1 qn2 qc3 l0 a1 _ hc6) (asK [] rfl) rfl (H' := [_,_]) rfl ?_))))))))
  rintro _ _ _ ⟨rfl, rfl, rfl⟩
  refine wl_nil (we_x [] [2] rfl rfl (xP hok 6 rfl (xP hok 7 rfl (wx_as (d := 12) (v' := .bool false) (S' := [_,_,_,_,_,_,_,_,_]) rfl rfl (bool_is hs12) (xO hok 8 rfl (xO hok 10 rfl (xO hok 11 rfl (xO hok 12 rfl (xO hok 13 rfl (xS hok 9 rfl (wO rfl (wl_nil (we_x [] [2] rfl rfl ?_)))))))))))))
  refine xS hok 14 rfl (wO rfl (wl_nil (we_x [] [2] rfl rfl (xP hok 15 rfl (xS hok 16 rfl (wP rfl (wl_nil (we_x [] [] rfl rfl (wx_done hok rfl (we_then (wc_keep [4] (S' := [_]) rfl (wc_ret ?_))))))))))))
  have hE := (Option.some.inj hm).symm
  replace hE := hE.symm
  subst hE
  refine ret_one (Hr := [_,_,_,_]) [0,1,2,3] Tryz.results15 (res_tmp rfl) ⟨rfl, rfl, rfl⟩ (asK [] rfl) rfl rfl (.inl rfl)
theorem w_ropewalkref27_Table_Open_v2_s (N : Nat) (qg0 : Nat) (qp1 : Option Addr) (qn2 : Nat) (qc3 : Nat) (l0 : List SessD) (a1 : Int) (o0 : Int) (o1 : Nat) (o4 : List SessD) (o6 : Int) (hm : m_ropewalkref27_Table_Open N l0 a1 = some (o0, o1, o4, o6)) : Spec Tryz.prog 31 [.pointer (some ⟨qg0,0, none⟩)] [] [.blk qg0 [.slice qp1 qn2 qc3, .int .i64 a1] 67, .own 31 6 R_SessD (.slice qp1 qn2 qc3) l0] (fun v Φr Hr => ∃ (o2 : Option Addr) (o3 : Nat) (o5 : Nat), v = .tuple #[.int .i64 o0, .int .i64 ((o1 : Nat) : Int)] ∧ Φr = [] ∧ Hr = [.blk qg0 [.slice o2 o5 o3, .int .i64 o6] 67, .own 31 6 R_SessD (.slice o2 o5 o3) o4]) := by
 unfold m_ropewalkref27_Table_Open at hm
 refine spec_of Tryz.func31 rfl Tryz.ntmps31 rfl (S := [_]) rfl (fun C => (wc_seq (wc_region (wP rfl (wP rfl (wl_nil (we_then (wc_keep [0] (S' := [_]) rfl (wc_seq (wc_seq ?_))))))))))
 obtain ⟨bj_1, hm, hLj_1⟩ := bindO_some hm
 refine wc_cut (σ := Bool) (fun j_1_16 => bj_1 = j_1_16) (fun j_1_16 => [(0, .pointer (some ⟨qg0,0, none⟩)), (16, .bool j_1_16)]) (fun j_1_16 => []) (fun j_1_16 => [.blk qg0 [.slice qp1 qn2 qc3, .int .i64 a1] 67, .own 31 6 R_SessD (.slice qp1 qn2 qc3) l0]) ?_ ?_
 ·
  refine wc_region (wP rfl (wP rfl (wF rfl tF_67_0 (wD 0 0 rfl tS_22 tA_22 rfl (wl_ownLen 1 rfl (fun hl8 _ => (wN rfl tE_22 (wl_as (d := 8) (v' := .int .i64 ((l0.length : Nat) : Int)) (S' := [_,_,_,_,_]) rfl rfl (len_is hl8) (wP rfl (wl_as (d := 9) (v' := .bool (decide (32 ≤ l0.length))) (S' := [_,_,_,_,_,_]) rfl rfl (natge (a := l0.length) (b := 32)) (wP rfl ?_)))))))))))
  refine wl_split (d := 10) (S' := [_,_,_,_,_,_,_]) rfl rfl (fun hs10 => ?_) (fun hs10 => ?_)
  ·
   replace hm := iteT hm hs10
   refine wO rfl (wO rfl (wO rfl (wO rfl (wO rfl (wP rfl (wl_nil ?_))))))
   have hE := (Option.some.inj hm).symm
   refine we_join true hE [0,16] rfl (asK [] rfl) rfl
  ·
   replace hm := iteF hm hs10
   refine wP rfl (wP rfl (wF rfl tF_67_1 (wD 0 1 rfl tS_3 tA_3 rfl (wP rfl (wP rfl (wl_nil ?_))))))
   have hE := (Option.some.inj hm).symm
   refine we_join (decide (a1 > 1099511627776)) hE [0,16] rfl (asK [] rfl) rfl
 ·
  rintro j_1_16 hE
  try dsimp only
  have hm := hLj_1
  rw [hE] at hm
  refine wc_cond rfl (fun hb16 => ?_) (fun hb16 => ?_)
  ·
   replace hm := iteT hm hb16
   refine wc_keep [] (S' := []) rfl (wc_seq (wc_region (wP rfl (wP rfl (wl_nil (we_then (wc_ret (we_then_ret ?_))))))))
   have hE := (Option.some.inj hm).symm
   obtain ⟨hE0, hF1⟩ := Prod.mk.inj hE
   obtain ⟨hE1, hF2⟩ := Prod.mk.inj hF1
   obtain ⟨hE2, hE3⟩ := Prod.mk.inj hF2
   clear hE hF1 hF2
   replace hE0 := hE0.symm
   subst hE0
   replace hE1 := hE1.symm
   subst hE1
   replace hE2 := hE2.symm
   subst hE2
   replace hE3 := hE3.symm
   subst hE3
   refine ret_two (Hr := [_,_]) [0,1] Tryz.results31 (res_tmp rfl) (res_tmp rfl) ⟨qp1, qc3, qn2, rfl, rfl, rfl⟩ (asK [] rfl) rfl rfl (.inl rfl)
  ·
   replace hm := iteF hm hb16
   refine wc_keep [0] (S' := [_]) rfl (wc_skip (we_then (wc_seq ?_)))
   obtain ⟨v22, hc22, hm⟩ := bindO_some hm
   obtain ⟨hg29, hm⟩ := gd_some hm
   refine wc_cut (σ := (Option Addr) × Nat) (fun _ => True) (fun (w_2_0_f0_p, w_2_0_f0_c) => [(0, .pointer (some ⟨qg0,0, none⟩))]) (fun (w_2_0_f0_p, w_2_0_f0_c) => []) (fun (w_2_0_f0_p, w_2_0_f0_c) => [.blk qg0 [.slice w_2_0_f0_p ((v22 ++ [(⟨a1,0, (⟨0,0,[],[]⟩ : ReplyD)⟩ : SessD)]).length) w_2_0_f0_c, .int .i64 a1] 67, treeF T_SessD 31 6 (.slice w_2_0_f0_p ((v22 ++ [(⟨a1,0, (⟨0,0,[],[]⟩ : ReplyD)⟩ : SessD)]).length) w_2_0_f0_c) (v22 ++ [(⟨a1,0, (⟨0,0,[],[]⟩ : ReplyD)⟩ : SessD)]), .own 31 6 R_SessD (.slice qp1 qn2 qc3) l0]) ?_ ?_
   ·
    refine wc_draw [0,1,2,3,4,6,7,8,9,10,13,14] rfl rfl (fun hok => (xP hok 0 rfl (xP hok 1 rfl (xP hok 2 rfl (wx_fieldAddr hok 3 rfl rfl rfl (freshS_eq rfl) rfl rfl rfl tF_67_0 (wx_loadH hok 4 0 0 rfl rfl rfl (freshS_eq rfl) rfl rfl rfl rfl (cs := [_]) rfl tS_22 tA_22 rfl rfl (xP hok 6 rfl (xP hok 7 rfl (wx_fieldAddr hok 8 rfl rfl rfl (freshS_eq rfl) rfl rfl rfl tF_67_1 (wx_loadH hok 9 0 1 rfl rfl rfl (freshS_eq rfl) rfl rfl rfl rfl (cs := [_]) rfl tS_3 tA_3 rfl rfl (wx_build hok 10 rfl rfl rfl (freshS_eq rfl) rfl rfl tZ_31 tP_31 rfl (out := [_,_,_,_,_,_]) rfl ?_)))))))))))
    refine wx_step2 hok 5 11 rfl rfl rfl rfl rfl rfl ?_ ?_
    ·
     refine wl_ownLen 1 rfl (fun hzqn2 _ => ?_)
     subst hzqn2
     refine wl_lend [] [0,1] [1] rfl rfl rfl (freshS_eq rfl) rfl rfl fn_26 rfl (w_ropewalkkit_CopySessions_s N qp1 qc3 l0 _ hc22) (fun F w hφ hh => (ask_cons (own_sli (hh _ (mem_at (k := 0) rfl))) ask_nil)) (fun _ _ _ hR => by obtain ⟨_,_,_, rfl, rfl, rfl⟩ := hR; exact ⟨rfl, (free_cons (tree_free T_SessD_free) (fun _ h => free_nil h))⟩) rfl rfl (H' := [_,_]) rfl ?_
     rintro _ _ _ ⟨p22_0, c22_1, c22_2, rfl, rfl, rfl⟩
     refine wl_nil (we_x [] [1] rfl rfl (xS hok 11 rfl (wl_buildSlice rfl rfl rfl (freshS_eq rfl) rfl tE_22 tS_31 tZ_31 rfl (zs := [.int .i64 0, .int .i64 0, .int .i64 0, .int .i64 0, .slice none 0 0, .slice none 0 0]) (by kernel_rfl) rfl (out := [_,_,_,_,_,_]) rfl (fun g28 => (wl_nil (we_x [] [2,2] rfl rfl (xS hok 12 rfl (wl_treeLen 1 rfl (fun hzt4 _ => ?_)))))))))
     subst hzt4
     refine wl_sh [treeF T_FactD 55 3 (.slice none 0 0) [],_,_,_,_] (fun _ h => h.treeNil T_FactD 55 3) (wl_rowNil 149 3 R_V (wl_treeOut 3 rfl (fun zz29 hzz29 => ?_)))
     have hzs2 : List.map (fun x : SessD × ((Option Addr × Nat) × (Option Addr × Nat)) => x.1) (zz29 ++ [((⟨a1,0, (⟨0,0,[],[]⟩ : ReplyD)⟩ : SessD), ((none, 0), (none, 0)))]) = v22 ++ [(⟨a1,0, (⟨0,0,[],[]⟩ : ReplyD)⟩ : SessD)] := pair_app hzz29 (us := [(⟨a1,0, (⟨0,0,[],[]⟩ : ReplyD)⟩ : SessD)]) rfl
     have hgl29 : zz29.length + ([((⟨a1,0, (⟨0,0,[],[]⟩ : ReplyD)⟩ : SessD), ((none, 0), (none, 0)))] : List (SessD × ((Option Addr × Nat) × (Option Addr × Nat)))).length ≤ 1759218604441 := by rw [pair_len hzz29]; exact hg29
     refine wl_appendH (R := T_SessD.pair) ([((⟨a1,0, (⟨0,0,[],[]⟩ : ReplyD)⟩ : SessD), ((none, 0), (none, 0)))]) 4 3 rfl rfl rfl (freshS_eq rfl) rfl rfl rfl rfl rfl (fun F w hφ => ⟨[.int .i64 a1, .int .i64 0, .int .i64 0, .int .i64 0, .slice none 0 0, .slice none 0 0],[], rfl, rfl, rfl, rfl⟩) tE_22 tR_31 rfl rfl (Nat.le_trans hgl29 (by decide)) (Nat.le_trans (Nat.mul_le_mul_right _ hgl29) (by decide)) (H2 := fun p29 c29 => [_,_,_,_, .own 31 6 T_SessD.pair (.slice p29 ((zz29 ++ [((⟨a1,0, (⟨0,0,[],[]⟩ : ReplyD)⟩ : SessD), ((none, 0), (none, 0)))]).length) c29) (zz29 ++ [((⟨a1,0, (⟨0,0,[],[]⟩ : ReplyD)⟩ : SessD), ((none, 0), (none, 0)))]), _,_]) (fun _ _ => rfl) (fun p29 c29 => (wl_drop 3 rfl (H' := [_,_,_,_,_,_]) rfl (wl_as (d := 29) (v' := .slice p29 ((v22 ++ [(⟨a1,0, (⟨0,0,[],[]⟩ : ReplyD)⟩ : SessD)]).length) c29) (S' := [_,_,_,_,_,_,_,_,_,_,_,_,_]) rfl rfl (by rw [pair_len hzs2]) (wl_hAs 3 (φ' := .own 31 6 T_SessD.pair (.slice p29 ((v22 ++ [(⟨a1,0, (⟨0,0,[],[]⟩ : ReplyD)⟩ : SessD)]).length) c29) (zz29 ++ [((⟨a1,0, (⟨0,0,[],[]⟩ : ReplyD)⟩ : SessD), ((none, 0), (none, 0)))])) rfl (by rw [pair_len hzs2]) (H' := [_,_,_,_,_,_]) rfl (wl_pick [1,2,0,3,4,5] rfl (H' := [_,_,_,_,_,_]) rfl (wl_sh [bagF T_SessD (zz29 ++ [((⟨a1,0, (⟨0,0,[],[]⟩ : ReplyD)⟩ : SessD), ((none, 0), (none, 0)))]) none, _,_,_] (fun _ h => Holds.bagPush (T := T_SessD) (x := (⟨a1,0, (⟨0,0,[],[]⟩ : ReplyD)⟩ : SessD)) (r := ((none, 0), (none, 0))) (zs := zz29) (H := [_,_,_,_]) h 0 rfl) (wl_sh [treeF T_SessD 31 6 (.slice p29 ((v22 ++ [(⟨a1,0, (⟨0,0,[],[]⟩ : ReplyD)⟩ : SessD)]).length) c29) (v22 ++ [(⟨a1,0, (⟨0,0,[],[]⟩ : ReplyD)⟩ : SessD)]), _,_] (fun _ h => h.treeIn 1 0 rfl rfl rfl hzs2) (wl_nil (we_x [] [1,1] rfl rfl (xP hok 13 rfl (wx_fieldAddr hok 14 rfl rfl rfl (freshS_eq rfl) rfl rfl rfl tF_67_0 (xS hok 15 rfl (wS 1 0 rfl tS_22 (all' := [_,_]) rfl (H' := [_,_,_]) rfl (wl_nil ?_))))))))))))))
     refine we_x [] [] rfl rfl (wx_done hok rfl (we_pick [1,0,2] rfl (H' := [_,_,_]) rfl ?_))
     refine we_join (p29, c29) trivial [0] rfl (asK [] rfl) rfl
    ·
     refine wl_buildSlice rfl rfl rfl (freshS_eq rfl) rfl tE_22 tS_31 tZ_31 rfl (zs := [.int .i64 0, .int .i64 0, .int .i64 0, .int .i64 0, .slice none 0 0, .slice none 0 0]) (by kernel_rfl) rfl (out := [_,_,_,_,_,_]) rfl (fun g28 => (wl_nil (we_x [] [1,1] rfl rfl (xS hok 5 rfl (wl_ownLen 2 rfl (fun hzqn2 _ => ?_))))))
     subst hzqn2
     refine wl_lend [] [0,1,2] [2] rfl rfl rfl (freshS_eq rfl) rfl rfl fn_26 rfl (w_ropewalkkit_CopySessions_s N qp1 qc3 l0 _ hc22) (fun F w hφ hh => (ask_cons (own_sli (hh _ (mem_at (k := 0) rfl))) ask_nil)) (fun _ _ _ hR => by obtain ⟨_,_,_, rfl, rfl, rfl⟩ := hR; exact ⟨rfl, (free_cons (tree_free T_SessD_free) (fun _ h => free_nil h))⟩) rfl rfl (H' := [_,_,_]) rfl ?_
     rintro _ _ _ ⟨p22_0, c22_1, c22_2, rfl, rfl, rfl⟩
     refine wl_nil (we_x [] [2] rfl rfl (xS hok 12 rfl (wl_treeLen 0 rfl (fun hzt5 _ => ?_))))
     subst hzt5
     refine wl_sh [treeF T_FactD 55 3 (.slice none 0 0) [],_,_,_,_] (fun _ h => h.treeNil T_FactD 55 3) (wl_rowNil 149 3 R_V (wl_treeOut 2 rfl (fun zz29 hzz29 => ?_)))
     have hzs3 : List.map (fun x : SessD × ((Option Addr × Nat) × (Option Addr × Nat)) => x.1) (zz29 ++ [((⟨a1,0, (⟨0,0,[],[]⟩ : ReplyD)⟩ : SessD), ((none, 0), (none, 0)))]) = v22 ++ [(⟨a1,0, (⟨0,0,[],[]⟩ : ReplyD)⟩ : SessD)] := pair_app hzz29 (us := [(⟨a1,0, (⟨0,0,[],[]⟩ : ReplyD)⟩ : SessD)]) rfl
     have hgl29 : zz29.length + ([((⟨a1,0, (⟨0,0,[],[]⟩ : ReplyD)⟩ : SessD), ((none, 0), (none, 0)))] : List (SessD × ((Option Addr × Nat) × (Option Addr × Nat)))).length ≤ 1759218604441 := by rw [pair_len hzz29]; exact hg29
     refine wl_appendH (R := T_SessD.pair) ([((⟨a1,0, (⟨0,0,[],[]⟩ : ReplyD)⟩ : SessD), ((none, 0), (none, 0)))]) 3 4 rfl rfl rfl (freshS_eq rfl) rfl rfl rfl rfl rfl (fun F w hφ => ⟨[.int .i64 a1, .int .i64 0, .int .i64 0, .int .i64 0, .slice none 0 0, .slice none 0 0],[], rfl, rfl, rfl, rfl⟩) tE_22 tR_31 rfl rfl (Nat.le_trans hgl29 (by decide)) (Nat.le_trans (Nat.mul_le_mul_right _ hgl29) (by decide)) (H2 := fun p29 c29 => [_,_,_, .own 31 6 T_SessD.pair (.slice p29 ((zz29 ++ [((⟨a1,0, (⟨0,0,[],[]⟩ : ReplyD)⟩ : SessD), ((none, 0), (none, 0)))]).length) c29) (zz29 ++ [((⟨a1,0, (⟨0,0,[],[]⟩ : ReplyD)⟩ : SessD), ((none, 0), (none, 0)))]), _,_,_]) (fun _ _ => rfl) (fun p29 c29 => (wl_drop 4 rfl (H' := [_,_,_,_,_,_]) rfl (wl_as (d := 29) (v' := .slice p29 ((v22 ++ [(⟨a1,0, (⟨0,0,[],[]⟩ : ReplyD)⟩ : SessD)]).length) c29) (S' := [_,_,_,_,_,_,_,_,_,_,_,_,_]) rfl rfl (by rw [pair_len hzs3]) (wl_hAs 3 (φ' := .own 31 6 T_SessD.pair (.slice p29 ((v22 ++ [(⟨a1,0, (⟨0,0,[],[]⟩ : ReplyD)⟩ : SessD)]).length) c29) (zz29 ++ [((⟨a1,0, (⟨0,0,[],[]⟩ : ReplyD)⟩ : SessD), ((none, 0), (none, 0)))])) rfl (by rw [pair_len hzs3]) (H' := [_,_,_,_,_,_]) rfl (wl_pick [1,2,0,3,4,5] rfl (H' := [_,_,_,_,_,_]) rfl (wl_sh [bagF T_SessD (zz29 ++ [((⟨a1,0, (⟨0,0,[],[]⟩ : ReplyD)⟩ : SessD), ((none, 0), (none, 0)))]) none, _,_,_] (fun _ h => Holds.bagPush (T := T_SessD) (x := (⟨a1,0, (⟨0,0,[],[]⟩ : ReplyD)⟩ : SessD)) (r := ((none, 0), (none, 0))) (zs := zz29) (H := [_,_,_,_]) h 0 rfl) (wl_sh [treeF T_SessD 31 6 (.slice p29 ((v22 ++ [(⟨a1,0, (⟨0,0,[],[]⟩ : ReplyD)⟩ : SessD)]).length) c29) (v22 ++ [(⟨a1,0, (⟨0,0,[],[]⟩ : ReplyD)⟩ : SessD)]), _,_] (fun _ h => h.treeIn 1 0 rfl rfl rfl hzs3) (wl_nil (we_x [] [1,1] rfl rfl (xP hok 13 rfl (wx_fieldAddr hok 14 rfl rfl rfl (freshS_eq rfl) rfl rfl rfl tF_67_0 (xS hok 15 rfl (wS 1 0 rfl tS_22 (all' := [_,_]) rfl (H' := [_,_,_]) rfl (wl_nil ?_))))))))))))))
     refine we_x [] [] rfl rfl (wx_done hok rfl (we_pick [1,0,2] rfl (H' := [_,_,_]) rfl ?_))
     refine we_join (p29, c29) trivial [0] rfl (asK [] rfl) rfl
   ·
    rintro ⟨w_2_0_f0_p, w_2_0_f0_c⟩ _
    try dsimp only
    refine wc_seq (wc_region (wP rfl (wP rfl (wF rfl tF_67_1 (wD 0 1 rfl tS_3 tA_3 rfl (wP rfl ?_))))))
    obtain ⟨hg36, hm⟩ := gd_some hm
    refine wl_as (d := 36) (v' := .int .i64 (a1 + 1)) (S' := [_,_,_,_,_]) rfl rfl (i64_in hg36) (wP rfl (wF rfl tF_67_1 (wS 0 1 rfl tS_3 (all' := [_,_]) rfl (H' := [_,_,_]) rfl (wl_nil (we_then (wc_keep [0] (S' := [_]) rfl (wc_seq (wc_region (wP rfl (wP rfl (wF rfl tF_67_1 (wD 0 1 rfl tS_3 tA_3 rfl (wP rfl ?_)))))))))))))
    obtain ⟨hg43, hm⟩ := gd_some hm
    refine wl_as (d := 43) (v' := .int .i64 ((a1 + 1) - 1)) (S' := [_,_,_,_,_]) rfl rfl (i64_in hg43) (wP rfl (wP rfl (wl_nil (we_then (wc_keep [3,2] (S' := [_,_]) rfl (wc_ret ?_))))))
    have hE := (Option.some.inj hm).symm
    obtain ⟨hE0, hF1⟩ := Prod.mk.inj hE
    obtain ⟨hE1, hF2⟩ := Prod.mk.inj hF1
    obtain ⟨hE2, hE3⟩ := Prod.mk.inj hF2
    clear hE hF1 hF2
    replace hE0 := hE0.symm
    subst hE0
    replace hE1 := hE1.symm
    subst hE1
    replace hE2 := hE2.symm
    subst hE2
    replace hE3 := hE3.symm
    subst hE3
    refine we_sh [_, .own 31 6 R_SessD (.slice w_2_0_f0_p ((v22 ++ [(⟨a1,0, (⟨0,0,[],[]⟩ : ReplyD)⟩ : SessD)]).length) w_2_0_f0_c) (v22 ++ [(⟨a1,0, (⟨0,0,[],[]⟩ : ReplyD)⟩ : SessD)]), _] (fun _ h => h.letgo T_SessD_lend 1 rfl) ?_
    refine ret_two (Hr := [_,_]) [0,1] Tryz.results31 (res_tmp rfl) (res_tmp rfl) ⟨w_2_0_f0_p, w_2_0_f0_c, (v22 ++ [(⟨a1,0, (⟨0,0,[],[]⟩ : ReplyD)⟩ : SessD)]).length, rfl, rfl, rfl⟩ (asK [] rfl) rfl rfl (.inl rfl)
theorem w_ropewalkref27_Table_place_v2_s (N : Nat) (qg0 : Nat) (qp1 : Option Addr) (qn2 : Nat) (qc3 : Nat) (l0 : List SessD) (a1 : Int) (a2 : Int) (o0 : Int) (hm : m_ropewalkref27_Table_place_v2 N l0 a1 a2 = some o0) : Spec Tryz.prog 51 [.pointer (some ⟨qg0,0, none⟩), .int .i64 a2] [] [.blk qg0 [.slice qp1 qn2 qc3, .int .i64 a1] 67, .own 31 6 R_SessD (.slice qp1 qn2 qc3) l0] (fun v Φr Hr => v = .int .i64 o0 ∧ Φr = [] ∧ Hr = [.blk qg0 [.slice qp1 qn2 qc3, .int .i64 a1] 67, .own 31 6 R_SessD (.slice qp1 qn2 qc3) l0]) := by
 unfold m_ropewalkref27_Table_place_v2 at hm
 refine spec_of Tryz.func51 rfl Tryz.ntmps51 rfl (S := [_,_]) rfl (fun C => (wc_seq (wc_region (wP rfl (wl_nil (we_then (wc_keep [0,1] (S' := [_,_]) rfl (wc_seq ?_))))))))
 obtain ⟨bj_1, hm, hLj_1⟩ := bindS_some hm
 refine wc_cut (σ := Unit) (fun _ => bj_1 = .inl ()) (fun _ => []) (fun _ => []) (fun _ => [.blk qg0 [.slice qp1 qn2 qc3, .int .i64 a1] 67, .own 31 6 R_SessD (.slice qp1 qn2 qc3) l0]) ?_ ?_
 ·
  refine wc_seq (wc_region (wP rfl (wl_nil (we_then (wc_block (wc_loop (σ := Nat × Nat) (fun (nu1, u1_5) => iter (m_ropewalkref27_Table_place_v2_L1 N l0 a2) nu1 u1_5 = some bj_1) (fun (nu1, u1_5) => nu1) (fun (nu1, u1_5) => [(5, .int .i64 ((u1_5 : Nat) : Int)), (0, .pointer (some ⟨qg0,0, none⟩)), (1, .int .i64 a2)]) (fun (nu1, u1_5) => []) (fun (nu1, u1_5) => [.blk qg0 [.slice qp1 qn2 qc3, .int .i64 a1] 67, .own 31 6 R_SessD (.slice qp1 qn2 qc3) l0]) (N, 0) hm [5,0,1] rfl (asK [] rfl) rfl (fun s_ hm => ?_)))))))
  obtain ⟨nu1, u1_5⟩ := s_
  try dsimp only at hm ⊢
  obtain ⟨mu1, bu1, hnu1, hq, hLu1⟩ := iter_some hm
  clear hm
  subst hnu1
  replace hm := hq
  clear hq
  unfold m_ropewalkref27_Table_place_v2_L1 at hm
  try dsimp only at hm
  refine wc_seq (wc_seq (wc_region (wP rfl (wP rfl (wP rfl (wF rfl tF_67_0 (wD 0 0 rfl tS_22 tA_22 rfl (wl_ownLen 1 rfl (fun hl11 _ => (wN rfl tE_22 (wl_as (d := 11) (v' := .int .i64 ((l0.length : Nat) : Int)) (S' := [_,_,_,_,_,_,_,_]) rfl rfl (len_is hl11) (wP rfl (wl_as (d := 12) (v' := .bool (decide (u1_5 < l0.length))) (S' := [_,_,_,_,_,_,_,_,_]) rfl rfl (natlt (a := u1_5) (b := l0.length)) (wl_nil ?_))))))))))))))
  refine we_then (wc_keep [12,5,0,1] (S' := [_,_,_,_]) rfl ?_)
  refine wc_cond rfl (fun hb12 => ?_) (fun hb12 => ?_)
  ·
   replace hm := iteT hm hb12
   refine wc_keep [5,0,1] (S' := [_,_,_]) rfl (wc_skip (we_then (wc_seq (wc_block (wc_seq (wc_region (wP rfl (wP rfl (wF rfl tF_67_0 (wD 0 0 rfl tS_22 tA_22 rfl (wP rfl ?_)))))))))))
   obtain ⟨x20, hx20, hm⟩ := bindO_some hm
   refine wl_indexH 1 u1_5 rfl rfl rfl (freshS_eq rfl) rfl rfl rfl rfl rfl (get_lt hx20) tE_22 tS_31 (fun g20 eg20 => ?_)
   subst eg20
   refine wF rfl tF_31_0 (wl_loadRow R_SessD_opens 1 u1_5 0 rfl rfl rfl (freshS_eq rfl) rfl rfl rfl hx20 tS_3 tA_3 (v := fun r22 => .int .i64 (x20.id)) (fun _ => rfl) (fun _ => rfl) (fun r22 _ => (wP rfl (wP rfl (wl_nil (we_then (wc_keep [24,5,0,1] (S' := [_,_,_,_]) rfl ?_)))))))
   refine wc_cond rfl (fun hb24 => ?_) (fun hb24 => ?_)
   ·
    replace hm := iteT hm hb24
    refine wc_keep [5] (S' := [_]) rfl (wc_seq (wc_region (wP rfl (wP rfl (wl_nil (we_then (wc_keep [4] (S' := [_]) rfl (wc_ret (we_block_ret (we_then_ret (we_then_ret (we_block_ret (we_then_ret ?_)))))))))))))
    have hE := (Option.some.inj hm).symm
    replace hE := link_inr hLu1 hE
    replace hE := link_inr hLj_1 hE
    replace hE := hE.symm
    subst hE
    refine ret_one (Hr := [_,_]) [0,1] Tryz.results51 (res_tmp rfl) ⟨rfl, rfl, rfl⟩ (asK [] rfl) rfl rfl (.inl rfl)
   ·
    replace hm := iteF hm hb24
    refine wc_keep [5,0,1] (S' := [_,_,_]) rfl (wc_skip (we_block_normal (we_then (wc_region (wP rfl (wP rfl ?_))))))
    obtain ⟨hg14, hm⟩ := gd_some hm
    refine wl_as (d := 14) (v' := .int .i64 ((u1_5 + 1 : Nat) : Int)) (S' := [_,_,_,_]) rfl rfl (nat_add (a := u1_5) (b := 1) hg14) (wl_pure (S' := [_,_,_,_]) rfl rfl rfl rfl rfl (wl_nil ?_))
    have hE := (Option.some.inj hm).symm
    replace hE := link_inl hLu1 hE
    refine we_roundK (_, u1_5 + 1) (Nat.lt_succ_self _) hE [5,0,1] rfl (asK [] rfl) rfl
  ·
   replace hm := iteF hm hb12
   refine wc_keep [] (S' := []) rfl (wc_exit (we_then_exit (we_then_exit (we_block_hit ?_))))
   have hE := (Option.some.inj hm).symm
   replace hE := link_inr hLu1 hE
   refine we_join () hE [] rfl (asK [] rfl) rfl
 ·
  rintro _ hE
  try dsimp only
  have hm := link_inl hLj_1 hE
  try dsimp only at hm
  refine wc_seq (wc_region (wP rfl (wl_nil (we_then (wc_ret ?_)))))
  have hE := (Option.some.inj hm).symm
  replace hE := hE.symm
  subst hE
  refine ret_one (Hr := [_,_]) [0,1] Tryz.results51 (res_tmp rfl) ⟨rfl, rfl, rfl⟩ (asK [] rfl) rfl rfl (.inl rfl)
theorem w_ropewalkref27_Table_Expire_v2_s (N : Nat) (qg0 : Nat) (qp1 : Option Addr) (qn2 : Nat) (qc3 : Nat) (l0 : List SessD) (a1 : Int) (a2 : Int) (o0 : Nat) (o3 : List SessD) (hm : m_ropewalkref27_Table_Expire_v2 N l0 a1 a2 = some (o0, o3)) : Spec Tryz.prog 32 [.pointer (some ⟨qg0,0, none⟩), .int .i64 a2] [] [.blk qg0 [.slice qp1 qn2 qc3, .int .i64 a1] 67, .own 31 6 R_SessD (.slice qp1 qn2 qc3) l0] (fun v Φr Hr => ∃ (o1 : Option Addr) (o2 : Nat) (o4 : Nat), v = .int .i64 ((o0 : Nat) : Int) ∧ Φr = [] ∧ Hr = [.blk qg0 [.slice o1 o4 o2, .int .i64 a1] 67, .own 31 6 R_SessD (.slice o1 o4 o2) o3]) := by
 unfold m_ropewalkref27_Table_Expire_v2 at hm
 refine spec_of Tryz.func32 rfl Tryz.ntmps32 rfl (S := [_,_]) rfl (fun C => (wc_seq (wc_region (wP rfl (wl_nil (we_then (wc_keep [0,1] (S' := [_,_]) rfl (wc_seq (wc_region (wP rfl (wP rfl ?_)))))))))))
 obtain ⟨v9, hc9, hm⟩ := bindO_some hm
 refine wC [0,1] [] rfl fn_51 rfl (w_ropewalkref27_Table_place_v2_s N qg0 qp1 qn2 qc3 l0 a1 a2 _ hc9) (asK [] rfl) rfl (H' := []) rfl ?_
 rintro _ _ _ ⟨rfl, rfl, rfl⟩
 refine wP rfl (wl_nil (we_then (wc_keep [5,0] (S' := [_,_]) rfl (wc_seq (wc_seq (wc_region (wP rfl (wP rfl (wl_nil (we_then (wc_keep [11,5,0] (S' := [_,_,_]) rfl ?_)))))))))))
 refine wc_cond rfl (fun hb11 => ?_) (fun hb11 => ?_)
 ·
  replace hm := iteT hm hb11
  refine wc_keep [] (S' := []) rfl (wc_seq (wc_region (wP rfl (wl_nil (we_then (wc_ret (we_then_ret ?_)))))))
  have hE := (Option.some.inj hm).symm
  obtain ⟨hE0, hE1⟩ := Prod.mk.inj hE
  clear hE
  replace hE0 := hE0.symm
  subst hE0
  replace hE1 := hE1.symm
  subst hE1
  refine ret_one (Hr := [_,_]) [0,1] Tryz.results32 (res_tmp rfl) ⟨qp1, qc3, qn2, rfl, rfl, rfl⟩ (asK [] rfl) rfl rfl (.inl rfl)
 ·
  replace hm := iteF hm hb11
  refine wc_keep [5,0] (S' := [_,_]) rfl (wc_skip (we_then (wc_seq (wc_region (wP rfl (wP rfl (wF rfl tF_67_0 (wD 0 0 rfl tS_22 tA_22 rfl (wP rfl ?_)))))))))
  obtain ⟨hn17_1, hm⟩ := gd_some hm
  obtain ⟨hg17, hm⟩ := gd_some hm
  refine wl_ownSpot 1 rfl (fun hsp17 hcm17 => (wl_sliceTo rfl rfl rfl (freshS_eq rfl) rfl rfl rfl (toNat_eq hn17_1) tE_22 tS_31 (Nat.le_trans hg17 (by rw [← hcm17.2]; exact hcm17.1)) hsp17 (wl_ownLen 1 rfl (fun hzqn2 _ => ?_))))
  subst hzqn2
  refine wl_freeze 1 rfl (H' := [_]) rfl (wl_fact (.sli 6 R_SessD qp1 qc3 l0) (fun F w hφ => own_sli (hφ _ (mem_at (k := 0) rfl))) (wl_fact (.sli 6 R_SessD qp1 qc3 (l0.take v9.toNat)) (fun _ _ hφ => view_to (hφ _ (mem_at (k := 0) rfl)) v9.toNat) (wl_at 0 (v' := .slice qp1 ((l0.take v9.toNat).length) qc3) rfl (take_slice hg17) ?_)))
  obtain ⟨v18, hc18, hm⟩ := bindO_some hm
  refine wC [] [0] rfl fn_26 rfl (w_ropewalkkit_CopySessions_s N qp1 qc3 (l0.take v9.toNat) _ hc18) (asK [0] rfl) rfl (H' := [_]) rfl ?_
  rintro _ _ _ ⟨p18_0, c18_1, c18_2, rfl, rfl, rfl⟩
  refine wP rfl (wl_nil (we_then (wc_keep [6,5,0] (S' := [_,_,_]) rfl (wc_seq (wc_region (wP rfl (wP rfl (wP rfl (wP rfl (wF rfl tF_67_0 (wD 1 0 rfl tS_22 tA_22 rfl (wP rfl (wP rfl ?_)))))))))))))
  obtain ⟨hg26, hm⟩ := gd_some hm
  refine wl_as (d := 26) (v' := .int .i64 (v9 + 1)) (S' := [_,_,_,_,_,_,_,_,_,_]) rfl rfl (i64_in hg26) ?_
  obtain ⟨hn27_0, hm⟩ := gd_some hm
  obtain ⟨hg27, hm⟩ := gd_some hm
  refine wl_sliFrom 1 rfl rfl rfl (freshS_eq rfl) rfl rfl rfl rfl (toNat_eq hn27_0) tE_22 tS_31 hg27 (fun p27 => (wl_sh [.own 31 6 R_SessD (.slice p18_0 c18_2 c18_1) v18,_] (fun _ h => h.letgo T_SessD_lend 0 rfl) ?_))
  obtain ⟨hg28, hm⟩ := gd_some hm
  refine wl_append 0 0 rfl rfl rfl (freshS_eq rfl) rfl rfl rfl rfl rfl tE_22 tR_31 rfl rfl (Nat.le_trans hg28 (by decide)) (Nat.le_trans (Nat.mul_le_mul_right _ hg28) (by decide)) (H2 := fun p28 c28 => [.own 31 6 R_SessD (.slice p28 ((v18 ++ (l0.drop ((v9 + 1).toNat))).length) c28) (v18 ++ (l0.drop ((v9 + 1).toNat))), _]) (fun _ _ => rfl) (fun p28 c28 => (wP rfl (wF rfl tF_67_0 (wS 1 0 rfl tS_22 (all' := [_,_]) rfl (H' := [_,_]) rfl (wl_nil (we_then (wc_keep [] (S' := []) rfl (wc_seq (wc_region (wP rfl (wl_nil (we_then (wc_ret ?_)))))))))))))
  have hE := (Option.some.inj hm).symm
  obtain ⟨hE0, hE1⟩ := Prod.mk.inj hE
  clear hE
  replace hE0 := hE0.symm
  subst hE0
  replace hE1 := hE1.symm
  subst hE1
  refine ret_one (Hr := [_,_]) [1,0] Tryz.results32 (res_tmp rfl) ⟨p28, c28, (v18 ++ (l0.drop ((v9 + 1).toNat))).length, rfl, rfl, rfl⟩ (asK [] rfl) rfl rfl (.inl rfl)
end Go.Proofs.YtighbinghbnjhaaGreat
