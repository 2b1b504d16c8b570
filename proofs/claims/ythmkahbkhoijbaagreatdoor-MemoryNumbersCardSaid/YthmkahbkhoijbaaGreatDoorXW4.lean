import Derived.Test.YthmkahbkhoijbaaGreatDoorXW3
namespace Go.Proofs.YthmkahbkhoijbaaGreatDoor
open Go.RowKit
set_option maxRecDepth 100000
set_option maxHeartbeats 4000000
theorem ap_putFacts (g : Nat) (p6 : Option Addr) (c6 : Nat) (h6 : List Hdr) (p7 : Option Addr) (c7 : Nat) (h7 : List Hdr) (p : Option Addr) (c : Nat) (xs : List FactD) (hL6 : h6.length + 10000 ≤ 1073741824) (hB6 : Bd h6) (hL7 : h7.length + 1 ≤ 1073741824) (hB7 : Bd h7) (hn : xs.length ≤ 10000) (hx : ∀ y ∈ xs, sz_FactD y) : Spec Tryz.prog 47 [.pointer (some ⟨g, 0, none⟩), .slice p xs.length c] [] [.blk g [.slice none 0 0, .slice none 0 0, .slice none 0 0, .slice none 0 0, .slice none 0 0, .slice none 0 0, .slice p6 h6.length c6, .slice p7 h7.length c7, .slice none 0 0, .slice none 0 0, .slice none 0 0, .slice none 0 0, .slice none 0 0, .slice none 0 0, .slice none 0 0, .slice none 0 0, .slice none 0 0, .slice none 0 0, .slice none 0 0, .slice none 0 0, .slice none 0 0, .slice none 0 0, .slice none 0 0, .slice none 0 0, .slice none 0 0, .slice none 0 0, .slice none 0 0, .slice none 0 0, .slice none 0 0] 112, .own 25 1 hdrR (.slice p6 h6.length c6) h6, flatF 51 3 (h6.map row0), .own 22 1 hdrR (.slice p7 h7.length c7) h7, flatF 27 3 (h7.map row0), treeF T_FactD 27 3 (.slice p xs.length c) xs] (fun v Φr Hr => ∃ (q6 : Option Addr) (d6 : Nat) (k6 : List Hdr) (q7 : Option Addr) (d7 : Nat) (k7 : List Hdr), k6.length ≤ h6.length + 10000 ∧ Bd k6 ∧ k7.length ≤ h7.length + 1 ∧ Bd k7 ∧ v = .tuple #[] ∧ Φr = [] ∧ Hr = [.blk g [.slice none 0 0, .slice none 0 0, .slice none 0 0, .slice none 0 0, .slice none 0 0, .slice none 0 0, .slice q6 k6.length d6, .slice q7 k7.length d7, .slice none 0 0, .slice none 0 0, .slice none 0 0, .slice none 0 0, .slice none 0 0, .slice none 0 0, .slice none 0 0, .slice none 0 0, .slice none 0 0, .slice none 0 0, .slice none 0 0, .slice none 0 0, .slice none 0 0, .slice none 0 0, .slice none 0 0, .slice none 0 0, .slice none 0 0, .slice none 0 0, .slice none 0 0, .slice none 0 0, .slice none 0 0] 112, .own 25 1 hdrR (.slice q6 k6.length d6) k6, flatF 51 3 (k6.map row0), .own 22 1 hdrR (.slice q7 k7.length d7) k7, flatF 27 3 (k7.map row0)]) := by
 refine spec_of Tryz.func47 rfl Tryz.ntmps47 rfl (S := [_,_]) rfl (fun C => (wc_seq (wc_region (wl_treeOut 5 rfl (fun zz hz0 => ?_)))))
 have hzl : zz.length = xs.length := pair_len hz0
 refine wP rfl (wP rfl (wP rfl (wF rfl tF_112_7 (wD 1 7 rfl tS_46 tA_46 rfl (wP rfl (wl_buildSlice rfl rfl rfl (freshS_eq rfl) rfl tE_46 tS_22 tZ_22 rfl (zs := [.slice none 0 0]) (by kernel_rfl) rfl (out := [_]) rfl (fun g11 => (wl_appendH ([(p, xs.length, c)] : List Hdr) 5 0 rfl rfl rfl (freshS_eq rfl) rfl rfl rfl rfl rfl (fun F w hφ => ⟨[_],[], rfl, rfl, rfl, rfl⟩) tE_46 tR_22 rfl rfl (by simp; omega) (by simp; omega) (H2 := fun p12 c12 => [.blk g11 [.slice p xs.length c] 22, bagF T_FactD (zz.drop 0) none, .blk g [.slice none 0 0, .slice none 0 0, .slice none 0 0, .slice none 0 0, .slice none 0 0, .slice none 0 0, .slice p6 h6.length c6, .slice p7 h7.length c7, .slice none 0 0, .slice none 0 0, .slice none 0 0, .slice none 0 0, .slice none 0 0, .slice none 0 0, .slice none 0 0, .slice none 0 0, .slice none 0 0, .slice none 0 0, .slice none 0 0, .slice none 0 0, .slice none 0 0, .slice none 0 0, .slice none 0 0, .slice none 0 0, .slice none 0 0, .slice none 0 0, .slice none 0 0, .slice none 0 0, .slice none 0 0] 112, .own 25 1 hdrR (.slice p6 h6.length c6) h6, flatF 51 3 (h6.map row0), .own 22 1 hdrR (.slice p12 ((h7 ++ ([(p, xs.length, c)] : List Hdr)).length) c12) (h7 ++ ([(p, xs.length, c)] : List Hdr)), flatF 27 3 (h7.map row0), .own 27 3 T_FactD.pair (.slice p xs.length c) zz]) (fun _ _ => rfl) (fun p12 c12 => (wl_drop 0 rfl (H' := [_,_,_,_,_,_,_]) rfl (wP rfl (wF rfl tF_112_7 (wS 1 7 rfl tS_46 (all' := [_,_,_,_,_,_,_,_,_,_,_,_,_,_,_,_,_,_,_,_,_,_,_,_,_,_,_,_,_]) rfl (H' := [_,_,_,_,_,_,_]) rfl (wl_nil (we_then ?_)))))))))))))))
 refine wc_keep [0,1] (S' := [_,_]) rfl (wc_seq (wc_region (wP rfl (wl_nil (we_then (wc_block (wc_loop (σ := Option Addr × Nat × List Hdr × Nat) (fun s => s.2.2.2 ≤ xs.length ∧ s.2.2.1.length ≤ h6.length + s.2.2.2 * 1 ∧ Bd s.2.2.1) (fun s => xs.length - s.2.2.2) (fun s => [(4, .int .i64 ((s.2.2.2 : Nat) : Int)), (0, .pointer (some ⟨g, 0, none⟩)), (1, .slice p xs.length c)]) (fun s => []) (fun s => [bagF T_FactD (zz.drop s.2.2.2) none, .blk g [.slice none 0 0, .slice none 0 0, .slice none 0 0, .slice none 0 0, .slice none 0 0, .slice none 0 0, .slice s.1 s.2.2.1.length s.2.1, .slice p12 ((h7 ++ ([(p, xs.length, c)] : List Hdr)).length) c12, .slice none 0 0, .slice none 0 0, .slice none 0 0, .slice none 0 0, .slice none 0 0, .slice none 0 0, .slice none 0 0, .slice none 0 0, .slice none 0 0, .slice none 0 0, .slice none 0 0, .slice none 0 0, .slice none 0 0, .slice none 0 0, .slice none 0 0, .slice none 0 0, .slice none 0 0, .slice none 0 0, .slice none 0 0, .slice none 0 0, .slice none 0 0] 112, .own 25 1 hdrR (.slice s.1 s.2.2.1.length s.2.1) s.2.2.1, flatF 51 3 (s.2.2.1.map row0), .own 22 1 hdrR (.slice p12 ((h7 ++ ([(p, xs.length, c)] : List Hdr)).length) c12) (h7 ++ ([(p, xs.length, c)] : List Hdr)), flatF 27 3 (h7.map row0), .own 27 3 T_FactD.pair (.slice p xs.length c) zz]) (p6, c6, h6,0) ⟨Nat.zero_le _, Nat.le_add_right _ _, hB6⟩ [4,0,1] rfl (asK [] rfl) rfl (fun s1 oks1 => (wc_seq (wc_seq (wc_region (wP rfl (wP rfl (wN rfl tE_22 ?_))))))))))))))
 refine wP rfl (wl_nil (we_then (wc_keep [18,4,0,1] (S' := [_,_,_,_]) rfl ?_)))
 refine wc_cond rfl (fun h18 => ?_) (fun h18 => ?_)
 ·
  replace h18 := of_decide_eq_true h18
  have hi1 : s1.2.2.2 < zz.length := by omega
  obtain ⟨z1, hz1⟩ : ∃ z, zz[s1.2.2.2]? = some z := ⟨_, List.getElem?_eq_getElem hi1⟩
  have hxs := hx z1.1 (by rw [← hz0]; exact List.mem_map_of_mem (List.mem_of_getElem? hz1))
  unfold sz_FactD at hxs
  obtain ⟨hi2, hl6, hb6⟩ := oks1
  refine wc_skip (we_then (wc_seq (wc_block (wc_region (wP rfl (wP rfl (wP rfl (wl_indexH 6 s1.2.2.2 rfl rfl rfl (freshS_eq rfl) rfl rfl rfl rfl rfl hi1 tE_22 tS_27 (fun g24 eg24 => ?_)))))))))
  subst eg24
  refine wl_loadRow pair_opens 6 s1.2.2.2 0 rfl rfl rfl (freshS_eq rfl) rfl rfl rfl hz1 tS_27 tA_27 (v := fun _ => .agg #[.int .i64 (z1.1.id), .int .i64 (z1.1.ty), .slice z1.2.1 z1.1.args.length z1.2.2]) (fun _ => rfl) (fun _ => rfl) (fun _ _ => (wl_sh [.own 51 3 R_V (.slice z1.2.1 z1.1.args.length z1.2.2) z1.1.args, bagF T_FactD (zz.drop (s1.2.2.2 + 1)) none, .blk g [.slice none 0 0, .slice none 0 0, .slice none 0 0, .slice none 0 0, .slice none 0 0, .slice none 0 0, .slice s1.1 s1.2.2.1.length s1.2.1, .slice p12 ((h7 ++ ([((some ⟨g24,0, none⟩), xs.length, c)] : List Hdr)).length) c12, .slice none 0 0, .slice none 0 0, .slice none 0 0, .slice none 0 0, .slice none 0 0, .slice none 0 0, .slice none 0 0, .slice none 0 0, .slice none 0 0, .slice none 0 0, .slice none 0 0, .slice none 0 0, .slice none 0 0, .slice none 0 0, .slice none 0 0, .slice none 0 0, .slice none 0 0, .slice none 0 0, .slice none 0 0, .slice none 0 0, .slice none 0 0] 112, .own 25 1 hdrR (.slice s1.1 s1.2.2.1.length s1.2.1) s1.2.2.1, flatF 51 3 (s1.2.2.1.map row0), .own 22 1 hdrR (.slice p12 ((h7 ++ ([((some ⟨g24,0, none⟩), xs.length, c)] : List Hdr)).length) c12) (h7 ++ ([((some ⟨g24,0, none⟩), xs.length, c)] : List Hdr)), flatF 27 3 (h7.map row0), .own 27 3 T_FactD.pair (.slice (some ⟨g24,0, none⟩) xs.length c) zz] (fun _ h => h.bagUncons 0 rfl hz1) (wl_sh [flatF 51 3 ([row0 (z1.2.1, z1.1.args.length, z1.2.2)]), bagF T_FactD (zz.drop (s1.2.2.2 + 1)) none, .blk g [.slice none 0 0, .slice none 0 0, .slice none 0 0, .slice none 0 0, .slice none 0 0, .slice none 0 0, .slice s1.1 s1.2.2.1.length s1.2.1, .slice p12 ((h7 ++ ([((some ⟨g24,0, none⟩), xs.length, c)] : List Hdr)).length) c12, .slice none 0 0, .slice none 0 0, .slice none 0 0, .slice none 0 0, .slice none 0 0, .slice none 0 0, .slice none 0 0, .slice none 0 0, .slice none 0 0, .slice none 0 0, .slice none 0 0, .slice none 0 0, .slice none 0 0, .slice none 0 0, .slice none 0 0, .slice none 0 0, .slice none 0 0, .slice none 0 0, .slice none 0 0, .slice none 0 0, .slice none 0 0] 112, .own 25 1 hdrR (.slice s1.1 s1.2.2.1.length s1.2.1) s1.2.2.1, flatF 51 3 (s1.2.2.1.map row0), .own 22 1 hdrR (.slice p12 ((h7 ++ ([((some ⟨g24,0, none⟩), xs.length, c)] : List Hdr)).length) c12) (h7 ++ ([((some ⟨g24,0, none⟩), xs.length, c)] : List Hdr)), flatF 27 3 (h7.map row0), .own 27 3 T_FactD.pair (.slice (some ⟨g24,0, none⟩) xs.length c) zz] (fun _ h => h.flOne 0 rfl) (wC [2,3,4,0] [1,5,6,7] rfl fn_65 rfl (ap_oneFact _ s1.1 s1.2.1 s1.2.2.1 p12 c12 (h7 ++ ([((some ⟨g24,0, none⟩), xs.length, c)] : List Hdr)) z1.1.id z1.1.ty z1.2.1 z1.1.args.length z1.2.2 (by omega) hb6 hxs) (asK [] rfl) rfl (H' := [_,_,_,_]) rfl ?_))))
  rintro _ _ _ ⟨q6_1, d6_1, k6_1, hl6_1, hb6_1, rfl, rfl, rfl⟩
  refine wl_nil (we_block_normal (we_then (wc_region (wP rfl (wP rfl (wl_as (d := 20) (v' := .int .i64 ((s1.2.2.2 + 1 : Nat) : Int)) (S' := [_,_,_,_,_,_,_,_,_,_,_]) rfl rfl (nat_add (a := s1.2.2.2) (b := 1) (by omega)) (wl_pure (S' := [_,_,_,_,_,_,_,_,_,_,_]) rfl rfl rfl rfl rfl (wl_nil (we_pick [3,0,1,2,4,5,6] rfl (H' := [_,_,_,_,_,_,_]) rfl ?_)))))))))
  refine we_round (q6_1, d6_1, k6_1, s1.2.2.2 + 1) (by show xs.length - (s1.2.2.2 + 1) < xs.length - s1.2.2.2; omega) ⟨by show s1.2.2.2 + 1 ≤ _; omega, by have := hl6_1; show List.length (k6_1) ≤ _ + (s1.2.2.2 + 1) * _; omega, hb6_1⟩ [4,0,1] rfl (asK [] rfl) rfl
 ·
  replace h18 := of_decide_eq_false h18
  obtain ⟨hi2, hl6, hb6⟩ := oks1
  refine wc_exit (we_then_exit (we_then_exit (we_block_hit (we_sh [bagF T_FactD (zz.drop s1.2.2.2) none, .blk g [.slice none 0 0, .slice none 0 0, .slice none 0 0, .slice none 0 0, .slice none 0 0, .slice none 0 0, .slice s1.1 s1.2.2.1.length s1.2.1, .slice p12 ((h7 ++ ([(p, xs.length, c)] : List Hdr)).length) c12, .slice none 0 0, .slice none 0 0, .slice none 0 0, .slice none 0 0, .slice none 0 0, .slice none 0 0, .slice none 0 0, .slice none 0 0, .slice none 0 0, .slice none 0 0, .slice none 0 0, .slice none 0 0, .slice none 0 0, .slice none 0 0, .slice none 0 0, .slice none 0 0, .slice none 0 0, .slice none 0 0, .slice none 0 0, .slice none 0 0, .slice none 0 0] 112, .own 25 1 hdrR (.slice s1.1 s1.2.2.1.length s1.2.1) s1.2.2.1, flatF 51 3 (s1.2.2.1.map row0), .own 22 1 hdrR (.slice p12 ((h7 ++ ([(p, xs.length, c)] : List Hdr)).length) c12) (h7 ++ ([(p, xs.length, c)] : List Hdr)), flatF 27 3 (h7.map row0), flatF 27 3 [row0 (p, xs.length, c)]] (fun _ h => by have h2 := h.flOne 6 rfl; exact h2) (we_sh [bagF T_FactD (zz.drop s1.2.2.2) none, .blk g [.slice none 0 0, .slice none 0 0, .slice none 0 0, .slice none 0 0, .slice none 0 0, .slice none 0 0, .slice s1.1 s1.2.2.1.length s1.2.1, .slice p12 ((h7 ++ ([(p, xs.length, c)] : List Hdr)).length) c12, .slice none 0 0, .slice none 0 0, .slice none 0 0, .slice none 0 0, .slice none 0 0, .slice none 0 0, .slice none 0 0, .slice none 0 0, .slice none 0 0, .slice none 0 0, .slice none 0 0, .slice none 0 0, .slice none 0 0, .slice none 0 0, .slice none 0 0, .slice none 0 0, .slice none 0 0, .slice none 0 0, .slice none 0 0, .slice none 0 0, .slice none 0 0] 112, .own 25 1 hdrR (.slice s1.1 s1.2.2.1.length s1.2.1) s1.2.2.1, flatF 51 3 (s1.2.2.1.map row0), .own 22 1 hdrR (.slice p12 ((h7 ++ ([(p, xs.length, c)] : List Hdr)).length) c12) (h7 ++ ([(p, xs.length, c)] : List Hdr)), flatF 27 3 ((h7 ++ [(p, xs.length, c)]).map row0)] (fun _ h => h.flPush 5 6 rfl rfl rfl) (ret_none (Hr := [.blk g [.slice none 0 0, .slice none 0 0, .slice none 0 0, .slice none 0 0, .slice none 0 0, .slice none 0 0, .slice s1.1 s1.2.2.1.length s1.2.1, .slice p12 ((h7 ++ ([(p, xs.length, c)] : List Hdr)).length) c12, .slice none 0 0, .slice none 0 0, .slice none 0 0, .slice none 0 0, .slice none 0 0, .slice none 0 0, .slice none 0 0, .slice none 0 0, .slice none 0 0, .slice none 0 0, .slice none 0 0, .slice none 0 0, .slice none 0 0, .slice none 0 0, .slice none 0 0, .slice none 0 0, .slice none 0 0, .slice none 0 0, .slice none 0 0, .slice none 0 0, .slice none 0 0] 112, .own 25 1 hdrR (.slice s1.1 s1.2.2.1.length s1.2.1) s1.2.2.1, flatF 51 3 (s1.2.2.1.map row0), .own 22 1 hdrR (.slice p12 ((h7 ++ ([(p, xs.length, c)] : List Hdr)).length) c12) (h7 ++ ([(p, xs.length, c)] : List Hdr)), flatF 27 3 ((h7 ++ [(p, xs.length, c)]).map row0)]) [1,2,3,4,5] Tryz.results47 ?_ (asK [] rfl) rfl rfl (.inr rfl)))))))
  exact ⟨_,_,_,_,_,_, by have h9 := hl6; have h8 : s1.2.2.2 * 1 ≤ 10000 * 1 := Nat.mul_le_mul_right _ (Nat.le_trans hi2 hn); omega, hb6, by simp, hB7.push hn, rfl, rfl, rfl⟩
def z_markValue (k i : Int) : Int := IntKind.wrap .i64 ((IntKind.wrap .i64 (1000003 * (IntKind.wrap .i64 (k + 7)))) + i)
theorem z_markValue_s (k i : Int) : Spec Tryz.prog 62 [.int .i64 k, .int .i64 i] [] [] (fun v Φr Hr => v = .agg #[.int .u8 0, .int .i64 (z_markValue k i), .string ((⟨#[]⟩ : ByteArray))] ∧ Φr = [] ∧ Hr = []) := w_ropewalkkit_markValue_s 0 k i rfl
def mc_markValue (k i : Nat) : List Value := [.int .u8 0, .int .i64 (z_markValue ((k : Nat) : Int) ((i : Nat) : Int)), .string ((⟨#[]⟩ : ByteArray))]
theorem fl_flatValues (p : Option Addr) (c : Nat) (hs : List Hdr) (hL : hs.length ≤ 1073741824) (hb : ∀ h ∈ hs, h.2.1 ≤ 1073741824) : Spec Tryz.prog 72 [.slice p hs.length c] [] [.own 25 1 hdrR (.slice p hs.length c) hs, flatF 51 3 (hs.map row0)] (fun v Φr Hr => ∃ rows, FlE hs mc_markValue rows ∧ v = .bool true ∧ Φr = [] ∧ Hr = [flatF 51 3 rows]) := by
 refine spec_of Tryz.func72 rfl Tryz.ntmps72 rfl (S := [_]) rfl (fun C => (wc_seq (wc_region (wP rfl (wl_nil (we_then (wc_seq (wc_seq (wc_region (wP rfl (wl_nil (we_then (wc_block (wc_loop (σ := List Twin × Nat) (fun s => s.2 ≤ hs.length ∧ FlA hs mc_markValue s.2 0 s.1) (fun s => hs.length - s.2) (fun s => [(3, .int .i64 ((s.2 : Nat) : Int)), (2, .bool false), (0, .slice p hs.length c)]) (fun s => []) (fun s => [.own 25 1 hdrR (.slice p hs.length c) hs, flatF 51 3 s.1]) (hs.map row0,0) ⟨Nat.zero_le _, FlA.start⟩ [3,2,0] rfl (asK [] rfl) rfl (fun s1 oks1 => ?_)))))))))))))))
 refine wc_seq (wc_seq (wc_region (wP rfl (wP rfl (wN rfl tE_89 (wP rfl (wl_nil (we_then (wc_keep [19,3,2,0] (S' := [_,_,_,_]) rfl ?_)))))))))
 refine wc_cond rfl (fun h19 => ?_) (fun h19 => ?_)
 ·
  replace h19 := of_decide_eq_true h19
  have hk1 : s1.2 < hs.length := by omega
  obtain ⟨y1, hy1⟩ : ∃ y, hs[s1.2]? = some y := ⟨_, List.getElem?_eq_getElem hk1⟩
  have hB1 : y1.2.1 ≤ 1073741824 := hb _ (List.mem_of_getElem? hy1)
  refine wc_skip (we_then (wc_seq (wc_block (wc_seq (wc_region (wP rfl (wl_nil (we_then (wc_block (wc_loop (σ := List Twin × Nat) (fun s => s.2 ≤ y1.2.1 ∧ FlA hs mc_markValue s1.2 s.2 s.1) (fun s => y1.2.1 - s.2) (fun s => [(4, .int .i64 ((s.2 : Nat) : Int)), (19, .bool (decide (((s1.2 : Nat) : Int) < ((hs.length : Nat) : Int)))), (3, .int .i64 ((s1.2 : Nat) : Int)), (2, .bool false), (0, .slice p hs.length c)]) (fun s => []) (fun s => [.own 25 1 hdrR (.slice p hs.length c) hs, flatF 51 3 s.1]) (s1.1,0) ⟨Nat.zero_le _, oks1.2⟩ [4,19,3,2,0] rfl (asK [] rfl) rfl (fun s2 oks2 => (wc_seq (wc_seq (wc_region ?_))))))))))))))
  refine wP rfl (wP rfl (wP rfl (wl_indexH 0 s1.2 rfl rfl rfl (freshS_eq rfl) rfl rfl rfl rfl rfl hk1 tE_89 tS_25 (fun g25 eg25 => ?_))))
  subst eg25
  refine wl_loadRow hdr_opens 0 s1.2 0 rfl rfl rfl (freshS_eq rfl) rfl rfl rfl hy1 tS_25 tA_25 (v := fun _ => .slice y1.1 y1.2.1 y1.2.2) (fun _ => rfl) (fun _ => rfl) (fun _ _ => (wN rfl tE_25 (wP rfl (wl_nil (we_then (wc_keep [28,4,19,3,2,0] (S' := [_,_,_,_,_,_]) rfl ?_))))))
  refine wc_cond rfl (fun h28 => ?_) (fun h28 => ?_)
  ·
   replace h28 := of_decide_eq_true h28
   obtain ⟨r2, hr2, hh2, hsm2, hl2⟩ := oks2.2.at_ hy1
   refine wc_skip (we_then (wc_seq (wc_block (wc_draw [0,1,2,3,4,5,6,8] rfl rfl (fun hok => (xP hok 0 rfl (xP hok 1 rfl (wx_indexK hok 2 0 s1.2 rfl rfl rfl (freshS_eq rfl) rfl rfl rfl rfl rfl rfl hk1 tE_89 tS_25 (wx_loadRow hok 3 hdr_opens 0 s1.2 0 rfl rfl rfl (freshS_eq rfl) rfl rfl rfl rfl hy1 tS_25 tA_25 (v := .slice y1.1 y1.2.1 y1.2.2) rfl rfl (fun _ => (xP hok 4 rfl (xP hok 5 rfl (xP hok 6 rfl (xS hok 7 rfl (wC [] [0,1] rfl fn_62 rfl (z_markValue_s ((s1.2 : Nat) : Int) ((s2.2 : Nat) : Int)) (asK [] rfl) rfl (H' := [_,_]) rfl ?_)))))))))))))))
   rintro _ _ _ ⟨rfl, rfl, rfl⟩
   refine wl_nil (we_x [] [0] rfl rfl (wx_flIdxH hok 8 (p := y1.1) (m := y1.2.1) (cp := y1.2.2) 1 s1.2 s2.2 rfl rfl rfl (freshS_eq rfl) rfl rfl rfl hr2 hh2 rfl rfl rfl (by omega) hl2 tE_25 tS_51 (fun g39 eg39 => (xS hok 9 rfl (wl_flStore (cs := mc_markValue s1.2 s2.2) 1 s1.2 s2.2 rfl rfl rfl rfl hr2 hsm2 (hdr_eq hh2 eg39) rfl (by omega) rfl rfl tS_51 rfl (one_of rfl) (H' := [_,_]) rfl (wl_nil (we_x [] [] rfl rfl (wx_done hok rfl (we_block_normal (we_then (wc_region (wP rfl (wP rfl (wl_as (d := 30) (v' := .int .i64 ((s2.2 + 1 : Nat) : Int)) (S' := [_,_,_,_,_,_,_,_,_,_,_,_,_,_,_,_]) rfl rfl (nat_add (a := s2.2) (b := 1) (by omega)) ?_))))))))))))))
   refine wl_pure (S' := [_,_,_,_,_,_,_,_,_,_,_,_,_,_,_,_]) rfl rfl rfl rfl rfl (wl_nil ?_)
   refine we_round (s2.1.set s1.2 ⟨r2.h, (r2.l.set s2.2 (some (mc_markValue s1.2 s2.2))), r2.h, (r2.l.set s2.2 (some (mc_markValue s1.2 s2.2)))⟩, s2.2 + 1) (by show y1.2.1 - (s2.2 + 1) < _; omega) ⟨by show s2.2 + 1 ≤ _; omega, oks2.2.store hy1 hr2 (by omega)⟩ [4,19,3,2,0] rfl (asK [] rfl) rfl
  ·
   replace h28 := of_decide_eq_false h28
   refine wc_exit (we_then_exit (we_then_exit (we_block_hit (we_block_normal (we_then (wc_region (wP rfl (wP rfl (wl_as (d := 21) (v' := .int .i64 ((s1.2 + 1 : Nat) : Int)) (S' := [_,_,_,_,_,_,_]) rfl rfl (nat_add (a := s1.2) (b := 1) (by omega)) (wl_pure (S' := [_,_,_,_,_,_,_]) rfl rfl rfl rfl rfl (wl_nil ?_)))))))))))
   refine we_round (s2.1, s1.2 + 1) (by show hs.length - (s1.2 + 1) < _; omega) ⟨by show s1.2 + 1 ≤ _; omega, oks2.2.next hy1 (by omega)⟩ [3,2,0] rfl (asK [] rfl) rfl
 ·
  replace h19 := of_decide_eq_false h19
  refine wc_exit (we_then_exit (we_then_exit (we_block_hit (we_then (wc_seq (wc_region (wP rfl (wN rfl tE_89 (wl_makeSlice (m := hs.length) hdrR (none, 0,0) rfl rfl rfl (freshS_eq rfl) rfl rfl rfl rfl rfl tE_89 tR_25 rfl rfl (fun _ _ => rfl) (by omega) (by omega) (fun g42 => (wP rfl (wl_nil (we_then (wc_keep [5,19,3,2,0] (S' := [_,_,_,_,_]) rfl ?_))))))))))))))
  refine wc_seq (wc_seq (wc_region (wP rfl (wl_nil (we_then (wc_block (wc_loop (σ := List Hdr × List Twin × Nat) (fun s => s.2.2 ≤ hs.length ∧ FlB hs mc_markValue s.1 s.2.2 s.2.1) (fun s => hs.length - s.2.2) (fun s => [(6, .int .i64 ((s.2.2 : Nat) : Int)), (5, .slice (some ⟨g42,0, none⟩) hs.length hs.length), (19, .bool (decide (((s1.2 : Nat) : Int) < ((hs.length : Nat) : Int)))), (3, .int .i64 ((s1.2 : Nat) : Int)), (2, .bool false), (0, .slice p hs.length c)]) (fun s => []) (fun s => [.own 25 1 hdrR (.slice (some ⟨g42,0, none⟩) hs.length hs.length) s.1, .own 25 1 hdrR (.slice p hs.length c) hs, flatF 51 3 s.2.1]) (List.replicate hs.length (none, 0,0), s1.1,0) ⟨Nat.zero_le _, oks1.2.grow (by omega) (by simp)⟩ [6,5,19,3,2,0] rfl (asK [] rfl) rfl (fun s3 oks3 => (wc_seq (wc_seq (wc_region (wP rfl (wP rfl (wN rfl tE_89 ?_))))))))))))))
  refine wP rfl (wl_nil (we_then (wc_keep [46,6,5,19,3,2,0] (S' := [_,_,_,_,_,_,_]) rfl ?_)))
  refine wc_cond rfl (fun h46 => ?_) (fun h46 => ?_)
  ·
   replace h46 := of_decide_eq_true h46
   have hk3 : s3.2.2 < hs.length := by omega
   obtain ⟨y3, hy3⟩ : ∃ y, hs[s3.2.2]? = some y := ⟨_, List.getElem?_eq_getElem hk3⟩
   have hB3 : y3.2.1 ≤ 1073741824 := hb _ (List.mem_of_getElem? hy3)
   refine wc_skip (we_then (wc_seq (wc_block (wc_seq (wc_region (wP rfl (wP rfl (wl_indexH 1 s3.2.2 rfl rfl rfl (freshS_eq rfl) rfl rfl rfl rfl rfl hk3 tE_89 tS_25 (fun g51 eg51 => ?_)))))))))
   subst eg51
   refine wl_loadRow hdr_opens 1 s3.2.2 0 rfl rfl rfl (freshS_eq rfl) rfl rfl rfl hy3 tS_25 tA_25 (v := fun _ => .slice y3.1 y3.2.1 y3.2.2) (fun _ => rfl) (fun _ => rfl) (fun _ _ => (wP rfl (wl_nil (we_then (wc_keep [7,46,6,5,19,3,2,0] (S' := [_,_,_,_,_,_,_,_]) rfl (wc_seq (wc_seq (wc_region (wP rfl (wl_nil (we_then (wc_block (wc_loop (σ := List Twin × Hdr × Nat) (fun s => s.2.2 ≤ 64 ∧ FlC hs mc_markValue s3.1 s3.2.2 s.2.2 s.2.1 s.1) (fun s => 64 - s.2.2) (fun s => [(8, .int .i64 ((s.2.2 : Nat) : Int)), (7, .slice s.2.1.1 s.2.1.2.1 s.2.1.2.2), (46, .bool (decide (((s3.2.2 : Nat) : Int) < ((hs.length : Nat) : Int)))), (6, .int .i64 ((s3.2.2 : Nat) : Int)), (5, .slice (some ⟨g42,0, none⟩) hs.length hs.length), (19, .bool (decide (((s1.2 : Nat) : Int) < ((hs.length : Nat) : Int)))), (3, .int .i64 ((s1.2 : Nat) : Int)), (2, .bool false), (0, .slice (some ⟨g51,0, none⟩) hs.length c)]) (fun s => []) (fun s => [.own 25 1 hdrR (.slice (some ⟨g42,0, none⟩) hs.length hs.length) s3.1, .own 25 1 hdrR (.slice (some ⟨g51,0, none⟩) hs.length c) hs, flatF 51 3 s.1]) (s3.2.1, y3,0) ⟨Nat.zero_le _, oks3.2.begin hy3⟩ [8,7,46,6,5,19,3,2,0] rfl (asK [] rfl) rfl (fun s4 oks4 => (wc_seq ?_)))))))))))))))
   refine wc_seq (wc_region (wP rfl (wP rfl (wl_nil (we_then (wc_keep [54,8,7,46,6,5,19,3,2,0] (S' := [_,_,_,_,_,_,_,_,_,_]) rfl ?_))))))
   refine wc_cond rfl (fun h54 => ?_) (fun h54 => ?_)
   ·
    replace h54 := of_decide_eq_true h54
    obtain ⟨r4, hr4, hh4, hl4, hg4, hm4⟩ := oks4.2.at_ hy3
    refine wc_skip (we_then (wc_seq (wc_block (wc_region (wP rfl (wP rfl (wP rfl (wP rfl (wl_indexK 1 s3.2.2 rfl rfl rfl (freshS_eq rfl) rfl rfl rfl rfl rfl hk3 tE_89 tS_25 (wl_loadRow hdr_opens 1 s3.2.2 0 rfl rfl rfl (freshS_eq rfl) rfl rfl rfl hy3 tS_25 tA_25 (v := fun _ => .slice y3.1 y3.2.1 y3.2.2) (fun _ => rfl) (fun _ => rfl) (fun _ _ => (wN rfl tE_25 (wP rfl (wP rfl ?_))))))))))))))
    refine wl_as (d := 65) (v' := .int .i64 ((y3.2.1 + s4.2.2 : Nat) : Int)) (S' := [_,_,_,_,_,_,_,_,_,_,_,_,_,_,_,_,_,_]) rfl rfl (nat_add (a := y3.2.1) (b := s4.2.2) (by omega)) (wC [] [0,1,2] rfl fn_62 rfl (z_markValue_s ((s3.2.2 : Nat) : Int) ((y3.2.1 + s4.2.2 : Nat) : Int)) (asK [] rfl) rfl (H' := [_,_,_]) rfl ?_)
    rintro _ _ _ ⟨rfl, rfl, rfl⟩
    refine wl_buildSlice rfl rfl rfl (freshS_eq rfl) rfl tE_25 tS_51 tZ_51 rfl (zs := [.int .u8 0, .int .i64 0, .string ⟨#[]⟩]) (by kernel_rfl) rfl (out := [_,_,_]) rfl (fun g67 => (wl_flAppB (cs := mc_markValue s3.2.2 (y3.2.1 + s4.2.2)) 3 s3.2.2 0 rfl rfl rfl (freshS_eq rfl) rfl rfl hr4 (by rw [hg4]; rfl) rfl rfl rfl (one_of rfl) tE_25 tR_51 rfl rfl (by rw [hm4]; simp only [marks_len, List.length_append, List.length_cons, List.length_nil]; omega) (by rw [hm4]; simp only [marks_len, List.length_append, List.length_cons, List.length_nil]; omega) (H2 := fun gh68 => [_,_,_, flatF 51 3 (s4.1.set s3.2.2 ⟨r4.h, r4.l, gh68, r4.m ++ [some (mc_markValue s3.2.2 (y3.2.1 + s4.2.2))]⟩)]) (fun _ => rfl) (fun gh68 => (wl_drop 0 rfl (H' := [_,_,_]) rfl (wl_pure (S' := [_,_,_,_,_,_,_,_,_,_,_,_,_,_,_,_,_,_,_,_,_]) rfl rfl rfl rfl rfl (wl_nil (we_block_normal (we_then (wc_region (wP rfl (wP rfl (wl_as (d := 56) (v' := .int .i64 ((s4.2.2 + 1 : Nat) : Int)) (S' := [_,_,_,_,_,_,_,_,_,_,_,_,_,_,_,_,_,_,_,_,_,_,_]) rfl rfl (nat_add (a := s4.2.2) (b := 1) (by omega)) (wl_pure (S' := [_,_,_,_,_,_,_,_,_,_,_,_,_,_,_,_,_,_,_,_,_,_,_]) rfl rfl rfl rfl rfl (wl_nil ?_))))))))))))))
    refine we_round (s4.1.set s3.2.2 ⟨r4.h, r4.l, gh68, r4.m ++ [some (mc_markValue s3.2.2 (y3.2.1 + s4.2.2))]⟩, gh68, s4.2.2 + 1) (by show 64 - (s4.2.2 + 1) < _; omega) ⟨by show s4.2.2 + 1 ≤ 64; omega, oks4.2.app hy3 hr4 _⟩ [8,7,46,6,5,19,3,2,0] rfl (asK [] rfl) rfl
   ·
    replace h54 := of_decide_eq_false h54
    refine wc_exit (we_then_exit (we_then_exit (we_block_hit (we_then (wc_region (wP rfl (wP rfl (wP rfl (wl_indexK 0 s3.2.2 rfl rfl rfl (freshS_eq rfl) rfl rfl rfl rfl rfl (by rw [oks3.2.2.1]; exact hk3) tE_89 tS_25 (wl_storeRow (u := s4.2.1) 0 s3.2.2 rfl rfl rfl rfl rfl (by rw [oks3.2.2.1]; exact hk3) rfl rfl tS_25 rfl (fun _ _ _ => rfl) (H' := [_,_,_]) rfl (wl_nil (we_block_normal (we_then ?_)))))))))))))
    refine wc_region (wP rfl (wP rfl (wl_as (d := 48) (v' := .int .i64 ((s3.2.2 + 1 : Nat) : Int)) (S' := [_,_,_,_,_,_,_,_,_,_,_,_,_,_,_]) rfl rfl (nat_add (a := s3.2.2) (b := 1) (by omega)) (wl_pure (S' := [_,_,_,_,_,_,_,_,_,_,_,_,_,_,_]) rfl rfl rfl rfl rfl (wl_nil ?_)))))
    have hc3 := oks4.2
    rw [show s4.2.2 = 64 from by omega] at hc3
    refine we_round (s3.1.set s3.2.2 s4.2.1, s4.1, s3.2.2 + 1) (by show hs.length - (s3.2.2 + 1) < _; omega) ⟨by show s3.2.2 + 1 ≤ _; omega, hc3.done hk3⟩ [6,5,19,3,2,0] rfl (asK [] rfl) rfl
  ·
   replace h46 := of_decide_eq_false h46
   refine wc_exit (we_then_exit (we_then_exit (we_block_hit (we_then (wc_seq (wc_seq (wc_region (wP rfl (wl_nil (we_then (wc_block (wc_loop (σ := Nat) (fun s => s ≤ hs.length) (fun s => hs.length - s) (fun s => [(9, .int .i64 ((s : Nat) : Int)), (46, .bool (decide (((s3.2.2 : Nat) : Int) < ((hs.length : Nat) : Int)))), (6, .int .i64 ((s3.2.2 : Nat) : Int)), (5, .slice (some ⟨g42,0, none⟩) hs.length hs.length), (19, .bool (decide (((s1.2 : Nat) : Int) < ((hs.length : Nat) : Int)))), (3, .int .i64 ((s1.2 : Nat) : Int)), (2, .bool false), (0, .slice p hs.length c)]) (fun s => []) (fun s => [.own 25 1 hdrR (.slice (some ⟨g42,0, none⟩) hs.length hs.length) s3.1, .own 25 1 hdrR (.slice p hs.length c) hs, flatF 51 3 s3.2.1]) 0 (Nat.zero_le _) [9,46,6,5,19,3,2,0] rfl (asK [] rfl) rfl (fun s5 oks5 => (wc_seq ?_))))))))))))))
   refine wc_seq (wc_region (wP rfl (wP rfl (wN rfl tE_89 (wP rfl (wl_nil (we_then (wc_keep [76,9,46,6,5,19,3,2,0] (S' := [_,_,_,_,_,_,_,_,_]) rfl ?_))))))))
   refine wc_cond rfl (fun h76 => ?_) (fun h76 => ?_)
   ·
    replace h76 := of_decide_eq_true h76
    have hk5 : s5 < hs.length := by omega
    obtain ⟨y5, hy5⟩ : ∃ y, hs[s5]? = some y := ⟨_, List.getElem?_eq_getElem hk5⟩
    have hB5 : y5.2.1 ≤ 1073741824 := hb _ (List.mem_of_getElem? hy5)
    obtain ⟨r5, hr5, hh5, hl5, hg5, hm5⟩ := oks3.2.look (by omega) hy5
    refine wc_flLen 2 rfl hr5 (fun hA5 hC5 => ?_)
    rw [hl5, marks_len] at hA5
    rw [hm5, marks_len] at hC5
    refine wc_skip (we_then (wc_seq (wc_block (wc_seq (wc_region (wP rfl (wl_nil (we_then (wc_block (wc_loop (σ := Nat) (fun s => s ≤ y5.2.1 + 64) (fun s => y5.2.1 + 64 - s) (fun s => [(10, .int .i64 ((s : Nat) : Int)), (76, .bool (decide (((s5 : Nat) : Int) < ((hs.length : Nat) : Int)))), (9, .int .i64 ((s5 : Nat) : Int)), (46, .bool (decide (((s3.2.2 : Nat) : Int) < ((hs.length : Nat) : Int)))), (6, .int .i64 ((s3.2.2 : Nat) : Int)), (5, .slice (some ⟨g42,0, none⟩) hs.length hs.length), (19, .bool (decide (((s1.2 : Nat) : Int) < ((hs.length : Nat) : Int)))), (3, .int .i64 ((s1.2 : Nat) : Int)), (2, .bool false), (0, .slice p hs.length c)]) (fun s => []) (fun s => [.own 25 1 hdrR (.slice (some ⟨g42,0, none⟩) hs.length hs.length) s3.1, .own 25 1 hdrR (.slice p hs.length c) hs, flatF 51 3 s3.2.1]) 0 (Nat.zero_le _) [10,76,9,46,6,5,19,3,2,0] rfl (asK [] rfl) rfl (fun s6 oks6 => (wc_seq (wc_seq (wc_region ?_))))))))))))))
    refine wP rfl (wP rfl (wP rfl (wl_indexK 0 s5 rfl rfl rfl (freshS_eq rfl) rfl rfl rfl rfl rfl (by rw [oks3.2.2.1]; exact hk5) tE_89 tS_25 (wl_loadRow hdr_opens 0 s5 0 rfl rfl rfl (freshS_eq rfl) rfl rfl rfl hg5 tS_25 tA_25 (v := fun _ => .slice r5.g.1 r5.g.2.1 r5.g.2.2) (fun _ => rfl) (fun _ => rfl) (fun _ _ => (wN rfl tE_25 (wP rfl (wl_nil (we_then (wc_keep [85,10,76,9,46,6,5,19,3,2,0] (S' := [_,_,_,_,_,_,_,_,_,_,_]) rfl ?_))))))))))
    refine wc_cond rfl (fun h85 => ?_) (fun h85 => ?_)
    ·
     replace h85 := of_decide_eq_true h85
     refine wc_skip (we_then (wc_seq (wc_block (wc_seq (wc_draw [0,1,2,3,4,5,6,7,8,10,11,12,13,14,15,16,17,18,19,20,21,22,23,24,25,26,27,28,29,31,32,33,34] rfl rfl (fun hok => (xP hok 0 rfl (xP hok 1 rfl (wx_indexK hok 2 0 s5 rfl rfl rfl (freshS_eq rfl) rfl rfl rfl rfl rfl rfl (by rw [oks3.2.2.1]; exact hk5) tE_89 tS_25 (wx_loadRow hok 3 hdr_opens 0 s5 0 rfl rfl rfl (freshS_eq rfl) rfl rfl rfl rfl hg5 tS_25 tA_25 (v := .slice r5.g.1 r5.g.2.1 r5.g.2.2) rfl rfl (fun _ => (xP hok 4 rfl (wx_flIdxG hok 5 (p := r5.g.1) (m := r5.g.2.1) (cp := r5.g.2.2) 2 s5 s6 rfl rfl rfl (freshS_eq rfl) rfl rfl rfl hr5 rfl rfl rfl rfl (by omega) (by rw [hm5, marks_len]; omega) tE_25 tS_51 (fun g93 eg93 => (wx_flLoadG hok 6 2 s5 s6 rfl rfl rfl (freshS_eq rfl) rfl rfl rfl hr5 (hdr_eqG eg93) rfl (cs := mc_markValue s5 s6) (by rw [hm5]; exact marks_at (by omega)) tS_51 tA_51 rfl (v := .agg #[.int .u8 0, .int .i64 (z_markValue ((s5 : Nat) : Int) ((s6 : Nat) : Int)), .string ((⟨#[]⟩ : ByteArray))]) rfl (xP hok 7 rfl ?_))))))))))))))))
     refine xP hok 8 rfl (xS hok 9 rfl (wC [] [0,1,2] rfl fn_62 rfl (z_markValue_s ((s5 : Nat) : Int) ((s6 : Nat) : Int)) (asK [] rfl) rfl (H' := [_,_,_]) rfl ?_))
     rintro _ _ _ ⟨rfl, rfl, rfl⟩
     refine wl_nil (we_x [] [2,0] rfl rfl (wx_bin hok 10 rfl rfl rfl (freshS_eq rfl) rfl rfl rfl rfl (eqlV _ _ (⟨0, z_markValue ((s5 : Nat) : Int) ((s6 : Nat) : Int), (⟨#[]⟩ : ByteArray)⟩ : V) (⟨0, z_markValue ((s5 : Nat) : Int) ((s6 : Nat) : Int), (⟨#[]⟩ : ByteArray)⟩ : V)) (wx_as (d := 98) (v' := .bool true) (S' := [_,_,_,_,_,_,_,_,_,_,_,_,_,_,_,_,_,_,_,_,_]) rfl rfl (congrArg Value.bool (by simp)) (xP hok 11 rfl (xP hok 12 rfl (xP hok 13 rfl (xP hok 14 rfl (xP hok 15 rfl (wx_indexH hok 16 1 s5 rfl rfl rfl (freshS_eq rfl) rfl rfl rfl rfl rfl rfl hk5 tE_89 tS_25 (fun g104 eg104 => ?_))))))))))
     subst eg104
     refine wx_loadRow hok 17 hdr_opens 1 s5 0 rfl rfl rfl (freshS_eq rfl) rfl rfl rfl rfl hy5 tS_25 tA_25 (v := .slice y5.1 y5.2.1 y5.2.2) rfl rfl (fun _ => (wx_len hok 18 rfl rfl rfl (freshS_eq rfl) rfl rfl rfl tE_25 (xP hok 19 rfl (xP hok 20 rfl ?_))))
     refine wx_split (d := 108) (S' := [_,_,_,_,_,_,_,_,_,_,_,_,_,_,_,_,_,_,_,_,_,_,_,_,_,_,_,_,_,_,_]) rfl rfl (fun h108 => ?_) (fun h108 => ?_)
     ·
      replace h108 := of_decide_eq_true h108
      refine xP hok 21 rfl (xP hok 22 rfl (wx_indexK hok 23 1 s5 rfl rfl rfl (freshS_eq rfl) rfl rfl rfl rfl rfl rfl hk5 tE_89 tS_25 (wx_loadRow hok 24 hdr_opens 1 s5 0 rfl rfl rfl (freshS_eq rfl) rfl rfl rfl rfl hy5 tS_25 tA_25 (v := .slice y5.1 y5.2.1 y5.2.2) rfl rfl (fun _ => (xP hok 25 rfl (wx_flIdxH hok 26 (p := y5.1) (m := y5.2.1) (cp := y5.2.2) 2 s5 s6 rfl rfl rfl (freshS_eq rfl) rfl rfl rfl hr5 hh5 rfl rfl rfl (by omega) (by rw [hl5, marks_len]) tE_25 tS_51 (fun g114 eg114 => (wx_flLoadH hok 27 2 s5 s6 rfl rfl rfl (freshS_eq rfl) rfl rfl rfl hr5 (hdr_eq hh5 eg114) rfl (cs := mc_markValue s5 s6) (by rw [hl5]; exact marks_at (by omega)) tS_51 tA_51 rfl (v := .agg #[.int .u8 0, .int .i64 (z_markValue ((s5 : Nat) : Int) ((s6 : Nat) : Int)), .string ((⟨#[]⟩ : ByteArray))]) rfl (xP hok 28 rfl (xP hok 29 rfl (xS hok 30 rfl (wC [] [0,1,2] rfl fn_62 rfl (z_markValue_s ((s5 : Nat) : Int) ((s6 : Nat) : Int)) (asK [] rfl) rfl (H' := [_,_,_]) rfl ?_))))))))))))
      rintro _ _ _ ⟨rfl, rfl, rfl⟩
      refine wl_nil (we_x [] [2,1,1,2,0] rfl rfl (wx_bin hok 31 rfl rfl rfl (freshS_eq rfl) rfl rfl rfl rfl (eqlV _ _ (⟨0, z_markValue ((s5 : Nat) : Int) ((s6 : Nat) : Int), (⟨#[]⟩ : ByteArray)⟩ : V) (⟨0, z_markValue ((s5 : Nat) : Int) ((s6 : Nat) : Int), (⟨#[]⟩ : ByteArray)⟩ : V)) (wx_as (d := 119) (v' := .bool true) (S' := [_,_,_,_,_,_,_,_,_,_,_,_,_,_,_,_,_,_,_,_,_,_,_,_,_,_,_,_,_,_,_,_,_,_,_,_,_,_,_,_,_,_]) rfl rfl (congrArg Value.bool (by simp)) (xP hok 32 rfl (xP hok 33 rfl (xP hok 34 rfl (wx_done hok rfl (we_then (wc_keep [122,85,10,76,9,46,6,5,19,3,2,0] (S' := [_,_,_,_,_,_,_,_,_,_,_,_]) rfl (wc_false rfl (wc_skip (we_block_normal (we_then ?_)))))))))))))
      refine wc_region (wP rfl (wP rfl (wl_as (d := 87) (v' := .int .i64 ((s6 + 1 : Nat) : Int)) (S' := [_,_,_,_,_,_,_,_,_,_,_,_,_]) rfl rfl (nat_add (a := s6) (b := 1) (by omega)) (wl_pure (S' := [_,_,_,_,_,_,_,_,_,_,_,_,_]) rfl rfl rfl rfl rfl (wl_nil ?_)))))
      refine we_round (s6 + 1) (by omega) (by omega) [10,76,9,46,6,5,19,3,2,0] rfl (asK [] rfl) rfl
     ·
      replace h108 := of_decide_eq_false h108
      refine xO hok 21 rfl (xO hok 22 rfl (xO hok 23 rfl (xO hok 24 rfl (xO hok 25 rfl (xO hok 26 rfl (xO hok 27 rfl (xO hok 28 rfl (xO hok 29 rfl (xS hok 30 rfl (wO rfl (wl_nil (we_x [] [1,2,0] rfl rfl (xO hok 31 rfl ?_)))))))))))))
      refine xO hok 32 rfl (xP hok 33 rfl (xP hok 34 rfl (wx_done hok rfl (we_then (wc_keep [122,85,10,76,9,46,6,5,19,3,2,0] (S' := [_,_,_,_,_,_,_,_,_,_,_,_]) rfl (wc_false rfl (wc_skip (we_block_normal (we_then (wc_region (wP rfl (wP rfl (wl_as (d := 87) (v' := .int .i64 ((s6 + 1 : Nat) : Int)) (S' := [_,_,_,_,_,_,_,_,_,_,_,_,_]) rfl rfl (nat_add (a := s6) (b := 1) (by omega)) ?_)))))))))))))
      refine wl_pure (S' := [_,_,_,_,_,_,_,_,_,_,_,_,_]) rfl rfl rfl rfl rfl (wl_nil ?_)
      refine we_round (s6 + 1) (by omega) (by omega) [10,76,9,46,6,5,19,3,2,0] rfl (asK [] rfl) rfl
    ·
     replace h85 := of_decide_eq_false h85
     refine wc_exit (we_then_exit (we_then_exit (we_block_hit (we_block_normal (we_then (wc_region (wP rfl (wP rfl (wl_as (d := 78) (v' := .int .i64 ((s5 + 1 : Nat) : Int)) (S' := [_,_,_,_,_,_,_,_,_,_,_,_]) rfl rfl (nat_add (a := s5) (b := 1) (by omega)) (wl_pure (S' := [_,_,_,_,_,_,_,_,_,_,_,_]) rfl rfl rfl rfl rfl (wl_nil ?_)))))))))))
     refine we_round (s5 + 1) (by omega) (by omega) [9,46,6,5,19,3,2,0] rfl (asK [] rfl) rfl
   ·
    replace h76 := of_decide_eq_false h76
    refine wc_exit (we_then_exit (we_then_exit (we_block_hit (we_then (wc_seq (wc_seq (wc_region (wP rfl (wl_nil (we_then (wc_block (wc_loop (σ := List Hdr × List Twin × Nat) (fun s => s.2.2 ≤ hs.length ∧ FlD hs mc_markValue s.1 s.2.2 s.2.1) (fun s => hs.length - s.2.2) (fun s => [(11, .int .i64 ((s.2.2 : Nat) : Int)), (76, .bool (decide (((s5 : Nat) : Int) < ((hs.length : Nat) : Int)))), (9, .int .i64 ((s5 : Nat) : Int)), (46, .bool (decide (((s3.2.2 : Nat) : Int) < ((hs.length : Nat) : Int)))), (6, .int .i64 ((s3.2.2 : Nat) : Int)), (5, .slice (some ⟨g42,0, none⟩) hs.length hs.length), (19, .bool (decide (((s1.2 : Nat) : Int) < ((hs.length : Nat) : Int)))), (3, .int .i64 ((s1.2 : Nat) : Int)), (2, .bool false), (0, .slice p hs.length c)]) (fun s => []) (fun s => [.own 25 1 hdrR (.slice (some ⟨g42,0, none⟩) hs.length hs.length) s.1, .own 25 1 hdrR (.slice p hs.length c) hs, flatF 51 3 s.2.1]) (s3.1, s3.2.1,0) ⟨Nat.zero_le _, oks3.2.again⟩ [11,76,9,46,6,5,19,3,2,0] rfl (asK [] rfl) rfl (fun s7 oks7 => (wc_seq ?_))))))))))))))
    refine wc_seq (wc_region (wP rfl (wP rfl (wN rfl tE_89 (wP rfl (wl_nil (we_then (wc_keep [126,11,76,9,46,6,5,19,3,2,0] (S' := [_,_,_,_,_,_,_,_,_,_,_]) rfl ?_))))))))
    refine wc_cond rfl (fun h126 => ?_) (fun h126 => ?_)
    ·
     replace h126 := of_decide_eq_true h126
     have hk7 : s7.2.2 < hs.length := by omega
     obtain ⟨y7, hy7⟩ : ∃ y, hs[s7.2.2]? = some y := ⟨_, List.getElem?_eq_getElem hk7⟩
     have hB7 : y7.2.1 ≤ 1073741824 := hb _ (List.mem_of_getElem? hy7)
     obtain ⟨r7, hr7, hh7, hl7⟩ := oks7.2.at_ hy7
     refine wc_skip (we_then (wc_seq (wc_block (wc_seq (wc_region (wl_makeSlice (m := 64) celR (none : Cel) rfl rfl rfl (freshS_eq rfl) rfl rfl rfl rfl rfl tE_25 tR_51 rfl rfl (fun _ _ => cel_any rfl) (by omega) (by omega) (fun g129 => (wP rfl (wl_nil (we_then (wc_keep [12,126,11,76,9,46,6,5,19,3,2,0] (S' := [_,_,_,_,_,_,_,_,_,_,_,_]) rfl (wc_seq (wc_seq (wc_region ?_))))))))))))))
     refine wP rfl (wl_nil (we_then (wc_block (wc_loop (σ := List Cel × Nat) (fun s => s.2 ≤ 64 ∧ s.1.length = 64) (fun s => 64 - s.2) (fun s => [(13, .int .i64 ((s.2 : Nat) : Int)), (12, .slice (some ⟨g129,0, none⟩) 64 64), (126, .bool (decide (((s7.2.2 : Nat) : Int) < ((hs.length : Nat) : Int)))), (11, .int .i64 ((s7.2.2 : Nat) : Int)), (76, .bool (decide (((s5 : Nat) : Int) < ((hs.length : Nat) : Int)))), (9, .int .i64 ((s5 : Nat) : Int)), (46, .bool (decide (((s3.2.2 : Nat) : Int) < ((hs.length : Nat) : Int)))), (6, .int .i64 ((s3.2.2 : Nat) : Int)), (5, .slice (some ⟨g42,0, none⟩) hs.length hs.length), (19, .bool (decide (((s1.2 : Nat) : Int) < ((hs.length : Nat) : Int)))), (3, .int .i64 ((s1.2 : Nat) : Int)), (2, .bool false), (0, .slice p hs.length c)]) (fun s => []) (fun s => [.own 51 3 celR (.slice (some ⟨g129,0, none⟩) 64 64) s.1, .own 25 1 hdrR (.slice (some ⟨g42,0, none⟩) hs.length hs.length) s7.1, .own 25 1 hdrR (.slice p hs.length c) hs, flatF 51 3 s7.2.1]) (List.replicate 64 (none : Cel), 0) ⟨Nat.zero_le _, by simp⟩ [13,12,126,11,76,9,46,6,5,19,3,2,0] rfl (asK [] rfl) rfl (fun s8 oks8 => (wc_seq (wc_seq (wc_region (wP rfl (wP rfl (wl_nil (we_then (wc_keep [131,13,12,126,11,76,9,46,6,5,19,3,2,0] (S' := [_,_,_,_,_,_,_,_,_,_,_,_,_,_]) rfl ?_)))))))))))))
     refine wc_cond rfl (fun h131 => ?_) (fun h131 => ?_)
     ·
      replace h131 := of_decide_eq_true h131
      refine wc_skip (we_then (wc_seq (wc_block (wc_region (wP rfl (wP rfl (wP rfl (wP rfl (wN rfl tE_89 (wP rfl (wl_as (d := 139) (v' := .int .i64 ((s7.2.2 + hs.length : Nat) : Int)) (S' := [_,_,_,_,_,_,_,_,_,_,_,_,_,_,_,_,_,_,_]) rfl rfl (nat_add (a := s7.2.2) (b := hs.length) (by omega)) (wP rfl (wC [] [0,1,2,3] rfl fn_62 rfl (z_markValue_s ((s7.2.2 + hs.length : Nat) : Int) ((s8.2 : Nat) : Int)) (asK [] rfl) rfl (H' := [_,_,_,_]) rfl ?_)))))))))))))
      rintro _ _ _ ⟨rfl, rfl, rfl⟩
      refine wl_indexK 0 s8.2 rfl rfl rfl (freshS_eq rfl) rfl rfl rfl rfl rfl (by rw [oks8.2]; omega) tE_25 tS_51 (wl_storeRow (u := some ([.int .u8 0, .int .i64 (z_markValue ((s7.2.2 + hs.length : Nat) : Int) ((s8.2 : Nat) : Int)), .string ((⟨#[]⟩ : ByteArray))] : List Value)) 0 s8.2 rfl rfl rfl rfl rfl (by rw [oks8.2]; omega) rfl rfl tS_51 rfl (fun _ _ _ => cel_some rfl) (H' := [_,_,_,_]) rfl (wl_nil (we_block_normal (we_then (wc_region (wP rfl (wP rfl (wl_as (d := 133) (v' := .int .i64 ((s8.2 + 1 : Nat) : Int)) (S' := [_,_,_,_,_,_,_,_,_,_,_,_,_,_,_,_,_,_,_,_,_,_,_,_]) rfl rfl (nat_add (a := s8.2) (b := 1) (by omega)) (wl_pure (S' := [_,_,_,_,_,_,_,_,_,_,_,_,_,_,_,_,_,_,_,_,_,_,_,_]) rfl rfl rfl rfl rfl (wl_nil ?_))))))))))
      refine we_round (s8.1.set s8.2 (some ([.int .u8 0, .int .i64 (z_markValue ((s7.2.2 + hs.length : Nat) : Int) ((s8.2 : Nat) : Int)), .string ((⟨#[]⟩ : ByteArray))] : List Value)), s8.2 + 1) (by show 64 - (s8.2 + 1) < _; omega) ⟨by show s8.2 + 1 ≤ 64; omega, by show (List.set _ _ _).length = 64; rw [List.length_set]; exact oks8.2⟩ [13,12,126,11,76,9,46,6,5,19,3,2,0] rfl (asK [] rfl) rfl
     ·
      replace h131 := of_decide_eq_false h131
      refine wc_exit (we_then_exit (we_then_exit (we_block_hit (we_then (wc_region (wP rfl (wP rfl (wP rfl (wP rfl (wl_indexH 2 s7.2.2 rfl rfl rfl (freshS_eq rfl) rfl rfl rfl rfl rfl hk7 tE_89 tS_25 (fun g147 eg147 => ?_)))))))))))
      subst eg147
      refine wl_loadRow hdr_opens 2 s7.2.2 0 rfl rfl rfl (freshS_eq rfl) rfl rfl rfl hy7 tS_25 tA_25 (v := fun _ => .slice y7.1 y7.2.1 y7.2.2) (fun _ => rfl) (fun _ => rfl) (fun _ _ => (wP rfl (wl_sh [_,_,_, flatF 51 3 (s7.2.1.set s7.2.2 ⟨r7.h, r7.l, r7.h, r7.l⟩)] (fun _ h => h.flReset 3 s7.2.2 rfl hr7) (wl_flAppO 3 s7.2.2 0 rfl rfl rfl (freshS_eq rfl) rfl rfl (set_eqT _ hr7) (by show _ = some (hdv r7.h); rw [hh7]; rfl) rfl rfl oks8.2 (by decide) tE_25 tR_51 rfl rfl (by show r7.l.length + _ ≤ _; rw [hl7, marks_len]; omega) (by show (r7.l.length + _) * _ ≤ _; rw [hl7, marks_len]; omega) (H2 := fun gh150 => [_,_,_, flatF 51 3 ((s7.2.1.set s7.2.2 ⟨r7.h, r7.l, r7.h, r7.l⟩).set s7.2.2 ⟨r7.h, r7.l, gh150, r7.l ++ s8.1⟩)]) (fun _ => rfl) (fun gh150 => (wl_drop 0 rfl (H' := [_,_,_]) rfl (wl_indexK 0 s7.2.2 rfl rfl rfl (freshS_eq rfl) rfl rfl rfl rfl rfl (by rw [oks7.2.2.1]; exact hk7) tE_89 tS_25 (wl_storeRow (u := gh150) 0 s7.2.2 rfl rfl rfl rfl rfl (by rw [oks7.2.2.1]; exact hk7) rfl rfl tS_25 rfl (fun _ _ _ => rfl) (H' := [_,_,_]) rfl (wl_nil (we_block_normal (we_then (wc_region (wP rfl (wP rfl (wl_as (d := 128) (v' := .int .i64 ((s7.2.2 + 1 : Nat) : Int)) (S' := [_,_,_,_,_,_,_,_,_,_,_,_,_,_,_,_,_,_,_,_,_,_,_,_]) rfl rfl (nat_add (a := s7.2.2) (b := 1) (by omega)) ?_)))))))))))))))
      refine wl_pure (S' := [_,_,_,_,_,_,_,_,_,_,_,_,_,_,_,_,_,_,_,_,_,_,_,_]) rfl rfl rfl rfl rfl (wl_nil ?_)
      refine we_round (s7.1.set s7.2.2 gh150, (s7.2.1.set s7.2.2 ⟨r7.h, r7.l, r7.h, r7.l⟩).set s7.2.2 ⟨r7.h, r7.l, gh150, r7.l ++ s8.1⟩, s7.2.2 + 1) (by show hs.length - (s7.2.2 + 1) < _; omega) ⟨by show s7.2.2 + 1 ≤ _; omega, oks7.2.app hy7 hr7 _ _⟩ [11,76,9,46,6,5,19,3,2,0] rfl (asK [] rfl) rfl
    ·
     replace h126 := of_decide_eq_false h126
     refine wc_exit (we_then_exit (we_then_exit (we_block_hit (we_then (wc_seq (wc_seq (wc_region (wP rfl (wl_nil (we_then (wc_block (wc_loop (σ := Nat) (fun s => s ≤ hs.length) (fun s => hs.length - s) (fun s => [(14, .int .i64 ((s : Nat) : Int)), (126, .bool (decide (((s7.2.2 : Nat) : Int) < ((hs.length : Nat) : Int)))), (11, .int .i64 ((s7.2.2 : Nat) : Int)), (76, .bool (decide (((s5 : Nat) : Int) < ((hs.length : Nat) : Int)))), (9, .int .i64 ((s5 : Nat) : Int)), (46, .bool (decide (((s3.2.2 : Nat) : Int) < ((hs.length : Nat) : Int)))), (6, .int .i64 ((s3.2.2 : Nat) : Int)), (5, .slice (some ⟨g42,0, none⟩) hs.length hs.length), (19, .bool (decide (((s1.2 : Nat) : Int) < ((hs.length : Nat) : Int)))), (3, .int .i64 ((s1.2 : Nat) : Int)), (2, .bool false), (0, .slice p hs.length c)]) (fun s => []) (fun s => [.own 25 1 hdrR (.slice (some ⟨g42,0, none⟩) hs.length hs.length) s7.1, .own 25 1 hdrR (.slice p hs.length c) hs, flatF 51 3 s7.2.1]) 0 (Nat.zero_le _) [14,126,11,76,9,46,6,5,19,3,2,0] rfl (asK [] rfl) rfl (fun s9 oks9 => (wc_seq ?_))))))))))))))
     refine wc_seq (wc_region (wP rfl (wP rfl (wN rfl tE_89 (wP rfl (wl_nil (we_then (wc_keep [155,14,126,11,76,9,46,6,5,19,3,2,0] (S' := [_,_,_,_,_,_,_,_,_,_,_,_,_]) rfl ?_))))))))
     refine wc_cond rfl (fun h155 => ?_) (fun h155 => ?_)
     ·
      replace h155 := of_decide_eq_true h155
      have hk9 : s9 < hs.length := by omega
      obtain ⟨y9, hy9⟩ : ∃ y, hs[s9]? = some y := ⟨_, List.getElem?_eq_getElem hk9⟩
      have hB9 : y9.2.1 ≤ 1073741824 := hb _ (List.mem_of_getElem? hy9)
      obtain ⟨r9, hr9, hh9, hl9, hg9, t9, hm9⟩ := oks7.2.look (by omega) hy9
      refine wc_flLen 2 rfl hr9 (fun hA9 hC9 => ?_)
      rw [hl9, marks_len] at hA9
      have hE9 := hC9
      rw [hm9, List.length_append, marks_len] at hE9
      refine wc_skip (we_then (wc_seq (wc_block (wc_seq (wc_region (wP rfl (wl_nil (we_then (wc_block (wc_loop (σ := Nat) (fun s => s ≤ y9.2.1) (fun s => y9.2.1 - s) (fun s => [(15, .int .i64 ((s : Nat) : Int)), (155, .bool (decide (((s9 : Nat) : Int) < ((hs.length : Nat) : Int)))), (14, .int .i64 ((s9 : Nat) : Int)), (126, .bool (decide (((s7.2.2 : Nat) : Int) < ((hs.length : Nat) : Int)))), (11, .int .i64 ((s7.2.2 : Nat) : Int)), (76, .bool (decide (((s5 : Nat) : Int) < ((hs.length : Nat) : Int)))), (9, .int .i64 ((s5 : Nat) : Int)), (46, .bool (decide (((s3.2.2 : Nat) : Int) < ((hs.length : Nat) : Int)))), (6, .int .i64 ((s3.2.2 : Nat) : Int)), (5, .slice (some ⟨g42,0, none⟩) hs.length hs.length), (19, .bool (decide (((s1.2 : Nat) : Int) < ((hs.length : Nat) : Int)))), (3, .int .i64 ((s1.2 : Nat) : Int)), (2, .bool false), (0, .slice p hs.length c)]) (fun s => []) (fun s => [.own 25 1 hdrR (.slice (some ⟨g42,0, none⟩) hs.length hs.length) s7.1, .own 25 1 hdrR (.slice p hs.length c) hs, flatF 51 3 s7.2.1]) 0 (Nat.zero_le _) [15,155,14,126,11,76,9,46,6,5,19,3,2,0] rfl (asK [] rfl) rfl (fun s10 oks10 => (wc_seq (wc_seq (wc_region ?_))))))))))))))
      refine wP rfl (wP rfl (wP rfl (wl_indexH 1 s9 rfl rfl rfl (freshS_eq rfl) rfl rfl rfl rfl rfl hk9 tE_89 tS_25 (fun g161 eg161 => ?_))))
      subst eg161
      refine wl_loadRow hdr_opens 1 s9 0 rfl rfl rfl (freshS_eq rfl) rfl rfl rfl hy9 tS_25 tA_25 (v := fun _ => .slice y9.1 y9.2.1 y9.2.2) (fun _ => rfl) (fun _ => rfl) (fun _ _ => (wN rfl tE_25 (wP rfl (wl_nil (we_then (wc_keep [164,15,155,14,126,11,76,9,46,6,5,19,3,2,0] (S' := [_,_,_,_,_,_,_,_,_,_,_,_,_,_,_]) rfl ?_))))))
      refine wc_cond rfl (fun h164 => ?_) (fun h164 => ?_)
      ·
       replace h164 := of_decide_eq_true h164
       refine wc_skip (we_then (wc_seq (wc_block (wc_seq (wc_draw [0,1,2,3,4,5,6,7,8,10,11,12,13,14,15,16,17,18,19,20,21,23,24,25] rfl rfl (fun hok => (xP hok 0 rfl (xP hok 1 rfl (wx_indexK hok 2 1 s9 rfl rfl rfl (freshS_eq rfl) rfl rfl rfl rfl rfl rfl hk9 tE_89 tS_25 (wx_loadRow hok 3 hdr_opens 1 s9 0 rfl rfl rfl (freshS_eq rfl) rfl rfl rfl rfl hy9 tS_25 tA_25 (v := .slice y9.1 y9.2.1 y9.2.2) rfl rfl (fun _ => (xP hok 4 rfl (wx_flIdxH hok 5 (p := y9.1) (m := y9.2.1) (cp := y9.2.2) 2 s9 s10 rfl rfl rfl (freshS_eq rfl) rfl rfl rfl hr9 hh9 rfl rfl rfl (by omega) (by rw [hl9, marks_len]) tE_25 tS_51 (fun g172 eg172 => (wx_flLoadH hok 6 2 s9 s10 rfl rfl rfl (freshS_eq rfl) rfl rfl rfl hr9 (hdr_eq hh9 eg172) rfl (cs := mc_markValue s9 s10) (by rw [hl9]; exact marks_at (by omega)) tS_51 tA_51 rfl (v := .agg #[.int .u8 0, .int .i64 (z_markValue ((s9 : Nat) : Int) ((s10 : Nat) : Int)), .string ((⟨#[]⟩ : ByteArray))]) rfl (xP hok 7 rfl ?_))))))))))))))))
       refine xP hok 8 rfl (xS hok 9 rfl (wC [] [0,1,2] rfl fn_62 rfl (z_markValue_s ((s9 : Nat) : Int) ((s10 : Nat) : Int)) (asK [] rfl) rfl (H' := [_,_,_]) rfl ?_))
       rintro _ _ _ ⟨rfl, rfl, rfl⟩
       refine wl_nil (we_x [] [2,1] rfl rfl (wx_bin hok 10 rfl rfl rfl (freshS_eq rfl) rfl rfl rfl rfl (eqlV _ _ (⟨0, z_markValue ((s9 : Nat) : Int) ((s10 : Nat) : Int), (⟨#[]⟩ : ByteArray)⟩ : V) (⟨0, z_markValue ((s9 : Nat) : Int) ((s10 : Nat) : Int), (⟨#[]⟩ : ByteArray)⟩ : V)) (wx_as (d := 177) (v' := .bool true) (S' := [_,_,_,_,_,_,_,_,_,_,_,_,_,_,_,_,_,_,_,_,_,_,_,_,_]) rfl rfl (congrArg Value.bool (by simp)) (xP hok 11 rfl (xP hok 12 rfl (xP hok 13 rfl (xP hok 14 rfl (wx_indexK hok 15 0 s9 rfl rfl rfl (freshS_eq rfl) rfl rfl rfl rfl rfl rfl (by rw [oks7.2.2.1]; exact hk9) tE_89 tS_25 (wx_loadRow hok 16 hdr_opens 0 s9 0 rfl rfl rfl (freshS_eq rfl) rfl rfl rfl rfl hg9 tS_25 tA_25 (v := .slice r9.g.1 r9.g.2.1 r9.g.2.2) rfl rfl (fun _ => (xP hok 17 rfl (wx_flIdxG hok 18 (p := r9.g.1) (m := r9.g.2.1) (cp := r9.g.2.2) 2 s9 s10 rfl rfl rfl (freshS_eq rfl) rfl rfl rfl hr9 rfl rfl rfl rfl (by omega) hC9.symm tE_25 tS_51 (fun g185 eg185 => (wx_flLoadG hok 19 2 s9 s10 rfl rfl rfl (freshS_eq rfl) rfl rfl rfl hr9 (hdr_eqG eg185) rfl (cs := mc_markValue s9 s10) (by rw [hm9]; exact app_at (by omega)) tS_51 tA_51 rfl (v := .agg #[.int .u8 0, .int .i64 (z_markValue ((s9 : Nat) : Int) ((s10 : Nat) : Int)), .string ((⟨#[]⟩ : ByteArray))]) rfl (xP hok 20 rfl ?_)))))))))))))))
       refine xP hok 21 rfl (xS hok 22 rfl (wC [] [0,1,2] rfl fn_62 rfl (z_markValue_s ((s9 : Nat) : Int) ((s10 : Nat) : Int)) (asK [] rfl) rfl (H' := [_,_,_]) rfl ?_))
       rintro _ _ _ ⟨rfl, rfl, rfl⟩
       refine wl_nil (we_x [] [2,0,2,1] rfl rfl (wx_bin hok 23 rfl rfl rfl (freshS_eq rfl) rfl rfl rfl rfl (eqlV _ _ (⟨0, z_markValue ((s9 : Nat) : Int) ((s10 : Nat) : Int), (⟨#[]⟩ : ByteArray)⟩ : V) (⟨0, z_markValue ((s9 : Nat) : Int) ((s10 : Nat) : Int), (⟨#[]⟩ : ByteArray)⟩ : V)) (wx_as (d := 190) (v' := .bool true) (S' := [_,_,_,_,_,_,_,_,_,_,_,_,_,_,_,_,_,_,_,_,_,_,_,_,_,_,_,_,_,_,_,_,_,_,_,_,_,_]) rfl rfl (congrArg Value.bool (by simp)) (xP hok 24 rfl (xP hok 25 rfl (wx_done hok rfl (we_then (wc_keep [192,164,15,155,14,126,11,76,9,46,6,5,19,3,2,0] (S' := [_,_,_,_,_,_,_,_,_,_,_,_,_,_,_,_]) rfl (wc_false rfl (wc_skip (we_block_normal (we_then (wc_region ?_)))))))))))))
       refine wP rfl (wP rfl (wl_as (d := 166) (v' := .int .i64 ((s10 + 1 : Nat) : Int)) (S' := [_,_,_,_,_,_,_,_,_,_,_,_,_,_,_,_,_]) rfl rfl (nat_add (a := s10) (b := 1) (by omega)) (wl_pure (S' := [_,_,_,_,_,_,_,_,_,_,_,_,_,_,_,_,_]) rfl rfl rfl rfl rfl (wl_nil ?_))))
       refine we_round (s10 + 1) (by omega) (by omega) [15,155,14,126,11,76,9,46,6,5,19,3,2,0] rfl (asK [] rfl) rfl
      ·
       replace h164 := of_decide_eq_false h164
       refine wc_exit (we_then_exit (we_then_exit (we_block_hit (we_block_normal (we_then (wc_region (wP rfl (wP rfl (wl_as (d := 157) (v' := .int .i64 ((s9 + 1 : Nat) : Int)) (S' := [_,_,_,_,_,_,_,_,_,_,_,_,_,_,_,_]) rfl rfl (nat_add (a := s9) (b := 1) (by omega)) (wl_pure (S' := [_,_,_,_,_,_,_,_,_,_,_,_,_,_,_,_]) rfl rfl rfl rfl rfl (wl_nil ?_)))))))))))
       refine we_round (s9 + 1) (by omega) (by omega) [14,126,11,76,9,46,6,5,19,3,2,0] rfl (asK [] rfl) rfl
     ·
      replace h155 := of_decide_eq_false h155
      refine wc_exit (we_then_exit (we_then_exit (we_block_hit (we_then (wc_seq (wc_region (wl_pure (S' := [_,_,_,_,_,_,_,_,_,_,_,_]) rfl rfl rfl rfl rfl (wl_nil (we_then (wc_ret (ret_one (Hr := [flatF 51 3 s7.2.1]) [2] Tryz.results72 (res_tmp rfl) ?_ (asK [] rfl) rfl rfl (.inl rfl))))))))))))
      exact ⟨_, oks7.2.left, rfl, rfl, rfl⟩
theorem w_ropewalkkit_SameFact_n_s (N : Nat) (a0 : Int) (a1 : Int) (a2 : Int) (a3 : Int) (o0 : Bool) (hm : m_ropewalkkit_SameFact_n N a0 a1 a2 a3 = some o0) : Spec Tryz.prog 32 [.agg #[.int .i64 a0, .int .i64 a1, .slice none 0 0], .agg #[.int .i64 a2, .int .i64 a3, .slice none 0 0]] [] [] (fun v Φr Hr => v = .bool o0 ∧ Φr = [] ∧ Hr = []) := by
 unfold m_ropewalkkit_SameFact_n at hm
 refine spec_of Tryz.func32 rfl Tryz.ntmps32 rfl (S := [_,_]) rfl (fun C => (wc_seq (wc_region (wB rfl (fun g2 => (wB rfl (fun g3 => (wP rfl (wl_nil (we_then (wc_keep [3,2] (S' := [_,_]) rfl (wc_seq (wc_region (wF rfl tF_27_0 (wD 1 0 rfl tS_3 tA_3 rfl (wF rfl tF_27_0 ?_))))))))))))))))
 refine wD 0 0 rfl tS_3 tA_3 rfl (wP rfl (wP rfl ?_))
 refine wl_split (d := 10) (S' := [_,_,_,_,_,_,_]) rfl rfl (fun hs10 => ?_) (fun hs10 => ?_)
 ·
  replace hm := iteT hm hs10
  refine wF rfl tF_27_1 (wD 1 1 rfl tS_3 tA_3 rfl (wF rfl tF_27_1 (wD 0 1 rfl tS_3 tA_3 rfl (wP rfl (wP rfl (wP rfl ?_))))))
  refine wl_split (d := 17) (S' := [_,_,_,_,_,_,_,_,_,_,_,_,_,_]) rfl rfl (fun hs17 => ?_) (fun hs17 => ?_)
  ·
   replace hm := iteT hm hs17
   refine wF rfl tF_27_2 (wD 1 2 rfl tS_25 tA_25 rfl (wF rfl tF_27_2 (wD 0 2 rfl tS_25 tA_25 rfl (wl_fact (.sli 3 R_V none 0 ([] : List V)) (fun _ _ _ => sli_none) (wl_fact (.sli 3 R_V none 0 ([] : List V)) (fun _ _ _ => sli_none) ?_)))))
   obtain ⟨v22, hc22, hm⟩ := bindO_some hm
   refine wC [] [0,1] rfl fn_61 rfl (w_ropewalkkit_SameValues_s N none 0 ([] : List V) none 0 ([] : List V) _ hc22) (asK [1,0] rfl) rfl (H' := [_,_]) rfl ?_
   rintro _ _ _ ⟨rfl, rfl, rfl⟩
   refine wP rfl (wP rfl (wl_nil (we_then (wc_keep [4] (S' := [_]) rfl (wc_ret ?_)))))
   have hE := (Option.some.inj hm).symm
   replace hE := hE.symm
   subst hE
   refine ret_one (Hr := []) [] Tryz.results32 (res_tmp rfl) ⟨rfl, rfl, rfl⟩ (asK [] rfl) rfl rfl (.inl rfl)
  ·
   replace hm := iteF hm hs17
   refine wO rfl (wO rfl (wO rfl (wO rfl (wO rfl (wP rfl (wP rfl (wl_nil (we_then (wc_keep [4] (S' := [_]) rfl (wc_ret ?_))))))))))
   have hE := (Option.some.inj hm).symm
   replace hE := hE.symm
   subst hE
   refine ret_one (Hr := []) [] Tryz.results32 (res_tmp rfl) ⟨rfl, rfl, rfl⟩ (asK [] rfl) rfl rfl (.inl rfl)
 ·
  replace hm := iteF hm hs10
  refine wO rfl (wO rfl (wO rfl (wO rfl (wO rfl (wP rfl (wP rfl (wO rfl (wO rfl (wO rfl (wO rfl (wO rfl (wP rfl (wP rfl ?_)))))))))))))
  refine wl_nil (we_then (wc_keep [4] (S' := [_]) rfl (wc_ret ?_)))
  have hE := (Option.some.inj hm).symm
  replace hE := hE.symm
  subst hE
  refine ret_one (Hr := []) [] Tryz.results32 (res_tmp rfl) ⟨rfl, rfl, rfl⟩ (asK [] rfl) rfl rfl (.inl rfl)
def z_markFact (k i : Int) : Int := IntKind.wrap .i64 ((IntKind.wrap .i64 (1000003 * (IntKind.wrap .i64 (k + 7)))) + i)
theorem z_markFact_s (k i : Int) : Spec Tryz.prog 25 [.int .i64 k, .int .i64 i] [] [] (fun v Φr Hr => v = .agg #[.int .i64 (z_markFact k i), .int .i64 0, .slice none 0 0] ∧ Φr = [] ∧ Hr = []) := w_ropewalkkit_markFact_s 0 k i rfl
def mc_markFact (k i : Nat) : List Value := [.int .i64 (z_markFact ((k : Nat) : Int) ((i : Nat) : Int)), .int .i64 0, .slice none 0 0]
theorem sm_SameFact (z : Int) : m_ropewalkkit_SameFact_n 2 z 0 z 0 = some true := by
  simp [m_ropewalkkit_SameFact_n, m_ropewalkkit_SameValues, m_ropewalkkit_SameValues_L1, iter, bindO, bindS, gd]
theorem fl_flatFacts (p : Option Addr) (c : Nat) (hs : List Hdr) (hL : hs.length ≤ 1073741824) (hb : ∀ h ∈ hs, h.2.1 ≤ 1073741824) : Spec Tryz.prog 73 [.slice p hs.length c] [] [.own 22 1 hdrR (.slice p hs.length c) hs, flatF 27 3 (hs.map row0)] (fun v Φr Hr => ∃ rows, FlE hs mc_markFact rows ∧ v = .bool true ∧ Φr = [] ∧ Hr = [flatF 27 3 rows]) := by
 refine spec_of Tryz.func73 rfl Tryz.ntmps73 rfl (S := [_]) rfl (fun C => (wc_seq (wc_region (wP rfl (wl_nil (we_then (wc_seq (wc_seq (wc_region (wP rfl (wl_nil (we_then (wc_block (wc_loop (σ := List Twin × Nat) (fun s => s.2 ≤ hs.length ∧ FlA hs mc_markFact s.2 0 s.1) (fun s => hs.length - s.2) (fun s => [(3, .int .i64 ((s.2 : Nat) : Int)), (2, .bool false), (0, .slice p hs.length c)]) (fun s => []) (fun s => [.own 22 1 hdrR (.slice p hs.length c) hs, flatF 27 3 s.1]) (hs.map row0,0) ⟨Nat.zero_le _, FlA.start⟩ [3,2,0] rfl (asK [] rfl) rfl (fun s1 oks1 => ?_)))))))))))))))
 refine wc_seq (wc_seq (wc_region (wP rfl (wP rfl (wN rfl tE_46 (wP rfl (wl_nil (we_then (wc_keep [19,3,2,0] (S' := [_,_,_,_]) rfl ?_)))))))))
 refine wc_cond rfl (fun h19 => ?_) (fun h19 => ?_)
 ·
  replace h19 := of_decide_eq_true h19
  have hk1 : s1.2 < hs.length := by omega
  obtain ⟨y1, hy1⟩ : ∃ y, hs[s1.2]? = some y := ⟨_, List.getElem?_eq_getElem hk1⟩
  have hB1 : y1.2.1 ≤ 1073741824 := hb _ (List.mem_of_getElem? hy1)
  refine wc_skip (we_then (wc_seq (wc_block (wc_seq (wc_region (wP rfl (wl_nil (we_then (wc_block (wc_loop (σ := List Twin × Nat) (fun s => s.2 ≤ y1.2.1 ∧ FlA hs mc_markFact s1.2 s.2 s.1) (fun s => y1.2.1 - s.2) (fun s => [(4, .int .i64 ((s.2 : Nat) : Int)), (19, .bool (decide (((s1.2 : Nat) : Int) < ((hs.length : Nat) : Int)))), (3, .int .i64 ((s1.2 : Nat) : Int)), (2, .bool false), (0, .slice p hs.length c)]) (fun s => []) (fun s => [.own 22 1 hdrR (.slice p hs.length c) hs, flatF 27 3 s.1]) (s1.1,0) ⟨Nat.zero_le _, oks1.2⟩ [4,19,3,2,0] rfl (asK [] rfl) rfl (fun s2 oks2 => (wc_seq (wc_seq (wc_region ?_))))))))))))))
  refine wP rfl (wP rfl (wP rfl (wl_indexH 0 s1.2 rfl rfl rfl (freshS_eq rfl) rfl rfl rfl rfl rfl hk1 tE_46 tS_22 (fun g25 eg25 => ?_))))
  subst eg25
  refine wl_loadRow hdr_opens 0 s1.2 0 rfl rfl rfl (freshS_eq rfl) rfl rfl rfl hy1 tS_22 tA_22 (v := fun _ => .slice y1.1 y1.2.1 y1.2.2) (fun _ => rfl) (fun _ => rfl) (fun _ _ => (wN rfl tE_22 (wP rfl (wl_nil (we_then (wc_keep [28,4,19,3,2,0] (S' := [_,_,_,_,_,_]) rfl ?_))))))
  refine wc_cond rfl (fun h28 => ?_) (fun h28 => ?_)
  ·
   replace h28 := of_decide_eq_true h28
   obtain ⟨r2, hr2, hh2, hsm2, hl2⟩ := oks2.2.at_ hy1
   refine wc_skip (we_then (wc_seq (wc_block (wc_draw [0,1,2,3,4,5,6,8] rfl rfl (fun hok => (xP hok 0 rfl (xP hok 1 rfl (wx_indexK hok 2 0 s1.2 rfl rfl rfl (freshS_eq rfl) rfl rfl rfl rfl rfl rfl hk1 tE_46 tS_22 (wx_loadRow hok 3 hdr_opens 0 s1.2 0 rfl rfl rfl (freshS_eq rfl) rfl rfl rfl rfl hy1 tS_22 tA_22 (v := .slice y1.1 y1.2.1 y1.2.2) rfl rfl (fun _ => (xP hok 4 rfl (xP hok 5 rfl (xP hok 6 rfl (xS hok 7 rfl (wC [] [0,1] rfl fn_25 rfl (z_markFact_s ((s1.2 : Nat) : Int) ((s2.2 : Nat) : Int)) (asK [] rfl) rfl (H' := [_,_]) rfl ?_)))))))))))))))
   rintro _ _ _ ⟨rfl, rfl, rfl⟩
   refine wl_nil (we_x [] [0] rfl rfl (wx_flIdxH hok 8 (p := y1.1) (m := y1.2.1) (cp := y1.2.2) 1 s1.2 s2.2 rfl rfl rfl (freshS_eq rfl) rfl rfl rfl hr2 hh2 rfl rfl rfl (by omega) hl2 tE_22 tS_27 (fun g39 eg39 => (xS hok 9 rfl (wl_flStore (cs := mc_markFact s1.2 s2.2) 1 s1.2 s2.2 rfl rfl rfl rfl hr2 hsm2 (hdr_eq hh2 eg39) rfl (by omega) rfl rfl tS_27 rfl (one_of rfl) (H' := [_,_]) rfl (wl_nil (we_x [] [] rfl rfl (wx_done hok rfl (we_block_normal (we_then (wc_region (wP rfl (wP rfl (wl_as (d := 30) (v' := .int .i64 ((s2.2 + 1 : Nat) : Int)) (S' := [_,_,_,_,_,_,_,_,_,_,_,_,_,_,_,_]) rfl rfl (nat_add (a := s2.2) (b := 1) (by omega)) ?_))))))))))))))
   refine wl_pure (S' := [_,_,_,_,_,_,_,_,_,_,_,_,_,_,_,_]) rfl rfl rfl rfl rfl (wl_nil ?_)
   refine we_round (s2.1.set s1.2 ⟨r2.h, (r2.l.set s2.2 (some (mc_markFact s1.2 s2.2))), r2.h, (r2.l.set s2.2 (some (mc_markFact s1.2 s2.2)))⟩, s2.2 + 1) (by show y1.2.1 - (s2.2 + 1) < _; omega) ⟨by show s2.2 + 1 ≤ _; omega, oks2.2.store hy1 hr2 (by omega)⟩ [4,19,3,2,0] rfl (asK [] rfl) rfl
  ·
   replace h28 := of_decide_eq_false h28
   refine wc_exit (we_then_exit (we_then_exit (we_block_hit (we_block_normal (we_then (wc_region (wP rfl (wP rfl (wl_as (d := 21) (v' := .int .i64 ((s1.2 + 1 : Nat) : Int)) (S' := [_,_,_,_,_,_,_]) rfl rfl (nat_add (a := s1.2) (b := 1) (by omega)) (wl_pure (S' := [_,_,_,_,_,_,_]) rfl rfl rfl rfl rfl (wl_nil ?_)))))))))))
   refine we_round (s2.1, s1.2 + 1) (by show hs.length - (s1.2 + 1) < _; omega) ⟨by show s1.2 + 1 ≤ _; omega, oks2.2.next hy1 (by omega)⟩ [3,2,0] rfl (asK [] rfl) rfl
 ·
  replace h19 := of_decide_eq_false h19
  refine wc_exit (we_then_exit (we_then_exit (we_block_hit (we_then (wc_seq (wc_region (wP rfl (wN rfl tE_46 (wl_makeSlice (m := hs.length) hdrR (none, 0,0) rfl rfl rfl (freshS_eq rfl) rfl rfl rfl rfl rfl tE_46 tR_22 rfl rfl (fun _ _ => rfl) (by omega) (by omega) (fun g42 => (wP rfl (wl_nil (we_then (wc_keep [5,19,3,2,0] (S' := [_,_,_,_,_]) rfl ?_))))))))))))))
  refine wc_seq (wc_seq (wc_region (wP rfl (wl_nil (we_then (wc_block (wc_loop (σ := List Hdr × List Twin × Nat) (fun s => s.2.2 ≤ hs.length ∧ FlB hs mc_markFact s.1 s.2.2 s.2.1) (fun s => hs.length - s.2.2) (fun s => [(6, .int .i64 ((s.2.2 : Nat) : Int)), (5, .slice (some ⟨g42,0, none⟩) hs.length hs.length), (19, .bool (decide (((s1.2 : Nat) : Int) < ((hs.length : Nat) : Int)))), (3, .int .i64 ((s1.2 : Nat) : Int)), (2, .bool false), (0, .slice p hs.length c)]) (fun s => []) (fun s => [.own 22 1 hdrR (.slice (some ⟨g42,0, none⟩) hs.length hs.length) s.1, .own 22 1 hdrR (.slice p hs.length c) hs, flatF 27 3 s.2.1]) (List.replicate hs.length (none, 0,0), s1.1,0) ⟨Nat.zero_le _, oks1.2.grow (by omega) (by simp)⟩ [6,5,19,3,2,0] rfl (asK [] rfl) rfl (fun s3 oks3 => (wc_seq (wc_seq (wc_region (wP rfl (wP rfl (wN rfl tE_46 ?_))))))))))))))
  refine wP rfl (wl_nil (we_then (wc_keep [46,6,5,19,3,2,0] (S' := [_,_,_,_,_,_,_]) rfl ?_)))
  refine wc_cond rfl (fun h46 => ?_) (fun h46 => ?_)
  ·
   replace h46 := of_decide_eq_true h46
   have hk3 : s3.2.2 < hs.length := by omega
   obtain ⟨y3, hy3⟩ : ∃ y, hs[s3.2.2]? = some y := ⟨_, List.getElem?_eq_getElem hk3⟩
   have hB3 : y3.2.1 ≤ 1073741824 := hb _ (List.mem_of_getElem? hy3)
   refine wc_skip (we_then (wc_seq (wc_block (wc_seq (wc_region (wP rfl (wP rfl (wl_indexH 1 s3.2.2 rfl rfl rfl (freshS_eq rfl) rfl rfl rfl rfl rfl hk3 tE_46 tS_22 (fun g51 eg51 => ?_)))))))))
   subst eg51
   refine wl_loadRow hdr_opens 1 s3.2.2 0 rfl rfl rfl (freshS_eq rfl) rfl rfl rfl hy3 tS_22 tA_22 (v := fun _ => .slice y3.1 y3.2.1 y3.2.2) (fun _ => rfl) (fun _ => rfl) (fun _ _ => (wP rfl (wl_nil (we_then (wc_keep [7,46,6,5,19,3,2,0] (S' := [_,_,_,_,_,_,_,_]) rfl (wc_seq (wc_seq (wc_region (wP rfl (wl_nil (we_then (wc_block (wc_loop (σ := List Twin × Hdr × Nat) (fun s => s.2.2 ≤ 64 ∧ FlC hs mc_markFact s3.1 s3.2.2 s.2.2 s.2.1 s.1) (fun s => 64 - s.2.2) (fun s => [(8, .int .i64 ((s.2.2 : Nat) : Int)), (7, .slice s.2.1.1 s.2.1.2.1 s.2.1.2.2), (46, .bool (decide (((s3.2.2 : Nat) : Int) < ((hs.length : Nat) : Int)))), (6, .int .i64 ((s3.2.2 : Nat) : Int)), (5, .slice (some ⟨g42,0, none⟩) hs.length hs.length), (19, .bool (decide (((s1.2 : Nat) : Int) < ((hs.length : Nat) : Int)))), (3, .int .i64 ((s1.2 : Nat) : Int)), (2, .bool false), (0, .slice (some ⟨g51,0, none⟩) hs.length c)]) (fun s => []) (fun s => [.own 22 1 hdrR (.slice (some ⟨g42,0, none⟩) hs.length hs.length) s3.1, .own 22 1 hdrR (.slice (some ⟨g51,0, none⟩) hs.length c) hs, flatF 27 3 s.1]) (s3.2.1, y3,0) ⟨Nat.zero_le _, oks3.2.begin hy3⟩ [8,7,46,6,5,19,3,2,0] rfl (asK [] rfl) rfl (fun s4 oks4 => (wc_seq ?_)))))))))))))))
   refine wc_seq (wc_region (wP rfl (wP rfl (wl_nil (we_then (wc_keep [54,8,7,46,6,5,19,3,2,0] (S' := [_,_,_,_,_,_,_,_,_,_]) rfl ?_))))))
   refine wc_cond rfl (fun h54 => ?_) (fun h54 => ?_)
   ·
    replace h54 := of_decide_eq_true h54
    obtain ⟨r4, hr4, hh4, hl4, hg4, hm4⟩ := oks4.2.at_ hy3
    refine wc_skip (we_then (wc_seq (wc_block (wc_region (wP rfl (wP rfl (wP rfl (wP rfl (wl_indexK 1 s3.2.2 rfl rfl rfl (freshS_eq rfl) rfl rfl rfl rfl rfl hk3 tE_46 tS_22 (wl_loadRow hdr_opens 1 s3.2.2 0 rfl rfl rfl (freshS_eq rfl) rfl rfl rfl hy3 tS_22 tA_22 (v := fun _ => .slice y3.1 y3.2.1 y3.2.2) (fun _ => rfl) (fun _ => rfl) (fun _ _ => (wN rfl tE_22 (wP rfl (wP rfl ?_))))))))))))))
    refine wl_as (d := 65) (v' := .int .i64 ((y3.2.1 + s4.2.2 : Nat) : Int)) (S' := [_,_,_,_,_,_,_,_,_,_,_,_,_,_,_,_,_,_]) rfl rfl (nat_add (a := y3.2.1) (b := s4.2.2) (by omega)) (wC [] [0,1,2] rfl fn_25 rfl (z_markFact_s ((s3.2.2 : Nat) : Int) ((y3.2.1 + s4.2.2 : Nat) : Int)) (asK [] rfl) rfl (H' := [_,_,_]) rfl ?_)
    rintro _ _ _ ⟨rfl, rfl, rfl⟩
    refine wl_buildSlice rfl rfl rfl (freshS_eq rfl) rfl tE_22 tS_27 tZ_27 rfl (zs := [.int .i64 0, .int .i64 0, .slice none 0 0]) (by kernel_rfl) rfl (out := [_,_,_]) rfl (fun g67 => (wl_flAppB (cs := mc_markFact s3.2.2 (y3.2.1 + s4.2.2)) 3 s3.2.2 0 rfl rfl rfl (freshS_eq rfl) rfl rfl hr4 (by rw [hg4]; rfl) rfl rfl rfl (one_of rfl) tE_22 tR_27 rfl rfl (by rw [hm4]; simp only [marks_len, List.length_append, List.length_cons, List.length_nil]; omega) (by rw [hm4]; simp only [marks_len, List.length_append, List.length_cons, List.length_nil]; omega) (H2 := fun gh68 => [_,_,_, flatF 27 3 (s4.1.set s3.2.2 ⟨r4.h, r4.l, gh68, r4.m ++ [some (mc_markFact s3.2.2 (y3.2.1 + s4.2.2))]⟩)]) (fun _ => rfl) (fun gh68 => (wl_drop 0 rfl (H' := [_,_,_]) rfl (wl_pure (S' := [_,_,_,_,_,_,_,_,_,_,_,_,_,_,_,_,_,_,_,_,_]) rfl rfl rfl rfl rfl (wl_nil (we_block_normal (we_then (wc_region (wP rfl (wP rfl (wl_as (d := 56) (v' := .int .i64 ((s4.2.2 + 1 : Nat) : Int)) (S' := [_,_,_,_,_,_,_,_,_,_,_,_,_,_,_,_,_,_,_,_,_,_,_]) rfl rfl (nat_add (a := s4.2.2) (b := 1) (by omega)) (wl_pure (S' := [_,_,_,_,_,_,_,_,_,_,_,_,_,_,_,_,_,_,_,_,_,_,_]) rfl rfl rfl rfl rfl (wl_nil ?_))))))))))))))
    refine we_round (s4.1.set s3.2.2 ⟨r4.h, r4.l, gh68, r4.m ++ [some (mc_markFact s3.2.2 (y3.2.1 + s4.2.2))]⟩, gh68, s4.2.2 + 1) (by show 64 - (s4.2.2 + 1) < _; omega) ⟨by show s4.2.2 + 1 ≤ 64; omega, oks4.2.app hy3 hr4 _⟩ [8,7,46,6,5,19,3,2,0] rfl (asK [] rfl) rfl
   ·
    replace h54 := of_decide_eq_false h54
    refine wc_exit (we_then_exit (we_then_exit (we_block_hit (we_then (wc_region (wP rfl (wP rfl (wP rfl (wl_indexK 0 s3.2.2 rfl rfl rfl (freshS_eq rfl) rfl rfl rfl rfl rfl (by rw [oks3.2.2.1]; exact hk3) tE_46 tS_22 (wl_storeRow (u := s4.2.1) 0 s3.2.2 rfl rfl rfl rfl rfl (by rw [oks3.2.2.1]; exact hk3) rfl rfl tS_22 rfl (fun _ _ _ => rfl) (H' := [_,_,_]) rfl (wl_nil (we_block_normal (we_then ?_)))))))))))))
    refine wc_region (wP rfl (wP rfl (wl_as (d := 48) (v' := .int .i64 ((s3.2.2 + 1 : Nat) : Int)) (S' := [_,_,_,_,_,_,_,_,_,_,_,_,_,_,_]) rfl rfl (nat_add (a := s3.2.2) (b := 1) (by omega)) (wl_pure (S' := [_,_,_,_,_,_,_,_,_,_,_,_,_,_,_]) rfl rfl rfl rfl rfl (wl_nil ?_)))))
    have hc3 := oks4.2
    rw [show s4.2.2 = 64 from by omega] at hc3
    refine we_round (s3.1.set s3.2.2 s4.2.1, s4.1, s3.2.2 + 1) (by show hs.length - (s3.2.2 + 1) < _; omega) ⟨by show s3.2.2 + 1 ≤ _; omega, hc3.done hk3⟩ [6,5,19,3,2,0] rfl (asK [] rfl) rfl
  ·
   replace h46 := of_decide_eq_false h46
   refine wc_exit (we_then_exit (we_then_exit (we_block_hit (we_then (wc_seq (wc_seq (wc_region (wP rfl (wl_nil (we_then (wc_block (wc_loop (σ := Nat) (fun s => s ≤ hs.length) (fun s => hs.length - s) (fun s => [(9, .int .i64 ((s : Nat) : Int)), (46, .bool (decide (((s3.2.2 : Nat) : Int) < ((hs.length : Nat) : Int)))), (6, .int .i64 ((s3.2.2 : Nat) : Int)), (5, .slice (some ⟨g42,0, none⟩) hs.length hs.length), (19, .bool (decide (((s1.2 : Nat) : Int) < ((hs.length : Nat) : Int)))), (3, .int .i64 ((s1.2 : Nat) : Int)), (2, .bool false), (0, .slice p hs.length c)]) (fun s => []) (fun s => [.own 22 1 hdrR (.slice (some ⟨g42,0, none⟩) hs.length hs.length) s3.1, .own 22 1 hdrR (.slice p hs.length c) hs, flatF 27 3 s3.2.1]) 0 (Nat.zero_le _) [9,46,6,5,19,3,2,0] rfl (asK [] rfl) rfl (fun s5 oks5 => (wc_seq ?_))))))))))))))
   refine wc_seq (wc_region (wP rfl (wP rfl (wN rfl tE_46 (wP rfl (wl_nil (we_then (wc_keep [76,9,46,6,5,19,3,2,0] (S' := [_,_,_,_,_,_,_,_,_]) rfl ?_))))))))
   refine wc_cond rfl (fun h76 => ?_) (fun h76 => ?_)
   ·
    replace h76 := of_decide_eq_true h76
    have hk5 : s5 < hs.length := by omega
    obtain ⟨y5, hy5⟩ : ∃ y, hs[s5]? = some y := ⟨_, List.getElem?_eq_getElem hk5⟩
    have hB5 : y5.2.1 ≤ 1073741824 := hb _ (List.mem_of_getElem? hy5)
    obtain ⟨r5, hr5, hh5, hl5, hg5, hm5⟩ := oks3.2.look (by omega) hy5
    refine wc_flLen 2 rfl hr5 (fun hA5 hC5 => ?_)
    rw [hl5, marks_len] at hA5
    rw [hm5, marks_len] at hC5
    refine wc_skip (we_then (wc_seq (wc_block (wc_seq (wc_region (wP rfl (wl_nil (we_then (wc_block (wc_loop (σ := Nat) (fun s => s ≤ y5.2.1 + 64) (fun s => y5.2.1 + 64 - s) (fun s => [(10, .int .i64 ((s : Nat) : Int)), (76, .bool (decide (((s5 : Nat) : Int) < ((hs.length : Nat) : Int)))), (9, .int .i64 ((s5 : Nat) : Int)), (46, .bool (decide (((s3.2.2 : Nat) : Int) < ((hs.length : Nat) : Int)))), (6, .int .i64 ((s3.2.2 : Nat) : Int)), (5, .slice (some ⟨g42,0, none⟩) hs.length hs.length), (19, .bool (decide (((s1.2 : Nat) : Int) < ((hs.length : Nat) : Int)))), (3, .int .i64 ((s1.2 : Nat) : Int)), (2, .bool false), (0, .slice p hs.length c)]) (fun s => []) (fun s => [.own 22 1 hdrR (.slice (some ⟨g42,0, none⟩) hs.length hs.length) s3.1, .own 22 1 hdrR (.slice p hs.length c) hs, flatF 27 3 s3.2.1]) 0 (Nat.zero_le _) [10,76,9,46,6,5,19,3,2,0] rfl (asK [] rfl) rfl (fun s6 oks6 => (wc_seq (wc_seq (wc_region ?_))))))))))))))
    refine wP rfl (wP rfl (wP rfl (wl_indexK 0 s5 rfl rfl rfl (freshS_eq rfl) rfl rfl rfl rfl rfl (by rw [oks3.2.2.1]; exact hk5) tE_46 tS_22 (wl_loadRow hdr_opens 0 s5 0 rfl rfl rfl (freshS_eq rfl) rfl rfl rfl hg5 tS_22 tA_22 (v := fun _ => .slice r5.g.1 r5.g.2.1 r5.g.2.2) (fun _ => rfl) (fun _ => rfl) (fun _ _ => (wN rfl tE_22 (wP rfl (wl_nil (we_then (wc_keep [85,10,76,9,46,6,5,19,3,2,0] (S' := [_,_,_,_,_,_,_,_,_,_,_]) rfl ?_))))))))))
    refine wc_cond rfl (fun h85 => ?_) (fun h85 => ?_)
    ·
     replace h85 := of_decide_eq_true h85
     refine wc_skip (we_then (wc_seq (wc_block (wc_seq (wc_draw [0,1,2,3,4,5,6,7,8,11,12,13,14,15,16,17,18,19,20,21,22,23,24,25,26,27,28,29,32,33,34] rfl rfl (fun hok => (xP hok 0 rfl (xP hok 1 rfl (wx_indexK hok 2 0 s5 rfl rfl rfl (freshS_eq rfl) rfl rfl rfl rfl rfl rfl (by rw [oks3.2.2.1]; exact hk5) tE_46 tS_22 (wx_loadRow hok 3 hdr_opens 0 s5 0 rfl rfl rfl (freshS_eq rfl) rfl rfl rfl rfl hg5 tS_22 tA_22 (v := .slice r5.g.1 r5.g.2.1 r5.g.2.2) rfl rfl (fun _ => (xP hok 4 rfl (wx_flIdxG hok 5 (p := r5.g.1) (m := r5.g.2.1) (cp := r5.g.2.2) 2 s5 s6 rfl rfl rfl (freshS_eq rfl) rfl rfl rfl hr5 rfl rfl rfl rfl (by omega) (by rw [hm5, marks_len]; omega) tE_22 tS_27 (fun g93 eg93 => (wx_flLoadG hok 6 2 s5 s6 rfl rfl rfl (freshS_eq rfl) rfl rfl rfl hr5 (hdr_eqG eg93) rfl (cs := mc_markFact s5 s6) (by rw [hm5]; exact marks_at (by omega)) tS_27 tA_27 rfl (v := .agg #[.int .i64 (z_markFact ((s5 : Nat) : Int) ((s6 : Nat) : Int)), .int .i64 0, .slice none 0 0]) rfl (xP hok 7 rfl ?_))))))))))))))))
     refine xP hok 8 rfl (xS hok 9 rfl (wC [] [0,1,2] rfl fn_25 rfl (z_markFact_s ((s5 : Nat) : Int) ((s6 : Nat) : Int)) (asK [] rfl) rfl (H' := [_,_,_]) rfl ?_))
     rintro _ _ _ ⟨rfl, rfl, rfl⟩
     refine wl_nil (we_x [] [2,0] rfl rfl (xS hok 10 rfl (wC [] [0,1,2] rfl fn_32 rfl (w_ropewalkkit_SameFact_n_s 2 (z_markFact ((s5 : Nat) : Int) ((s6 : Nat) : Int)) 0 (z_markFact ((s5 : Nat) : Int) ((s6 : Nat) : Int)) 0 _ (sm_SameFact _)) (asK [] rfl) rfl (H' := [_,_,_]) rfl ?_)))
     rintro _ _ _ ⟨rfl, rfl, rfl⟩
     refine wl_nil (we_x [] [0] rfl rfl (xP hok 11 rfl (xP hok 12 rfl (xP hok 13 rfl (xP hok 14 rfl (xP hok 15 rfl (wx_indexH hok 16 1 s5 rfl rfl rfl (freshS_eq rfl) rfl rfl rfl rfl rfl rfl hk5 tE_46 tS_22 (fun g104 eg104 => ?_))))))))
     subst eg104
     refine wx_loadRow hok 17 hdr_opens 1 s5 0 rfl rfl rfl (freshS_eq rfl) rfl rfl rfl rfl hy5 tS_22 tA_22 (v := .slice y5.1 y5.2.1 y5.2.2) rfl rfl (fun _ => (wx_len hok 18 rfl rfl rfl (freshS_eq rfl) rfl rfl rfl tE_22 (xP hok 19 rfl (xP hok 20 rfl ?_))))
     refine wx_split (d := 108) (S' := [_,_,_,_,_,_,_,_,_,_,_,_,_,_,_,_,_,_,_,_,_,_,_,_,_,_,_,_,_,_,_]) rfl rfl (fun h108 => ?_) (fun h108 => ?_)
     ·
      replace h108 := of_decide_eq_true h108
      refine xP hok 21 rfl (xP hok 22 rfl (wx_indexK hok 23 1 s5 rfl rfl rfl (freshS_eq rfl) rfl rfl rfl rfl rfl rfl hk5 tE_46 tS_22 (wx_loadRow hok 24 hdr_opens 1 s5 0 rfl rfl rfl (freshS_eq rfl) rfl rfl rfl rfl hy5 tS_22 tA_22 (v := .slice y5.1 y5.2.1 y5.2.2) rfl rfl (fun _ => (xP hok 25 rfl (wx_flIdxH hok 26 (p := y5.1) (m := y5.2.1) (cp := y5.2.2) 2 s5 s6 rfl rfl rfl (freshS_eq rfl) rfl rfl rfl hr5 hh5 rfl rfl rfl (by omega) (by rw [hl5, marks_len]) tE_22 tS_27 (fun g114 eg114 => (wx_flLoadH hok 27 2 s5 s6 rfl rfl rfl (freshS_eq rfl) rfl rfl rfl hr5 (hdr_eq hh5 eg114) rfl (cs := mc_markFact s5 s6) (by rw [hl5]; exact marks_at (by omega)) tS_27 tA_27 rfl (v := .agg #[.int .i64 (z_markFact ((s5 : Nat) : Int) ((s6 : Nat) : Int)), .int .i64 0, .slice none 0 0]) rfl (xP hok 28 rfl (xP hok 29 rfl (xS hok 30 rfl (wC [] [0,1,2] rfl fn_25 rfl (z_markFact_s ((s5 : Nat) : Int) ((s6 : Nat) : Int)) (asK [] rfl) rfl (H' := [_,_,_]) rfl ?_))))))))))))
      rintro _ _ _ ⟨rfl, rfl, rfl⟩
      refine wl_nil (we_x [] [2,1,1,2,0] rfl rfl (xS hok 31 rfl (wC [] [0,1,2] rfl fn_32 rfl (w_ropewalkkit_SameFact_n_s 2 (z_markFact ((s5 : Nat) : Int) ((s6 : Nat) : Int)) 0 (z_markFact ((s5 : Nat) : Int) ((s6 : Nat) : Int)) 0 _ (sm_SameFact _)) (asK [] rfl) rfl (H' := [_,_,_]) rfl ?_)))
      rintro _ _ _ ⟨rfl, rfl, rfl⟩
      refine wl_nil (we_x [] [1,1,2,0] rfl rfl (xP hok 32 rfl (xP hok 33 rfl (xP hok 34 rfl (wx_done hok rfl (we_then (wc_keep [122,85,10,76,9,46,6,5,19,3,2,0] (S' := [_,_,_,_,_,_,_,_,_,_,_,_]) rfl (wc_false rfl (wc_skip (we_block_normal (we_then (wc_region (wP rfl ?_)))))))))))))
      refine wP rfl (wl_as (d := 87) (v' := .int .i64 ((s6 + 1 : Nat) : Int)) (S' := [_,_,_,_,_,_,_,_,_,_,_,_,_]) rfl rfl (nat_add (a := s6) (b := 1) (by omega)) (wl_pure (S' := [_,_,_,_,_,_,_,_,_,_,_,_,_]) rfl rfl rfl rfl rfl (wl_nil ?_)))
      refine we_round (s6 + 1) (by omega) (by omega) [10,76,9,46,6,5,19,3,2,0] rfl (asK [] rfl) rfl
     ·
      replace h108 := of_decide_eq_false h108
      refine xO hok 21 rfl (xO hok 22 rfl (xO hok 23 rfl (xO hok 24 rfl (xO hok 25 rfl (xO hok 26 rfl (xO hok 27 rfl (xO hok 28 rfl (xO hok 29 rfl (xS hok 30 rfl (wO rfl (wl_nil (we_x [] [1,2,0] rfl rfl (xS hok 31 rfl ?_)))))))))))))
      refine wO rfl (wl_nil (we_x [] [1,2,0] rfl rfl (xO hok 32 rfl (xP hok 33 rfl (xP hok 34 rfl (wx_done hok rfl (we_then (wc_keep [122,85,10,76,9,46,6,5,19,3,2,0] (S' := [_,_,_,_,_,_,_,_,_,_,_,_]) rfl (wc_false rfl (wc_skip (we_block_normal (we_then (wc_region ?_)))))))))))))
      refine wP rfl (wP rfl (wl_as (d := 87) (v' := .int .i64 ((s6 + 1 : Nat) : Int)) (S' := [_,_,_,_,_,_,_,_,_,_,_,_,_]) rfl rfl (nat_add (a := s6) (b := 1) (by omega)) (wl_pure (S' := [_,_,_,_,_,_,_,_,_,_,_,_,_]) rfl rfl rfl rfl rfl (wl_nil ?_))))
      refine we_round (s6 + 1) (by omega) (by omega) [10,76,9,46,6,5,19,3,2,0] rfl (asK [] rfl) rfl
    ·
     replace h85 := of_decide_eq_false h85
     refine wc_exit (we_then_exit (we_then_exit (we_block_hit (we_block_normal (we_then (wc_region (wP rfl (wP rfl (wl_as (d := 78) (v' := .int .i64 ((s5 + 1 : Nat) : Int)) (S' := [_,_,_,_,_,_,_,_,_,_,_,_]) rfl rfl (nat_add (a := s5) (b := 1) (by omega)) (wl_pure (S' := [_,_,_,_,_,_,_,_,_,_,_,_]) rfl rfl rfl rfl rfl (wl_nil ?_)))))))))))
     refine we_round (s5 + 1) (by omega) (by omega) [9,46,6,5,19,3,2,0] rfl (asK [] rfl) rfl
   ·
    replace h76 := of_decide_eq_false h76
    refine wc_exit (we_then_exit (we_then_exit (we_block_hit (we_then (wc_seq (wc_seq (wc_region (wP rfl (wl_nil (we_then (wc_block (wc_loop (σ := List Hdr × List Twin × Nat) (fun s => s.2.2 ≤ hs.length ∧ FlD hs mc_markFact s.1 s.2.2 s.2.1) (fun s => hs.length - s.2.2) (fun s => [(11, .int .i64 ((s.2.2 : Nat) : Int)), (76, .bool (decide (((s5 : Nat) : Int) < ((hs.length : Nat) : Int)))), (9, .int .i64 ((s5 : Nat) : Int)), (46, .bool (decide (((s3.2.2 : Nat) : Int) < ((hs.length : Nat) : Int)))), (6, .int .i64 ((s3.2.2 : Nat) : Int)), (5, .slice (some ⟨g42,0, none⟩) hs.length hs.length), (19, .bool (decide (((s1.2 : Nat) : Int) < ((hs.length : Nat) : Int)))), (3, .int .i64 ((s1.2 : Nat) : Int)), (2, .bool false), (0, .slice p hs.length c)]) (fun s => []) (fun s => [.own 22 1 hdrR (.slice (some ⟨g42,0, none⟩) hs.length hs.length) s.1, .own 22 1 hdrR (.slice p hs.length c) hs, flatF 27 3 s.2.1]) (s3.1, s3.2.1,0) ⟨Nat.zero_le _, oks3.2.again⟩ [11,76,9,46,6,5,19,3,2,0] rfl (asK [] rfl) rfl (fun s7 oks7 => (wc_seq ?_))))))))))))))
    refine wc_seq (wc_region (wP rfl (wP rfl (wN rfl tE_46 (wP rfl (wl_nil (we_then (wc_keep [126,11,76,9,46,6,5,19,3,2,0] (S' := [_,_,_,_,_,_,_,_,_,_,_]) rfl ?_))))))))
    refine wc_cond rfl (fun h126 => ?_) (fun h126 => ?_)
    ·
     replace h126 := of_decide_eq_true h126
     have hk7 : s7.2.2 < hs.length := by omega
     obtain ⟨y7, hy7⟩ : ∃ y, hs[s7.2.2]? = some y := ⟨_, List.getElem?_eq_getElem hk7⟩
     have hB7 : y7.2.1 ≤ 1073741824 := hb _ (List.mem_of_getElem? hy7)
     obtain ⟨r7, hr7, hh7, hl7⟩ := oks7.2.at_ hy7
     refine wc_skip (we_then (wc_seq (wc_block (wc_seq (wc_region (wl_makeSlice (m := 64) celR (none : Cel) rfl rfl rfl (freshS_eq rfl) rfl rfl rfl rfl rfl tE_22 tR_27 rfl rfl (fun _ _ => cel_any rfl) (by omega) (by omega) (fun g129 => (wP rfl (wl_nil (we_then (wc_keep [12,126,11,76,9,46,6,5,19,3,2,0] (S' := [_,_,_,_,_,_,_,_,_,_,_,_]) rfl (wc_seq (wc_seq (wc_region ?_))))))))))))))
     refine wP rfl (wl_nil (we_then (wc_block (wc_loop (σ := List Cel × Nat) (fun s => s.2 ≤ 64 ∧ s.1.length = 64) (fun s => 64 - s.2) (fun s => [(13, .int .i64 ((s.2 : Nat) : Int)), (12, .slice (some ⟨g129,0, none⟩) 64 64), (126, .bool (decide (((s7.2.2 : Nat) : Int) < ((hs.length : Nat) : Int)))), (11, .int .i64 ((s7.2.2 : Nat) : Int)), (76, .bool (decide (((s5 : Nat) : Int) < ((hs.length : Nat) : Int)))), (9, .int .i64 ((s5 : Nat) : Int)), (46, .bool (decide (((s3.2.2 : Nat) : Int) < ((hs.length : Nat) : Int)))), (6, .int .i64 ((s3.2.2 : Nat) : Int)), (5, .slice (some ⟨g42,0, none⟩) hs.length hs.length), (19, .bool (decide (((s1.2 : Nat) : Int) < ((hs.length : Nat) : Int)))), (3, .int .i64 ((s1.2 : Nat) : Int)), (2, .bool false), (0, .slice p hs.length c)]) (fun s => []) (fun s => [.own 27 3 celR (.slice (some ⟨g129,0, none⟩) 64 64) s.1, .own 22 1 hdrR (.slice (some ⟨g42,0, none⟩) hs.length hs.length) s7.1, .own 22 1 hdrR (.slice p hs.length c) hs, flatF 27 3 s7.2.1]) (List.replicate 64 (none : Cel), 0) ⟨Nat.zero_le _, by simp⟩ [13,12,126,11,76,9,46,6,5,19,3,2,0] rfl (asK [] rfl) rfl (fun s8 oks8 => (wc_seq (wc_seq (wc_region (wP rfl (wP rfl (wl_nil (we_then (wc_keep [131,13,12,126,11,76,9,46,6,5,19,3,2,0] (S' := [_,_,_,_,_,_,_,_,_,_,_,_,_,_]) rfl ?_)))))))))))))
     refine wc_cond rfl (fun h131 => ?_) (fun h131 => ?_)
     ·
      replace h131 := of_decide_eq_true h131
      refine wc_skip (we_then (wc_seq (wc_block (wc_region (wP rfl (wP rfl (wP rfl (wP rfl (wN rfl tE_46 (wP rfl (wl_as (d := 139) (v' := .int .i64 ((s7.2.2 + hs.length : Nat) : Int)) (S' := [_,_,_,_,_,_,_,_,_,_,_,_,_,_,_,_,_,_,_]) rfl rfl (nat_add (a := s7.2.2) (b := hs.length) (by omega)) (wP rfl (wC [] [0,1,2,3] rfl fn_25 rfl (z_markFact_s ((s7.2.2 + hs.length : Nat) : Int) ((s8.2 : Nat) : Int)) (asK [] rfl) rfl (H' := [_,_,_,_]) rfl ?_)))))))))))))
      rintro _ _ _ ⟨rfl, rfl, rfl⟩
      refine wl_indexK 0 s8.2 rfl rfl rfl (freshS_eq rfl) rfl rfl rfl rfl rfl (by rw [oks8.2]; omega) tE_22 tS_27 (wl_storeRow (u := some ([.int .i64 (z_markFact ((s7.2.2 + hs.length : Nat) : Int) ((s8.2 : Nat) : Int)), .int .i64 0, .slice none 0 0] : List Value)) 0 s8.2 rfl rfl rfl rfl rfl (by rw [oks8.2]; omega) rfl rfl tS_27 rfl (fun _ _ _ => cel_some rfl) (H' := [_,_,_,_]) rfl (wl_nil (we_block_normal (we_then (wc_region (wP rfl (wP rfl (wl_as (d := 133) (v' := .int .i64 ((s8.2 + 1 : Nat) : Int)) (S' := [_,_,_,_,_,_,_,_,_,_,_,_,_,_,_,_,_,_,_,_,_,_,_,_]) rfl rfl (nat_add (a := s8.2) (b := 1) (by omega)) (wl_pure (S' := [_,_,_,_,_,_,_,_,_,_,_,_,_,_,_,_,_,_,_,_,_,_,_,_]) rfl rfl rfl rfl rfl (wl_nil ?_))))))))))
      refine we_round (s8.1.set s8.2 (some ([.int .i64 (z_markFact ((s7.2.2 + hs.length : Nat) : Int) ((s8.2 : Nat) : Int)), .int .i64 0, .slice none 0 0] : List Value)), s8.2 + 1) (by show 64 - (s8.2 + 1) < _; omega) ⟨by show s8.2 + 1 ≤ 64; omega, by show (List.set _ _ _).length = 64; rw [List.length_set]; exact oks8.2⟩ [13,12,126,11,76,9,46,6,5,19,3,2,0] rfl (asK [] rfl) rfl
     ·
      replace h131 := of_decide_eq_false h131
      refine wc_exit (we_then_exit (we_then_exit (we_block_hit (we_then (wc_region (wP rfl (wP rfl (wP rfl (wP rfl (wl_indexH 2 s7.2.2 rfl rfl rfl (freshS_eq rfl) rfl rfl rfl rfl rfl hk7 tE_46 tS_22 (fun g147 eg147 => ?_)))))))))))
      subst eg147
      refine wl_loadRow hdr_opens 2 s7.2.2 0 rfl rfl rfl (freshS_eq rfl) rfl rfl rfl hy7 tS_22 tA_22 (v := fun _ => .slice y7.1 y7.2.1 y7.2.2) (fun _ => rfl) (fun _ => rfl) (fun _ _ => (wP rfl (wl_sh [_,_,_, flatF 27 3 (s7.2.1.set s7.2.2 ⟨r7.h, r7.l, r7.h, r7.l⟩)] (fun _ h => h.flReset 3 s7.2.2 rfl hr7) (wl_flAppO 3 s7.2.2 0 rfl rfl rfl (freshS_eq rfl) rfl rfl (set_eqT _ hr7) (by show _ = some (hdv r7.h); rw [hh7]; rfl) rfl rfl oks8.2 (by decide) tE_22 tR_27 rfl rfl (by show r7.l.length + _ ≤ _; rw [hl7, marks_len]; omega) (by show (r7.l.length + _) * _ ≤ _; rw [hl7, marks_len]; omega) (H2 := fun gh150 => [_,_,_, flatF 27 3 ((s7.2.1.set s7.2.2 ⟨r7.h, r7.l, r7.h, r7.l⟩).set s7.2.2 ⟨r7.h, r7.l, gh150, r7.l ++ s8.1⟩)]) (fun _ => rfl) (fun gh150 => (wl_drop 0 rfl (H' := [_,_,_]) rfl (wl_indexK 0 s7.2.2 rfl rfl rfl (freshS_eq rfl) rfl rfl rfl rfl rfl (by rw [oks7.2.2.1]; exact hk7) tE_46 tS_22 (wl_storeRow (u := gh150) 0 s7.2.2 rfl rfl rfl rfl rfl (by rw [oks7.2.2.1]; exact hk7) rfl rfl tS_22 rfl (fun _ _ _ => rfl) (H' := [_,_,_]) rfl (wl_nil (we_block_normal (we_then (wc_region (wP rfl (wP rfl (wl_as (d := 128) (v' := .int .i64 ((s7.2.2 + 1 : Nat) : Int)) (S' := [_,_,_,_,_,_,_,_,_,_,_,_,_,_,_,_,_,_,_,_,_,_,_,_]) rfl rfl (nat_add (a := s7.2.2) (b := 1) (by omega)) ?_)))))))))))))))
      refine wl_pure (S' := [_,_,_,_,_,_,_,_,_,_,_,_,_,_,_,_,_,_,_,_,_,_,_,_]) rfl rfl rfl rfl rfl (wl_nil ?_)
      refine we_round (s7.1.set s7.2.2 gh150, (s7.2.1.set s7.2.2 ⟨r7.h, r7.l, r7.h, r7.l⟩).set s7.2.2 ⟨r7.h, r7.l, gh150, r7.l ++ s8.1⟩, s7.2.2 + 1) (by show hs.length - (s7.2.2 + 1) < _; omega) ⟨by show s7.2.2 + 1 ≤ _; omega, oks7.2.app hy7 hr7 _ _⟩ [11,76,9,46,6,5,19,3,2,0] rfl (asK [] rfl) rfl
    ·
     replace h126 := of_decide_eq_false h126
     refine wc_exit (we_then_exit (we_then_exit (we_block_hit (we_then (wc_seq (wc_seq (wc_region (wP rfl (wl_nil (we_then (wc_block (wc_loop (σ := Nat) (fun s => s ≤ hs.length) (fun s => hs.length - s) (fun s => [(14, .int .i64 ((s : Nat) : Int)), (126, .bool (decide (((s7.2.2 : Nat) : Int) < ((hs.length : Nat) : Int)))), (11, .int .i64 ((s7.2.2 : Nat) : Int)), (76, .bool (decide (((s5 : Nat) : Int) < ((hs.length : Nat) : Int)))), (9, .int .i64 ((s5 : Nat) : Int)), (46, .bool (decide (((s3.2.2 : Nat) : Int) < ((hs.length : Nat) : Int)))), (6, .int .i64 ((s3.2.2 : Nat) : Int)), (5, .slice (some ⟨g42,0, none⟩) hs.length hs.length), (19, .bool (decide (((s1.2 : Nat) : Int) < ((hs.length : Nat) : Int)))), (3, .int .i64 ((s1.2 : Nat) : Int)), (2, .bool false), (0, .slice p hs.length c)]) (fun s => []) (fun s => [.own 22 1 hdrR (.slice (some ⟨g42,0, none⟩) hs.length hs.length) s7.1, .own 22 1 hdrR (.slice p hs.length c) hs, flatF 27 3 s7.2.1]) 0 (Nat.zero_le _) [14,126,11,76,9,46,6,5,19,3,2,0] rfl (asK [] rfl) rfl (fun s9 oks9 => (wc_seq ?_))))))))))))))
     refine wc_seq (wc_region (wP rfl (wP rfl (wN rfl tE_46 (wP rfl (wl_nil (we_then (wc_keep [155,14,126,11,76,9,46,6,5,19,3,2,0] (S' := [_,_,_,_,_,_,_,_,_,_,_,_,_]) rfl ?_))))))))
     refine wc_cond rfl (fun h155 => ?_) (fun h155 => ?_)
     ·
      replace h155 := of_decide_eq_true h155
      have hk9 : s9 < hs.length := by omega
      obtain ⟨y9, hy9⟩ : ∃ y, hs[s9]? = some y := ⟨_, List.getElem?_eq_getElem hk9⟩
      have hB9 : y9.2.1 ≤ 1073741824 := hb _ (List.mem_of_getElem? hy9)
      obtain ⟨r9, hr9, hh9, hl9, hg9, t9, hm9⟩ := oks7.2.look (by omega) hy9
      refine wc_flLen 2 rfl hr9 (fun hA9 hC9 => ?_)
      rw [hl9, marks_len] at hA9
      have hE9 := hC9
      rw [hm9, List.length_append, marks_len] at hE9
      refine wc_skip (we_then (wc_seq (wc_block (wc_seq (wc_region (wP rfl (wl_nil (we_then (wc_block (wc_loop (σ := Nat) (fun s => s ≤ y9.2.1) (fun s => y9.2.1 - s) (fun s => [(15, .int .i64 ((s : Nat) : Int)), (155, .bool (decide (((s9 : Nat) : Int) < ((hs.length : Nat) : Int)))), (14, .int .i64 ((s9 : Nat) : Int)), (126, .bool (decide (((s7.2.2 : Nat) : Int) < ((hs.length : Nat) : Int)))), (11, .int .i64 ((s7.2.2 : Nat) : Int)), (76, .bool (decide (((s5 : Nat) : Int) < ((hs.length : Nat) : Int)))), (9, .int .i64 ((s5 : Nat) : Int)), (46, .bool (decide (((s3.2.2 : Nat) : Int) < ((hs.length : Nat) : Int)))), (6, .int .i64 ((s3.2.2 : Nat) : Int)), (5, .slice (some ⟨g42,0, none⟩) hs.length hs.length), (19, .bool (decide (((s1.2 : Nat) : Int) < ((hs.length : Nat) : Int)))), (3, .int .i64 ((s1.2 : Nat) : Int)), (2, .bool false), (0, .slice p hs.length c)]) (fun s => []) (fun s => [.own 22 1 hdrR (.slice (some ⟨g42,0, none⟩) hs.length hs.length) s7.1, .own 22 1 hdrR (.slice p hs.length c) hs, flatF 27 3 s7.2.1]) 0 (Nat.zero_le _) [15,155,14,126,11,76,9,46,6,5,19,3,2,0] rfl (asK [] rfl) rfl (fun s10 oks10 => (wc_seq (wc_seq (wc_region ?_))))))))))))))
      refine wP rfl (wP rfl (wP rfl (wl_indexH 1 s9 rfl rfl rfl (freshS_eq rfl) rfl rfl rfl rfl rfl hk9 tE_46 tS_22 (fun g161 eg161 => ?_))))
      subst eg161
      refine wl_loadRow hdr_opens 1 s9 0 rfl rfl rfl (freshS_eq rfl) rfl rfl rfl hy9 tS_22 tA_22 (v := fun _ => .slice y9.1 y9.2.1 y9.2.2) (fun _ => rfl) (fun _ => rfl) (fun _ _ => (wN rfl tE_22 (wP rfl (wl_nil (we_then (wc_keep [164,15,155,14,126,11,76,9,46,6,5,19,3,2,0] (S' := [_,_,_,_,_,_,_,_,_,_,_,_,_,_,_]) rfl ?_))))))
      refine wc_cond rfl (fun h164 => ?_) (fun h164 => ?_)
      ·
       replace h164 := of_decide_eq_true h164
       refine wc_skip (we_then (wc_seq (wc_block (wc_seq (wc_draw [0,1,2,3,4,5,6,7,8,11,12,13,14,15,16,17,18,19,20,21,24,25] rfl rfl (fun hok => (xP hok 0 rfl (xP hok 1 rfl (wx_indexK hok 2 1 s9 rfl rfl rfl (freshS_eq rfl) rfl rfl rfl rfl rfl rfl hk9 tE_46 tS_22 (wx_loadRow hok 3 hdr_opens 1 s9 0 rfl rfl rfl (freshS_eq rfl) rfl rfl rfl rfl hy9 tS_22 tA_22 (v := .slice y9.1 y9.2.1 y9.2.2) rfl rfl (fun _ => (xP hok 4 rfl (wx_flIdxH hok 5 (p := y9.1) (m := y9.2.1) (cp := y9.2.2) 2 s9 s10 rfl rfl rfl (freshS_eq rfl) rfl rfl rfl hr9 hh9 rfl rfl rfl (by omega) (by rw [hl9, marks_len]) tE_22 tS_27 (fun g172 eg172 => (wx_flLoadH hok 6 2 s9 s10 rfl rfl rfl (freshS_eq rfl) rfl rfl rfl hr9 (hdr_eq hh9 eg172) rfl (cs := mc_markFact s9 s10) (by rw [hl9]; exact marks_at (by omega)) tS_27 tA_27 rfl (v := .agg #[.int .i64 (z_markFact ((s9 : Nat) : Int) ((s10 : Nat) : Int)), .int .i64 0, .slice none 0 0]) rfl (xP hok 7 rfl ?_))))))))))))))))
       refine xP hok 8 rfl (xS hok 9 rfl (wC [] [0,1,2] rfl fn_25 rfl (z_markFact_s ((s9 : Nat) : Int) ((s10 : Nat) : Int)) (asK [] rfl) rfl (H' := [_,_,_]) rfl ?_))
       rintro _ _ _ ⟨rfl, rfl, rfl⟩
       refine wl_nil (we_x [] [2,1] rfl rfl (xS hok 10 rfl (wC [] [0,1,2] rfl fn_32 rfl (w_ropewalkkit_SameFact_n_s 2 (z_markFact ((s9 : Nat) : Int) ((s10 : Nat) : Int)) 0 (z_markFact ((s9 : Nat) : Int) ((s10 : Nat) : Int)) 0 _ (sm_SameFact _)) (asK [] rfl) rfl (H' := [_,_,_]) rfl ?_)))
       rintro _ _ _ ⟨rfl, rfl, rfl⟩
       refine wl_nil (we_x [] [1] rfl rfl (xP hok 11 rfl (xP hok 12 rfl (xP hok 13 rfl (xP hok 14 rfl (wx_indexK hok 15 0 s9 rfl rfl rfl (freshS_eq rfl) rfl rfl rfl rfl rfl rfl (by rw [oks7.2.2.1]; exact hk9) tE_46 tS_22 (wx_loadRow hok 16 hdr_opens 0 s9 0 rfl rfl rfl (freshS_eq rfl) rfl rfl rfl rfl hg9 tS_22 tA_22 (v := .slice r9.g.1 r9.g.2.1 r9.g.2.2) rfl rfl (fun _ => (xP hok 17 rfl (wx_flIdxG hok 18 (p := r9.g.1) (m := r9.g.2.1) (cp := r9.g.2.2) 2 s9 s10 rfl rfl rfl (freshS_eq rfl) rfl rfl rfl hr9 rfl rfl rfl rfl (by omega) hC9.symm tE_22 tS_27 (fun g185 eg185 => (wx_flLoadG hok 19 2 s9 s10 rfl rfl rfl (freshS_eq rfl) rfl rfl rfl hr9 (hdr_eqG eg185) rfl (cs := mc_markFact s9 s10) (by rw [hm9]; exact app_at (by omega)) tS_27 tA_27 rfl (v := .agg #[.int .i64 (z_markFact ((s9 : Nat) : Int) ((s10 : Nat) : Int)), .int .i64 0, .slice none 0 0]) rfl (xP hok 20 rfl (xP hok 21 rfl (xS hok 22 rfl ?_)))))))))))))))
       refine wC [] [0,1,2] rfl fn_25 rfl (z_markFact_s ((s9 : Nat) : Int) ((s10 : Nat) : Int)) (asK [] rfl) rfl (H' := [_,_,_]) rfl ?_
       rintro _ _ _ ⟨rfl, rfl, rfl⟩
       refine wl_nil (we_x [] [2,0,2,1] rfl rfl (xS hok 23 rfl (wC [] [0,1,2] rfl fn_32 rfl (w_ropewalkkit_SameFact_n_s 2 (z_markFact ((s9 : Nat) : Int) ((s10 : Nat) : Int)) 0 (z_markFact ((s9 : Nat) : Int) ((s10 : Nat) : Int)) 0 _ (sm_SameFact _)) (asK [] rfl) rfl (H' := [_,_,_]) rfl ?_)))
       rintro _ _ _ ⟨rfl, rfl, rfl⟩
       refine wl_nil (we_x [] [0,2,1] rfl rfl (xP hok 24 rfl (xP hok 25 rfl (wx_done hok rfl (we_then (wc_keep [192,164,15,155,14,126,11,76,9,46,6,5,19,3,2,0] (S' := [_,_,_,_,_,_,_,_,_,_,_,_,_,_,_,_]) rfl (wc_false rfl (wc_skip (we_block_normal (we_then (wc_region (wP rfl (wP rfl ?_)))))))))))))
       refine wl_as (d := 166) (v' := .int .i64 ((s10 + 1 : Nat) : Int)) (S' := [_,_,_,_,_,_,_,_,_,_,_,_,_,_,_,_,_]) rfl rfl (nat_add (a := s10) (b := 1) (by omega)) (wl_pure (S' := [_,_,_,_,_,_,_,_,_,_,_,_,_,_,_,_,_]) rfl rfl rfl rfl rfl (wl_nil ?_))
       refine we_round (s10 + 1) (by omega) (by omega) [15,155,14,126,11,76,9,46,6,5,19,3,2,0] rfl (asK [] rfl) rfl
      ·
       replace h164 := of_decide_eq_false h164
       refine wc_exit (we_then_exit (we_then_exit (we_block_hit (we_block_normal (we_then (wc_region (wP rfl (wP rfl (wl_as (d := 157) (v' := .int .i64 ((s9 + 1 : Nat) : Int)) (S' := [_,_,_,_,_,_,_,_,_,_,_,_,_,_,_,_]) rfl rfl (nat_add (a := s9) (b := 1) (by omega)) (wl_pure (S' := [_,_,_,_,_,_,_,_,_,_,_,_,_,_,_,_]) rfl rfl rfl rfl rfl (wl_nil ?_)))))))))))
       refine we_round (s9 + 1) (by omega) (by omega) [14,126,11,76,9,46,6,5,19,3,2,0] rfl (asK [] rfl) rfl
     ·
      replace h155 := of_decide_eq_false h155
      refine wc_exit (we_then_exit (we_then_exit (we_block_hit (we_then (wc_seq (wc_region (wl_pure (S' := [_,_,_,_,_,_,_,_,_,_,_,_]) rfl rfl rfl rfl rfl (wl_nil (we_then (wc_ret (ret_one (Hr := [flatF 27 3 s7.2.1]) [2] Tryz.results73 (res_tmp rfl) ?_ (asK [] rfl) rfl rfl (.inl rfl))))))))))))
      exact ⟨_, oks7.2.left, rfl, rfl, rfl⟩
theorem ap_apart (g : Nat) (p6 : Option Addr) (c6 : Nat) (h6 : List Hdr) (p7 : Option Addr) (c7 : Nat) (h7 : List Hdr) (hL6 : h6.length ≤ 1073741824) (hB6 : Bd h6) (hL7 : h7.length ≤ 1073741824) (hB7 : Bd h7) : Spec Tryz.prog 48 [.pointer (some ⟨g, 0, none⟩)] [] [.blk g [.slice none 0 0, .slice none 0 0, .slice none 0 0, .slice none 0 0, .slice none 0 0, .slice none 0 0, .slice p6 h6.length c6, .slice p7 h7.length c7, .slice none 0 0, .slice none 0 0, .slice none 0 0, .slice none 0 0, .slice none 0 0, .slice none 0 0, .slice none 0 0, .slice none 0 0, .slice none 0 0, .slice none 0 0, .slice none 0 0, .slice none 0 0, .slice none 0 0, .slice none 0 0, .slice none 0 0, .slice none 0 0, .slice none 0 0, .slice none 0 0, .slice none 0 0, .slice none 0 0, .slice none 0 0] 112, .own 25 1 hdrR (.slice p6 h6.length c6) h6, flatF 51 3 (h6.map row0), .own 22 1 hdrR (.slice p7 h7.length c7) h7, flatF 27 3 (h7.map row0)] (fun v Φr Hr => ∃ (r6 : List Twin) (r7 : List Twin), FlE h6 mc_markValue r6 ∧ FlE h7 mc_markFact r7 ∧ v = .bool true ∧ Φr = [] ∧ Hr = [flatF 51 3 r6, flatF 27 3 r7]) := by
 refine spec_of Tryz.func48 rfl Tryz.ntmps48 rfl (S := [_]) rfl (fun C => (wc_seq (wc_region (wP rfl (wl_nil (we_then (wc_seq (wc_region (wP rfl (wP rfl (wF rfl tF_112_0 (wD 0 0 rfl tS_83 tA_83 rfl (wC [] [0,1,2,3,4] rfl fn_66 rfl (nil_flat Tryz.func66 rfl Tryz.ntmps66 Tryz.results66 rfl (by kernel_rfl)) (asK [] rfl) rfl (H' := [_,_,_,_,_]) rfl ?_)))))))))))))
 rintro _ _ _ ⟨rfl, rfl, rfl⟩
 refine wP rfl (wP rfl (wP rfl (wF rfl tF_112_1 (wD 0 1 rfl tS_84 tA_84 rfl (wC [] [0,1,2,3,4] rfl fn_67 rfl (nil_flat Tryz.func67 rfl Tryz.ntmps67 Tryz.results67 rfl (by kernel_rfl)) (asK [] rfl) rfl (H' := [_,_,_,_,_]) rfl ?_)))))
 rintro _ _ _ ⟨rfl, rfl, rfl⟩
 refine wP rfl (wP rfl (wP rfl (wP rfl (wF rfl tF_112_2 (wD 0 2 rfl tS_85 tA_85 rfl (wC [] [0,1,2,3,4] rfl fn_68 rfl (nil_flat Tryz.func68 rfl Tryz.ntmps68 Tryz.results68 rfl (by kernel_rfl)) (asK [] rfl) rfl (H' := [_,_,_,_,_]) rfl ?_))))))
 rintro _ _ _ ⟨rfl, rfl, rfl⟩
 refine wP rfl (wP rfl (wP rfl (wP rfl (wF rfl tF_112_3 (wD 0 3 rfl tS_86 tA_86 rfl (wC [] [0,1,2,3,4] rfl fn_69 rfl (nil_flat Tryz.func69 rfl Tryz.ntmps69 Tryz.results69 rfl (by kernel_rfl)) (asK [] rfl) rfl (H' := [_,_,_,_,_]) rfl ?_))))))
 rintro _ _ _ ⟨rfl, rfl, rfl⟩
 refine wP rfl (wP rfl (wP rfl (wP rfl (wF rfl tF_112_4 (wD 0 4 rfl tS_87 tA_87 rfl (wC [] [0,1,2,3,4] rfl fn_70 rfl (nil_flat Tryz.func70 rfl Tryz.ntmps70 Tryz.results70 rfl (by kernel_rfl)) (asK [] rfl) rfl (H' := [_,_,_,_,_]) rfl ?_))))))
 rintro _ _ _ ⟨rfl, rfl, rfl⟩
 refine wP rfl (wP rfl (wP rfl (wP rfl (wF rfl tF_112_5 (wD 0 5 rfl tS_88 tA_88 rfl (wC [] [0,1,2,3,4] rfl fn_71 rfl (nil_flat Tryz.func71 rfl Tryz.ntmps71 Tryz.results71 rfl (by kernel_rfl)) (asK [] rfl) rfl (H' := [_,_,_,_,_]) rfl ?_))))))
 rintro _ _ _ ⟨rfl, rfl, rfl⟩
 refine wP rfl (wP rfl (wP rfl (wP rfl (wF rfl tF_112_6 (wD 0 6 rfl tS_89 tA_89 rfl (wC [1,2] [0,3,4] rfl fn_72 rfl (fl_flatValues p6 c6 h6 hL6 hB6) (asK [] rfl) rfl (H' := [_,_,_]) rfl ?_))))))
 rintro _ _ _ ⟨r6, hE6, rfl, rfl, rfl⟩
 refine wP rfl (wP rfl (wP rfl (wP rfl (wF rfl tF_112_7 (wD 1 7 rfl tS_46 tA_46 rfl (wC [2,3] [0,1] rfl fn_73 rfl (fl_flatFacts p7 c7 h7 hL7 hB7) (asK [] rfl) rfl (H' := [_,_]) rfl ?_))))))
 rintro _ _ _ ⟨r7, hE7, rfl, rfl, rfl⟩
 refine wP rfl (wP rfl (wP rfl (wP rfl (wF rfl tF_112_8 (wD 2 8 rfl tS_90 tA_90 rfl (wC [] [0,1,2] rfl fn_74 rfl (nil_flat Tryz.func74 rfl Tryz.ntmps74 Tryz.results74 rfl (by kernel_rfl)) (asK [] rfl) rfl (H' := [_,_,_]) rfl ?_))))))
 rintro _ _ _ ⟨rfl, rfl, rfl⟩
 refine wP rfl (wP rfl (wP rfl (wP rfl (wF rfl tF_112_9 (wD 2 9 rfl tS_91 tA_91 rfl (wC [] [0,1,2] rfl fn_75 rfl (nil_flat Tryz.func75 rfl Tryz.ntmps75 Tryz.results75 rfl (by kernel_rfl)) (asK [] rfl) rfl (H' := [_,_,_]) rfl ?_))))))
 rintro _ _ _ ⟨rfl, rfl, rfl⟩
 refine wP rfl (wP rfl (wP rfl (wP rfl (wF rfl tF_112_10 (wD 2 10 rfl tS_92 tA_92 rfl (wC [] [0,1,2] rfl fn_76 rfl (nil_flat Tryz.func76 rfl Tryz.ntmps76 Tryz.results76 rfl (by kernel_rfl)) (asK [] rfl) rfl (H' := [_,_,_]) rfl ?_))))))
 rintro _ _ _ ⟨rfl, rfl, rfl⟩
 refine wP rfl (wP rfl (wP rfl (wP rfl (wF rfl tF_112_11 (wD 2 11 rfl tS_93 tA_93 rfl (wC [] [0,1,2] rfl fn_77 rfl (nil_flat Tryz.func77 rfl Tryz.ntmps77 Tryz.results77 rfl (by kernel_rfl)) (asK [] rfl) rfl (H' := [_,_,_]) rfl ?_))))))
 rintro _ _ _ ⟨rfl, rfl, rfl⟩
 refine wP rfl (wP rfl (wP rfl (wP rfl (wF rfl tF_112_12 (wD 2 12 rfl tS_94 tA_94 rfl (wC [] [0,1,2] rfl fn_78 rfl (nil_flat Tryz.func78 rfl Tryz.ntmps78 Tryz.results78 rfl (by kernel_rfl)) (asK [] rfl) rfl (H' := [_,_,_]) rfl ?_))))))
 rintro _ _ _ ⟨rfl, rfl, rfl⟩
 refine wP rfl (wP rfl (wP rfl (wP rfl (wF rfl tF_112_13 (wD 2 13 rfl tS_95 tA_95 rfl (wC [] [0,1,2] rfl fn_79 rfl (nil_flat Tryz.func79 rfl Tryz.ntmps79 Tryz.results79 rfl (by kernel_rfl)) (asK [] rfl) rfl (H' := [_,_,_]) rfl ?_))))))
 rintro _ _ _ ⟨rfl, rfl, rfl⟩
 refine wP rfl (wP rfl (wP rfl (wP rfl (wF rfl tF_112_14 (wD 2 14 rfl tS_96 tA_96 rfl (wC [] [0,1,2] rfl fn_80 rfl (nil_flat Tryz.func80 rfl Tryz.ntmps80 Tryz.results80 rfl (by kernel_rfl)) (asK [] rfl) rfl (H' := [_,_,_]) rfl ?_))))))
 rintro _ _ _ ⟨rfl, rfl, rfl⟩
 refine wP rfl (wP rfl (wP rfl (wP rfl (wF rfl tF_112_15 (wD 2 15 rfl tS_97 tA_97 rfl (wC [] [0,1,2] rfl fn_81 rfl (nil_flat Tryz.func81 rfl Tryz.ntmps81 Tryz.results81 rfl (by kernel_rfl)) (asK [] rfl) rfl (H' := [_,_,_]) rfl ?_))))))
 rintro _ _ _ ⟨rfl, rfl, rfl⟩
 refine wP rfl (wP rfl (wP rfl (wP rfl (wF rfl tF_112_16 (wD 2 16 rfl tS_98 tA_98 rfl (wC [] [0,1,2] rfl fn_82 rfl (nil_flat Tryz.func82 rfl Tryz.ntmps82 Tryz.results82 rfl (by kernel_rfl)) (asK [] rfl) rfl (H' := [_,_,_]) rfl ?_))))))
 rintro _ _ _ ⟨rfl, rfl, rfl⟩
 refine wP rfl (wP rfl (wP rfl (wP rfl (wF rfl tF_112_17 (wD 2 17 rfl tS_99 tA_99 rfl (wC [] [0,1,2] rfl fn_83 rfl (nil_flat Tryz.func83 rfl Tryz.ntmps83 Tryz.results83 rfl (by kernel_rfl)) (asK [] rfl) rfl (H' := [_,_,_]) rfl ?_))))))
 rintro _ _ _ ⟨rfl, rfl, rfl⟩
 refine wP rfl (wP rfl (wP rfl (wP rfl (wF rfl tF_112_18 (wD 2 18 rfl tS_100 tA_100 rfl (wC [] [0,1,2] rfl fn_84 rfl (nil_flat Tryz.func84 rfl Tryz.ntmps84 Tryz.results84 rfl (by kernel_rfl)) (asK [] rfl) rfl (H' := [_,_,_]) rfl ?_))))))
 rintro _ _ _ ⟨rfl, rfl, rfl⟩
 refine wP rfl (wP rfl (wP rfl (wP rfl (wF rfl tF_112_19 (wD 2 19 rfl tS_101 tA_101 rfl (wC [] [0,1,2] rfl fn_85 rfl (nil_flat Tryz.func85 rfl Tryz.ntmps85 Tryz.results85 rfl (by kernel_rfl)) (asK [] rfl) rfl (H' := [_,_,_]) rfl ?_))))))
 rintro _ _ _ ⟨rfl, rfl, rfl⟩
 refine wP rfl (wP rfl (wP rfl (wP rfl (wF rfl tF_112_20 (wD 2 20 rfl tS_102 tA_102 rfl (wC [] [0,1,2] rfl fn_86 rfl (nil_flat Tryz.func86 rfl Tryz.ntmps86 Tryz.results86 rfl (by kernel_rfl)) (asK [] rfl) rfl (H' := [_,_,_]) rfl ?_))))))
 rintro _ _ _ ⟨rfl, rfl, rfl⟩
 refine wP rfl (wP rfl (wP rfl (wP rfl (wF rfl tF_112_21 (wD 2 21 rfl tS_103 tA_103 rfl (wC [] [0,1,2] rfl fn_87 rfl (nil_flat Tryz.func87 rfl Tryz.ntmps87 Tryz.results87 rfl (by kernel_rfl)) (asK [] rfl) rfl (H' := [_,_,_]) rfl ?_))))))
 rintro _ _ _ ⟨rfl, rfl, rfl⟩
 refine wP rfl (wP rfl (wP rfl (wP rfl (wF rfl tF_112_22 (wD 2 22 rfl tS_104 tA_104 rfl (wC [] [0,1,2] rfl fn_88 rfl (nil_flat Tryz.func88 rfl Tryz.ntmps88 Tryz.results88 rfl (by kernel_rfl)) (asK [] rfl) rfl (H' := [_,_,_]) rfl ?_))))))
 rintro _ _ _ ⟨rfl, rfl, rfl⟩
 refine wP rfl (wP rfl (wP rfl (wP rfl (wF rfl tF_112_23 (wD 2 23 rfl tS_105 tA_105 rfl (wC [] [0,1,2] rfl fn_89 rfl (nil_flat Tryz.func89 rfl Tryz.ntmps89 Tryz.results89 rfl (by kernel_rfl)) (asK [] rfl) rfl (H' := [_,_,_]) rfl ?_))))))
 rintro _ _ _ ⟨rfl, rfl, rfl⟩
 refine wP rfl (wP rfl (wP rfl (wP rfl (wF rfl tF_112_24 (wD 2 24 rfl tS_106 tA_106 rfl (wC [] [0,1,2] rfl fn_90 rfl (nil_flat Tryz.func90 rfl Tryz.ntmps90 Tryz.results90 rfl (by kernel_rfl)) (asK [] rfl) rfl (H' := [_,_,_]) rfl ?_))))))
 rintro _ _ _ ⟨rfl, rfl, rfl⟩
 refine wP rfl (wP rfl (wP rfl (wP rfl (wF rfl tF_112_25 (wD 2 25 rfl tS_107 tA_107 rfl (wC [] [0,1,2] rfl fn_91 rfl (nil_flat Tryz.func91 rfl Tryz.ntmps91 Tryz.results91 rfl (by kernel_rfl)) (asK [] rfl) rfl (H' := [_,_,_]) rfl ?_))))))
 rintro _ _ _ ⟨rfl, rfl, rfl⟩
 refine wP rfl (wP rfl (wP rfl (wP rfl (wF rfl tF_112_26 (wD 2 26 rfl tS_108 tA_108 rfl (wC [] [0,1,2] rfl fn_92 rfl (nil_flat Tryz.func92 rfl Tryz.ntmps92 Tryz.results92 rfl (by kernel_rfl)) (asK [] rfl) rfl (H' := [_,_,_]) rfl ?_))))))
 rintro _ _ _ ⟨rfl, rfl, rfl⟩
 refine wP rfl (wP rfl (wP rfl (wP rfl (wF rfl tF_112_27 (wD 2 27 rfl tS_109 tA_109 rfl (wC [] [0,1,2] rfl fn_93 rfl (nil_flat Tryz.func93 rfl Tryz.ntmps93 Tryz.results93 rfl (by kernel_rfl)) (asK [] rfl) rfl (H' := [_,_,_]) rfl ?_))))))
 rintro _ _ _ ⟨rfl, rfl, rfl⟩
 refine wP rfl (wP rfl (wP rfl (wP rfl (wF rfl tF_112_28 (wD 2 28 rfl tS_110 tA_110 rfl (wC [] [0,1,2] rfl fn_94 rfl (nil_flat Tryz.func94 rfl Tryz.ntmps94 Tryz.results94 rfl (by kernel_rfl)) (asK [] rfl) rfl (H' := [_,_,_]) rfl ?_))))))
 rintro _ _ _ ⟨rfl, rfl, rfl⟩
 refine wP rfl (wl_pure (S' := [_,_,_,_,_,_,_,_,_,_,_,_,_,_,_,_,_,_,_,_,_,_,_,_,_,_,_,_,_,_,_,_,_,_,_,_,_,_,_,_,_,_,_,_,_,_,_,_,_,_,_,_,_,_,_,_,_,_,_,_,_,_,_,_,_,_,_,_,_,_,_,_,_,_,_,_,_,_,_,_,_,_,_,_,_,_,_,_,_,_,_,_,_,_,_,_,_,_,_,_,_,_,_,_,_,_,_,_,_,_,_,_,_,_,_,_,_,_,_,_,_,_,_,_,_,_,_,_,_,_,_,_,_,_,_,_,_,_,_,_,_,_,_,_,_,_,_,_,_,_,_,_,_,_,_,_,_,_,_,_,_,_,_,_,_,_,_,_,_,_,_,_,_,_,_,_,_,_,_,_,_,_,_,_,_,_,_,_,_,_,_,_,_,_,_,_,_,_,_,_,_,_]) rfl rfl rfl rfl rfl (wl_nil (we_then (wc_keep [2,0] (S' := [_,_]) rfl (wc_ret (ret_one (Hr := [flatF 51 3 r6, flatF 27 3 r7]) [1,0] Tryz.results48 (res_tmp rfl) ?_ (asK [] rfl) rfl rfl (.inl rfl)))))))
 exact ⟨_,_, hE6, hE7, rfl, rfl, rfl⟩
theorem ap_ApartFacts (p : Option Addr) (n c : Nat) (zs : List ((List FactD) × (Option Addr × Nat))) (hzn : n = zs.length) (hz8 : zs.length ≤ 8) (hx : ∀ z ∈ zs, z.1.length ≤ 10000 ∧ ∀ y ∈ z.1, sz_FactD y) : Spec Tryz.prog 16 [.slice p n c] [] [.own 22 1 T_l_FactD.pair (.slice p n c) zs, bagF T_l_FactD (zs.drop 0) none] (fun v Φr Hr => ∃ (r6 : List Twin) (r7 : List Twin), v = .bool true ∧ Φr = [] ∧ Hr = [flatF 51 3 r6, flatF 27 3 r7]) := by
 subst hzn
 refine spec_of Tryz.func16 rfl Tryz.ntmps16 rfl (S := [_]) rfl (fun C => (wc_seq (wc_region (wP rfl (wl_nil (we_then (wc_seq (wc_region (wl_build rfl rfl rfl (freshS_eq rfl) rfl tZ_112 tP_112 rfl (out := [_,_,_,_,_,_,_,_,_,_,_,_,_,_,_,_,_,_,_,_,_,_,_,_,_,_,_,_,_]) rfl (wB rfl (fun g6 => (wP rfl (wl_nil (we_then (wc_keep [3,2,0] (S' := [_,_,_]) rfl ?_)))))))))))))))
 refine wc_seq (wc_seq (wc_region (wP rfl (wl_nil (we_then (wc_block (wc_sh [flatF 27 3 [], .blk g6 [.slice none 0 0, .slice none 0 0, .slice none 0 0, .slice none 0 0, .slice none 0 0, .slice none 0 0, .slice none 0 0, .slice none 0 0, .slice none 0 0, .slice none 0 0, .slice none 0 0, .slice none 0 0, .slice none 0 0, .slice none 0 0, .slice none 0 0, .slice none 0 0, .slice none 0 0, .slice none 0 0, .slice none 0 0, .slice none 0 0, .slice none 0 0, .slice none 0 0, .slice none 0 0, .slice none 0 0, .slice none 0 0, .slice none 0 0, .slice none 0 0, .slice none 0 0, .slice none 0 0] 112, .own 22 1 T_l_FactD.pair (.slice p zs.length c) zs, bagF T_l_FactD (zs.drop 0) none] (fun _ h => h.flNil 27 3) (wc_rowNil 22 1 hdrR (wc_sh [flatF 51 3 [], .own 22 1 hdrR (.slice none 0 0) [], flatF 27 3 [], .blk g6 [.slice none 0 0, .slice none 0 0, .slice none 0 0, .slice none 0 0, .slice none 0 0, .slice none 0 0, .slice none 0 0, .slice none 0 0, .slice none 0 0, .slice none 0 0, .slice none 0 0, .slice none 0 0, .slice none 0 0, .slice none 0 0, .slice none 0 0, .slice none 0 0, .slice none 0 0, .slice none 0 0, .slice none 0 0, .slice none 0 0, .slice none 0 0, .slice none 0 0, .slice none 0 0, .slice none 0 0, .slice none 0 0, .slice none 0 0, .slice none 0 0, .slice none 0 0, .slice none 0 0] 112, .own 22 1 T_l_FactD.pair (.slice p zs.length c) zs, bagF T_l_FactD (zs.drop 0) none] (fun _ h => h.flNil 51 3) (wc_rowNil 25 1 hdrR (wc_loop (σ := Option Addr × Nat × List Hdr × Option Addr × Nat × List Hdr × Nat) (fun s => s.2.2.2.2.2.2 ≤ zs.length ∧ s.2.2.1.length ≤ s.2.2.2.2.2.2 * 10000 ∧ Bd s.2.2.1 ∧ s.2.2.2.2.2.1.length ≤ s.2.2.2.2.2.2 * 1 ∧ Bd s.2.2.2.2.2.1) (fun s => zs.length - s.2.2.2.2.2.2) (fun s => [(4, .int .i64 ((s.2.2.2.2.2.2 : Nat) : Int)), (3, .pointer (some ⟨g6,0, none⟩)), (2, .bool false), (0, .slice p zs.length c)]) (fun s => []) (fun s => [.own 25 1 hdrR (.slice s.1 s.2.2.1.length s.2.1) s.2.2.1, flatF 51 3 (s.2.2.1.map row0), .own 22 1 hdrR (.slice s.2.2.2.1 s.2.2.2.2.2.1.length s.2.2.2.2.1) s.2.2.2.2.2.1, flatF 27 3 (s.2.2.2.2.2.1.map row0), .blk g6 [.slice none 0 0, .slice none 0 0, .slice none 0 0, .slice none 0 0, .slice none 0 0, .slice none 0 0, .slice s.1 s.2.2.1.length s.2.1, .slice s.2.2.2.1 s.2.2.2.2.2.1.length s.2.2.2.2.1, .slice none 0 0, .slice none 0 0, .slice none 0 0, .slice none 0 0, .slice none 0 0, .slice none 0 0, .slice none 0 0, .slice none 0 0, .slice none 0 0, .slice none 0 0, .slice none 0 0, .slice none 0 0, .slice none 0 0, .slice none 0 0, .slice none 0 0, .slice none 0 0, .slice none 0 0, .slice none 0 0, .slice none 0 0, .slice none 0 0, .slice none 0 0] 112, .own 22 1 T_l_FactD.pair (.slice p zs.length c) zs, bagF T_l_FactD (zs.drop s.2.2.2.2.2.2) none]) (none, 0,[], none, 0,[],0) ⟨Nat.zero_le _, Nat.zero_le _, Bd.nil, Nat.zero_le _, Bd.nil⟩ [4,3,2,0] rfl (asK [] rfl) rfl (fun s1 oks1 => (wc_seq (wc_seq ?_))))))))))))))
 refine wc_region (wP rfl (wP rfl (wN rfl tE_46 (wP rfl (wl_nil (we_then (wc_keep [10,4,3,2,0] (S' := [_,_,_,_,_]) rfl ?_)))))))
 refine wc_cond rfl (fun h10 => ?_) (fun h10 => ?_)
 ·
  replace h10 := of_decide_eq_true h10
  obtain ⟨hi2, hl6, hb6, hl7, hb7⟩ := oks1
  have hi1 : s1.2.2.2.2.2.2 < zs.length := by omega
  obtain ⟨z1, hz1⟩ : ∃ z, zs[s1.2.2.2.2.2.2]? = some z := ⟨_, List.getElem?_eq_getElem hi1⟩
  have hxs := hx z1 (List.mem_of_getElem? hz1)
  refine wc_skip (we_then (wc_seq (wc_block (wc_region (wP rfl (wP rfl (wP rfl (wl_indexH 5 s1.2.2.2.2.2.2 rfl rfl rfl (freshS_eq rfl) rfl rfl rfl rfl rfl hi1 tE_46 tS_22 (fun g16 eg16 => ?_)))))))))
  subst eg16
  refine wl_loadRow pair_opens 5 s1.2.2.2.2.2.2 0 rfl rfl rfl (freshS_eq rfl) rfl rfl rfl hz1 tS_22 tA_22 (v := fun _ => .slice z1.2.1 z1.1.length z1.2.2) (fun _ => rfl) (fun _ => rfl) (fun _ _ => (wl_sh [treeF T_FactD 27 3 (.slice z1.2.1 z1.1.length z1.2.2) z1.1, .own 25 1 hdrR (.slice s1.1 s1.2.2.1.length s1.2.1) s1.2.2.1, flatF 51 3 (s1.2.2.1.map row0), .own 22 1 hdrR (.slice s1.2.2.2.1 s1.2.2.2.2.2.1.length s1.2.2.2.2.1) s1.2.2.2.2.2.1, flatF 27 3 (s1.2.2.2.2.2.1.map row0), .blk g6 [.slice none 0 0, .slice none 0 0, .slice none 0 0, .slice none 0 0, .slice none 0 0, .slice none 0 0, .slice s1.1 s1.2.2.1.length s1.2.1, .slice s1.2.2.2.1 s1.2.2.2.2.2.1.length s1.2.2.2.2.1, .slice none 0 0, .slice none 0 0, .slice none 0 0, .slice none 0 0, .slice none 0 0, .slice none 0 0, .slice none 0 0, .slice none 0 0, .slice none 0 0, .slice none 0 0, .slice none 0 0, .slice none 0 0, .slice none 0 0, .slice none 0 0, .slice none 0 0, .slice none 0 0, .slice none 0 0, .slice none 0 0, .slice none 0 0, .slice none 0 0, .slice none 0 0] 112, .own 22 1 T_l_FactD.pair (.slice (some ⟨g16,0, none⟩) zs.length c) zs, bagF T_l_FactD (zs.drop (s1.2.2.2.2.2.2 + 1)) none] (fun _ h => h.bagUncons 6 rfl hz1) (wC [5,1,2,3,4,0] [6,7] rfl fn_47 rfl (ap_putFacts _ s1.1 s1.2.1 s1.2.2.1 s1.2.2.2.1 s1.2.2.2.2.1 s1.2.2.2.2.2.1 z1.2.1 z1.2.2 z1.1 (by omega) hb6 (by omega) hb7 hxs.1 hxs.2) (asK [] rfl) rfl (H' := [_,_]) rfl ?_)))
  rintro _ _ _ ⟨q6_1, d6_1, k6_1, q7_1, d7_1, k7_1, hl6_1, hb6_1, hl7_1, hb7_1, rfl, rfl, rfl⟩
  refine wl_nil (we_block_normal (we_then (wc_region (wP rfl (wP rfl (wl_as (d := 12) (v' := .int .i64 ((s1.2.2.2.2.2.2 + 1 : Nat) : Int)) (S' := [_,_,_,_,_,_,_,_,_,_,_,_]) rfl rfl (nat_add (a := s1.2.2.2.2.2.2) (b := 1) (by omega)) (wl_pure (S' := [_,_,_,_,_,_,_,_,_,_,_,_]) rfl rfl rfl rfl rfl (wl_nil (we_pick [1,2,3,4,0,5,6] rfl (H' := [_,_,_,_,_,_,_]) rfl ?_)))))))))
  refine we_round (q6_1, d6_1, k6_1, q7_1, d7_1, k7_1, s1.2.2.2.2.2.2 + 1) (by show zs.length - (s1.2.2.2.2.2.2 + 1) < zs.length - s1.2.2.2.2.2.2; omega) ⟨by show s1.2.2.2.2.2.2 + 1 ≤ _; omega, by have := hl6_1; show List.length (k6_1) ≤ (s1.2.2.2.2.2.2 + 1) * _; omega, hb6_1, by have := hl7_1; show List.length (k7_1) ≤ (s1.2.2.2.2.2.2 + 1) * _; omega, hb7_1⟩ [4,3,2,0] rfl (asK [] rfl) rfl
 ·
  replace h10 := of_decide_eq_false h10
  obtain ⟨hi2, hl6, hb6, hl7, hb7⟩ := oks1
  refine wc_exit (we_then_exit (we_then_exit (we_block_hit (we_then (wc_seq (wc_region (wP rfl (wC [4,0,1,2,3] [5,6] rfl fn_48 rfl (ap_apart _ s1.1 s1.2.1 s1.2.2.1 s1.2.2.2.1 s1.2.2.2.2.1 s1.2.2.2.2.2.1 (by omega) hb6 (by omega) hb7) (asK [] rfl) rfl (H' := [_,_]) rfl ?_))))))))
  rintro _ _ _ ⟨r6, r7, hE6, hE7, rfl, rfl, rfl⟩
  refine wl_pure (S' := [_,_,_,_,_,_]) rfl rfl rfl rfl rfl (wl_nil (we_then (wc_keep [2,10,4,3,0] (S' := [_,_,_,_,_]) rfl (wc_ret (ret_one (Hr := [flatF 51 3 r6, flatF 27 3 r7]) [0,1] Tryz.results16 (res_tmp rfl) ?_ (asK [] rfl) rfl rfl (.inl rfl))))))
  exact ⟨_,_, rfl, rfl, rfl⟩
theorem w_ropewalklaw11_step_s (N : Nat) (qg0 : Nat) (qp1 : Option Addr) (qn2 : Nat) (qc3 : Nat) (l0 : List FactD) (a1 : Int) (qg4 : Nat) (qp5 : Option Addr) (qn6 : Nat) (qc7 : Nat) (l2 : List FactD) (a3 : Int) (a4 : Int) (a5 : Int) (a6 : Int) (qp8 : Option Addr) (qc9 : Nat) (l7 : List V) (o0 : Bool) (o3 : List FactD) (o5 : Int) (o8 : List FactD) (o10 : Int) (hm : m_ropewalklaw11_step N l0 a1 l2 a3 a4 a5 a6 l7 = some (o0, o3, o5, o8, o10)) : Spec Tryz.prog 13 [.pointer (some ⟨qg0,0, none⟩), .pointer (some ⟨qg4,0, none⟩), .agg #[.int .i64 a4, .int .i64 a5, .int .i64 a6, .slice qp8 l7.length qc9]] [.sli 3 R_V qp8 qc9 l7] [.blk qg0 [.slice qp1 qn2 qc3, .int .i64 a1] 61, .own 27 3 R_FactD (.slice qp1 qn2 qc3) l0, .blk qg4 [.slice qp5 qn6 qc7, .int .i64 a3] 63, .own 27 3 R_FactD (.slice qp5 qn6 qc7) l2] (fun v Φr Hr => ∃ (o1 : Option Addr) (o2 : Nat) (o4 : Nat) (o6 : Option Addr) (o7 : Nat) (o9 : Nat), v = .bool o0 ∧ Φr = [] ∧ Hr = [.blk qg0 [.slice o1 o4 o2, .int .i64 o5] 61, .own 27 3 R_FactD (.slice o1 o4 o2) o3, .blk qg4 [.slice o6 o9 o7, .int .i64 o10] 63, .own 27 3 R_FactD (.slice o6 o9 o7) o8]) := by
 unfold m_ropewalklaw11_step at hm
 refine spec_of Tryz.func13 rfl Tryz.ntmps13 rfl (S := [_,_,_]) rfl (fun C => (wc_seq (wc_region (wB rfl (fun g5 => (wP rfl (wl_nil (we_then (wc_keep [5,0,1] (S' := [_,_,_]) rfl (wc_seq (wc_region (wF rfl tF_41_3 (wD 0 3 rfl tS_25 tA_25 rfl ?_)))))))))))))
 obtain ⟨v25, hc25, hm⟩ := bindO_some hm
 refine wC [] [0,1,2,3,4] rfl fn_34 rfl (w_ropewalkkit_LentValues_s N qp8 qc9 l7 _ hc25) (asK [0] rfl) rfl (H' := [_,_,_,_,_]) rfl ?_
 rintro _ _ _ ⟨p25_0, c25_1, c25_2, rfl, rfl, rfl⟩
 refine wP rfl (wl_nil (we_then (wc_keep [7,5,0,1] (S' := [_,_,_,_]) rfl (wc_seq (wc_region (wP rfl (wl_nil (we_then (wc_keep [7,5,0,1] (S' := [_,_,_,_]) rfl (wc_seq ?_))))))))))
 obtain ⟨bj_1, hm, hLj_1⟩ := bindO_some hm
 unfold m_ropewalklaw11_step_C1 at hm
 refine wc_cut (σ := Bool × (List FactD) × Int × (List FactD) × Int × (Option Addr) × Nat × Nat × (Option Addr) × Nat × Nat) (fun (j_1_8, j_1_r0_f0_l, j_1_r0_f1, j_1_r2_f0_l, j_1_r2_f1, j_1_r0_f0_p, j_1_r0_f0_c, j_1_r0_f0_n, j_1_r2_f0_p, j_1_r2_f0_c, j_1_r2_f0_n) => bj_1 = (j_1_8, j_1_r0_f0_l, j_1_r0_f1, j_1_r2_f0_l, j_1_r2_f1)) (fun (j_1_8, j_1_r0_f0_l, j_1_r0_f1, j_1_r2_f0_l, j_1_r2_f1, j_1_r0_f0_p, j_1_r0_f0_c, j_1_r0_f0_n, j_1_r2_f0_p, j_1_r2_f0_c, j_1_r2_f0_n) => [(7, .slice p25_0 l7.length c25_1), (5, .pointer (some ⟨g5,0, none⟩)), (8, .bool j_1_8)]) (fun (j_1_8, j_1_r0_f0_l, j_1_r0_f1, j_1_r2_f0_l, j_1_r2_f1, j_1_r0_f0_p, j_1_r0_f0_c, j_1_r0_f0_n, j_1_r2_f0_p, j_1_r2_f0_c, j_1_r2_f0_n) => [.sli 3 R_V qp8 qc9 l7]) (fun (j_1_8, j_1_r0_f0_l, j_1_r0_f1, j_1_r2_f0_l, j_1_r2_f1, j_1_r0_f0_p, j_1_r0_f0_c, j_1_r0_f0_n, j_1_r2_f0_p, j_1_r2_f0_c, j_1_r2_f0_n) => [.own 51 3 R_V (.slice p25_0 c25_2 c25_1) v25, .blk g5 [.int .i64 a4, .int .i64 a5, .int .i64 a6, .slice qp8 l7.length qc9] 41, .blk qg0 [.slice j_1_r0_f0_p j_1_r0_f0_n j_1_r0_f0_c, .int .i64 j_1_r0_f1] 61, .own 27 3 R_FactD (.slice j_1_r0_f0_p j_1_r0_f0_n j_1_r0_f0_c) j_1_r0_f0_l, .blk qg4 [.slice j_1_r2_f0_p j_1_r2_f0_n j_1_r2_f0_c, .int .i64 j_1_r2_f1] 63, .own 27 3 R_FactD (.slice j_1_r2_f0_p j_1_r2_f0_n j_1_r2_f0_c) j_1_r2_f0_l]) ?_ ?_
 ·
  refine wc_seq (wc_region (wF rfl tF_41_0 (wD 1 0 rfl tS_3 tA_3 rfl ?_)))
  obtain ⟨v28, hc28, hm⟩ := bindO_some hm
  refine wC [] [0,1,2,3,4,5] rfl fn_35 rfl (w_ropewalkkit_Pick_s N a4 6 _ hc28) (asK [] rfl) rfl (H' := [_,_,_,_,_,_]) rfl ?_
  rintro _ _ _ ⟨rfl, rfl, rfl⟩
  refine wl_nil (we_then (wc_keep [28,7,5,0,1] (S' := [_,_,_,_,_]) rfl (wc_block (wc_seq ?_))))
  obtain ⟨bj_2, hm, hLj_2⟩ := bindO_some hm
  refine wc_cut (σ := Bool) (fun j_2_66 => bj_2 = j_2_66) (fun j_2_66 => [(28, .int .i64 v28), (7, .slice p25_0 l7.length c25_1), (5, .pointer (some ⟨g5,0, none⟩)), (0, .pointer (some ⟨qg0,0, none⟩)), (1, .pointer (some ⟨qg4,0, none⟩)), (66, .bool j_2_66)]) (fun j_2_66 => [.sli 3 R_V qp8 qc9 l7]) (fun j_2_66 => [.own 51 3 R_V (.slice p25_0 c25_2 c25_1) v25, .blk g5 [.int .i64 a4, .int .i64 a5, .int .i64 a6, .slice qp8 l7.length qc9] 41, .blk qg0 [.slice qp1 qn2 qc3, .int .i64 a1] 61, .own 27 3 R_FactD (.slice qp1 qn2 qc3) l0, .blk qg4 [.slice qp5 qn6 qc7, .int .i64 a3] 63, .own 27 3 R_FactD (.slice qp5 qn6 qc7) l2]) ?_ ?_
  ·
   refine wc_seq (wc_region (wP rfl (wP rfl (wl_nil (we_then (wc_keep [66,28,7,5,0,1] (S' := [_,_,_,_,_,_]) rfl ?_))))))
   refine wc_cond rfl (fun hb66 => ?_) (fun hb66 => ?_)
   ·
    replace hm := iteT hm hb66
    refine wc_skip ?_
    have hE := (Option.some.inj hm).symm
    refine we_join (v28 == 0) hE [28,7,5,0,1,66] rfl (asK [0] rfl) rfl
   ·
    replace hm := iteF hm hb66
    refine wc_keep [28,7,5,0,1] (S' := [_,_,_,_,_]) rfl (wc_seq (wc_region (wP rfl (wP rfl (wl_nil (we_then (wc_keep [66,28,7,5,0,1] (S' := [_,_,_,_,_,_]) rfl ?_)))))))
    refine wc_cond rfl (fun hb66 => ?_) (fun hb66 => ?_)
    ·
     replace hm := iteT hm hb66
     refine wc_skip ?_
     have hE := (Option.some.inj hm).symm
     refine we_join (v28 == 1) hE [28,7,5,0,1,66] rfl (asK [0] rfl) rfl
    ·
     replace hm := iteF hm hb66
     refine wc_keep [28,7,5,0,1] (S' := [_,_,_,_,_]) rfl (wc_region (wP rfl (wP rfl (wl_nil ?_))))
     have hE := (Option.some.inj hm).symm
     refine we_join (v28 == 2) hE [28,7,5,0,1,66] rfl (asK [0] rfl) rfl
  ·
   rintro j_2_66 hE
   try dsimp only
   have hm := hLj_2
   rw [hE] at hm
   refine wc_cond rfl (fun hb66 => ?_) (fun hb66 => ?_)
   ·
    replace hm := iteT hm hb66
    refine wc_keep [7,5,0,1] (S' := [_,_,_,_]) rfl (wc_seq (wc_region (wP rfl (wF rfl tF_41_2 (wD 1 2 rfl tS_3 tA_3 rfl (wP rfl (wl_ownLen 0 rfl (fun hzc25_2 _ => ?_))))))))
    subst hzc25_2
    obtain ⟨⟨v75_0, v75_1, v75_2, v75_3⟩, hc75, hm⟩ := bindO_some hm
    try dsimp only at hm
    refine wC [2,3,0] [1,4,5] rfl fn_20 rfl (w_memory_Memory_Add_V_s N qg0 qp1 qn2 qc3 l0 a1 a6 p25_0 v25.length c25_1 v25 l7.length _ _ _ _ hc75) (asK [] rfl) rfl (H' := [_,_,_]) rfl ?_
    rintro _ _ _ ⟨p75_0, c75_1, c75_2, rfl, rfl, rfl⟩
    refine wP rfl (wP rfl (wP rfl (wP rfl (wP rfl (wl_nil (we_then (wc_keep [10,9,7,5,1] (S' := [_,_,_,_,_]) rfl (wc_seq (wc_region (wP rfl (wF rfl tF_41_2 (wD 3 2 rfl tS_3 tA_3 rfl (wF rfl tF_41_3 ?_)))))))))))))
    refine wD 3 3 rfl tS_25 tA_25 rfl ?_
    obtain ⟨⟨v84_0, v84_1, v84_2, v84_3⟩, hc84, hm⟩ := bindO_some hm
    try dsimp only at hm
    refine wC [4,5] [0,1,2,3] rfl fn_36 rfl (w_ropewalkref11_Memory_Add_s N qg4 qp5 qn6 qc7 l2 a3 a6 qp8 qc9 l7 _ _ _ _ hc84) (asK [0] rfl) rfl (H' := [_,_,_,_]) rfl ?_
    rintro _ _ _ ⟨p84_0, c84_1, c84_2, rfl, rfl, rfl⟩
    refine wP rfl (wP rfl (wP rfl (wP rfl (wP rfl (wl_nil (we_then (wc_keep [12,11,10,9,7,5] (S' := [_,_,_,_,_,_]) rfl (wc_region (wP rfl (wP rfl (wP rfl (wP rfl ?_))))))))))))
    refine wl_split (d := 90) (S' := [_,_,_,_,_,_,_,_,_]) rfl rfl (fun hs90 => ?_) (fun hs90 => ?_)
    ·
     replace hm := iteT hm hs90
     refine wP rfl (wP rfl (wP rfl (wl_as (d := 93) (v' := .bool (v75_1 == v84_1)) (S' := [_,_,_,_,_,_,_,_,_,_,_,_]) rfl rfl (nateq (a := v75_1) (b := v84_1)) (wP rfl (wP rfl (wl_nil (we_block_normal ?_)))))))
     have hE := (Option.some.inj hm).symm
     refine we_pick [4,5,2,3,0,1] rfl (H' := [_,_,_,_,_,_]) rfl ?_
     refine we_join (v75_1 == v84_1, v75_2, v75_3, v84_2, v84_3, p75_0, c75_1, c75_2, p84_0, c84_1, c84_2) hE [7,5,8] rfl (asK [0] rfl) rfl
    ·
     replace hm := iteF hm hs90
     refine wO rfl (wO rfl (wO rfl (wP rfl (wP rfl (wl_nil (we_block_normal ?_))))))
     have hE := (Option.some.inj hm).symm
     refine we_pick [4,5,2,3,0,1] rfl (H' := [_,_,_,_,_,_]) rfl ?_
     refine we_join (false, v75_2, v75_3, v84_2, v84_3, p75_0, c75_1, c75_2, p84_0, c84_1, c84_2) hE [7,5,8] rfl (asK [0] rfl) rfl
   ·
    replace hm := iteF hm hb66
    refine wc_keep [28,7,5,0,1] (S' := [_,_,_,_,_]) rfl (wc_seq (wc_region (wP rfl (wP rfl (wl_nil (we_then (wc_keep [95,28,7,5,0,1] (S' := [_,_,_,_,_,_]) rfl ?_)))))))
    refine wc_cond rfl (fun hb95 => ?_) (fun hb95 => ?_)
    ·
     replace hm := iteT hm hb95
     refine wc_keep [7,5,0,1] (S' := [_,_,_,_]) rfl ?_
     obtain ⟨⟨v100_0, v100_1⟩, hc100, hm⟩ := bindO_some hm
     try dsimp only at hm
     obtain ⟨⟨v104_0, v104_1⟩, hc104, hm⟩ := bindO_some hm
     try dsimp only at hm
     refine wc_draw [0,1,2,4,5,6,8] rfl rfl (fun hok => (xP hok 0 rfl (wx_fieldAddr hok 1 rfl rfl rfl (freshS_eq rfl) rfl rfl rfl tF_41_1 (wx_loadH hok 2 1 1 rfl rfl rfl (freshS_eq rfl) rfl rfl rfl rfl (cs := [_]) rfl tS_3 tA_3 rfl rfl (xP hok 4 rfl (wx_fieldAddr hok 5 rfl rfl rfl (freshS_eq rfl) rfl rfl rfl tF_41_1 (wx_loadH hok 6 1 1 rfl rfl rfl (freshS_eq rfl) rfl rfl rfl rfl (cs := [_]) rfl tS_3 tA_3 rfl rfl (xS hok 3 rfl (wC [2,3] [0,1,4,5] rfl fn_21 rfl (w_memory_Memory_Drop_s N qg0 qp1 qn2 qc3 l0 a1 a5 _ _ hc100) (asK [] rfl) rfl (H' := [_,_,_,_]) rfl ?_)))))))))
     rintro _ _ _ ⟨p100_0, c100_1, c100_2, rfl, rfl, rfl⟩
     refine wl_nil (we_x [0] [3] rfl rfl (xS hok 7 rfl (wC [4,5] [0,1,2,3] rfl fn_37 rfl (w_ropewalkref11_Memory_Drop_s N qg4 qp5 qn6 qc7 l2 a3 a5 _ _ hc104) (asK [] rfl) rfl (H' := [_,_,_,_]) rfl ?_)))
     rintro _ _ _ ⟨p104_0, c104_1, c104_2, rfl, rfl, rfl⟩
     refine wl_nil (we_x [0] [5] rfl rfl (xP hok 8 rfl (wx_as (d := 105) (v' := .bool (v100_0 == v104_0)) (S' := [_,_,_,_,_,_,_,_,_,_,_,_]) rfl rfl (nateq (a := v100_0) (b := v104_0)) (xS hok 9 rfl (wP rfl (wl_nil (we_x [0] [] rfl rfl (wx_done hok rfl (we_block_normal ?_)))))))))
     have hE := (Option.some.inj hm).symm
     refine we_pick [4,5,2,3,0,1] rfl (H' := [_,_,_,_,_,_]) rfl ?_
     refine we_join (v100_0 == v104_0, v100_1, a1, v104_1, a3, p100_0, c100_1, c100_2, p104_0, c104_1, c104_2) hE [7,5,8] rfl (asK [0] rfl) rfl
    ·
     replace hm := iteF hm hb95
     refine wc_keep [28,7,5,0,1] (S' := [_,_,_,_,_]) rfl (wc_seq (wc_region (wP rfl (wP rfl (wl_nil (we_then (wc_keep [106,7,5,0,1] (S' := [_,_,_,_,_]) rfl ?_)))))))
     refine wc_cond rfl (fun hb106 => ?_) (fun hb106 => ?_)
     ·
      replace hm := iteT hm hb106
      refine wc_keep [7,5,0,1] (S' := [_,_,_,_]) rfl (wc_seq (wc_region (wP rfl (wF rfl tF_41_2 (wD 1 2 rfl tS_3 tA_3 rfl (wP rfl (wl_ownLen 0 rfl (fun hzc25_2 _ => ?_))))))))
      subst hzc25_2
      obtain ⟨⟨v113_0, v113_1⟩, hc113, hm⟩ := bindO_some hm
      try dsimp only at hm
      refine wC [2,3,0] [1,4,5] rfl fn_38 rfl (w_memory_Memory_Find_V_s N qg0 qp1 qn2 qc3 l0 a1 a6 p25_0 v25.length c25_1 v25 l7.length _ _ hc113) (asK [] rfl) rfl (H' := [_,_,_]) rfl ?_
      rintro _ _ _ ⟨rfl, rfl, rfl⟩
      refine wP rfl (wP rfl (wP rfl (wP rfl (wP rfl (wl_nil (we_then (wc_keep [14,13,7,5,1] (S' := [_,_,_,_,_]) rfl (wc_seq (wc_region (wP rfl (wF rfl tF_41_2 (wD 3 2 rfl tS_3 tA_3 rfl (wF rfl tF_41_3 ?_)))))))))))))
      refine wD 3 3 rfl tS_25 tA_25 rfl ?_
      obtain ⟨⟨v122_0, v122_1⟩, hc122, hm⟩ := bindO_some hm
      try dsimp only at hm
      refine wC [4,5] [0,1,2,3] rfl fn_39 rfl (w_ropewalkref11_Memory_Find_s N qg4 qp5 qn6 qc7 l2 a3 a6 qp8 qc9 l7 _ _ hc122) (asK [0] rfl) rfl (H' := [_,_,_,_]) rfl ?_
      rintro _ _ _ ⟨rfl, rfl, rfl⟩
      refine wP rfl (wP rfl (wP rfl (wP rfl (wP rfl (wl_nil (we_then (wc_keep [16,15,14,13,7,5] (S' := [_,_,_,_,_,_]) rfl (wc_region (wP rfl (wP rfl (wP rfl (wP rfl ?_))))))))))))
      refine wl_split (d := 128) (S' := [_,_,_,_,_,_,_,_,_]) rfl rfl (fun hs128 => ?_) (fun hs128 => ?_)
      ·
       replace hm := iteT hm hs128
       refine wP rfl (wP rfl (wl_bin rfl rfl rfl (freshS_eq rfl) rfl rfl rfl (eqlB _ _ v113_1 v122_1) (wP rfl (wP rfl (wl_nil (we_block_normal ?_))))))
       have hE := (Option.some.inj hm).symm
       refine we_pick [4,5,2,3,0,1] rfl (H' := [_,_,_,_,_,_]) rfl ?_
       refine we_join (v113_1 == v122_1, l0, a1, l2, a3, qp1, qc3, qn2, qp5, qc7, qn6) hE [7,5,8] rfl (asK [0] rfl) rfl
      ·
       replace hm := iteF hm hs128
       refine wO rfl (wO rfl (wO rfl (wP rfl (wP rfl (wl_nil (we_block_normal ?_))))))
       have hE := (Option.some.inj hm).symm
       refine we_pick [4,5,2,3,0,1] rfl (H' := [_,_,_,_,_,_]) rfl ?_
       refine we_join (false, l0, a1, l2, a3, qp1, qc3, qn2, qp5, qc7, qn6) hE [7,5,8] rfl (asK [0] rfl) rfl
     ·
      replace hm := iteF hm hb106
      refine wc_keep [7,5,0,1] (S' := [_,_,_,_]) rfl (wc_seq (wc_region (wP rfl (wF rfl tF_41_1 (wD 1 1 rfl tS_3 tA_3 rfl ?_)))))
      obtain ⟨⟨v33_0, v33_1, v33_2, v33_3⟩, hc33, hm⟩ := bindO_some hm
      try dsimp only at hm
      refine wC [2,3] [0,1,4,5] rfl fn_40 rfl (w_memory_Memory_Get_s N qg0 qp1 qn2 qc3 l0 a1 a5 _ _ _ _ hc33) (asK [] rfl) rfl (H' := [_,_,_,_]) rfl ?_
      rintro _ _ _ ⟨p33_0, c33_1, c33_2, rfl, rfl, rfl⟩
      refine wP rfl (wP rfl (wP rfl (wl_alloc rfl rfl rfl (freshS_eq rfl) rfl tZ_27 rfl (fun g17 => (wS 0 0 rfl tS_27 (all' := [_,_,_]) rfl (H' := [_,_,_,_,_,_,_,_]) rfl (wP rfl (wl_nil (we_then (wc_keep [18,17,7,5,0,1] (S' := [_,_,_,_,_,_]) rfl (wc_seq (wc_region (wP rfl (wF rfl tF_41_1 (wD 5 1 rfl tS_3 tA_3 rfl ?_))))))))))))))
      obtain ⟨⟨v40_0, v40_1, v40_2, v40_3⟩, hc40, hm⟩ := bindO_some hm
      try dsimp only at hm
      refine wC [6,7] [0,1,2,3,4,5] rfl fn_41 rfl (w_ropewalkref11_Memory_Get_s N qg4 qp5 qn6 qc7 l2 a3 a5 _ _ _ _ hc40) (asK [] rfl) rfl (H' := [_,_,_,_,_,_]) rfl ?_
      rintro _ _ _ ⟨p40_0, c40_1, rfl, rfl, rfl⟩
      refine wP rfl (wP rfl (wP rfl (wl_alloc rfl rfl rfl (freshS_eq rfl) rfl tZ_27 rfl (fun g19 => (wS 0 0 rfl tS_27 (all' := [_,_,_]) rfl (H' := [_,_,_,_,_,_,_,_,_]) rfl (wP rfl (wl_nil (we_then (wc_keep [20,19,18,17,7,5,0] (S' := [_,_,_,_,_,_,_]) rfl (wc_seq (wc_region (wP rfl (wF rfl tF_41_1 (wD 8 1 rfl tS_3 tA_3 rfl ?_))))))))))))))
      obtain ⟨⟨v47_0, v47_1, v47_2, v47_3⟩, hc47, hm⟩ := bindO_some hm
      try dsimp only at hm
      refine wC [5,6] [0,1,2,3,4,7,8] rfl fn_40 rfl (w_memory_Memory_Get_s N qg0 qp1 qn2 qc3 l0 a1 a5 _ _ _ _ hc47) (asK [] rfl) rfl (H' := [_,_,_,_,_,_,_]) rfl ?_
      rintro _ _ _ ⟨p47_0, c47_1, c47_2, rfl, rfl, rfl⟩
      refine wP rfl (wP rfl (wP rfl (wl_alloc rfl rfl rfl (freshS_eq rfl) rfl tZ_27 rfl (fun g21 => (wS 0 0 rfl tS_27 (all' := [_,_,_]) rfl (H' := [_,_,_,_,_,_,_,_,_,_,_]) rfl (wP rfl (wl_nil (we_then (wc_keep [21,20,19,18,17,7,5] (S' := [_,_,_,_,_,_,_]) rfl (wc_region (wP rfl (wP rfl (wl_bin rfl rfl rfl (freshS_eq rfl) rfl rfl rfl (eqlB _ _ v33_3 v40_3) (wP rfl ?_))))))))))))))
      refine wl_split (d := 53) (S' := [_,_,_,_,_,_,_,_,_,_]) rfl rfl (fun hs53 => ?_) (fun hs53 => ?_)
      ·
       replace hm := iteT hm hs53
       refine wl_loadH 7 0 rfl rfl rfl (freshS_eq rfl) rfl rfl rfl (cs := [_,_,_]) rfl tS_27 tA_27 rfl rfl (wl_loadH 4 0 rfl rfl rfl (freshS_eq rfl) rfl rfl rfl (cs := [_,_,_]) rfl tS_27 tA_27 rfl rfl (wl_ownLen 8 rfl (fun hzc33_2 _ => ?_)))
       subst hzc33_2
       obtain ⟨v56, hc56, hm⟩ := bindO_some hm
       refine wl_lend [] [0,1,2,3,4,5,6,7,8,9,10] [8] rfl rfl rfl (freshS_eq rfl) rfl rfl fn_32 rfl (w_ropewalkkit_SameFact_s N v33_0 v33_1 p33_0 c33_1 v33_2 v40_0 v40_1 p40_0 c40_1 v40_2 _ hc56) (fun F w hφ hh => (ask_cons (own_sli (hh _ (mem_at (k := 0) rfl))) (ask_cons (hφ _ (mem_at (k := 0) rfl)) ask_nil))) (fun _ _ _ hR => by obtain ⟨rfl, rfl, rfl⟩ := hR; exact ⟨rfl, (fun _ h => free_nil h)⟩) rfl rfl (H' := [_,_,_,_,_,_,_,_,_,_,_]) rfl ?_
       rintro _ _ _ ⟨rfl, rfl, rfl⟩
       refine wP rfl (wP rfl ?_)
       refine wl_split (d := 58) (S' := [_,_,_,_,_,_,_,_,_,_,_,_,_,_,_]) rfl rfl (fun hs58 => ?_) (fun hs58 => ?_)
       ·
        replace hm := iteT hm hs58
        refine wl_loadH 7 0 rfl rfl rfl (freshS_eq rfl) rfl rfl rfl (cs := [_,_,_]) rfl tS_27 tA_27 rfl rfl (wl_buildSlice rfl rfl rfl (freshS_eq rfl) rfl tE_22 tS_27 tZ_27 rfl (zs := [.int .i64 0, .int .i64 0, .slice none 0 0]) (by kernel_rfl) rfl (out := [_,_,_]) rfl (fun g60 => (wl_loadH 1 0 rfl rfl rfl (freshS_eq rfl) rfl rfl rfl (cs := [_,_,_]) rfl tS_27 tA_27 rfl rfl (wl_buildSlice rfl rfl rfl (freshS_eq rfl) rfl tE_22 tS_27 tZ_27 rfl (zs := [.int .i64 0, .int .i64 0, .slice none 0 0]) (by kernel_rfl) rfl (out := [_,_,_]) rfl (fun g62 => (wl_buildSlice rfl rfl rfl (freshS_eq rfl) rfl tE_46 tS_22 tZ_22 rfl (zs := [.slice none 0 0, .slice none 0 0]) (by kernel_rfl) rfl (out := [_,_]) rfl (fun g63 => (wl_row (sz := 3) (m := 1) T_FactD.pair ([((⟨v33_0, v33_1, v33_2⟩ : FactD), (p33_0, c33_1))]) 2 rfl (fun F w hφ => ⟨[.int .i64 v33_0, .int .i64 v33_1, .slice p33_0 v33_2.length c33_1],[], rfl, rfl, rfl, rfl⟩) rfl (by decide) (H' := [_,_,_,_,_,_,_,_,_,_,_,_,_,_]) rfl (wl_sh [bagF T_FactD [] none, _,_,_,_,_,_,_,_,_,_,_,_,_,_] (fun _ h => h.bagNil T_FactD) (wl_pick [12,0,1,2,3,4,5,6,7,8,9,10,11,13,14] rfl (H' := [_,_,_,_,_,_,_,_,_,_,_,_,_,_,_]) rfl (wl_sh [bagF T_FactD ([((⟨v33_0, v33_1, v33_2⟩ : FactD), (p33_0, c33_1))]) none, _,_,_,_,_,_,_,_,_,_,_,_,_] (fun _ h => Holds.bagPush (T := T_FactD) (x := (⟨v33_0, v33_1, v33_2⟩ : FactD)) (r := (p33_0, c33_1)) (zs := []) (H := [_,_,_,_,_,_,_,_,_,_,_,_,_,_]) h 0 rfl) (wl_sh [_,_, treeF T_FactD 27 3 (.slice (some ⟨g60,0, none⟩) 1 1) ([(⟨v33_0, v33_1, v33_2⟩ : FactD)]), _,_,_,_,_,_,_,_,_,_] (fun _ h => h.treeIn 3 0 rfl rfl rfl rfl) (wl_treeLen 2 rfl (fun hzt4 _ => (wl_at 3 (v' := .slice (some ⟨g60,0, none⟩) ([(⟨v33_0, v33_1, v33_2⟩ : FactD)].length) 1) rfl (by rw [hzt4]) (wl_hAs 0 (φ' := .blk g63 [.slice (some ⟨g60,0, none⟩) ([(⟨v33_0, v33_1, v33_2⟩ : FactD)].length) 1, .slice (some ⟨g62,0, none⟩) 1 1] 22) rfl (by rw [hzt4]) (H' := [_,_,_,_,_,_,_,_,_,_,_,_,_]) rfl (wl_hAs 2 (φ' := treeF T_FactD 27 3 (.slice (some ⟨g60,0, none⟩) ([(⟨v33_0, v33_1, v33_2⟩ : FactD)].length) 1) ([(⟨v33_0, v33_1, v33_2⟩ : FactD)])) rfl (by rw [hzt4]) (H' := [_,_,_,_,_,_,_,_,_,_,_,_,_]) rfl ?_)))))))))))))))))
        refine wl_ownLen 4 rfl (fun hzc47_2 _ => ?_)
        subst hzc47_2
        refine wl_row (sz := 3) (m := 1) T_FactD.pair ([((⟨v47_0, v47_1, v47_2⟩ : FactD), (p47_0, c47_1))]) 1 rfl (fun F w hφ => ⟨[.int .i64 v47_0, .int .i64 v47_1, .slice p47_0 v47_2.length c47_1],[], rfl, rfl, rfl, rfl⟩) rfl (by decide) (H' := [_,_,_,_,_,_,_,_,_,_,_,_,_]) rfl (wl_sh [bagF T_FactD [] none, _,_,_,_,_,_,_,_,_,_,_,_,_] (fun _ h => h.bagNil T_FactD) (wl_pick [5,0,1,2,3,4,6,7,8,9,10,11,12,13] rfl (H' := [_,_,_,_,_,_,_,_,_,_,_,_,_,_]) rfl (wl_sh [bagF T_FactD ([((⟨v47_0, v47_1, v47_2⟩ : FactD), (p47_0, c47_1))]) none, _,_,_,_,_,_,_,_,_,_,_,_] (fun _ h => Holds.bagPush (T := T_FactD) (x := (⟨v47_0, v47_1, v47_2⟩ : FactD)) (r := (p47_0, c47_1)) (zs := []) (H := [_,_,_,_,_,_,_,_,_,_,_,_,_]) h 0 rfl) (wl_sh [_, treeF T_FactD 27 3 (.slice (some ⟨g62,0, none⟩) 1 1) ([(⟨v47_0, v47_1, v47_2⟩ : FactD)]), _,_,_,_,_,_,_,_,_,_] (fun _ h => h.treeIn 2 0 rfl rfl rfl rfl) (wl_treeLen 1 rfl (fun hzt5 _ => (wl_at 1 (v' := .slice (some ⟨g62,0, none⟩) ([(⟨v47_0, v47_1, v47_2⟩ : FactD)].length) 1) rfl (by rw [hzt5]) (wl_hAs 0 (φ' := .blk g63 [.slice (some ⟨g60,0, none⟩) ([(⟨v33_0, v33_1, v33_2⟩ : FactD)].length) 1, .slice (some ⟨g62,0, none⟩) ([(⟨v47_0, v47_1, v47_2⟩ : FactD)].length) 1] 22) rfl (by rw [hzt5]) (H' := [_,_,_,_,_,_,_,_,_,_,_,_]) rfl (wl_hAs 1 (φ' := treeF T_FactD 27 3 (.slice (some ⟨g62,0, none⟩) ([(⟨v47_0, v47_1, v47_2⟩ : FactD)].length) 1) ([(⟨v47_0, v47_1, v47_2⟩ : FactD)])) rfl (by rw [hzt5]) (H' := [_,_,_,_,_,_,_,_,_,_,_,_]) rfl (wl_row (sz := 1) (m := 2) T_l_FactD.pair ([([(⟨v33_0, v33_1, v33_2⟩ : FactD)], (some (⟨g60,0, none⟩ : Addr), 1)), ([(⟨v47_0, v47_1, v47_2⟩ : FactD)], (some (⟨g62,0, none⟩ : Addr), 1))]) 0 rfl (fun F w hφ => ⟨[.slice (some ⟨g60,0, none⟩) ([(⟨v33_0, v33_1, v33_2⟩ : FactD)].length) 1],[.slice (some ⟨g62,0, none⟩) ([(⟨v47_0, v47_1, v47_2⟩ : FactD)].length) 1], rfl, rfl, rfl, ⟨[.slice (some ⟨g62,0, none⟩) ([(⟨v47_0, v47_1, v47_2⟩ : FactD)].length) 1],[], rfl, rfl, rfl, rfl⟩⟩) rfl (by decide) (H' := [_,_,_,_,_,_,_,_,_,_,_,_]) rfl (wl_sh [bagF T_l_FactD [] none, _,_,_,_,_,_,_,_,_,_,_,_] (fun _ h => h.bagNil T_l_FactD) (wl_pick [3,0,1,2,4,5,6,7,8,9,10,11,12] rfl (H' := [_,_,_,_,_,_,_,_,_,_,_,_,_]) rfl (wl_sh [bagF T_l_FactD ([([(⟨v33_0, v33_1, v33_2⟩ : FactD)], (some (⟨g60,0, none⟩ : Addr), 1))]) none, _,_,_,_,_,_,_,_,_,_,_] (fun _ h => Holds.bagPush (T := T_l_FactD) (x := [(⟨v33_0, v33_1, v33_2⟩ : FactD)]) (r := (some (⟨g60,0, none⟩ : Addr), 1)) (zs := []) (H := [_,_,_,_,_,_,_,_,_,_,_,_]) h 0 rfl) (wl_pick [2,0,1,3,4,5,6,7,8,9,10,11] rfl (H' := [_,_,_,_,_,_,_,_,_,_,_,_]) rfl ?_))))))))))))))
        refine wl_sh [bagF T_l_FactD (([([(⟨v33_0, v33_1, v33_2⟩ : FactD)], (some (⟨g60,0, none⟩ : Addr), 1))]) ++ [([(⟨v47_0, v47_1, v47_2⟩ : FactD)], (some (⟨g62,0, none⟩ : Addr), 1))]) none, _,_,_,_,_,_,_,_,_,_] (fun _ h => Holds.bagPush (T := T_l_FactD) (x := [(⟨v47_0, v47_1, v47_2⟩ : FactD)]) (r := (some (⟨g62,0, none⟩ : Addr), 1)) (zs := [([(⟨v33_0, v33_1, v33_2⟩ : FactD)], (some (⟨g60,0, none⟩ : Addr), 1))]) (H := [_,_,_,_,_,_,_,_,_,_,_]) h 0 rfl) (wl_hAs 0 (φ' := bagF T_l_FactD ([([(⟨v33_0, v33_1, v33_2⟩ : FactD)], (some (⟨g60,0, none⟩ : Addr), 1)), ([(⟨v47_0, v47_1, v47_2⟩ : FactD)], (some (⟨g62,0, none⟩ : Addr), 1))]) none) rfl rfl (H' := [_,_,_,_,_,_,_,_,_,_,_]) rfl (wl_sh [treeF T_l_FactD 22 1 (.slice (some ⟨g63,0, none⟩) 2 2) ([[(⟨v33_0, v33_1, v33_2⟩ : FactD)],[(⟨v47_0, v47_1, v47_2⟩ : FactD)]]), _,_,_,_,_,_,_,_,_] (fun _ h => h.treeIn 1 0 rfl rfl rfl rfl) (wl_treeLen 0 rfl (fun hzt6 _ => (wl_at 0 (v' := .slice (some ⟨g63,0, none⟩) ([[(⟨v33_0, v33_1, v33_2⟩ : FactD)],[(⟨v47_0, v47_1, v47_2⟩ : FactD)]].length) 2) rfl (by rw [hzt6]) (wl_hAs 0 (φ' := treeF T_l_FactD 22 1 (.slice (some ⟨g63,0, none⟩) ([[(⟨v33_0, v33_1, v33_2⟩ : FactD)],[(⟨v47_0, v47_1, v47_2⟩ : FactD)]].length) 2) ([[(⟨v33_0, v33_1, v33_2⟩ : FactD)],[(⟨v47_0, v47_1, v47_2⟩ : FactD)]])) rfl (by rw [hzt6]) (H' := [_,_,_,_,_,_,_,_,_,_]) rfl ?_))))))
        obtain ⟨hap64, hm⟩ := gd_some hm
        refine wl_treeOut 0 rfl (fun zz64 hzz64 => (wC [1,0] [2,3,4,5,6,7,8,9,10] rfl fn_16 rfl (ap_ApartFacts (some ⟨g63,0, none⟩) ([[(⟨v33_0, v33_1, v33_2⟩ : FactD)],[(⟨v47_0, v47_1, v47_2⟩ : FactD)]].length) 2 zz64 (by rw [pair_len hzz64]) (by rw [pair_len hzz64]; exact hap64.1) (fun z hz => hap64.2 z.1 (by rw [← hzz64]; exact List.mem_map_of_mem hz))) (asK [] rfl) rfl (H' := [_,_,_,_,_,_,_,_,_]) rfl ?_))
        rintro _ _ _ ⟨r6_64, r7_64, rfl, rfl, rfl⟩
        refine wl_drop 0 rfl (H' := [_,_,_,_,_,_,_,_,_,_]) rfl (wl_drop 0 rfl (H' := [_,_,_,_,_,_,_,_,_]) rfl (wP rfl (wP rfl (wl_nil (we_block_normal ?_)))))
        have hE := (Option.some.inj hm).symm
        refine we_pick [7,8,1,2,4,5] rfl (H' := [_,_,_,_,_,_]) rfl ?_
        refine we_join (true, l0, a1, l2, a3, qp1, qc3, qn2, qp5, qc7, qn6) hE [7,5,8] rfl (asK [1] rfl) rfl
       ·
        replace hm := iteF hm hs58
        refine wO rfl (wO rfl (wO rfl (wO rfl (wO rfl (wO rfl (wP rfl (wP rfl (wl_nil (we_block_normal ?_)))))))))
        have hE := (Option.some.inj hm).symm
        refine we_pick [9,10,2,3,5,6] rfl (H' := [_,_,_,_,_,_]) rfl ?_
        refine we_join (false, l0, a1, l2, a3, qp1, qc3, qn2, qp5, qc7, qn6) hE [7,5,8] rfl (asK [1] rfl) rfl
      ·
       replace hm := iteF hm hs53
       refine wO rfl (wO rfl (wO rfl (wP rfl (wP rfl (wO rfl (wO rfl (wO rfl (wO rfl (wO rfl (wO rfl (wP rfl (wP rfl (wl_nil ?_)))))))))))))
       refine we_block_normal ?_
       have hE := (Option.some.inj hm).symm
       refine we_pick [9,10,2,3,5,6] rfl (H' := [_,_,_,_,_,_]) rfl ?_
       refine we_join (false, l0, a1, l2, a3, qp1, qc3, qn2, qp5, qc7, qn6) hE [7,5,8] rfl (asK [1] rfl) rfl
 ·
  rintro ⟨j_1_8, j_1_r0_f0_l, j_1_r0_f1, j_1_r2_f0_l, j_1_r2_f1, j_1_r0_f0_p, j_1_r0_f0_c, j_1_r0_f0_n, j_1_r2_f0_p, j_1_r2_f0_c, j_1_r2_f0_n⟩ hE
  try dsimp only
  have hm := hLj_1
  rw [hE] at hm
  try dsimp only at hm
  refine wc_seq ?_
  obtain ⟨bj_3, hm, hLj_3⟩ := bindO_some hm
  refine wc_cut (σ := Bool) (fun j_3_8 => bj_3 = j_3_8) (fun j_3_8 => [(7, .slice p25_0 l7.length c25_1), (8, .bool j_3_8)]) (fun j_3_8 => []) (fun j_3_8 => [.own 51 3 R_V (.slice p25_0 c25_2 c25_1) v25, .blk qg0 [.slice j_1_r0_f0_p j_1_r0_f0_n j_1_r0_f0_c, .int .i64 j_1_r0_f1] 61, .own 27 3 R_FactD (.slice j_1_r0_f0_p j_1_r0_f0_n j_1_r0_f0_c) j_1_r0_f0_l, .blk qg4 [.slice j_1_r2_f0_p j_1_r2_f0_n j_1_r2_f0_c, .int .i64 j_1_r2_f1] 63, .own 27 3 R_FactD (.slice j_1_r2_f0_p j_1_r2_f0_n j_1_r2_f0_c) j_1_r2_f0_l]) ?_ ?_
  ·
   refine wc_region (wP rfl (wP rfl ?_))
   refine wl_split (d := 134) (S' := [_,_,_,_]) rfl rfl (fun hs134 => ?_) (fun hs134 => ?_)
   ·
    replace hm := iteT hm hs134
    refine wP rfl (wF rfl tF_41_3 (wD 1 3 rfl tS_25 tA_25 rfl (wl_ownLen 0 rfl (fun hzc25_2 _ => ?_))))
    subst hzc25_2
    obtain ⟨v138, hc138, hm⟩ := bindO_some hm
    refine wl_lend [] [0,1,2,3,4,5] [0] rfl rfl rfl (freshS_eq rfl) rfl rfl fn_42 rfl (w_ropewalkkit_KeptValues_W_s N p25_0 c25_1 v25 l7.length qp8 qc9 l7 _ hc138) (fun F w hφ hh => (ask_cons (own_sli (hh _ (mem_at (k := 0) rfl))) (ask_cons (hφ _ (mem_at (k := 0) rfl)) ask_nil))) (fun _ _ _ hR => by obtain ⟨rfl, rfl, rfl⟩ := hR; exact ⟨rfl, (fun _ h => free_nil h)⟩) rfl rfl (H' := [_,_,_,_,_,_]) rfl ?_
    rintro _ _ _ ⟨rfl, rfl, rfl⟩
    refine wP rfl (wl_pure (S' := [_,_,_,_,_,_,_,_,_]) rfl rfl rfl rfl rfl (wl_nil ?_))
    have hE := (Option.some.inj hm).symm
    refine we_pick [0,2,3,4,5] rfl (H' := [_,_,_,_,_]) rfl ?_
    refine we_join v138 hE [7,8] rfl (asK [] rfl) rfl
   ·
    replace hm := iteF hm hs134
    refine wO rfl (wO rfl (wO rfl (wO rfl (wP rfl (wl_pure (S' := [_,_,_,_,_,_,_,_,_]) rfl rfl rfl rfl rfl (wl_nil ?_))))))
    have hE := (Option.some.inj hm).symm
    refine we_pick [0,2,3,4,5] rfl (H' := [_,_,_,_,_]) rfl ?_
    refine we_join false hE [7,8] rfl (asK [] rfl) rfl
  ·
   rintro j_3_8 hE
   try dsimp only
   have hm := hLj_3
   rw [hE] at hm
   refine wc_seq (wc_region (wP rfl (wl_ownLen 0 rfl (fun hzc25_2 _ => ?_))))
   subst hzc25_2
   obtain ⟨v141, hc141, hm⟩ := bindO_some hm
   refine wC [0] [1,2,3,4] rfl fn_43 rfl (w_ropewalkkit_OverValues_V_s N p25_0 v25.length c25_1 v25 l7.length _ hc141) (asK [] rfl) rfl (H' := [_,_,_,_]) rfl ?_
   rintro _ _ _ ⟨rfl, rfl, rfl⟩
   refine wl_nil (we_then (wc_keep [8] (S' := [_]) rfl (wc_seq (wc_region (wP rfl (wP rfl (wl_nil (we_then (wc_keep [6] (S' := [_]) rfl (wc_ret ?_))))))))))
   have hE := (Option.some.inj hm).symm
   obtain ⟨hE0, hF1⟩ := Prod.mk.inj hE
   obtain ⟨hE1, hF2⟩ := Prod.mk.inj hF1
   obtain ⟨hE2, hF3⟩ := Prod.mk.inj hF2
   obtain ⟨hE3, hE4⟩ := Prod.mk.inj hF3
   clear hE hF1 hF2 hF3
   replace hE0 := hE0.symm
   subst hE0
   replace hE1 := hE1.symm
   subst hE1
   replace hE2 := hE2.symm
   subst hE2
   replace hE3 := hE3.symm
   subst hE3
   replace hE4 := hE4.symm
   subst hE4
   refine ret_one (Hr := [_,_,_,_]) [1,2,3,4] Tryz.results13 (res_tmp rfl) ⟨j_1_r0_f0_p, j_1_r0_f0_c, j_1_r0_f0_n, j_1_r2_f0_p, j_1_r2_f0_c, j_1_r2_f0_n, rfl, rfl, rfl⟩ (asK [] rfl) rfl rfl (.inl rfl)
theorem w_ropewalkkit_SameFacts_s (N : Nat) (qp0 : Option Addr) (qc1 : Nat) (l0 : List FactD) (qp2 : Option Addr) (qc3 : Nat) (l1 : List FactD) (o0 : Bool) (hm : m_ropewalkkit_SameFacts N l0 l1 = some o0) : Spec Tryz.prog 44 [.slice qp0 l0.length qc1, .slice qp2 l1.length qc3] [.sli 3 R_FactD qp0 qc1 l0, .sli 3 R_FactD qp2 qc3 l1] [] (fun v Φr Hr => v = .bool o0 ∧ Φr = [] ∧ Hr = []) := by
 unfold m_ropewalkkit_SameFacts at hm
 refine spec_of Tryz.func44 rfl Tryz.ntmps44 rfl (S := [_,_]) rfl (fun C => (wc_seq (wc_region (wP rfl (wl_nil (we_then (wc_keep [0,1] (S' := [_,_]) rfl (wc_seq (wc_seq (wc_region (wP rfl (wN rfl tE_22 (wP rfl (wN rfl tE_22 ?_))))))))))))))
 refine wP rfl (wl_as (d := 10) (v' := .bool (l0.length != l1.length)) (S' := [_,_,_,_,_,_]) rfl rfl (natne (a := l0.length) (b := l1.length)) (wl_nil (we_then (wc_keep [10,0,1] (S' := [_,_,_]) rfl ?_))))
 refine wc_cond rfl (fun hb10 => ?_) (fun hb10 => ?_)
 ·
  replace hm := iteT hm hb10
  refine wc_keep [] (S' := []) rfl (wc_seq (wc_region (wP rfl (wl_nil (we_then (wc_ret (we_then_ret ?_)))))))
  have hE := (Option.some.inj hm).symm
  replace hE := hE.symm
  subst hE
  refine ret_one (Hr := []) [] Tryz.results44 (res_tmp rfl) ⟨rfl, rfl, rfl⟩ (asK [] rfl) rfl rfl (.inl rfl)
 ·
  replace hm := iteF hm hb10
  refine wc_keep [0,1] (S' := [_,_]) rfl (wc_skip (we_then (wc_seq ?_)))
  obtain ⟨bj_1, hm, hLj_1⟩ := bindS_some hm
  refine wc_cut (σ := Unit) (fun _ => bj_1 = .inl ()) (fun _ => []) (fun _ => []) (fun _ => []) ?_ ?_
  ·
   refine wc_seq (wc_region (wP rfl (wl_nil (we_then (wc_block (wc_loop (σ := Nat × Nat) (fun (nu1, u1_5) => iter (m_ropewalkkit_SameFacts_L1 N l0 l1) nu1 u1_5 = some bj_1) (fun (nu1, u1_5) => nu1) (fun (nu1, u1_5) => [(5, .int .i64 ((u1_5 : Nat) : Int)), (0, .slice qp0 l0.length qc1), (1, .slice qp2 l1.length qc3)]) (fun (nu1, u1_5) => [.sli 3 R_FactD qp0 qc1 l0, .sli 3 R_FactD qp2 qc3 l1]) (fun (nu1, u1_5) => []) (N, 0) hm [5,0,1] rfl (asK [0,1] rfl) rfl (fun s_ hm => ?_)))))))
   obtain ⟨nu1, u1_5⟩ := s_
   try dsimp only at hm ⊢
   obtain ⟨mu1, bu1, hnu1, hq, hLu1⟩ := iter_some hm
   clear hm
   subst hnu1
   replace hm := hq
   clear hq
   unfold m_ropewalkkit_SameFacts_L1 at hm
   try dsimp only at hm
   refine wc_seq (wc_seq (wc_region (wP rfl (wP rfl (wN rfl tE_22 (wP rfl (wl_as (d := 14) (v' := .bool (decide (u1_5 < l0.length))) (S' := [_,_,_,_,_,_]) rfl rfl (natlt (a := u1_5) (b := l0.length)) (wl_nil (we_then (wc_keep [14,5,0,1] (S' := [_,_,_,_]) rfl ?_))))))))))
   refine wc_cond rfl (fun hb14 => ?_) (fun hb14 => ?_)
   ·
    replace hm := iteT hm hb14
    refine wc_keep [5,0,1] (S' := [_,_,_]) rfl (wc_skip (we_then (wc_seq (wc_block (wc_seq ?_)))))
    obtain ⟨x19, hx19, hm⟩ := bindO_some hm
    obtain ⟨x23, hx23, hm⟩ := bindO_some hm
    obtain ⟨v25, hc25, hm⟩ := bindO_some hm
    refine wc_draw [0,1,2,3,4,5,6,7,9] rfl rfl (fun hok => (xP hok 0 rfl (xP hok 1 rfl (wx_indexA hok 2 0 u1_5 rfl rfl rfl (freshS_eq rfl) rfl rfl rfl rfl rfl rfl hx19 tE_22 tS_27 (fun b19 q19 cs19 hlx19 => (wx_openR R_FactD_opens 1 rfl (fun r19 er19 _ => ?_)))))))
    subst er19
    refine wx_load hok 3 1 0 rfl rfl rfl (freshS_eq rfl) rfl rfl rfl rfl (cs := [_,_,_]) rfl tS_27 tA_27 rfl rfl (xP hok 4 rfl (xP hok 5 rfl (wx_indexA hok 6 4 u1_5 rfl rfl rfl (freshS_eq rfl) rfl rfl rfl rfl rfl rfl hx23 tE_22 tS_27 (fun b23 q23 cs23 hlx23 => (wx_openR R_FactD_opens 1 rfl (fun r23 er23 _ => ?_))))))
    subst er23
    refine wx_load hok 7 1 0 rfl rfl rfl (freshS_eq rfl) rfl rfl rfl rfl (cs := [_,_,_]) rfl tS_27 tA_27 rfl rfl (xS hok 8 rfl (wC [] [] rfl fn_32 rfl (w_ropewalkkit_SameFact_s N x19.id x19.ty r19.1 r19.2 x19.args x23.id x23.ty r23.1 r23.2 x23.args _ hc25) (asK [3,0] rfl) rfl (H' := []) rfl ?_))
    rintro _ _ _ ⟨rfl, rfl, rfl⟩
    refine wl_nil (we_x [0,1,2,3,4,5,6,7] [] rfl rfl (xP hok 9 rfl (wx_done hok rfl (we_then (wc_keep [26,5,0,1] (S' := [_,_,_,_]) rfl ?_)))))
    refine wc_cond rfl (fun hb26 => ?_) (fun hb26 => ?_)
    ·
     replace hm := iteT hm hb26
     refine wc_keep [] (S' := []) rfl (wc_seq (wc_region (wP rfl (wl_nil (we_then (wc_ret (we_block_ret (we_then_ret (we_then_ret (we_block_ret (we_then_ret ?_)))))))))))
     have hE := (Option.some.inj hm).symm
     replace hE := link_inr hLu1 hE
     replace hE := link_inr hLj_1 hE
     replace hE := hE.symm
     subst hE
     refine ret_one (Hr := []) [] Tryz.results44 (res_tmp rfl) ⟨rfl, rfl, rfl⟩ (asK [] rfl) rfl rfl (.inl rfl)
    ·
     replace hm := iteF hm hb26
     refine wc_keep [5,0,1] (S' := [_,_,_]) rfl (wc_skip (we_block_normal (we_then (wc_region (wP rfl (wP rfl ?_))))))
     obtain ⟨hg16, hm⟩ := gd_some hm
     refine wl_as (d := 16) (v' := .int .i64 ((u1_5 + 1 : Nat) : Int)) (S' := [_,_,_,_]) rfl rfl (nat_add (a := u1_5) (b := 1) hg16) (wl_pure (S' := [_,_,_,_]) rfl rfl rfl rfl rfl (wl_nil ?_))
     have hE := (Option.some.inj hm).symm
     replace hE := link_inl hLu1 hE
     refine we_roundK (_, u1_5 + 1) (Nat.lt_succ_self _) hE [5,0,1] rfl (asK [6,7] rfl) rfl
   ·
    replace hm := iteF hm hb14
    refine wc_keep [] (S' := []) rfl (wc_exit (we_then_exit (we_then_exit (we_block_hit ?_))))
    have hE := (Option.some.inj hm).symm
    replace hE := link_inr hLu1 hE
    refine we_join () hE [] rfl (asK [] rfl) rfl
  ·
   rintro _ hE
   try dsimp only
   have hm := link_inl hLj_1 hE
   try dsimp only at hm
   refine wc_seq (wc_region (wP rfl (wl_nil (we_then (wc_ret ?_)))))
   have hE := (Option.some.inj hm).symm
   replace hE := hE.symm
   subst hE
   refine ret_one (Hr := []) [] Tryz.results44 (res_tmp rfl) ⟨rfl, rfl, rfl⟩ (asK [] rfl) rfl rfl (.inl rfl)
theorem w_ropewalklaw11_alike_s (N : Nat) (qg0 : Nat) (qp1 : Option Addr) (qn2 : Nat) (qc3 : Nat) (l0 : List FactD) (a1 : Int) (qg4 : Nat) (qp5 : Option Addr) (qn6 : Nat) (qc7 : Nat) (l2 : List FactD) (a3 : Int) (o0 : Bool) (hm : m_ropewalklaw11_alike N l0 a1 l2 a3 = some o0) : Spec Tryz.prog 14 [.pointer (some ⟨qg0,0, none⟩), .pointer (some ⟨qg4,0, none⟩)] [] [.blk qg0 [.slice qp1 qn2 qc3, .int .i64 a1] 61, .own 27 3 R_FactD (.slice qp1 qn2 qc3) l0, .blk qg4 [.slice qp5 qn6 qc7, .int .i64 a3] 63, .own 27 3 R_FactD (.slice qp5 qn6 qc7) l2] (fun v Φr Hr => v = .bool o0 ∧ Φr = [] ∧ Hr = [.blk qg0 [.slice qp1 qn2 qc3, .int .i64 a1] 61, .own 27 3 R_FactD (.slice qp1 qn2 qc3) l0, .blk qg4 [.slice qp5 qn6 qc7, .int .i64 a3] 63, .own 27 3 R_FactD (.slice qp5 qn6 qc7) l2]) := by
 unfold m_ropewalklaw11_alike at hm
 refine spec_of Tryz.func14 rfl Tryz.ntmps14 rfl (S := [_,_]) rfl (fun C => (wc_seq (wc_region (wP rfl (wl_nil (we_then (wc_keep [0,1] (S' := [_,_]) rfl (wc_seq ?_))))))))
 obtain ⟨v6, hc6, hm⟩ := bindO_some hm
 rcases ite_some hm with ⟨hs12, hm⟩ | ⟨hs12, hm⟩
 ·
  obtain ⟨v14, hc14, hm⟩ := bindO_some hm
  rcases ite_some hm with ⟨hs22, hm⟩ | ⟨hs22, hm⟩
  ·
   obtain ⟨v24, hc24, hm⟩ := bindO_some hm
   obtain ⟨v29, hc29, hm⟩ := bindO_some hm
   refine wc_draw [0,2,3,4,5,6,7,8,10,11,12,13,14,15,16,17,18,20,21,22,23,25] rfl rfl (fun hok => (xP hok 0 rfl (xP hok 2 rfl (xP hok 3 rfl (wx_fieldAddr hok 4 rfl rfl rfl (freshS_eq rfl) rfl rfl rfl tF_63_1 (wx_loadH hok 5 2 1 rfl rfl rfl (freshS_eq rfl) rfl rfl rfl rfl (cs := [_]) rfl tS_3 tA_3 rfl rfl (xS hok 1 rfl (wC [0,1] [2,3] rfl fn_23 rfl (w_memory_Memory_Next_s N qg0 qp1 qn2 qc3 l0 a1 _ hc6) (asK [] rfl) rfl (H' := [_,_]) rfl ?_))))))))
   rintro _ _ _ ⟨rfl, rfl, rfl⟩
   refine wl_nil (we_x [] [2] rfl rfl (xP hok 6 rfl (xP hok 7 rfl (wx_as (d := 12) (v' := .bool true) (S' := [_,_,_,_,_,_,_,_,_]) rfl rfl (bool_is hs12) (xP hok 8 rfl (xP hok 10 rfl (xP hok 11 rfl (wx_fieldAddr hok 12 rfl rfl rfl (freshS_eq rfl) rfl rfl rfl tF_63_0 (wx_loadH hok 13 2 0 rfl rfl rfl (freshS_eq rfl) rfl rfl rfl rfl (cs := [_]) rfl tS_22 tA_22 rfl rfl (wx_ownLen 3 rfl (fun hl19 _ => (wx_len hok 14 rfl rfl rfl (freshS_eq rfl) rfl rfl rfl tE_22 (wx_as (d := 19) (v' := .int .i64 ((l2.length : Nat) : Int)) (S' := [_,_,_,_,_,_,_,_,_,_,_,_,_,_,_]) rfl rfl (len_is hl19) (xS hok 9 rfl ?_))))))))))))))
   refine wC [0,1] [2,3] rfl fn_22 rfl (w_memory_Memory_Len_s N qg0 qp1 qn2 qc3 l0 a1 _ hc14) (asK [] rfl) rfl (H' := [_,_]) rfl ?_
   rintro _ _ _ ⟨rfl, rfl, rfl⟩
   refine wl_nil (we_x [] [2,2] rfl rfl (xP hok 15 rfl (wx_as (d := 20) (v' := .bool (v14 == l2.length)) (S' := [_,_,_,_,_,_,_,_,_,_,_,_,_,_,_,_,_]) rfl rfl (nateq (a := v14) (b := l2.length)) (xP hok 16 rfl (xP hok 17 rfl (wx_as (d := 22) (v' := .bool true) (S' := [_,_,_,_,_,_,_,_,_,_,_,_,_,_,_,_,_,_,_]) rfl rfl (bool_is hs22) (xP hok 18 rfl (xP hok 20 rfl (xP hok 21 rfl (wx_fieldAddr hok 22 rfl rfl rfl (freshS_eq rfl) rfl rfl rfl tF_63_0 (wx_loadH hok 23 2 0 rfl rfl rfl (freshS_eq rfl) rfl rfl rfl rfl (cs := [_]) rfl tS_22 tA_22 rfl rfl (xS hok 19 rfl (wC [0,1] [2,3] rfl fn_15 rfl (w_memory_Memory_All_s N qg0 qp1 qn2 qc3 l0 a1 _ hc24) (asK [] rfl) rfl (H' := [_,_]) rfl ?_)))))))))))))
   rintro _ _ _ ⟨p24_0, c24_1, c24_2, rfl, rfl, rfl⟩
   refine wl_nil (we_x [] [3,3,3] rfl rfl (xS hok 24 rfl (wl_treeLen 0 rfl (fun hzt4 _ => ?_))))
   subst hzt4
   refine wl_ownLen 4 rfl (fun hzqn6 _ => ?_)
   subst hzqn6
   refine wl_lend [] [0,1,2,3,4] [0,4] rfl rfl rfl (freshS_eq rfl) rfl rfl fn_44 rfl (w_ropewalkkit_SameFacts_s N p24_0 c24_1 v24 qp5 qc7 l2 _ hc29) (fun F w hφ hh => (ask_cons (tree_sli T_FactD_lend (hh _ (mem_at (k := 0) rfl)) (fun _ h => h) (fun _ h => h)) (ask_cons (own_sli (hh _ (mem_at (k := 1) rfl))) ask_nil))) (fun _ _ _ hR => by obtain ⟨rfl, rfl, rfl⟩ := hR; exact ⟨rfl, (fun _ h => free_nil h)⟩) rfl rfl (H' := [_,_,_,_,_]) rfl ?_
   rintro _ _ _ ⟨rfl, rfl, rfl⟩
   refine wl_nil (we_x [] [3,3] rfl rfl (xP hok 25 rfl (xS hok 26 rfl (wP rfl (wl_nil (we_x [] [] rfl rfl (wx_done hok rfl (we_then (wc_keep [4] (S' := [_]) rfl (wc_ret ?_))))))))))
   have hE := (Option.some.inj hm).symm
   replace hE := hE.symm
   subst hE
   refine ret_one (Hr := [_,_,_,_]) [1,2,3,4] Tryz.results14 (res_tmp rfl) ⟨rfl, rfl, rfl⟩ (asK [] rfl) rfl rfl (.inl rfl)
  ·
   refine wc_draw [0,2,3,4,5,6,7,8,10,11,12,13,14,15,16,17,18,20,21,22,23,25] rfl rfl (fun hok => (xP hok 0 rfl (xP hok 2 rfl (xP hok 3 rfl (wx_fieldAddr hok 4 rfl rfl rfl (freshS_eq rfl) rfl rfl rfl tF_63_1 (wx_loadH hok 5 2 1 rfl rfl rfl (freshS_eq rfl) rfl rfl rfl rfl (cs := [_]) rfl tS_3 tA_3 rfl rfl (xS hok 1 rfl (wC [0,1] [2,3] rfl fn_23 rfl (w_memory_Memory_Next_s N qg0 qp1 qn2 qc3 l0 a1 _ hc6) (asK [] rfl) rfl (H' := [_,_]) rfl ?_))))))))
   rintro _ _ _ ⟨rfl, rfl, rfl⟩
   refine wl_nil (we_x [] [2] rfl rfl (xP hok 6 rfl (xP hok 7 rfl (wx_as (d := 12) (v' := .bool true) (S' := [_,_,_,_,_,_,_,_,_]) rfl rfl (bool_is hs12) (xP hok 8 rfl (xP hok 10 rfl (xP hok 11 rfl (wx_fieldAddr hok 12 rfl rfl rfl (freshS_eq rfl) rfl rfl rfl tF_63_0 (wx_loadH hok 13 2 0 rfl rfl rfl (freshS_eq rfl) rfl rfl rfl rfl (cs := [_]) rfl tS_22 tA_22 rfl rfl (wx_ownLen 3 rfl (fun hl19 _ => (wx_len hok 14 rfl rfl rfl (freshS_eq rfl) rfl rfl rfl tE_22 (wx_as (d := 19) (v' := .int .i64 ((l2.length : Nat) : Int)) (S' := [_,_,_,_,_,_,_,_,_,_,_,_,_,_,_]) rfl rfl (len_is hl19) (xS hok 9 rfl ?_))))))))))))))
   refine wC [0,1] [2,3] rfl fn_22 rfl (w_memory_Memory_Len_s N qg0 qp1 qn2 qc3 l0 a1 _ hc14) (asK [] rfl) rfl (H' := [_,_]) rfl ?_
   rintro _ _ _ ⟨rfl, rfl, rfl⟩
   refine wl_nil (we_x [] [2,2] rfl rfl (xP hok 15 rfl (wx_as (d := 20) (v' := .bool (v14 == l2.length)) (S' := [_,_,_,_,_,_,_,_,_,_,_,_,_,_,_,_,_]) rfl rfl (nateq (a := v14) (b := l2.length)) (xP hok 16 rfl (xP hok 17 rfl (wx_as (d := 22) (v' := .bool false) (S' := [_,_,_,_,_,_,_,_,_,_,_,_,_,_,_,_,_,_,_]) rfl rfl (bool_is hs22) (xO hok 18 rfl (xO hok 20 rfl (xO hok 21 rfl (xO hok 22 rfl (xO hok 23 rfl (xS hok 19 rfl (wO rfl ?_)))))))))))))
   refine wl_nil (we_x [] [2,2] rfl rfl (xS hok 24 rfl (wO rfl (wl_nil (we_x [] [2,2] rfl rfl (xP hok 25 rfl (xS hok 26 rfl (wP rfl (wl_nil (we_x [] [] rfl rfl (wx_done hok rfl (we_then (wc_keep [4] (S' := [_]) rfl ?_)))))))))))))
   refine wc_ret ?_
   have hE := (Option.some.inj hm).symm
   replace hE := hE.symm
   subst hE
   refine ret_one (Hr := [_,_,_,_]) [0,1,2,3] Tryz.results14 (res_tmp rfl) ⟨rfl, rfl, rfl⟩ (asK [] rfl) rfl rfl (.inl rfl)
 ·
  refine wc_draw [0,2,3,4,5,6,7,8,10,11,12,13,14,15,16,17,18,20,21,22,23,25] rfl rfl (fun hok => (xP hok 0 rfl (xP hok 2 rfl (xP hok 3 rfl (wx_fieldAddr hok 4 rfl rfl rfl (freshS_eq rfl) rfl rfl rfl tF_63_1 (wx_loadH hok 5 2 1 rfl rfl rfl (freshS_eq rfl) rfl rfl rfl rfl (cs := [_]) rfl tS_3 tA_3 rfl rfl (xS hok 1 rfl (wC [0,1] [2,3] rfl fn_23 rfl (w_memory_Memory_Next_s N qg0 qp1 qn2 qc3 l0 a1 _ hc6) (asK [] rfl) rfl (H' := [_,_]) rfl ?_))))))))
  rintro _ _ _ ⟨rfl, rfl, rfl⟩
  refine wl_nil (we_x [] [2] rfl rfl (xP hok 6 rfl (xP hok 7 rfl (wx_as (d := 12) (v' := .bool false) (S' := [_,_,_,_,_,_,_,_,_]) rfl rfl (bool_is hs12) (xO hok 8 rfl (xO hok 10 rfl (xO hok 11 rfl (xO hok 12 rfl (xO hok 13 rfl (xO hok 14 rfl (xS hok 9 rfl (wO rfl (wl_nil ?_)))))))))))))
  refine we_x [] [2] rfl rfl (xO hok 15 rfl (xP hok 16 rfl (xP hok 17 rfl (xO hok 18 rfl (xO hok 20 rfl (xO hok 21 rfl (xO hok 22 rfl (xO hok 23 rfl (xS hok 19 rfl (wO rfl (wl_nil (we_x [] [2] rfl rfl (xS hok 24 rfl ?_)))))))))))))
  refine wO rfl (wl_nil (we_x [] [2] rfl rfl (xP hok 25 rfl (xS hok 26 rfl (wP rfl (wl_nil (we_x [] [] rfl rfl (wx_done hok rfl (we_then (wc_keep [4] (S' := [_]) rfl (wc_ret ?_)))))))))))
  have hE := (Option.some.inj hm).symm
  replace hE := hE.symm
  subst hE
  refine ret_one (Hr := [_,_,_,_]) [0,1,2,3] Tryz.results14 (res_tmp rfl) ⟨rfl, rfl, rfl⟩ (asK [] rfl) rfl rfl (.inl rfl)
end Go.Proofs.YthmkahbkhoijbaaGreatDoor
