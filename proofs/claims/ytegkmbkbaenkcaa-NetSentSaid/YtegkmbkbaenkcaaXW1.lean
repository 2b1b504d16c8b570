import Derived.Test.YtegkmbkbaenkcaaXM
import Derived.Test.YtegkmbkbaenkcaaTypesP
import Derived.Test.YtegkmbkbaenkcaaSortM
import Derived.Test.YtegkmbkbaenkcaaSrtA
import Derived.Test.YtegkmbkbaenkcaaMapK
import Derived.Test.YtegkmbkbaenkcaaStr
import Derived.Test.YtegkmbkbaenkcaaView
import Derived.Test.YtegkmbkbaenkcaaMapE
import Derived.Test.YtegkmbkbaenkcaaMapP
import Derived.Test.YtegkmbkbaenkcaaMapG
import Derived.Test.YtegkmbkbaenkcaaMapGS
import Derived.Test.YtegkmbkbaenkcaaText
import Derived.Test.YtegkmbkbaenkcaaLent
import Derived.Lib.AppendZeros
import Derived.Test.YtegkmbkbaenkcaaFlat
import Derived.Test.YtegkmbkbaenkcaaTree
import Derived.Shelf.Small.Bits
import Derived.Shelf.Strconv.Itoa0
import Derived.Test.YtegkmbkbaenkcaaProg
import Derived.Test.YtegkmbkbaenkcaaAuto
import Derived.Test.YtegkmbkbaenkcaaAb
namespace Go.Proofs.Ytegkmbkbaenkcaa
open Go.RowKit
set_option maxRecDepth 100000
set_option maxHeartbeats 4000000
def pairKey57 : MKey Try.prog 57 (Int × Int) where
  enc x := .agg #[.int .i64 x.1, .int .i64 x.2]
  lit x := .string (Go.keyBytes [.int .i64 x.1, .int .i64 x.2])
  ok x := inI x.1 ∧ inI x.2
  law := Maps.Keyed.of_law (Go.deep_law (m := 5) (by decide) (by kernel_rfl) (by kernel_rfl) (by kernel_rfl))
  key x h := pair_key (e := 3) (q := 111) (by kernel_rfl) (by kernel_rfl) (by kernel_rfl) (by kernel_rfl) (by kernel_rfl) (by kernel_rfl) (inI_wf h.1) (inI_wf h.2)
  inj x y h := by
    rcases x with ⟨a, b⟩
    rcases y with ⟨c, d⟩
    simp at h
    rw [h.1, h.2]
theorem tM_50 : Try.prog.underlying 50 = some (.map 57 26) := by kernel_rfl
theorem tZG_26 : tZero Try.prog 26 = some (.slice none 0 0) := by kernel_rfl
theorem guardD_48 (op : BinOp) (x y : Operand) (a b : Array Value) (w : World) : (eqGuard op 48 x y (.agg a) (.agg b)).run Try.prog w = .ok () w := by
  have h : Try.prog.eqGuardType Try.prog.depth 48 = false := by kernel_rfl
  cases op <;> simp [eqGuard, program, Sem.run, h]
theorem eqD_48 (a b c d : Int) (w : World) : (Op.equalIn 10000 48 (.agg #[.int .i64 a, .int .i64 b]) (.agg #[.int .i64 c, .int .i64 d])).run Try.prog w = .ok (a == c && b == d) w := by
  have u3 := Try.underlying3
  have a3 : ∀ w, (isAgg 3).run Try.prog w = .ok false w := fun w => by kernel_rfl
  have z3 : ∀ w, (sizeOf 3).run Try.prog w = .ok 1 w := tSize_run (by kernel_rfl)
  rw [show (10000 : Nat) = 9999 + 1 from rfl, Op.equalIn]
  simp only [Sem.run_bind, run_underlying Try.underlying48, Result.andThen_ok]
  simp only [Std.Legacy.Range.forIn_eq_forIn_range', Std.Legacy.Range.size, Nat.sub_zero, Nat.add_sub_cancel, Nat.div_one, List.range'_succ, List.range'_zero, List.forIn_cons, List.forIn_nil]
  simp [go_sem, z3, a3, u3]
  by_cases h1 : a = c <;> by_cases h2 : b = d <;> simp [h1, h2]
theorem neqD_48 (x y : Operand) (a b c d : Int) (w : World) : (do eqGuard .neq 48 x y (.agg #[.int .i64 a, .int .i64 b]) (.agg #[.int .i64 c, .int .i64 d]); binOp .neq 48 (.agg #[.int .i64 a, .int .i64 b]) (.agg #[.int .i64 c, .int .i64 d]) : Sem Value).run Try.prog w = .ok (.bool (!((a == c) && (b == d)))) w := by
  rw [Sem.run_bind, guardD_48, Result.andThen_ok]
  simp [go_sem, eqD_48]
theorem tD_28 : Try.prog.underlying 28 = some (.slice 5) := by kernel_rfl
theorem tD_5 : Try.prog.underlying 5 = some (.int .u8) := by kernel_rfl
theorem tD_9 : Try.prog.underlying 9 = some .string := by kernel_rfl
theorem w_net_New_s (N : Nat)   (hm : m_net_New N = some ()) : Spec Try.prog 7 [] [] [] (fun v Φr Hr => ∃ (o0 : Nat) (o1 : Nat), v = .pointer (some ⟨o0,0, none⟩) ∧ Φr = [] ∧ Hr = [.blk o0 [.map (some o1)] 54, mapG (keyOfK pairKey57) (Fact.own 28 1 R_l_u8) none o1 ([] : List ((Int × Int) × List (List Int)))]) := by
 unfold m_net_New at hm
 refine spec_of Try.func7 rfl Try.ntmps7 rfl (S := []) rfl (fun C => (wc_seq (wc_region (wP rfl (wl_nil (we_then (wc_keep [] (S' := []) rfl (wc_seq (wc_region (wl_makeG (keyOfK pairKey57) (Fact.own 28 1 R_l_u8) rfl rfl rfl (freshS_eq rfl) rfl (fun g1 => (wl_build rfl rfl rfl (freshS_eq rfl) rfl tZ_52 tP_52 rfl (out := [_]) rfl (wl_build rfl rfl rfl (freshS_eq rfl) rfl tZ_54 tP_54 rfl (out := [_]) rfl (wB rfl (fun g4 => (wP rfl ?_))))))))))))))))
 refine wl_nil (we_then (wc_keep [0] (S' := [_]) rfl (wc_ret ?_)))
 have hE := (Option.some.inj hm).symm
 refine ret_one (Hr := [_,_]) [0,1] Try.results7 (res_tmp rfl) ⟨g4, g1, rfl, rfl, rfl⟩ (asK [] rfl) rfl rfl (.inl rfl)
theorem w_ropewalkkit_Pick_s (N : Nat) (a0 : Int) (a1 : Int) (o0 : Int) (hm : m_ropewalkkit_Pick N a0 a1 = some o0) : Spec Try.prog 8 [.int .i64 a0, .int .i64 a1] [] [] (fun v Φr Hr => v = .int .i64 o0 ∧ Φr = [] ∧ Hr = []) := by
 unfold m_ropewalkkit_Pick at hm
 refine spec_of Try.func8 rfl Try.ntmps8 rfl (S := [_,_]) rfl (fun C => (wc_seq (wc_region (wP rfl (wl_nil (we_then (wc_keep [0,1] (S' := [_,_]) rfl (wc_seq (wc_seq (wc_region (wP rfl (wP rfl (wl_nil (we_then ?_))))))))))))))
 refine wc_keep [6,0,1] (S' := [_,_,_]) rfl ?_
 refine wc_cond rfl (fun hb6 => ?_) (fun hb6 => ?_)
 ·
  replace hm := iteT hm hb6
  refine wc_keep [] (S' := []) rfl (wc_seq (wc_region (wP rfl (wl_nil (we_then (wc_ret (we_then_ret ?_)))))))
  have hE := (Option.some.inj hm).symm
  replace hE := hE.symm
  subst hE
  refine ret_one (Hr := []) [] Try.results8 (res_tmp rfl) ⟨rfl, rfl, rfl⟩ (asK [] rfl) rfl rfl (.inl rfl)
 ·
  replace hm := iteF hm hb6
  refine wc_keep [0,1] (S' := [_,_]) rfl (wc_skip (we_then (wc_seq (wc_region (wP rfl (wP rfl ?_))))))
  obtain ⟨hg9, hm⟩ := gd_some hm
  refine wl_bin rfl rfl rfl (freshS_eq rfl) rfl rfl rfl (run_rem hg9) (wl_pure (S' := [_,_,_,_]) rfl rfl rfl rfl rfl (wl_nil (we_then (wc_keep [0,1] (S' := [_,_]) rfl (wc_seq ?_)))))
  obtain ⟨bj_1, hm, hLj_1⟩ := bindO_some hm
  refine wc_cut (σ := Int) (fun j_1_0 => bj_1 = j_1_0) (fun j_1_0 => [(0, .int .i64 j_1_0)]) (fun j_1_0 => []) (fun j_1_0 => []) ?_ ?_
  ·
   refine wc_seq (wc_region (wP rfl (wP rfl (wl_nil (we_then (wc_keep [11,0,1] (S' := [_,_,_]) rfl ?_))))))
   refine wc_cond rfl (fun hb11 => ?_) (fun hb11 => ?_)
   ·
    replace hm := iteT hm hb11
    refine wc_keep [0,1] (S' := [_,_]) rfl (wc_region (wP rfl (wP rfl (wP rfl ?_))))
    obtain ⟨hg14, hm⟩ := gd_some hm
    refine wl_as (d := 14) (v' := .int .i64 ((Int.tmod a0 a1) + a1)) (S' := [_,_,_,_]) rfl rfl (i64_in hg14) (wl_pure (S' := [_,_,_,_]) rfl rfl rfl rfl rfl (wl_nil ?_))
    have hE := (Option.some.inj hm).symm
    refine we_join ((Int.tmod a0 a1) + a1) hE [0] rfl (asK [] rfl) rfl
   ·
    replace hm := iteF hm hb11
    refine wc_keep [0] (S' := [_]) rfl (wc_skip ?_)
    have hE := (Option.some.inj hm).symm
    refine we_join (Int.tmod a0 a1) hE [0] rfl (asK [] rfl) rfl
  ·
   rintro j_1_0 hE
   try dsimp only
   have hm := hLj_1
   rw [hE] at hm
   refine wc_seq (wc_region (wP rfl (wP rfl (wl_nil (we_then (wc_keep [4] (S' := [_]) rfl (wc_ret ?_)))))))
   have hE := (Option.some.inj hm).symm
   replace hE := hE.symm
   subst hE
   refine ret_one (Hr := []) [] Try.results8 (res_tmp rfl) ⟨rfl, rfl, rfl⟩ (asK [] rfl) rfl rfl (.inl rfl)
theorem w_net_Net_all_s (N : Nat) (qg0 : Nat) (qb1 : Nat) (e0 : List ((Int × Int) × List (List Int)))  (hm : m_net_Net_all N e0 = some ()) : Spec Try.prog 24 [.pointer (some ⟨qg0,0, none⟩)] [] [.blk qg0 [.map (some qb1)] 54, mapG (keyOfK pairKey57) (Fact.own 28 1 R_l_u8) none qb1 e0] (fun v Φr Hr => v = .map (some qb1) ∧ Φr = [] ∧ Hr = [mapG (keyOfK pairKey57) (Fact.own 28 1 R_l_u8) none qb1 e0, .blk qg0 [.map (some qb1)] 54]) := by
 unfold m_net_Net_all at hm
 refine spec_of Try.func24 rfl Try.ntmps24 rfl (S := [_]) rfl (fun C => (wc_seq (wc_region (wP rfl (wl_nil (we_then (wc_keep [0] (S' := [_]) rfl (wc_seq (wc_seq (wc_region (wP rfl (wl_bin rfl rfl rfl (freshS_eq rfl) rfl rfl rfl (eqlP tQ_24 _ _ _) (wl_nil (we_then ?_))))))))))))))
 refine wc_keep [4,0] (S' := [_,_]) rfl (wc_false rfl (wc_keep [0] (S' := [_]) rfl (wc_skip (we_then (wc_seq (wc_region (wP rfl (wP rfl (wF rfl tF_54_0 (wF rfl tF_52_0 (wD 0 0 rfl tS_50 tA_50 rfl (wP rfl (wl_nil ?_)))))))))))))
 refine we_then (wc_keep [2] (S' := [_]) rfl (wc_ret ?_))
 have hE := (Option.some.inj hm).symm
 refine ret_one (Hr := [_,_]) [1,0] Try.results24 (res_tmp rfl) ⟨rfl, rfl, rfl⟩ (asK [] rfl) rfl rfl (.inl rfl)
theorem w_net_bags_at_s (N : Nat) (qb0 : Nat) (e0 : List ((Int × Int) × List (List Int))) (a1 : Int) (a2 : Int) (a3 : Int) (o0 : Nat) (hm : m_net_bags_at N e0 a1 a2 a3 = some o0) : Spec Try.prog 26 [.map (some qb0), .agg #[.int .i64 a1, .int .i64 a2], .int .i64 a3] [] [mapG (keyOfK pairKey57) (Fact.own 28 1 R_l_u8) none qb0 e0] (fun v Φr Hr => v = .int .i64 ((o0 : Nat) : Int) ∧ Φr = [] ∧ Hr = [mapG (keyOfK pairKey57) (Fact.own 28 1 R_l_u8) none qb0 e0]) := by
 unfold m_net_bags_at at hm
 refine spec_of Try.func26 rfl Try.ntmps26 rfl (S := [_,_,_]) rfl (fun C => (wc_seq (wc_region (wB rfl (fun g4 => (wP rfl (wl_nil (we_then (wc_keep [4,0,2] (S' := [_,_,_]) rfl (wc_seq (wc_block (wc_seq (wc_region (wP rfl (wl_bin rfl rfl rfl (freshS_eq rfl) rfl rfl rfl (eqlM tM_50 _ _ _) ?_)))))))))))))))
 refine wP rfl (wl_nil (we_then (wc_keep [7,4,0,2] (S' := [_,_,_,_]) rfl (wc_false rfl (wc_keep [4,0,2] (S' := [_,_,_]) rfl (wc_seq ?_))))))
 obtain ⟨bj_1, hm, hLj_1⟩ := bindO_some hm
 refine wc_cut (σ := Bool) (fun j_1_10 => bj_1 = j_1_10) (fun j_1_10 => [(10, .bool j_1_10)]) (fun j_1_10 => []) (fun j_1_10 => [mapG (keyOfK pairKey57) (Fact.own 28 1 R_l_u8) none qb0 e0]) ?_ ?_
 ·
  refine wc_region (wP rfl (wP rfl (wP rfl ?_)))
  refine wl_split (d := 13) (S' := [_,_,_,_,_]) rfl rfl (fun hs13 => ?_) (fun hs13 => ?_)
  ·
   replace hm := iteT hm hs13
   refine wO rfl (wO rfl (wO rfl (wO rfl (wO rfl (wO rfl (wP rfl (wP rfl (wl_nil ?_))))))))
   have hE := (Option.some.inj hm).symm
   refine we_pick [1] rfl (H' := [_]) rfl ?_
   refine we_join true hE [10] rfl (asK [] rfl) rfl
  ·
   replace hm := iteF hm hs13
   refine wP rfl (wP rfl (wl_loadH 0 0 rfl rfl rfl (freshS_eq rfl) rfl rfl rfl (cs := [_,_]) rfl tS_57 tA_57 rfl rfl ?_))
   obtain ⟨hk17_0, hm⟩ := gd_some hm
   obtain ⟨hk17_1, hm⟩ := gd_some hm
   obtain ⟨l17, hl17, hm⟩ := bindO_some hm
   refine wl_lookG (i := (a1, a2)) (l := l17) form_own 1 rfl rfl rfl (freshS_eq rfl) rfl rfl rfl rfl tZG_26 tM_50 ⟨hk17_0, hk17_1⟩ (Option.some.inj hl17) (fun p17 c17 => (wN rfl tE_26 (wP rfl (wP rfl (wP rfl (wl_nil ?_))))))
   have hE := (Option.some.inj hm).symm
   refine we_sh [.blk g4 [.int .i64 a1, .int .i64 a2] 57, mapG (keyOfK pairKey57) (Fact.own 28 1 R_l_u8) none qb0 e0] (fun _ h => h.closeG 2 0 rfl rfl rfl (Option.some.inj hl17)) ?_
   skip
   refine we_pick [1] rfl (H' := [_]) rfl ?_
   refine we_join (decide (a3 ≥ ((l17.length : Nat) : Int))) hE [10] rfl (asK [] rfl) rfl
 ·
  rintro j_1_10 hE
  try dsimp only
  have hm := hLj_1
  rw [hE] at hm
  refine wc_cond rfl (fun hb10 => ?_) (fun hb10 => ?_)
  ·
   replace hm := iteT hm hb10
   refine wc_keep [] (S' := []) rfl (wc_seq (wc_region (wP rfl (wl_nil (we_then (wc_ret (we_block_ret (we_then_ret ?_))))))))
   have hE := (Option.some.inj hm).symm
   replace hE := hE.symm
   subst hE
   refine ret_one (Hr := [_]) [0] Try.results26 (res_tmp rfl) ⟨rfl, rfl, rfl⟩ (asK [] rfl) rfl rfl (.inl rfl)
  ·
   replace hm := iteF hm hb10
   refine wc_keep [] (S' := []) rfl (wc_skip (we_block_normal (we_then (wc_seq (wc_region (wP rfl (wl_nil (we_then (wc_ret ?_)))))))))
   have hE := (Option.some.inj hm).symm
   replace hE := hE.symm
   subst hE
   refine ret_one (Hr := [_]) [0] Try.results26 (res_tmp rfl) ⟨rfl, rfl, rfl⟩ (asK [] rfl) rfl rfl (.inl rfl)
theorem Delete34_n (p : Option Addr) (c k : Nat) (L : List (List Int)) (hk : k < L.length) : Spec Try.prog 34 [.slice p L.length c, .int .i64 ((k : Nat) : Int), .int .i64 ((k + 1 : Nat) : Int)] [] [.own 28 1 R_l_u8 (.slice p L.length c) L] (fun v Φr Hr => ∃ p' c', v = .slice p' (L.take k ++ L.drop (k + 1)).length c' ∧ Φr = [] ∧ Hr = [.own 28 1 R_l_u8 v (L.take k ++ L.drop (k + 1))]) := by
 refine spec_of Try.func34 rfl Try.ntmps34 rfl (S := [_,_,_]) rfl (fun C => (wc_ownSome 0 rfl (by omega) (fun g0 e0 hc1 hc2 => ?_)))
 subst e0
 refine wc_seq (wc_region (wP rfl (wl_nil (we_then (wc_seq (wc_region (wP rfl (wP rfl (wP rfl (wP rfl (wN rfl tE_26 (wl_slice3 rfl rfl rfl (freshS_eq rfl) rfl rfl rfl rfl rfl rfl rfl rfl tE_26 tS_28 (by omega) (by omega) (by omega) (fun a13 => (wl_nil ?_))))))))))))))
 refine we_then (wc_keep [6,0,1,2] (S' := [_,_,_,_]) rfl (wc_seq (wc_seq (wc_region (wP rfl (wP rfl (wP rfl (wl_nil (we_then (wc_keep [16,6,0,1,2] (S' := [_,_,_,_,_]) rfl ?_))))))))))
 refine wc_cond rfl (fun h16 => ?_) (fun h16 => ?_)
 ·
  replace h16 := eq_of_beq h16
  exfalso
  omega
 ·
  replace h16 := ne_of_beq_false h16
  refine wc_skip (we_then (wc_seq (wc_region (wP rfl (wN rfl tE_26 (wP rfl (wl_nil (we_then (wc_keep [7,16,6,0,1,2] (S' := [_,_,_,_,_,_]) rfl (wc_seq ?_))))))))))
  refine wc_cut (σ := Addr) (fun a25 => k + 1 < c → a25 = ⟨g0, (k + 1) * 1, none⟩) (fun a25 => [(0, .slice (some ⟨g0,0, none⟩) ((L.take k ++ L.drop (k + 1)).length) c), (7, .int .i64 ((L.length : Nat) : Int)), (16, .bool (((k : Nat) : Int) == ((k + 1 : Nat) : Int))), (6, .slice none 0 0), (1, .int .i64 ((k : Nat) : Int)), (2, .int .i64 ((k + 1 : Nat) : Int))]) (fun a25 => []) (fun a25 => [.own 28 1 R_l_u8 (.slice (some ⟨g0,0, none⟩) ((L.take k ++ L.drop (k + 1)).length) c) (L.take k ++ L.drop (k + 1))]) ?_ ?_
  ·
   refine wc_draw [0,1,3,4] rfl rfl (fun hok => (xP hok 0 rfl (xP hok 1 rfl (xP hok 3 rfl (xP hok 4 rfl ?_)))))
   refine wx_step2 hok 2 5 rfl rfl rfl rfl rfl rfl ?_ ?_
   rotate_left
   focus
    refine wl_sliceFrom rfl rfl rfl (freshS_eq rfl) rfl rfl rfl rfl tE_26 tS_28 (by omega) (by omega) (fun a25 ha25 => (wl_nil (we_x [] [] rfl rfl (xS hok 2 rfl (wl_sliceTo rfl rfl rfl (freshS_eq rfl) rfl rfl rfl rfl tE_26 tS_28 (by omega) (fun _ h => by cases h; rfl) ?_)))))
   rotate_right
   focus
    refine wl_sliceTo rfl rfl rfl (freshS_eq rfl) rfl rfl rfl rfl tE_26 tS_28 (by omega) (fun _ h => by cases h; rfl) (wl_nil (we_x [] [] rfl rfl (xS hok 5 rfl (wl_sliceFrom rfl rfl rfl (freshS_eq rfl) rfl rfl rfl rfl tE_26 tS_28 (by omega) (by omega) (fun a25 ha25 => ?_)))))
   all_goals
    refine wl_nil (we_x [] [] rfl rfl (xS hok 6 rfl (wl_appendSelf 0 k (k + 1) rfl rfl rfl (freshS_eq rfl) rfl rfl rfl rfl (by omega) (by omega) (fun h => ha25 (by omega)) tE_26 tR_28 (H2 := [.own 28 1 R_l_u8 (.slice (some ⟨g0,0, none⟩) ((L.take k ++ L.drop (k + 1)).length) c) (L.take k ++ L.drop (k + 1))]) rfl (fun _ => (wl_nil (we_x [] [] rfl rfl (xS hok 7 rfl (wl_pure (S' := [_,_,_,_,_,_,_,_,_,_,_,_]) rfl rfl rfl rfl rfl (wl_nil (we_x [] [] rfl rfl (wx_done hok rfl ?_)))))))))))
    refine we_join (a25) ha25 [0,7,16,6,1,2] rfl (asK [] rfl) rfl
  ·
   rintro a25 ha25
   try dsimp only
   refine wc_seq (wc_region (wP rfl (wP rfl (wN rfl tE_26 (wP rfl (wl_sliceMid rfl rfl rfl (freshS_eq rfl) rfl rfl rfl rfl rfl rfl tE_26 tS_28 (by simp; omega) (by omega) (fun a31 ha31 => (wl_clearTail 0 rfl rfl rfl rfl rfl (fun h => ha31 (by simp at h ⊢; omega)) (by simp; omega) tE_26 tZ_28 rfl rfl rfl (wl_nil (we_then (wc_keep [0,7,16,6,1,2] (S' := [_,_,_,_,_,_]) rfl (wc_seq (wc_region (wP rfl ?_))))))))))))))
   refine wl_pure (S' := [_,_,_,_,_,_]) rfl rfl rfl rfl rfl (wl_nil (we_then (wc_keep [6,0,7,16,1,2] (S' := [_,_,_,_,_,_]) rfl (wc_ret (ret_one (Hr := [.own 28 1 R_l_u8 (.slice (some ⟨g0,0, none⟩) ((L.take k ++ L.drop (k + 1)).length) c) (L.take k ++ L.drop (k + 1))]) [0] Try.results34 (res_tmp rfl) ?_ (asK [] rfl) rfl rfl (.inl rfl))))))
   exact ⟨_,_, rfl, rfl, rfl⟩
theorem Delete34_s (p : Option Addr) (c : Nat) (i : Int) (L : List (List Int)) (h0 : 0 ≤ i) (hk : i.toNat < L.length) : Spec Try.prog 34 [.slice p L.length c, .int .i64 i, .int .i64 (i + 1)] [] [.own 28 1 R_l_u8 (.slice p L.length c) L] (fun v Φr Hr => ∃ p' c', v = .slice p' (L.take i.toNat ++ L.drop (i.toNat + 1)).length c' ∧ Φr = [] ∧ Hr = [.own 28 1 R_l_u8 v (L.take i.toNat ++ L.drop (i.toNat + 1))]) := by
  obtain ⟨k, rfl⟩ := Int.eq_ofNat_of_zero_le h0
  have e1 : ((k : Int) + 1) = ((k + 1 : Nat) : Int) := by omega
  rw [e1]
  exact Delete34_n p c k L hk
 
theorem w_net_bags_take_s (N : Nat) (qb0 : Nat) (e0 : List ((Int × Int) × List (List Int))) (a1 : Int) (a2 : Int) (a3 : Int) (o2 : List Int) (o3 : Nat) (o4 : List ((Int × Int) × List (List Int))) (hm : m_net_bags_take N e0 a1 a2 a3 = some (o2, o3, o4)) : Spec Try.prog 25 [.map (some qb0), .agg #[.int .i64 a1, .int .i64 a2], .int .i64 a3] [] [mapG (keyOfK pairKey57) (Fact.own 28 1 R_l_u8) none qb0 e0] (fun v Φr Hr => ∃ (o0 : Option Addr) (o1 : Nat), v = .tuple #[.slice o0 o2.length o1, .int .i64 ((o3 : Nat) : Int)] ∧ Φr = [.sli 1 R_u8 o0 o1 o2] ∧ Hr = [mapG (keyOfK pairKey57) (Fact.own 28 1 R_l_u8) none qb0 o4]) := by
 unfold m_net_bags_take at hm
 refine spec_of Try.func25 rfl Try.ntmps25 rfl (S := [_,_,_]) rfl (fun C => (wc_seq (wc_region (wB rfl (fun g4 => (wP rfl (wP rfl (wl_nil (we_then (wc_keep [4,0,2] (S' := [_,_,_]) rfl (wc_seq (wc_seq (wc_region (wP rfl (wl_loadH 0 0 rfl rfl rfl (freshS_eq rfl) rfl rfl rfl (cs := [_,_]) rfl tS_57 tA_57 rfl rfl ?_)))))))))))))))
 refine wP rfl ?_
 obtain ⟨v13, hc13, hm⟩ := bindO_some hm
 refine wC [1] [0] rfl fn_26 rfl (w_net_bags_at_s N qb0 e0 a1 a2 a3 _ hc13) (asK [] rfl) rfl (H' := [_]) rfl ?_
 rintro _ _ _ ⟨rfl, rfl, rfl⟩
 refine wP rfl (wl_nil (we_then (wc_keep [8,4,0,2] (S' := [_,_,_,_]) rfl (wc_seq (wc_region (wP rfl (wP rfl (wl_as (d := 15) (v' := .bool (v13 != 0)) (S' := [_,_,_,_,_]) rfl rfl (natne (a := v13) (b := 0)) (wl_nil (we_then (wc_keep [15,8,4,0,2] (S' := [_,_,_,_,_]) rfl ?_)))))))))))
 refine wc_cond rfl (fun hb15 => ?_) (fun hb15 => ?_)
 ·
  replace hm := iteT hm hb15
  refine wc_keep [8] (S' := [_]) rfl (wc_seq (wc_region (wP rfl (wP rfl (wP rfl (wl_nil (we_then (wc_keep [7,6] (S' := [_,_]) rfl (wc_ret (we_then_ret ?_))))))))))
  have hE := (Option.some.inj hm).symm
  obtain ⟨hE0, hF1⟩ := Prod.mk.inj hE
  obtain ⟨hE1, hE2⟩ := Prod.mk.inj hF1
  clear hE hF1
  replace hE0 := hE0.symm
  subst hE0
  replace hE1 := hE1.symm
  subst hE1
  replace hE2 := hE2.symm
  subst hE2
  refine we_fact (.sli 1 R_u8 none 0 ([] : List Int)) (fun _ _ _ => sli_none) ?_
  refine ret_two (Hr := [_]) [0] Try.results25 (res_tmp rfl) (res_tmp rfl) ⟨none, 0, rfl, rfl, rfl⟩ (asK [0] rfl) rfl rfl (.inl rfl)
 ·
  replace hm := iteF hm hb15
  refine wc_keep [4,0,2] (S' := [_,_,_]) rfl (wc_skip (we_then (wc_seq (wc_region (wP rfl (wl_loadH 1 0 rfl rfl rfl (freshS_eq rfl) rfl rfl rfl (cs := [_,_]) rfl tS_57 tA_57 rfl rfl ?_))))))
  obtain ⟨hk19_0, hm⟩ := gd_some hm
  obtain ⟨hk19_1, hm⟩ := gd_some hm
  obtain ⟨l19, hl19, hm⟩ := bindO_some hm
  refine wl_lookG (i := (a1, a2)) (l := l19) form_own 0 rfl rfl rfl (freshS_eq rfl) rfl rfl rfl rfl tZG_26 tM_50 ⟨hk19_0, hk19_1⟩ (Option.some.inj hl19) (fun p19 c19 => (wP rfl ?_))
  obtain ⟨hn21, hm⟩ := gd_some hm
  obtain ⟨x21, hx21, hm⟩ := bindO_some hm
  refine wl_indexH 0 a3.toNat rfl rfl rfl (freshS_eq rfl) rfl rfl rfl rfl (toNat_eq hn21) (get_lt hx21) tE_26 tS_28 (fun g21 eg21 => ?_)
  subst eg21
  refine wl_loadRow R_l_u8_opens 0 a3.toNat 0 rfl rfl rfl (freshS_eq rfl) rfl rfl rfl hx21 tS_28 tA_28 (v := fun r22 => .slice r22.1 x21.length r22.2) (fun _ => rfl) (fun _ => rfl) (fun r22 _ => (wP rfl (wl_nil (we_then (wc_keep [9,4,0,2] (S' := [_,_,_,_]) rfl (wc_seq ?_))))))
  obtain ⟨hg30, hm⟩ := gd_some hm
  obtain ⟨hg31, hm⟩ := gd_some hm
  obtain ⟨hgk31, hm⟩ := gd_some hm
  refine wc_draw [0,1,2,3,5,6,7] rfl rfl (fun hok => (xP hok 0 rfl (wx_loadH hok 1 2 0 rfl rfl rfl (freshS_eq rfl) rfl rfl rfl rfl (cs := [_,_]) rfl tS_57 tA_57 rfl rfl (xP hok 2 rfl (wx_loadH hok 3 2 0 rfl rfl rfl (freshS_eq rfl) rfl rfl rfl rfl (cs := [_,_]) rfl tS_57 tA_57 rfl rfl (xP hok 5 rfl (xP hok 6 rfl (xP hok 7 rfl (wx_as (d := 30) (v' := .int .i64 (a3 + 1)) (S' := [_,_,_,_,_,_,_,_,_,_]) rfl rfl (i64_in hg30) (xS hok 4 rfl (wl_lookX (i := (a1, a2)) (v := .slice (some ⟨g21,0, none⟩) l19.length c19) 1 rfl rfl rfl (freshS_eq rfl) rfl rfl rfl rfl tZG_26 tM_50 ⟨hk19_0, hk19_1⟩ (wl_nil (we_x [0] [2] rfl rfl (xS hok 8 rfl ?_))))))))))))))
  refine wC [0] [1,2] rfl fn_34 rfl (Delete34_s (some ⟨g21,0, none⟩) c19 a3 l19 hg31 hgk31) (asK [] rfl) rfl (H' := [_,_]) rfl ?_
  rintro _ _ _ ⟨p31, c31, rfl, rfl, rfl⟩
  refine wl_nil (we_x [0] [2,2] rfl rfl (xS hok 9 rfl (wl_putG (i := (a1, a2)) (v := .slice p31 ((l19.take a3.toNat ++ l19.drop (a3.toNat + 1)).length) c31) 1 (l19.take a3.toNat ++ l19.drop (a3.toNat + 1)) rfl rfl (.inl rfl) (.inr ⟨_, rfl⟩) rfl rfl rfl rfl tM_50 ⟨hk19_0, hk19_1⟩ rfl (H' := [_, mapG (keyOfK pairKey57) (Fact.own 28 1 R_l_u8) (some ((a1, a2), .slice p31 ((l19.take a3.toNat ++ l19.drop (a3.toNat + 1)).length) c31)) qb0 (mput (a1, a2) (l19.take a3.toNat ++ l19.drop (a3.toNat + 1)) e0), _]) rfl (wl_nil (we_x [0] [] rfl rfl (wx_done hok rfl (we_then (wc_keep [9,4,0] (S' := [_,_,_]) rfl (wc_seq ?_)))))))))
  obtain ⟨bj_1, hm, hLj_1⟩ := bindO_some hm
  refine wc_cut (σ := List ((Int × Int) × List (List Int))) (fun j_1_r0_m => bj_1 = j_1_r0_m) (fun j_1_r0_m => [(9, .slice r22.1 x21.length r22.2)]) (fun j_1_r0_m => [.sli 1 R_u8 r22.1 r22.2 x21]) (fun j_1_r0_m => [mapG (keyOfK pairKey57) (Fact.own 28 1 R_l_u8) none qb0 j_1_r0_m]) ?_ ?_
  ·
   refine wc_seq (wc_region (wP rfl (wl_loadH 2 0 rfl rfl rfl (freshS_eq rfl) rfl rfl rfl (cs := [_,_]) rfl tS_57 tA_57 rfl rfl (wl_lookX (i := (a1, a2)) (v := .slice p31 ((l19.take a3.toNat ++ l19.drop (a3.toNat + 1)).length) c31) 1 rfl rfl rfl (freshS_eq rfl) rfl rfl rfl rfl tZG_26 tM_50 ⟨hk19_0, hk19_1⟩ (wN rfl tE_26 (wP rfl (wl_as (d := 36) (v' := .bool (((l19.take a3.toNat ++ l19.drop (a3.toNat + 1)).length) == 0)) (S' := [_,_,_,_,_,_,_]) rfl rfl (nateq (a := (l19.take a3.toNat ++ l19.drop (a3.toNat + 1)).length) (b := 0)) (wl_nil (we_then (wc_keep [36,9,4,0] (S' := [_,_,_,_]) rfl ?_))))))))))
   refine wc_cond rfl (fun hb36 => ?_) (fun hb36 => ?_)
   ·
    replace hm := iteT hm hb36
    refine wc_keep [9,4,0] (S' := [_,_,_]) rfl (wc_region (wP rfl (wl_loadH 2 0 rfl rfl rfl (freshS_eq rfl) rfl rfl rfl (cs := [_,_]) rfl tS_57 tA_57 rfl rfl (wl_delG (i := (a1, a2)) 1 rfl rfl rfl rfl rfl rfl tM_50 ⟨hk19_0, hk19_1⟩ (H' := [_, mapG (keyOfK pairKey57) (Fact.own 28 1 R_l_u8) none qb0 (mdel (a1, a2) (mput (a1, a2) (l19.take a3.toNat ++ l19.drop (a3.toNat + 1)) e0)), _]) rfl (wl_nil ?_)))))
    have hE := (Option.some.inj hm).symm
    refine we_pick [1] rfl (H' := [_]) rfl ?_
    refine we_join (mdel (a1, a2) (mput (a1, a2) (l19.take a3.toNat ++ l19.drop (a3.toNat + 1)) e0)) hE [9] rfl (asK [0] rfl) rfl
   ·
    replace hm := iteF hm hb36
    refine wc_keep [9] (S' := [_]) rfl (wc_skip ?_)
    have hE := (Option.some.inj hm).symm
    refine we_sh [mapG (keyOfK pairKey57) (Fact.own 28 1 R_l_u8) none qb0 (mput (a1, a2) (l19.take a3.toNat ++ l19.drop (a3.toNat + 1)) e0), .blk g4 [.int .i64 a1, .int .i64 a2] 57] (fun _ h => h.closeG 1 0 rfl rfl rfl (by rw [mlook_mput]; rfl)) ?_
    skip
    refine we_pick [0] rfl (H' := [_]) rfl ?_
    refine we_join (mput (a1, a2) (l19.take a3.toNat ++ l19.drop (a3.toNat + 1)) e0) hE [9] rfl (asK [0] rfl) rfl
  ·
   rintro j_1_r0_m hE
   try dsimp only
   have hm := hLj_1
   rw [hE] at hm
   refine wc_seq (wc_region (wP rfl (wP rfl (wP rfl (wl_nil (we_then (wc_keep [7,6] (S' := [_,_]) rfl (wc_ret ?_))))))))
   have hE := (Option.some.inj hm).symm
   obtain ⟨hE0, hF1⟩ := Prod.mk.inj hE
   obtain ⟨hE1, hE2⟩ := Prod.mk.inj hF1
   clear hE hF1
   replace hE0 := hE0.symm
   subst hE0
   replace hE1 := hE1.symm
   subst hE1
   replace hE2 := hE2.symm
   subst hE2
   refine ret_two (Hr := [_]) [0] Try.results25 (res_tmp rfl) (res_tmp rfl) ⟨r22.1, r22.2, rfl, rfl, rfl⟩ (asK [0] rfl) rfl rfl (.inl rfl)
theorem w_net_Net_Take_s (N : Nat) (qg0 : Nat) (qb1 : Nat) (e0 : List ((Int × Int) × List (List Int))) (a1 : Int) (a2 : Int) (a3 : Int) (o2 : List Int) (o3 : Nat) (o4 : List ((Int × Int) × List (List Int))) (hm : m_net_Net_Take N e0 a1 a2 a3 = some (o2, o3, o4)) : Spec Try.prog 9 [.pointer (some ⟨qg0,0, none⟩), .int .i64 a1, .int .i64 a2, .int .i64 a3] [] [.blk qg0 [.map (some qb1)] 54, mapG (keyOfK pairKey57) (Fact.own 28 1 R_l_u8) none qb1 e0] (fun v Φr Hr => ∃ (o0 : Option Addr) (o1 : Nat), v = .tuple #[.slice o0 o2.length o1, .int .i64 ((o3 : Nat) : Int)] ∧ Φr = [.sli 1 R_u8 o0 o1 o2] ∧ Hr = [.blk qg0 [.map (some qb1)] 54, mapG (keyOfK pairKey57) (Fact.own 28 1 R_l_u8) none qb1 o4]) := by
 unfold m_net_Net_Take at hm
 refine spec_of Try.func9 rfl Try.ntmps9 rfl (S := [_,_,_,_]) rfl (fun C => (wc_seq (wc_region (wP rfl (wP rfl (wl_nil (we_then (wc_keep [0,1,2,3] (S' := [_,_,_,_]) rfl (wc_seq (wc_region (wP rfl ?_)))))))))))
 obtain ⟨_, hc11, hm⟩ := bindO_some hm
 try dsimp only at hm
 refine wC [0,1] [] rfl fn_24 rfl (w_net_Net_all_s N qg0 qb1 e0 hc11) (asK [] rfl) rfl (H' := []) rfl ?_
 rintro _ _ _ ⟨rfl, rfl, rfl⟩
 refine wP rfl (wP rfl (wl_buildArr rfl rfl rfl (freshS_eq rfl) rfl tZ_57 tArr_57 rfl (out := [_,_]) rfl (wP rfl ?_)))
 obtain ⟨⟨v16_0, v16_1, v16_2⟩, hc16, hm⟩ := bindO_some hm
 try dsimp only at hm
 refine wC [0] [1] rfl fn_25 rfl (w_net_bags_take_s N qb1 e0 a1 a2 a3 _ _ _ hc16) (asK [] rfl) rfl (H' := [_]) rfl ?_
 rintro _ _ _ ⟨p16_0, c16_1, rfl, rfl, rfl⟩
 refine wP rfl (wP rfl (wP rfl (wP rfl (wl_nil (we_then (wc_keep [9,8] (S' := [_,_]) rfl (wc_ret ?_)))))))
 have hE := (Option.some.inj hm).symm
 obtain ⟨hE0, hF1⟩ := Prod.mk.inj hE
 obtain ⟨hE1, hE2⟩ := Prod.mk.inj hF1
 clear hE hF1
 replace hE0 := hE0.symm
 subst hE0
 replace hE1 := hE1.symm
 subst hE1
 replace hE2 := hE2.symm
 subst hE2
 refine ret_two (Hr := [_,_]) [1,0] Try.results9 (res_tmp rfl) (res_tmp rfl) ⟨p16_0, c16_1, rfl, rfl, rfl⟩ (asK [0] rfl) rfl rfl (.inl rfl)
theorem w_ropewalkkit_SameBytes_s (N : Nat) (qp0 : Option Addr) (qc1 : Nat) (l0 : List Int) (qp2 : Option Addr) (qc3 : Nat) (l1 : List Int) (o0 : Bool) (hm : m_ropewalkkit_SameBytes N l0 l1 = some o0) : Spec Try.prog 23 [.slice qp0 l0.length qc1, .slice qp2 l1.length qc3] [.sli 1 R_u8 qp0 qc1 l0, .sli 1 R_u8 qp2 qc3 l1] [] (fun v Φr Hr => v = .bool o0 ∧ Φr = [] ∧ Hr = []) := by
 unfold m_ropewalkkit_SameBytes at hm
 refine spec_of Try.func23 rfl Try.ntmps23 rfl (S := [_,_]) rfl (fun C => (wc_seq (wc_region (wP rfl (wl_nil (we_then (wc_keep [0,1] (S' := [_,_]) rfl (wc_seq (wc_seq (wc_region (wP rfl (wN rfl tE_28 (wP rfl (wN rfl tE_28 ?_))))))))))))))
 refine wP rfl (wl_as (d := 10) (v' := .bool (l0.length != l1.length)) (S' := [_,_,_,_,_,_]) rfl rfl (natne (a := l0.length) (b := l1.length)) (wl_nil (we_then (wc_keep [10,0,1] (S' := [_,_,_]) rfl ?_))))
 refine wc_cond rfl (fun hb10 => ?_) (fun hb10 => ?_)
 ·
  replace hm := iteT hm hb10
  refine wc_keep [] (S' := []) rfl (wc_seq (wc_region (wP rfl (wl_nil (we_then (wc_ret (we_then_ret ?_)))))))
  have hE := (Option.some.inj hm).symm
  replace hE := hE.symm
  subst hE
  refine ret_one (Hr := []) [] Try.results23 (res_tmp rfl) ⟨rfl, rfl, rfl⟩ (asK [] rfl) rfl rfl (.inl rfl)
 ·
  replace hm := iteF hm hb10
  refine wc_keep [0,1] (S' := [_,_]) rfl (wc_skip (we_then (wc_seq ?_)))
  obtain ⟨bj_1, hm, hLj_1⟩ := bindS_some hm
  refine wc_cut (σ := Unit) (fun _ => bj_1 = .inl ()) (fun _ => []) (fun _ => []) (fun _ => []) ?_ ?_
  ·
   refine wc_seq (wc_region (wP rfl (wl_nil (we_then (wc_block (wc_loop (σ := Nat × Nat) (fun (nu1, u1_5) => iter (m_ropewalkkit_SameBytes_L1 N l0 l1) nu1 u1_5 = some bj_1) (fun (nu1, u1_5) => nu1) (fun (nu1, u1_5) => [(5, .int .i64 ((u1_5 : Nat) : Int)), (0, .slice qp0 l0.length qc1), (1, .slice qp2 l1.length qc3)]) (fun (nu1, u1_5) => [.sli 1 R_u8 qp0 qc1 l0, .sli 1 R_u8 qp2 qc3 l1]) (fun (nu1, u1_5) => []) (N, 0) hm [5,0,1] rfl (asK [0,1] rfl) rfl (fun s_ hm => ?_)))))))
   obtain ⟨nu1, u1_5⟩ := s_
   try dsimp only at hm ⊢
   obtain ⟨mu1, bu1, hnu1, hq, hLu1⟩ := iter_some hm
   clear hm
   subst hnu1
   replace hm := hq
   clear hq
   unfold m_ropewalkkit_SameBytes_L1 at hm
   try dsimp only at hm
   refine wc_seq (wc_seq (wc_region (wP rfl (wP rfl (wN rfl tE_28 (wP rfl (wl_as (d := 14) (v' := .bool (decide (u1_5 < l0.length))) (S' := [_,_,_,_,_,_]) rfl rfl (natlt (a := u1_5) (b := l0.length)) (wl_nil (we_then (wc_keep [14,5,0,1] (S' := [_,_,_,_]) rfl ?_))))))))))
   refine wc_cond rfl (fun hb14 => ?_) (fun hb14 => ?_)
   ·
    replace hm := iteT hm hb14
    refine wc_keep [5,0,1] (S' := [_,_,_]) rfl (wc_skip (we_then (wc_seq (wc_block (wc_seq ?_)))))
    obtain ⟨x19, hx19, hm⟩ := bindO_some hm
    obtain ⟨x23, hx23, hm⟩ := bindO_some hm
    refine wc_draw [0,1,2,3,4,5,6,7,8] rfl rfl (fun hok => (xP hok 0 rfl (xP hok 1 rfl (wx_indexA hok 2 0 u1_5 rfl rfl rfl (freshS_eq rfl) rfl rfl rfl rfl rfl rfl hx19 tE_28 tS_5 (fun b19 q19 cs19 hlx19 => (wx_openR R_u8_opens 1 rfl (fun r19 er19 _ => ?_)))))))
    subst er19
    refine wx_load hok 3 0 0 rfl rfl rfl (freshS_eq rfl) rfl rfl rfl rfl (cs := [_]) rfl tS_5 tA_5 rfl rfl (xP hok 4 rfl (xP hok 5 rfl (wx_indexA hok 6 3 u1_5 rfl rfl rfl (freshS_eq rfl) rfl rfl rfl rfl rfl rfl hx23 tE_28 tS_5 (fun b23 q23 cs23 hlx23 => (wx_openR R_u8_opens 1 rfl (fun r23 er23 _ => ?_))))))
    subst er23
    refine wx_load hok 7 0 0 rfl rfl rfl (freshS_eq rfl) rfl rfl rfl rfl (cs := [_]) rfl tS_5 tA_5 rfl rfl (xP hok 8 rfl (wx_done hok rfl (we_then (wc_keep [25,5,0,1] (S' := [_,_,_,_]) rfl ?_))))
    refine wc_cond rfl (fun hb25 => ?_) (fun hb25 => ?_)
    ·
     replace hm := iteT hm hb25
     refine wc_keep [] (S' := []) rfl (wc_seq (wc_region (wP rfl (wl_nil (we_then (wc_ret (we_block_ret (we_then_ret (we_then_ret (we_block_ret (we_then_ret ?_)))))))))))
     have hE := (Option.some.inj hm).symm
     replace hE := link_inr hLu1 hE
     replace hE := link_inr hLj_1 hE
     replace hE := hE.symm
     subst hE
     refine ret_one (Hr := []) [] Try.results23 (res_tmp rfl) ⟨rfl, rfl, rfl⟩ (asK [] rfl) rfl rfl (.inl rfl)
    ·
     replace hm := iteF hm hb25
     refine wc_keep [5,0,1] (S' := [_,_,_]) rfl (wc_skip (we_block_normal (we_then (wc_region (wP rfl (wP rfl ?_))))))
     obtain ⟨hg16, hm⟩ := gd_some hm
     refine wl_as (d := 16) (v' := .int .i64 ((u1_5 + 1 : Nat) : Int)) (S' := [_,_,_,_]) rfl rfl (nat_add (a := u1_5) (b := 1) hg16) (wl_pure (S' := [_,_,_,_]) rfl rfl rfl rfl rfl (wl_nil ?_))
     have hE := (Option.some.inj hm).symm
     replace hE := link_inl hLu1 hE
     refine we_roundK (_, u1_5 + 1) (Nat.lt_succ_self _) hE [5,0,1] rfl (asK [4,5] rfl) rfl
   ·
    replace hm := iteF hm hb14
    refine wc_keep [] (S' := []) rfl (wc_exit (we_then_exit (we_then_exit (we_block_hit ?_))))
    have hE := (Option.some.inj hm).symm
    replace hE := link_inr hLu1 hE
    refine we_join () hE [] rfl (asK [] rfl) rfl
  ·
   rintro _ hE
   try dsimp only
   have hm := link_inl hLj_1 hE
   try dsimp only at hm
   refine wc_seq (wc_region (wP rfl (wl_nil (we_then (wc_ret ?_)))))
   have hE := (Option.some.inj hm).symm
   replace hE := hE.symm
   subst hE
   refine ret_one (Hr := []) [] Try.results23 (res_tmp rfl) ⟨rfl, rfl, rfl⟩ (asK [] rfl) rfl rfl (.inl rfl)
theorem Clone35f_s (p : Option Addr) (c : Nat) (l : List Int) (hb : l.length ≤ 140737488355328) : Spec Try.prog 35 [.slice p l.length c] [.sli 1 R_u8 p c l] [] (fun v Φr Hr => ∃ p' c', v = .slice p' l.length c' ∧ Φr = [] ∧ Hr = [.own 5 1 R_u8 v l]) := by
 refine spec_of Try.func35 rfl Try.ntmps35 rfl (S := [_]) rfl (fun C => (wc_know (fun F w h => sli_nil (h _ (mem_at (k := 0) rfl))) (fun isnil => (wc_seq (wc_region (wP rfl (wl_nil (we_then (wc_seq (wc_seq (wc_region (wP rfl (wl_eqlNil rfl rfl rfl (freshS_eq rfl) rfl rfl rfl tE_28 (wl_nil (we_then ?_)))))))))))))))
 refine wc_keep [4,2,0] (S' := [_,_,_]) rfl ?_
 refine wc_cond rfl (fun h4 => ?_) (fun h4 => ?_)
 ·
  replace h4 := isNone_true h4
  obtain rfl := isnil h4
  subst h4
  refine wc_rowNil 5 1 R_u8 (wc_seq (wc_region (wl_pure (S' := [_,_]) rfl rfl rfl rfl rfl (wl_nil (we_then (wc_ret (we_then_ret (ret_one (Hr := [.own 5 1 R_u8 (.slice none 0 0) []]) [0] Try.results35 (res_tmp rfl) ?_ (asK [] rfl) rfl rfl (.inl rfl)))))))))
  exact ⟨none, 0, rfl, rfl, rfl⟩
 ·
  replace h4 := isNone_false h4
  refine wc_skip (we_then (wc_seq (wc_region (wl_buildSlice rfl rfl rfl (freshS_eq rfl) rfl tE_28 tS_5 tZ_5 rfl (zs := []) (by kernel_rfl) rfl (out := []) rfl (fun g5 => (wP rfl (wl_row (sz := 1) (m := 0) R_u8 [] 0 rfl (fun F w hφ => rfl) rfl (by decide) (H' := [_]) rfl (wl_append 0 0 rfl rfl rfl (freshS_eq rfl) rfl rfl rfl rfl rfl tE_28 tR_5 rfl rfl (by simp; omega) (by simp; omega) (H2 := fun p7 c7 => [.own 5 1 R_u8 (.slice p7 (l).length c7) l]) (fun _ _ => rfl) (fun p7 c7 => (wl_pure (S' := [_,_,_,_,_]) rfl rfl rfl rfl rfl (wl_nil (we_then (wc_keep [2,4,0] (S' := [_,_,_]) rfl (wc_ret (ret_one (Hr := [.own 5 1 R_u8 (.slice p7 (l).length c7) l]) [0] Try.results35 (res_tmp rfl) ?_ (asK [] rfl) rfl rfl (.inl rfl))))))))))))))))
  exact ⟨_,_, rfl, rfl, rfl⟩
theorem w_net_bags_put_s (N : Nat) (qb0 : Nat) (e0 : List ((Int × Int) × List (List Int))) (a1 : Int) (a2 : Int) (qp1 : Option Addr) (qc2 : Nat) (l3 : List Int) (o0 : Nat) (o1 : List ((Int × Int) × List (List Int))) (hm : m_net_bags_put N e0 a1 a2 l3 = some (o0, o1)) : Spec Try.prog 27 [.map (some qb0), .agg #[.int .i64 a1, .int .i64 a2], .slice qp1 l3.length qc2] [.sli 1 R_u8 qp1 qc2 l3] [mapG (keyOfK pairKey57) (Fact.own 28 1 R_l_u8) none qb0 e0] (fun v Φr Hr => v = .int .i64 ((o0 : Nat) : Int) ∧ Φr = [] ∧ Hr = [mapG (keyOfK pairKey57) (Fact.own 28 1 R_l_u8) none qb0 o1]) := by
 unfold m_net_bags_put at hm
 refine spec_of Try.func27 rfl Try.ntmps27 rfl (S := [_,_,_]) rfl (fun C => (wc_seq (wc_region (wB rfl (fun g4 => (wP rfl (wl_nil (we_then (wc_keep [4,0,2] (S' := [_,_,_]) rfl (wc_seq (wc_block (wc_seq (wc_region (wP rfl (wl_bin rfl rfl rfl (freshS_eq rfl) rfl rfl rfl (eqlM tM_50 _ _ _) ?_)))))))))))))))
 refine wP rfl (wl_nil (we_then (wc_keep [7,4,0,2] (S' := [_,_,_,_]) rfl (wc_false rfl (wc_keep [4,0,2] (S' := [_,_,_]) rfl (wc_seq (wc_region (wP rfl (wN rfl tE_28 (wP rfl (wl_as (d := 13) (v' := .bool (decide (1048576 < l3.length))) (S' := [_,_,_,_,_]) rfl rfl (natgt (a := l3.length) (b := 1048576)) (wP rfl (wl_nil ?_)))))))))))))
 refine we_then (wc_keep [10,4,0,2] (S' := [_,_,_,_]) rfl ?_)
 refine wc_cond rfl (fun hb10 => ?_) (fun hb10 => ?_)
 ·
  replace hm := iteT hm hb10
  refine wc_keep [] (S' := []) rfl (wc_seq (wc_region (wP rfl (wl_nil (we_then (wc_ret (we_block_ret (we_then_ret ?_))))))))
  have hE := (Option.some.inj hm).symm
  obtain ⟨hE0, hE1⟩ := Prod.mk.inj hE
  clear hE
  replace hE0 := hE0.symm
  subst hE0
  replace hE1 := hE1.symm
  subst hE1
  refine ret_one (Hr := [_]) [1] Try.results27 (res_tmp rfl) ⟨rfl, rfl, rfl⟩ (asK [] rfl) rfl rfl (.inl rfl)
 ·
  replace hm := iteF hm hb10
  refine wc_keep [4,0,2] (S' := [_,_,_]) rfl (wc_seq (wc_region (wP rfl (wl_loadH 0 0 rfl rfl rfl (freshS_eq rfl) rfl rfl rfl (cs := [_,_]) rfl tS_57 tA_57 rfl rfl ?_))))
  obtain ⟨hk17_0, hm⟩ := gd_some hm
  obtain ⟨hk17_1, hm⟩ := gd_some hm
  obtain ⟨l17, hl17, hm⟩ := bindO_some hm
  refine wl_lookG (i := (a1, a2)) (l := l17) form_own 1 rfl rfl rfl (freshS_eq rfl) rfl rfl rfl rfl tZG_26 tM_50 ⟨hk17_0, hk17_1⟩ (Option.some.inj hl17) (fun p17 c17 => (wN rfl tE_26 (wP rfl (wl_as (d := 19) (v' := .bool (decide (64 ≤ l17.length))) (S' := [_,_,_,_,_,_,_]) rfl rfl (natge (a := l17.length) (b := 64)) (wP rfl (wl_nil (we_then (wc_keep [14,4,0,2] (S' := [_,_,_,_]) rfl ?_))))))))
  refine wc_cond rfl (fun hb14 => ?_) (fun hb14 => ?_)
  ·
   replace hm := iteT hm hb14
   refine wc_keep [] (S' := []) rfl (wc_seq (wc_region (wP rfl (wl_nil (we_then (wc_ret (we_block_ret (we_then_ret ?_))))))))
   have hE := (Option.some.inj hm).symm
   obtain ⟨hE0, hE1⟩ := Prod.mk.inj hE
   clear hE
   replace hE0 := hE0.symm
   subst hE0
   replace hE1 := hE1.symm
   subst hE1
   refine we_sh [.blk g4 [.int .i64 a1, .int .i64 a2] 57, mapG (keyOfK pairKey57) (Fact.own 28 1 R_l_u8) none qb0 e0] (fun _ h => h.closeG 2 0 rfl rfl rfl (Option.some.inj hl17)) ?_
   skip
   refine ret_one (Hr := [_]) [1] Try.results27 (res_tmp rfl) ⟨rfl, rfl, rfl⟩ (asK [] rfl) rfl rfl (.inl rfl)
  ·
   replace hm := iteF hm hb14
   refine wc_keep [4,0,2] (S' := [_,_,_]) rfl (wc_skip (we_block_normal (we_then (wc_seq ?_))))
   obtain ⟨hg24, hm⟩ := gd_some hm
   skip
   obtain ⟨l26, hl26, hm⟩ := bindO_some hm
   obtain ⟨hg27, hm⟩ := gd_some hm
   refine wc_draw [0,1,2,6,8] rfl rfl (fun hok => (xP hok 0 rfl (wx_loadH hok 1 1 0 rfl rfl rfl (freshS_eq rfl) rfl rfl rfl rfl (cs := [_,_]) rfl tS_57 tA_57 rfl rfl (xP hok 2 rfl (xS hok 3 rfl (wC [] [0,1,2] rfl fn_35 rfl (Clone35f_s qp1 qc2 l3 hg24) (asK [0] rfl) rfl (H' := [_,_,_]) rfl ?_))))))
   rintro _ _ _ ⟨p24, c24, rfl, rfl, rfl⟩
   refine wl_nil (we_x [0] [2] rfl rfl (xS hok 4 rfl (wl_buildSlice rfl rfl rfl (freshS_eq rfl) rfl tE_26 tS_28 tZ_28 rfl (zs := [.slice none 0 0]) (by kernel_rfl) rfl (out := [_]) rfl (fun g25 => (wl_nil (we_x [0] [3] rfl rfl (xS hok 5 rfl (wl_sh [.blk g25 [.slice p24 l3.length c24] 28, .own 5 1 R_u8 (.slice p24 l3.length c24) l3, .blk g4 [.int .i64 a1, .int .i64 a2] 57, mapG (keyOfK pairKey57) (Fact.own 28 1 R_l_u8) none qb0 e0] (fun _ h => h.closeG 4 2 rfl rfl rfl (Option.some.inj hl17)) ?_))))))))
   skip
   refine wl_entryG (i := (a1, a2)) (l := l26) form_own 3 rfl rfl rfl (freshS_eq rfl) rfl rfl rfl rfl tZG_26 tM_50 ⟨hk17_0, hk17_1⟩ (Option.some.inj hl26) (fun p26 c26 g26 => (wl_nil (we_x [0] [] rfl rfl (xP hok 6 rfl (xP hok 8 rfl (xS hok 7 rfl (wl_freeze 2 rfl (H' := [_,_,_,_]) rfl (wl_fact (.sli 1 R_u8 p24 c24 l3) (fun F w hφ => own_sli (hφ _ (mem_at (k := 0) rfl))) (wl_appendH [l3] 0 1 rfl rfl rfl (freshS_eq rfl) rfl rfl rfl rfl rfl (fun F w hφ => ⟨[.slice p24 l3.length c24],[], rfl, rfl, ⟨(p24, c24), rfl, (ask_cons (hφ _ (mem_at (k := 0) rfl)) ask_nil)⟩, rfl⟩) tE_26 tR_28 rfl rfl (Nat.le_trans hg27 (by decide)) (Nat.le_trans (Nat.mul_le_mul_right _ hg27) (by decide)) (H2 := fun p27 c27 => [.own 28 1 R_l_u8 (.slice p27 ((l26 ++ [l3]).length) c27) (l26 ++ [l3]), _,_,_]) (fun _ _ => rfl) (fun p27 c27 => (wl_drop 1 rfl (H' := [_,_,_]) rfl (wl_nil (we_x [2] [1] rfl rfl (xS hok 9 rfl (wl_entryStore (i := (a1, a2)) (u := .slice p27 ((l26 ++ [l3]).length) c27) 2 (l26 ++ [l3]) rfl rfl rfl rfl rfl rfl rfl tM_50 ⟨hk17_0, hk17_1⟩ rfl (H' := [_,_, mapG (keyOfK pairKey57) (Fact.own 28 1 R_l_u8) (some ((a1, a2), .slice p27 ((l26 ++ [l3]).length) c27)) qb0 (mput (a1, a2) (l26 ++ [l3]) e0)]) rfl ?_)))))))))))))))
   refine wl_nil (we_x [0,1,2] [] rfl rfl (wx_done hok rfl (we_then (wc_keep [] (S' := []) rfl (wc_seq (wc_region (wP rfl (wl_nil (we_then (wc_ret ?_))))))))))
   have hE := (Option.some.inj hm).symm
   obtain ⟨hE0, hE1⟩ := Prod.mk.inj hE
   clear hE
   replace hE0 := hE0.symm
   subst hE0
   replace hE1 := hE1.symm
   subst hE1
   refine we_sh [.blk g4 [.int .i64 a1, .int .i64 a2] 57, mapG (keyOfK pairKey57) (Fact.own 28 1 R_l_u8) none qb0 (mput (a1, a2) (l26 ++ [l3]) e0)] (fun _ h => h.closeG 2 0 rfl rfl rfl (by rw [mlook_mput]; rfl)) ?_
   skip
   refine ret_one (Hr := [_]) [1] Try.results27 (res_tmp rfl) ⟨rfl, rfl, rfl⟩ (asK [] rfl) rfl rfl (.inl rfl)
theorem w_net_Net_Double_s (N : Nat) (qg0 : Nat) (qb1 : Nat) (e0 : List ((Int × Int) × List (List Int))) (a1 : Int) (a2 : Int) (a3 : Int) (o0 : Nat) (o1 : List ((Int × Int) × List (List Int))) (hm : m_net_Net_Double N e0 a1 a2 a3 = some (o0, o1)) : Spec Try.prog 12 [.pointer (some ⟨qg0,0, none⟩), .int .i64 a1, .int .i64 a2, .int .i64 a3] [] [.blk qg0 [.map (some qb1)] 54, mapG (keyOfK pairKey57) (Fact.own 28 1 R_l_u8) none qb1 e0] (fun v Φr Hr => v = .int .i64 ((o0 : Nat) : Int) ∧ Φr = [] ∧ Hr = [.blk qg0 [.map (some qb1)] 54, mapG (keyOfK pairKey57) (Fact.own 28 1 R_l_u8) none qb1 o1]) := by
 unfold m_net_Net_Double at hm
 refine spec_of Try.func12 rfl Try.ntmps12 rfl (S := [_,_,_,_]) rfl (fun C => (wc_seq (wc_region (wP rfl (wl_nil (we_then (wc_keep [0,1,2,3] (S' := [_,_,_,_]) rfl (wc_seq (wc_region (wP rfl (wP rfl (wl_buildArr rfl rfl rfl (freshS_eq rfl) rfl tZ_57 tArr_57 rfl (out := [_,_]) rfl (wl_alloc rfl rfl rfl (freshS_eq rfl) rfl tZ_57 rfl (fun g9 => (wS 0 0 rfl tS_57 (all' := [_,_]) rfl (H' := [_,_,_]) rfl ?_)))))))))))))))
 refine wl_nil (we_then (wc_keep [9,0,3] (S' := [_,_,_]) rfl (wc_seq (wc_seq ?_))))
 obtain ⟨_, hc15, hm⟩ := bindO_some hm
 try dsimp only at hm
 obtain ⟨v18, hc18, hm⟩ := bindO_some hm
 refine wc_draw [0,2,3] rfl rfl (fun hok => (xP hok 0 rfl (wx_loadH hok 2 0 0 rfl rfl rfl (freshS_eq rfl) rfl rfl rfl rfl (cs := [_,_]) rfl tS_57 tA_57 rfl rfl (xP hok 3 rfl (xS hok 1 rfl (wC [1,2] [0] rfl fn_24 rfl (w_net_Net_all_s N qg0 qb1 e0 hc15) (asK [] rfl) rfl (H' := [_]) rfl ?_))))))
 rintro _ _ _ ⟨rfl, rfl, rfl⟩
 refine wl_nil (we_x [] [2] rfl rfl (xS hok 4 rfl (wC [0] [1,2] rfl fn_26 rfl (w_net_bags_at_s N qb1 e0 a1 a2 a3 _ hc18) (asK [] rfl) rfl (H' := [_,_]) rfl ?_)))
 rintro _ _ _ ⟨rfl, rfl, rfl⟩
 refine wl_nil (we_x [] [] rfl rfl (xS hok 5 rfl (wP rfl (wl_nil (we_x [] [] rfl rfl (wx_done hok rfl (we_then (wc_keep [10,9,0,3] (S' := [_,_,_,_]) rfl (wc_seq (wc_region (wP rfl (wP rfl (wl_as (d := 20) (v' := .bool (v18 != 0)) (S' := [_,_,_,_,_]) rfl rfl (natne (a := v18) (b := 0)) ?_)))))))))))))
 refine wl_nil (we_then (wc_keep [20,10,9,0,3] (S' := [_,_,_,_,_]) rfl ?_))
 refine wc_cond rfl (fun hb20 => ?_) (fun hb20 => ?_)
 ·
  replace hm := iteT hm hb20
  refine wc_keep [10] (S' := [_]) rfl (wc_seq (wc_region (wP rfl (wP rfl (wl_nil (we_then (wc_keep [8] (S' := [_]) rfl (wc_ret (we_then_ret ?_)))))))))
  have hE := (Option.some.inj hm).symm
  obtain ⟨hE0, hE1⟩ := Prod.mk.inj hE
  clear hE
  replace hE0 := hE0.symm
  subst hE0
  replace hE1 := hE1.symm
  subst hE1
  refine ret_one (Hr := [_,_]) [1,0] Try.results12 (res_tmp rfl) ⟨rfl, rfl, rfl⟩ (asK [] rfl) rfl rfl (.inl rfl)
 ·
  replace hm := iteF hm hb20
  refine wc_keep [9,0,3] (S' := [_,_,_]) rfl (wc_skip (we_then (wc_seq ?_)))
  obtain ⟨_, hc23, hm⟩ := bindO_some hm
  try dsimp only at hm
  obtain ⟨_, hc26, hm⟩ := bindO_some hm
  try dsimp only at hm
  obtain ⟨hk28_0, hm⟩ := gd_some hm
  obtain ⟨hk28_1, hm⟩ := gd_some hm
  obtain ⟨l28, hl28, hm⟩ := bindO_some hm
  obtain ⟨hn30, hm⟩ := gd_some hm
  obtain ⟨x30, hx30, hm⟩ := bindO_some hm
  skip
  obtain ⟨⟨v32_0, v32_1⟩, hc32, hm⟩ := bindO_some hm
  try dsimp only at hm
  refine wc_draw [0,2,3,5,7,8] rfl rfl (fun hok => (xP hok 0 rfl (wx_loadH hok 2 2 0 rfl rfl rfl (freshS_eq rfl) rfl rfl rfl rfl (cs := [_,_]) rfl tS_57 tA_57 rfl rfl (xP hok 3 rfl (wx_loadH hok 5 2 0 rfl rfl rfl (freshS_eq rfl) rfl rfl rfl rfl (cs := [_,_]) rfl tS_57 tA_57 rfl rfl (xP hok 7 rfl (xS hok 1 rfl (wC [1,0] [2] rfl fn_24 rfl (w_net_Net_all_s N qg0 qb1 e0 hc23) (asK [] rfl) rfl (H' := [_]) rfl ?_))))))))
  rintro _ _ _ ⟨rfl, rfl, rfl⟩
  refine wl_nil (we_x [] [2,2] rfl rfl (xS hok 4 rfl (wC [1,0] [2] rfl fn_24 rfl (w_net_Net_all_s N qg0 qb1 e0 hc26) (asK [] rfl) rfl (H' := [_]) rfl ?_)))
  rintro _ _ _ ⟨rfl, rfl, rfl⟩
  refine wl_nil (we_x [] [2,2] rfl rfl (xS hok 6 rfl (wl_lookG (i := (a1, a2)) (l := l28) form_own 0 rfl rfl rfl (freshS_eq rfl) rfl rfl rfl rfl tZG_26 tM_50 ⟨hk28_0, hk28_1⟩ (Option.some.inj hl28) (fun p28 c28 => (wl_nil (we_x [] [3] rfl rfl (wx_indexH hok 8 0 a3.toNat rfl rfl rfl (freshS_eq rfl) rfl rfl rfl rfl rfl (toNat_eq hn30) (get_lt hx30) tE_26 tS_28 (fun g30 eg30 => ?_))))))))
  subst eg30
  refine xS hok 9 rfl (wl_loadRow R_l_u8_opens 0 a3.toNat 0 rfl rfl rfl (freshS_eq rfl) rfl rfl rfl hx30 tS_28 tA_28 (v := fun r31 => .slice r31.1 x30.length r31.2) (fun _ => rfl) (fun _ => rfl) (fun r31 _ => (wl_nil (we_x [] [3,3] rfl rfl (xS hok 10 rfl (wl_sh [mapG (keyOfK pairKey57) (Fact.own 28 1 R_l_u8) none qb1 e0, .blk qg0 [.map (some qb1)] 54, .blk g9 [.int .i64 a1, .int .i64 a2] 57] (fun _ h => h.closeG 1 0 rfl rfl rfl (Option.some.inj hl28)) ?_))))))
  skip
  refine wC [0] [1,2] rfl fn_27 rfl (w_net_bags_put_s N qb1 e0 a1 a2 r31.1 r31.2 x30 _ _ hc32) (asK [0] rfl) rfl (H' := [_,_]) rfl ?_
  rintro _ _ _ ⟨rfl, rfl, rfl⟩
  refine wl_nil (we_x [0] [2] rfl rfl (xS hok 11 rfl (wP rfl (wl_nil (we_x [0] [] rfl rfl (wx_done hok rfl (we_then (wc_keep [8] (S' := [_]) rfl (wc_ret ?_)))))))))
  have hE := (Option.some.inj hm).symm
  obtain ⟨hE0, hE1⟩ := Prod.mk.inj hE
  clear hE
  replace hE0 := hE0.symm
  subst hE0
  replace hE1 := hE1.symm
  subst hE1
  refine ret_one (Hr := [_,_]) [1,0] Try.results12 (res_tmp rfl) ⟨rfl, rfl, rfl⟩ (asK [] rfl) rfl rfl (.inl rfl)
theorem w_net_Net_Send_s (N : Nat) (qg0 : Nat) (qb1 : Nat) (e0 : List ((Int × Int) × List (List Int))) (a1 : Int) (a2 : Int) (qp2 : Option Addr) (qc3 : Nat) (l3 : List Int) (o0 : Nat) (o1 : List ((Int × Int) × List (List Int))) (hm : m_net_Net_Send N e0 a1 a2 l3 = some (o0, o1)) : Spec Try.prog 13 [.pointer (some ⟨qg0,0, none⟩), .int .i64 a1, .int .i64 a2, .slice qp2 l3.length qc3] [.sli 1 R_u8 qp2 qc3 l3] [.blk qg0 [.map (some qb1)] 54, mapG (keyOfK pairKey57) (Fact.own 28 1 R_l_u8) none qb1 e0] (fun v Φr Hr => v = .int .i64 ((o0 : Nat) : Int) ∧ Φr = [] ∧ Hr = [.blk qg0 [.map (some qb1)] 54, mapG (keyOfK pairKey57) (Fact.own 28 1 R_l_u8) none qb1 o1]) := by
 unfold m_net_Net_Send at hm
 refine spec_of Try.func13 rfl Try.ntmps13 rfl (S := [_,_,_,_]) rfl (fun C => (wc_seq (wc_region (wP rfl (wl_nil (we_then (wc_keep [0,1,2,3] (S' := [_,_,_,_]) rfl (wc_seq (wc_region (wP rfl ?_))))))))))
 obtain ⟨_, hc10, hm⟩ := bindO_some hm
 try dsimp only at hm
 refine wC [0,1] [] rfl fn_24 rfl (w_net_Net_all_s N qg0 qb1 e0 hc10) (asK [] rfl) rfl (H' := []) rfl ?_
 rintro _ _ _ ⟨rfl, rfl, rfl⟩
 refine wP rfl (wP rfl (wl_buildArr rfl rfl rfl (freshS_eq rfl) rfl tZ_57 tArr_57 rfl (out := [_,_]) rfl (wP rfl ?_)))
 obtain ⟨⟨v15_0, v15_1⟩, hc15, hm⟩ := bindO_some hm
 try dsimp only at hm
 refine wC [0] [1] rfl fn_27 rfl (w_net_bags_put_s N qb1 e0 a1 a2 qp2 qc3 l3 _ _ hc15) (asK [0] rfl) rfl (H' := [_]) rfl ?_
 rintro _ _ _ ⟨rfl, rfl, rfl⟩
 refine wP rfl (wl_nil (we_then (wc_keep [8] (S' := [_]) rfl (wc_ret ?_))))
 have hE := (Option.some.inj hm).symm
 obtain ⟨hE0, hE1⟩ := Prod.mk.inj hE
 clear hE
 replace hE0 := hE0.symm
 subst hE0
 replace hE1 := hE1.symm
 subst hE1
 refine ret_one (Hr := [_,_]) [1,0] Try.results13 (res_tmp rfl) ⟨rfl, rfl, rfl⟩ (asK [] rfl) rfl rfl (.inl rfl)
theorem w_net_bags_Count_s (N : Nat) (qb0 : Nat) (e0 : List ((Int × Int) × List (List Int))) (a1 : Int) (a2 : Int) (o0 : Nat) (hm : m_net_bags_Count N e0 a1 a2 = some o0) : Spec Try.prog 28 [.map (some qb0), .int .i64 a1, .int .i64 a2] [] [mapG (keyOfK pairKey57) (Fact.own 28 1 R_l_u8) none qb0 e0] (fun v Φr Hr => v = .int .i64 ((o0 : Nat) : Int) ∧ Φr = [] ∧ Hr = [mapG (keyOfK pairKey57) (Fact.own 28 1 R_l_u8) none qb0 e0]) := by
 unfold m_net_bags_Count at hm
 refine spec_of Try.func28 rfl Try.ntmps28 rfl (S := [_,_,_]) rfl (fun C => (wc_seq (wc_region (wP rfl (wl_nil (we_then (wc_keep [0,1,2] (S' := [_,_,_]) rfl (wc_seq (wc_region (wP rfl (wP rfl (wP rfl (wl_buildArr rfl rfl rfl (freshS_eq rfl) rfl tZ_57 tArr_57 rfl (out := [_,_]) rfl ?_)))))))))))))
 obtain ⟨hk11_0, hm⟩ := gd_some hm
 obtain ⟨hk11_1, hm⟩ := gd_some hm
 obtain ⟨l11, hl11, hm⟩ := bindO_some hm
 refine wl_lookG (i := (a1, a2)) (l := l11) form_own 0 rfl rfl rfl (freshS_eq rfl) rfl rfl rfl rfl tZG_26 tM_50 ⟨hk11_0, hk11_1⟩ (Option.some.inj hl11) (fun p11 c11 => (wN rfl tE_26 (wP rfl (wl_nil (we_then (wc_keep [6] (S' := [_]) rfl (wc_ret ?_)))))))
 have hE := (Option.some.inj hm).symm
 replace hE := hE.symm
 subst hE
 refine we_sh [mapG (keyOfK pairKey57) (Fact.own 28 1 R_l_u8) none qb0 e0] (fun _ h => h.closeG 1 0 rfl rfl rfl (Option.some.inj hl11)) ?_
 skip
 refine ret_one (Hr := [_]) [0] Try.results28 (res_tmp rfl) ⟨rfl, rfl, rfl⟩ (asK [] rfl) rfl rfl (.inl rfl)
theorem w_net_Net_Count_s (N : Nat) (qg0 : Nat) (qb1 : Nat) (e0 : List ((Int × Int) × List (List Int))) (a1 : Int) (a2 : Int) (o0 : Nat) (hm : m_net_Net_Count N e0 a1 a2 = some o0) : Spec Try.prog 15 [.pointer (some ⟨qg0,0, none⟩), .int .i64 a1, .int .i64 a2] [] [.blk qg0 [.map (some qb1)] 54, mapG (keyOfK pairKey57) (Fact.own 28 1 R_l_u8) none qb1 e0] (fun v Φr Hr => v = .int .i64 ((o0 : Nat) : Int) ∧ Φr = [] ∧ Hr = [.blk qg0 [.map (some qb1)] 54, mapG (keyOfK pairKey57) (Fact.own 28 1 R_l_u8) none qb1 e0]) := by
 unfold m_net_Net_Count at hm
 refine spec_of Try.func15 rfl Try.ntmps15 rfl (S := [_,_,_]) rfl (fun C => (wc_seq (wc_region (wP rfl (wl_nil (we_then (wc_keep [0,1,2] (S' := [_,_,_]) rfl (wc_seq (wc_region (wP rfl ?_))))))))))
 obtain ⟨_, hc8, hm⟩ := bindO_some hm
 try dsimp only at hm
 refine wC [0,1] [] rfl fn_24 rfl (w_net_Net_all_s N qg0 qb1 e0 hc8) (asK [] rfl) rfl (H' := []) rfl ?_
 rintro _ _ _ ⟨rfl, rfl, rfl⟩
 refine wP rfl (wP rfl ?_)
 obtain ⟨v11, hc11, hm⟩ := bindO_some hm
 refine wC [0] [1] rfl fn_28 rfl (w_net_bags_Count_s N qb1 e0 a1 a2 _ hc11) (asK [] rfl) rfl (H' := [_]) rfl ?_
 rintro _ _ _ ⟨rfl, rfl, rfl⟩
 refine wP rfl (wl_nil (we_then (wc_keep [6] (S' := [_]) rfl (wc_ret ?_))))
 have hE := (Option.some.inj hm).symm
 replace hE := hE.symm
 subst hE
 refine ret_one (Hr := [_,_]) [1,0] Try.results15 (res_tmp rfl) ⟨rfl, rfl, rfl⟩ (asK [] rfl) rfl rfl (.inl rfl)
theorem w_cmp_isNaN_int_s (N : Nat) (a0 : Int)  (hm : m_cmp_isNaN_int N a0 = some ()) : Spec Try.prog 43 [.int .i64 a0] [] [] (fun v Φr Hr => v = .bool (a0 != a0) ∧ Φr = [] ∧ Hr = []) := by
 unfold m_cmp_isNaN_int at hm
 refine spec_of Try.func43 rfl Try.ntmps43 rfl (S := [_]) rfl (fun C => (wc_seq (wc_region (wP rfl (wl_nil (we_then (wc_keep [0] (S' := [_]) rfl (wc_seq (wc_region (wP rfl (wP rfl (wP rfl (wP rfl (wl_nil ?_))))))))))))))
 refine we_then (wc_keep [2] (S' := [_]) rfl (wc_ret ?_))
 have hE := (Option.some.inj hm).symm
 refine ret_one (Hr := []) [] Try.results43 (res_tmp rfl) ⟨rfl, rfl, rfl⟩ (asK [] rfl) rfl rfl (.inl rfl)
theorem w_cmp_Compare_int_s (N : Nat) (a0 : Int) (a1 : Int) (o0 : Int) (hm : m_cmp_Compare_int N a0 a1 = some o0) : Spec Try.prog 40 [.int .i64 a0, .int .i64 a1] [] [] (fun v Φr Hr => v = .int .i64 o0 ∧ Φr = [] ∧ Hr = []) := by
 unfold m_cmp_Compare_int at hm
 refine spec_of Try.func40 rfl Try.ntmps40 rfl (S := [_,_]) rfl (fun C => (wc_seq (wc_region (wP rfl (wl_nil (we_then (wc_keep [0,1] (S' := [_,_]) rfl (wc_seq (wc_region (wP rfl ?_))))))))))
 obtain ⟨_, hc8, hm⟩ := bindO_some hm
 try dsimp only at hm
 refine wC [] [] rfl fn_43 rfl (w_cmp_isNaN_int_s N a0 hc8) (asK [] rfl) rfl (H' := []) rfl ?_
 rintro _ _ _ ⟨rfl, rfl, rfl⟩
 refine wP rfl (wl_nil (we_then (wc_keep [5,0,1] (S' := [_,_,_]) rfl (wc_seq (wc_region (wP rfl ?_))))))
 obtain ⟨_, hc10, hm⟩ := bindO_some hm
 try dsimp only at hm
 refine wC [] [] rfl fn_43 rfl (w_cmp_isNaN_int_s N a1 hc10) (asK [] rfl) rfl (H' := []) rfl ?_
 rintro _ _ _ ⟨rfl, rfl, rfl⟩
 refine wP rfl (wl_nil (we_then (wc_keep [6,5,0,1] (S' := [_,_,_,_]) rfl (wc_seq (wc_seq (wc_region (wP rfl (wl_nil (we_then (wc_keep [11,6,0,1] (S' := [_,_,_,_]) rfl ?_))))))))))
 refine wc_cond rfl (fun hb11 => ?_) (fun hb11 => ?_)
 ·
  replace hm := iteT hm hb11
  refine wc_keep [6] (S' := [_]) rfl (wc_seq (wc_seq (wc_region (wP rfl (wl_nil (we_then (wc_keep [12] (S' := [_]) rfl ?_)))))))
  refine wc_cond rfl (fun hb12 => ?_) (fun hb12 => ?_)
  ·
   replace hm := iteT hm hb12
   refine wc_keep [] (S' := []) rfl (wc_seq (wc_region (wP rfl (wl_nil (we_then (wc_ret (we_then_ret (we_then_ret ?_))))))))
   have hE := (Option.some.inj hm).symm
   replace hE := hE.symm
   subst hE
   refine ret_one (Hr := []) [] Try.results40 (res_tmp rfl) ⟨rfl, rfl, rfl⟩ (asK [] rfl) rfl rfl (.inl rfl)
  ·
   replace hm := iteF hm hb12
   refine wc_keep [] (S' := []) rfl (wc_skip (we_then (wc_seq (wc_region (wP rfl (wl_nil (we_then (wc_ret (we_then_ret ?_)))))))))
   have hE := (Option.some.inj hm).symm
   replace hE := hE.symm
   subst hE
   refine ret_one (Hr := []) [] Try.results40 (res_tmp rfl) ⟨rfl, rfl, rfl⟩ (asK [] rfl) rfl rfl (.inl rfl)
 ·
  replace hm := iteF hm hb11
  refine wc_keep [6,0,1] (S' := [_,_,_]) rfl (wc_skip (we_then (wc_seq (wc_seq (wc_region (wP rfl (wl_nil (we_then (wc_keep [13,0,1] (S' := [_,_,_]) rfl ?_)))))))))
  refine wc_cond rfl (fun hb13 => ?_) (fun hb13 => ?_)
  ·
   replace hm := iteT hm hb13
   refine wc_keep [] (S' := []) rfl (wc_seq (wc_region (wP rfl (wl_nil (we_then (wc_ret (we_then_ret ?_)))))))
   have hE := (Option.some.inj hm).symm
   replace hE := hE.symm
   subst hE
   refine ret_one (Hr := []) [] Try.results40 (res_tmp rfl) ⟨rfl, rfl, rfl⟩ (asK [] rfl) rfl rfl (.inl rfl)
  ·
   replace hm := iteF hm hb13
   refine wc_keep [0,1] (S' := [_,_]) rfl (wc_skip (we_then (wc_seq (wc_seq (wc_region (wP rfl (wP rfl (wP rfl (wl_nil (we_then (wc_keep [16,0,1] (S' := [_,_,_]) rfl ?_)))))))))))
   refine wc_cond rfl (fun hb16 => ?_) (fun hb16 => ?_)
   ·
    replace hm := iteT hm hb16
    refine wc_keep [] (S' := []) rfl (wc_seq (wc_region (wP rfl (wl_nil (we_then (wc_ret (we_then_ret ?_)))))))
    have hE := (Option.some.inj hm).symm
    replace hE := hE.symm
    subst hE
    refine ret_one (Hr := []) [] Try.results40 (res_tmp rfl) ⟨rfl, rfl, rfl⟩ (asK [] rfl) rfl rfl (.inl rfl)
   ·
    replace hm := iteF hm hb16
    refine wc_keep [0,1] (S' := [_,_]) rfl (wc_skip (we_then (wc_seq (wc_seq (wc_region (wP rfl (wP rfl (wP rfl (wl_nil (we_then (wc_keep [19] (S' := [_]) rfl ?_)))))))))))
    refine wc_cond rfl (fun hb19 => ?_) (fun hb19 => ?_)
    ·
     replace hm := iteT hm hb19
     refine wc_keep [] (S' := []) rfl (wc_seq (wc_region (wP rfl (wl_nil (we_then (wc_ret (we_then_ret ?_)))))))
     have hE := (Option.some.inj hm).symm
     replace hE := hE.symm
     subst hE
     refine ret_one (Hr := []) [] Try.results40 (res_tmp rfl) ⟨rfl, rfl, rfl⟩ (asK [] rfl) rfl rfl (.inl rfl)
    ·
     replace hm := iteF hm hb19
     refine wc_keep [] (S' := []) rfl (wc_skip (we_then (wc_seq (wc_region (wP rfl (wl_nil (we_then (wc_ret ?_))))))))
     have hE := (Option.some.inj hm).symm
     replace hE := hE.symm
     subst hE
     refine ret_one (Hr := []) [] Try.results40 (res_tmp rfl) ⟨rfl, rfl, rfl⟩ (asK [] rfl) rfl rfl (.inl rfl)
theorem w_cmp_Or_int_s (N : Nat) (qp0 : Option Addr) (qc1 : Nat) (l0 : List Int) (o0 : Int) (hm : m_cmp_Or_int N l0 = some o0) : Spec Try.prog 39 [.slice qp0 l0.length qc1] [.sli 1 R_i64 qp0 qc1 l0] [] (fun v Φr Hr => v = .int .i64 o0 ∧ Φr = [] ∧ Hr = []) := by
 unfold m_cmp_Or_int at hm
 refine spec_of Try.func39 rfl Try.ntmps39 rfl (S := [_]) rfl (fun C => (wc_seq (wc_region (wP rfl (wl_nil (we_then (wc_keep [0] (S' := [_]) rfl (wc_seq (wc_region (wP rfl (wl_nil (we_then (wc_seq ?_)))))))))))))
 obtain ⟨bj_1, hm, hLj_1⟩ := bindS_some hm
 refine wc_cut (σ := Unit) (fun _ => bj_1 = .inl ()) (fun _ => [(3, .int .i64 0)]) (fun _ => []) (fun _ => []) ?_ ?_
 ·
  refine wc_seq (wc_region (wP rfl (wN rfl tE_73 (wP rfl (wl_nil (we_then (wc_keep [8,7,6,3] (S' := [_,_,_,_]) rfl (wc_block (wc_loop (σ := Nat × Nat) (fun (nu1, u1_8) => iter (m_cmp_Or_int_L1 N l0) nu1 u1_8 = some bj_1) (fun (nu1, u1_8) => nu1) (fun (nu1, u1_8) => [(8, .int .i64 ((u1_8 : Nat) : Int)), (7, .int .i64 ((l0.length : Nat) : Int)), (6, .slice qp0 l0.length qc1), (3, .int .i64 0)]) (fun (nu1, u1_8) => [.sli 1 R_i64 qp0 qc1 l0]) (fun (nu1, u1_8) => []) (N, 0) hm [8,7,6,3] rfl (asK [0] rfl) rfl (fun s_ hm => ?_))))))))))
  obtain ⟨nu1, u1_8⟩ := s_
  try dsimp only at hm ⊢
  obtain ⟨mu1, bu1, hnu1, hq, hLu1⟩ := iter_some hm
  clear hm
  subst hnu1
  replace hm := hq
  clear hq
  unfold m_cmp_Or_int_L1 at hm
  try dsimp only at hm
  refine wc_seq (wc_region (wP rfl (wl_as (d := 9) (v' := .bool (decide (u1_8 < l0.length))) (S' := [_,_,_,_]) rfl rfl (natlt (a := u1_8) (b := l0.length)) (wl_nil (we_then (wc_seq ?_))))))
  refine wc_cond rfl (fun hb9 => ?_) (fun hb9 => ?_)
  ·
   replace hm := iteT hm hb9
   refine wc_keep [8,7,6,3] (S' := [_,_,_,_]) rfl (wc_skip (we_then (wc_seq (wc_block (wc_seq (wc_region ?_))))))
   obtain ⟨x10, hx10, hm⟩ := bindO_some hm
   refine wl_indexA 0 u1_8 rfl rfl rfl (freshS_eq rfl) rfl rfl rfl rfl rfl hx10 tE_73 tS_3 (fun b10 q10 cs10 hlx10 => (wl_open R_i64_opens 1 rfl (fun r10 er10 _ => ?_)))
   subst er10
   refine wl_load 0 0 rfl rfl rfl (freshS_eq rfl) rfl rfl rfl (cs := [_]) rfl tS_3 tA_3 rfl rfl (wP rfl (wl_nil (we_then (wc_keep [5,8,7,6,3] (S' := [_,_,_,_,_]) rfl (wc_seq (wc_region (wP rfl (wP rfl (wP rfl (wl_nil (we_then (wc_keep [14,5,8,7,6,3] (S' := [_,_,_,_,_,_]) rfl ?_))))))))))))
   refine wc_cond rfl (fun hb14 => ?_) (fun hb14 => ?_)
   ·
    replace hm := iteT hm hb14
    refine wc_keep [5] (S' := [_]) rfl (wc_seq (wc_region (wP rfl (wP rfl (wl_nil (we_then (wc_keep [2] (S' := [_]) rfl (wc_ret (we_block_ret (we_then_ret (we_then_ret (we_block_ret (we_then_ret ?_)))))))))))))
    have hE := (Option.some.inj hm).symm
    replace hE := link_inr hLu1 hE
    replace hE := link_inr hLj_1 hE
    replace hE := hE.symm
    subst hE
    refine ret_one (Hr := []) [] Try.results39 (res_tmp rfl) ⟨rfl, rfl, rfl⟩ (asK [] rfl) rfl rfl (.inl rfl)
   ·
    replace hm := iteF hm hb14
    refine wc_keep [8,7,6,3] (S' := [_,_,_,_]) rfl (wc_skip (we_block_normal (we_then (wc_region (wP rfl ?_)))))
    obtain ⟨hg16, hm⟩ := gd_some hm
    refine wl_as (d := 16) (v' := .int .i64 ((u1_8 + 1 : Nat) : Int)) (S' := [_,_,_,_]) rfl rfl (nat_add (a := u1_8) (b := 1) hg16) (wl_pure (S' := [_,_,_,_]) rfl rfl rfl rfl rfl (wl_nil ?_))
    have hE := (Option.some.inj hm).symm
    replace hE := link_inl hLu1 hE
    refine we_roundK (_, u1_8 + 1) (Nat.lt_succ_self _) hE [8,7,6,3] rfl (asK [2] rfl) rfl
  ·
   replace hm := iteF hm hb9
   refine wc_keep [3] (S' := [_]) rfl (wc_exit (we_then_exit (we_then_exit (we_block_hit ?_))))
   have hE := (Option.some.inj hm).symm
   replace hE := link_inr hLu1 hE
   refine we_join () hE [3] rfl (asK [] rfl) rfl
 ·
  rintro _ hE
  try dsimp only
  have hm := link_inl hLj_1 hE
  try dsimp only at hm
  refine wc_seq (wc_region (wP rfl (wP rfl (wl_nil (we_then (wc_keep [2] (S' := [_]) rfl (wc_ret ?_)))))))
  have hE := (Option.some.inj hm).symm
  replace hE := hE.symm
  subst hE
  refine ret_one (Hr := []) [] Try.results39 (res_tmp rfl) ⟨rfl, rfl, rfl⟩ (asK [] rfl) rfl rfl (.inl rfl)
theorem w_net_bags_Links_1_s (N : Nat) (a0 : Int) (a1 : Int) (a2 : Int) (a3 : Int) (o0 : Int) (hm : m_net_bags_Links_1 N a0 a1 a2 a3 = some o0) : Spec Try.prog 38 [.agg #[.int .i64 a0, .int .i64 a1], .agg #[.int .i64 a2, .int .i64 a3]] [] [] (fun v Φr Hr => v = .int .i64 o0 ∧ Φr = [] ∧ Hr = []) := by
 unfold m_net_bags_Links_1 at hm
 refine spec_of Try.func38 rfl Try.ntmps38 rfl (S := [_,_]) rfl (fun C => (wc_seq (wc_region (wB rfl (fun g2 => (wB rfl (fun g3 => (wP rfl (wl_nil (we_then (wc_keep [3,2] (S' := [_,_]) rfl (wc_seq ?_))))))))))))
 obtain ⟨v9, hc9, hm⟩ := bindO_some hm
 obtain ⟨v14, hc14, hm⟩ := bindO_some hm
 obtain ⟨v16, hc16, hm⟩ := bindO_some hm
 refine wc_draw [0,1,2,3,5,6,7,8] rfl rfl (fun hok => (wx_reck hok 0 rfl rfl rfl (freshS_eq rfl) rfl (rk_arrAt 0 rfl rfl rfl rfl (by decide) tAE_48 tS_3) (wx_loadH hok 1 1 0 rfl rfl rfl (freshS_eq rfl) rfl rfl rfl rfl (cs := [_]) rfl tS_3 tA_3 rfl rfl (wx_reck hok 2 rfl rfl rfl (freshS_eq rfl) rfl (rk_arrAt 0 rfl rfl rfl rfl (by decide) tAE_48 tS_3) (wx_loadH hok 3 0 0 rfl rfl rfl (freshS_eq rfl) rfl rfl rfl rfl (cs := [_]) rfl tS_3 tA_3 rfl rfl (wx_reck hok 5 rfl rfl rfl (freshS_eq rfl) rfl (rk_arrAt 1 rfl rfl rfl rfl (by decide) tAE_48 tS_3) (wx_loadH hok 6 1 1 rfl rfl rfl (freshS_eq rfl) rfl rfl rfl rfl (cs := [_]) rfl tS_3 tA_3 rfl rfl (wx_reck hok 7 rfl rfl rfl (freshS_eq rfl) rfl (rk_arrAt 1 rfl rfl rfl rfl (by decide) tAE_48 tS_3) (wx_loadH hok 8 0 1 rfl rfl rfl (freshS_eq rfl) rfl rfl rfl rfl (cs := [_]) rfl tS_3 tA_3 rfl rfl (xS hok 4 rfl (wC [] [0,1] rfl fn_40 rfl (w_cmp_Compare_int_s N a0 a2 _ hc9) (asK [] rfl) rfl (H' := [_,_]) rfl ?_)))))))))))
 rintro _ _ _ ⟨rfl, rfl, rfl⟩
 refine wl_nil (we_x [] [0,1] rfl rfl (xS hok 9 rfl (wC [] [0,1] rfl fn_40 rfl (w_cmp_Compare_int_s N a1 a3 _ hc14) (asK [] rfl) rfl (H' := [_,_]) rfl ?_)))
 rintro _ _ _ ⟨rfl, rfl, rfl⟩
 refine wl_nil (we_x [] [0,1] rfl rfl (xS hok 10 rfl (wl_buildSlice rfl rfl rfl (freshS_eq rfl) rfl tE_73 tS_3 tZ_3 rfl (zs := [.int .i64 0, .int .i64 0]) (by kernel_rfl) rfl (out := [_,_]) rfl (fun g15 => (wl_nil (we_x [] [1,2,1,2] rfl rfl (xS hok 11 rfl (wl_row (sz := 1) (m := 2) R_i64 ([v9, v14]) 0 rfl (fun F w hφ => ⟨[.int .i64 v9],[.int .i64 v14], rfl, rfl, ⟨(), rfl, ask_nil⟩, ⟨[.int .i64 v14],[], rfl, rfl, ⟨(), rfl, ask_nil⟩, rfl⟩⟩) rfl (by decide) (H' := [_,_,_]) rfl (wl_lend [] [0,1,2] [0] rfl rfl rfl (freshS_eq rfl) rfl rfl fn_39 rfl (w_cmp_Or_int_s N (some ⟨g15,0, none⟩) 2 [v9, v14] _ hc16) (fun F w hφ hh => (ask_cons (own_sli (hh _ (mem_at (k := 0) rfl))) ask_nil)) (fun _ _ _ hR => by obtain ⟨rfl, rfl, rfl⟩ := hR; exact ⟨rfl, (fun _ h => free_nil h)⟩) rfl rfl (H' := [_,_,_]) rfl ?_)))))))))
 rintro _ _ _ ⟨rfl, rfl, rfl⟩
 refine wl_nil (we_x [] [1,2,1,2] rfl rfl (xS hok 12 rfl (wP rfl (wl_nil (we_x [] [] rfl rfl (wx_done hok rfl (we_then (wc_keep [4] (S' := [_]) rfl (wc_ret ?_)))))))))
 have hE := (Option.some.inj hm).symm
 replace hE := hE.symm
 subst hE
 refine ret_one (Hr := []) [] Try.results38 (res_tmp rfl) ⟨rfl, rfl, rfl⟩ (asK [] rfl) rfl rfl (.inl rfl)
theorem linksG_33 (N : Nat) (b : Nat) (e0 : List ((Int × Int) × List (List Int))) (o2 : List (Int × Int)) (hlen : e0.length ≤ 8796093022208) (hm : sortM (fun x_ y_ => m_net_bags_Links_1 N x_.1 x_.2 y_.1 y_.2) (List.map (fun x : (Int × Int) × List (List Int) => x.1) e0) = some o2) :
    Spec Try.prog 33 [.map (some b)] [] [mapG (keyOfK pairKey57) (Fact.own 28 1 R_l_u8) none b e0] (fun v Φr Hr => ∃ (p : Option Addr) (c n : Nat), v = .slice p n c ∧ Φr = [] ∧ Hr = [.own 48 2 R_a2_i64 (.slice p n c) o2, mapG (keyOfK pairKey57) (Fact.own 28 1 R_l_u8) none b e0]) := by
 refine spec_of Try.func33 rfl Try.ntmps33 rfl (S := [_]) rfl (fun C => (wc_seq (wc_region (wP rfl (wl_nil (we_then (wc_keep [0] (S' := [_]) rfl (wc_seq (wc_region (wP rfl (wl_nil (we_then (wc_seq (wc_partG 0 rfl (fun zs hzs => ?_)))))))))))))))
 refine wc_cut (σ := (List (Int × Int)) × (Option Addr) × Nat × Nat) (fun (l, p, c, n) => l.Perm (e0.map fun x => x.1)) (fun (l, p, c, n) => [(3, .slice p n c)]) (fun _ => []) (fun (l, p, c, n) => [.own 48 2 R_a2_i64 (.slice p n c) l, rowsG (Fact.own 28 1 R_l_u8) zs e0, mapP (keyOfK pairKey57) false valRep b zs]) ?_ ?_
 · refine wc_seq (wc_region (wP rfl (wl_rangeP 1 rfl rfl rfl (freshS_eq rfl) rfl rfl rfl tM_50 (fun g6 => (wl_sh [rowsG (Fact.own 28 1 R_l_u8) zs e0, mapIt (keyOfK pairKey57) false valRep b g6 zs (List.map (fun x : (Int × Int) × Value => x.1) zs) none] (fun _ h => h) (wl_nil (we_then (wc_keep [6,3] (S' := [_,_]) rfl (wc_block (wc_rowNil 48 2 R_a2_i64 ?_))))))))))
   refine wc_loop (σ := (List (Int × Int)) × (List (Int × Int)) × (Option Addr) × Nat × Nat) (fun (l, td, p, c, n) => (l ++ td).Perm (e0.map fun x => x.1)) (fun (l, td, p, c, n) => td.length) (fun (l, td, p, c, n) => [(6, .pointer (some ⟨g6,0, none⟩)), (3, .slice p n c)]) (fun _ => []) (fun (l, td, p, c, n) => [.own 48 2 R_a2_i64 (.slice p n c) l, rowsG (Fact.own 28 1 R_l_u8) zs e0, mapIt (keyOfK pairKey57) false valRep b g6 zs td none]) ([], (List.map (fun x : (Int × Int) × Value => x.1) zs), none, 0,0) (by simpa using hzs) [6,3] rfl (asK [] rfl) rfl (fun s_ hok => ?_)
   obtain ⟨l, td, p, c, n⟩ := s_
   dsimp only at hok ⊢
   refine wc_seq (wc_region ?_)
   refine wl_nextP 2 rfl rfl rfl (freshS_eq rfl) rfl rfl rfl (fun htd => ?_) (fun k kv hk => ?_)
   · subst htd
     refine wl_sh [.own 48 2 R_a2_i64 (.slice p n c) l, rowsG (Fact.own 28 1 R_l_u8) zs e0, mapP (keyOfK pairKey57) false valRep b zs] (fun _ h => h) (wP rfl (wl_nil (we_then (wc_keep [8,6,3] (S' := [_,_,_]) rfl (wc_seq (wc_false rfl (wc_keep [3] (S' := [_]) rfl (wc_exit (we_then_exit (we_then_exit (we_block_hit ?_)))))))))))
     exact we_join (l, p, c, n) (by simpa using hok) [3] rfl (asK [] rfl) rfl
   · refine wl_sh [.own 48 2 R_a2_i64 (.slice p n c) l, rowsG (Fact.own 28 1 R_l_u8) zs e0, mapIt (keyOfK pairKey57) false valRep b g6 zs (rmK td k) (some k)] (fun _ h => h) ?_
     refine wP rfl (wl_nil (we_then (wc_keep [8,6,3] (S' := [_,_,_]) rfl (wc_seq (wc_true rfl (wc_keep [6,3] (S' := [_,_]) rfl (wc_skip (we_then (wc_block (wc_seq (wc_region ?_)))))))))))
     obtain ⟨x9, hx9⟩ := mlook_isSome (hzs.mem_iff.2 (hok.mem_iff.1 (List.mem_append_right l hk)))
     have hg14 := keys_len hok hk (by simpa using hlen)
     refine wl_entryP (a := x9) valRep_opens 2 rfl rfl rfl (freshS_eq rfl) rfl rfl rfl hx9 (u := fun _ => x9) (fun _ => rfl) (v := fun _ => .tuple #[.agg #[.int .i64 (k.1), .int .i64 (k.2)], x9]) (fun _ => rfl) (H' := [.own 48 2 R_a2_i64 (.slice p n c) l, rowsG (Fact.own 28 1 R_l_u8) zs e0, mapIt (keyOfK pairKey57) false valRep b g6 zs (rmK td k) none]) rfl (fun _ _ => (wP rfl (wl_alloc rfl rfl rfl (freshS_eq rfl) rfl tZ_57 rfl (fun g4 => (wS 0 0 rfl tS_57 (all' := [_,_]) rfl (H' := [_,_,_,_]) rfl (wl_nil (we_then (wc_keep [4,6,3] (S' := [_,_,_]) rfl (wc_region (wP rfl (wl_loadH 0 0 rfl rfl rfl (freshS_eq rfl) rfl rfl rfl (cs := [_,_]) rfl tS_57 tA_57 rfl rfl (wl_buildSlice rfl rfl rfl (freshS_eq rfl) rfl tE_45 tS_48 tZ_48 rfl (zs := [.int .i64 0, .int .i64 0]) (by kernel_rfl) rfl (out := [_,_]) rfl (fun g13 => (wl_appendH ([(k.1, k.2)]) 2 0 rfl rfl rfl (freshS_eq rfl) rfl rfl rfl rfl rfl (fun F w hφ => ⟨[.int .i64 (k.1), .int .i64 (k.2)],[], rfl, rfl, ⟨(), rfl, ask_nil⟩, rfl⟩) tE_45 tR_48 rfl rfl (Nat.le_trans hg14 (by decide)) (Nat.le_trans (Nat.mul_le_mul_right _ hg14) (by decide)) (H2 := fun p14 c14 => [_,_, .own 48 2 R_a2_i64 (.slice p14 ((l ++ ([(k.1, k.2)])).length) c14) (l ++ ([(k.1, k.2)])), _,_]) (fun _ _ => rfl) (fun p14 c14 => (wl_drop 0 rfl (H' := [_,_,_,_]) rfl (wl_pure (S' := [_,_,_,_,_,_]) rfl rfl rfl rfl rfl (wl_nil (we_block_normal (we_pick [1,2,3] rfl (H' := [_,_,_]) rfl ?_))))))))))))))))))))
     exact we_roundK (l ++ ([(k.1, k.2)]), rmK td k, p14, c14, (l ++ ([(k.1, k.2)])).length) (erase_lt hk) (keys_round hok hk) [6,3] rfl (asK [] rfl) rfl
 · rintro ⟨l, p, c, n⟩ hok
   dsimp only at hok ⊢
   refine wc_seq (wc_region (wP rfl (wl_ownLen 0 rfl (fun hz _ => ?_))))
   subst hz
   refine wC [0] [1,2] rfl fn_37 rfl (spec_sortR R_a2_i64_opens srt_37 srtnil_37 (enters_of Try.func38 (by kernel_rfl) rfl) (fun x_ y_ r_ s_ z_ h_ => w_net_bags_Links_1_s N x_.1 x_.2 y_.1 y_.2 z_ h_) (sortM_perm hok hm)) (asK [] rfl) rfl (H' := [_,_]) rfl ?_
   rintro _ _ _ ⟨rfl, rfl, rfl⟩
   refine wl_sh [_, mapG (keyOfK pairKey57) (Fact.own 28 1 R_l_u8) none b e0] (fun _ h => Holds.wholeG hzs h 2 1 rfl rfl rfl) (wl_nil (we_then (wc_keep [3] (S' := [_]) rfl (wc_seq (wc_region (wP rfl (wP rfl (wl_nil (we_then (wc_keep [2] (S' := [_]) rfl (wc_ret ?_)))))))))))
   refine ret_one (Hr := [_,_]) [0,1] Try.results33 (res_tmp rfl) ⟨p, c, l.length, rfl, rfl, rfl⟩ (asK [] rfl) rfl rfl (.inl rfl)
theorem w_net_Net_Links_s (N : Nat) (qg0 : Nat) (qb1 : Nat) (e0 : List ((Int × Int) × List (List Int))) (o2 : List (Int × Int)) (hm : m_net_Net_Links N e0 = some o2) : Spec Try.prog 20 [.pointer (some ⟨qg0,0, none⟩)] [] [.blk qg0 [.map (some qb1)] 54, mapG (keyOfK pairKey57) (Fact.own 28 1 R_l_u8) none qb1 e0] (fun v Φr Hr => ∃ (o0 : Option Addr) (o1 : Nat) (o3 : Nat), v = .slice o0 o3 o1 ∧ Φr = [] ∧ Hr = [.own 48 2 R_a2_i64 (.slice o0 o3 o1) o2, .blk qg0 [.map (some qb1)] 54, mapG (keyOfK pairKey57) (Fact.own 28 1 R_l_u8) none qb1 e0]) := by
 unfold m_net_Net_Links at hm
 refine spec_of Try.func20 rfl Try.ntmps20 rfl (S := [_]) rfl (fun C => (wc_seq (wc_region (wP rfl (wl_nil (we_then (wc_keep [0] (S' := [_]) rfl (wc_seq (wc_region (wP rfl ?_))))))))))
 obtain ⟨_, hc4, hm⟩ := bindO_some hm
 try dsimp only at hm
 refine wC [0,1] [] rfl fn_24 rfl (w_net_Net_all_s N qg0 qb1 e0 hc4) (asK [] rfl) rfl (H' := []) rfl ?_
 rintro _ _ _ ⟨rfl, rfl, rfl⟩
 obtain ⟨hg5, hm⟩ := gd_some hm
 obtain ⟨v5, hc5, hm⟩ := bindO_some hm
 refine wC [0] [1] rfl fn_33 rfl (linksG_33 N qb1 e0 v5 hg5 hc5) (asK [] rfl) rfl (H' := [_]) rfl ?_
 rintro _ _ _ ⟨p5, c5, n5, rfl, rfl, rfl⟩
 refine wP rfl (wl_nil (we_then (wc_keep [2] (S' := [_]) rfl (wc_ret ?_))))
 have hE := (Option.some.inj hm).symm
 replace hE := hE.symm
 subst hE
 refine ret_one (Hr := [_,_,_]) [0,2,1] Try.results20 (res_tmp rfl) ⟨p5, c5, n5, rfl, rfl, rfl⟩ (asK [] rfl) rfl rfl (.inl rfl)
end Go.Proofs.Ytegkmbkbaenkcaa
