/- Walks, printed by a program out of the loaded code. -/
import Derived.Test.YtdkmibdiokmfbaaDoorXW1
namespace Go.Proofs.YtdkmibdiokmfbaaDoor
open Go.RowKit
set_option maxRecDepth 100000 in
set_option maxHeartbeats 4000000 in
theorem w_value_does_s9 (N : Nat) (a0 : Int)  (hm : m_value_does N a0 = some (.inr (.inr (.inr (.inr (.inr (.inr (.inr (.inr (.inr ())))))))))) : Spec Tryd.prog 38 [.int .u8 a0] [] [] (fun v Φr Hr => v = .nilFunc ∧ Φr = [] ∧ Hr = []) := by
 unfold m_value_does at hm
 refine spec_of Tryd.func38 rfl Tryd.ntmps38 rfl (S := [_]) rfl (fun C => ?_)
 refine wc_seq ?_
 refine wc_region ?_
 refine wl_pure rfl rfl rfl (freshS_eq rfl) rfl ?_
 refine wl_nil ?_
 refine we_then ?_
 refine wc_keep [0] (S' := [_]) rfl ?_
 refine wc_seq ?_
 refine wc_region ?_
 refine wl_alloc rfl rfl rfl (freshS_eq rfl) rfl tZ_70 rfl (fun g3 => ?_)
 refine wl_store 0 0 rfl rfl rfl rfl rfl rfl rfl tS_70 rfl rfl rfl (all' := [_]) rfl (H' := [_]) rfl ?_
 refine wl_nil ?_
 refine we_then ?_
 refine wc_seq ?_
 refine wc_region ?_
 refine wl_makeMapE (keyInt (tInt_run tI_26)) false valRep rfl rfl rfl (freshS_eq rfl) rfl (fun g4 => ?_)
 refine wl_mapPutE (i := 1) (u := .func (.func 48) #[] #[]) (cs := [.func (.func 48) #[] #[]]) 0 rfl rfl (.inr rfl) rfl rfl rfl rfl tM_71 trivial rfl (fun F w hφ => ⟨rfl, rfl⟩) (H' := [mapE (keyInt (tInt_run tI_26)) false valRep g4 ([(1, .func (.func 48) #[] #[])]), .blk g3 [.func (.func 47) #[] #[]] 70]) rfl ?_
 refine wl_mapPutE (i := 2) (u := .func (.func 49) #[] #[]) (cs := [.func (.func 49) #[] #[]]) 0 rfl rfl (.inr rfl) rfl rfl rfl rfl tM_71 trivial rfl (fun F w hφ => ⟨rfl, rfl⟩) (H' := [mapE (keyInt (tInt_run tI_26)) false valRep g4 ([(1, .func (.func 48) #[] #[]), (2, .func (.func 49) #[] #[])]), .blk g3 [.func (.func 47) #[] #[]] 70]) rfl ?_
 refine wl_mapPutE (i := 3) (u := .func (.func 50) #[] #[]) (cs := [.func (.func 50) #[] #[]]) 0 rfl rfl (.inr rfl) rfl rfl rfl rfl tM_71 trivial rfl (fun F w hφ => ⟨rfl, rfl⟩) (H' := [mapE (keyInt (tInt_run tI_26)) false valRep g4 ([(1, .func (.func 48) #[] #[]), (2, .func (.func 49) #[] #[]), (3, .func (.func 50) #[] #[])]), .blk g3 [.func (.func 47) #[] #[]] 70]) rfl ?_
 refine wl_mapPutE (i := 4) (u := .func (.func 51) #[] #[]) (cs := [.func (.func 51) #[] #[]]) 0 rfl rfl (.inr rfl) rfl rfl rfl rfl tM_71 trivial rfl (fun F w hφ => ⟨rfl, rfl⟩) (H' := [mapE (keyInt (tInt_run tI_26)) false valRep g4 ([(1, .func (.func 48) #[] #[]), (2, .func (.func 49) #[] #[]), (3, .func (.func 50) #[] #[]), (4, .func (.func 51) #[] #[])]), .blk g3 [.func (.func 47) #[] #[]] 70]) rfl ?_
 refine wl_makeFunc rfl rfl rfl (freshS_eq rfl) rfl rfl ?_
 refine wl_mapPutE (i := 7) (u := .func (.func 52) #[] #[.pointer (some ⟨g3, 0, none⟩)]) (cs := [.func (.func 52) #[] #[.pointer (some ⟨g3, 0, none⟩)]]) 0 rfl rfl (.inr rfl) rfl rfl rfl rfl tM_71 trivial rfl (fun F w hφ => ⟨rfl, rfl⟩) (H' := [mapE (keyInt (tInt_run tI_26)) false valRep g4 ([(1, .func (.func 48) #[] #[]), (2, .func (.func 49) #[] #[]), (3, .func (.func 50) #[] #[]), (4, .func (.func 51) #[] #[]), (7, .func (.func 52) #[] #[.pointer (some ⟨g3, 0, none⟩)])]), .blk g3 [.func (.func 47) #[] #[]] 70]) rfl ?_
 refine wl_makeFunc rfl rfl rfl (freshS_eq rfl) rfl rfl ?_
 refine wl_mapPutE (i := 8) (u := .func (.func 53) #[] #[.pointer (some ⟨g3, 0, none⟩)]) (cs := [.func (.func 53) #[] #[.pointer (some ⟨g3, 0, none⟩)]]) 0 rfl rfl (.inr rfl) rfl rfl rfl rfl tM_71 trivial rfl (fun F w hφ => ⟨rfl, rfl⟩) (H' := [mapE (keyInt (tInt_run tI_26)) false valRep g4 ([(1, .func (.func 48) #[] #[]), (2, .func (.func 49) #[] #[]), (3, .func (.func 50) #[] #[]), (4, .func (.func 51) #[] #[]), (7, .func (.func 52) #[] #[.pointer (some ⟨g3, 0, none⟩)]), (8, .func (.func 53) #[] #[.pointer (some ⟨g3, 0, none⟩)])]), .blk g3 [.func (.func 47) #[] #[]] 70]) rfl ?_
 refine wl_makeFunc rfl rfl rfl (freshS_eq rfl) rfl rfl ?_
 refine wl_mapPutE (i := 9) (u := .func (.func 54) #[] #[.pointer (some ⟨g3, 0, none⟩)]) (cs := [.func (.func 54) #[] #[.pointer (some ⟨g3, 0, none⟩)]]) 0 rfl rfl (.inr rfl) rfl rfl rfl rfl tM_71 trivial rfl (fun F w hφ => ⟨rfl, rfl⟩) (H' := [mapE (keyInt (tInt_run tI_26)) false valRep g4 ([(1, .func (.func 48) #[] #[]), (2, .func (.func 49) #[] #[]), (3, .func (.func 50) #[] #[]), (4, .func (.func 51) #[] #[]), (7, .func (.func 52) #[] #[.pointer (some ⟨g3, 0, none⟩)]), (8, .func (.func 53) #[] #[.pointer (some ⟨g3, 0, none⟩)]), (9, .func (.func 54) #[] #[.pointer (some ⟨g3, 0, none⟩)])]), .blk g3 [.func (.func 47) #[] #[]] 70]) rfl ?_
 refine wl_makeFunc rfl rfl rfl (freshS_eq rfl) rfl rfl ?_
 refine wl_mapPutE (i := 10) (u := .func (.func 55) #[] #[.pointer (some ⟨g3, 0, none⟩)]) (cs := [.func (.func 55) #[] #[.pointer (some ⟨g3, 0, none⟩)]]) 0 rfl rfl (.inr rfl) rfl rfl rfl rfl tM_71 trivial rfl (fun F w hφ => ⟨rfl, rfl⟩) (H' := [mapE (keyInt (tInt_run tI_26)) false valRep g4 ([(1, .func (.func 48) #[] #[]), (2, .func (.func 49) #[] #[]), (3, .func (.func 50) #[] #[]), (4, .func (.func 51) #[] #[]), (7, .func (.func 52) #[] #[.pointer (some ⟨g3, 0, none⟩)]), (8, .func (.func 53) #[] #[.pointer (some ⟨g3, 0, none⟩)]), (9, .func (.func 54) #[] #[.pointer (some ⟨g3, 0, none⟩)]), (10, .func (.func 55) #[] #[.pointer (some ⟨g3, 0, none⟩)])]), .blk g3 [.func (.func 47) #[] #[]] 70]) rfl ?_
 refine wl_makeFunc rfl rfl rfl (freshS_eq rfl) rfl rfl ?_
 refine wl_mapPutE (i := 11) (u := .func (.func 56) #[] #[.pointer (some ⟨g3, 0, none⟩)]) (cs := [.func (.func 56) #[] #[.pointer (some ⟨g3, 0, none⟩)]]) 0 rfl rfl (.inr rfl) rfl rfl rfl rfl tM_71 trivial rfl (fun F w hφ => ⟨rfl, rfl⟩) (H' := [mapE (keyInt (tInt_run tI_26)) false valRep g4 ([(1, .func (.func 48) #[] #[]), (2, .func (.func 49) #[] #[]), (3, .func (.func 50) #[] #[]), (4, .func (.func 51) #[] #[]), (7, .func (.func 52) #[] #[.pointer (some ⟨g3, 0, none⟩)]), (8, .func (.func 53) #[] #[.pointer (some ⟨g3, 0, none⟩)]), (9, .func (.func 54) #[] #[.pointer (some ⟨g3, 0, none⟩)]), (10, .func (.func 55) #[] #[.pointer (some ⟨g3, 0, none⟩)]), (11, .func (.func 56) #[] #[.pointer (some ⟨g3, 0, none⟩)])]), .blk g3 [.func (.func 47) #[] #[]] 70]) rfl ?_
 refine wl_pure rfl rfl rfl (freshS_eq rfl) rfl ?_
 refine wl_pure rfl rfl rfl (freshS_eq rfl) rfl ?_
 rcases ite_some hm with ⟨hq12_0, hm⟩ | ⟨hq12_0, hm⟩
 ·
  refine wl_lookYesE (i := a0) (a := (.func (.func 48) #[] #[])) valRep_opens 0 rfl rfl rfl (freshS_eq rfl) rfl rfl rfl rfl tM_71 trivial (by rw [eq_of_beq hq12_0]; rfl) (u := fun _ => .func (.func 48) #[] #[]) (fun _ => rfl) (v := fun _ => .func (.func 48) #[] #[]) (fun _ => rfl) (fun _ _ => ?_)
  refine wl_pure rfl rfl rfl (freshS_eq rfl) rfl ?_
  refine wl_nil ?_
  refine we_then ?_
  refine wc_keep [2] (S' := [_]) rfl ?_
  refine wc_ret ?_
  have hE := (Option.some.inj hm).symm
  cases hE
 rcases ite_some hm with ⟨hq12_1, hm⟩ | ⟨hq12_1, hm⟩
 ·
  refine wl_lookYesE (i := a0) (a := (.func (.func 49) #[] #[])) valRep_opens 0 rfl rfl rfl (freshS_eq rfl) rfl rfl rfl rfl tM_71 trivial (by rw [eq_of_beq hq12_1]; rfl) (u := fun _ => .func (.func 49) #[] #[]) (fun _ => rfl) (v := fun _ => .func (.func 49) #[] #[]) (fun _ => rfl) (fun _ _ => ?_)
  refine wl_pure rfl rfl rfl (freshS_eq rfl) rfl ?_
  refine wl_nil ?_
  refine we_then ?_
  refine wc_keep [2] (S' := [_]) rfl ?_
  refine wc_ret ?_
  have hE := (Option.some.inj hm).symm
  cases hE
 rcases ite_some hm with ⟨hq12_2, hm⟩ | ⟨hq12_2, hm⟩
 ·
  refine wl_lookYesE (i := a0) (a := (.func (.func 50) #[] #[])) valRep_opens 0 rfl rfl rfl (freshS_eq rfl) rfl rfl rfl rfl tM_71 trivial (by rw [eq_of_beq hq12_2]; rfl) (u := fun _ => .func (.func 50) #[] #[]) (fun _ => rfl) (v := fun _ => .func (.func 50) #[] #[]) (fun _ => rfl) (fun _ _ => ?_)
  refine wl_pure rfl rfl rfl (freshS_eq rfl) rfl ?_
  refine wl_nil ?_
  refine we_then ?_
  refine wc_keep [2] (S' := [_]) rfl ?_
  refine wc_ret ?_
  have hE := (Option.some.inj hm).symm
  cases hE
 rcases ite_some hm with ⟨hq12_3, hm⟩ | ⟨hq12_3, hm⟩
 ·
  refine wl_lookYesE (i := a0) (a := (.func (.func 51) #[] #[])) valRep_opens 0 rfl rfl rfl (freshS_eq rfl) rfl rfl rfl rfl tM_71 trivial (by rw [eq_of_beq hq12_3]; rfl) (u := fun _ => .func (.func 51) #[] #[]) (fun _ => rfl) (v := fun _ => .func (.func 51) #[] #[]) (fun _ => rfl) (fun _ _ => ?_)
  refine wl_pure rfl rfl rfl (freshS_eq rfl) rfl ?_
  refine wl_nil ?_
  refine we_then ?_
  refine wc_keep [2] (S' := [_]) rfl ?_
  refine wc_ret ?_
  have hE := (Option.some.inj hm).symm
  cases hE
 rcases ite_some hm with ⟨hq12_4, hm⟩ | ⟨hq12_4, hm⟩
 ·
  refine wl_lookYesE (i := a0) (a := (.func (.func 52) #[] #[.pointer (some ⟨g3, 0, none⟩)])) valRep_opens 0 rfl rfl rfl (freshS_eq rfl) rfl rfl rfl rfl tM_71 trivial (by rw [eq_of_beq hq12_4]; rfl) (u := fun _ => .func (.func 52) #[] #[.pointer (some ⟨g3, 0, none⟩)]) (fun _ => rfl) (v := fun _ => .func (.func 52) #[] #[.pointer (some ⟨g3, 0, none⟩)]) (fun _ => rfl) (fun _ _ => ?_)
  refine wl_pure rfl rfl rfl (freshS_eq rfl) rfl ?_
  refine wl_nil ?_
  refine we_then ?_
  refine wc_keep [2] (S' := [_]) rfl ?_
  refine wc_ret ?_
  have hE := (Option.some.inj hm).symm
  cases hE
 rcases ite_some hm with ⟨hq12_5, hm⟩ | ⟨hq12_5, hm⟩
 ·
  refine wl_lookYesE (i := a0) (a := (.func (.func 53) #[] #[.pointer (some ⟨g3, 0, none⟩)])) valRep_opens 0 rfl rfl rfl (freshS_eq rfl) rfl rfl rfl rfl tM_71 trivial (by rw [eq_of_beq hq12_5]; rfl) (u := fun _ => .func (.func 53) #[] #[.pointer (some ⟨g3, 0, none⟩)]) (fun _ => rfl) (v := fun _ => .func (.func 53) #[] #[.pointer (some ⟨g3, 0, none⟩)]) (fun _ => rfl) (fun _ _ => ?_)
  refine wl_pure rfl rfl rfl (freshS_eq rfl) rfl ?_
  refine wl_nil ?_
  refine we_then ?_
  refine wc_keep [2] (S' := [_]) rfl ?_
  refine wc_ret ?_
  have hE := (Option.some.inj hm).symm
  cases hE
 rcases ite_some hm with ⟨hq12_6, hm⟩ | ⟨hq12_6, hm⟩
 ·
  refine wl_lookYesE (i := a0) (a := (.func (.func 54) #[] #[.pointer (some ⟨g3, 0, none⟩)])) valRep_opens 0 rfl rfl rfl (freshS_eq rfl) rfl rfl rfl rfl tM_71 trivial (by rw [eq_of_beq hq12_6]; rfl) (u := fun _ => .func (.func 54) #[] #[.pointer (some ⟨g3, 0, none⟩)]) (fun _ => rfl) (v := fun _ => .func (.func 54) #[] #[.pointer (some ⟨g3, 0, none⟩)]) (fun _ => rfl) (fun _ _ => ?_)
  refine wl_pure rfl rfl rfl (freshS_eq rfl) rfl ?_
  refine wl_nil ?_
  refine we_then ?_
  refine wc_keep [2] (S' := [_]) rfl ?_
  refine wc_ret ?_
  have hE := (Option.some.inj hm).symm
  cases hE
 rcases ite_some hm with ⟨hq12_7, hm⟩ | ⟨hq12_7, hm⟩
 ·
  refine wl_lookYesE (i := a0) (a := (.func (.func 55) #[] #[.pointer (some ⟨g3, 0, none⟩)])) valRep_opens 0 rfl rfl rfl (freshS_eq rfl) rfl rfl rfl rfl tM_71 trivial (by rw [eq_of_beq hq12_7]; rfl) (u := fun _ => .func (.func 55) #[] #[.pointer (some ⟨g3, 0, none⟩)]) (fun _ => rfl) (v := fun _ => .func (.func 55) #[] #[.pointer (some ⟨g3, 0, none⟩)]) (fun _ => rfl) (fun _ _ => ?_)
  refine wl_pure rfl rfl rfl (freshS_eq rfl) rfl ?_
  refine wl_nil ?_
  refine we_then ?_
  refine wc_keep [2] (S' := [_]) rfl ?_
  refine wc_ret ?_
  have hE := (Option.some.inj hm).symm
  cases hE
 rcases ite_some hm with ⟨hq12_8, hm⟩ | ⟨hq12_8, hm⟩
 ·
  refine wl_lookYesE (i := a0) (a := (.func (.func 56) #[] #[.pointer (some ⟨g3, 0, none⟩)])) valRep_opens 0 rfl rfl rfl (freshS_eq rfl) rfl rfl rfl rfl tM_71 trivial (by rw [eq_of_beq hq12_8]; rfl) (u := fun _ => .func (.func 56) #[] #[.pointer (some ⟨g3, 0, none⟩)]) (fun _ => rfl) (v := fun _ => .func (.func 56) #[] #[.pointer (some ⟨g3, 0, none⟩)]) (fun _ => rfl) (fun _ _ => ?_)
  refine wl_pure rfl rfl rfl (freshS_eq rfl) rfl ?_
  refine wl_nil ?_
  refine we_then ?_
  refine wc_keep [2] (S' := [_]) rfl ?_
  refine wc_ret ?_
  have hE := (Option.some.inj hm).symm
  cases hE
 ·
  refine wl_lookNoE (i := a0) 0 rfl rfl rfl (freshS_eq rfl) rfl rfl rfl rfl tZ_64 tM_71 trivial (by simp [mlook, (ne_of_beq_false hq12_0).symm, (ne_of_beq_false hq12_1).symm, (ne_of_beq_false hq12_2).symm, (ne_of_beq_false hq12_3).symm, (ne_of_beq_false hq12_4).symm, (ne_of_beq_false hq12_5).symm, (ne_of_beq_false hq12_6).symm, (ne_of_beq_false hq12_7).symm, (ne_of_beq_false hq12_8).symm]) (v := .nilFunc) rfl ?_
  refine wl_pure rfl rfl rfl (freshS_eq rfl) rfl ?_
  refine wl_nil ?_
  refine we_then ?_
  refine wc_keep [2] (S' := [_]) rfl ?_
  refine wc_ret ?_
  have hE := (Option.some.inj hm).symm
  replace hE := Sum.inr.inj hE
  replace hE := Sum.inr.inj hE
  replace hE := Sum.inr.inj hE
  replace hE := Sum.inr.inj hE
  replace hE := Sum.inr.inj hE
  replace hE := Sum.inr.inj hE
  replace hE := Sum.inr.inj hE
  replace hE := Sum.inr.inj hE
  replace hE := Sum.inr.inj hE
  refine ret_one (Hr := []) [] Tryd.results38 (res_tmp rfl) ⟨rfl, rfl, rfl⟩ (fun _ _ hφ => ask [] rfl hφ) rfl rfl (.inl rfl)
set_option maxRecDepth 100000 in
set_option maxHeartbeats 4000000 in
theorem w_value_does_2_s (N : Nat) (a0 : Int) (a1 : Int)  (hm : m_value_does_2 N a0 a1 = some ()) : Spec Tryd.prog 48 [.int .i64 a0, .int .i64 a1] [] [] (fun v Φr Hr => v = .tuple #[.int .i64 (IntKind.wrap .i64 (a0 + a1)), .bool ((decide ((IntKind.wrap .i64 (a0 + a1)) < a0)) == (decide (a1 < 0)))] ∧ Φr = [] ∧ Hr = []) := by
 unfold m_value_does_2 at hm
 refine spec_of Tryd.func48 rfl Tryd.ntmps48 rfl (S := [_,_]) rfl (fun C => ?_)
 refine wc_seq ?_
 refine wc_region ?_
 refine wl_pure rfl rfl rfl (freshS_eq rfl) rfl ?_
 refine wl_pure rfl rfl rfl (freshS_eq rfl) rfl ?_
 refine wl_nil ?_
 refine we_then ?_
 refine wc_keep [0, 1] (S' := [_,_]) rfl ?_
 refine wc_seq ?_
 refine wc_region ?_
 refine wl_pure rfl rfl rfl (freshS_eq rfl) rfl ?_
 refine wl_pure rfl rfl rfl (freshS_eq rfl) rfl ?_
 refine wl_pure rfl rfl rfl (freshS_eq rfl) rfl ?_
 refine wl_pure rfl rfl rfl (freshS_eq rfl) rfl ?_
 refine wl_pure rfl rfl rfl (freshS_eq rfl) rfl ?_
 refine wl_pure rfl rfl rfl (freshS_eq rfl) rfl ?_
 refine wl_pure rfl rfl rfl (freshS_eq rfl) rfl ?_
 refine wl_pure rfl rfl rfl (freshS_eq rfl) rfl ?_
 refine wl_pure rfl rfl rfl (freshS_eq rfl) rfl ?_
 refine wl_pure rfl rfl rfl (freshS_eq rfl) rfl ?_
 refine wl_bin rfl rfl rfl (freshS_eq rfl) rfl rfl rfl (eqlB _ _ (decide ((IntKind.wrap .i64 (a0 + a1)) < a0)) (decide (a1 < 0))) ?_
 refine wl_pure rfl rfl rfl (freshS_eq rfl) rfl ?_
 refine wl_pure rfl rfl rfl (freshS_eq rfl) rfl ?_
 refine wl_nil ?_
 refine we_then ?_
 refine wc_keep [5, 4] (S' := [_,_]) rfl ?_
 refine wc_ret ?_
 have hE := (Option.some.inj hm).symm
 refine ret_two (Hr := []) [] Tryd.results48 (res_tmp rfl) (res_tmp rfl) ⟨rfl, rfl, rfl⟩ (fun _ _ hφ => ask [] rfl hφ) rfl rfl (.inl rfl)
set_option maxRecDepth 100000 in
set_option maxHeartbeats 4000000 in
theorem w_value_does_3_s (N : Nat) (a0 : Int) (a1 : Int)  (hm : m_value_does_3 N a0 a1 = some ()) : Spec Tryd.prog 49 [.int .i64 a0, .int .i64 a1] [] [] (fun v Φr Hr => v = .tuple #[.int .i64 (IntKind.wrap .i64 (a0 - a1)), .bool ((decide ((IntKind.wrap .i64 (a0 - a1)) > a0)) == (decide (a1 < 0)))] ∧ Φr = [] ∧ Hr = []) := by
 unfold m_value_does_3 at hm
 refine spec_of Tryd.func49 rfl Tryd.ntmps49 rfl (S := [_,_]) rfl (fun C => ?_)
 refine wc_seq ?_
 refine wc_region ?_
 refine wl_pure rfl rfl rfl (freshS_eq rfl) rfl ?_
 refine wl_pure rfl rfl rfl (freshS_eq rfl) rfl ?_
 refine wl_nil ?_
 refine we_then ?_
 refine wc_keep [0, 1] (S' := [_,_]) rfl ?_
 refine wc_seq ?_
 refine wc_region ?_
 refine wl_pure rfl rfl rfl (freshS_eq rfl) rfl ?_
 refine wl_pure rfl rfl rfl (freshS_eq rfl) rfl ?_
 refine wl_pure rfl rfl rfl (freshS_eq rfl) rfl ?_
 refine wl_pure rfl rfl rfl (freshS_eq rfl) rfl ?_
 refine wl_pure rfl rfl rfl (freshS_eq rfl) rfl ?_
 refine wl_pure rfl rfl rfl (freshS_eq rfl) rfl ?_
 refine wl_pure rfl rfl rfl (freshS_eq rfl) rfl ?_
 refine wl_pure rfl rfl rfl (freshS_eq rfl) rfl ?_
 refine wl_pure rfl rfl rfl (freshS_eq rfl) rfl ?_
 refine wl_pure rfl rfl rfl (freshS_eq rfl) rfl ?_
 refine wl_bin rfl rfl rfl (freshS_eq rfl) rfl rfl rfl (eqlB _ _ (decide ((IntKind.wrap .i64 (a0 - a1)) > a0)) (decide (a1 < 0))) ?_
 refine wl_pure rfl rfl rfl (freshS_eq rfl) rfl ?_
 refine wl_pure rfl rfl rfl (freshS_eq rfl) rfl ?_
 refine wl_nil ?_
 refine we_then ?_
 refine wc_keep [5, 4] (S' := [_,_]) rfl ?_
 refine wc_ret ?_
 have hE := (Option.some.inj hm).symm
 refine ret_two (Hr := []) [] Tryd.results49 (res_tmp rfl) (res_tmp rfl) ⟨rfl, rfl, rfl⟩ (fun _ _ hφ => ask [] rfl hφ) rfl rfl (.inl rfl)
set_option maxRecDepth 100000 in
set_option maxHeartbeats 4000000 in
theorem w_value_product_s (N : Nat) (a0 : Int) (a1 : Int) (o0 : Int) (o1 : Bool) (hm : m_value_product N a0 a1 = some (o0, o1)) : Spec Tryd.prog 50 [.int .i64 a0, .int .i64 a1] [] [] (fun v Φr Hr => v = .tuple #[.int .i64 o0, .bool o1] ∧ Φr = [] ∧ Hr = []) := by
 unfold m_value_product at hm
 refine spec_of Tryd.func50 rfl Tryd.ntmps50 rfl (S := [_,_]) rfl (fun C => ?_)
 refine wc_seq ?_
 refine wc_region ?_
 refine wl_pure rfl rfl rfl (freshS_eq rfl) rfl ?_
 refine wl_pure rfl rfl rfl (freshS_eq rfl) rfl ?_
 refine wl_nil ?_
 refine we_then ?_
 refine wc_keep [0, 1] (S' := [_,_]) rfl ?_
 refine wc_seq ?_
 refine wc_region ?_
 refine wl_pure rfl rfl rfl (freshS_eq rfl) rfl ?_
 refine wl_reck rfl rfl rfl (freshS_eq rfl) (rk_conv rfl rfl tI_2 tI_79) ?_
 refine wl_pure rfl rfl rfl (freshS_eq rfl) rfl ?_
 refine wl_reck rfl rfl rfl (freshS_eq rfl) (rk_conv rfl rfl tI_2 tI_79) ?_
 refine wl_pure rfl rfl rfl (freshS_eq rfl) rfl ?_
 refine wl_pure rfl rfl rfl (freshS_eq rfl) rfl ?_
 refine wl_nil ?_
 refine we_then ?_
 refine wc_keep [7, 6, 0, 1] (S' := [_,_,_,_]) rfl ?_
 refine wc_seq ?_
 obtain ⟨bj_1, hm, hLj_1⟩ := bindO_some hm
 refine wc_cut (σ := Int) (fun j_1_6 => bj_1 = j_1_6) (fun j_1_6 => [(7, .int .u64 (IntKind.wrap .u64 a1)), (6, .int .u64 j_1_6), (0, .int .i64 a0), (1, .int .i64 a1)]) (fun j_1_6 => []) (fun j_1_6 => []) ?_ ?_
 ·
  refine wc_seq ?_
  refine wc_region ?_
  refine wl_pure rfl rfl rfl (freshS_eq rfl) rfl ?_
  refine wl_pure rfl rfl rfl (freshS_eq rfl) rfl ?_
  refine wl_nil ?_
  refine we_then ?_
  refine wc_keep [15, 7, 6, 0, 1] (S' := [_,_,_,_,_]) rfl ?_
  refine wc_cond rfl (fun hb15 => ?_) (fun hb15 => ?_)
  ·
   replace hm := iteT hm hb15
   refine wc_keep [7, 6, 0, 1] (S' := [_,_,_,_]) rfl ?_
   refine wc_region ?_
   refine wl_pure rfl rfl rfl (freshS_eq rfl) rfl ?_
   refine wl_reck rfl rfl rfl (freshS_eq rfl) (rk_neg rfl rfl) ?_
   refine wl_pure (S' := [_,_,_,_,_]) rfl rfl rfl rfl rfl ?_
   refine wl_nil ?_
   have hE := (Option.some.inj hm).symm
   refine we_join (IntKind.wrap .u64 (0 - (IntKind.wrap .u64 a0))) hE [7, 6, 0, 1] rfl (fun _ _ hφ => ask [] rfl hφ) rfl
  ·
   replace hm := iteF hm hb15
   refine wc_keep [7, 6, 0, 1] (S' := [_,_,_,_]) rfl ?_
   refine wc_skip ?_
   have hE := (Option.some.inj hm).symm
   refine we_join (IntKind.wrap .u64 a0) hE [7, 6, 0, 1] rfl (fun _ _ hφ => ask [] rfl hφ) rfl
 ·
  rintro j_1_6 hE
  try dsimp only
  have hm := hLj_1
  rw [hE] at hm
  refine wc_seq ?_
  obtain ⟨bj_2, hm, hLj_2⟩ := bindO_some hm
  refine wc_cut (σ := Int) (fun j_2_7 => bj_2 = j_2_7) (fun j_2_7 => [(7, .int .u64 j_2_7), (6, .int .u64 j_1_6), (0, .int .i64 a0), (1, .int .i64 a1)]) (fun j_2_7 => []) (fun j_2_7 => []) ?_ ?_
  ·
   refine wc_seq ?_
   refine wc_region ?_
   refine wl_pure rfl rfl rfl (freshS_eq rfl) rfl ?_
   refine wl_pure rfl rfl rfl (freshS_eq rfl) rfl ?_
   refine wl_nil ?_
   refine we_then ?_
   refine wc_keep [19, 7, 6, 0, 1] (S' := [_,_,_,_,_]) rfl ?_
   refine wc_cond rfl (fun hb19 => ?_) (fun hb19 => ?_)
   ·
    replace hm := iteT hm hb19
    refine wc_keep [7, 6, 0, 1] (S' := [_,_,_,_]) rfl ?_
    refine wc_region ?_
    refine wl_pure rfl rfl rfl (freshS_eq rfl) rfl ?_
    refine wl_reck rfl rfl rfl (freshS_eq rfl) (rk_neg rfl rfl) ?_
    refine wl_pure (S' := [_,_,_,_,_]) rfl rfl rfl rfl rfl ?_
    refine wl_nil ?_
    have hE := (Option.some.inj hm).symm
    refine we_join (IntKind.wrap .u64 (0 - (IntKind.wrap .u64 a1))) hE [7, 6, 0, 1] rfl (fun _ _ hφ => ask [] rfl hφ) rfl
   ·
    replace hm := iteF hm hb19
    refine wc_keep [7, 6, 0, 1] (S' := [_,_,_,_]) rfl ?_
    refine wc_skip ?_
    have hE := (Option.some.inj hm).symm
    refine we_join (IntKind.wrap .u64 a1) hE [7, 6, 0, 1] rfl (fun _ _ hφ => ask [] rfl hφ) rfl
  ·
   rintro j_2_7 hE
   try dsimp only
   have hm := hLj_2
   rw [hE] at hm
   refine wc_seq ?_
   refine wc_region ?_
   refine wl_pure rfl rfl rfl (freshS_eq rfl) rfl ?_
   refine wl_pure rfl rfl rfl (freshS_eq rfl) rfl ?_
   obtain ⟨hs25_0, hm⟩ := gd_some hm
   obtain ⟨hs25_1, hm⟩ := gd_some hm
   refine wl_call [] [] rfl rfl rfl (freshS_eq rfl) rfl rfl fn_67 rfl (sh_Mul64 j_1_6 j_2_7 hs25_0 hs25_1) (fun _ _ hφ => ask [] rfl hφ) rfl (H' := []) rfl ?_
   rintro _ _ _ ⟨rfl, rfl, rfl⟩
   refine wl_pure rfl rfl rfl (freshS_eq rfl) rfl ?_
   refine wl_pure rfl rfl rfl (freshS_eq rfl) rfl ?_
   refine wl_pure rfl rfl rfl (freshS_eq rfl) rfl ?_
   refine wl_pure rfl rfl rfl (freshS_eq rfl) rfl ?_
   refine wl_pure rfl rfl rfl (freshS_eq rfl) rfl ?_
   refine wl_nil ?_
   refine we_then ?_
   refine wc_keep [9, 8, 0, 1] (S' := [_,_,_,_]) rfl ?_
   refine wc_seq ?_
   refine wc_seq ?_
   refine wc_region ?_
   refine wl_pure rfl rfl rfl (freshS_eq rfl) rfl ?_
   refine wl_pure rfl rfl rfl (freshS_eq rfl) rfl ?_
   refine wl_pure rfl rfl rfl (freshS_eq rfl) rfl ?_
   refine wl_pure rfl rfl rfl (freshS_eq rfl) rfl ?_
   refine wl_bin rfl rfl rfl (freshS_eq rfl) rfl rfl rfl (neqB _ _ (decide (a0 < 0)) (decide (a1 < 0))) ?_
   refine wl_nil ?_
   refine we_then ?_
   refine wc_keep [32, 9, 8] (S' := [_,_,_]) rfl ?_
   refine wc_cond rfl (fun hb32 => ?_) (fun hb32 => ?_)
   ·
    replace hm := iteT hm hb32
    refine wc_keep [9, 8] (S' := [_,_]) rfl ?_
    refine wc_seq ?_
    refine wc_region ?_
    refine wl_pure rfl rfl rfl (freshS_eq rfl) rfl ?_
    refine wl_reck rfl rfl rfl (freshS_eq rfl) (rk_neg rfl rfl) ?_
    refine wl_reck rfl rfl rfl (freshS_eq rfl) (rk_conv rfl rfl tI_79 tI_2) ?_
    refine wl_pure rfl rfl rfl (freshS_eq rfl) rfl ?_
    refine wl_pure rfl rfl rfl (freshS_eq rfl) rfl ?_
    refine wl_pure rfl rfl rfl (freshS_eq rfl) rfl ?_
    refine wl_split (d := 38) (S' := [_,_,_,_,_,_,_]) rfl rfl (fun hs38 => ?_) (fun hs38 => ?_)
    ·
     replace hm := iteT hm hs38
     refine wl_pure rfl rfl rfl (freshS_eq rfl) rfl ?_
     refine wl_pure rfl rfl rfl (freshS_eq rfl) rfl ?_
     refine wl_pure rfl rfl rfl (freshS_eq rfl) rfl ?_
     refine wl_pure rfl rfl rfl (freshS_eq rfl) rfl ?_
     refine wl_pure rfl rfl rfl (freshS_eq rfl) rfl ?_
     refine wl_nil ?_
     refine we_then ?_
     refine wc_keep [5, 4] (S' := [_,_]) rfl ?_
     refine wc_ret ?_
     refine we_then_ret ?_
     have hE := (Option.some.inj hm).symm
     obtain ⟨hE0, hE1⟩ := Prod.mk.inj hE
     clear hE
     replace hE0 := hE0.symm
     subst hE0
     replace hE1 := hE1.symm
     subst hE1
     refine ret_two (Hr := []) [] Tryd.results50 (res_tmp rfl) (res_tmp rfl) ⟨rfl, rfl, rfl⟩ (fun _ _ hφ => ask [] rfl hφ) rfl rfl (.inl rfl)
    ·
     replace hm := iteF hm hs38
     refine wl_off rfl rfl rfl (freshS_eq rfl) ?_
     refine wl_off rfl rfl rfl (freshS_eq rfl) ?_
     refine wl_pure rfl rfl rfl (freshS_eq rfl) rfl ?_
     refine wl_pure rfl rfl rfl (freshS_eq rfl) rfl ?_
     refine wl_pure rfl rfl rfl (freshS_eq rfl) rfl ?_
     refine wl_nil ?_
     refine we_then ?_
     refine wc_keep [5, 4] (S' := [_,_]) rfl ?_
     refine wc_ret ?_
     refine we_then_ret ?_
     have hE := (Option.some.inj hm).symm
     obtain ⟨hE0, hE1⟩ := Prod.mk.inj hE
     clear hE
     replace hE0 := hE0.symm
     subst hE0
     replace hE1 := hE1.symm
     subst hE1
     refine ret_two (Hr := []) [] Tryd.results50 (res_tmp rfl) (res_tmp rfl) ⟨rfl, rfl, rfl⟩ (fun _ _ hφ => ask [] rfl hφ) rfl rfl (.inl rfl)
   ·
    replace hm := iteF hm hb32
    refine wc_keep [9, 8] (S' := [_,_]) rfl ?_
    refine wc_skip ?_
    refine we_then ?_
    refine wc_seq ?_
    refine wc_region ?_
    refine wl_pure rfl rfl rfl (freshS_eq rfl) rfl ?_
    refine wl_reck rfl rfl rfl (freshS_eq rfl) (rk_conv rfl rfl tI_79 tI_2) ?_
    refine wl_pure rfl rfl rfl (freshS_eq rfl) rfl ?_
    refine wl_pure rfl rfl rfl (freshS_eq rfl) rfl ?_
    refine wl_pure rfl rfl rfl (freshS_eq rfl) rfl ?_
    refine wl_split (d := 46) (S' := [_,_,_,_,_,_]) rfl rfl (fun hs46 => ?_) (fun hs46 => ?_)
    ·
     replace hm := iteT hm hs46
     refine wl_pure rfl rfl rfl (freshS_eq rfl) rfl ?_
     refine wl_pure rfl rfl rfl (freshS_eq rfl) rfl ?_
     refine wl_pure rfl rfl rfl (freshS_eq rfl) rfl ?_
     refine wl_pure rfl rfl rfl (freshS_eq rfl) rfl ?_
     refine wl_pure rfl rfl rfl (freshS_eq rfl) rfl ?_
     refine wl_nil ?_
     refine we_then ?_
     refine wc_keep [5, 4] (S' := [_,_]) rfl ?_
     refine wc_ret ?_
     have hE := (Option.some.inj hm).symm
     obtain ⟨hE0, hE1⟩ := Prod.mk.inj hE
     clear hE
     replace hE0 := hE0.symm
     subst hE0
     replace hE1 := hE1.symm
     subst hE1
     refine ret_two (Hr := []) [] Tryd.results50 (res_tmp rfl) (res_tmp rfl) ⟨rfl, rfl, rfl⟩ (fun _ _ hφ => ask [] rfl hφ) rfl rfl (.inl rfl)
    ·
     replace hm := iteF hm hs46
     refine wl_off rfl rfl rfl (freshS_eq rfl) ?_
     refine wl_off rfl rfl rfl (freshS_eq rfl) ?_
     refine wl_pure rfl rfl rfl (freshS_eq rfl) rfl ?_
     refine wl_pure rfl rfl rfl (freshS_eq rfl) rfl ?_
     refine wl_pure rfl rfl rfl (freshS_eq rfl) rfl ?_
     refine wl_nil ?_
     refine we_then ?_
     refine wc_keep [5, 4] (S' := [_,_]) rfl ?_
     refine wc_ret ?_
     have hE := (Option.some.inj hm).symm
     obtain ⟨hE0, hE1⟩ := Prod.mk.inj hE
     clear hE
     replace hE0 := hE0.symm
     subst hE0
     replace hE1 := hE1.symm
     subst hE1
     refine ret_two (Hr := []) [] Tryd.results50 (res_tmp rfl) (res_tmp rfl) ⟨rfl, rfl, rfl⟩ (fun _ _ hφ => ask [] rfl hφ) rfl rfl (.inl rfl)
set_option maxRecDepth 100000 in
set_option maxHeartbeats 4000000 in
theorem w_value_does_4_s (N : Nat) (a0 : Int) (a1 : Int)  (hm : m_value_does_4 N a0 a1 = some ()) : Spec Tryd.prog 51 [.int .i64 a0, .int .i64 a1] [] [] (fun v Φr Hr => v = .tuple #[.int .i64 (IntKind.wrap .i64 (0 - a0)), .bool (a0 != -9223372036854775808)] ∧ Φr = [] ∧ Hr = []) := by
 unfold m_value_does_4 at hm
 refine spec_of Tryd.func51 rfl Tryd.ntmps51 rfl (S := [_,_]) rfl (fun C => ?_)
 refine wc_seq ?_
 refine wc_region ?_
 refine wl_pure rfl rfl rfl (freshS_eq rfl) rfl ?_
 refine wl_pure rfl rfl rfl (freshS_eq rfl) rfl ?_
 refine wl_nil ?_
 refine we_then ?_
 refine wc_keep [0] (S' := [_]) rfl ?_
 refine wc_seq ?_
 refine wc_region ?_
 refine wl_pure rfl rfl rfl (freshS_eq rfl) rfl ?_
 refine wl_reck rfl rfl rfl (freshS_eq rfl) (rk_neg rfl rfl) ?_
 refine wl_pure rfl rfl rfl (freshS_eq rfl) rfl ?_
 refine wl_pure rfl rfl rfl (freshS_eq rfl) rfl ?_
 refine wl_pure rfl rfl rfl (freshS_eq rfl) rfl ?_
 refine wl_pure rfl rfl rfl (freshS_eq rfl) rfl ?_
 refine wl_nil ?_
 refine we_then ?_
 refine wc_keep [5, 4] (S' := [_,_]) rfl ?_
 refine wc_ret ?_
 have hE := (Option.some.inj hm).symm
 refine ret_two (Hr := []) [] Tryd.results51 (res_tmp rfl) (res_tmp rfl) ⟨rfl, rfl, rfl⟩ (fun _ _ hφ => ask [] rfl hφ) rfl rfl (.inl rfl)
set_option maxRecDepth 100000 in
set_option maxHeartbeats 4000000 in
theorem w_value_does_1_s (N : Nat) (a0 : Bool) (o0 : Int) (hm : m_value_does_1 N a0 = some o0) : Spec Tryd.prog 47 [.bool a0] [] [] (fun v Φr Hr => v = .tuple #[.int .i64 o0, .bool true] ∧ Φr = [] ∧ Hr = []) := by
 unfold m_value_does_1 at hm
 refine spec_of Tryd.func47 rfl Tryd.ntmps47 rfl (S := [_]) rfl (fun C => ?_)
 refine wc_seq ?_
 refine wc_region ?_
 refine wl_pure rfl rfl rfl (freshS_eq rfl) rfl ?_
 refine wl_pure rfl rfl rfl (freshS_eq rfl) rfl ?_
 refine wl_nil ?_
 refine we_then ?_
 refine wc_keep [0] (S' := [_]) rfl ?_
 refine wc_seq ?_
 refine wc_region ?_
 refine wl_pure rfl rfl rfl (freshS_eq rfl) rfl ?_
 obtain ⟨v5, hc5, hm⟩ := bindO_some hm
 refine wl_call [] [] rfl rfl rfl (freshS_eq rfl) rfl rfl fn_37 rfl (w_value_Truth_s N a0 _ hc5) (fun _ _ hφ => ask [] rfl hφ) rfl (H' := []) rfl ?_
 rintro _ _ _ ⟨rfl, rfl, rfl⟩
 refine wl_reck rfl rfl rfl (freshS_eq rfl) (rk_field rfl rfl tFT_25_1 tA_2 tS_2 (v := .int .i64 v5) rfl) ?_
 refine wl_pure rfl rfl rfl (freshS_eq rfl) rfl ?_
 refine wl_pure rfl rfl rfl (freshS_eq rfl) rfl ?_
 refine wl_nil ?_
 refine we_then ?_
 refine wc_keep [3, 2] (S' := [_,_]) rfl ?_
 refine wc_ret ?_
 have hE := (Option.some.inj hm).symm
 replace hE := hE.symm
 subst hE
 refine ret_two (Hr := []) [] Tryd.results47 (res_tmp rfl) (res_tmp rfl) ⟨rfl, rfl, rfl⟩ (fun _ _ hφ => ask [] rfl hφ) rfl rfl (.inl rfl)
set_option maxRecDepth 100000 in
set_option maxHeartbeats 4000000 in
theorem w_value_does_5_s (N : Nat) (a0 : Int) (a1 : Int) (qg0 : Nat) (o0 : Int) (hm : m_value_does_5 N a0 a1 = some o0) : Spec Tryd.prog 52 [.int .i64 a0, .int .i64 a1, .pointer (some ⟨qg0, 0, none⟩)] [] [.blk qg0 [.func (.func 47) #[] #[]] 70] (fun v Φr Hr => v = .tuple #[.int .i64 o0, .bool true] ∧ Φr = [] ∧ Hr = [.blk qg0 [.func (.func 47) #[] #[]] 70]) := by
 unfold m_value_does_5 at hm
 refine spec_of Tryd.func52 rfl Tryd.ntmps52 rfl (S := [_,_,_]) rfl (fun C => ?_)
 refine wc_seq ?_
 refine wc_region ?_
 refine wl_pure rfl rfl rfl (freshS_eq rfl) rfl ?_
 refine wl_pure rfl rfl rfl (freshS_eq rfl) rfl ?_
 refine wl_nil ?_
 refine we_then ?_
 refine wc_keep [0, 1, 2] (S' := [_,_,_]) rfl ?_
 refine wc_seq ?_
 refine wc_region ?_
 refine wl_loadH 0 0 rfl rfl rfl (freshS_eq rfl) rfl rfl rfl (cs := [_]) rfl tS_70 tA_70 rfl rfl ?_
 refine wl_pure rfl rfl rfl (freshS_eq rfl) rfl ?_
 refine wl_pure rfl rfl rfl (freshS_eq rfl) rfl ?_
 refine wl_pure rfl rfl rfl (freshS_eq rfl) rfl ?_
 obtain ⟨v11, hc11, hm⟩ := bindO_some hm
 refine wl_callDyn [] [0] rfl rfl rfl (freshS_eq rfl) rfl rfl rfl fn_47 rfl rfl (w_value_does_1_s N (decide (a0 < a1)) _ hc11) (fun _ _ hφ => ask [] rfl hφ) rfl (H' := [_]) rfl ?_
 rintro _ _ _ ⟨rfl, rfl, rfl⟩
 refine wl_pure rfl rfl rfl (freshS_eq rfl) rfl ?_
 refine wl_pure rfl rfl rfl (freshS_eq rfl) rfl ?_
 refine wl_pure rfl rfl rfl (freshS_eq rfl) rfl ?_
 refine wl_pure rfl rfl rfl (freshS_eq rfl) rfl ?_
 refine wl_nil ?_
 refine we_then ?_
 refine wc_keep [6, 5] (S' := [_,_]) rfl ?_
 refine wc_ret ?_
 have hE := (Option.some.inj hm).symm
 replace hE := hE.symm
 subst hE
 refine ret_two (Hr := [_]) [0] Tryd.results52 (res_tmp rfl) (res_tmp rfl) ⟨rfl, rfl, rfl⟩ (fun _ _ hφ => ask [] rfl hφ) rfl rfl (.inl rfl)
set_option maxRecDepth 100000 in
set_option maxHeartbeats 4000000 in
theorem w_value_does_6_s (N : Nat) (a0 : Int) (a1 : Int) (qg0 : Nat) (o0 : Int) (hm : m_value_does_6 N a0 a1 = some o0) : Spec Tryd.prog 53 [.int .i64 a0, .int .i64 a1, .pointer (some ⟨qg0, 0, none⟩)] [] [.blk qg0 [.func (.func 47) #[] #[]] 70] (fun v Φr Hr => v = .tuple #[.int .i64 o0, .bool true] ∧ Φr = [] ∧ Hr = [.blk qg0 [.func (.func 47) #[] #[]] 70]) := by
 unfold m_value_does_6 at hm
 refine spec_of Tryd.func53 rfl Tryd.ntmps53 rfl (S := [_,_,_]) rfl (fun C => ?_)
 refine wc_seq ?_
 refine wc_region ?_
 refine wl_pure rfl rfl rfl (freshS_eq rfl) rfl ?_
 refine wl_pure rfl rfl rfl (freshS_eq rfl) rfl ?_
 refine wl_nil ?_
 refine we_then ?_
 refine wc_keep [0, 1, 2] (S' := [_,_,_]) rfl ?_
 refine wc_seq ?_
 refine wc_region ?_
 refine wl_loadH 0 0 rfl rfl rfl (freshS_eq rfl) rfl rfl rfl (cs := [_]) rfl tS_70 tA_70 rfl rfl ?_
 refine wl_pure rfl rfl rfl (freshS_eq rfl) rfl ?_
 refine wl_pure rfl rfl rfl (freshS_eq rfl) rfl ?_
 refine wl_pure rfl rfl rfl (freshS_eq rfl) rfl ?_
 obtain ⟨v11, hc11, hm⟩ := bindO_some hm
 refine wl_callDyn [] [0] rfl rfl rfl (freshS_eq rfl) rfl rfl rfl fn_47 rfl rfl (w_value_does_1_s N (decide (a0 ≤ a1)) _ hc11) (fun _ _ hφ => ask [] rfl hφ) rfl (H' := [_]) rfl ?_
 rintro _ _ _ ⟨rfl, rfl, rfl⟩
 refine wl_pure rfl rfl rfl (freshS_eq rfl) rfl ?_
 refine wl_pure rfl rfl rfl (freshS_eq rfl) rfl ?_
 refine wl_pure rfl rfl rfl (freshS_eq rfl) rfl ?_
 refine wl_pure rfl rfl rfl (freshS_eq rfl) rfl ?_
 refine wl_nil ?_
 refine we_then ?_
 refine wc_keep [6, 5] (S' := [_,_]) rfl ?_
 refine wc_ret ?_
 have hE := (Option.some.inj hm).symm
 replace hE := hE.symm
 subst hE
 refine ret_two (Hr := [_]) [0] Tryd.results53 (res_tmp rfl) (res_tmp rfl) ⟨rfl, rfl, rfl⟩ (fun _ _ hφ => ask [] rfl hφ) rfl rfl (.inl rfl)
set_option maxRecDepth 100000 in
set_option maxHeartbeats 4000000 in
theorem w_value_does_7_s (N : Nat) (a0 : Int) (a1 : Int) (qg0 : Nat) (o0 : Int) (hm : m_value_does_7 N a0 a1 = some o0) : Spec Tryd.prog 54 [.int .i64 a0, .int .i64 a1, .pointer (some ⟨qg0, 0, none⟩)] [] [.blk qg0 [.func (.func 47) #[] #[]] 70] (fun v Φr Hr => v = .tuple #[.int .i64 o0, .bool true] ∧ Φr = [] ∧ Hr = [.blk qg0 [.func (.func 47) #[] #[]] 70]) := by
 unfold m_value_does_7 at hm
 refine spec_of Tryd.func54 rfl Tryd.ntmps54 rfl (S := [_,_,_]) rfl (fun C => ?_)
 refine wc_seq ?_
 refine wc_region ?_
 refine wl_pure rfl rfl rfl (freshS_eq rfl) rfl ?_
 refine wl_pure rfl rfl rfl (freshS_eq rfl) rfl ?_
 refine wl_nil ?_
 refine we_then ?_
 refine wc_keep [0, 1, 2] (S' := [_,_,_]) rfl ?_
 refine wc_seq ?_
 refine wc_region ?_
 refine wl_loadH 0 0 rfl rfl rfl (freshS_eq rfl) rfl rfl rfl (cs := [_]) rfl tS_70 tA_70 rfl rfl ?_
 refine wl_pure rfl rfl rfl (freshS_eq rfl) rfl ?_
 refine wl_pure rfl rfl rfl (freshS_eq rfl) rfl ?_
 refine wl_pure rfl rfl rfl (freshS_eq rfl) rfl ?_
 refine wl_split (d := 10) (S' := [_,_,_,_,_,_]) rfl rfl (fun hs10 => ?_) (fun hs10 => ?_)
 ·
  replace hm := iteT hm hs10
  refine wl_pure rfl rfl rfl (freshS_eq rfl) rfl ?_
  refine wl_pure rfl rfl rfl (freshS_eq rfl) rfl ?_
  refine wl_pure rfl rfl rfl (freshS_eq rfl) rfl ?_
  obtain ⟨v14, hc14, hm⟩ := bindO_some hm
  refine wl_callDyn [] [0] rfl rfl rfl (freshS_eq rfl) rfl rfl rfl fn_47 rfl rfl (w_value_does_1_s N (a1 != 0) _ hc14) (fun _ _ hφ => ask [] rfl hφ) rfl (H' := [_]) rfl ?_
  rintro _ _ _ ⟨rfl, rfl, rfl⟩
  refine wl_pure rfl rfl rfl (freshS_eq rfl) rfl ?_
  refine wl_pure rfl rfl rfl (freshS_eq rfl) rfl ?_
  refine wl_pure rfl rfl rfl (freshS_eq rfl) rfl ?_
  refine wl_pure rfl rfl rfl (freshS_eq rfl) rfl ?_
  refine wl_nil ?_
  refine we_then ?_
  refine wc_keep [6, 5] (S' := [_,_]) rfl ?_
  refine wc_ret ?_
  have hE := (Option.some.inj hm).symm
  replace hE := hE.symm
  subst hE
  refine ret_two (Hr := [_]) [0] Tryd.results54 (res_tmp rfl) (res_tmp rfl) ⟨rfl, rfl, rfl⟩ (fun _ _ hφ => ask [] rfl hφ) rfl rfl (.inl rfl)
 ·
  replace hm := iteF hm hs10
  refine wl_off rfl rfl rfl (freshS_eq rfl) ?_
  refine wl_off rfl rfl rfl (freshS_eq rfl) ?_
  refine wl_pure rfl rfl rfl (freshS_eq rfl) rfl ?_
  obtain ⟨v14, hc14, hm⟩ := bindO_some hm
  refine wl_callDyn [] [0] rfl rfl rfl (freshS_eq rfl) rfl rfl rfl fn_47 rfl rfl (w_value_does_1_s N false _ hc14) (fun _ _ hφ => ask [] rfl hφ) rfl (H' := [_]) rfl ?_
  rintro _ _ _ ⟨rfl, rfl, rfl⟩
  refine wl_pure rfl rfl rfl (freshS_eq rfl) rfl ?_
  refine wl_pure rfl rfl rfl (freshS_eq rfl) rfl ?_
  refine wl_pure rfl rfl rfl (freshS_eq rfl) rfl ?_
  refine wl_pure rfl rfl rfl (freshS_eq rfl) rfl ?_
  refine wl_nil ?_
  refine we_then ?_
  refine wc_keep [6, 5] (S' := [_,_]) rfl ?_
  refine wc_ret ?_
  have hE := (Option.some.inj hm).symm
  replace hE := hE.symm
  subst hE
  refine ret_two (Hr := [_]) [0] Tryd.results54 (res_tmp rfl) (res_tmp rfl) ⟨rfl, rfl, rfl⟩ (fun _ _ hφ => ask [] rfl hφ) rfl rfl (.inl rfl)
set_option maxRecDepth 100000 in
set_option maxHeartbeats 4000000 in
theorem w_value_does_8_s (N : Nat) (a0 : Int) (a1 : Int) (qg0 : Nat) (o0 : Int) (hm : m_value_does_8 N a0 a1 = some o0) : Spec Tryd.prog 55 [.int .i64 a0, .int .i64 a1, .pointer (some ⟨qg0, 0, none⟩)] [] [.blk qg0 [.func (.func 47) #[] #[]] 70] (fun v Φr Hr => v = .tuple #[.int .i64 o0, .bool true] ∧ Φr = [] ∧ Hr = [.blk qg0 [.func (.func 47) #[] #[]] 70]) := by
 unfold m_value_does_8 at hm
 refine spec_of Tryd.func55 rfl Tryd.ntmps55 rfl (S := [_,_,_]) rfl (fun C => ?_)
 refine wc_seq ?_
 refine wc_region ?_
 refine wl_pure rfl rfl rfl (freshS_eq rfl) rfl ?_
 refine wl_pure rfl rfl rfl (freshS_eq rfl) rfl ?_
 refine wl_nil ?_
 refine we_then ?_
 refine wc_keep [0, 1, 2] (S' := [_,_,_]) rfl ?_
 refine wc_seq ?_
 refine wc_region ?_
 refine wl_loadH 0 0 rfl rfl rfl (freshS_eq rfl) rfl rfl rfl (cs := [_]) rfl tS_70 tA_70 rfl rfl ?_
 refine wl_pure rfl rfl rfl (freshS_eq rfl) rfl ?_
 refine wl_pure rfl rfl rfl (freshS_eq rfl) rfl ?_
 refine wl_pure rfl rfl rfl (freshS_eq rfl) rfl ?_
 refine wl_split (d := 10) (S' := [_,_,_,_,_,_]) rfl rfl (fun hs10 => ?_) (fun hs10 => ?_)
 ·
  replace hm := iteT hm hs10
  refine wl_off rfl rfl rfl (freshS_eq rfl) ?_
  refine wl_off rfl rfl rfl (freshS_eq rfl) ?_
  refine wl_pure rfl rfl rfl (freshS_eq rfl) rfl ?_
  obtain ⟨v14, hc14, hm⟩ := bindO_some hm
  refine wl_callDyn [] [0] rfl rfl rfl (freshS_eq rfl) rfl rfl rfl fn_47 rfl rfl (w_value_does_1_s N true _ hc14) (fun _ _ hφ => ask [] rfl hφ) rfl (H' := [_]) rfl ?_
  rintro _ _ _ ⟨rfl, rfl, rfl⟩
  refine wl_pure rfl rfl rfl (freshS_eq rfl) rfl ?_
  refine wl_pure rfl rfl rfl (freshS_eq rfl) rfl ?_
  refine wl_pure rfl rfl rfl (freshS_eq rfl) rfl ?_
  refine wl_pure rfl rfl rfl (freshS_eq rfl) rfl ?_
  refine wl_nil ?_
  refine we_then ?_
  refine wc_keep [6, 5] (S' := [_,_]) rfl ?_
  refine wc_ret ?_
  have hE := (Option.some.inj hm).symm
  replace hE := hE.symm
  subst hE
  refine ret_two (Hr := [_]) [0] Tryd.results55 (res_tmp rfl) (res_tmp rfl) ⟨rfl, rfl, rfl⟩ (fun _ _ hφ => ask [] rfl hφ) rfl rfl (.inl rfl)
 ·
  replace hm := iteF hm hs10
  refine wl_pure rfl rfl rfl (freshS_eq rfl) rfl ?_
  refine wl_pure rfl rfl rfl (freshS_eq rfl) rfl ?_
  refine wl_pure rfl rfl rfl (freshS_eq rfl) rfl ?_
  obtain ⟨v14, hc14, hm⟩ := bindO_some hm
  refine wl_callDyn [] [0] rfl rfl rfl (freshS_eq rfl) rfl rfl rfl fn_47 rfl rfl (w_value_does_1_s N (a1 != 0) _ hc14) (fun _ _ hφ => ask [] rfl hφ) rfl (H' := [_]) rfl ?_
  rintro _ _ _ ⟨rfl, rfl, rfl⟩
  refine wl_pure rfl rfl rfl (freshS_eq rfl) rfl ?_
  refine wl_pure rfl rfl rfl (freshS_eq rfl) rfl ?_
  refine wl_pure rfl rfl rfl (freshS_eq rfl) rfl ?_
  refine wl_pure rfl rfl rfl (freshS_eq rfl) rfl ?_
  refine wl_nil ?_
  refine we_then ?_
  refine wc_keep [6, 5] (S' := [_,_]) rfl ?_
  refine wc_ret ?_
  have hE := (Option.some.inj hm).symm
  replace hE := hE.symm
  subst hE
  refine ret_two (Hr := [_]) [0] Tryd.results55 (res_tmp rfl) (res_tmp rfl) ⟨rfl, rfl, rfl⟩ (fun _ _ hφ => ask [] rfl hφ) rfl rfl (.inl rfl)
set_option maxRecDepth 100000 in
set_option maxHeartbeats 4000000 in
theorem w_value_does_9_s (N : Nat) (a0 : Int) (a1 : Int) (qg0 : Nat) (o0 : Int) (hm : m_value_does_9 N a0 a1 = some o0) : Spec Tryd.prog 56 [.int .i64 a0, .int .i64 a1, .pointer (some ⟨qg0, 0, none⟩)] [] [.blk qg0 [.func (.func 47) #[] #[]] 70] (fun v Φr Hr => v = .tuple #[.int .i64 o0, .bool true] ∧ Φr = [] ∧ Hr = [.blk qg0 [.func (.func 47) #[] #[]] 70]) := by
 unfold m_value_does_9 at hm
 refine spec_of Tryd.func56 rfl Tryd.ntmps56 rfl (S := [_,_,_]) rfl (fun C => ?_)
 refine wc_seq ?_
 refine wc_region ?_
 refine wl_pure rfl rfl rfl (freshS_eq rfl) rfl ?_
 refine wl_pure rfl rfl rfl (freshS_eq rfl) rfl ?_
 refine wl_nil ?_
 refine we_then ?_
 refine wc_keep [0, 2] (S' := [_,_]) rfl ?_
 refine wc_seq ?_
 refine wc_region ?_
 refine wl_loadH 0 0 rfl rfl rfl (freshS_eq rfl) rfl rfl rfl (cs := [_]) rfl tS_70 tA_70 rfl rfl ?_
 refine wl_pure rfl rfl rfl (freshS_eq rfl) rfl ?_
 refine wl_pure rfl rfl rfl (freshS_eq rfl) rfl ?_
 obtain ⟨v10, hc10, hm⟩ := bindO_some hm
 refine wl_callDyn [] [0] rfl rfl rfl (freshS_eq rfl) rfl rfl rfl fn_47 rfl rfl (w_value_does_1_s N (a0 == 0) _ hc10) (fun _ _ hφ => ask [] rfl hφ) rfl (H' := [_]) rfl ?_
 rintro _ _ _ ⟨rfl, rfl, rfl⟩
 refine wl_pure rfl rfl rfl (freshS_eq rfl) rfl ?_
 refine wl_pure rfl rfl rfl (freshS_eq rfl) rfl ?_
 refine wl_pure rfl rfl rfl (freshS_eq rfl) rfl ?_
 refine wl_pure rfl rfl rfl (freshS_eq rfl) rfl ?_
 refine wl_nil ?_
 refine we_then ?_
 refine wc_keep [6, 5] (S' := [_,_]) rfl ?_
 refine wc_ret ?_
 have hE := (Option.some.inj hm).symm
 replace hE := hE.symm
 subst hE
 refine ret_two (Hr := [_]) [0] Tryd.results56 (res_tmp rfl) (res_tmp rfl) ⟨rfl, rfl, rfl⟩ (fun _ _ hφ => ask [] rfl hφ) rfl rfl (.inl rfl)
set_option maxRecDepth 100000 in
set_option maxHeartbeats 4000000 in
theorem w_value_Do_s (N : Nat) (a0 : Int) (qp0 : Option Addr) (qc1 : Nat) (l1 : List V) (o0 : Nat) (o1 : Int) (o2 : Nat) (hm : m_value_Do N a0 l1 = some (o0, o1, o2)) : Spec Tryd.prog 29 [.int .u8 a0, .slice qp0 l1.length qc1] [.sli 3 R_V qp0 qc1 l1] [] (fun v Φr Hr => v = .tuple #[.agg #[.int .u8 ((o0 : Nat) : Int), .int .i64 o1, .string ((⟨#[]⟩ : ByteArray))], .int .i64 ((o2 : Nat) : Int)] ∧ Φr = [] ∧ Hr = []) := by
 unfold m_value_Do at hm
 refine spec_of Tryd.func29 rfl Tryd.ntmps29 rfl (S := [_,_]) rfl (fun C => ?_)
 refine wc_seq ?_
 refine wc_region ?_
 refine wl_alloc rfl rfl rfl (freshS_eq rfl) rfl tZ_25 rfl (fun g4 => ?_)
 refine wl_pure rfl rfl rfl (freshS_eq rfl) rfl ?_
 refine wl_nil ?_
 refine we_then ?_
 refine wc_keep [4, 0, 1] (S' := [_,_,_]) rfl ?_
 refine wc_seq ?_
 refine wc_region ?_
 refine wl_pure rfl rfl rfl (freshS_eq rfl) rfl ?_
 refine wl_nil ?_
 refine we_then ?_
 refine wc_seq ?_
 obtain ⟨bj_1, hm, hLj_1⟩ := bindO_some hm
 unfold m_value_Do_C1 at hm
 refine wc_cut (σ := Nat) (fun j_1_6 => bj_1 = j_1_6) (fun j_1_6 => [(4, .pointer (some ⟨g4, 0, none⟩)), (0, .int .u8 a0), (1, .slice qp0 l1.length qc1), (6, .int .i64 ((j_1_6 : Nat) : Int))]) (fun j_1_6 => [.sli 3 R_V qp0 qc1 l1]) (fun j_1_6 => [.blk g4 [.int .u8 0, .int .i64 0, .string ((⟨#[]⟩ : ByteArray))] 25]) ?_ ?_
 ·
  refine wc_seq ?_
  obtain ⟨bj_2, hm, hLj_2⟩ := bindO_some hm
  refine wc_cut (σ := Bool) (fun j_2_19 => bj_2 = j_2_19) (fun j_2_19 => [(4, .pointer (some ⟨g4, 0, none⟩)), (0, .int .u8 a0), (1, .slice qp0 l1.length qc1), (6, .int .i64 2), (19, .bool j_2_19)]) (fun j_2_19 => [.sli 3 R_V qp0 qc1 l1]) (fun j_2_19 => [.blk g4 [.int .u8 0, .int .i64 0, .string ((⟨#[]⟩ : ByteArray))] 25]) ?_ ?_
  ·
   refine wc_region ?_
   refine wl_pure rfl rfl rfl (freshS_eq rfl) rfl ?_
   refine wl_pure rfl rfl rfl (freshS_eq rfl) rfl ?_
   refine wl_pure rfl rfl rfl (freshS_eq rfl) rfl ?_
   refine wl_split (d := 16) (S' := [_,_,_,_,_,_]) rfl rfl (fun hs16 => ?_) (fun hs16 => ?_)
   ·
    replace hm := iteT hm hs16
    refine wl_off rfl rfl rfl (freshS_eq rfl) ?_
    refine wl_off rfl rfl rfl (freshS_eq rfl) ?_
    refine wl_pure rfl rfl rfl (freshS_eq rfl) rfl ?_
    refine wl_nil ?_
    have hE := (Option.some.inj hm).symm
    refine we_join true hE [4, 0, 1, 6, 19] rfl (fun _ _ hφ => ask [0] rfl hφ) rfl
   ·
    replace hm := iteF hm hs16
    refine wl_pure rfl rfl rfl (freshS_eq rfl) rfl ?_
    refine wl_pure rfl rfl rfl (freshS_eq rfl) rfl ?_
    refine wl_pure rfl rfl rfl (freshS_eq rfl) rfl ?_
    refine wl_nil ?_
    have hE := (Option.some.inj hm).symm
    refine we_join (a0 == 11) hE [4, 0, 1, 6, 19] rfl (fun _ _ hφ => ask [0] rfl hφ) rfl
  ·
   rintro j_2_19 hE
   try dsimp only
   have hm := hLj_2
   rw [hE] at hm
   refine wc_cond rfl (fun hb19 => ?_) (fun hb19 => ?_)
   ·
    replace hm := iteT hm hb19
    refine wc_keep [4, 0, 1] (S' := [_,_,_]) rfl ?_
    refine wc_region ?_
    refine wl_pure rfl rfl rfl (freshS_eq rfl) rfl ?_
    refine wl_nil ?_
    have hE := (Option.some.inj hm).symm
    refine we_join 1 hE [4, 0, 1, 6] rfl (fun _ _ hφ => ask [0] rfl hφ) rfl
   ·
    replace hm := iteF hm hb19
    refine wc_keep [4, 0, 1, 6] (S' := [_,_,_,_]) rfl ?_
    refine wc_skip ?_
    have hE := (Option.some.inj hm).symm
    refine we_join 2 hE [4, 0, 1, 6] rfl (fun _ _ hφ => ask [0] rfl hφ) rfl
 ·
  rintro j_1_6 hE
  try dsimp only
  have hm := hLj_1
  rw [hE] at hm
  refine wc_seq ?_
  refine wc_seq ?_
  obtain ⟨bj_3, hm, hLj_3⟩ := bindO_some hm
  refine wc_cut (σ := Bool) (fun j_3_31 => bj_3 = j_3_31) (fun j_3_31 => [(4, .pointer (some ⟨g4, 0, none⟩)), (0, .int .u8 a0), (1, .slice qp0 l1.length qc1), (6, .int .i64 ((j_1_6 : Nat) : Int)), (31, .bool j_3_31)]) (fun j_3_31 => [.sli 3 R_V qp0 qc1 l1]) (fun j_3_31 => [.blk g4 [.int .u8 0, .int .i64 0, .string ((⟨#[]⟩ : ByteArray))] 25]) ?_ ?_
  ·
   refine wc_region ?_
   refine wl_pure rfl rfl rfl (freshS_eq rfl) rfl ?_
   refine wl_pure rfl rfl rfl (freshS_eq rfl) rfl ?_
   refine wl_pure rfl rfl rfl (freshS_eq rfl) rfl ?_
   refine wl_split (d := 22) (S' := [_,_,_,_,_,_]) rfl rfl (fun hs22 => ?_) (fun hs22 => ?_)
   ·
    replace hm := iteT hm hs22
    refine wl_off rfl rfl rfl (freshS_eq rfl) ?_
    refine wl_off rfl rfl rfl (freshS_eq rfl) ?_
    refine wl_pure rfl rfl rfl (freshS_eq rfl) rfl ?_
    refine wl_pure rfl rfl rfl (freshS_eq rfl) rfl ?_
    refine wl_off rfl rfl rfl (freshS_eq rfl) ?_
    refine wl_off rfl rfl rfl (freshS_eq rfl) ?_
    refine wl_off rfl rfl rfl (freshS_eq rfl) ?_
    refine wl_off rfl rfl rfl (freshS_eq rfl) ?_
    refine wl_pure rfl rfl rfl (freshS_eq rfl) rfl ?_
    refine wl_nil ?_
    have hE := (Option.some.inj hm).symm
    refine we_join true hE [4, 0, 1, 6, 31] rfl (fun _ _ hφ => ask [0] rfl hφ) rfl
   ·
    replace hm := iteF hm hs22
    refine wl_pure rfl rfl rfl (freshS_eq rfl) rfl ?_
    refine wl_pure rfl rfl rfl (freshS_eq rfl) rfl ?_
    refine wl_pure rfl rfl rfl (freshS_eq rfl) rfl ?_
    refine wl_pure rfl rfl rfl (freshS_eq rfl) rfl ?_
    refine wl_split (d := 26) (S' := [_,_,_,_,_,_,_,_,_,_]) rfl rfl (fun hs26 => ?_) (fun hs26 => ?_)
    ·
     replace hm := iteT hm hs26
     refine wl_off rfl rfl rfl (freshS_eq rfl) ?_
     refine wl_off rfl rfl rfl (freshS_eq rfl) ?_
     refine wl_off rfl rfl rfl (freshS_eq rfl) ?_
     refine wl_off rfl rfl rfl (freshS_eq rfl) ?_
     refine wl_pure rfl rfl rfl (freshS_eq rfl) rfl ?_
     refine wl_nil ?_
     have hE := (Option.some.inj hm).symm
     refine we_join true hE [4, 0, 1, 6, 31] rfl (fun _ _ hφ => ask [0] rfl hφ) rfl
    ·
     replace hm := iteF hm hs26
     refine wl_pure rfl rfl rfl (freshS_eq rfl) rfl ?_
     refine wl_len rfl rfl rfl (freshS_eq rfl) rfl rfl tE_30 ?_
     refine wl_pure rfl rfl rfl (freshS_eq rfl) rfl ?_
     refine wl_pure rfl rfl rfl (freshS_eq rfl) rfl ?_
     refine wl_as (d := 30) (v' := .bool (l1.length != j_1_6)) (S' := [_,_,_,_,_,_,_,_,_,_,_,_,_,_]) rfl rfl (natne (a := l1.length) (b := j_1_6)) ?_
     refine wl_pure rfl rfl rfl (freshS_eq rfl) rfl ?_
     refine wl_nil ?_
     have hE := (Option.some.inj hm).symm
     refine we_join (l1.length != j_1_6) hE [4, 0, 1, 6, 31] rfl (fun _ _ hφ => ask [0] rfl hφ) rfl
  ·
   rintro j_3_31 hE
   try dsimp only
   have hm := hLj_3
   rw [hE] at hm
   refine wc_cond rfl (fun hb31 => ?_) (fun hb31 => ?_)
   ·
    replace hm := iteT hm hb31
    refine wc_keep [4] (S' := [_]) rfl ?_
    refine wc_seq ?_
    refine wc_region ?_
    refine wl_build rfl rfl rfl (freshS_eq rfl) rfl tZ_25 tP_25 rfl (out := [_,_,_]) rfl ?_
    refine wl_store 0 0 rfl rfl rfl rfl rfl rfl rfl tS_25 rfl rfl rfl (all' := [_,_,_]) rfl (H' := [_]) rfl ?_
    refine wl_pure rfl rfl rfl (freshS_eq rfl) rfl ?_
    refine wl_nil ?_
    refine we_then ?_
    refine wc_keep [5, 4] (S' := [_,_]) rfl ?_
    refine wc_ret ?_
    refine we_then_ret ?_
    have hE := (Option.some.inj hm).symm
    obtain ⟨hE0, hF1⟩ := Prod.mk.inj hE
    obtain ⟨hE1, hE2⟩ := Prod.mk.inj hF1
    clear hE hF1
    replace hE0 := hE0.symm
    subst hE0
    replace hE1 := hE1.symm
    subst hE1
    replace hE2 := hE2.symm
    subst hE2
    refine ret_two (Hr := []) [] Tryd.results29 (res_cell 0 rfl rfl tS_25 tA_25 rfl rfl) (res_tmp rfl) ⟨rfl, rfl, rfl⟩ (fun _ _ hφ => ask [] rfl hφ) rfl rfl (.inl rfl)
   ·
    replace hm := iteF hm hb31
    refine wc_keep [4, 0, 1, 6] (S' := [_,_,_,_]) rfl ?_
    refine wc_skip ?_
    refine we_then ?_
    refine wc_seq ?_
    refine wc_region ?_
    refine wl_pure rfl rfl rfl (freshS_eq rfl) rfl ?_
    refine wl_nil ?_
    refine we_then ?_
    refine wc_seq ?_
    obtain ⟨bj_4, hm, hLj_4⟩ := bindS_some hm
    refine wc_cut (σ := Bool) (fun j_4_7 => bj_4 = .inl j_4_7) (fun j_4_7 => [(4, .pointer (some ⟨g4, 0, none⟩)), (0, .int .u8 a0), (1, .slice qp0 l1.length qc1), (6, .int .i64 ((j_1_6 : Nat) : Int)), (7, .bool j_4_7)]) (fun j_4_7 => [.sli 3 R_V qp0 qc1 l1]) (fun j_4_7 => [.blk g4 [.int .u8 0, .int .i64 0, .string ((⟨#[]⟩ : ByteArray))] 25]) ?_ ?_
    ·
     refine wc_seq ?_
     refine wc_region ?_
     refine wl_pure rfl rfl rfl (freshS_eq rfl) rfl ?_
     refine wl_len rfl rfl rfl (freshS_eq rfl) rfl rfl tE_30 ?_
     refine wl_pure rfl rfl rfl (freshS_eq rfl) rfl ?_
     refine wl_nil ?_
     refine we_then ?_
     refine wc_block ?_
     refine wc_loop (σ := Nat × Nat × Bool) (fun (nu1, u1_35, u1_7) => iter (m_value_Do_L1 N l1) nu1 (u1_35, u1_7) = some bj_4) (fun (nu1, u1_35, u1_7) => nu1) (fun (nu1, u1_35, u1_7) => [(35, .int .i64 ((u1_35 : Nat) : Int)), (34, .int .i64 ((l1.length : Nat) : Int)), (33, .slice qp0 l1.length qc1), (7, .bool u1_7), (4, .pointer (some ⟨g4, 0, none⟩)), (0, .int .u8 a0), (1, .slice qp0 l1.length qc1), (6, .int .i64 ((j_1_6 : Nat) : Int))]) (fun (nu1, u1_35, u1_7) => [.sli 3 R_V qp0 qc1 l1]) (fun (nu1, u1_35, u1_7) => [.blk g4 [.int .u8 0, .int .i64 0, .string ((⟨#[]⟩ : ByteArray))] 25]) (N, 0, false) hm [35, 34, 33, 7, 4, 0, 1, 6] rfl (fun _ _ hφ => ask [0] rfl hφ) rfl (fun s_ hm => ?_)
     obtain ⟨nu1, u1_35, u1_7⟩ := s_
     try dsimp only at hm ⊢
     obtain ⟨mu1, bu1, hnu1, hq, hLu1⟩ := iter_some hm
     clear hm
     subst hnu1
     replace hm := hq
     clear hq
     unfold m_value_Do_L1 at hm
     try dsimp only at hm
     refine wc_seq ?_
     refine wc_region ?_
     refine wl_pure rfl rfl rfl (freshS_eq rfl) rfl ?_
     refine wl_as (d := 36) (v' := .bool (decide (u1_35 < l1.length))) (S' := [_,_,_,_,_,_,_,_]) rfl rfl (natlt (a := u1_35) (b := l1.length)) ?_
     refine wl_nil ?_
     refine we_then ?_
     refine wc_seq ?_
     refine wc_cond rfl (fun hb36 => ?_) (fun hb36 => ?_)
     ·
      replace hm := iteT hm hb36
      refine wc_keep [35, 34, 33, 7, 4, 0, 1, 6] (S' := [_,_,_,_,_,_,_,_]) rfl ?_
      refine wc_skip ?_
      refine we_then ?_
      refine wc_seq ?_
      obtain ⟨bj_5, hm, hLj_5⟩ := bindS_some hm
      unfold m_value_Do_C5 at hm
      refine wc_cut (σ := Bool) (fun j_5_7 => bj_5 = .inl j_5_7) (fun j_5_7 => [(35, .int .i64 ((u1_35 : Nat) : Int)), (34, .int .i64 ((l1.length : Nat) : Int)), (33, .slice qp0 l1.length qc1), (7, .bool j_5_7), (4, .pointer (some ⟨g4, 0, none⟩)), (0, .int .u8 a0), (1, .slice qp0 l1.length qc1), (6, .int .i64 ((j_1_6 : Nat) : Int))]) (fun j_5_7 => [.sli 3 R_V qp0 qc1 l1]) (fun j_5_7 => [.blk g4 [.int .u8 0, .int .i64 0, .string ((⟨#[]⟩ : ByteArray))] 25]) ?_ ?_
      ·
       refine wc_block ?_
       refine wc_seq ?_
       refine wc_region ?_
       obtain ⟨x37, hx37, hm⟩ := bindO_some hm
       refine wl_indexA 0 u1_35 rfl rfl rfl (freshS_eq rfl) rfl rfl rfl rfl rfl hx37 tE_30 tS_25 (fun b37 q37 cs37 hlx37 => ?_)
       refine wl_open R_V_opens 1 rfl (fun r37 er37 _ => ?_)
       subst er37
       refine wl_load 0 0 rfl rfl rfl (freshS_eq rfl) rfl rfl rfl (cs := [_,_,_]) rfl tS_25 tA_25 rfl rfl ?_
       refine wl_alloc rfl rfl rfl (freshS_eq rfl) rfl tZ_25 rfl (fun g9 => ?_)
       refine wl_store 0 0 rfl rfl rfl rfl rfl rfl rfl tS_25 rfl rfl rfl (all' := [_,_,_]) rfl (H' := [_,_]) rfl ?_
       refine wl_nil ?_
       refine we_then ?_
       refine wc_keep [9, 35, 34, 33, 7, 4, 0, 1, 6] (S' := [_,_,_,_,_,_,_,_,_]) rfl ?_
       refine wc_seq ?_
       refine wc_seq ?_
       refine wc_region ?_
       refine wl_loadH 0 0 rfl rfl rfl (freshS_eq rfl) rfl rfl rfl (cs := [_,_,_]) rfl tS_25 tA_25 rfl rfl ?_
       obtain ⟨v40, hc40, hm⟩ := bindO_some hm
       refine wl_call [] [0, 1] rfl rfl rfl (freshS_eq rfl) rfl rfl fn_17 rfl (w_value_Right_s N x37.k x37.n x37.s _ hc40) (fun _ _ hφ => ask [] rfl hφ) rfl (H' := [_,_]) rfl ?_
       rintro _ _ _ ⟨rfl, rfl, rfl⟩
       refine wl_pure rfl rfl rfl (freshS_eq rfl) rfl ?_
       refine wl_nil ?_
       refine we_then ?_
       refine wc_keep [41, 9, 35, 34, 33, 7, 4, 0, 1, 6] (S' := [_,_,_,_,_,_,_,_,_,_]) rfl ?_
       refine wc_cond rfl (fun hb41 => ?_) (fun hb41 => ?_)
       ·
        replace hm := iteT hm hb41
        refine wc_keep [4] (S' := [_]) rfl ?_
        refine wc_seq ?_
        refine wc_region ?_
        refine wl_build rfl rfl rfl (freshS_eq rfl) rfl tZ_25 tP_25 rfl (out := [_,_,_]) rfl ?_
        refine wl_store 1 0 rfl rfl rfl rfl rfl rfl rfl tS_25 rfl rfl rfl (all' := [_,_,_]) rfl (H' := [_,_]) rfl ?_
        refine wl_pure rfl rfl rfl (freshS_eq rfl) rfl ?_
        refine wl_nil ?_
        refine we_then ?_
        refine wc_keep [5, 4] (S' := [_,_]) rfl ?_
        refine wc_ret ?_
        refine we_then_ret ?_
        refine we_block_ret ?_
        refine we_then_ret ?_
        refine we_then_ret ?_
        refine we_block_ret ?_
        refine we_then_ret ?_
        have hE := (Option.some.inj hm).symm
        replace hE := link_inr hLj_5 hE
        replace hE := link_inr hLu1 hE
        replace hE := link_inr hLj_4 hE
        obtain ⟨hE0, hF1⟩ := Prod.mk.inj hE
        obtain ⟨hE1, hE2⟩ := Prod.mk.inj hF1
        clear hE hF1
        replace hE0 := hE0.symm
        subst hE0
        replace hE1 := hE1.symm
        subst hE1
        replace hE2 := hE2.symm
        subst hE2
        refine ret_two (Hr := []) [] Tryd.results29 (res_cell 1 rfl rfl tS_25 tA_25 rfl rfl) (res_tmp rfl) ⟨rfl, rfl, rfl⟩ (fun _ _ hφ => ask [] rfl hφ) rfl rfl (.inl rfl)
       ·
        replace hm := iteF hm hb41
        refine wc_keep [9, 35, 34, 33, 7, 4, 0, 1, 6] (S' := [_,_,_,_,_,_,_,_,_]) rfl ?_
        refine wc_skip ?_
        refine we_then ?_
        refine wc_region ?_
        refine wl_pure rfl rfl rfl (freshS_eq rfl) rfl ?_
        refine wl_pure rfl rfl rfl (freshS_eq rfl) rfl ?_
        refine wl_split (d := 44) (S' := [_,_,_,_,_,_,_,_,_,_]) rfl rfl (fun hs44 => ?_) (fun hs44 => ?_)
        ·
         replace hm := iteT hm hs44
         refine wl_off rfl rfl rfl (freshS_eq rfl) ?_
         refine wl_off rfl rfl rfl (freshS_eq rfl) ?_
         refine wl_off rfl rfl rfl (freshS_eq rfl) ?_
         refine wl_pure rfl rfl rfl (freshS_eq rfl) rfl ?_
         refine wl_pure (S' := [_,_,_,_,_,_,_,_,_,_,_,_,_,_]) rfl rfl rfl rfl rfl ?_
         refine wl_nil ?_
         refine we_block_normal ?_
         have hE := (Option.some.inj hm).symm
         refine we_pick [1] rfl (H' := [_]) rfl ?_
         refine we_join true hE [35, 34, 33, 7, 4, 0, 1, 6] rfl (fun _ _ hφ => ask [2] rfl hφ) rfl
        ·
         replace hm := iteF hm hs44
         refine wl_fieldAddr rfl rfl rfl (freshS_eq rfl) rfl rfl tF_25_0 ?_
         refine wl_loadH 0 0 rfl rfl rfl (freshS_eq rfl) rfl rfl rfl (cs := [_]) rfl tS_23 tA_23 rfl rfl ?_
         refine wl_pure rfl rfl rfl (freshS_eq rfl) rfl ?_
         refine wl_pure rfl rfl rfl (freshS_eq rfl) rfl ?_
         refine wl_pure (S' := [_,_,_,_,_,_,_,_,_,_,_,_,_,_]) rfl rfl rfl rfl rfl ?_
         refine wl_nil ?_
         refine we_block_normal ?_
         have hE := (Option.some.inj hm).symm
         refine we_pick [1] rfl (H' := [_]) rfl ?_
         refine we_join (x37.k == 2) hE [35, 34, 33, 7, 4, 0, 1, 6] rfl (fun _ _ hφ => ask [2] rfl hφ) rfl
      ·
       rintro j_5_7 hE
       try dsimp only
       have hm := link_inl hLj_5 hE
       refine wc_region ?_
       refine wl_pure rfl rfl rfl (freshS_eq rfl) rfl ?_
       obtain ⟨hg49, hm⟩ := gd_some hm
       refine wl_as (d := 49) (v' := .int .i64 ((u1_35 + 1 : Nat) : Int)) (S' := [_,_,_,_,_,_,_,_]) rfl rfl (nat_add (a := u1_35) (b := 1) hg49) ?_
       refine wl_pure (S' := [_,_,_,_,_,_,_,_]) rfl rfl rfl rfl rfl ?_
       refine wl_nil ?_
       have hE := (Option.some.inj hm).symm
       replace hE := link_inl hLu1 hE
       refine we_roundK (_, u1_35 + 1, j_5_7) (Nat.lt_succ_self _) hE [35, 34, 33, 7, 4, 0, 1, 6] rfl (fun _ _ hφ => ask [0] rfl hφ) rfl
     ·
      replace hm := iteF hm hb36
      refine wc_keep [7, 4, 0, 1, 6] (S' := [_,_,_,_,_]) rfl ?_
      refine wc_exit ?_
      refine we_then_exit ?_
      refine we_then_exit ?_
      refine we_block_hit ?_
      have hE := (Option.some.inj hm).symm
      replace hE := link_inr hLu1 hE
      refine we_join u1_7 hE [4, 0, 1, 6, 7] rfl (fun _ _ hφ => ask [0] rfl hφ) rfl
    ·
     rintro j_4_7 hE
     try dsimp only
     have hm := link_inl hLj_4 hE
     refine wc_seq ?_
     obtain ⟨x51, hx51, hm⟩ := bindO_some hm
     obtain ⟨hg55, hm⟩ := gd_some hm
     obtain ⟨hn56, hm⟩ := gd_some hm
     obtain ⟨x56, hx56, hm⟩ := bindO_some hm
     refine wc_cut (σ := Nat × Nat) (fun _ => True) (fun (w_6_11_g, w_6_10_g) => [(11, .pointer (some ⟨w_6_11_g, 0, none⟩)), (10, .pointer (some ⟨w_6_10_g, 0, none⟩)), (4, .pointer (some ⟨g4, 0, none⟩)), (0, .int .u8 a0), (7, .bool j_4_7)]) (fun (w_6_11_g, w_6_10_g) => []) (fun (w_6_11_g, w_6_10_g) => [.blk w_6_11_g [.int .u8 (x56.k), .int .i64 (x56.n), .string x56.s] 25, .blk w_6_10_g [.int .u8 (x51.k), .int .i64 (x51.n), .string x51.s] 25, .blk g4 [.int .u8 0, .int .i64 0, .string ((⟨#[]⟩ : ByteArray))] 25]) ?_ ?_
     ·
      refine wc_draw [0, 1, 2, 3, 4, 5, 6, 7] rfl rfl (fun hok => ?_)
      refine wx_pure hok 0 rfl rfl rfl (freshS_eq rfl) rfl rfl ?_
      refine wx_indexA hok 1 0 0 rfl rfl rfl (freshS_eq rfl) rfl rfl rfl rfl rfl rfl hx51 tE_30 tS_25 (fun b51 q51 cs51 hlx51 => ?_)
      refine wx_openR R_V_opens 1 rfl (fun r51 er51 _ => ?_)
      subst er51
      refine wx_load hok 2 0 0 rfl rfl rfl (freshS_eq rfl) rfl rfl rfl rfl (cs := [_,_,_]) rfl tS_25 tA_25 rfl rfl ?_
      refine wx_pure hok 3 rfl rfl rfl (freshS_eq rfl) rfl rfl ?_
      refine wx_pure hok 4 rfl rfl rfl (freshS_eq rfl) rfl rfl ?_
      refine wx_pure hok 5 rfl rfl rfl (freshS_eq rfl) rfl rfl ?_
      refine wx_as (d := 55) (v' := .int .i64 (((j_1_6 : Nat) : Int) - 1)) (S' := [_,_,_,_,_,_,_,_,_,_]) rfl rfl (i64_in hg55) ?_
      refine wx_indexA hok 6 2 ((((j_1_6 : Nat) : Int) - 1).toNat) rfl rfl rfl (freshS_eq rfl) rfl rfl rfl rfl rfl (toNat_eq hn56) hx56 tE_30 tS_25 (fun b56 q56 cs56 hlx56 => ?_)
      refine wx_openR R_V_opens 1 rfl (fun r56 er56 _ => ?_)
      subst er56
      refine wx_load hok 7 0 0 rfl rfl rfl (freshS_eq rfl) rfl rfl rfl rfl (cs := [_,_,_]) rfl tS_25 tA_25 rfl rfl ?_
      refine wx_step2 hok 8 9 rfl rfl rfl rfl rfl rfl ?_ ?_
      ·
       refine wl_alloc rfl rfl rfl (freshS_eq rfl) rfl tZ_25 rfl (fun g10 => ?_)
       refine wl_nil ?_
       refine we_x [0, 1, 2, 3, 4] [] rfl rfl ?_
       refine wx_step1 hok 9 rfl rfl rfl rfl ?_
       refine wl_alloc rfl rfl rfl (freshS_eq rfl) rfl tZ_25 rfl (fun g11 => ?_)
       refine wl_nil ?_
       refine we_x [0, 1, 2, 3, 4] [] rfl rfl ?_
       refine wx_step1 hok 10 rfl rfl rfl rfl ?_
       refine wl_store 1 0 rfl rfl rfl rfl rfl rfl rfl tS_25 rfl rfl rfl (all' := [_,_,_]) rfl (H' := [_,_,_]) rfl ?_
       refine wl_nil ?_
       refine we_x [0, 1, 2, 3, 4] [] rfl rfl ?_
       refine wx_step1 hok 11 rfl rfl rfl rfl ?_
       refine wl_store 0 0 rfl rfl rfl rfl rfl rfl rfl tS_25 rfl rfl rfl (all' := [_,_,_]) rfl (H' := [_,_,_]) rfl ?_
       refine wl_nil ?_
       refine we_x [0, 1, 2, 3, 4] [] rfl rfl ?_
       refine wx_done hok rfl ?_
       refine we_join (g11, g10) trivial [11, 10, 4, 0, 7] rfl (fun _ _ hφ => ask [] rfl hφ) rfl
      ·
       refine wl_alloc rfl rfl rfl (freshS_eq rfl) rfl tZ_25 rfl (fun g11 => ?_)
       refine wl_nil ?_
       refine we_x [0, 1, 2, 3, 4] [] rfl rfl ?_
       refine wx_step1 hok 8 rfl rfl rfl rfl ?_
       refine wl_alloc rfl rfl rfl (freshS_eq rfl) rfl tZ_25 rfl (fun g10 => ?_)
       refine wl_nil ?_
       refine we_x [0, 1, 2, 3, 4] [] rfl rfl ?_
       refine wx_step1 hok 10 rfl rfl rfl rfl ?_
       refine wl_store 0 0 rfl rfl rfl rfl rfl rfl rfl tS_25 rfl rfl rfl (all' := [_,_,_]) rfl (H' := [_,_,_]) rfl ?_
       refine wl_nil ?_
       refine we_x [0, 1, 2, 3, 4] [] rfl rfl ?_
       refine wx_step1 hok 11 rfl rfl rfl rfl ?_
       refine wl_store 1 0 rfl rfl rfl rfl rfl rfl rfl tS_25 rfl rfl rfl (all' := [_,_,_]) rfl (H' := [_,_,_]) rfl ?_
       refine wl_nil ?_
       refine we_x [0, 1, 2, 3, 4] [] rfl rfl ?_
       refine wx_done hok rfl ?_
       refine we_pick [1, 0, 2] rfl (H' := [_,_,_]) rfl ?_
       refine we_join (g11, g10) trivial [11, 10, 4, 0, 7] rfl (fun _ _ hφ => ask [] rfl hφ) rfl
     ·
      rintro ⟨w_6_11_g, w_6_10_g⟩ _
      try dsimp only
      refine wc_seq ?_
      refine wc_block ?_
      refine wc_seq ?_
      refine wc_region ?_
      refine wl_pure rfl rfl rfl (freshS_eq rfl) rfl ?_
      refine wl_pure rfl rfl rfl (freshS_eq rfl) rfl ?_
      refine wl_pure rfl rfl rfl (freshS_eq rfl) rfl ?_
      refine wl_nil ?_
      refine we_then ?_
      refine wc_keep [58, 11, 10, 4, 0, 7] (S' := [_,_,_,_,_,_]) rfl ?_
      refine wc_cond rfl (fun hb58 => ?_) (fun hb58 => ?_)
      ·
       replace hm := iteT hm hb58
       refine wc_keep [11, 10, 4] (S' := [_,_,_]) rfl ?_
       refine wc_seq ?_
       refine wc_region ?_
       refine wl_loadH 1 0 rfl rfl rfl (freshS_eq rfl) rfl rfl rfl (cs := [_,_,_]) rfl tS_25 tA_25 rfl rfl ?_
       refine wl_loadH 0 0 rfl rfl rfl (freshS_eq rfl) rfl rfl rfl (cs := [_,_,_]) rfl tS_25 tA_25 rfl rfl ?_
       refine wl_bin rfl rfl rfl (freshS_eq rfl) rfl rfl rfl (eqlV _ _ x51 x56) ?_
       obtain ⟨v64, hc64, hm⟩ := bindO_some hm
       refine wl_call [] [0, 1, 2] rfl rfl rfl (freshS_eq rfl) rfl rfl fn_37 rfl (w_value_Truth_s N (decide (x51 = x56)) _ hc64) (fun _ _ hφ => ask [] rfl hφ) rfl (H' := [_,_,_]) rfl ?_
       rintro _ _ _ ⟨rfl, rfl, rfl⟩
       refine wl_store 2 0 rfl rfl rfl rfl rfl rfl rfl tS_25 rfl rfl rfl (all' := [_,_,_]) rfl (H' := [_,_,_]) rfl ?_
       refine wl_pure rfl rfl rfl (freshS_eq rfl) rfl ?_
       refine wl_nil ?_
       refine we_then ?_
       refine wc_keep [5, 4] (S' := [_,_]) rfl ?_
       refine wc_ret ?_
       refine we_block_ret ?_
       refine we_then_ret ?_
       have hE := (Option.some.inj hm).symm
       obtain ⟨hE0, hF1⟩ := Prod.mk.inj hE
       obtain ⟨hE1, hE2⟩ := Prod.mk.inj hF1
       clear hE hF1
       replace hE0 := hE0.symm
       subst hE0
       replace hE1 := hE1.symm
       subst hE1
       replace hE2 := hE2.symm
       subst hE2
       refine ret_two (Hr := []) [] Tryd.results29 (res_cell 2 rfl rfl tS_25 tA_25 rfl rfl) (res_tmp rfl) ⟨rfl, rfl, rfl⟩ (fun _ _ hφ => ask [] rfl hφ) rfl rfl (.inl rfl)
      ·
       replace hm := iteF hm hb58
       refine wc_keep [11, 10, 4, 0, 7] (S' := [_,_,_,_,_]) rfl ?_
       refine wc_seq ?_
       refine wc_region ?_
       refine wl_pure rfl rfl rfl (freshS_eq rfl) rfl ?_
       refine wl_pure rfl rfl rfl (freshS_eq rfl) rfl ?_
       refine wl_pure rfl rfl rfl (freshS_eq rfl) rfl ?_
       refine wl_nil ?_
       refine we_then ?_
       refine wc_keep [65, 11, 10, 4, 0, 7] (S' := [_,_,_,_,_,_]) rfl ?_
       refine wc_cond rfl (fun hb65 => ?_) (fun hb65 => ?_)
       ·
        replace hm := iteT hm hb65
        refine wc_keep [11, 10, 4] (S' := [_,_,_]) rfl ?_
        refine wc_seq ?_
        refine wc_region ?_
        refine wl_loadH 1 0 rfl rfl rfl (freshS_eq rfl) rfl rfl rfl (cs := [_,_,_]) rfl tS_25 tA_25 rfl rfl ?_
        refine wl_loadH 0 0 rfl rfl rfl (freshS_eq rfl) rfl rfl rfl (cs := [_,_,_]) rfl tS_25 tA_25 rfl rfl ?_
        refine wl_bin rfl rfl rfl (freshS_eq rfl) rfl rfl rfl (neqV _ _ x51 x56) ?_
        obtain ⟨v71, hc71, hm⟩ := bindO_some hm
        refine wl_call [] [0, 1, 2] rfl rfl rfl (freshS_eq rfl) rfl rfl fn_37 rfl (w_value_Truth_s N (!decide (x51 = x56)) _ hc71) (fun _ _ hφ => ask [] rfl hφ) rfl (H' := [_,_,_]) rfl ?_
        rintro _ _ _ ⟨rfl, rfl, rfl⟩
        refine wl_store 2 0 rfl rfl rfl rfl rfl rfl rfl tS_25 rfl rfl rfl (all' := [_,_,_]) rfl (H' := [_,_,_]) rfl ?_
        refine wl_pure rfl rfl rfl (freshS_eq rfl) rfl ?_
        refine wl_nil ?_
        refine we_then ?_
        refine wc_keep [5, 4] (S' := [_,_]) rfl ?_
        refine wc_ret ?_
        refine we_block_ret ?_
        refine we_then_ret ?_
        have hE := (Option.some.inj hm).symm
        obtain ⟨hE0, hF1⟩ := Prod.mk.inj hE
        obtain ⟨hE1, hE2⟩ := Prod.mk.inj hF1
        clear hE hF1
        replace hE0 := hE0.symm
        subst hE0
        replace hE1 := hE1.symm
        subst hE1
        replace hE2 := hE2.symm
        subst hE2
        refine ret_two (Hr := []) [] Tryd.results29 (res_cell 2 rfl rfl tS_25 tA_25 rfl rfl) (res_tmp rfl) ⟨rfl, rfl, rfl⟩ (fun _ _ hφ => ask [] rfl hφ) rfl rfl (.inl rfl)
       ·
        replace hm := iteF hm hb65
        refine wc_keep [11, 10, 4, 0, 7] (S' := [_,_,_,_,_]) rfl ?_
        refine wc_seq ?_
        refine wc_region ?_
        refine wl_pure rfl rfl rfl (freshS_eq rfl) rfl ?_
        refine wl_pure rfl rfl rfl (freshS_eq rfl) rfl ?_
        refine wl_nil ?_
        refine we_then ?_
        refine wc_keep [72, 11, 10, 4, 0] (S' := [_,_,_,_,_]) rfl ?_
        refine wc_cond rfl (fun hb72 => ?_) (fun hb72 => ?_)
        ·
         replace hm := iteT hm hb72
         refine wc_keep [4] (S' := [_]) rfl ?_
         refine wc_seq ?_
         refine wc_region ?_
         refine wl_build rfl rfl rfl (freshS_eq rfl) rfl tZ_25 tP_25 rfl (out := [_,_,_]) rfl ?_
         refine wl_store 2 0 rfl rfl rfl rfl rfl rfl rfl tS_25 rfl rfl rfl (all' := [_,_,_]) rfl (H' := [_,_,_]) rfl ?_
         refine wl_pure rfl rfl rfl (freshS_eq rfl) rfl ?_
         refine wl_nil ?_
         refine we_then ?_
         refine wc_keep [5, 4] (S' := [_,_]) rfl ?_
         refine wc_ret ?_
         refine we_block_ret ?_
         refine we_then_ret ?_
         have hE := (Option.some.inj hm).symm
         obtain ⟨hE0, hF1⟩ := Prod.mk.inj hE
         obtain ⟨hE1, hE2⟩ := Prod.mk.inj hF1
         clear hE hF1
         replace hE0 := hE0.symm
         subst hE0
         replace hE1 := hE1.symm
         subst hE1
         replace hE2 := hE2.symm
         subst hE2
         refine ret_two (Hr := []) [] Tryd.results29 (res_cell 2 rfl rfl tS_25 tA_25 rfl rfl) (res_tmp rfl) ⟨rfl, rfl, rfl⟩ (fun _ _ hφ => ask [] rfl hφ) rfl rfl (.inl rfl)
        ·
         replace hm := iteF hm hb72
         refine wc_keep [11, 10, 4, 0] (S' := [_,_,_,_]) rfl ?_
         refine wc_skip ?_
         refine we_block_normal ?_
         refine we_then ?_
         refine wc_seq ?_
         obtain ⟨bj_7, hm, hLj_7⟩ := bindO_some hm
         unfold m_value_Do_C7 at hm
         refine wc_cut (σ := Int × Bool) (fun (j_7_12, j_7_13) => bj_7 = (j_7_12, j_7_13)) (fun (j_7_12, j_7_13) => [(4, .pointer (some ⟨g4, 0, none⟩)), (12, .int .i64 j_7_12), (13, .bool j_7_13)]) (fun (j_7_12, j_7_13) => []) (fun (j_7_12, j_7_13) => [.blk g4 [.int .u8 0, .int .i64 0, .string ((⟨#[]⟩ : ByteArray))] 25]) ?_ ?_
         ·
          obtain ⟨_ | _ | _ | _ | _ | _ | _ | _ | _ | _, hc77, hm⟩ := bindO_some hm
          ·
           try dsimp only at hm
           obtain ⟨_, hc82, hm⟩ := bindO_some hm
           try dsimp only at hm
           refine wc_draw [0, 2, 3, 4, 5, 7, 8, 9] rfl rfl (fun hok => ?_)
           refine wx_pure hok 0 rfl rfl rfl (freshS_eq rfl) rfl rfl ?_
           refine wx_fieldAddr hok 2 rfl rfl rfl (freshS_eq rfl) rfl rfl rfl tF_25_1 ?_
           refine wx_loadH hok 3 1 1 rfl rfl rfl (freshS_eq rfl) rfl rfl rfl rfl (cs := [_]) rfl tS_2 tA_2 rfl rfl ?_
           refine wx_fieldAddr hok 4 rfl rfl rfl (freshS_eq rfl) rfl rfl rfl tF_25_1 ?_
           refine wx_loadH hok 5 0 1 rfl rfl rfl (freshS_eq rfl) rfl rfl rfl rfl (cs := [_]) rfl tS_2 tA_2 rfl rfl ?_
           refine wx_step1 hok 1 rfl rfl rfl rfl ?_
           refine wl_call [] [0, 1, 2] rfl rfl rfl (freshS_eq rfl) rfl rfl fn_38 rfl (w_value_does_s0 N a0 hc77) (fun _ _ hφ => ask [] rfl hφ) rfl (H' := [_,_,_]) rfl ?_
           rintro _ _ _ ⟨rfl, rfl, rfl⟩
           refine wl_nil ?_
           refine we_x [] [0, 1] rfl rfl ?_
           refine wx_step1 hok 6 rfl rfl rfl rfl ?_
           refine wl_callDyn [] [0, 1, 2] rfl rfl rfl (freshS_eq rfl) rfl rfl rfl fn_48 rfl rfl (w_value_does_2_s N x51.n x56.n hc82) (fun _ _ hφ => ask [] rfl hφ) rfl (H' := [_,_,_]) rfl ?_
           rintro _ _ _ ⟨rfl, rfl, rfl⟩
           refine wl_nil ?_
           refine we_x [] [] rfl rfl ?_
           refine wx_pure hok 7 rfl rfl rfl (freshS_eq rfl) rfl rfl ?_
           refine wx_pure hok 8 rfl rfl rfl (freshS_eq rfl) rfl rfl ?_
           refine wx_pure hok 9 rfl rfl rfl (freshS_eq rfl) rfl rfl ?_
           refine wx_step1 hok 10 rfl rfl rfl rfl ?_
           refine wl_pure rfl rfl rfl (freshS_eq rfl) rfl ?_
           refine wl_nil ?_
           refine we_x [] [] rfl rfl ?_
           refine wx_step1 hok 11 rfl rfl rfl rfl ?_
           refine wl_pure rfl rfl rfl (freshS_eq rfl) rfl ?_
           refine wl_nil ?_
           refine we_x [] [] rfl rfl ?_
           refine wx_done hok rfl ?_
           have hE := (Option.some.inj hm).symm
           refine we_pick [2] rfl (H' := [_]) rfl ?_
           refine we_join (IntKind.wrap .i64 (x51.n + x56.n), (decide ((IntKind.wrap .i64 (x51.n + x56.n)) < x51.n)) == (decide (x56.n < 0))) hE [4, 12, 13] rfl (fun _ _ hφ => ask [] rfl hφ) rfl
          ·
           try dsimp only at hm
           obtain ⟨_, hc82, hm⟩ := bindO_some hm
           try dsimp only at hm
           refine wc_draw [0, 2, 3, 4, 5, 7, 8, 9] rfl rfl (fun hok => ?_)
           refine wx_pure hok 0 rfl rfl rfl (freshS_eq rfl) rfl rfl ?_
           refine wx_fieldAddr hok 2 rfl rfl rfl (freshS_eq rfl) rfl rfl rfl tF_25_1 ?_
           refine wx_loadH hok 3 1 1 rfl rfl rfl (freshS_eq rfl) rfl rfl rfl rfl (cs := [_]) rfl tS_2 tA_2 rfl rfl ?_
           refine wx_fieldAddr hok 4 rfl rfl rfl (freshS_eq rfl) rfl rfl rfl tF_25_1 ?_
           refine wx_loadH hok 5 0 1 rfl rfl rfl (freshS_eq rfl) rfl rfl rfl rfl (cs := [_]) rfl tS_2 tA_2 rfl rfl ?_
           refine wx_step1 hok 1 rfl rfl rfl rfl ?_
           refine wl_call [] [0, 1, 2] rfl rfl rfl (freshS_eq rfl) rfl rfl fn_38 rfl (w_value_does_s1 N a0 hc77) (fun _ _ hφ => ask [] rfl hφ) rfl (H' := [_,_,_]) rfl ?_
           rintro _ _ _ ⟨rfl, rfl, rfl⟩
           refine wl_nil ?_
           refine we_x [] [0, 1] rfl rfl ?_
           refine wx_step1 hok 6 rfl rfl rfl rfl ?_
           refine wl_callDyn [] [0, 1, 2] rfl rfl rfl (freshS_eq rfl) rfl rfl rfl fn_49 rfl rfl (w_value_does_3_s N x51.n x56.n hc82) (fun _ _ hφ => ask [] rfl hφ) rfl (H' := [_,_,_]) rfl ?_
           rintro _ _ _ ⟨rfl, rfl, rfl⟩
           refine wl_nil ?_
           refine we_x [] [] rfl rfl ?_
           refine wx_pure hok 7 rfl rfl rfl (freshS_eq rfl) rfl rfl ?_
           refine wx_pure hok 8 rfl rfl rfl (freshS_eq rfl) rfl rfl ?_
           refine wx_pure hok 9 rfl rfl rfl (freshS_eq rfl) rfl rfl ?_
           refine wx_step1 hok 10 rfl rfl rfl rfl ?_
           refine wl_pure rfl rfl rfl (freshS_eq rfl) rfl ?_
           refine wl_nil ?_
           refine we_x [] [] rfl rfl ?_
           refine wx_step1 hok 11 rfl rfl rfl rfl ?_
           refine wl_pure rfl rfl rfl (freshS_eq rfl) rfl ?_
           refine wl_nil ?_
           refine we_x [] [] rfl rfl ?_
           refine wx_done hok rfl ?_
           have hE := (Option.some.inj hm).symm
           refine we_pick [2] rfl (H' := [_]) rfl ?_
           refine we_join (IntKind.wrap .i64 (x51.n - x56.n), (decide ((IntKind.wrap .i64 (x51.n - x56.n)) > x51.n)) == (decide (x56.n < 0))) hE [4, 12, 13] rfl (fun _ _ hφ => ask [] rfl hφ) rfl
          ·
           try dsimp only at hm
           obtain ⟨⟨v82_0, v82_1⟩, hc82, hm⟩ := bindO_some hm
           try dsimp only at hm
           refine wc_draw [0, 2, 3, 4, 5, 7, 8, 9] rfl rfl (fun hok => ?_)
           refine wx_pure hok 0 rfl rfl rfl (freshS_eq rfl) rfl rfl ?_
           refine wx_fieldAddr hok 2 rfl rfl rfl (freshS_eq rfl) rfl rfl rfl tF_25_1 ?_
           refine wx_loadH hok 3 1 1 rfl rfl rfl (freshS_eq rfl) rfl rfl rfl rfl (cs := [_]) rfl tS_2 tA_2 rfl rfl ?_
           refine wx_fieldAddr hok 4 rfl rfl rfl (freshS_eq rfl) rfl rfl rfl tF_25_1 ?_
           refine wx_loadH hok 5 0 1 rfl rfl rfl (freshS_eq rfl) rfl rfl rfl rfl (cs := [_]) rfl tS_2 tA_2 rfl rfl ?_
           refine wx_step1 hok 1 rfl rfl rfl rfl ?_
           refine wl_call [] [0, 1, 2] rfl rfl rfl (freshS_eq rfl) rfl rfl fn_38 rfl (w_value_does_s2 N a0 hc77) (fun _ _ hφ => ask [] rfl hφ) rfl (H' := [_,_,_]) rfl ?_
           rintro _ _ _ ⟨rfl, rfl, rfl⟩
           refine wl_nil ?_
           refine we_x [] [0, 1] rfl rfl ?_
           refine wx_step1 hok 6 rfl rfl rfl rfl ?_
           refine wl_callDyn [] [0, 1, 2] rfl rfl rfl (freshS_eq rfl) rfl rfl rfl fn_50 rfl rfl (w_value_product_s N x51.n x56.n _ _ hc82) (fun _ _ hφ => ask [] rfl hφ) rfl (H' := [_,_,_]) rfl ?_
           rintro _ _ _ ⟨rfl, rfl, rfl⟩
           refine wl_nil ?_
           refine we_x [] [] rfl rfl ?_
           refine wx_pure hok 7 rfl rfl rfl (freshS_eq rfl) rfl rfl ?_
           refine wx_pure hok 8 rfl rfl rfl (freshS_eq rfl) rfl rfl ?_
           refine wx_pure hok 9 rfl rfl rfl (freshS_eq rfl) rfl rfl ?_
           refine wx_step1 hok 10 rfl rfl rfl rfl ?_
           refine wl_pure rfl rfl rfl (freshS_eq rfl) rfl ?_
           refine wl_nil ?_
           refine we_x [] [] rfl rfl ?_
           refine wx_step1 hok 11 rfl rfl rfl rfl ?_
           refine wl_pure rfl rfl rfl (freshS_eq rfl) rfl ?_
           refine wl_nil ?_
           refine we_x [] [] rfl rfl ?_
           refine wx_done hok rfl ?_
           have hE := (Option.some.inj hm).symm
           refine we_pick [2] rfl (H' := [_]) rfl ?_
           refine we_join (v82_0, v82_1) hE [4, 12, 13] rfl (fun _ _ hφ => ask [] rfl hφ) rfl
          ·
           try dsimp only at hm
           obtain ⟨_, hc82, hm⟩ := bindO_some hm
           try dsimp only at hm
           refine wc_draw [0, 2, 3, 4, 5, 7, 8, 9] rfl rfl (fun hok => ?_)
           refine wx_pure hok 0 rfl rfl rfl (freshS_eq rfl) rfl rfl ?_
           refine wx_fieldAddr hok 2 rfl rfl rfl (freshS_eq rfl) rfl rfl rfl tF_25_1 ?_
           refine wx_loadH hok 3 1 1 rfl rfl rfl (freshS_eq rfl) rfl rfl rfl rfl (cs := [_]) rfl tS_2 tA_2 rfl rfl ?_
           refine wx_fieldAddr hok 4 rfl rfl rfl (freshS_eq rfl) rfl rfl rfl tF_25_1 ?_
           refine wx_loadH hok 5 0 1 rfl rfl rfl (freshS_eq rfl) rfl rfl rfl rfl (cs := [_]) rfl tS_2 tA_2 rfl rfl ?_
           refine wx_step1 hok 1 rfl rfl rfl rfl ?_
           refine wl_call [] [0, 1, 2] rfl rfl rfl (freshS_eq rfl) rfl rfl fn_38 rfl (w_value_does_s3 N a0 hc77) (fun _ _ hφ => ask [] rfl hφ) rfl (H' := [_,_,_]) rfl ?_
           rintro _ _ _ ⟨rfl, rfl, rfl⟩
           refine wl_nil ?_
           refine we_x [] [0, 1] rfl rfl ?_
           refine wx_step1 hok 6 rfl rfl rfl rfl ?_
           refine wl_callDyn [] [0, 1, 2] rfl rfl rfl (freshS_eq rfl) rfl rfl rfl fn_51 rfl rfl (w_value_does_4_s N x51.n x56.n hc82) (fun _ _ hφ => ask [] rfl hφ) rfl (H' := [_,_,_]) rfl ?_
           rintro _ _ _ ⟨rfl, rfl, rfl⟩
           refine wl_nil ?_
           refine we_x [] [] rfl rfl ?_
           refine wx_pure hok 7 rfl rfl rfl (freshS_eq rfl) rfl rfl ?_
           refine wx_pure hok 8 rfl rfl rfl (freshS_eq rfl) rfl rfl ?_
           refine wx_pure hok 9 rfl rfl rfl (freshS_eq rfl) rfl rfl ?_
           refine wx_step1 hok 10 rfl rfl rfl rfl ?_
           refine wl_pure rfl rfl rfl (freshS_eq rfl) rfl ?_
           refine wl_nil ?_
           refine we_x [] [] rfl rfl ?_
           refine wx_step1 hok 11 rfl rfl rfl rfl ?_
           refine wl_pure rfl rfl rfl (freshS_eq rfl) rfl ?_
           refine wl_nil ?_
           refine we_x [] [] rfl rfl ?_
           refine wx_done hok rfl ?_
           have hE := (Option.some.inj hm).symm
           refine we_pick [2] rfl (H' := [_]) rfl ?_
           refine we_join (IntKind.wrap .i64 (0 - x51.n), x51.n != -9223372036854775808) hE [4, 12, 13] rfl (fun _ _ hφ => ask [] rfl hφ) rfl
          ·
           try dsimp only at hm
           obtain ⟨v82, hc82, hm⟩ := bindO_some hm
           refine wc_draw [0, 2, 3, 4, 5, 7, 8, 9] rfl rfl (fun hok => ?_)
           refine wx_pure hok 0 rfl rfl rfl (freshS_eq rfl) rfl rfl ?_
           refine wx_fieldAddr hok 2 rfl rfl rfl (freshS_eq rfl) rfl rfl rfl tF_25_1 ?_
           refine wx_loadH hok 3 1 1 rfl rfl rfl (freshS_eq rfl) rfl rfl rfl rfl (cs := [_]) rfl tS_2 tA_2 rfl rfl ?_
           refine wx_fieldAddr hok 4 rfl rfl rfl (freshS_eq rfl) rfl rfl rfl tF_25_1 ?_
           refine wx_loadH hok 5 0 1 rfl rfl rfl (freshS_eq rfl) rfl rfl rfl rfl (cs := [_]) rfl tS_2 tA_2 rfl rfl ?_
           refine wx_step1 hok 1 rfl rfl rfl rfl ?_
           refine wl_call [] [0, 1, 2] rfl rfl rfl (freshS_eq rfl) rfl rfl fn_38 rfl (w_value_does_s4 N a0 hc77) (fun _ _ hφ => ask [] rfl hφ) rfl (H' := [_,_,_]) rfl ?_
           rintro _ _ _ ⟨c77_0, rfl, rfl, rfl⟩
           refine wl_nil ?_
           refine we_x [] [1, 2] rfl rfl ?_
           refine wx_step1 hok 6 rfl rfl rfl rfl ?_
           refine wl_callDyn [0] [1, 2, 3] rfl rfl rfl (freshS_eq rfl) rfl rfl rfl fn_52 rfl rfl (w_value_does_5_s N x51.n x56.n c77_0 _ hc82) (fun _ _ hφ => ask [] rfl hφ) rfl (H' := [_,_,_]) rfl ?_
           rintro _ _ _ ⟨rfl, rfl, rfl⟩
           refine wl_nil ?_
           refine we_x [] [] rfl rfl ?_
           refine wx_pure hok 7 rfl rfl rfl (freshS_eq rfl) rfl rfl ?_
           refine wx_pure hok 8 rfl rfl rfl (freshS_eq rfl) rfl rfl ?_
           refine wx_pure hok 9 rfl rfl rfl (freshS_eq rfl) rfl rfl ?_
           refine wx_step1 hok 10 rfl rfl rfl rfl ?_
           refine wl_pure rfl rfl rfl (freshS_eq rfl) rfl ?_
           refine wl_nil ?_
           refine we_x [] [] rfl rfl ?_
           refine wx_step1 hok 11 rfl rfl rfl rfl ?_
           refine wl_pure rfl rfl rfl (freshS_eq rfl) rfl ?_
           refine wl_nil ?_
           refine we_x [] [] rfl rfl ?_
           refine wx_done hok rfl ?_
           have hE := (Option.some.inj hm).symm
           refine we_pick [3] rfl (H' := [_]) rfl ?_
           refine we_join (v82, true) hE [4, 12, 13] rfl (fun _ _ hφ => ask [] rfl hφ) rfl
          ·
           try dsimp only at hm
           obtain ⟨v82, hc82, hm⟩ := bindO_some hm
           refine wc_draw [0, 2, 3, 4, 5, 7, 8, 9] rfl rfl (fun hok => ?_)
           refine wx_pure hok 0 rfl rfl rfl (freshS_eq rfl) rfl rfl ?_
           refine wx_fieldAddr hok 2 rfl rfl rfl (freshS_eq rfl) rfl rfl rfl tF_25_1 ?_
           refine wx_loadH hok 3 1 1 rfl rfl rfl (freshS_eq rfl) rfl rfl rfl rfl (cs := [_]) rfl tS_2 tA_2 rfl rfl ?_
           refine wx_fieldAddr hok 4 rfl rfl rfl (freshS_eq rfl) rfl rfl rfl tF_25_1 ?_
           refine wx_loadH hok 5 0 1 rfl rfl rfl (freshS_eq rfl) rfl rfl rfl rfl (cs := [_]) rfl tS_2 tA_2 rfl rfl ?_
           refine wx_step1 hok 1 rfl rfl rfl rfl ?_
           refine wl_call [] [0, 1, 2] rfl rfl rfl (freshS_eq rfl) rfl rfl fn_38 rfl (w_value_does_s5 N a0 hc77) (fun _ _ hφ => ask [] rfl hφ) rfl (H' := [_,_,_]) rfl ?_
           rintro _ _ _ ⟨c77_0, rfl, rfl, rfl⟩
           refine wl_nil ?_
           refine we_x [] [1, 2] rfl rfl ?_
           refine wx_step1 hok 6 rfl rfl rfl rfl ?_
           refine wl_callDyn [0] [1, 2, 3] rfl rfl rfl (freshS_eq rfl) rfl rfl rfl fn_53 rfl rfl (w_value_does_6_s N x51.n x56.n c77_0 _ hc82) (fun _ _ hφ => ask [] rfl hφ) rfl (H' := [_,_,_]) rfl ?_
           rintro _ _ _ ⟨rfl, rfl, rfl⟩
           refine wl_nil ?_
           refine we_x [] [] rfl rfl ?_
           refine wx_pure hok 7 rfl rfl rfl (freshS_eq rfl) rfl rfl ?_
           refine wx_pure hok 8 rfl rfl rfl (freshS_eq rfl) rfl rfl ?_
           refine wx_pure hok 9 rfl rfl rfl (freshS_eq rfl) rfl rfl ?_
           refine wx_step1 hok 10 rfl rfl rfl rfl ?_
           refine wl_pure rfl rfl rfl (freshS_eq rfl) rfl ?_
           refine wl_nil ?_
           refine we_x [] [] rfl rfl ?_
           refine wx_step1 hok 11 rfl rfl rfl rfl ?_
           refine wl_pure rfl rfl rfl (freshS_eq rfl) rfl ?_
           refine wl_nil ?_
           refine we_x [] [] rfl rfl ?_
           refine wx_done hok rfl ?_
           have hE := (Option.some.inj hm).symm
           refine we_pick [3] rfl (H' := [_]) rfl ?_
           refine we_join (v82, true) hE [4, 12, 13] rfl (fun _ _ hφ => ask [] rfl hφ) rfl
          ·
           try dsimp only at hm
           obtain ⟨v82, hc82, hm⟩ := bindO_some hm
           refine wc_draw [0, 2, 3, 4, 5, 7, 8, 9] rfl rfl (fun hok => ?_)
           refine wx_pure hok 0 rfl rfl rfl (freshS_eq rfl) rfl rfl ?_
           refine wx_fieldAddr hok 2 rfl rfl rfl (freshS_eq rfl) rfl rfl rfl tF_25_1 ?_
           refine wx_loadH hok 3 1 1 rfl rfl rfl (freshS_eq rfl) rfl rfl rfl rfl (cs := [_]) rfl tS_2 tA_2 rfl rfl ?_
           refine wx_fieldAddr hok 4 rfl rfl rfl (freshS_eq rfl) rfl rfl rfl tF_25_1 ?_
           refine wx_loadH hok 5 0 1 rfl rfl rfl (freshS_eq rfl) rfl rfl rfl rfl (cs := [_]) rfl tS_2 tA_2 rfl rfl ?_
           refine wx_step1 hok 1 rfl rfl rfl rfl ?_
           refine wl_call [] [0, 1, 2] rfl rfl rfl (freshS_eq rfl) rfl rfl fn_38 rfl (w_value_does_s6 N a0 hc77) (fun _ _ hφ => ask [] rfl hφ) rfl (H' := [_,_,_]) rfl ?_
           rintro _ _ _ ⟨c77_0, rfl, rfl, rfl⟩
           refine wl_nil ?_
           refine we_x [] [1, 2] rfl rfl ?_
           refine wx_step1 hok 6 rfl rfl rfl rfl ?_
           refine wl_callDyn [0] [1, 2, 3] rfl rfl rfl (freshS_eq rfl) rfl rfl rfl fn_54 rfl rfl (w_value_does_7_s N x51.n x56.n c77_0 _ hc82) (fun _ _ hφ => ask [] rfl hφ) rfl (H' := [_,_,_]) rfl ?_
           rintro _ _ _ ⟨rfl, rfl, rfl⟩
           refine wl_nil ?_
           refine we_x [] [] rfl rfl ?_
           refine wx_pure hok 7 rfl rfl rfl (freshS_eq rfl) rfl rfl ?_
           refine wx_pure hok 8 rfl rfl rfl (freshS_eq rfl) rfl rfl ?_
           refine wx_pure hok 9 rfl rfl rfl (freshS_eq rfl) rfl rfl ?_
           refine wx_step1 hok 10 rfl rfl rfl rfl ?_
           refine wl_pure rfl rfl rfl (freshS_eq rfl) rfl ?_
           refine wl_nil ?_
           refine we_x [] [] rfl rfl ?_
           refine wx_step1 hok 11 rfl rfl rfl rfl ?_
           refine wl_pure rfl rfl rfl (freshS_eq rfl) rfl ?_
           refine wl_nil ?_
           refine we_x [] [] rfl rfl ?_
           refine wx_done hok rfl ?_
           have hE := (Option.some.inj hm).symm
           refine we_pick [3] rfl (H' := [_]) rfl ?_
           refine we_join (v82, true) hE [4, 12, 13] rfl (fun _ _ hφ => ask [] rfl hφ) rfl
          ·
           try dsimp only at hm
           obtain ⟨v82, hc82, hm⟩ := bindO_some hm
           refine wc_draw [0, 2, 3, 4, 5, 7, 8, 9] rfl rfl (fun hok => ?_)
           refine wx_pure hok 0 rfl rfl rfl (freshS_eq rfl) rfl rfl ?_
           refine wx_fieldAddr hok 2 rfl rfl rfl (freshS_eq rfl) rfl rfl rfl tF_25_1 ?_
           refine wx_loadH hok 3 1 1 rfl rfl rfl (freshS_eq rfl) rfl rfl rfl rfl (cs := [_]) rfl tS_2 tA_2 rfl rfl ?_
           refine wx_fieldAddr hok 4 rfl rfl rfl (freshS_eq rfl) rfl rfl rfl tF_25_1 ?_
           refine wx_loadH hok 5 0 1 rfl rfl rfl (freshS_eq rfl) rfl rfl rfl rfl (cs := [_]) rfl tS_2 tA_2 rfl rfl ?_
           refine wx_step1 hok 1 rfl rfl rfl rfl ?_
           refine wl_call [] [0, 1, 2] rfl rfl rfl (freshS_eq rfl) rfl rfl fn_38 rfl (w_value_does_s7 N a0 hc77) (fun _ _ hφ => ask [] rfl hφ) rfl (H' := [_,_,_]) rfl ?_
           rintro _ _ _ ⟨c77_0, rfl, rfl, rfl⟩
           refine wl_nil ?_
           refine we_x [] [1, 2] rfl rfl ?_
           refine wx_step1 hok 6 rfl rfl rfl rfl ?_
           refine wl_callDyn [0] [1, 2, 3] rfl rfl rfl (freshS_eq rfl) rfl rfl rfl fn_55 rfl rfl (w_value_does_8_s N x51.n x56.n c77_0 _ hc82) (fun _ _ hφ => ask [] rfl hφ) rfl (H' := [_,_,_]) rfl ?_
           rintro _ _ _ ⟨rfl, rfl, rfl⟩
           refine wl_nil ?_
           refine we_x [] [] rfl rfl ?_
           refine wx_pure hok 7 rfl rfl rfl (freshS_eq rfl) rfl rfl ?_
           refine wx_pure hok 8 rfl rfl rfl (freshS_eq rfl) rfl rfl ?_
           refine wx_pure hok 9 rfl rfl rfl (freshS_eq rfl) rfl rfl ?_
           refine wx_step1 hok 10 rfl rfl rfl rfl ?_
           refine wl_pure rfl rfl rfl (freshS_eq rfl) rfl ?_
           refine wl_nil ?_
           refine we_x [] [] rfl rfl ?_
           refine wx_step1 hok 11 rfl rfl rfl rfl ?_
           refine wl_pure rfl rfl rfl (freshS_eq rfl) rfl ?_
           refine wl_nil ?_
           refine we_x [] [] rfl rfl ?_
           refine wx_done hok rfl ?_
           have hE := (Option.some.inj hm).symm
           refine we_pick [3] rfl (H' := [_]) rfl ?_
           refine we_join (v82, true) hE [4, 12, 13] rfl (fun _ _ hφ => ask [] rfl hφ) rfl
          ·
           try dsimp only at hm
           obtain ⟨v82, hc82, hm⟩ := bindO_some hm
           refine wc_draw [0, 2, 3, 4, 5, 7, 8, 9] rfl rfl (fun hok => ?_)
           refine wx_pure hok 0 rfl rfl rfl (freshS_eq rfl) rfl rfl ?_
           refine wx_fieldAddr hok 2 rfl rfl rfl (freshS_eq rfl) rfl rfl rfl tF_25_1 ?_
           refine wx_loadH hok 3 1 1 rfl rfl rfl (freshS_eq rfl) rfl rfl rfl rfl (cs := [_]) rfl tS_2 tA_2 rfl rfl ?_
           refine wx_fieldAddr hok 4 rfl rfl rfl (freshS_eq rfl) rfl rfl rfl tF_25_1 ?_
           refine wx_loadH hok 5 0 1 rfl rfl rfl (freshS_eq rfl) rfl rfl rfl rfl (cs := [_]) rfl tS_2 tA_2 rfl rfl ?_
           refine wx_step1 hok 1 rfl rfl rfl rfl ?_
           refine wl_call [] [0, 1, 2] rfl rfl rfl (freshS_eq rfl) rfl rfl fn_38 rfl (w_value_does_s8 N a0 hc77) (fun _ _ hφ => ask [] rfl hφ) rfl (H' := [_,_,_]) rfl ?_
           rintro _ _ _ ⟨c77_0, rfl, rfl, rfl⟩
           refine wl_nil ?_
           refine we_x [] [1, 2] rfl rfl ?_
           refine wx_step1 hok 6 rfl rfl rfl rfl ?_
           refine wl_callDyn [0] [1, 2, 3] rfl rfl rfl (freshS_eq rfl) rfl rfl rfl fn_56 rfl rfl (w_value_does_9_s N x51.n x56.n c77_0 _ hc82) (fun _ _ hφ => ask [] rfl hφ) rfl (H' := [_,_,_]) rfl ?_
           rintro _ _ _ ⟨rfl, rfl, rfl⟩
           refine wl_nil ?_
           refine we_x [] [] rfl rfl ?_
           refine wx_pure hok 7 rfl rfl rfl (freshS_eq rfl) rfl rfl ?_
           refine wx_pure hok 8 rfl rfl rfl (freshS_eq rfl) rfl rfl ?_
           refine wx_pure hok 9 rfl rfl rfl (freshS_eq rfl) rfl rfl ?_
           refine wx_step1 hok 10 rfl rfl rfl rfl ?_
           refine wl_pure rfl rfl rfl (freshS_eq rfl) rfl ?_
           refine wl_nil ?_
           refine we_x [] [] rfl rfl ?_
           refine wx_step1 hok 11 rfl rfl rfl rfl ?_
           refine wl_pure rfl rfl rfl (freshS_eq rfl) rfl ?_
           refine wl_nil ?_
           refine we_x [] [] rfl rfl ?_
           refine wx_done hok rfl ?_
           have hE := (Option.some.inj hm).symm
           refine we_pick [3] rfl (H' := [_]) rfl ?_
           refine we_join (v82, true) hE [4, 12, 13] rfl (fun _ _ hφ => ask [] rfl hφ) rfl
          ·
           try dsimp only at hm
           cases hm
         ·
          rintro ⟨j_7_12, j_7_13⟩ hE
          try dsimp only
          have hm := hLj_7
          rw [hE] at hm
          try dsimp only at hm
          refine wc_seq ?_
          refine wc_seq ?_
          refine wc_region ?_
          refine wl_pure rfl rfl rfl (freshS_eq rfl) rfl ?_
          refine wl_pure rfl rfl rfl (freshS_eq rfl) rfl ?_
          refine wl_nil ?_
          refine we_then ?_
          refine wc_keep [86, 4, 12] (S' := [_,_,_]) rfl ?_
          refine wc_cond rfl (fun hb86 => ?_) (fun hb86 => ?_)
          ·
           replace hm := iteT hm hb86
           refine wc_keep [4] (S' := [_]) rfl ?_
           refine wc_seq ?_
           refine wc_region ?_
           refine wl_build rfl rfl rfl (freshS_eq rfl) rfl tZ_25 tP_25 rfl (out := [_,_,_]) rfl ?_
           refine wl_store 0 0 rfl rfl rfl rfl rfl rfl rfl tS_25 rfl rfl rfl (all' := [_,_,_]) rfl (H' := [_]) rfl ?_
           refine wl_pure rfl rfl rfl (freshS_eq rfl) rfl ?_
           refine wl_nil ?_
           refine we_then ?_
           refine wc_keep [5, 4] (S' := [_,_]) rfl ?_
           refine wc_ret ?_
           refine we_then_ret ?_
           have hE := (Option.some.inj hm).symm
           obtain ⟨hE0, hF1⟩ := Prod.mk.inj hE
           obtain ⟨hE1, hE2⟩ := Prod.mk.inj hF1
           clear hE hF1
           replace hE0 := hE0.symm
           subst hE0
           replace hE1 := hE1.symm
           subst hE1
           replace hE2 := hE2.symm
           subst hE2
           refine ret_two (Hr := []) [] Tryd.results29 (res_cell 0 rfl rfl tS_25 tA_25 rfl rfl) (res_tmp rfl) ⟨rfl, rfl, rfl⟩ (fun _ _ hφ => ask [] rfl hφ) rfl rfl (.inl rfl)
          ·
           replace hm := iteF hm hb86
           refine wc_keep [4, 12] (S' := [_,_]) rfl ?_
           refine wc_skip ?_
           refine we_then ?_
           refine wc_seq ?_
           refine wc_region ?_
           refine wl_pure rfl rfl rfl (freshS_eq rfl) rfl ?_
           obtain ⟨_, hc89, hm⟩ := bindO_some hm
           try dsimp only at hm
           refine wl_call [] [0] rfl rfl rfl (freshS_eq rfl) rfl rfl fn_39 rfl (w_value_number_s N j_7_12 hc89) (fun _ _ hφ => ask [] rfl hφ) rfl (H' := [_]) rfl ?_
           rintro _ _ _ ⟨rfl, rfl, rfl⟩
           refine wl_store 0 0 rfl rfl rfl rfl rfl rfl rfl tS_25 rfl rfl rfl (all' := [_,_,_]) rfl (H' := [_]) rfl ?_
           refine wl_pure rfl rfl rfl (freshS_eq rfl) rfl ?_
           refine wl_nil ?_
           refine we_then ?_
           refine wc_keep [5, 4] (S' := [_,_]) rfl ?_
           refine wc_ret ?_
           have hE := (Option.some.inj hm).symm
           obtain ⟨hE0, hF1⟩ := Prod.mk.inj hE
           obtain ⟨hE1, hE2⟩ := Prod.mk.inj hF1
           clear hE hF1
           replace hE0 := hE0.symm
           subst hE0
           replace hE1 := hE1.symm
           subst hE1
           replace hE2 := hE2.symm
           subst hE2
           refine ret_two (Hr := []) [] Tryd.results29 (res_cell 0 rfl rfl tS_25 tA_25 rfl rfl) (res_tmp rfl) ⟨rfl, rfl, rfl⟩ (fun _ _ hφ => ask [] rfl hφ) rfl rfl (.inl rfl)
set_option maxRecDepth 100000 in
set_option maxHeartbeats 4000000 in
theorem w_expr_All_v2_s (N : Nat) (rc : Int → Int → Int → ByteArray → Int → Int → (List Api_ExprD) → (List V) → Option (Int × Int × ByteArray × Nat)) (ih : ∀ (a0 : Int) (a1 : Int) (a2 : Int) (a3 : ByteArray) (a4 : Int) (a5 : Int) (qp0 : Option Addr) (qc1 : Nat) (l6 : List Api_ExprD) (qp2 : Option Addr) (qc3 : Nat) (l7 : List V) (o0 : Int) (o1 : Int) (o2 : ByteArray) (o3 : Nat), rc a0 a1 a2 a3 a4 a5 l6 l7 = some (o0, o1, o2, o3) → Spec Tryd.prog 10 [.agg #[.int .u8 a0, .int .u8 a1, .int .i64 a2, .string a3, .int .i64 a4, .int .u8 a5, .slice qp0 l6.length qc1], .slice qp2 l7.length qc3] [.sli 7 R_Api_ExprD qp0 qc1 l6, .sli 3 R_V qp2 qc3 l7] [] (fun v Φr Hr => v = .tuple #[.agg #[.int .u8 o0, .int .i64 o1, .string o2], .int .i64 ((o3 : Nat) : Int)] ∧ Φr = [] ∧ Hr = [])) (qp0 : Option Addr) (qc1 : Nat) (l0 : List V) (qp2 : Option Addr) (qc3 : Nat) (l1 : List Api_ExprD) (o2 : List V) (o4 : Nat) (hm : m_expr_All_v2 N rc l0 l1 = some (o2, o4)) : Spec Tryd.prog 14 [.slice qp0 l0.length qc1, .slice qp2 l1.length qc3] [.sli 3 R_V qp0 qc1 l0, .sli 7 R_Api_ExprD qp2 qc3 l1] [] (fun v Φr Hr => ∃ (o0 : Option Addr) (o1 : Nat) (o3 : Nat), v = .tuple #[.slice o0 o3 o1, .int .i64 ((o4 : Nat) : Int)] ∧ Φr = [] ∧ Hr = [.own 25 3 R_V (.slice o0 o3 o1) o2]) := by
 unfold m_expr_All_v2 at hm
 refine spec_of Tryd.func14 rfl Tryd.ntmps14 rfl (S := [_,_]) rfl (fun C => ?_)
 refine wc_seq ?_
 refine wc_region ?_
 refine wl_pure rfl rfl rfl (freshS_eq rfl) rfl ?_
 refine wl_pure rfl rfl rfl (freshS_eq rfl) rfl ?_
 refine wl_nil ?_
 refine we_then ?_
 refine wc_keep [0, 1] (S' := [_,_]) rfl ?_
 refine wc_seq ?_
 refine wc_region ?_
 refine wl_pure rfl rfl rfl (freshS_eq rfl) rfl ?_
 refine wl_nil ?_
 refine we_then ?_
 refine wc_seq ?_
 obtain ⟨bj_1, hm, hLj_1⟩ := bindS_some hm
 refine wc_cut (σ := (List V) × (Option Addr) × Nat × Nat) (fun (j_1_6_l, j_1_6_p, j_1_6_c, j_1_6_n) => bj_1 = .inl j_1_6_l) (fun (j_1_6_l, j_1_6_p, j_1_6_c, j_1_6_n) => [(6, .slice j_1_6_p j_1_6_n j_1_6_c)]) (fun (j_1_6_l, j_1_6_p, j_1_6_c, j_1_6_n) => []) (fun (j_1_6_l, j_1_6_p, j_1_6_c, j_1_6_n) => [.own 25 3 R_V (.slice j_1_6_p j_1_6_n j_1_6_c) j_1_6_l]) ?_ ?_
 ·
  refine wc_seq ?_
  refine wc_region ?_
  refine wl_pure rfl rfl rfl (freshS_eq rfl) rfl ?_
  refine wl_len rfl rfl rfl (freshS_eq rfl) rfl rfl tE_27 ?_
  refine wl_pure rfl rfl rfl (freshS_eq rfl) rfl ?_
  refine wl_nil ?_
  refine we_then ?_
  refine wc_keep [13, 12, 11, 6, 0] (S' := [_,_,_,_,_]) rfl ?_
  refine wc_block ?_
  refine wc_rowNil 25 3 R_V ?_
  refine wc_loop (σ := Nat × Nat × (List V) × (Option Addr) × Nat × Nat) (fun (nu1, u1_13, u1_6_l, u1_6_p, u1_6_c, u1_6_n) => iter (m_expr_All_v2_L1 N l1 rc l0) nu1 (u1_13, u1_6_l) = some bj_1) (fun (nu1, u1_13, u1_6_l, u1_6_p, u1_6_c, u1_6_n) => nu1) (fun (nu1, u1_13, u1_6_l, u1_6_p, u1_6_c, u1_6_n) => [(13, .int .i64 ((u1_13 : Nat) : Int)), (12, .int .i64 ((l1.length : Nat) : Int)), (11, .slice qp2 l1.length qc3), (6, .slice u1_6_p u1_6_n u1_6_c), (0, .slice qp0 l0.length qc1)]) (fun (nu1, u1_13, u1_6_l, u1_6_p, u1_6_c, u1_6_n) => [.sli 7 R_Api_ExprD qp2 qc3 l1, .sli 3 R_V qp0 qc1 l0]) (fun (nu1, u1_13, u1_6_l, u1_6_p, u1_6_c, u1_6_n) => [.own 25 3 R_V (.slice u1_6_p u1_6_n u1_6_c) u1_6_l]) (N, 0, [], none, 0, 0) hm [13, 12, 11, 6, 0] rfl (fun _ _ hφ => ask [1, 0] rfl hφ) rfl (fun s_ hm => ?_)
  obtain ⟨nu1, u1_13, u1_6_l, u1_6_p, u1_6_c, u1_6_n⟩ := s_
  try dsimp only at hm ⊢
  obtain ⟨mu1, bu1, hnu1, hq, hLu1⟩ := iter_some hm
  clear hm
  subst hnu1
  replace hm := hq
  clear hq
  unfold m_expr_All_v2_L1 at hm
  try dsimp only at hm
  refine wc_seq ?_
  refine wc_region ?_
  refine wl_pure rfl rfl rfl (freshS_eq rfl) rfl ?_
  refine wl_as (d := 14) (v' := .bool (decide (u1_13 < l1.length))) (S' := [_,_,_,_,_]) rfl rfl (natlt (a := u1_13) (b := l1.length)) ?_
  refine wl_nil ?_
  refine we_then ?_
  refine wc_seq ?_
  refine wc_cond rfl (fun hb14 => ?_) (fun hb14 => ?_)
  ·
   replace hm := iteT hm hb14
   refine wc_keep [13, 12, 11, 6, 0] (S' := [_,_,_,_,_]) rfl ?_
   refine wc_skip ?_
   refine we_then ?_
   refine wc_seq ?_
   refine wc_block ?_
   refine wc_seq ?_
   refine wc_region ?_
   obtain ⟨x15, hx15, hm⟩ := bindO_some hm
   refine wl_indexA 0 u1_13 rfl rfl rfl (freshS_eq rfl) rfl rfl rfl rfl rfl hx15 tE_27 tS_29 (fun b15 q15 cs15 hlx15 => ?_)
   refine wl_open R_Api_ExprD_opens 1 rfl (fun r15 er15 _ => ?_)
   subst er15
   refine wl_load 1 0 rfl rfl rfl (freshS_eq rfl) rfl rfl rfl (cs := [_,_,_,_,_,_,_]) rfl tS_29 tA_29 rfl rfl ?_
   refine wl_alloc rfl rfl rfl (freshS_eq rfl) rfl tZ_29 rfl (fun g8 => ?_)
   refine wl_store 0 0 rfl rfl rfl rfl rfl rfl rfl tS_29 rfl rfl rfl (all' := [_,_,_,_,_,_,_]) rfl (H' := [_,_]) rfl ?_
   refine wl_nil ?_
   refine we_then ?_
   refine wc_keep [8, 13, 12, 11, 6, 0] (S' := [_,_,_,_,_,_]) rfl ?_
   refine wc_seq ?_
   refine wc_region ?_
   refine wl_loadH 0 0 rfl rfl rfl (freshS_eq rfl) rfl rfl rfl (cs := [_,_,_,_,_,_,_]) rfl tS_29 tA_29 rfl rfl ?_
   refine wl_pure rfl rfl rfl (freshS_eq rfl) rfl ?_
   obtain ⟨⟨v20_0, v20_1, v20_2, v20_3⟩, hc20, hm⟩ := bindO_some hm
   try dsimp only at hm
   refine wl_call [] [0, 1] rfl rfl rfl (freshS_eq rfl) rfl rfl fn_10 rfl (ih x15.kind x15.value.k x15.value.n x15.value.s x15.var x15.op r15.1 r15.2 x15.kids qp0 qc1 l0 _ _ _ _ hc20) (fun _ _ hφ => ask [0, 4] rfl hφ) rfl (H' := [_,_]) rfl ?_
   rintro _ _ _ ⟨rfl, rfl, rfl⟩
   refine wl_pure rfl rfl rfl (freshS_eq rfl) rfl ?_
   refine wl_pure rfl rfl rfl (freshS_eq rfl) rfl ?_
   refine wl_pure rfl rfl rfl (freshS_eq rfl) rfl ?_
   refine wl_alloc rfl rfl rfl (freshS_eq rfl) rfl tZ_25 rfl (fun g9 => ?_)
   refine wl_store 0 0 rfl rfl rfl rfl rfl rfl rfl tS_25 rfl rfl rfl (all' := [_,_,_]) rfl (H' := [_,_,_]) rfl ?_
   refine wl_pure rfl rfl rfl (freshS_eq rfl) rfl ?_
   refine wl_nil ?_
   refine we_then ?_
   refine wc_keep [10, 9, 13, 12, 11, 6, 0] (S' := [_,_,_,_,_,_,_]) rfl ?_
   refine wc_seq ?_
   refine wc_seq ?_
   refine wc_region ?_
   refine wl_pure rfl rfl rfl (freshS_eq rfl) rfl ?_
   refine wl_pure rfl rfl rfl (freshS_eq rfl) rfl ?_
   refine wl_as (d := 24) (v' := .bool (v20_3 != 0)) (S' := [_,_,_,_,_,_,_,_]) rfl rfl (natne (a := v20_3) (b := 0)) ?_
   refine wl_nil ?_
   refine we_then ?_
   refine wc_keep [24, 10, 9, 13, 12, 11, 6, 0] (S' := [_,_,_,_,_,_,_,_]) rfl ?_
   refine wc_cond rfl (fun hb24 => ?_) (fun hb24 => ?_)
   ·
    replace hm := iteT hm hb24
    refine wc_keep [10] (S' := [_]) rfl ?_
    refine wc_seq ?_
    refine wc_region ?_
    refine wl_pure rfl rfl rfl (freshS_eq rfl) rfl ?_
    refine wl_pure rfl rfl rfl (freshS_eq rfl) rfl ?_
    refine wl_pure rfl rfl rfl (freshS_eq rfl) rfl ?_
    refine wl_nil ?_
    refine we_then ?_
    refine wc_keep [5, 4] (S' := [_,_]) rfl ?_
    refine wc_ret ?_
    refine we_then_ret ?_
    refine we_block_ret ?_
    refine we_then_ret ?_
    refine we_then_ret ?_
    refine we_block_ret ?_
    refine we_then_ret ?_
    have hE := (Option.some.inj hm).symm
    replace hE := link_inr hLu1 hE
    replace hE := link_inr hLj_1 hE
    obtain ⟨hE0, hE1⟩ := Prod.mk.inj hE
    clear hE
    replace hE0 := hE0.symm
    subst hE0
    replace hE1 := hE1.symm
    subst hE1
    refine we_rowNil 25 3 R_V ?_
    refine ret_two (Hr := [_]) [0] Tryd.results14 (res_tmp rfl) (res_tmp rfl) ⟨none, 0, 0, rfl, rfl, rfl⟩ (fun _ _ hφ => ask [] rfl hφ) rfl rfl (.inl rfl)
   ·
    replace hm := iteF hm hb24
    refine wc_keep [9, 13, 12, 11, 6, 0] (S' := [_,_,_,_,_,_]) rfl ?_
    refine wc_skip ?_
    refine we_then ?_
    refine wc_region ?_
    refine wl_pure rfl rfl rfl (freshS_eq rfl) rfl ?_
    refine wl_loadH 0 0 rfl rfl rfl (freshS_eq rfl) rfl rfl rfl (cs := [_,_,_]) rfl tS_25 tA_25 rfl rfl ?_
    refine wl_buildSlice rfl rfl rfl (freshS_eq rfl) rfl tE_30 tS_25 tZ_25 rfl (zs := [.int .u8 0, .int .i64 0, .string ((⟨#[]⟩ : ByteArray))]) (by kernel_rfl) rfl (out := [_,_,_]) rfl (fun g28 => ?_)
    obtain ⟨hg29, hm⟩ := gd_some hm
    refine wl_appendH ([(⟨v20_0, v20_1, v20_2⟩ : V)]) 3 0 rfl rfl rfl (freshS_eq rfl) rfl rfl rfl rfl rfl (fun F w hφ => ⟨[.int .u8 v20_0, .int .i64 v20_1, .string v20_2], [], rfl, rfl, ⟨(), rfl, ask_nil⟩, rfl⟩) tE_30 tR_25 rfl rfl (Nat.le_trans hg29 (by decide)) (Nat.le_trans (Nat.mul_le_mul_right _ hg29) (by decide)) (H2 := fun p29 c29 => [.blk g28 [.int .u8 v20_0, .int .i64 v20_1, .string v20_2] 25, .blk g9 [.int .u8 v20_0, .int .i64 v20_1, .string v20_2] 25, .blk g8 [.int .u8 (x15.kind), .int .u8 (x15.value.k), .int .i64 (x15.value.n), .string x15.value.s, .int .i64 (x15.var), .int .u8 (x15.op), .slice r15.1 x15.kids.length r15.2] 29, .own 25 3 R_V (.slice p29 ((u1_6_l ++ ([(⟨v20_0, v20_1, v20_2⟩ : V)])).length) c29) (u1_6_l ++ ([(⟨v20_0, v20_1, v20_2⟩ : V)]))]) (fun _ _ => rfl) (fun p29 c29 => ?_)
    refine wl_drop 0 rfl (H' := [_,_,_]) rfl ?_
    refine wl_pure (S' := [_,_,_,_,_,_,_,_,_]) rfl rfl rfl rfl rfl ?_
    refine wl_nil ?_
    refine we_block_normal ?_
    refine we_then ?_
    refine wc_keep [6, 13, 12, 11, 0] (S' := [_,_,_,_,_]) rfl ?_
    refine wc_region ?_
    refine wl_pure rfl rfl rfl (freshS_eq rfl) rfl ?_
    obtain ⟨hg30, hm⟩ := gd_some hm
    refine wl_as (d := 30) (v' := .int .i64 ((u1_13 + 1 : Nat) : Int)) (S' := [_,_,_,_,_]) rfl rfl (nat_add (a := u1_13) (b := 1) hg30) ?_
    refine wl_pure (S' := [_,_,_,_,_]) rfl rfl rfl rfl rfl ?_
    refine wl_nil ?_
    have hE := (Option.some.inj hm).symm
    replace hE := link_inl hLu1 hE
    refine we_pick [2] rfl (H' := [_]) rfl ?_
    refine we_roundK (_, u1_13 + 1, (u1_6_l ++ ([(⟨v20_0, v20_1, v20_2⟩ : V)])), p29, c29, ((u1_6_l ++ ([(⟨v20_0, v20_1, v20_2⟩ : V)])).length)) (Nat.lt_succ_self _) hE [13, 12, 11, 6, 0] rfl (fun _ _ hφ => ask [3, 4] rfl hφ) rfl
  ·
   replace hm := iteF hm hb14
   refine wc_keep [6] (S' := [_]) rfl ?_
   refine wc_exit ?_
   refine we_then_exit ?_
   refine we_then_exit ?_
   refine we_block_hit ?_
   have hE := (Option.some.inj hm).symm
   replace hE := link_inr hLu1 hE
   refine we_join (u1_6_l, u1_6_p, u1_6_c, u1_6_n) hE [6] rfl (fun _ _ hφ => ask [] rfl hφ) rfl
 ·
  rintro ⟨j_1_6_l, j_1_6_p, j_1_6_c, j_1_6_n⟩ hE
  try dsimp only
  have hm := link_inl hLj_1 hE
  refine wc_seq ?_
  refine wc_region ?_
  refine wl_pure rfl rfl rfl (freshS_eq rfl) rfl ?_
  refine wl_pure rfl rfl rfl (freshS_eq rfl) rfl ?_
  refine wl_pure rfl rfl rfl (freshS_eq rfl) rfl ?_
  refine wl_nil ?_
  refine we_then ?_
  refine wc_keep [5, 4] (S' := [_,_]) rfl ?_
  refine wc_ret ?_
  have hE := (Option.some.inj hm).symm
  obtain ⟨hE0, hE1⟩ := Prod.mk.inj hE
  clear hE
  replace hE0 := hE0.symm
  subst hE0
  replace hE1 := hE1.symm
  subst hE1
  refine ret_two (Hr := [_]) [0] Tryd.results14 (res_tmp rfl) (res_tmp rfl) ⟨j_1_6_p, j_1_6_c, j_1_6_n, rfl, rfl, rfl⟩ (fun _ _ hφ => ask [] rfl hφ) rfl rfl (.inl rfl)
set_option maxRecDepth 100000 in
set_option maxHeartbeats 4000000 in
theorem w_expr_Eval_3_v2_s (N : Nat) (rc : Int → Int → Int → ByteArray → Int → Int → (List Api_ExprD) → (List V) → Option (Int × Int × ByteArray × Nat)) (ih : ∀ (a0 : Int) (a1 : Int) (a2 : Int) (a3 : ByteArray) (a4 : Int) (a5 : Int) (qp0 : Option Addr) (qc1 : Nat) (l6 : List Api_ExprD) (qp2 : Option Addr) (qc3 : Nat) (l7 : List V) (o0 : Int) (o1 : Int) (o2 : ByteArray) (o3 : Nat), rc a0 a1 a2 a3 a4 a5 l6 l7 = some (o0, o1, o2, o3) → Spec Tryd.prog 10 [.agg #[.int .u8 a0, .int .u8 a1, .int .i64 a2, .string a3, .int .i64 a4, .int .u8 a5, .slice qp0 l6.length qc1], .slice qp2 l7.length qc3] [.sli 7 R_Api_ExprD qp0 qc1 l6, .sli 3 R_V qp2 qc3 l7] [] (fun v Φr Hr => v = .tuple #[.agg #[.int .u8 o0, .int .i64 o1, .string o2], .int .i64 ((o3 : Nat) : Int)] ∧ Φr = [] ∧ Hr = [])) (qg0 : Nat) (qp1 : Option Addr) (qc2 : Nat) (l0 : List V) (qg3 : Nat) (a1 : Int) (a2 : Int) (a3 : Int) (a4 : ByteArray) (a5 : Int) (a6 : Int) (qp4 : Option Addr) (qc5 : Nat) (l7 : List Api_ExprD) (o0 : Nat) (o1 : Int) (o2 : Nat) (hm : m_expr_Eval_3_v2 N rc l0 a1 a2 a3 a4 a5 a6 l7 = some (o0, o1, o2)) : Spec Tryd.prog 28 [.pointer (some ⟨qg0, 0, none⟩), .pointer (some ⟨qg3, 0, none⟩)] [.sli 3 R_V qp1 qc2 l0, .sli 7 R_Api_ExprD qp4 qc5 l7] [.blk qg0 [.slice qp1 l0.length qc2] 30, .blk qg3 [.int .u8 a1, .int .u8 a2, .int .i64 a3, .string a4, .int .i64 a5, .int .u8 a6, .slice qp4 l7.length qc5] 29] (fun v Φr Hr => v = .tuple #[.agg #[.int .u8 ((o0 : Nat) : Int), .int .i64 o1, .string ((⟨#[]⟩ : ByteArray))], .int .i64 ((o2 : Nat) : Int)] ∧ Φr = [.sli 3 R_V qp1 qc2 l0, .sli 7 R_Api_ExprD qp4 qc5 l7] ∧ Hr = [.blk qg0 [.slice qp1 l0.length qc2] 30, .blk qg3 [.int .u8 a1, .int .u8 a2, .int .i64 a3, .string a4, .int .i64 a5, .int .u8 a6, .slice qp4 l7.length qc5] 29]) := by
 unfold m_expr_Eval_3_v2 at hm
 refine spec_of Tryd.func28 rfl Tryd.ntmps28 rfl (S := [_,_]) rfl (fun C => ?_)
 refine wc_seq ?_
 refine wc_region ?_
 refine wl_alloc rfl rfl rfl (freshS_eq rfl) rfl tZ_25 rfl (fun g2 => ?_)
 refine wl_pure rfl rfl rfl (freshS_eq rfl) rfl ?_
 refine wl_nil ?_
 refine we_then ?_
 refine wc_keep [2, 0, 1] (S' := [_,_,_]) rfl ?_
 refine wc_seq ?_
 refine wc_region ?_
 refine wl_loadH 1 0 rfl rfl rfl (freshS_eq rfl) rfl rfl rfl (cs := [_]) rfl tS_30 tA_30 rfl rfl ?_
 refine wl_fieldAddr rfl rfl rfl (freshS_eq rfl) rfl rfl tF_29_4 ?_
 refine wl_loadH 2 6 rfl rfl rfl (freshS_eq rfl) rfl rfl rfl (cs := [_]) rfl tS_27 tA_27 rfl rfl ?_
 obtain ⟨⟨v10_0, v10_1⟩, hc10, hm⟩ := bindO_some hm
 try dsimp only at hm
 refine wl_call [] [0, 1, 2] rfl rfl rfl (freshS_eq rfl) rfl rfl fn_14 rfl (w_expr_All_v2_s N rc ih qp1 qc2 l0 qp4 qc5 l7 _ _ hc10) (fun _ _ hφ => ask [0, 1] rfl hφ) rfl (H' := [_,_,_]) rfl ?_
 rintro _ _ _ ⟨p10_0, c10_1, c10_2, rfl, rfl, rfl⟩
 refine wl_pure rfl rfl rfl (freshS_eq rfl) rfl ?_
 refine wl_pure rfl rfl rfl (freshS_eq rfl) rfl ?_
 refine wl_pure rfl rfl rfl (freshS_eq rfl) rfl ?_
 refine wl_pure rfl rfl rfl (freshS_eq rfl) rfl ?_
 refine wl_pure rfl rfl rfl (freshS_eq rfl) rfl ?_
 refine wl_nil ?_
 refine we_then ?_
 refine wc_keep [5, 4, 2, 1] (S' := [_,_,_,_]) rfl ?_
 refine wc_seq ?_
 refine wc_seq ?_
 refine wc_region ?_
 refine wl_pure rfl rfl rfl (freshS_eq rfl) rfl ?_
 refine wl_pure rfl rfl rfl (freshS_eq rfl) rfl ?_
 refine wl_as (d := 14) (v' := .bool (v10_1 != 0)) (S' := [_,_,_,_,_]) rfl rfl (natne (a := v10_1) (b := 0)) ?_
 refine wl_nil ?_
 refine we_then ?_
 refine wc_keep [14, 5, 4, 2, 1] (S' := [_,_,_,_,_]) rfl ?_
 refine wc_cond rfl (fun hb14 => ?_) (fun hb14 => ?_)
 ·
  replace hm := iteT hm hb14
  refine wc_keep [5, 2] (S' := [_,_]) rfl ?_
  refine wc_seq ?_
  refine wc_region ?_
  refine wl_build rfl rfl rfl (freshS_eq rfl) rfl tZ_25 tP_25 rfl (out := [_,_,_]) rfl ?_
  refine wl_pure rfl rfl rfl (freshS_eq rfl) rfl ?_
  refine wl_store 1 0 rfl rfl rfl rfl rfl rfl rfl tS_25 rfl rfl rfl (all' := [_,_,_]) rfl (H' := [_,_,_,_]) rfl ?_
  refine wl_pure rfl rfl rfl (freshS_eq rfl) rfl ?_
  refine wl_nil ?_
  refine we_then ?_
  refine wc_keep [3, 2] (S' := [_,_]) rfl ?_
  refine wc_ret ?_
  refine we_then_ret ?_
  have hE := (Option.some.inj hm).symm
  obtain ⟨hE0, hF1⟩ := Prod.mk.inj hE
  obtain ⟨hE1, hE2⟩ := Prod.mk.inj hF1
  clear hE hF1
  replace hE0 := hE0.symm
  subst hE0
  replace hE1 := hE1.symm
  subst hE1
  replace hE2 := hE2.symm
  subst hE2
  refine ret_two (Hr := [_, _]) [2, 3] Tryd.results28 (res_cell 1 rfl rfl tS_25 tA_25 rfl rfl) (res_tmp rfl) ⟨rfl, rfl, rfl⟩ (fun _ _ hφ => ask [0, 1] rfl hφ) rfl rfl (.inl rfl)
 ·
  replace hm := iteF hm hb14
  refine wc_keep [4, 2, 1] (S' := [_,_,_]) rfl ?_
  refine wc_skip ?_
  refine we_then ?_
  refine wc_seq ?_
  refine wc_region ?_
  refine wl_fieldAddr rfl rfl rfl (freshS_eq rfl) rfl rfl tF_29_3 ?_
  refine wl_loadH 3 5 rfl rfl rfl (freshS_eq rfl) rfl rfl rfl (cs := [_]) rfl tS_26 tA_26 rfl rfl ?_
  refine wl_pure rfl rfl rfl (freshS_eq rfl) rfl ?_
  refine wl_ownLen 0 rfl (fun hzc10_2 _ => ?_)
  subst hzc10_2
  obtain ⟨⟨v20_0, v20_1, v20_2⟩, hc20, hm⟩ := bindO_some hm
  try dsimp only at hm
  refine wl_lend [] [0, 1, 2, 3] [0] rfl rfl rfl (freshS_eq rfl) rfl rfl fn_29 rfl (w_value_Do_s N a6 p10_0 c10_1 v10_0 _ _ _ hc20) (fun F w hφ hh => (ask_cons (own_sli (hh _ (mem_at (k := 0) rfl))) ask_nil)) (fun _ _ _ hR => by obtain ⟨rfl, rfl, rfl⟩ := hR; exact ⟨rfl, (fun _ h => free_nil h)⟩) rfl rfl (H' := [_,_,_,_]) rfl ?_
  rintro _ _ _ ⟨rfl, rfl, rfl⟩
  refine wl_pure rfl rfl rfl (freshS_eq rfl) rfl ?_
  refine wl_pure rfl rfl rfl (freshS_eq rfl) rfl ?_
  refine wl_store 1 0 rfl rfl rfl rfl rfl rfl rfl tS_25 rfl rfl rfl (all' := [_,_,_]) rfl (H' := [_,_,_,_]) rfl ?_
  refine wl_pure rfl rfl rfl (freshS_eq rfl) rfl ?_
  refine wl_nil ?_
  refine we_then ?_
  refine wc_keep [3, 2] (S' := [_,_]) rfl ?_
  refine wc_ret ?_
  have hE := (Option.some.inj hm).symm
  obtain ⟨hE0, hF1⟩ := Prod.mk.inj hE
  obtain ⟨hE1, hE2⟩ := Prod.mk.inj hF1
  clear hE hF1
  replace hE0 := hE0.symm
  subst hE0
  replace hE1 := hE1.symm
  subst hE1
  replace hE2 := hE2.symm
  subst hE2
  refine ret_two (Hr := [_, _]) [2, 3] Tryd.results28 (res_cell 1 rfl rfl tS_25 tA_25 rfl rfl) (res_tmp rfl) ⟨rfl, rfl, rfl⟩ (fun _ _ hφ => ask [0, 1] rfl hφ) rfl rfl (.inl rfl)
set_option maxRecDepth 100000 in
set_option maxHeartbeats 4000000 in
theorem w_expr_Eval_s_b (N : Nat) (rc : Int → Int → Int → ByteArray → Int → Int → (List Api_ExprD) → (List V) → Option (Int × Int × ByteArray × Nat)) (ih : ∀ (a0 : Int) (a1 : Int) (a2 : Int) (a3 : ByteArray) (a4 : Int) (a5 : Int) (qp0 : Option Addr) (qc1 : Nat) (l6 : List Api_ExprD) (qp2 : Option Addr) (qc3 : Nat) (l7 : List V) (o0 : Int) (o1 : Int) (o2 : ByteArray) (o3 : Nat), rc a0 a1 a2 a3 a4 a5 l6 l7 = some (o0, o1, o2, o3) → Spec Tryd.prog 10 [.agg #[.int .u8 a0, .int .u8 a1, .int .i64 a2, .string a3, .int .i64 a4, .int .u8 a5, .slice qp0 l6.length qc1], .slice qp2 l7.length qc3] [.sli 7 R_Api_ExprD qp0 qc1 l6, .sli 3 R_V qp2 qc3 l7] [] (fun v Φr Hr => v = .tuple #[.agg #[.int .u8 o0, .int .i64 o1, .string o2], .int .i64 ((o3 : Nat) : Int)] ∧ Φr = [] ∧ Hr = [])) (a0 : Int) (a1 : Int) (a2 : Int) (a3 : ByteArray) (a4 : Int) (a5 : Int) (qp0 : Option Addr) (qc1 : Nat) (l6 : List Api_ExprD) (qp2 : Option Addr) (qc3 : Nat) (l7 : List V) (o0 : Int) (o1 : Int) (o2 : ByteArray) (o3 : Nat) (hm : m_expr_Eval_b N rc a0 a1 a2 a3 a4 a5 l6 l7 = some (o0, o1, o2, o3)) : Spec Tryd.prog 10 [.agg #[.int .u8 a0, .int .u8 a1, .int .i64 a2, .string a3, .int .i64 a4, .int .u8 a5, .slice qp0 l6.length qc1], .slice qp2 l7.length qc3] [.sli 7 R_Api_ExprD qp0 qc1 l6, .sli 3 R_V qp2 qc3 l7] [] (fun v Φr Hr => v = .tuple #[.agg #[.int .u8 o0, .int .i64 o1, .string o2], .int .i64 ((o3 : Nat) : Int)] ∧ Φr = [] ∧ Hr = []) := by
 unfold m_expr_Eval_b at hm
 refine spec_of Tryd.func10 rfl Tryd.ntmps10 rfl (S := [_,_]) rfl (fun C => ?_)
 refine wc_seq ?_
 refine wc_region ?_
 refine wl_box rfl rfl rfl (freshS_eq rfl) rfl rfl rfl (fun g2 => ?_)
 refine wl_box rfl rfl rfl (freshS_eq rfl) rfl rfl rfl (fun g3 => ?_)
 refine wl_alloc rfl rfl rfl (freshS_eq rfl) rfl tZ_25 rfl (fun g4 => ?_)
 refine wl_pure rfl rfl rfl (freshS_eq rfl) rfl ?_
 refine wl_nil ?_
 refine we_then ?_
 refine wc_keep [4, 3, 2] (S' := [_,_,_]) rfl ?_
 refine wc_seq ?_
 refine wc_region ?_
 refine wl_makeMapE (keyInt (tInt_run tI_22)) false valRep rfl rfl rfl (freshS_eq rfl) rfl (fun g9 => ?_)
 refine wl_makeFunc rfl rfl rfl (freshS_eq rfl) rfl rfl ?_
 refine wl_mapPutE (i := 1) (u := .func (.func 25) #[] #[.pointer (some ⟨g2, 0, none⟩)]) (cs := [.func (.func 25) #[] #[.pointer (some ⟨g2, 0, none⟩)]]) 0 rfl rfl (.inr rfl) rfl rfl rfl rfl tM_57 trivial rfl (fun F w hφ => ⟨rfl, rfl⟩) (H' := [mapE (keyInt (tInt_run tI_22)) false valRep g9 ([(1, .func (.func 25) #[] #[.pointer (some ⟨g2, 0, none⟩)])]), .blk g4 [.int .u8 0, .int .i64 0, .string ((⟨#[]⟩ : ByteArray))] 25, .blk g3 [.slice qp2 l7.length qc3] 30, .blk g2 [.int .u8 a0, .int .u8 a1, .int .i64 a2, .string a3, .int .i64 a4, .int .u8 a5, .slice qp0 l6.length qc1] 29]) rfl ?_
 refine wl_makeFunc rfl rfl rfl (freshS_eq rfl) rfl rfl ?_
 refine wl_mapPutE (i := 2) (u := .func (.func 27) #[] #[.pointer (some ⟨g2, 0, none⟩), .pointer (some ⟨g3, 0, none⟩)]) (cs := [.func (.func 27) #[] #[.pointer (some ⟨g2, 0, none⟩), .pointer (some ⟨g3, 0, none⟩)]]) 0 rfl rfl (.inr rfl) rfl rfl rfl rfl tM_57 trivial rfl (fun F w hφ => ⟨rfl, rfl⟩) (H' := [mapE (keyInt (tInt_run tI_22)) false valRep g9 ([(1, .func (.func 25) #[] #[.pointer (some ⟨g2, 0, none⟩)]), (2, .func (.func 27) #[] #[.pointer (some ⟨g2, 0, none⟩), .pointer (some ⟨g3, 0, none⟩)])]), .blk g4 [.int .u8 0, .int .i64 0, .string ((⟨#[]⟩ : ByteArray))] 25, .blk g3 [.slice qp2 l7.length qc3] 30, .blk g2 [.int .u8 a0, .int .u8 a1, .int .i64 a2, .string a3, .int .i64 a4, .int .u8 a5, .slice qp0 l6.length qc1] 29]) rfl ?_
 refine wl_makeFunc rfl rfl rfl (freshS_eq rfl) rfl rfl ?_
 refine wl_mapPutE (i := 3) (u := .func (.func 28) #[] #[.pointer (some ⟨g3, 0, none⟩), .pointer (some ⟨g2, 0, none⟩)]) (cs := [.func (.func 28) #[] #[.pointer (some ⟨g3, 0, none⟩), .pointer (some ⟨g2, 0, none⟩)]]) 0 rfl rfl (.inr rfl) rfl rfl rfl rfl tM_57 trivial rfl (fun F w hφ => ⟨rfl, rfl⟩) (H' := [mapE (keyInt (tInt_run tI_22)) false valRep g9 ([(1, .func (.func 25) #[] #[.pointer (some ⟨g2, 0, none⟩)]), (2, .func (.func 27) #[] #[.pointer (some ⟨g2, 0, none⟩), .pointer (some ⟨g3, 0, none⟩)]), (3, .func (.func 28) #[] #[.pointer (some ⟨g3, 0, none⟩), .pointer (some ⟨g2, 0, none⟩)])]), .blk g4 [.int .u8 0, .int .i64 0, .string ((⟨#[]⟩ : ByteArray))] 25, .blk g3 [.slice qp2 l7.length qc3] 30, .blk g2 [.int .u8 a0, .int .u8 a1, .int .i64 a2, .string a3, .int .i64 a4, .int .u8 a5, .slice qp0 l6.length qc1] 29]) rfl ?_
 refine wl_pure rfl rfl rfl (freshS_eq rfl) rfl ?_
 refine wl_fieldAddr rfl rfl rfl (freshS_eq rfl) rfl rfl tF_29_0 ?_
 refine wl_loadH 3 0 rfl rfl rfl (freshS_eq rfl) rfl rfl rfl (cs := [_]) rfl tS_22 tA_22 rfl rfl ?_
 rcases ite_some hm with ⟨hq16_0, hm⟩ | ⟨hq16_0, hm⟩
 ·
  refine wl_lookYesE (i := a0) (a := (.func (.func 25) #[] #[.pointer (some ⟨g2, 0, none⟩)])) valRep_opens 0 rfl rfl rfl (freshS_eq rfl) rfl rfl rfl rfl tM_57 trivial (by rw [eq_of_beq hq16_0]; rfl) (u := fun _ => .func (.func 25) #[] #[.pointer (some ⟨g2, 0, none⟩)]) (fun _ => rfl) (v := fun _ => .tuple #[.func (.func 25) #[] #[.pointer (some ⟨g2, 0, none⟩)], .bool true]) (fun _ => rfl) (fun _ _ => ?_)
  refine wl_pure rfl rfl rfl (freshS_eq rfl) rfl ?_
  refine wl_pure rfl rfl rfl (freshS_eq rfl) rfl ?_
  refine wl_pure rfl rfl rfl (freshS_eq rfl) rfl ?_
  refine wl_pure rfl rfl rfl (freshS_eq rfl) rfl ?_
  refine wl_pure rfl rfl rfl (freshS_eq rfl) rfl ?_
  refine wl_nil ?_
  refine we_then ?_
  refine wc_keep [7, 6, 4] (S' := [_,_,_]) rfl ?_
  refine wc_seq ?_
  refine wc_seq ?_
  refine wc_region ?_
  refine wl_pure rfl rfl rfl (freshS_eq rfl) rfl ?_
  refine wl_pure rfl rfl rfl (freshS_eq rfl) rfl ?_
  refine wl_nil ?_
  refine we_then ?_
  refine wc_keep [20, 6, 4] (S' := [_,_,_]) rfl ?_
  refine wc_false rfl ?_
  refine wc_keep [6, 4] (S' := [_,_]) rfl ?_
  refine wc_skip ?_
  refine we_then ?_
  refine wc_seq ?_
  refine wc_region ?_
  refine wl_pure rfl rfl rfl (freshS_eq rfl) rfl ?_
  obtain ⟨⟨v23_0, v23_1, v23_2, v23_3⟩, hc23, hm⟩ := bindO_some hm
  try dsimp only at hm
  refine wl_callDyn [3] [0, 1, 2] rfl rfl rfl (freshS_eq rfl) rfl rfl rfl fn_25 rfl rfl (w_expr_Eval_1_s N g2 a0 a1 a2 a3 a4 a5 qp0 qc1 l6 _ _ _ _ hc23) (fun _ _ hφ => ask [0] rfl hφ) rfl (H' := [_,_,_]) rfl ?_
  rintro _ _ _ ⟨rfl, rfl, rfl⟩
  refine wl_pure rfl rfl rfl (freshS_eq rfl) rfl ?_
  refine wl_pure rfl rfl rfl (freshS_eq rfl) rfl ?_
  refine wl_store 2 0 rfl rfl rfl rfl rfl rfl rfl tS_25 rfl rfl rfl (all' := [_,_,_]) rfl (H' := [_,_,_,_]) rfl ?_
  refine wl_pure rfl rfl rfl (freshS_eq rfl) rfl ?_
  refine wl_nil ?_
  refine we_then ?_
  refine wc_keep [5, 4] (S' := [_,_]) rfl ?_
  refine wc_ret ?_
  have hE := (Option.some.inj hm).symm
  obtain ⟨hE0, hF1⟩ := Prod.mk.inj hE
  obtain ⟨hE1, hF2⟩ := Prod.mk.inj hF1
  obtain ⟨hE2, hE3⟩ := Prod.mk.inj hF2
  clear hE hF1 hF2
  replace hE0 := hE0.symm
  subst hE0
  replace hE1 := hE1.symm
  subst hE1
  replace hE2 := hE2.symm
  subst hE2
  replace hE3 := hE3.symm
  subst hE3
  refine ret_two (Hr := []) [] Tryd.results10 (res_cell 2 rfl rfl tS_25 tA_25 rfl rfl) (res_tmp rfl) ⟨rfl, rfl, rfl⟩ (fun _ _ hφ => ask [] rfl hφ) rfl rfl (.inl rfl)
 rcases ite_some hm with ⟨hq16_1, hm⟩ | ⟨hq16_1, hm⟩
 ·
  refine wl_lookYesE (i := a0) (a := (.func (.func 27) #[] #[.pointer (some ⟨g2, 0, none⟩), .pointer (some ⟨g3, 0, none⟩)])) valRep_opens 0 rfl rfl rfl (freshS_eq rfl) rfl rfl rfl rfl tM_57 trivial (by rw [eq_of_beq hq16_1]; rfl) (u := fun _ => .func (.func 27) #[] #[.pointer (some ⟨g2, 0, none⟩), .pointer (some ⟨g3, 0, none⟩)]) (fun _ => rfl) (v := fun _ => .tuple #[.func (.func 27) #[] #[.pointer (some ⟨g2, 0, none⟩), .pointer (some ⟨g3, 0, none⟩)], .bool true]) (fun _ => rfl) (fun _ _ => ?_)
  refine wl_pure rfl rfl rfl (freshS_eq rfl) rfl ?_
  refine wl_pure rfl rfl rfl (freshS_eq rfl) rfl ?_
  refine wl_pure rfl rfl rfl (freshS_eq rfl) rfl ?_
  refine wl_pure rfl rfl rfl (freshS_eq rfl) rfl ?_
  refine wl_pure rfl rfl rfl (freshS_eq rfl) rfl ?_
  refine wl_nil ?_
  refine we_then ?_
  refine wc_keep [7, 6, 4] (S' := [_,_,_]) rfl ?_
  refine wc_seq ?_
  refine wc_seq ?_
  refine wc_region ?_
  refine wl_pure rfl rfl rfl (freshS_eq rfl) rfl ?_
  refine wl_pure rfl rfl rfl (freshS_eq rfl) rfl ?_
  refine wl_nil ?_
  refine we_then ?_
  refine wc_keep [20, 6, 4] (S' := [_,_,_]) rfl ?_
  refine wc_false rfl ?_
  refine wc_keep [6, 4] (S' := [_,_]) rfl ?_
  refine wc_skip ?_
  refine we_then ?_
  refine wc_seq ?_
  refine wc_region ?_
  refine wl_pure rfl rfl rfl (freshS_eq rfl) rfl ?_
  obtain ⟨⟨v23_0, v23_1, v23_2, v23_3⟩, hc23, hm⟩ := bindO_some hm
  try dsimp only at hm
  refine wl_callDyn [3, 2] [0, 1] rfl rfl rfl (freshS_eq rfl) rfl rfl rfl fn_27 rfl rfl (w_expr_Eval_2_s N g2 a0 a1 a2 a3 a4 a5 qp0 qc1 l6 g3 qp2 qc3 l7 _ _ _ _ hc23) (fun _ _ hφ => ask [0, 1] rfl hφ) rfl (H' := [_,_]) rfl ?_
  rintro _ _ _ ⟨rfl, rfl, rfl⟩
  refine wl_pure rfl rfl rfl (freshS_eq rfl) rfl ?_
  refine wl_pure rfl rfl rfl (freshS_eq rfl) rfl ?_
  refine wl_store 3 0 rfl rfl rfl rfl rfl rfl rfl tS_25 rfl rfl rfl (all' := [_,_,_]) rfl (H' := [_,_,_,_]) rfl ?_
  refine wl_pure rfl rfl rfl (freshS_eq rfl) rfl ?_
  refine wl_nil ?_
  refine we_then ?_
  refine wc_keep [5, 4] (S' := [_,_]) rfl ?_
  refine wc_ret ?_
  have hE := (Option.some.inj hm).symm
  obtain ⟨hE0, hF1⟩ := Prod.mk.inj hE
  obtain ⟨hE1, hF2⟩ := Prod.mk.inj hF1
  obtain ⟨hE2, hE3⟩ := Prod.mk.inj hF2
  clear hE hF1 hF2
  replace hE0 := hE0.symm
  subst hE0
  replace hE1 := hE1.symm
  subst hE1
  replace hE2 := hE2.symm
  subst hE2
  replace hE3 := hE3.symm
  subst hE3
  refine ret_two (Hr := []) [] Tryd.results10 (res_cell 3 rfl rfl tS_25 tA_25 rfl rfl) (res_tmp rfl) ⟨rfl, rfl, rfl⟩ (fun _ _ hφ => ask [] rfl hφ) rfl rfl (.inl rfl)
 rcases ite_some hm with ⟨hq16_2, hm⟩ | ⟨hq16_2, hm⟩
 ·
  refine wl_lookYesE (i := a0) (a := (.func (.func 28) #[] #[.pointer (some ⟨g3, 0, none⟩), .pointer (some ⟨g2, 0, none⟩)])) valRep_opens 0 rfl rfl rfl (freshS_eq rfl) rfl rfl rfl rfl tM_57 trivial (by rw [eq_of_beq hq16_2]; rfl) (u := fun _ => .func (.func 28) #[] #[.pointer (some ⟨g3, 0, none⟩), .pointer (some ⟨g2, 0, none⟩)]) (fun _ => rfl) (v := fun _ => .tuple #[.func (.func 28) #[] #[.pointer (some ⟨g3, 0, none⟩), .pointer (some ⟨g2, 0, none⟩)], .bool true]) (fun _ => rfl) (fun _ _ => ?_)
  refine wl_pure rfl rfl rfl (freshS_eq rfl) rfl ?_
  refine wl_pure rfl rfl rfl (freshS_eq rfl) rfl ?_
  refine wl_pure rfl rfl rfl (freshS_eq rfl) rfl ?_
  refine wl_pure rfl rfl rfl (freshS_eq rfl) rfl ?_
  refine wl_pure rfl rfl rfl (freshS_eq rfl) rfl ?_
  refine wl_nil ?_
  refine we_then ?_
  refine wc_keep [7, 6, 4] (S' := [_,_,_]) rfl ?_
  refine wc_seq ?_
  refine wc_seq ?_
  refine wc_region ?_
  refine wl_pure rfl rfl rfl (freshS_eq rfl) rfl ?_
  refine wl_pure rfl rfl rfl (freshS_eq rfl) rfl ?_
  refine wl_nil ?_
  refine we_then ?_
  refine wc_keep [20, 6, 4] (S' := [_,_,_]) rfl ?_
  refine wc_false rfl ?_
  refine wc_keep [6, 4] (S' := [_,_]) rfl ?_
  refine wc_skip ?_
  refine we_then ?_
  refine wc_seq ?_
  refine wc_region ?_
  refine wl_pure rfl rfl rfl (freshS_eq rfl) rfl ?_
  obtain ⟨⟨v23_0, v23_1, v23_2⟩, hc23, hm⟩ := bindO_some hm
  try dsimp only at hm
  refine wl_callDyn [2, 3] [0, 1] rfl rfl rfl (freshS_eq rfl) rfl rfl rfl fn_28 rfl rfl (w_expr_Eval_3_v2_s N rc ih g3 qp2 qc3 l7 g2 a0 a1 a2 a3 a4 a5 qp0 qc1 l6 _ _ _ hc23) (fun _ _ hφ => ask [1, 0] rfl hφ) rfl (H' := [_,_]) rfl ?_
  rintro _ _ _ ⟨rfl, rfl, rfl⟩
  refine wl_pure rfl rfl rfl (freshS_eq rfl) rfl ?_
  refine wl_pure rfl rfl rfl (freshS_eq rfl) rfl ?_
  refine wl_store 3 0 rfl rfl rfl rfl rfl rfl rfl tS_25 rfl rfl rfl (all' := [_,_,_]) rfl (H' := [_,_,_,_]) rfl ?_
  refine wl_pure rfl rfl rfl (freshS_eq rfl) rfl ?_
  refine wl_nil ?_
  refine we_then ?_
  refine wc_keep [5, 4] (S' := [_,_]) rfl ?_
  refine wc_ret ?_
  have hE := (Option.some.inj hm).symm
  obtain ⟨hE0, hF1⟩ := Prod.mk.inj hE
  obtain ⟨hE1, hF2⟩ := Prod.mk.inj hF1
  obtain ⟨hE2, hE3⟩ := Prod.mk.inj hF2
  clear hE hF1 hF2
  replace hE0 := hE0.symm
  subst hE0
  replace hE1 := hE1.symm
  subst hE1
  replace hE2 := hE2.symm
  subst hE2
  replace hE3 := hE3.symm
  subst hE3
  refine ret_two (Hr := []) [] Tryd.results10 (res_cell 3 rfl rfl tS_25 tA_25 rfl rfl) (res_tmp rfl) ⟨rfl, rfl, rfl⟩ (fun _ _ hφ => ask [] rfl hφ) rfl rfl (.inl rfl)
 ·
  refine wl_lookNoE (i := a0) 0 rfl rfl rfl (freshS_eq rfl) rfl rfl rfl rfl tZ_53 tM_57 trivial (by simp [mlook, (ne_of_beq_false hq16_0).symm, (ne_of_beq_false hq16_1).symm, (ne_of_beq_false hq16_2).symm]) (v := .tuple #[.nilFunc, .bool false]) rfl ?_
  refine wl_pure rfl rfl rfl (freshS_eq rfl) rfl ?_
  refine wl_pure rfl rfl rfl (freshS_eq rfl) rfl ?_
  refine wl_pure rfl rfl rfl (freshS_eq rfl) rfl ?_
  refine wl_pure rfl rfl rfl (freshS_eq rfl) rfl ?_
  refine wl_pure rfl rfl rfl (freshS_eq rfl) rfl ?_
  refine wl_nil ?_
  refine we_then ?_
  refine wc_keep [7, 6, 4] (S' := [_,_,_]) rfl ?_
  refine wc_seq ?_
  refine wc_seq ?_
  refine wc_region ?_
  refine wl_pure rfl rfl rfl (freshS_eq rfl) rfl ?_
  refine wl_pure rfl rfl rfl (freshS_eq rfl) rfl ?_
  refine wl_nil ?_
  refine we_then ?_
  refine wc_keep [20, 6, 4] (S' := [_,_,_]) rfl ?_
  refine wc_cond rfl (fun hb20 => ?_) (fun hb20 => ?_)
  ·
   replace hm := iteT hm hb20
   refine wc_keep [4] (S' := [_]) rfl ?_
   refine wc_seq ?_
   refine wc_region ?_
   refine wl_build rfl rfl rfl (freshS_eq rfl) rfl tZ_25 tP_25 rfl (out := [_,_,_]) rfl ?_
   refine wl_store 1 0 rfl rfl rfl rfl rfl rfl rfl tS_25 rfl rfl rfl (all' := [_,_,_]) rfl (H' := [_,_,_,_]) rfl ?_
   refine wl_pure rfl rfl rfl (freshS_eq rfl) rfl ?_
   refine wl_nil ?_
   refine we_then ?_
   refine wc_keep [5, 4] (S' := [_,_]) rfl ?_
   refine wc_ret ?_
   refine we_then_ret ?_
   have hE := (Option.some.inj hm).symm
   obtain ⟨hE0, hF1⟩ := Prod.mk.inj hE
   obtain ⟨hE1, hF2⟩ := Prod.mk.inj hF1
   obtain ⟨hE2, hE3⟩ := Prod.mk.inj hF2
   clear hE hF1 hF2
   replace hE0 := hE0.symm
   subst hE0
   replace hE1 := hE1.symm
   subst hE1
   replace hE2 := hE2.symm
   subst hE2
   replace hE3 := hE3.symm
   subst hE3
   refine ret_two (Hr := []) [] Tryd.results10 (res_cell 1 rfl rfl tS_25 tA_25 rfl rfl) (res_tmp rfl) ⟨rfl, rfl, rfl⟩ (fun _ _ hφ => ask [] rfl hφ) rfl rfl (.inl rfl)
  ·
   replace hm := iteF hm hb20
   refine wc_keep [6, 4] (S' := [_,_]) rfl ?_
   refine wc_skip ?_
   refine we_then ?_
   refine wc_seq ?_
   refine wc_region ?_
   refine wl_pure rfl rfl rfl (freshS_eq rfl) rfl ?_
   cases hm
theorem w_expr_Eval_s : ∀ (N : Nat), ∀ (a0 : Int) (a1 : Int) (a2 : Int) (a3 : ByteArray) (a4 : Int) (a5 : Int) (qp0 : Option Addr) (qc1 : Nat) (l6 : List Api_ExprD) (qp2 : Option Addr) (qc3 : Nat) (l7 : List V) (o0 : Int) (o1 : Int) (o2 : ByteArray) (o3 : Nat), m_expr_Eval N a0 a1 a2 a3 a4 a5 l6 l7 = some (o0, o1, o2, o3) → Spec Tryd.prog 10 [.agg #[.int .u8 a0, .int .u8 a1, .int .i64 a2, .string a3, .int .i64 a4, .int .u8 a5, .slice qp0 l6.length qc1], .slice qp2 l7.length qc3] [.sli 7 R_Api_ExprD qp0 qc1 l6, .sli 3 R_V qp2 qc3 l7] [] (fun v Φr Hr => v = .tuple #[.agg #[.int .u8 o0, .int .i64 o1, .string o2], .int .i64 ((o3 : Nat) : Int)] ∧ Φr = [] ∧ Hr = []) := by
  intro N
  induction N with
  | zero => intro a0 a1 a2 a3 a4 a5 qp0 qc1 l6 qp2 qc3 l7 o0 o1 o2 o3 hm; cases hm
  | succ N ih => intro a0 a1 a2 a3 a4 a5 qp0 qc1 l6 qp2 qc3 l7 o0 o1 o2 o3 hm; exact w_expr_Eval_s_b N (m_expr_Eval N) ih a0 a1 a2 a3 a4 a5 qp0 qc1 l6 qp2 qc3 l7 o0 o1 o2 o3 hm
set_option maxRecDepth 100000 in
set_option maxHeartbeats 4000000 in
theorem w_ropewalklaw09_op_v3_s (N : Nat) (a0 : Int) (a1 : Int) (a2 : Int) (a3 : Int) (a4 : ByteArray) (a5 : Int) (a6 : Int) (qp0 : Option Addr) (qc1 : Nat) (l7 : List Api_ExprD) (a8 : Int) (a9 : Int) (a10 : Int) (a11 : ByteArray) (a12 : Int) (a13 : Int) (qp2 : Option Addr) (qn3 : Nat) (qc4 : Nat) (l14 : List Api_ExprD)  (hm : m_ropewalklaw09_op N a0 a1 a2 a3 a4 a5 a6 l7 a8 a9 a10 a11 a12 a13 l14 = some ()) : Spec Tryd.prog 20 [.int .u8 a0, .agg #[.int .u8 a1, .int .u8 a2, .int .i64 a3, .string a4, .int .i64 a5, .int .u8 a6, .slice qp0 l7.length qc1], .agg #[.int .u8 a8, .int .u8 a9, .int .i64 a10, .string a11, .int .i64 a12, .int .u8 a13, .slice qp2 qn3 qc4]] [.sli 7 R_Api_ExprD qp0 qc1 l7] [.own 29 7 R_Api_ExprD (.slice qp2 qn3 qc4) l14] (fun v Φr Hr => ∃ (o0 : Nat), v = .agg #[.int .u8 3, .int .u8 0, .int .i64 0, .string ((⟨#[]⟩ : ByteArray)), .int .i64 0, .int .u8 a0, .slice (some ⟨o0, 0, none⟩) 2 2] ∧ Φr = [.sli 7 R_Api_ExprD qp0 qc1 l7] ∧ Hr = [.blk o0 [.int .u8 a1, .int .u8 a2, .int .i64 a3, .string a4, .int .i64 a5, .int .u8 a6, .slice qp0 l7.length qc1, .int .u8 a8, .int .u8 a9, .int .i64 a10, .string a11, .int .i64 a12, .int .u8 a13, .slice qp2 qn3 qc4] 29, .own 29 7 R_Api_ExprD (.slice qp2 qn3 qc4) l14]) := by
 unfold m_ropewalklaw09_op at hm
 refine spec_of Tryd.func20 rfl Tryd.ntmps20 rfl (S := [_,_,_]) rfl (fun C => ?_)
 refine wc_seq ?_
 refine wc_region ?_
 refine wl_box rfl rfl rfl (freshS_eq rfl) rfl rfl rfl (fun g4 => ?_)
 refine wl_box rfl rfl rfl (freshS_eq rfl) rfl rfl rfl (fun g5 => ?_)
 refine wl_alloc rfl rfl rfl (freshS_eq rfl) rfl tZ_29 rfl (fun g6 => ?_)
 refine wl_nil ?_
 refine we_then ?_
 refine wc_keep [6, 5, 4, 0] (S' := [_,_,_,_]) rfl ?_
 refine wc_seq ?_
 refine wc_region ?_
 refine wl_pure rfl rfl rfl (freshS_eq rfl) rfl ?_
 refine wl_loadH 2 0 rfl rfl rfl (freshS_eq rfl) rfl rfl rfl (cs := [_,_,_,_,_,_,_]) rfl tS_29 tA_29 rfl rfl ?_
 refine wl_loadH 1 0 rfl rfl rfl (freshS_eq rfl) rfl rfl rfl (cs := [_,_,_,_,_,_,_]) rfl tS_29 tA_29 rfl rfl ?_
 refine wl_buildSlice rfl rfl rfl (freshS_eq rfl) rfl tE_27 tS_29 tZ_29 rfl (zs := [.int .u8 0, .int .u8 0, .int .i64 0, .string ((⟨#[]⟩ : ByteArray)), .int .i64 0, .int .u8 0, .slice none 0 0, .int .u8 0, .int .u8 0, .int .i64 0, .string ((⟨#[]⟩ : ByteArray)), .int .i64 0, .int .u8 0, .slice none 0 0]) (by kernel_rfl) rfl (out := [_,_,_,_,_,_,_,_,_,_,_,_,_,_]) rfl (fun g10 => ?_)
 refine wl_build rfl rfl rfl (freshS_eq rfl) rfl tZ_29 tP_29 rfl (out := [_,_,_,_,_,_,_]) rfl ?_
 refine wl_store 1 0 rfl rfl rfl rfl rfl rfl rfl tS_29 rfl rfl rfl (all' := [_,_,_,_,_,_,_]) rfl (H' := [_,_,_,_,_]) rfl ?_
 refine wl_nil ?_
 refine we_then ?_
 refine wc_keep [6] (S' := [_]) rfl ?_
 refine wc_ret ?_
 have hE := (Option.some.inj hm).symm
 refine ret_one (Hr := [_, _]) [0, 4] Tryd.results20 (res_cell 1 rfl rfl tS_29 tA_29 rfl rfl) ⟨g10, rfl, rfl, rfl⟩ (fun _ _ hφ => ask [0] rfl hφ) rfl rfl (.inl rfl)
end Go.Proofs.YtdkmibdiokmfbaaDoor
