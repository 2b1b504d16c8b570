/- Walks, printed by a program out of the loaded code. -/
import Derived.Test.YtighbinghbnjhaaXM
import Derived.Test.YtighbinghbnjhaaTypesP
import Derived.Test.YtighbinghbnjhaaEq
import Derived.Test.YtighbinghbnjhaaMapK
namespace Go.Proofs.Ytighbinghbnjhaa
open Go.RowKit

set_option maxRecDepth 100000 in
set_option maxHeartbeats 4000000 in
theorem m_session_New_s (N : Nat)   (hm : m_session_New N = some ()) : Spec Try.prog 7 [] [] [] (fun v Φr Hr => ∃ (o0 : Nat), v = .pointer (some ⟨o0, 0, none⟩) ∧ Φr = [] ∧ Hr = [.blk o0 [.slice none 0 0, .int .i64 1] 50]) := by
 unfold m_session_New at hm
 refine spec_of Try.func7 rfl Try.ntmps7 rfl (S := []) rfl (fun C => ?_)
 refine wc_seq ?_
 refine wc_region ?_
 refine wl_pure rfl rfl rfl (freshS_eq rfl) rfl ?_
 refine wl_nil ?_
 refine we_then ?_
 refine wc_keep [] (S' := []) rfl ?_
 refine wc_seq ?_
 refine wc_region ?_
 refine wl_build rfl rfl rfl (freshS_eq rfl) rfl tZ_50 tP_50 rfl (out := [_,_]) rfl ?_
 refine wl_box rfl rfl rfl (freshS_eq rfl) rfl rfl rfl (fun g2 => ?_)
 refine wl_pure rfl rfl rfl (freshS_eq rfl) rfl ?_
 refine wl_nil ?_
 refine we_then ?_
 refine wc_keep [0] (S' := [_]) rfl ?_
 refine wc_ret ?_
 have hE := (Option.some.inj hm).symm
 refine ret_one (Hr := [_]) [0] Try.results7 (res_tmp rfl) ⟨g2, rfl, rfl, rfl⟩ (fun _ _ hφ => ask [] rfl hφ) rfl rfl (.inl rfl)
set_option maxRecDepth 100000 in
set_option maxHeartbeats 4000000 in
theorem m_session_Table_known_s (N : Nat) (qg0 : Nat) (qp1 : Option Addr) (qn2 : Nat) (qc3 : Nat) (l4 : List SessD) (a5 : Int)  (hm : m_session_Table_known N l4 a5 = some ()) : Spec Try.prog 20 [.pointer (some ⟨qg0, 0, none⟩)] [] [.blk qg0 [.slice qp1 qn2 qc3, .int .i64 a5] 50, .own 62 6 R_SessD (.slice qp1 qn2 qc3) l4] (fun v Φr Hr => v = .bool (decide (a5 > 0)) ∧ Φr = [] ∧ Hr = [.blk qg0 [.slice qp1 qn2 qc3, .int .i64 a5] 50, .own 62 6 R_SessD (.slice qp1 qn2 qc3) l4]) := by
 unfold m_session_Table_known at hm
 refine spec_of Try.func20 rfl Try.ntmps20 rfl (S := [_]) rfl (fun C => ?_)
 refine wc_seq ?_
 refine wc_region ?_
 refine wl_pure rfl rfl rfl (freshS_eq rfl) rfl ?_
 refine wl_nil ?_
 refine we_then ?_
 refine wc_keep [0] (S' := [_]) rfl ?_
 refine wc_seq ?_
 refine wc_region ?_
 refine wl_pure rfl rfl rfl (freshS_eq rfl) rfl ?_
 refine wl_bin rfl rfl rfl (freshS_eq rfl) rfl rfl rfl (neqP tQ_24 _ _ _) ?_
 refine wl_pure rfl rfl rfl (freshS_eq rfl) rfl ?_
 refine wl_pure rfl rfl rfl (freshS_eq rfl) rfl ?_
 refine wl_pure rfl rfl rfl (freshS_eq rfl) rfl ?_
 refine wl_fieldAddr rfl rfl rfl (freshS_eq rfl) rfl rfl tF_50_1 ?_
 refine wl_loadH 0 1 rfl rfl rfl (freshS_eq rfl) rfl rfl rfl (cs := [_]) rfl tS_3 tA_3 rfl rfl ?_
 refine wl_pure rfl rfl rfl (freshS_eq rfl) rfl ?_
 refine wl_pure rfl rfl rfl (freshS_eq rfl) rfl ?_
 refine wl_pure rfl rfl rfl (freshS_eq rfl) rfl ?_
 refine wl_nil ?_
 refine we_then ?_
 refine wc_keep [2] (S' := [_]) rfl ?_
 refine wc_ret ?_
 have hE := (Option.some.inj hm).symm
 refine ret_one (Hr := [_, _]) [0, 1] Try.results20 (res_tmp rfl) ⟨rfl, rfl, rfl⟩ (fun _ _ hφ => ask [] rfl hφ) rfl rfl (.inl rfl)
set_option maxRecDepth 100000 in
set_option maxHeartbeats 4000000 in
theorem m_session_Table_Open_s (N : Nat) (qg0 : Nat) (qp1 : Option Addr) (qn2 : Nat) (qc3 : Nat) (l4 : List SessD) (a5 : Int) (o0 : Int) (o1 : Nat) (o4 : List SessD) (o6 : Int) (hm : m_session_Table_Open N l4 a5 = some (o0, o1, o4, o6)) : Spec Try.prog 9 [.pointer (some ⟨qg0, 0, none⟩)] [] [.blk qg0 [.slice qp1 qn2 qc3, .int .i64 a5] 50, .own 62 6 R_SessD (.slice qp1 qn2 qc3) l4] (fun v Φr Hr => ∃ (o2 : Option Addr) (o3 : Nat) (o5 : Nat), v = .tuple #[.int .i64 o0, .int .i64 ((o1 : Nat) : Int)] ∧ Φr = [] ∧ Hr = [.blk qg0 [.slice o2 o5 o3, .int .i64 o6] 50, .own 62 6 R_SessD (.slice o2 o5 o3) o4]) := by
 unfold m_session_Table_Open at hm
 refine spec_of Try.func9 rfl Try.ntmps9 rfl (S := [_]) rfl (fun C => ?_)
 refine wc_seq ?_
 refine wc_region ?_
 refine wl_pure rfl rfl rfl (freshS_eq rfl) rfl ?_
 refine wl_pure rfl rfl rfl (freshS_eq rfl) rfl ?_
 refine wl_nil ?_
 refine we_then ?_
 refine wc_keep [0] (S' := [_]) rfl ?_
 refine wc_seq ?_
 refine wc_block ?_
 refine wc_seq ?_
 refine wc_region ?_
 refine wl_pure rfl rfl rfl (freshS_eq rfl) rfl ?_
 obtain ⟨_, hc6, hm⟩ := bindO_some hm
 try dsimp only at hm
 refine wl_call [0, 1] [] rfl rfl rfl (freshS_eq rfl) rfl rfl fn_20 rfl (m_session_Table_known_s N qg0 qp1 qn2 qc3 l4 a5 hc6) (fun _ _ hφ => ask [] rfl hφ) rfl (H' := []) rfl ?_
 rintro _ _ _ ⟨rfl, rfl, rfl⟩
 refine wl_pure rfl rfl rfl (freshS_eq rfl) rfl ?_
 refine wl_pure rfl rfl rfl (freshS_eq rfl) rfl ?_
 refine wl_nil ?_
 refine we_then ?_
 refine wc_keep [4, 0] (S' := [_,_]) rfl ?_
 refine wc_cond rfl (fun hb4 => ?_) (fun hb4 => ?_)
 ·
  replace hm := iteT hm hb4
  refine wc_keep [] (S' := []) rfl ?_
  refine wc_seq ?_
  refine wc_region ?_
  refine wl_pure rfl rfl rfl (freshS_eq rfl) rfl ?_
  refine wl_pure rfl rfl rfl (freshS_eq rfl) rfl ?_
  refine wl_nil ?_
  refine we_then ?_
  refine wc_ret ?_
  refine we_block_ret ?_
  refine we_then_ret ?_
  have hE := (Option.some.inj hm).symm
  obtain ⟨hE0, hF1⟩ := Prod.mk.inj hE
  obtain ⟨hE1, hF2⟩ := Prod.mk.inj hF1
  obtain ⟨hE2, hE3⟩ := Prod.mk.inj hF2
  clear hE hF1 hF2
  replace hE0 := hE0.symm
  subst hE0
  replace hE1 := hE1.symm
  subst hE1
  replace hE2 := hE2.symm
  subst hE2
  replace hE3 := hE3.symm
  subst hE3
  refine ret_two (Hr := [_, _]) [0, 1] Try.results9 (res_tmp rfl) (res_tmp rfl) ⟨qp1, qc3, qn2, rfl, rfl, rfl⟩ (fun _ _ hφ => ask [] rfl hφ) rfl rfl (.inl rfl)
 ·
  replace hm := iteF hm hb4
  refine wc_keep [0] (S' := [_]) rfl ?_
  refine wc_seq ?_
  obtain ⟨bj_1, hm, hLj_1⟩ := bindO_some hm
  refine wc_cut (σ := Bool) (fun j_1_8 => bj_1 = j_1_8) (fun j_1_8 => [(0, .pointer (some ⟨qg0, 0, none⟩)), (8, .bool j_1_8)]) (fun j_1_8 => []) (fun j_1_8 => [.blk qg0 [.slice qp1 qn2 qc3, .int .i64 a5] 50, .own 62 6 R_SessD (.slice qp1 qn2 qc3) l4]) ?_ ?_
  ·
   refine wc_region ?_
   refine wl_pure rfl rfl rfl (freshS_eq rfl) rfl ?_
   refine wl_pure rfl rfl rfl (freshS_eq rfl) rfl ?_
   refine wl_fieldAddr rfl rfl rfl (freshS_eq rfl) rfl rfl tF_50_0 ?_
   refine wl_fieldAddr rfl rfl rfl (freshS_eq rfl) rfl rfl tF_48_0 ?_
   refine wl_loadH 0 0 rfl rfl rfl (freshS_eq rfl) rfl rfl rfl (cs := [_]) rfl tS_38 tA_38 rfl rfl ?_
   refine wl_ownLen 1 rfl (fun hl14 _ => ?_)
   refine wl_len rfl rfl rfl (freshS_eq rfl) rfl rfl tE_38 ?_
   refine wl_as (d := 14) (v' := .int .i64 ((l4.length : Nat) : Int)) (S' := [_,_,_,_,_,_]) rfl rfl (len_is hl14) ?_
   refine wl_pure rfl rfl rfl (freshS_eq rfl) rfl ?_
   refine wl_as (d := 15) (v' := .bool (decide (32 ≤ l4.length))) (S' := [_,_,_,_,_,_,_]) rfl rfl (natge (a := l4.length) (b := 32)) ?_
   refine wl_pure rfl rfl rfl (freshS_eq rfl) rfl ?_
   refine wl_split (d := 16) (S' := [_,_,_,_,_,_,_,_]) rfl rfl (fun hs16 => ?_) (fun hs16 => ?_)
   ·
    replace hm := iteT hm hs16
    refine wl_off rfl rfl rfl (freshS_eq rfl) ?_
    refine wl_off rfl rfl rfl (freshS_eq rfl) ?_
    refine wl_off rfl rfl rfl (freshS_eq rfl) ?_
    refine wl_off rfl rfl rfl (freshS_eq rfl) ?_
    refine wl_off rfl rfl rfl (freshS_eq rfl) ?_
    refine wl_pure rfl rfl rfl (freshS_eq rfl) rfl ?_
    refine wl_pure rfl rfl rfl (freshS_eq rfl) rfl ?_
    refine wl_nil ?_
    have hE := (Option.some.inj hm).symm
    refine we_join true hE [0, 8] rfl (fun _ _ hφ => ask [] rfl hφ) rfl
   ·
    replace hm := iteF hm hs16
    refine wl_pure rfl rfl rfl (freshS_eq rfl) rfl ?_
    refine wl_pure rfl rfl rfl (freshS_eq rfl) rfl ?_
    refine wl_fieldAddr rfl rfl rfl (freshS_eq rfl) rfl rfl tF_50_1 ?_
    refine wl_loadH 0 1 rfl rfl rfl (freshS_eq rfl) rfl rfl rfl (cs := [_]) rfl tS_3 tA_3 rfl rfl ?_
    refine wl_pure rfl rfl rfl (freshS_eq rfl) rfl ?_
    refine wl_pure rfl rfl rfl (freshS_eq rfl) rfl ?_
    refine wl_pure rfl rfl rfl (freshS_eq rfl) rfl ?_
    refine wl_nil ?_
    have hE := (Option.some.inj hm).symm
    refine we_join (decide (a5 > 1099511627776)) hE [0, 8] rfl (fun _ _ hφ => ask [] rfl hφ) rfl
  ·
   rintro j_1_8 hE
   try dsimp only
   have hm := hLj_1
   rw [hE] at hm
   refine wc_cond rfl (fun hb8 => ?_) (fun hb8 => ?_)
   ·
    replace hm := iteT hm hb8
    refine wc_keep [] (S' := []) rfl ?_
    refine wc_seq ?_
    refine wc_region ?_
    refine wl_pure rfl rfl rfl (freshS_eq rfl) rfl ?_
    refine wl_pure rfl rfl rfl (freshS_eq rfl) rfl ?_
    refine wl_nil ?_
    refine we_then ?_
    refine wc_ret ?_
    refine we_block_ret ?_
    refine we_then_ret ?_
    have hE := (Option.some.inj hm).symm
    obtain ⟨hE0, hF1⟩ := Prod.mk.inj hE
    obtain ⟨hE1, hF2⟩ := Prod.mk.inj hF1
    obtain ⟨hE2, hE3⟩ := Prod.mk.inj hF2
    clear hE hF1 hF2
    replace hE0 := hE0.symm
    subst hE0
    replace hE1 := hE1.symm
    subst hE1
    replace hE2 := hE2.symm
    subst hE2
    replace hE3 := hE3.symm
    subst hE3
    refine ret_two (Hr := [_, _]) [0, 1] Try.results9 (res_tmp rfl) (res_tmp rfl) ⟨qp1, qc3, qn2, rfl, rfl, rfl⟩ (fun _ _ hφ => ask [] rfl hφ) rfl rfl (.inl rfl)
   ·
    replace hm := iteF hm hb8
    refine wc_keep [0] (S' := [_]) rfl ?_
    refine wc_skip ?_
    refine we_block_normal ?_
    refine we_then ?_
    refine wc_seq ?_
    obtain ⟨hg35, hm⟩ := gd_some hm
    refine wc_draw [0, 1, 2, 3, 4, 5, 6, 7, 8, 9, 10, 13, 14, 15] rfl rfl (fun hok => ?_)
    refine wx_pure hok 0 rfl rfl rfl (freshS_eq rfl) rfl rfl ?_
    refine wx_pure hok 1 rfl rfl rfl (freshS_eq rfl) rfl rfl ?_
    refine wx_pure hok 2 rfl rfl rfl (freshS_eq rfl) rfl rfl ?_
    refine wx_fieldAddr hok 3 rfl rfl rfl (freshS_eq rfl) rfl rfl rfl tF_50_0 ?_
    refine wx_fieldAddr hok 4 rfl rfl rfl (freshS_eq rfl) rfl rfl rfl tF_48_0 ?_
    refine wx_loadH hok 5 0 0 rfl rfl rfl (freshS_eq rfl) rfl rfl rfl rfl (cs := [_]) rfl tS_38 tA_38 rfl rfl ?_
    refine wx_pure hok 6 rfl rfl rfl (freshS_eq rfl) rfl rfl ?_
    refine wx_pure hok 7 rfl rfl rfl (freshS_eq rfl) rfl rfl ?_
    refine wx_fieldAddr hok 8 rfl rfl rfl (freshS_eq rfl) rfl rfl rfl tF_50_1 ?_
    refine wx_loadH hok 9 0 1 rfl rfl rfl (freshS_eq rfl) rfl rfl rfl rfl (cs := [_]) rfl tS_3 tA_3 rfl rfl ?_
    refine wx_build hok 10 rfl rfl rfl (freshS_eq rfl) rfl rfl tZ_62 tP_62 rfl (out := [_,_,_,_,_,_]) rfl ?_
    refine wx_step1 hok 11 rfl rfl rfl rfl ?_
    refine wl_buildSlice rfl rfl rfl (freshS_eq rfl) rfl tE_38 tS_62 tZ_62 rfl (zs := [.int .i64 0, .int .i64 0, .int .i64 0, .int .i64 0, .slice none 0 0, .slice none 0 0]) (by kernel_rfl) rfl (out := [_,_,_,_,_,_]) rfl (fun g34 => ?_)
    refine wl_nil ?_
    refine we_x [] [1, 1] rfl rfl ?_
    refine wx_step1 hok 12 rfl rfl rfl rfl ?_
    refine wl_appendH ([(⟨a5, 0, (⟨0, 0, [], []⟩ : ReplyD)⟩ : SessD)]) 2 0 rfl rfl rfl (freshS_eq rfl) rfl rfl rfl rfl rfl (fun F w hφ => ⟨[.int .i64 a5, .int .i64 0, .int .i64 0, .int .i64 0, .slice none 0 0, .slice none 0 0], [], rfl, rfl, ⟨((none, 0), (none, 0)), rfl, (ask_cons sli_none (ask_cons sli_none ask_nil))⟩, rfl⟩) tE_38 tR_62 rfl rfl (Nat.le_trans hg35 (by decide)) (Nat.le_trans (Nat.mul_le_mul_right _ hg35) (by decide)) (H2 := fun p35 c35 => [.blk g34 [.int .i64 a5, .int .i64 0, .int .i64 0, .int .i64 0, .slice none 0 0, .slice none 0 0] 62, .blk qg0 [.slice qp1 qn2 qc3, .int .i64 a5] 50, .own 62 6 R_SessD (.slice p35 ((l4 ++ ([(⟨a5, 0, (⟨0, 0, [], []⟩ : ReplyD)⟩ : SessD)])).length) c35) (l4 ++ ([(⟨a5, 0, (⟨0, 0, [], []⟩ : ReplyD)⟩ : SessD)]))]) (fun _ _ => rfl) (fun p35 c35 => ?_)
    refine wl_drop 0 rfl (H' := [_,_]) rfl ?_
    refine wl_nil ?_
    refine we_x [] [0] rfl rfl ?_
    refine wx_pure hok 13 rfl rfl rfl (freshS_eq rfl) rfl rfl ?_
    refine wx_fieldAddr hok 14 rfl rfl rfl (freshS_eq rfl) rfl rfl rfl tF_50_0 ?_
    refine wx_fieldAddr hok 15 rfl rfl rfl (freshS_eq rfl) rfl rfl rfl tF_48_0 ?_
    refine wx_step1 hok 16 rfl rfl rfl rfl ?_
    refine wl_store 0 0 rfl rfl rfl rfl rfl rfl rfl tS_38 rfl rfl rfl (all' := [_,_]) rfl (H' := [_,_]) rfl ?_
    refine wl_nil ?_
    refine we_x [] [] rfl rfl ?_
    refine wx_done hok rfl ?_
    refine we_then ?_
    refine wc_keep [0] (S' := [_]) rfl ?_
    refine wc_seq ?_
    refine wc_region ?_
    refine wl_pure rfl rfl rfl (freshS_eq rfl) rfl ?_
    refine wl_pure rfl rfl rfl (freshS_eq rfl) rfl ?_
    refine wl_fieldAddr rfl rfl rfl (freshS_eq rfl) rfl rfl tF_50_1 ?_
    refine wl_loadH 0 1 rfl rfl rfl (freshS_eq rfl) rfl rfl rfl (cs := [_]) rfl tS_3 tA_3 rfl rfl ?_
    refine wl_pure rfl rfl rfl (freshS_eq rfl) rfl ?_
    obtain ⟨hg43, hm⟩ := gd_some hm
    refine wl_as (d := 43) (v' := .int .i64 (a5 + 1)) (S' := [_,_,_,_,_]) rfl rfl (i64_in hg43) ?_
    refine wl_pure rfl rfl rfl (freshS_eq rfl) rfl ?_
    refine wl_fieldAddr rfl rfl rfl (freshS_eq rfl) rfl rfl tF_50_1 ?_
    refine wl_store 0 1 rfl rfl rfl rfl rfl rfl rfl tS_3 rfl rfl rfl (all' := [_,_]) rfl (H' := [_,_]) rfl ?_
    refine wl_nil ?_
    refine we_then ?_
    refine wc_keep [0] (S' := [_]) rfl ?_
    refine wc_seq ?_
    refine wc_region ?_
    refine wl_pure rfl rfl rfl (freshS_eq rfl) rfl ?_
    refine wl_pure rfl rfl rfl (freshS_eq rfl) rfl ?_
    refine wl_fieldAddr rfl rfl rfl (freshS_eq rfl) rfl rfl tF_50_1 ?_
    refine wl_loadH 0 1 rfl rfl rfl (freshS_eq rfl) rfl rfl rfl (cs := [_]) rfl tS_3 tA_3 rfl rfl ?_
    refine wl_pure rfl rfl rfl (freshS_eq rfl) rfl ?_
    obtain ⟨hg50, hm⟩ := gd_some hm
    refine wl_as (d := 50) (v' := .int .i64 ((a5 + 1) - 1)) (S' := [_,_,_,_,_]) rfl rfl (i64_in hg50) ?_
    refine wl_pure rfl rfl rfl (freshS_eq rfl) rfl ?_
    refine wl_pure rfl rfl rfl (freshS_eq rfl) rfl ?_
    refine wl_nil ?_
    refine we_then ?_
    refine wc_keep [3, 2] (S' := [_,_]) rfl ?_
    refine wc_ret ?_
    have hE := (Option.some.inj hm).symm
    obtain ⟨hE0, hF1⟩ := Prod.mk.inj hE
    obtain ⟨hE1, hF2⟩ := Prod.mk.inj hF1
    obtain ⟨hE2, hE3⟩ := Prod.mk.inj hF2
    clear hE hF1 hF2
    replace hE0 := hE0.symm
    subst hE0
    replace hE1 := hE1.symm
    subst hE1
    replace hE2 := hE2.symm
    subst hE2
    replace hE3 := hE3.symm
    subst hE3
    refine ret_two (Hr := [_, _]) [0, 1] Try.results9 (res_tmp rfl) (res_tmp rfl) ⟨p35, c35, (l4 ++ ([(⟨a5, 0, (⟨0, 0, [], []⟩ : ReplyD)⟩ : SessD)])).length, rfl, rfl, rfl⟩ (fun _ _ hφ => ask [] rfl hφ) rfl rfl (.inl rfl)
set_option maxRecDepth 100000 in
set_option maxHeartbeats 4000000 in
theorem m_session_row_find_1_s (N : Nat) (a0 : Int) (a1 : Int) (a2 : Int) (a3 : Int) (qp4 : Option Addr) (qc5 : Nat) (l6 : List FactD) (qp7 : Option Addr) (qc8 : Nat) (l9 : List V) (qg10 : Nat) (a11 : Int)  (hm : m_session_row_find_1 N a0 a1 a2 a3 l6 l9 a11 = some ()) : Spec Try.prog 34 [.agg #[.int .i64 a0, .int .i64 a1, .int .i64 a2, .int .i64 a3, .slice qp4 l6.length qc5, .slice qp7 l9.length qc8], .pointer (some ⟨qg10, 0, none⟩)] [.sli 3 R_FactD qp4 qc5 l6, .sli 3 R_V qp7 qc8 l9] [.blk qg10 [.int .i64 a11] 3] (fun v Φr Hr => v = .bool (a0 == a11) ∧ Φr = [] ∧ Hr = [.blk qg10 [.int .i64 a11] 3]) := by
 unfold m_session_row_find_1 at hm
 refine spec_of Try.func34 rfl Try.ntmps34 rfl (S := [_,_]) rfl (fun C => ?_)
 refine wc_seq ?_
 refine wc_region ?_
 refine wl_box rfl rfl rfl (freshS_eq rfl) rfl rfl rfl (fun g2 => ?_)
 refine wl_pure rfl rfl rfl (freshS_eq rfl) rfl ?_
 refine wl_nil ?_
 refine we_then ?_
 refine wc_keep [2, 1] (S' := [_,_]) rfl ?_
 refine wc_seq ?_
 refine wc_region ?_
 refine wl_fieldAddr rfl rfl rfl (freshS_eq rfl) rfl rfl tF_62_0 ?_
 refine wl_loadH 0 0 rfl rfl rfl (freshS_eq rfl) rfl rfl rfl (cs := [_]) rfl tS_3 tA_3 rfl rfl ?_
 refine wl_loadH 1 0 rfl rfl rfl (freshS_eq rfl) rfl rfl rfl (cs := [_]) rfl tS_3 tA_3 rfl rfl ?_
 refine wl_pure rfl rfl rfl (freshS_eq rfl) rfl ?_
 refine wl_pure rfl rfl rfl (freshS_eq rfl) rfl ?_
 refine wl_nil ?_
 refine we_then ?_
 refine wc_keep [3] (S' := [_]) rfl ?_
 refine wc_ret ?_
 have hE := (Option.some.inj hm).symm
 refine ret_one (Hr := [_]) [1] Try.results34 (res_tmp rfl) ⟨rfl, rfl, rfl⟩ (fun _ _ hφ => ask [] rfl hφ) rfl rfl (.inl rfl)
set_option maxRecDepth 100000 in
set_option maxHeartbeats 4000000 in
theorem m_slices_IndexFunc_Session_s (N : Nat) (qp0 : Option Addr) (qn1 : Nat) (qc2 : Nat) (l3 : List SessD) (qg4 : Nat) (a5 : Int) (o0 : Int) (hm : m_slices_IndexFunc_Session N l3 a5 = some o0) : Spec Try.prog 33 [.slice qp0 qn1 qc2, .func (.func 34) #[] #[.pointer (some ⟨qg4, 0, none⟩)]] [] [.own 62 6 R_SessD (.slice qp0 qn1 qc2) l3, .blk qg4 [.int .i64 a5] 3] (fun v Φr Hr => v = .int .i64 o0 ∧ Φr = [] ∧ Hr = [.own 62 6 R_SessD (.slice qp0 qn1 qc2) l3, .blk qg4 [.int .i64 a5] 3]) := by
 unfold m_slices_IndexFunc_Session at hm
 refine spec_of Try.func33 rfl Try.ntmps33 rfl (S := [_,_]) rfl (fun C => ?_)
 refine wc_seq ?_
 refine wc_region ?_
 refine wl_pure rfl rfl rfl (freshS_eq rfl) rfl ?_
 refine wl_nil ?_
 refine we_then ?_
 refine wc_keep [0, 1] (S' := [_,_]) rfl ?_
 refine wc_seq ?_
 obtain ⟨bj_1, hm, hLj_1⟩ := bindS_some hm
 refine wc_cut (σ := Unit) (fun _ => bj_1 = .inl ()) (fun _ => []) (fun _ => []) (fun _ => [.own 62 6 R_SessD (.slice qp0 qn1 qc2) l3, .blk qg4 [.int .i64 a5] 3]) ?_ ?_
 ·
  refine wc_seq ?_
  refine wc_region ?_
  refine wl_pure rfl rfl rfl (freshS_eq rfl) rfl ?_
  refine wl_ownLen 0 rfl (fun hl7 _ => ?_)
  refine wl_len rfl rfl rfl (freshS_eq rfl) rfl rfl tE_38 ?_
  refine wl_as (d := 7) (v' := .int .i64 ((l3.length : Nat) : Int)) (S' := [_,_,_]) rfl rfl (len_is hl7) ?_
  refine wl_pure rfl rfl rfl (freshS_eq rfl) rfl ?_
  refine wl_nil ?_
  refine we_then ?_
  refine wc_keep [8, 7, 0, 1] (S' := [_,_,_,_]) rfl ?_
  refine wc_block ?_
  refine wc_loop (σ := Nat × Nat) (fun (nu1, u1_8) => iter (m_slices_IndexFunc_Session_L1 N l3 a5) nu1 u1_8 = some bj_1) (fun (nu1, u1_8) => nu1) (fun (nu1, u1_8) => [(8, .int .i64 ((u1_8 : Nat) : Int)), (7, .int .i64 ((l3.length : Nat) : Int)), (0, .slice qp0 qn1 qc2), (1, .func (.func 34) #[] #[.pointer (some ⟨qg4, 0, none⟩)])]) (fun (nu1, u1_8) => []) (fun (nu1, u1_8) => [.own 62 6 R_SessD (.slice qp0 qn1 qc2) l3, .blk qg4 [.int .i64 a5] 3]) (N, 0) hm [8, 7, 0, 1] rfl (fun _ _ hφ => ask [] rfl hφ) rfl (fun s_ hm => ?_)
  obtain ⟨nu1, u1_8⟩ := s_
  try dsimp only at hm ⊢
  obtain ⟨mu1, bu1, hnu1, hq, hLu1⟩ := iter_some hm
  clear hm
  subst hnu1
  replace hm := hq
  clear hq
  unfold m_slices_IndexFunc_Session_L1 at hm
  try dsimp only at hm
  refine wc_seq ?_
  refine wc_region ?_
  refine wl_pure rfl rfl rfl (freshS_eq rfl) rfl ?_
  refine wl_as (d := 9) (v' := .bool (decide (u1_8 < l3.length))) (S' := [_,_,_,_]) rfl rfl (natlt (a := u1_8) (b := l3.length)) ?_
  refine wl_nil ?_
  refine we_then ?_
  refine wc_seq ?_
  refine wc_cond rfl (fun hb9 => ?_) (fun hb9 => ?_)
  ·
   replace hm := iteT hm hb9
   refine wc_keep [8, 7, 0, 1] (S' := [_,_,_,_]) rfl ?_
   refine wc_skip ?_
   refine we_then ?_
   refine wc_seq ?_
   refine wc_block ?_
   refine wc_seq ?_
   refine wc_region ?_
   refine wl_pure rfl rfl rfl (freshS_eq rfl) rfl ?_
   refine wl_pure rfl rfl rfl (freshS_eq rfl) rfl ?_
   refine wl_nil ?_
   refine we_then ?_
   refine wc_keep [5, 8, 7, 0, 1] (S' := [_,_,_,_,_]) rfl ?_
   refine wc_seq ?_
   refine wc_region ?_
   refine wl_pure rfl rfl rfl (freshS_eq rfl) rfl ?_
   refine wl_pure rfl rfl rfl (freshS_eq rfl) rfl ?_
   refine wl_pure rfl rfl rfl (freshS_eq rfl) rfl ?_
   obtain ⟨x14, hx14, hm⟩ := bindO_some hm
   refine wl_indexH 0 u1_8 rfl rfl rfl (freshS_eq rfl) rfl rfl rfl rfl rfl (get_lt hx14) tE_38 tS_62 (fun g14 eg14 => ?_)
   subst eg14
   refine wl_loadRow R_SessD_opens 0 u1_8 0 rfl rfl rfl (freshS_eq rfl) rfl rfl rfl hx14 tS_62 tA_62 (v := fun r15 => .agg #[.int .i64 (x14.id), .int .i64 (x14.seq), .int .i64 (x14.r.err), .int .i64 (x14.r.num), .slice r15.1.1 x14.r.facts.length r15.1.2, .slice r15.2.1 x14.r.said.length r15.2.2]) (fun _ => rfl) (fun _ => rfl) (fun r15 _ => ?_)
   obtain ⟨_, hc16, hm⟩ := bindO_some hm
   try dsimp only at hm
   refine wl_callDyn [1] [0] rfl rfl rfl (freshS_eq rfl) rfl rfl rfl fn_34 rfl rfl (m_session_row_find_1_s N x14.id x14.seq x14.r.err x14.r.num r15.1.1 r15.1.2 x14.r.facts r15.2.1 r15.2.2 x14.r.said qg4 a5 hc16) (fun _ _ hφ => ask [0, 1] rfl hφ) rfl (H' := [_]) rfl ?_
   rintro _ _ _ ⟨rfl, rfl, rfl⟩
   refine wl_nil ?_
   refine we_then ?_
   refine wc_keep [16, 5, 8, 7, 0, 1] (S' := [_,_,_,_,_,_]) rfl ?_
   refine wc_cond rfl (fun hb16 => ?_) (fun hb16 => ?_)
   ·
    replace hm := iteT hm hb16
    refine wc_keep [5] (S' := [_]) rfl ?_
    refine wc_seq ?_
    refine wc_region ?_
    refine wl_pure rfl rfl rfl (freshS_eq rfl) rfl ?_
    refine wl_pure rfl rfl rfl (freshS_eq rfl) rfl ?_
    refine wl_nil ?_
    refine we_then ?_
    refine wc_keep [4] (S' := [_]) rfl ?_
    refine wc_ret ?_
    refine we_block_ret ?_
    refine we_then_ret ?_
    refine we_then_ret ?_
    refine we_block_ret ?_
    refine we_then_ret ?_
    have hE := (Option.some.inj hm).symm
    replace hE := link_inr hLu1 hE
    replace hE := link_inr hLj_1 hE
    replace hE := hE.symm
    subst hE
    refine ret_one (Hr := [_, _]) [1, 0] Try.results33 (res_tmp rfl) ⟨rfl, rfl, rfl⟩ (fun _ _ hφ => ask [] rfl hφ) rfl rfl (.inl rfl)
   ·
    replace hm := iteF hm hb16
    refine wc_keep [8, 7, 0, 1] (S' := [_,_,_,_]) rfl ?_
    refine wc_skip ?_
    refine we_block_normal ?_
    refine we_then ?_
    refine wc_region ?_
    refine wl_pure rfl rfl rfl (freshS_eq rfl) rfl ?_
    obtain ⟨hg18, hm⟩ := gd_some hm
    refine wl_as (d := 18) (v' := .int .i64 ((u1_8 + 1 : Nat) : Int)) (S' := [_,_,_,_]) rfl rfl (nat_add (a := u1_8) (b := 1) hg18) ?_
    refine wl_pure (S' := [_,_,_,_]) rfl rfl rfl rfl rfl ?_
    refine wl_nil ?_
    have hE := (Option.some.inj hm).symm
    replace hE := link_inl hLu1 hE
    refine we_pick [1, 0] rfl (H' := [_,_]) rfl ?_
    refine we_roundK (_, u1_8 + 1) (Nat.lt_succ_self _) hE [8, 7, 0, 1] rfl (fun _ _ hφ => ask [] rfl hφ) rfl
  ·
   replace hm := iteF hm hb9
   refine wc_keep [] (S' := []) rfl ?_
   refine wc_exit ?_
   refine we_then_exit ?_
   refine we_then_exit ?_
   refine we_block_hit ?_
   have hE := (Option.some.inj hm).symm
   replace hE := link_inr hLu1 hE
   refine we_join () hE [] rfl (fun _ _ hφ => ask [] rfl hφ) rfl
 ·
  rintro _ hE
  try dsimp only
  have hm := link_inl hLj_1 hE
  try dsimp only at hm
  refine wc_seq ?_
  refine wc_region ?_
  refine wl_pure rfl rfl rfl (freshS_eq rfl) rfl ?_
  refine wl_nil ?_
  refine we_then ?_
  refine wc_ret ?_
  have hE := (Option.some.inj hm).symm
  replace hE := hE.symm
  subst hE
  refine ret_one (Hr := [_, _]) [0, 1] Try.results33 (res_tmp rfl) ⟨rfl, rfl, rfl⟩ (fun _ _ hφ => ask [] rfl hφ) rfl rfl (.inl rfl)
set_option maxRecDepth 100000 in
set_option maxHeartbeats 4000000 in
theorem m_session_row_find_s (N : Nat) (qg0 : Nat) (qp1 : Option Addr) (qn2 : Nat) (qc3 : Nat) (l4 : List SessD) (a5 : Int) (a6 : Int) (o0 : Int) (hm : m_session_row_find N l4 a5 a6 = some o0) : Spec Try.prog 29 [.pointer (some ⟨qg0, 0, none⟩), .int .i64 a6] [] [.blk qg0 [.slice qp1 qn2 qc3, .int .i64 a5] 50, .own 62 6 R_SessD (.slice qp1 qn2 qc3) l4] (fun v Φr Hr => v = .int .i64 o0 ∧ Φr = [] ∧ Hr = [.blk qg0 [.slice qp1 qn2 qc3, .int .i64 a5] 50, .own 62 6 R_SessD (.slice qp1 qn2 qc3) l4]) := by
 unfold m_session_row_find at hm
 refine spec_of Try.func29 rfl Try.ntmps29 rfl (S := [_,_]) rfl (fun C => ?_)
 refine wc_seq ?_
 refine wc_region ?_
 refine wl_box rfl rfl rfl (freshS_eq rfl) rfl rfl rfl (fun g3 => ?_)
 refine wl_pure rfl rfl rfl (freshS_eq rfl) rfl ?_
 refine wl_nil ?_
 refine we_then ?_
 refine wc_keep [3, 0] (S' := [_,_]) rfl ?_
 refine wc_seq ?_
 refine wc_region ?_
 refine wl_pure rfl rfl rfl (freshS_eq rfl) rfl ?_
 refine wl_pure rfl rfl rfl (freshS_eq rfl) rfl ?_
 refine wl_fieldAddr rfl rfl rfl (freshS_eq rfl) rfl rfl tF_48_0 ?_
 refine wl_loadH 1 0 rfl rfl rfl (freshS_eq rfl) rfl rfl rfl (cs := [_]) rfl tS_38 tA_38 rfl rfl ?_
 refine wl_makeFunc rfl rfl rfl (freshS_eq rfl) rfl rfl ?_
 obtain ⟨v10, hc10, hm⟩ := bindO_some hm
 refine wl_call [2, 0] [1] rfl rfl rfl (freshS_eq rfl) rfl rfl fn_33 rfl (m_slices_IndexFunc_Session_s N qp1 qn2 qc3 l4 g3 a6 _ hc10) (fun _ _ hφ => ask [] rfl hφ) rfl (H' := [_]) rfl ?_
 rintro _ _ _ ⟨rfl, rfl, rfl⟩
 refine wl_pure rfl rfl rfl (freshS_eq rfl) rfl ?_
 refine wl_nil ?_
 refine we_then ?_
 refine wc_keep [4] (S' := [_]) rfl ?_
 refine wc_ret ?_
 have hE := (Option.some.inj hm).symm
 replace hE := hE.symm
 subst hE
 refine ret_one (Hr := [_, _]) [2, 0] Try.results29 (res_tmp rfl) ⟨rfl, rfl, rfl⟩ (fun _ _ hφ => ask [] rfl hφ) rfl rfl (.inl rfl)
set_option maxRecDepth 100000 in
set_option maxHeartbeats 4000000 in
theorem m_session_Table_at_s (N : Nat) (qg0 : Nat) (qp1 : Option Addr) (qn2 : Nat) (qc3 : Nat) (l4 : List SessD) (a5 : Int) (a6 : Int) (o0 : Int) (o1 : Nat) (hm : m_session_Table_at N l4 a5 a6 = some (o0, o1)) : Spec Try.prog 22 [.pointer (some ⟨qg0, 0, none⟩), .int .i64 a6] [] [.blk qg0 [.slice qp1 qn2 qc3, .int .i64 a5] 50, .own 62 6 R_SessD (.slice qp1 qn2 qc3) l4] (fun v Φr Hr => v = .tuple #[.int .i64 o0, .int .i64 ((o1 : Nat) : Int)] ∧ Φr = [] ∧ Hr = [.blk qg0 [.slice qp1 qn2 qc3, .int .i64 a5] 50, .own 62 6 R_SessD (.slice qp1 qn2 qc3) l4]) := by
 unfold m_session_Table_at at hm
 refine spec_of Try.func22 rfl Try.ntmps22 rfl (S := [_,_]) rfl (fun C => ?_)
 refine wc_seq ?_
 refine wc_region ?_
 refine wl_pure rfl rfl rfl (freshS_eq rfl) rfl ?_
 refine wl_pure rfl rfl rfl (freshS_eq rfl) rfl ?_
 refine wl_nil ?_
 refine we_then ?_
 refine wc_keep [0, 1] (S' := [_,_]) rfl ?_
 refine wc_seq ?_
 refine wc_seq ?_
 refine wc_region ?_
 refine wl_pure rfl rfl rfl (freshS_eq rfl) rfl ?_
 obtain ⟨_, hc8, hm⟩ := bindO_some hm
 try dsimp only at hm
 refine wl_call [0, 1] [] rfl rfl rfl (freshS_eq rfl) rfl rfl fn_20 rfl (m_session_Table_known_s N qg0 qp1 qn2 qc3 l4 a5 hc8) (fun _ _ hφ => ask [] rfl hφ) rfl (H' := []) rfl ?_
 rintro _ _ _ ⟨rfl, rfl, rfl⟩
 refine wl_pure rfl rfl rfl (freshS_eq rfl) rfl ?_
 refine wl_nil ?_
 refine we_then ?_
 refine wc_keep [9, 0, 1] (S' := [_,_,_]) rfl ?_
 refine wc_cond rfl (fun hb9 => ?_) (fun hb9 => ?_)
 ·
  replace hm := iteT hm hb9
  refine wc_keep [] (S' := []) rfl ?_
  refine wc_seq ?_
  refine wc_region ?_
  refine wl_pure rfl rfl rfl (freshS_eq rfl) rfl ?_
  refine wl_pure rfl rfl rfl (freshS_eq rfl) rfl ?_
  refine wl_nil ?_
  refine we_then ?_
  refine wc_ret ?_
  refine we_then_ret ?_
  have hE := (Option.some.inj hm).symm
  obtain ⟨hE0, hE1⟩ := Prod.mk.inj hE
  clear hE
  replace hE0 := hE0.symm
  subst hE0
  replace hE1 := hE1.symm
  subst hE1
  refine ret_two (Hr := [_, _]) [0, 1] Try.results22 (res_tmp rfl) (res_tmp rfl) ⟨rfl, rfl, rfl⟩ (fun _ _ hφ => ask [] rfl hφ) rfl rfl (.inl rfl)
 ·
  replace hm := iteF hm hb9
  refine wc_keep [0, 1] (S' := [_,_]) rfl ?_
  refine wc_skip ?_
  refine we_then ?_
  refine wc_seq ?_
  refine wc_region ?_
  refine wl_pure rfl rfl rfl (freshS_eq rfl) rfl ?_
  refine wl_pure rfl rfl rfl (freshS_eq rfl) rfl ?_
  refine wl_fieldAddr rfl rfl rfl (freshS_eq rfl) rfl rfl tF_50_0 ?_
  refine wl_pure rfl rfl rfl (freshS_eq rfl) rfl ?_
  obtain ⟨v14, hc14, hm⟩ := bindO_some hm
  refine wl_call [0, 1] [] rfl rfl rfl (freshS_eq rfl) rfl rfl fn_29 rfl (m_session_row_find_s N qg0 qp1 qn2 qc3 l4 a5 a6 _ hc14) (fun _ _ hφ => ask [] rfl hφ) rfl (H' := []) rfl ?_
  rintro _ _ _ ⟨rfl, rfl, rfl⟩
  refine wl_pure rfl rfl rfl (freshS_eq rfl) rfl ?_
  refine wl_nil ?_
  refine we_then ?_
  refine wc_keep [6] (S' := [_]) rfl ?_
  refine wc_seq ?_
  refine wc_seq ?_
  refine wc_region ?_
  refine wl_pure rfl rfl rfl (freshS_eq rfl) rfl ?_
  refine wl_pure rfl rfl rfl (freshS_eq rfl) rfl ?_
  refine wl_nil ?_
  refine we_then ?_
  refine wc_keep [16, 6] (S' := [_,_]) rfl ?_
  refine wc_cond rfl (fun hb16 => ?_) (fun hb16 => ?_)
  ·
   replace hm := iteT hm hb16
   refine wc_keep [] (S' := []) rfl ?_
   refine wc_seq ?_
   refine wc_region ?_
   refine wl_pure rfl rfl rfl (freshS_eq rfl) rfl ?_
   refine wl_pure rfl rfl rfl (freshS_eq rfl) rfl ?_
   refine wl_nil ?_
   refine we_then ?_
   refine wc_ret ?_
   refine we_then_ret ?_
   have hE := (Option.some.inj hm).symm
   obtain ⟨hE0, hE1⟩ := Prod.mk.inj hE
   clear hE
   replace hE0 := hE0.symm
   subst hE0
   replace hE1 := hE1.symm
   subst hE1
   refine ret_two (Hr := [_, _]) [0, 1] Try.results22 (res_tmp rfl) (res_tmp rfl) ⟨rfl, rfl, rfl⟩ (fun _ _ hφ => ask [] rfl hφ) rfl rfl (.inl rfl)
  ·
   replace hm := iteF hm hb16
   refine wc_keep [6] (S' := [_]) rfl ?_
   refine wc_skip ?_
   refine we_then ?_
   refine wc_seq ?_
   refine wc_region ?_
   refine wl_pure rfl rfl rfl (freshS_eq rfl) rfl ?_
   refine wl_pure rfl rfl rfl (freshS_eq rfl) rfl ?_
   refine wl_pure rfl rfl rfl (freshS_eq rfl) rfl ?_
   refine wl_nil ?_
   refine we_then ?_
   refine wc_keep [5, 4] (S' := [_,_]) rfl ?_
   refine wc_ret ?_
   have hE := (Option.some.inj hm).symm
   obtain ⟨hE0, hE1⟩ := Prod.mk.inj hE
   clear hE
   replace hE0 := hE0.symm
   subst hE0
   replace hE1 := hE1.symm
   subst hE1
   refine ret_two (Hr := [_, _]) [0, 1] Try.results22 (res_tmp rfl) (res_tmp rfl) ⟨rfl, rfl, rfl⟩ (fun _ _ hφ => ask [] rfl hφ) rfl rfl (.inl rfl)
set_option maxRecDepth 100000 in
set_option maxHeartbeats 4000000 in
theorem Clone30f_s (p : Option Addr) (c : Nat) (l : List V) (hb : l.length ≤ 4398046511104) : Spec Try.prog 30 [.slice p l.length c] [.sli 3 R_V p c l] [] (fun v Φr Hr => ∃ p' c', v = .slice p' l.length c' ∧ Φr = [] ∧ Hr = [.own 76 3 R_V v l]) := by
 refine spec_of Try.func30 rfl Try.ntmps30 rfl (S := [_]) rfl (fun C => ?_)
 refine wc_know (fun F w h => sli_nil (h _ (mem_at (k := 0) rfl))) (fun isnil => ?_)
 refine wc_seq ?_
 refine wc_region ?_
 refine wl_pure rfl rfl rfl (freshS_eq rfl) rfl ?_
 refine wl_nil ?_
 refine we_then ?_
 refine wc_seq ?_
 refine wc_seq ?_
 refine wc_region ?_
 refine wl_pure rfl rfl rfl (freshS_eq rfl) rfl ?_
 refine wl_eqlNil rfl rfl rfl (freshS_eq rfl) rfl rfl rfl tE_30 ?_
 refine wl_nil ?_
 refine we_then ?_
 refine wc_keep [4, 2, 0] (S' := [_,_,_]) rfl ?_
 refine wc_cond rfl (fun h4 => ?_) (fun h4 => ?_)
 ·
  replace h4 := isNone_true h4
  obtain rfl := isnil h4
  subst h4
  refine wc_rowNil 76 3 R_V ?_
  refine wc_seq ?_
  refine wc_region ?_
  refine wl_pure (S' := [_,_]) rfl rfl rfl rfl rfl ?_
  refine wl_nil ?_
  refine we_then ?_
  refine wc_ret ?_
  refine we_then_ret ?_
  refine ret_one (Hr := [.own 76 3 R_V (.slice none 0 0) []]) [0] Try.results30 (res_tmp rfl) ?_ (fun _ _ hφ => ask [] rfl hφ) rfl rfl (.inl rfl)
  exact ⟨none, 0, rfl, rfl, rfl⟩
 ·
  replace h4 := isNone_false h4
  refine wc_skip ?_
  refine we_then ?_
  refine wc_seq ?_
  refine wc_region ?_
  refine wl_buildSlice rfl rfl rfl (freshS_eq rfl) rfl tE_30 tS_76 tZ_76 rfl (zs := []) (by kernel_rfl) rfl (out := []) rfl (fun g5 => ?_)
  refine wl_pure rfl rfl rfl (freshS_eq rfl) rfl ?_
  refine wl_row (sz := 3) (m := 0) R_V [] 0 rfl (fun F w hφ => rfl) rfl (by decide) (H' := [_]) rfl ?_
  refine wl_append 0 0 rfl rfl rfl (freshS_eq rfl) rfl rfl rfl rfl rfl tE_30 tR_76 rfl rfl (by simp; omega) (by simp; omega) (H2 := fun p7 c7 => [.own 76 3 R_V (.slice p7 (l).length c7) l]) (fun _ _ => rfl) (fun p7 c7 => ?_)
  refine wl_pure (S' := [_,_,_,_,_]) rfl rfl rfl rfl rfl ?_
  refine wl_nil ?_
  refine we_then ?_
  refine wc_keep [2, 4, 0] (S' := [_,_,_]) rfl ?_
  refine wc_ret ?_
  refine ret_one (Hr := [.own 76 3 R_V (.slice p7 (l).length c7) l]) [0] Try.results30 (res_tmp rfl) ?_ (fun _ _ hφ => ask [] rfl hφ) rfl rfl (.inl rfl)
  exact ⟨_, _, rfl, rfl, rfl⟩

set_option maxRecDepth 100000 in
set_option maxHeartbeats 4000000 in
theorem Clone31f_s (p : Option Addr) (c : Nat) (l : List FactD) (hb : l.length ≤ 3518437208883) : Spec Try.prog 31 [.slice p l.length c] [.sli 3 R_FactD p c l] [] (fun v Φr Hr => ∃ p' c', v = .slice p' l.length c' ∧ Φr = [] ∧ Hr = [.own 70 3 R_FactD v l]) := by
 refine spec_of Try.func31 rfl Try.ntmps31 rfl (S := [_]) rfl (fun C => ?_)
 refine wc_know (fun F w h => sli_nil (h _ (mem_at (k := 0) rfl))) (fun isnil => ?_)
 refine wc_seq ?_
 refine wc_region ?_
 refine wl_pure rfl rfl rfl (freshS_eq rfl) rfl ?_
 refine wl_nil ?_
 refine we_then ?_
 refine wc_seq ?_
 refine wc_seq ?_
 refine wc_region ?_
 refine wl_pure rfl rfl rfl (freshS_eq rfl) rfl ?_
 refine wl_eqlNil rfl rfl rfl (freshS_eq rfl) rfl rfl rfl tE_29 ?_
 refine wl_nil ?_
 refine we_then ?_
 refine wc_keep [4, 2, 0] (S' := [_,_,_]) rfl ?_
 refine wc_cond rfl (fun h4 => ?_) (fun h4 => ?_)
 ·
  replace h4 := isNone_true h4
  obtain rfl := isnil h4
  subst h4
  refine wc_rowNil 70 3 R_FactD ?_
  refine wc_seq ?_
  refine wc_region ?_
  refine wl_pure (S' := [_,_]) rfl rfl rfl rfl rfl ?_
  refine wl_nil ?_
  refine we_then ?_
  refine wc_ret ?_
  refine we_then_ret ?_
  refine ret_one (Hr := [.own 70 3 R_FactD (.slice none 0 0) []]) [0] Try.results31 (res_tmp rfl) ?_ (fun _ _ hφ => ask [] rfl hφ) rfl rfl (.inl rfl)
  exact ⟨none, 0, rfl, rfl, rfl⟩
 ·
  replace h4 := isNone_false h4
  refine wc_skip ?_
  refine we_then ?_
  refine wc_seq ?_
  refine wc_region ?_
  refine wl_buildSlice rfl rfl rfl (freshS_eq rfl) rfl tE_29 tS_70 tZ_70 rfl (zs := []) (by kernel_rfl) rfl (out := []) rfl (fun g5 => ?_)
  refine wl_pure rfl rfl rfl (freshS_eq rfl) rfl ?_
  refine wl_row (sz := 3) (m := 0) R_FactD [] 0 rfl (fun F w hφ => rfl) rfl (by decide) (H' := [_]) rfl ?_
  refine wl_append 0 0 rfl rfl rfl (freshS_eq rfl) rfl rfl rfl rfl rfl tE_29 tR_70 rfl rfl (by simp; omega) (by simp; omega) (H2 := fun p7 c7 => [.own 70 3 R_FactD (.slice p7 (l).length c7) l]) (fun _ _ => rfl) (fun p7 c7 => ?_)
  refine wl_pure (S' := [_,_,_,_,_]) rfl rfl rfl rfl rfl ?_
  refine wl_nil ?_
  refine we_then ?_
  refine wc_keep [2, 4, 0] (S' := [_,_,_]) rfl ?_
  refine wc_ret ?_
  refine ret_one (Hr := [.own 70 3 R_FactD (.slice p7 (l).length c7) l]) [0] Try.results31 (res_tmp rfl) ?_ (fun _ _ hφ => ask [] rfl hφ) rfl rfl (.inl rfl)
  exact ⟨_, _, rfl, rfl, rfl⟩

set_option maxRecDepth 100000 in
set_option maxHeartbeats 4000000 in
theorem m_session_own_s (N : Nat) (a0 : Int) (a1 : Int) (qp2 : Option Addr) (qc3 : Nat) (l4 : List FactD) (qp5 : Option Addr) (qc6 : Nat) (l7 : List V) (o2 : List FactD) (hm : m_session_own N a0 a1 l4 l7 = some o2) : Spec Try.prog 24 [.agg #[.int .i64 a0, .int .i64 a1, .slice qp2 l4.length qc3, .slice qp5 l7.length qc6]] [.sli 3 R_FactD qp2 qc3 l4, .sli 3 R_V qp5 qc6 l7] [] (fun v Φr Hr => ∃ (o0 : Option Addr) (o1 : Nat) (o3 : Option Addr) (o4 : Nat), v = .agg #[.int .i64 a0, .int .i64 a1, .slice o0 l4.length o1, .slice o3 l7.length o4] ∧ Φr = [] ∧ Hr = [.own 70 3 R_FactD (.slice o0 l4.length o1) o2, .own 76 3 R_V (.slice o3 l7.length o4) l7]) := by
 unfold m_session_own at hm
 refine spec_of Try.func24 rfl Try.ntmps24 rfl (S := [_]) rfl (fun C => ?_)
 refine wc_seq ?_
 refine wc_region ?_
 refine wl_box rfl rfl rfl (freshS_eq rfl) rfl rfl rfl (fun g1 => ?_)
 refine wl_alloc rfl rfl rfl (freshS_eq rfl) rfl tZ_32 rfl (fun g2 => ?_)
 refine wl_nil ?_
 refine we_then ?_
 refine wc_keep [2, 1] (S' := [_,_]) rfl ?_
 refine wc_seq ?_
 refine wc_region ?_
 refine wl_fieldAddr rfl rfl rfl (freshS_eq rfl) rfl rfl tF_32_3 ?_
 refine wl_loadH 1 3 rfl rfl rfl (freshS_eq rfl) rfl rfl rfl (cs := [_]) rfl tS_30 tA_30 rfl rfl ?_
 obtain ⟨hg6, hm⟩ := gd_some hm
 refine wl_call [] [0, 1] rfl rfl rfl (freshS_eq rfl) rfl rfl fn_30 rfl (Clone30f_s qp5 qc6 l7 hg6) (fun _ _ hφ => ask [1] rfl hφ) rfl (H' := [_,_]) rfl ?_
 rintro _ _ _ ⟨p6, c6, rfl, rfl, rfl⟩
 refine wl_fieldAddr rfl rfl rfl (freshS_eq rfl) rfl rfl tF_32_3 ?_
 refine wl_store 2 3 rfl rfl rfl rfl rfl rfl rfl tS_30 rfl rfl rfl (all' := [_,_,_,_]) rfl (H' := [_,_,_]) rfl ?_
 refine wl_nil ?_
 refine we_then ?_
 refine wc_keep [2, 1] (S' := [_,_]) rfl ?_
 refine wc_seq ?_
 refine wc_region ?_
 refine wl_fieldAddr rfl rfl rfl (freshS_eq rfl) rfl rfl tF_32_2 ?_
 refine wl_loadH 2 2 rfl rfl rfl (freshS_eq rfl) rfl rfl rfl (cs := [_]) rfl tS_29 tA_29 rfl rfl ?_
 obtain ⟨hg10, hm⟩ := gd_some hm
 refine wl_call [] [0, 1, 2] rfl rfl rfl (freshS_eq rfl) rfl rfl fn_31 rfl (Clone31f_s qp2 qc3 l4 hg10) (fun _ _ hφ => ask [0] rfl hφ) rfl (H' := [_,_,_]) rfl ?_
 rintro _ _ _ ⟨p10, c10, rfl, rfl, rfl⟩
 refine wl_fieldAddr rfl rfl rfl (freshS_eq rfl) rfl rfl tF_32_2 ?_
 refine wl_store 3 2 rfl rfl rfl rfl rfl rfl rfl tS_29 rfl rfl rfl (all' := [_,_,_,_]) rfl (H' := [_,_,_,_]) rfl ?_
 refine wl_nil ?_
 refine we_then ?_
 refine wc_keep [2, 1] (S' := [_,_]) rfl ?_
 refine wc_seq ?_
 obtain ⟨bj_1, hm, hLj_1⟩ := bindO_some hm
 refine wc_cut (σ := List FactD) (fun j_1_1_f2_l => bj_1 = j_1_1_f2_l) (fun j_1_1_f2_l => [(2, .pointer (some ⟨g2, 0, none⟩)), (1, .pointer (some ⟨g1, 0, none⟩))]) (fun j_1_1_f2_l => []) (fun j_1_1_f2_l => [.blk g2 [.int .i64 0, .int .i64 0, .slice none 0 0, .slice none 0 0] 32, .blk g1 [.int .i64 a0, .int .i64 a1, .slice p10 l4.length c10, .slice p6 l7.length c6] 32, .own 70 3 R_FactD (.slice p10 l4.length c10) j_1_1_f2_l, .own 76 3 R_V (.slice p6 l7.length c6) l7]) ?_ ?_
 ·
  refine wc_seq ?_
  refine wc_region ?_
  refine wl_fieldAddr rfl rfl rfl (freshS_eq rfl) rfl rfl tF_32_2 ?_
  refine wl_loadH 3 2 rfl rfl rfl (freshS_eq rfl) rfl rfl rfl (cs := [_]) rfl tS_29 tA_29 rfl rfl ?_
  refine wl_len rfl rfl rfl (freshS_eq rfl) rfl rfl tE_29 ?_
  refine wl_pure rfl rfl rfl (freshS_eq rfl) rfl ?_
  refine wl_nil ?_
  refine we_then ?_
  refine wc_keep [15, 14, 2, 1] (S' := [_,_,_,_]) rfl ?_
  refine wc_block ?_
  refine wc_pick [2, 3, 0, 1] rfl (H' := [_,_,_,_]) rfl ?_
  refine wc_loop (σ := Nat × Nat × (List FactD)) (fun (nu1, u1_15, u1_1_f2_l) => iter (m_session_own_L1 N l4) nu1 (u1_15, u1_1_f2_l) = some bj_1) (fun (nu1, u1_15, u1_1_f2_l) => nu1) (fun (nu1, u1_15, u1_1_f2_l) => [(15, .int .i64 ((u1_15 : Nat) : Int)), (14, .int .i64 ((l4.length : Nat) : Int)), (2, .pointer (some ⟨g2, 0, none⟩)), (1, .pointer (some ⟨g1, 0, none⟩))]) (fun (nu1, u1_15, u1_1_f2_l) => []) (fun (nu1, u1_15, u1_1_f2_l) => [.blk g2 [.int .i64 0, .int .i64 0, .slice none 0 0, .slice none 0 0] 32, .blk g1 [.int .i64 a0, .int .i64 a1, .slice p10 l4.length c10, .slice p6 l7.length c6] 32, .own 70 3 R_FactD (.slice p10 l4.length c10) u1_1_f2_l, .own 76 3 R_V (.slice p6 l7.length c6) l7]) (N, 0, l4) hm [15, 14, 2, 1] rfl (fun _ _ hφ => ask [] rfl hφ) rfl (fun s_ hm => ?_)
  obtain ⟨nu1, u1_15, u1_1_f2_l⟩ := s_
  try dsimp only at hm ⊢
  obtain ⟨mu1, bu1, hnu1, hq, hLu1⟩ := iter_some hm
  clear hm
  subst hnu1
  replace hm := hq
  clear hq
  unfold m_session_own_L1 at hm
  try dsimp only at hm
  refine wc_seq ?_
  refine wc_region ?_
  refine wl_pure rfl rfl rfl (freshS_eq rfl) rfl ?_
  refine wl_as (d := 16) (v' := .bool (decide (u1_15 < l4.length))) (S' := [_,_,_,_]) rfl rfl (natlt (a := u1_15) (b := l4.length)) ?_
  refine wl_nil ?_
  refine we_then ?_
  refine wc_seq ?_
  refine wc_cond rfl (fun hb16 => ?_) (fun hb16 => ?_)
  ·
   replace hm := iteT hm hb16
   refine wc_keep [15, 14, 2, 1] (S' := [_,_,_,_]) rfl ?_
   refine wc_skip ?_
   refine we_then ?_
   refine wc_seq ?_
   refine wc_block ?_
   refine wc_seq ?_
   refine wc_region ?_
   refine wl_pure rfl rfl rfl (freshS_eq rfl) rfl ?_
   refine wl_pure rfl rfl rfl (freshS_eq rfl) rfl ?_
   refine wl_nil ?_
   refine we_then ?_
   refine wc_keep [3, 15, 14, 2, 1] (S' := [_,_,_,_,_]) rfl ?_
   obtain ⟨x24, hx24, hm⟩ := bindO_some hm
   obtain ⟨hg27, hm⟩ := gd_some hm
   obtain ⟨x28, hx28, hm⟩ := bindO_some hm
   refine wc_draw [0, 1, 2, 3, 4, 5, 6, 7, 10, 11] rfl rfl (fun hok => ?_)
   refine wx_fieldAddr hok 0 rfl rfl rfl (freshS_eq rfl) rfl rfl rfl tF_32_2 ?_
   refine wx_loadH hok 1 1 2 rfl rfl rfl (freshS_eq rfl) rfl rfl rfl rfl (cs := [_]) rfl tS_29 tA_29 rfl rfl ?_
   refine wx_pure hok 2 rfl rfl rfl (freshS_eq rfl) rfl rfl ?_
   refine wx_fieldAddr hok 3 rfl rfl rfl (freshS_eq rfl) rfl rfl rfl tF_32_2 ?_
   refine wx_loadH hok 4 1 2 rfl rfl rfl (freshS_eq rfl) rfl rfl rfl rfl (cs := [_]) rfl tS_29 tA_29 rfl rfl ?_
   refine wx_pure hok 5 rfl rfl rfl (freshS_eq rfl) rfl rfl ?_
   refine wx_indexH hok 6 2 u1_15 rfl rfl rfl (freshS_eq rfl) rfl rfl rfl rfl rfl rfl (get_lt hx24) tE_29 tS_70 (fun g24 eg24 => ?_)
   subst eg24
   refine wx_fieldAddr hok 7 rfl rfl rfl (freshS_eq rfl) rfl rfl rfl tF_70_2 ?_
   refine wx_step1 hok 8 rfl rfl rfl rfl ?_
   refine wl_loadRow R_FactD_opens 2 u1_15 2 rfl rfl rfl (freshS_eq rfl) rfl rfl rfl hx24 tS_30 tA_30 (v := fun r26 => .slice r26.1 x24.args.length r26.2) (fun _ => rfl) (fun _ => rfl) (fun r26 _ => ?_)
   refine wl_nil ?_
   refine we_x [] [1, 1] rfl rfl ?_
   refine wx_step1 hok 9 rfl rfl rfl rfl ?_
   refine wl_call [] [0, 1, 2, 3] rfl rfl rfl (freshS_eq rfl) rfl rfl fn_30 rfl (Clone30f_s r26.1 r26.2 x24.args hg27) (fun _ _ hφ => ask [0] rfl hφ) rfl (H' := [_,_,_,_]) rfl ?_
   rintro _ _ _ ⟨p27, c27, rfl, rfl, rfl⟩
   refine wl_nil ?_
   refine we_x [0] [2, 2] rfl rfl ?_
   refine wx_indexK hok 10 3 u1_15 rfl rfl rfl (freshS_eq rfl) rfl rfl rfl rfl rfl rfl (get_lt hx28) tE_29 tS_70 ?_
   refine wx_fieldAddr hok 11 rfl rfl rfl (freshS_eq rfl) rfl rfl rfl tF_70_2 ?_
   refine wx_step1 hok 12 rfl rfl rfl rfl ?_
   refine wl_freeze 0 rfl (H' := [_,_,_,_]) rfl ?_
   refine wl_fact (.sli 3 R_V p27 c27 x24.args) (fun F w hφ => own_sli (hφ _ (mem_at (k := 0) rfl))) ?_
   refine wl_storePart (u := (⟨x28.id, x28.ty, x24.args⟩ : FactD)) 2 u1_15 2 rfl rfl rfl rfl rfl hx28 rfl rfl tS_30 rfl rfl (fun F w hφ ds hd => by obtain ⟨rx28, rfl, hf⟩ := hd; exact ⟨(p27, c27), rfl, (ask_cons (hφ _ (mem_at (k := 0) rfl)) ask_nil)⟩) rfl (H' := [.blk g2 [.int .i64 0, .int .i64 0, .slice none 0 0, .slice none 0 0] 32, .blk g1 [.int .i64 a0, .int .i64 a1, .slice (some ⟨g24, 0, none⟩) l4.length c10, .slice p6 l7.length c6] 32, .own 70 3 R_FactD (.slice (some ⟨g24, 0, none⟩) l4.length c10) (u1_1_f2_l.set u1_15 (⟨x28.id, x28.ty, x24.args⟩ : FactD)), .own 76 3 R_V (.slice p6 l7.length c6) l7]) rfl ?_
   refine wl_nil ?_
   refine we_x [2] [] rfl rfl ?_
   refine wx_done hok rfl ?_
   refine we_block_normal ?_
   refine we_then ?_
   refine wc_keep [15, 14, 2, 1] (S' := [_,_,_,_]) rfl ?_
   refine wc_region ?_
   refine wl_pure rfl rfl rfl (freshS_eq rfl) rfl ?_
   obtain ⟨hg30, hm⟩ := gd_some hm
   refine wl_as (d := 30) (v' := .int .i64 ((u1_15 + 1 : Nat) : Int)) (S' := [_,_,_,_]) rfl rfl (nat_add (a := u1_15) (b := 1) hg30) ?_
   refine wl_pure (S' := [_,_,_,_]) rfl rfl rfl rfl rfl ?_
   refine wl_nil ?_
   have hE := (Option.some.inj hm).symm
   replace hE := link_inl hLu1 hE
   refine we_roundK (_, u1_15 + 1, u1_1_f2_l.set u1_15 (⟨x28.id, x28.ty, x24.args⟩ : FactD)) (Nat.lt_succ_self _) hE [15, 14, 2, 1] rfl (fun _ _ hφ => ask [] rfl hφ) rfl
  ·
   replace hm := iteF hm hb16
   refine wc_keep [2, 1] (S' := [_,_]) rfl ?_
   refine wc_exit ?_
   refine we_then_exit ?_
   refine we_then_exit ?_
   refine we_block_hit ?_
   have hE := (Option.some.inj hm).symm
   replace hE := link_inr hLu1 hE
   refine we_join u1_1_f2_l hE [2, 1] rfl (fun _ _ hφ => ask [] rfl hφ) rfl
 ·
  rintro j_1_1_f2_l hE
  try dsimp only
  have hm := hLj_1
  rw [hE] at hm
  refine wc_seq ?_
  refine wc_region ?_
  refine wl_loadH 1 0 rfl rfl rfl (freshS_eq rfl) rfl rfl rfl (cs := [_,_,_,_]) rfl tS_32 tA_32 rfl rfl ?_
  refine wl_store 0 0 rfl rfl rfl rfl rfl rfl rfl tS_32 rfl rfl rfl (all' := [_,_,_,_]) rfl (H' := [_,_,_,_]) rfl ?_
  refine wl_nil ?_
  refine we_then ?_
  refine wc_keep [2] (S' := [_]) rfl ?_
  refine wc_ret ?_
  have hE := (Option.some.inj hm).symm
  replace hE := hE.symm
  subst hE
  refine ret_one (Hr := [_, _]) [2, 3] Try.results24 (res_cell 0 rfl rfl tS_32 tA_32 rfl rfl) ⟨p10, c10, p6, c6, rfl, rfl, rfl⟩ (fun _ _ hφ => ask [] rfl hφ) rfl rfl (.inl rfl)
set_option maxRecDepth 100000 in
set_option maxHeartbeats 4000000 in
theorem m_session_Table_Ask_s (N : Nat) (qg0 : Nat) (qp1 : Option Addr) (qn2 : Nat) (qc3 : Nat) (l4 : List SessD) (a5 : Int) (a6 : Int) (a7 : Int) (o0 : Int) (o1 : Int) (o4 : List FactD) (o8 : List V) (o10 : Bool) (o11 : Nat) (hm : m_session_Table_Ask N l4 a5 a6 a7 = some (o0, o1, o4, o8, o10, o11)) : Spec Try.prog 12 [.pointer (some ⟨qg0, 0, none⟩), .int .i64 a6, .int .i64 a7] [] [.blk qg0 [.slice qp1 qn2 qc3, .int .i64 a5] 50, .own 62 6 R_SessD (.slice qp1 qn2 qc3) l4] (fun v Φr Hr => ∃ (o2 : Option Addr) (o3 : Nat) (o5 : Nat) (o6 : Option Addr) (o7 : Nat) (o9 : Nat), v = .tuple #[.agg #[.int .i64 o0, .int .i64 o1, .slice o2 o5 o3, .slice o6 o9 o7], .bool o10, .int .i64 ((o11 : Nat) : Int)] ∧ Φr = [] ∧ Hr = [.own 70 3 R_FactD (.slice o2 o5 o3) o4, .own 76 3 R_V (.slice o6 o9 o7) o8, .blk qg0 [.slice qp1 qn2 qc3, .int .i64 a5] 50, .own 62 6 R_SessD (.slice qp1 qn2 qc3) l4]) := by
 unfold m_session_Table_Ask at hm
 refine spec_of Try.func12 rfl Try.ntmps12 rfl (S := [_,_,_]) rfl (fun C => ?_)
 refine wc_seq ?_
 refine wc_region ?_
 refine wl_alloc rfl rfl rfl (freshS_eq rfl) rfl tZ_32 rfl (fun g6 => ?_)
 refine wl_pure rfl rfl rfl (freshS_eq rfl) rfl ?_
 refine wl_pure rfl rfl rfl (freshS_eq rfl) rfl ?_
 refine wl_nil ?_
 refine we_then ?_
 refine wc_keep [6, 0, 1, 2] (S' := [_,_,_,_]) rfl ?_
 refine wc_seq ?_
 refine wc_region ?_
 refine wl_pure rfl rfl rfl (freshS_eq rfl) rfl ?_
 refine wl_pure rfl rfl rfl (freshS_eq rfl) rfl ?_
 obtain ⟨⟨v14_0, v14_1⟩, hc14, hm⟩ := bindO_some hm
 try dsimp only at hm
 refine wl_call [1, 2] [0] rfl rfl rfl (freshS_eq rfl) rfl rfl fn_22 rfl (m_session_Table_at_s N qg0 qp1 qn2 qc3 l4 a5 a6 _ _ hc14) (fun _ _ hφ => ask [] rfl hφ) rfl (H' := [_]) rfl ?_
 rintro _ _ _ ⟨rfl, rfl, rfl⟩
 refine wl_pure rfl rfl rfl (freshS_eq rfl) rfl ?_
 refine wl_pure rfl rfl rfl (freshS_eq rfl) rfl ?_
 refine wl_pure rfl rfl rfl (freshS_eq rfl) rfl ?_
 refine wl_pure rfl rfl rfl (freshS_eq rfl) rfl ?_
 refine wl_pure rfl rfl rfl (freshS_eq rfl) rfl ?_
 refine wl_nil ?_
 refine we_then ?_
 refine wc_keep [8, 9, 6, 0, 2] (S' := [_,_,_,_,_]) rfl ?_
 refine wc_seq ?_
 refine wc_seq ?_
 refine wc_region ?_
 refine wl_pure rfl rfl rfl (freshS_eq rfl) rfl ?_
 refine wl_pure rfl rfl rfl (freshS_eq rfl) rfl ?_
 refine wl_as (d := 18) (v' := .bool (v14_1 != 0)) (S' := [_,_,_,_,_,_]) rfl rfl (natne (a := v14_1) (b := 0)) ?_
 refine wl_nil ?_
 refine we_then ?_
 refine wc_keep [18, 8, 9, 6, 0, 2] (S' := [_,_,_,_,_,_]) rfl ?_
 refine wc_cond rfl (fun hb18 => ?_) (fun hb18 => ?_)
 ·
  replace hm := iteT hm hb18
  refine wc_keep [8, 6] (S' := [_,_]) rfl ?_
  refine wc_seq ?_
  refine wc_region ?_
  refine wl_loadH 2 0 rfl rfl rfl (freshS_eq rfl) rfl rfl rfl (cs := [_,_,_,_]) rfl tS_32 tA_32 rfl rfl ?_
  refine wl_pure rfl rfl rfl (freshS_eq rfl) rfl ?_
  refine wl_store 2 0 rfl rfl rfl rfl rfl rfl rfl tS_32 rfl rfl rfl (all' := [_,_,_,_]) rfl (H' := [_,_,_]) rfl ?_
  refine wl_pure rfl rfl rfl (freshS_eq rfl) rfl ?_
  refine wl_pure (S' := [_,_,_,_]) rfl rfl rfl rfl rfl ?_
  refine wl_nil ?_
  refine we_then ?_
  refine wc_keep [8, 7, 6] (S' := [_,_,_]) rfl ?_
  refine wc_ret ?_
  refine we_then_ret ?_
  have hE := (Option.some.inj hm).symm
  obtain ⟨hE0, hF1⟩ := Prod.mk.inj hE
  obtain ⟨hE1, hF2⟩ := Prod.mk.inj hF1
  obtain ⟨hE2, hF3⟩ := Prod.mk.inj hF2
  obtain ⟨hE3, hF4⟩ := Prod.mk.inj hF3
  obtain ⟨hE4, hE5⟩ := Prod.mk.inj hF4
  clear hE hF1 hF2 hF3 hF4
  replace hE0 := hE0.symm
  subst hE0
  replace hE1 := hE1.symm
  subst hE1
  replace hE2 := hE2.symm
  subst hE2
  replace hE3 := hE3.symm
  subst hE3
  replace hE4 := hE4.symm
  subst hE4
  replace hE5 := hE5.symm
  subst hE5
  refine we_rowNil 70 3 R_FactD ?_
  refine we_rowNil 76 3 R_V ?_
  refine ret_three (Hr := [_, _, _, _]) [1, 0, 2, 3] Try.results12 (res_cell 4 rfl rfl tS_32 tA_32 rfl rfl) (res_tmp rfl) (res_tmp rfl) ⟨none, 0, 0, none, 0, 0, rfl, rfl, rfl⟩ (fun _ _ hφ => ask [] rfl hφ) rfl rfl (.inl rfl)
 ·
  replace hm := iteF hm hb18
  refine wc_keep [9, 6, 0, 2] (S' := [_,_,_,_]) rfl ?_
  refine wc_skip ?_
  refine we_then ?_
  refine wc_seq ?_
  refine wc_seq ?_
  refine wc_region ?_
  refine wl_pure rfl rfl rfl (freshS_eq rfl) rfl ?_
  refine wl_pure rfl rfl rfl (freshS_eq rfl) rfl ?_
  refine wl_fieldAddr rfl rfl rfl (freshS_eq rfl) rfl rfl tF_50_0 ?_
  refine wl_fieldAddr rfl rfl rfl (freshS_eq rfl) rfl rfl tF_48_0 ?_
  refine wl_loadH 0 0 rfl rfl rfl (freshS_eq rfl) rfl rfl rfl (cs := [_]) rfl tS_38 tA_38 rfl rfl ?_
  refine wl_pure rfl rfl rfl (freshS_eq rfl) rfl ?_
  obtain ⟨hn27, hm⟩ := gd_some hm
  obtain ⟨x27, hx27, hm⟩ := bindO_some hm
  refine wl_indexH 1 v14_0.toNat rfl rfl rfl (freshS_eq rfl) rfl rfl rfl rfl (toNat_eq hn27) (get_lt hx27) tE_38 tS_62 (fun g27 eg27 => ?_)
  subst eg27
  refine wl_loadRow R_SessD_opens 1 v14_0.toNat 0 rfl rfl rfl (freshS_eq rfl) rfl rfl rfl hx27 tS_62 tA_62 (v := fun r28 => .agg #[.int .i64 (x27.id), .int .i64 (x27.seq), .int .i64 (x27.r.err), .int .i64 (x27.r.num), .slice r28.1.1 x27.r.facts.length r28.1.2, .slice r28.2.1 x27.r.said.length r28.2.2]) (fun _ => rfl) (fun _ => rfl) (fun r28 _ => ?_)
  refine wl_alloc rfl rfl rfl (freshS_eq rfl) rfl tZ_62 rfl (fun g10 => ?_)
  refine wl_store 0 0 rfl rfl rfl rfl rfl rfl rfl tS_62 rfl rfl rfl (all' := [_,_,_,_,_,_]) rfl (H' := [_,_,_,_]) rfl ?_
  refine wl_nil ?_
  refine we_then ?_
  refine wc_keep [10, 6, 2] (S' := [_,_,_]) rfl ?_
  refine wc_block ?_
  refine wc_seq ?_
  obtain ⟨bj_1, hm, hLj_1⟩ := bindO_some hm
  refine wc_cut (σ := Bool) (fun j_1_29 => bj_1 = j_1_29) (fun j_1_29 => [(10, .pointer (some ⟨g10, 0, none⟩)), (6, .pointer (some ⟨g6, 0, none⟩)), (2, .int .i64 a7), (29, .bool j_1_29)]) (fun j_1_29 => [.sli 3 R_FactD r28.1.1 r28.1.2 x27.r.facts, .sli 3 R_V r28.2.1 r28.2.2 x27.r.said]) (fun j_1_29 => [.blk g10 [.int .i64 (x27.id), .int .i64 (x27.seq), .int .i64 (x27.r.err), .int .i64 (x27.r.num), .slice r28.1.1 x27.r.facts.length r28.1.2, .slice r28.2.1 x27.r.said.length r28.2.2] 62, .blk g6 [.int .i64 0, .int .i64 0, .slice none 0 0, .slice none 0 0] 32, .blk qg0 [.slice (some ⟨g27, 0, none⟩) qn2 qc3, .int .i64 a5] 50, .own 62 6 R_SessD (.slice (some ⟨g27, 0, none⟩) qn2 qc3) l4]) ?_ ?_
  ·
   refine wc_region ?_
   refine wl_pure rfl rfl rfl (freshS_eq rfl) rfl ?_
   refine wl_pure rfl rfl rfl (freshS_eq rfl) rfl ?_
   refine wl_pure rfl rfl rfl (freshS_eq rfl) rfl ?_
   refine wl_split (d := 32) (S' := [_,_,_,_,_]) rfl rfl (fun hs32 => ?_) (fun hs32 => ?_)
   ·
    replace hm := iteT hm hs32
    refine wl_off rfl rfl rfl (freshS_eq rfl) ?_
    refine wl_off rfl rfl rfl (freshS_eq rfl) ?_
    refine wl_off rfl rfl rfl (freshS_eq rfl) ?_
    refine wl_off rfl rfl rfl (freshS_eq rfl) ?_
    refine wl_pure rfl rfl rfl (freshS_eq rfl) rfl ?_
    refine wl_pure rfl rfl rfl (freshS_eq rfl) rfl ?_
    refine wl_nil ?_
    have hE := (Option.some.inj hm).symm
    refine we_pick [0, 3, 1, 2] rfl (H' := [_,_,_,_]) rfl ?_
    refine we_join true hE [10, 6, 2, 29] rfl (fun _ _ hφ => ask [0, 1] rfl hφ) rfl
   ·
    replace hm := iteF hm hs32
    refine wl_pure rfl rfl rfl (freshS_eq rfl) rfl ?_
    refine wl_fieldAddr rfl rfl rfl (freshS_eq rfl) rfl rfl tF_62_1 ?_
    refine wl_loadH 0 1 rfl rfl rfl (freshS_eq rfl) rfl rfl rfl (cs := [_]) rfl tS_3 tA_3 rfl rfl ?_
    refine wl_pure rfl rfl rfl (freshS_eq rfl) rfl ?_
    refine wl_pure rfl rfl rfl (freshS_eq rfl) rfl ?_
    refine wl_pure rfl rfl rfl (freshS_eq rfl) rfl ?_
    refine wl_nil ?_
    have hE := (Option.some.inj hm).symm
    refine we_pick [0, 3, 1, 2] rfl (H' := [_,_,_,_]) rfl ?_
    refine we_join (decide (a7 < x27.seq)) hE [10, 6, 2, 29] rfl (fun _ _ hφ => ask [0, 1] rfl hφ) rfl
  ·
   rintro j_1_29 hE
   try dsimp only
   have hm := hLj_1
   rw [hE] at hm
   refine wc_cond rfl (fun hb29 => ?_) (fun hb29 => ?_)
   ·
    replace hm := iteT hm hb29
    refine wc_keep [6] (S' := [_]) rfl ?_
    refine wc_seq ?_
    refine wc_region ?_
    refine wl_loadH 1 0 rfl rfl rfl (freshS_eq rfl) rfl rfl rfl (cs := [_,_,_,_]) rfl tS_32 tA_32 rfl rfl ?_
    refine wl_store 1 0 rfl rfl rfl rfl rfl rfl rfl tS_32 rfl rfl rfl (all' := [_,_,_,_]) rfl (H' := [_,_,_,_]) rfl ?_
    refine wl_pure rfl rfl rfl (freshS_eq rfl) rfl ?_
    refine wl_pure rfl rfl rfl (freshS_eq rfl) rfl ?_
    refine wl_nil ?_
    refine we_then ?_
    refine wc_keep [8, 7, 6] (S' := [_,_,_]) rfl ?_
    refine wc_ret ?_
    refine we_block_ret ?_
    refine we_then_ret ?_
    have hE := (Option.some.inj hm).symm
    obtain ⟨hE0, hF1⟩ := Prod.mk.inj hE
    obtain ⟨hE1, hF2⟩ := Prod.mk.inj hF1
    obtain ⟨hE2, hF3⟩ := Prod.mk.inj hF2
    obtain ⟨hE3, hF4⟩ := Prod.mk.inj hF3
    obtain ⟨hE4, hE5⟩ := Prod.mk.inj hF4
    clear hE hF1 hF2 hF3 hF4
    replace hE0 := hE0.symm
    subst hE0
    replace hE1 := hE1.symm
    subst hE1
    replace hE2 := hE2.symm
    subst hE2
    replace hE3 := hE3.symm
    subst hE3
    replace hE4 := hE4.symm
    subst hE4
    replace hE5 := hE5.symm
    subst hE5
    refine we_rowNil 70 3 R_FactD ?_
    refine we_rowNil 76 3 R_V ?_
    refine ret_three (Hr := [_, _, _, _]) [1, 0, 4, 5] Try.results12 (res_cell 3 rfl rfl tS_32 tA_32 rfl rfl) (res_tmp rfl) (res_tmp rfl) ⟨none, 0, 0, none, 0, 0, rfl, rfl, rfl⟩ (fun _ _ hφ => ask [] rfl hφ) rfl rfl (.inl rfl)
   ·
    replace hm := iteF hm hb29
    refine wc_keep [10, 6, 2] (S' := [_,_,_]) rfl ?_
    refine wc_seq ?_
    refine wc_region ?_
    refine wl_pure rfl rfl rfl (freshS_eq rfl) rfl ?_
    refine wl_fieldAddr rfl rfl rfl (freshS_eq rfl) rfl rfl tF_62_1 ?_
    refine wl_loadH 0 1 rfl rfl rfl (freshS_eq rfl) rfl rfl rfl (cs := [_]) rfl tS_3 tA_3 rfl rfl ?_
    refine wl_pure rfl rfl rfl (freshS_eq rfl) rfl ?_
    refine wl_pure rfl rfl rfl (freshS_eq rfl) rfl ?_
    refine wl_nil ?_
    refine we_then ?_
    refine wc_keep [39, 10, 6] (S' := [_,_,_]) rfl ?_
    refine wc_cond rfl (fun hb39 => ?_) (fun hb39 => ?_)
    ·
     replace hm := iteT hm hb39
     refine wc_keep [10, 6] (S' := [_,_]) rfl ?_
     refine wc_seq ?_
     refine wc_region ?_
     refine wl_fieldAddr rfl rfl rfl (freshS_eq rfl) rfl rfl tF_62_2 ?_
     refine wl_loadH 0 2 rfl rfl rfl (freshS_eq rfl) rfl rfl rfl (cs := [_,_,_,_]) rfl tS_32 tA_32 rfl rfl ?_
     obtain ⟨v46, hc46, hm⟩ := bindO_some hm
     refine wl_call [] [0, 1, 2, 3] rfl rfl rfl (freshS_eq rfl) rfl rfl fn_24 rfl (m_session_own_s N x27.r.err x27.r.num r28.1.1 r28.1.2 x27.r.facts r28.2.1 r28.2.2 x27.r.said _ hc46) (fun _ _ hφ => ask [0, 1] rfl hφ) rfl (H' := [_,_,_,_]) rfl ?_
     rintro _ _ _ ⟨p46_0, c46_1, p46_2, c46_3, rfl, rfl, rfl⟩
     refine wl_store 3 0 rfl rfl rfl rfl rfl rfl rfl tS_32 rfl rfl rfl (all' := [_,_,_,_]) rfl (H' := [_,_,_,_,_,_]) rfl ?_
     refine wl_pure rfl rfl rfl (freshS_eq rfl) rfl ?_
     refine wl_pure rfl rfl rfl (freshS_eq rfl) rfl ?_
     refine wl_nil ?_
     refine we_then ?_
     refine wc_keep [8, 7, 6] (S' := [_,_,_]) rfl ?_
     refine wc_ret ?_
     refine we_block_ret ?_
     refine we_then_ret ?_
     have hE := (Option.some.inj hm).symm
     obtain ⟨hE0, hF1⟩ := Prod.mk.inj hE
     obtain ⟨hE1, hF2⟩ := Prod.mk.inj hF1
     obtain ⟨hE2, hF3⟩ := Prod.mk.inj hF2
     obtain ⟨hE3, hF4⟩ := Prod.mk.inj hF3
     obtain ⟨hE4, hE5⟩ := Prod.mk.inj hF4
     clear hE hF1 hF2 hF3 hF4
     replace hE0 := hE0.symm
     subst hE0
     replace hE1 := hE1.symm
     subst hE1
     replace hE2 := hE2.symm
     subst hE2
     replace hE3 := hE3.symm
     subst hE3
     replace hE4 := hE4.symm
     subst hE4
     replace hE5 := hE5.symm
     subst hE5
     refine ret_three (Hr := [_, _, _, _]) [0, 1, 4, 5] Try.results12 (res_cell 3 rfl rfl tS_32 tA_32 rfl rfl) (res_tmp rfl) (res_tmp rfl) ⟨p46_0, c46_1, x27.r.facts.length, p46_2, c46_3, x27.r.said.length, rfl, rfl, rfl⟩ (fun _ _ hφ => ask [] rfl hφ) rfl rfl (.inl rfl)
    ·
     replace hm := iteF hm hb39
     refine wc_keep [6] (S' := [_]) rfl ?_
     refine wc_skip ?_
     refine we_block_normal ?_
     refine we_then ?_
     refine wc_seq ?_
     refine wc_region ?_
     refine wl_loadH 1 0 rfl rfl rfl (freshS_eq rfl) rfl rfl rfl (cs := [_,_,_,_]) rfl tS_32 tA_32 rfl rfl ?_
     refine wl_store 1 0 rfl rfl rfl rfl rfl rfl rfl tS_32 rfl rfl rfl (all' := [_,_,_,_]) rfl (H' := [_,_,_,_]) rfl ?_
     refine wl_pure rfl rfl rfl (freshS_eq rfl) rfl ?_
     refine wl_pure rfl rfl rfl (freshS_eq rfl) rfl ?_
     refine wl_nil ?_
     refine we_then ?_
     refine wc_keep [8, 7, 6] (S' := [_,_,_]) rfl ?_
     refine wc_ret ?_
     have hE := (Option.some.inj hm).symm
     obtain ⟨hE0, hF1⟩ := Prod.mk.inj hE
     obtain ⟨hE1, hF2⟩ := Prod.mk.inj hF1
     obtain ⟨hE2, hF3⟩ := Prod.mk.inj hF2
     obtain ⟨hE3, hF4⟩ := Prod.mk.inj hF3
     obtain ⟨hE4, hE5⟩ := Prod.mk.inj hF4
     clear hE hF1 hF2 hF3 hF4
     replace hE0 := hE0.symm
     subst hE0
     replace hE1 := hE1.symm
     subst hE1
     replace hE2 := hE2.symm
     subst hE2
     replace hE3 := hE3.symm
     subst hE3
     replace hE4 := hE4.symm
     subst hE4
     replace hE5 := hE5.symm
     subst hE5
     refine we_rowNil 70 3 R_FactD ?_
     refine we_rowNil 76 3 R_V ?_
     refine ret_three (Hr := [_, _, _, _]) [1, 0, 4, 5] Try.results12 (res_cell 3 rfl rfl tS_32 tA_32 rfl rfl) (res_tmp rfl) (res_tmp rfl) ⟨none, 0, 0, none, 0, 0, rfl, rfl, rfl⟩ (fun _ _ hφ => ask [] rfl hφ) rfl rfl (.inl rfl)
set_option maxRecDepth 100000 in
set_option maxHeartbeats 4000000 in
theorem m_session_Table_Done_s (N : Nat) (qg0 : Nat) (qp1 : Option Addr) (qn2 : Nat) (qc3 : Nat) (l4 : List SessD) (a5 : Int) (a6 : Int) (a7 : Int) (a8 : Int) (a9 : Int) (qp10 : Option Addr) (qc11 : Nat) (l12 : List FactD) (qp13 : Option Addr) (qc14 : Nat) (l15 : List V) (o0 : Nat) (o1 : List SessD) (hm : m_session_Table_Done N l4 a5 a6 a7 a8 a9 l12 l15 = some (o0, o1)) : Spec Try.prog 13 [.pointer (some ⟨qg0, 0, none⟩), .int .i64 a6, .int .i64 a7, .agg #[.int .i64 a8, .int .i64 a9, .slice qp10 l12.length qc11, .slice qp13 l15.length qc14]] [.sli 3 R_FactD qp10 qc11 l12, .sli 3 R_V qp13 qc14 l15] [.blk qg0 [.slice qp1 qn2 qc3, .int .i64 a5] 50, .own 62 6 R_SessD (.slice qp1 qn2 qc3) l4] (fun v Φr Hr => v = .int .i64 ((o0 : Nat) : Int) ∧ Φr = [] ∧ Hr = [.blk qg0 [.slice qp1 qn2 qc3, .int .i64 a5] 50, .own 62 6 R_SessD (.slice qp1 qn2 qc3) o1]) := by
 unfold m_session_Table_Done at hm
 refine spec_of Try.func13 rfl Try.ntmps13 rfl (S := [_,_,_,_]) rfl (fun C => ?_)
 refine wc_seq ?_
 refine wc_region ?_
 refine wl_box rfl rfl rfl (freshS_eq rfl) rfl rfl rfl (fun g7 => ?_)
 refine wl_pure rfl rfl rfl (freshS_eq rfl) rfl ?_
 refine wl_nil ?_
 refine we_then ?_
 refine wc_keep [7, 0, 1, 2] (S' := [_,_,_,_]) rfl ?_
 refine wc_seq ?_
 refine wc_region ?_
 refine wl_pure rfl rfl rfl (freshS_eq rfl) rfl ?_
 refine wl_pure rfl rfl rfl (freshS_eq rfl) rfl ?_
 obtain ⟨⟨v14_0, v14_1⟩, hc14, hm⟩ := bindO_some hm
 try dsimp only at hm
 refine wl_call [1, 2] [0] rfl rfl rfl (freshS_eq rfl) rfl rfl fn_22 rfl (m_session_Table_at_s N qg0 qp1 qn2 qc3 l4 a5 a6 _ _ hc14) (fun _ _ hφ => ask [] rfl hφ) rfl (H' := [_]) rfl ?_
 rintro _ _ _ ⟨rfl, rfl, rfl⟩
 refine wl_pure rfl rfl rfl (freshS_eq rfl) rfl ?_
 refine wl_pure rfl rfl rfl (freshS_eq rfl) rfl ?_
 refine wl_pure rfl rfl rfl (freshS_eq rfl) rfl ?_
 refine wl_pure rfl rfl rfl (freshS_eq rfl) rfl ?_
 refine wl_pure rfl rfl rfl (freshS_eq rfl) rfl ?_
 refine wl_nil ?_
 refine we_then ?_
 refine wc_keep [10, 9, 7, 0, 2] (S' := [_,_,_,_,_]) rfl ?_
 refine wc_seq ?_
 refine wc_block ?_
 refine wc_seq ?_
 refine wc_region ?_
 refine wl_pure rfl rfl rfl (freshS_eq rfl) rfl ?_
 refine wl_pure rfl rfl rfl (freshS_eq rfl) rfl ?_
 refine wl_as (d := 19) (v' := .bool (v14_1 != 0)) (S' := [_,_,_,_,_,_]) rfl rfl (natne (a := v14_1) (b := 0)) ?_
 refine wl_pure rfl rfl rfl (freshS_eq rfl) rfl ?_
 refine wl_nil ?_
 refine we_then ?_
 refine wc_keep [17, 10, 9, 7, 0, 2] (S' := [_,_,_,_,_,_]) rfl ?_
 refine wc_cond rfl (fun hb17 => ?_) (fun hb17 => ?_)
 ·
  replace hm := iteT hm hb17
  refine wc_keep [10] (S' := [_]) rfl ?_
  refine wc_seq ?_
  refine wc_region ?_
  refine wl_pure rfl rfl rfl (freshS_eq rfl) rfl ?_
  refine wl_pure rfl rfl rfl (freshS_eq rfl) rfl ?_
  refine wl_nil ?_
  refine we_then ?_
  refine wc_keep [8] (S' := [_]) rfl ?_
  refine wc_ret ?_
  refine we_block_ret ?_
  refine we_then_ret ?_
  have hE := (Option.some.inj hm).symm
  obtain ⟨hE0, hE1⟩ := Prod.mk.inj hE
  clear hE
  replace hE0 := hE0.symm
  subst hE0
  replace hE1 := hE1.symm
  subst hE1
  refine ret_one (Hr := [_, _]) [0, 1] Try.results13 (res_tmp rfl) ⟨rfl, rfl, rfl⟩ (fun _ _ hφ => ask [] rfl hφ) rfl rfl (.inl rfl)
 ·
  replace hm := iteF hm hb17
  refine wc_keep [9, 7, 0, 2] (S' := [_,_,_,_]) rfl ?_
  refine wc_seq ?_
  obtain ⟨bj_1, hm, hLj_1⟩ := bindO_some hm
  refine wc_cut (σ := Bool) (fun j_1_21 => bj_1 = j_1_21) (fun j_1_21 => [(9, .int .i64 v14_0), (7, .pointer (some ⟨g7, 0, none⟩)), (0, .pointer (some ⟨qg0, 0, none⟩)), (2, .int .i64 a7), (21, .bool j_1_21)]) (fun j_1_21 => [.sli 3 R_FactD qp10 qc11 l12, .sli 3 R_V qp13 qc14 l15]) (fun j_1_21 => [.blk g7 [.int .i64 a8, .int .i64 a9, .slice qp10 l12.length qc11, .slice qp13 l15.length qc14] 32, .blk qg0 [.slice qp1 qn2 qc3, .int .i64 a5] 50, .own 62 6 R_SessD (.slice qp1 qn2 qc3) l4]) ?_ ?_
  ·
   refine wc_region ?_
   refine wl_pure rfl rfl rfl (freshS_eq rfl) rfl ?_
   refine wl_pure rfl rfl rfl (freshS_eq rfl) rfl ?_
   refine wl_pure rfl rfl rfl (freshS_eq rfl) rfl ?_
   refine wl_split (d := 24) (S' := [_,_,_,_,_,_]) rfl rfl (fun hs24 => ?_) (fun hs24 => ?_)
   ·
    replace hm := iteT hm hs24
    refine wl_off rfl rfl rfl (freshS_eq rfl) ?_
    refine wl_off rfl rfl rfl (freshS_eq rfl) ?_
    refine wl_off rfl rfl rfl (freshS_eq rfl) ?_
    refine wl_off rfl rfl rfl (freshS_eq rfl) ?_
    refine wl_off rfl rfl rfl (freshS_eq rfl) ?_
    refine wl_off rfl rfl rfl (freshS_eq rfl) ?_
    refine wl_off rfl rfl rfl (freshS_eq rfl) ?_
    refine wl_off rfl rfl rfl (freshS_eq rfl) ?_
    refine wl_off rfl rfl rfl (freshS_eq rfl) ?_
    refine wl_off rfl rfl rfl (freshS_eq rfl) ?_
    refine wl_off rfl rfl rfl (freshS_eq rfl) ?_
    refine wl_pure rfl rfl rfl (freshS_eq rfl) rfl ?_
    refine wl_pure rfl rfl rfl (freshS_eq rfl) rfl ?_
    refine wl_nil ?_
    have hE := (Option.some.inj hm).symm
    refine we_pick [2, 0, 1] rfl (H' := [_,_,_]) rfl ?_
    refine we_join true hE [9, 7, 0, 2, 21] rfl (fun _ _ hφ => ask [0, 1] rfl hφ) rfl
   ·
    replace hm := iteF hm hs24
    refine wl_pure rfl rfl rfl (freshS_eq rfl) rfl ?_
    refine wl_pure rfl rfl rfl (freshS_eq rfl) rfl ?_
    refine wl_pure rfl rfl rfl (freshS_eq rfl) rfl ?_
    refine wl_fieldAddr rfl rfl rfl (freshS_eq rfl) rfl rfl tF_50_0 ?_
    refine wl_fieldAddr rfl rfl rfl (freshS_eq rfl) rfl rfl tF_48_0 ?_
    refine wl_loadH 0 0 rfl rfl rfl (freshS_eq rfl) rfl rfl rfl (cs := [_]) rfl tS_38 tA_38 rfl rfl ?_
    refine wl_pure rfl rfl rfl (freshS_eq rfl) rfl ?_
    obtain ⟨hn32, hm⟩ := gd_some hm
    obtain ⟨x32, hx32, hm⟩ := bindO_some hm
    refine wl_indexH 1 v14_0.toNat rfl rfl rfl (freshS_eq rfl) rfl rfl rfl rfl (toNat_eq hn32) (get_lt hx32) tE_38 tS_62 (fun g32 eg32 => ?_)
    subst eg32
    refine wl_fieldAddr rfl rfl rfl (freshS_eq rfl) rfl rfl tF_62_1 ?_
    refine wl_loadRow R_SessD_opens 1 v14_0.toNat 1 rfl rfl rfl (freshS_eq rfl) rfl rfl rfl hx32 tS_3 tA_3 (v := fun r34 => .int .i64 (x32.seq)) (fun _ => rfl) (fun _ => rfl) (fun r34 _ => ?_)
    refine wl_pure rfl rfl rfl (freshS_eq rfl) rfl ?_
    refine wl_pure rfl rfl rfl (freshS_eq rfl) rfl ?_
    refine wl_pure rfl rfl rfl (freshS_eq rfl) rfl ?_
    refine wl_nil ?_
    have hE := (Option.some.inj hm).symm
    refine we_pick [2, 0, 1] rfl (H' := [_,_,_]) rfl ?_
    refine we_join (decide (a7 ≤ x32.seq)) hE [9, 7, 0, 2, 21] rfl (fun _ _ hφ => ask [2, 3] rfl hφ) rfl
  ·
   rintro j_1_21 hE
   try dsimp only
   have hm := hLj_1
   rw [hE] at hm
   refine wc_cond rfl (fun hb21 => ?_) (fun hb21 => ?_)
   ·
    replace hm := iteT hm hb21
    refine wc_keep [] (S' := []) rfl ?_
    refine wc_seq ?_
    refine wc_region ?_
    refine wl_pure rfl rfl rfl (freshS_eq rfl) rfl ?_
    refine wl_nil ?_
    refine we_then ?_
    refine wc_ret ?_
    refine we_block_ret ?_
    refine we_then_ret ?_
    have hE := (Option.some.inj hm).symm
    obtain ⟨hE0, hE1⟩ := Prod.mk.inj hE
    clear hE
    replace hE0 := hE0.symm
    subst hE0
    replace hE1 := hE1.symm
    subst hE1
    refine ret_one (Hr := [_, _]) [1, 2] Try.results13 (res_tmp rfl) ⟨rfl, rfl, rfl⟩ (fun _ _ hφ => ask [] rfl hφ) rfl rfl (.inl rfl)
   ·
    replace hm := iteF hm hb21
    refine wc_keep [9, 7, 0, 2] (S' := [_,_,_,_]) rfl ?_
    refine wc_skip ?_
    refine we_block_normal ?_
    refine we_then ?_
    refine wc_seq ?_
    obtain ⟨v51, hc51, hm⟩ := bindO_some hm
    obtain ⟨hn52, hm⟩ := gd_some hm
    obtain ⟨x52, hx52, hm⟩ := bindO_some hm
    obtain ⟨hn54, hm⟩ := gd_some hm
    obtain ⟨x54, hx54, hm⟩ := bindO_some hm
    refine wc_draw [0, 1, 2, 3, 4, 5, 6, 7, 8, 9, 10, 11, 12, 13, 15, 16, 18, 19] rfl rfl (fun hok => ?_)
    refine wx_pure hok 0 rfl rfl rfl (freshS_eq rfl) rfl rfl ?_
    refine wx_pure hok 1 rfl rfl rfl (freshS_eq rfl) rfl rfl ?_
    refine wx_fieldAddr hok 2 rfl rfl rfl (freshS_eq rfl) rfl rfl rfl tF_50_0 ?_
    refine wx_fieldAddr hok 3 rfl rfl rfl (freshS_eq rfl) rfl rfl rfl tF_48_0 ?_
    refine wx_loadH hok 4 1 0 rfl rfl rfl (freshS_eq rfl) rfl rfl rfl rfl (cs := [_]) rfl tS_38 tA_38 rfl rfl ?_
    refine wx_pure hok 5 rfl rfl rfl (freshS_eq rfl) rfl rfl ?_
    refine wx_pure hok 6 rfl rfl rfl (freshS_eq rfl) rfl rfl ?_
    refine wx_pure hok 7 rfl rfl rfl (freshS_eq rfl) rfl rfl ?_
    refine wx_fieldAddr hok 8 rfl rfl rfl (freshS_eq rfl) rfl rfl rfl tF_50_0 ?_
    refine wx_fieldAddr hok 9 rfl rfl rfl (freshS_eq rfl) rfl rfl rfl tF_48_0 ?_
    refine wx_loadH hok 10 1 0 rfl rfl rfl (freshS_eq rfl) rfl rfl rfl rfl (cs := [_]) rfl tS_38 tA_38 rfl rfl ?_
    refine wx_pure hok 11 rfl rfl rfl (freshS_eq rfl) rfl rfl ?_
    refine wx_pure hok 12 rfl rfl rfl (freshS_eq rfl) rfl rfl ?_
    refine wx_loadH hok 13 0 0 rfl rfl rfl (freshS_eq rfl) rfl rfl rfl rfl (cs := [_,_,_,_]) rfl tS_32 tA_32 rfl rfl ?_
    refine wx_step1 hok 14 rfl rfl rfl rfl ?_
    refine wl_call [] [0, 1, 2] rfl rfl rfl (freshS_eq rfl) rfl rfl fn_24 rfl (m_session_own_s N a8 a9 qp10 qc11 l12 qp13 qc14 l15 _ hc51) (fun _ _ hφ => ask [0, 1] rfl hφ) rfl (H' := [_,_,_]) rfl ?_
    rintro _ _ _ ⟨p51_0, c51_1, p51_2, c51_3, rfl, rfl, rfl⟩
    refine wl_nil ?_
    refine we_x [0, 1] [3, 3] rfl rfl ?_
    refine wx_indexH hok 15 4 v14_0.toNat rfl rfl rfl (freshS_eq rfl) rfl rfl rfl rfl rfl (toNat_eq hn52) (get_lt hx52) tE_38 tS_62 (fun g52 eg52 => ?_)
    subst eg52
    refine wx_fieldAddr hok 16 rfl rfl rfl (freshS_eq rfl) rfl rfl rfl tF_62_1 ?_
    refine wx_step1 hok 17 rfl rfl rfl rfl ?_
    refine wl_storePart (u := (⟨x52.id, a7, x52.r⟩ : SessD)) 4 v14_0.toNat 1 rfl rfl rfl rfl rfl hx52 rfl rfl tS_3 rfl rfl (fun F w hφ ds hd => by obtain ⟨rx52, rfl, hf⟩ := hd; exact ⟨((rx52.1.1, rx52.1.2), (rx52.2.1, rx52.2.2)), rfl, (ask_cons (hf _ (mem_at (k := 0) rfl)) (ask_cons (hf _ (mem_at (k := 1) rfl)) ask_nil))⟩) rfl (H' := [.own 70 3 R_FactD (.slice p51_0 l12.length c51_1) v51, .own 76 3 R_V (.slice p51_2 l15.length c51_3) l15, .blk g7 [.int .i64 a8, .int .i64 a9, .slice qp10 l12.length qc11, .slice qp13 l15.length qc14] 32, .blk qg0 [.slice (some ⟨g52, 0, none⟩) qn2 qc3, .int .i64 a5] 50, .own 62 6 R_SessD (.slice (some ⟨g52, 0, none⟩) qn2 qc3) (l4.set v14_0.toNat (⟨x52.id, a7, x52.r⟩ : SessD))]) rfl ?_
    refine wl_nil ?_
    refine we_x [0, 1] [2] rfl rfl ?_
    refine wx_indexK hok 18 4 v14_0.toNat rfl rfl rfl (freshS_eq rfl) rfl rfl rfl rfl rfl (toNat_eq hn54) (get_lt hx54) tE_38 tS_62 ?_
    refine wx_fieldAddr hok 19 rfl rfl rfl (freshS_eq rfl) rfl rfl rfl tF_62_2 ?_
    refine wx_step1 hok 20 rfl rfl rfl rfl ?_
    refine wl_ownLen 0 rfl (fun hz4 _ => ?_)
    refine wl_at 4 (v' := .agg #[.int .i64 a8, .int .i64 a9, .slice p51_0 v51.length c51_1, .slice p51_2 l15.length c51_3]) rfl (by rw [hz4]) ?_
    refine wl_hAs 0 (φ' := .own 70 3 R_FactD (.slice p51_0 v51.length c51_1) v51) rfl (by rw [hz4]) (H' := [_,_,_,_,_]) rfl ?_
    refine wl_freeze 0 rfl (H' := [_,_,_,_]) rfl ?_
    refine wl_fact (.sli 3 R_FactD p51_0 c51_1 v51) (fun F w hφ => own_sli (hφ _ (mem_at (k := 0) rfl))) ?_
    refine wl_freeze 0 rfl (H' := [_,_,_]) rfl ?_
    refine wl_fact (.sli 3 R_V p51_2 c51_3 l15) (fun F w hφ => own_sli (hφ _ (mem_at (k := 0) rfl))) ?_
    refine wl_storePart (u := (⟨x54.id, x54.seq, (⟨a8, a9, v51, l15⟩ : ReplyD)⟩ : SessD)) 2 v14_0.toNat 2 rfl rfl rfl rfl rfl hx54 rfl rfl tS_32 rfl rfl (fun F w hφ ds hd => by obtain ⟨rx54, rfl, hf⟩ := hd; exact ⟨((p51_0, c51_1), (p51_2, c51_3)), rfl, (ask_cons (hφ _ (mem_at (k := 2) rfl)) (ask_cons (hφ _ (mem_at (k := 0) rfl)) ask_nil))⟩) rfl (H' := [.blk g7 [.int .i64 a8, .int .i64 a9, .slice qp10 l12.length qc11, .slice qp13 l15.length qc14] 32, .blk qg0 [.slice (some ⟨g52, 0, none⟩) qn2 qc3, .int .i64 a5] 50, .own 62 6 R_SessD (.slice (some ⟨g52, 0, none⟩) qn2 qc3) ((l4.set v14_0.toNat (⟨x52.id, a7, x52.r⟩ : SessD)).set v14_0.toNat (⟨x54.id, x54.seq, (⟨a8, a9, v51, l15⟩ : ReplyD)⟩ : SessD))]) rfl ?_
    refine wl_nil ?_
    refine we_x [4, 5] [] rfl rfl ?_
    refine wx_done hok rfl ?_
    refine we_then ?_
    refine wc_keep [] (S' := []) rfl ?_
    refine wc_seq ?_
    refine wc_region ?_
    refine wl_pure rfl rfl rfl (freshS_eq rfl) rfl ?_
    refine wl_nil ?_
    refine we_then ?_
    refine wc_ret ?_
    have hE := (Option.some.inj hm).symm
    obtain ⟨hE0, hE1⟩ := Prod.mk.inj hE
    clear hE
    replace hE0 := hE0.symm
    subst hE0
    replace hE1 := hE1.symm
    subst hE1
    refine ret_one (Hr := [_, _]) [1, 2] Try.results13 (res_tmp rfl) ⟨rfl, rfl, rfl⟩ (fun _ _ hφ => ask [] rfl hφ) rfl rfl (.inl rfl)
set_option maxRecDepth 100000 in
set_option maxHeartbeats 4000000 in
theorem Delete23_n (p : Option Addr) (c k : Nat) (L : List SessD) (hk : k < L.length) : Spec Try.prog 23 [.slice p L.length c, .int .i64 ((k : Nat) : Int), .int .i64 ((k + 1 : Nat) : Int)] [] [.own 62 6 R_SessD (.slice p L.length c) L] (fun v Φr Hr => ∃ p' c', v = .slice p' (L.take k ++ L.drop (k + 1)).length c' ∧ Φr = [] ∧ Hr = [.own 62 6 R_SessD v (L.take k ++ L.drop (k + 1))]) := by
 refine spec_of Try.func23 rfl Try.ntmps23 rfl (S := [_,_,_]) rfl (fun C => ?_)
 refine wc_ownSome 0 rfl (by omega) (fun g0 e0 hc1 hc2 => ?_)
 subst e0
 refine wc_seq ?_
 refine wc_region ?_
 refine wl_pure rfl rfl rfl (freshS_eq rfl) rfl ?_
 refine wl_nil ?_
 refine we_then ?_
 refine wc_seq ?_
 refine wc_region ?_
 refine wl_pure rfl rfl rfl (freshS_eq rfl) rfl ?_
 refine wl_pure rfl rfl rfl (freshS_eq rfl) rfl ?_
 refine wl_pure rfl rfl rfl (freshS_eq rfl) rfl ?_
 refine wl_pure rfl rfl rfl (freshS_eq rfl) rfl ?_
 refine wl_len rfl rfl rfl (freshS_eq rfl) rfl rfl tE_38 ?_
 refine wl_slice3 rfl rfl rfl (freshS_eq rfl) rfl rfl rfl rfl rfl rfl rfl rfl tE_38 tS_62 (by omega) (by omega) (by omega) (fun a13 => ?_)
 refine wl_nil ?_
 refine we_then ?_
 refine wc_keep [6, 0, 1, 2] (S' := [_,_,_,_]) rfl ?_
 refine wc_seq ?_
 refine wc_seq ?_
 refine wc_region ?_
 refine wl_pure rfl rfl rfl (freshS_eq rfl) rfl ?_
 refine wl_pure rfl rfl rfl (freshS_eq rfl) rfl ?_
 refine wl_pure rfl rfl rfl (freshS_eq rfl) rfl ?_
 refine wl_nil ?_
 refine we_then ?_
 refine wc_keep [16, 6, 0, 1, 2] (S' := [_,_,_,_,_]) rfl ?_
 refine wc_cond rfl (fun h16 => ?_) (fun h16 => ?_)
 ·
  replace h16 := eq_of_beq h16
  exfalso
  omega
 ·
  replace h16 := ne_of_beq_false h16
  refine wc_skip ?_
  refine we_then ?_
  refine wc_seq ?_
  refine wc_region ?_
  refine wl_pure rfl rfl rfl (freshS_eq rfl) rfl ?_
  refine wl_len rfl rfl rfl (freshS_eq rfl) rfl rfl tE_38 ?_
  refine wl_pure rfl rfl rfl (freshS_eq rfl) rfl ?_
  refine wl_nil ?_
  refine we_then ?_
  refine wc_keep [7, 16, 6, 0, 1, 2] (S' := [_,_,_,_,_,_]) rfl ?_
  refine wc_seq ?_
  refine wc_cut (σ := Addr) (fun a25 => k + 1 < c → a25 = ⟨g0, (k + 1) * 6, none⟩) (fun a25 => [(0, .slice (some ⟨g0, 0, none⟩) ((L.take k ++ L.drop (k + 1)).length) c), (7, .int .i64 ((L.length : Nat) : Int)), (16, .bool (((k : Nat) : Int) == ((k + 1 : Nat) : Int))), (6, .slice none 0 0), (1, .int .i64 ((k : Nat) : Int)), (2, .int .i64 ((k + 1 : Nat) : Int))]) (fun a25 => []) (fun a25 => [.own 62 6 R_SessD (.slice (some ⟨g0, 0, none⟩) ((L.take k ++ L.drop (k + 1)).length) c) (L.take k ++ L.drop (k + 1))]) ?_ ?_
  ·
   refine wc_draw [0, 1, 3, 4] rfl rfl (fun hok => ?_)
   refine wx_pure hok 0 rfl rfl rfl (freshS_eq rfl) rfl rfl ?_
   refine wx_pure hok 1 rfl rfl rfl (freshS_eq rfl) rfl rfl ?_
   refine wx_pure hok 3 rfl rfl rfl (freshS_eq rfl) rfl rfl ?_
   refine wx_pure hok 4 rfl rfl rfl (freshS_eq rfl) rfl rfl ?_
   refine wx_step2 hok 2 5 rfl rfl rfl rfl rfl rfl ?_ ?_
   ·
    refine wl_sliceTo rfl rfl rfl (freshS_eq rfl) rfl rfl rfl rfl tE_38 tS_62 (by omega) (fun _ h => by cases h; rfl) ?_
    refine wl_nil ?_
    refine we_x [] [] rfl rfl ?_
    refine wx_step1 hok 5 rfl rfl rfl rfl ?_
    refine wl_sliceFrom rfl rfl rfl (freshS_eq rfl) rfl rfl rfl rfl tE_38 tS_62 (by omega) (by omega) (fun a25 ha25 => ?_)
    refine wl_nil ?_
    refine we_x [] [] rfl rfl ?_
    refine wx_step1 hok 6 rfl rfl rfl rfl ?_
    refine wl_appendSelf 0 k (k + 1) rfl rfl rfl (freshS_eq rfl) rfl rfl rfl rfl (by omega) (by omega) (fun h => ha25 (by omega)) tE_38 tR_62 (H2 := [.own 62 6 R_SessD (.slice (some ⟨g0, 0, none⟩) ((L.take k ++ L.drop (k + 1)).length) c) (L.take k ++ L.drop (k + 1))]) rfl (fun _ => ?_)
    refine wl_nil ?_
    refine we_x [] [] rfl rfl ?_
    refine wx_step1 hok 7 rfl rfl rfl rfl ?_
    refine wl_pure (S' := [_,_,_,_,_,_,_,_,_,_,_,_]) rfl rfl rfl rfl rfl ?_
    refine wl_nil ?_
    refine we_x [] [] rfl rfl ?_
    refine wx_done hok rfl ?_
    refine we_join (a25) ha25 [0, 7, 16, 6, 1, 2] rfl (fun _ _ hφ => ask [] rfl hφ) rfl
   ·
    refine wl_sliceFrom rfl rfl rfl (freshS_eq rfl) rfl rfl rfl rfl tE_38 tS_62 (by omega) (by omega) (fun a25 ha25 => ?_)
    refine wl_nil ?_
    refine we_x [] [] rfl rfl ?_
    refine wx_step1 hok 2 rfl rfl rfl rfl ?_
    refine wl_sliceTo rfl rfl rfl (freshS_eq rfl) rfl rfl rfl rfl tE_38 tS_62 (by omega) (fun _ h => by cases h; rfl) ?_
    refine wl_nil ?_
    refine we_x [] [] rfl rfl ?_
    refine wx_step1 hok 6 rfl rfl rfl rfl ?_
    refine wl_appendSelf 0 k (k + 1) rfl rfl rfl (freshS_eq rfl) rfl rfl rfl rfl (by omega) (by omega) (fun h => ha25 (by omega)) tE_38 tR_62 (H2 := [.own 62 6 R_SessD (.slice (some ⟨g0, 0, none⟩) ((L.take k ++ L.drop (k + 1)).length) c) (L.take k ++ L.drop (k + 1))]) rfl (fun _ => ?_)
    refine wl_nil ?_
    refine we_x [] [] rfl rfl ?_
    refine wx_step1 hok 7 rfl rfl rfl rfl ?_
    refine wl_pure (S' := [_,_,_,_,_,_,_,_,_,_,_,_]) rfl rfl rfl rfl rfl ?_
    refine wl_nil ?_
    refine we_x [] [] rfl rfl ?_
    refine wx_done hok rfl ?_
    refine we_join (a25) ha25 [0, 7, 16, 6, 1, 2] rfl (fun _ _ hφ => ask [] rfl hφ) rfl
  ·
   rintro a25 ha25
   try dsimp only
   refine wc_seq ?_
   refine wc_region ?_
   refine wl_pure rfl rfl rfl (freshS_eq rfl) rfl ?_
   refine wl_pure rfl rfl rfl (freshS_eq rfl) rfl ?_
   refine wl_len rfl rfl rfl (freshS_eq rfl) rfl rfl tE_38 ?_
   refine wl_pure rfl rfl rfl (freshS_eq rfl) rfl ?_
   refine wl_sliceMid rfl rfl rfl (freshS_eq rfl) rfl rfl rfl rfl rfl rfl tE_38 tS_62 (by simp; omega) (by omega) (fun a31 ha31 => ?_)
   refine wl_clearTail 0 rfl rfl rfl rfl rfl (fun h => ha31 (by simp at h ⊢; omega)) (by simp; omega) tE_38 tZ_62 rfl rfl rfl ?_
   refine wl_nil ?_
   refine we_then ?_
   refine wc_keep [0, 7, 16, 6, 1, 2] (S' := [_,_,_,_,_,_]) rfl ?_
   refine wc_seq ?_
   refine wc_region ?_
   refine wl_pure rfl rfl rfl (freshS_eq rfl) rfl ?_
   refine wl_pure (S' := [_,_,_,_,_,_]) rfl rfl rfl rfl rfl ?_
   refine wl_nil ?_
   refine we_then ?_
   refine wc_keep [6, 0, 7, 16, 1, 2] (S' := [_,_,_,_,_,_]) rfl ?_
   refine wc_ret ?_
   refine ret_one (Hr := [.own 62 6 R_SessD (.slice (some ⟨g0, 0, none⟩) ((L.take k ++ L.drop (k + 1)).length) c) (L.take k ++ L.drop (k + 1))]) [0] Try.results23 (res_tmp rfl) ?_ (fun _ _ hφ => ask [] rfl hφ) rfl rfl (.inl rfl)
   exact ⟨_, _, rfl, rfl, rfl⟩
theorem Delete23_s (p : Option Addr) (c : Nat) (i : Int) (L : List SessD) (h0 : 0 ≤ i) (hk : i.toNat < L.length) : Spec Try.prog 23 [.slice p L.length c, .int .i64 i, .int .i64 (i + 1)] [] [.own 62 6 R_SessD (.slice p L.length c) L] (fun v Φr Hr => ∃ p' c', v = .slice p' (L.take i.toNat ++ L.drop (i.toNat + 1)).length c' ∧ Φr = [] ∧ Hr = [.own 62 6 R_SessD v (L.take i.toNat ++ L.drop (i.toNat + 1))]) := by
  obtain ⟨k, rfl⟩ := Int.eq_ofNat_of_zero_le h0
  have e1 : ((k : Int) + 1) = ((k + 1 : Nat) : Int) := by omega
  rw [e1]
  exact Delete23_n p c k L hk

set_option maxRecDepth 100000 in
set_option maxHeartbeats 4000000 in
theorem m_session_Table_Expire_s (N : Nat) (qg0 : Nat) (qp1 : Option Addr) (qn2 : Nat) (qc3 : Nat) (l4 : List SessD) (a5 : Int) (a6 : Int) (o0 : Nat) (o3 : List SessD) (hm : m_session_Table_Expire N l4 a5 a6 = some (o0, o3)) : Spec Try.prog 11 [.pointer (some ⟨qg0, 0, none⟩), .int .i64 a6] [] [.blk qg0 [.slice qp1 qn2 qc3, .int .i64 a5] 50, .own 62 6 R_SessD (.slice qp1 qn2 qc3) l4] (fun v Φr Hr => ∃ (o1 : Option Addr) (o2 : Nat) (o4 : Nat), v = .int .i64 ((o0 : Nat) : Int) ∧ Φr = [] ∧ Hr = [.blk qg0 [.slice o1 o4 o2, .int .i64 a5] 50, .own 62 6 R_SessD (.slice o1 o4 o2) o3]) := by
 unfold m_session_Table_Expire at hm
 refine spec_of Try.func11 rfl Try.ntmps11 rfl (S := [_,_]) rfl (fun C => ?_)
 refine wc_seq ?_
 refine wc_region ?_
 refine wl_pure rfl rfl rfl (freshS_eq rfl) rfl ?_
 refine wl_nil ?_
 refine we_then ?_
 refine wc_keep [0, 1] (S' := [_,_]) rfl ?_
 refine wc_seq ?_
 refine wc_region ?_
 refine wl_pure rfl rfl rfl (freshS_eq rfl) rfl ?_
 refine wl_pure rfl rfl rfl (freshS_eq rfl) rfl ?_
 obtain ⟨⟨v10_0, v10_1⟩, hc10, hm⟩ := bindO_some hm
 try dsimp only at hm
 refine wl_call [0, 1] [] rfl rfl rfl (freshS_eq rfl) rfl rfl fn_22 rfl (m_session_Table_at_s N qg0 qp1 qn2 qc3 l4 a5 a6 _ _ hc10) (fun _ _ hφ => ask [] rfl hφ) rfl (H' := []) rfl ?_
 rintro _ _ _ ⟨rfl, rfl, rfl⟩
 refine wl_pure rfl rfl rfl (freshS_eq rfl) rfl ?_
 refine wl_pure rfl rfl rfl (freshS_eq rfl) rfl ?_
 refine wl_pure rfl rfl rfl (freshS_eq rfl) rfl ?_
 refine wl_pure rfl rfl rfl (freshS_eq rfl) rfl ?_
 refine wl_pure rfl rfl rfl (freshS_eq rfl) rfl ?_
 refine wl_nil ?_
 refine we_then ?_
 refine wc_keep [6, 5, 0] (S' := [_,_,_]) rfl ?_
 refine wc_seq ?_
 obtain ⟨bj_1, hm, hLj_1⟩ := bindO_some hm
 refine wc_cut (σ := (List SessD) × (Option Addr) × Nat × Nat) (fun (j_1_r0_f0_l, j_1_r0_f0_p, j_1_r0_f0_c, j_1_r0_f0_n) => bj_1 = j_1_r0_f0_l) (fun (j_1_r0_f0_l, j_1_r0_f0_p, j_1_r0_f0_c, j_1_r0_f0_n) => [(6, .int .i64 ((v10_1 : Nat) : Int))]) (fun (j_1_r0_f0_l, j_1_r0_f0_p, j_1_r0_f0_c, j_1_r0_f0_n) => []) (fun (j_1_r0_f0_l, j_1_r0_f0_p, j_1_r0_f0_c, j_1_r0_f0_n) => [.blk qg0 [.slice j_1_r0_f0_p j_1_r0_f0_n j_1_r0_f0_c, .int .i64 a5] 50, .own 62 6 R_SessD (.slice j_1_r0_f0_p j_1_r0_f0_n j_1_r0_f0_c) j_1_r0_f0_l]) ?_ ?_
 ·
  refine wc_seq ?_
  refine wc_region ?_
  refine wl_pure rfl rfl rfl (freshS_eq rfl) rfl ?_
  refine wl_pure rfl rfl rfl (freshS_eq rfl) rfl ?_
  refine wl_as (d := 14) (v' := .bool (v10_1 == 0)) (S' := [_,_,_,_]) rfl rfl (nateq (a := v10_1) (b := 0)) ?_
  refine wl_nil ?_
  refine we_then ?_
  refine wc_keep [14, 6, 5, 0] (S' := [_,_,_,_]) rfl ?_
  refine wc_cond rfl (fun hb14 => ?_) (fun hb14 => ?_)
  ·
   replace hm := iteT hm hb14
   refine wc_keep [6, 5, 0] (S' := [_,_,_]) rfl ?_
   refine wc_region ?_
   refine wl_pure rfl rfl rfl (freshS_eq rfl) rfl ?_
   refine wl_pure rfl rfl rfl (freshS_eq rfl) rfl ?_
   refine wl_pure rfl rfl rfl (freshS_eq rfl) rfl ?_
   refine wl_fieldAddr rfl rfl rfl (freshS_eq rfl) rfl rfl tF_50_0 ?_
   refine wl_fieldAddr rfl rfl rfl (freshS_eq rfl) rfl rfl tF_48_0 ?_
   refine wl_loadH 0 0 rfl rfl rfl (freshS_eq rfl) rfl rfl rfl (cs := [_]) rfl tS_38 tA_38 rfl rfl ?_
   refine wl_pure rfl rfl rfl (freshS_eq rfl) rfl ?_
   refine wl_pure rfl rfl rfl (freshS_eq rfl) rfl ?_
   refine wl_pure rfl rfl rfl (freshS_eq rfl) rfl ?_
   obtain ⟨hg23, hm⟩ := gd_some hm
   refine wl_as (d := 23) (v' := .int .i64 (v10_0 + 1)) (S' := [_,_,_,_,_,_,_,_,_,_,_]) rfl rfl (i64_in hg23) ?_
   refine wl_ownLen 1 rfl (fun hzqn2 _ => ?_)
   subst hzqn2
   obtain ⟨hg24, hm⟩ := gd_some hm
   obtain ⟨hgk24, hm⟩ := gd_some hm
   refine wl_call [1] [0] rfl rfl rfl (freshS_eq rfl) rfl rfl fn_23 rfl (Delete23_s qp1 qc3 v10_0 l4 hg24 hgk24) (fun _ _ hφ => ask [] rfl hφ) rfl (H' := [_]) rfl ?_
   rintro _ _ _ ⟨p24, c24, rfl, rfl, rfl⟩
   refine wl_pure rfl rfl rfl (freshS_eq rfl) rfl ?_
   refine wl_fieldAddr rfl rfl rfl (freshS_eq rfl) rfl rfl tF_50_0 ?_
   refine wl_fieldAddr rfl rfl rfl (freshS_eq rfl) rfl rfl tF_48_0 ?_
   refine wl_store 1 0 rfl rfl rfl rfl rfl rfl rfl tS_38 rfl rfl rfl (all' := [_,_]) rfl (H' := [_,_]) rfl ?_
   refine wl_nil ?_
   have hE := (Option.some.inj hm).symm
   refine we_pick [1, 0] rfl (H' := [_,_]) rfl ?_
   refine we_join (l4.take v10_0.toNat ++ l4.drop (v10_0.toNat + 1), p24, c24, (l4.take v10_0.toNat ++ l4.drop (v10_0.toNat + 1)).length) hE [6] rfl (fun _ _ hφ => ask [] rfl hφ) rfl
  ·
   replace hm := iteF hm hb14
   refine wc_keep [6] (S' := [_]) rfl ?_
   refine wc_skip ?_
   have hE := (Option.some.inj hm).symm
   refine we_join (l4, qp1, qc3, qn2) hE [6] rfl (fun _ _ hφ => ask [] rfl hφ) rfl
 ·
  rintro ⟨j_1_r0_f0_l, j_1_r0_f0_p, j_1_r0_f0_c, j_1_r0_f0_n⟩ hE
  try dsimp only
  have hm := hLj_1
  rw [hE] at hm
  refine wc_seq ?_
  refine wc_region ?_
  refine wl_pure rfl rfl rfl (freshS_eq rfl) rfl ?_
  refine wl_pure rfl rfl rfl (freshS_eq rfl) rfl ?_
  refine wl_nil ?_
  refine we_then ?_
  refine wc_keep [4] (S' := [_]) rfl ?_
  refine wc_ret ?_
  have hE := (Option.some.inj hm).symm
  obtain ⟨hE0, hE1⟩ := Prod.mk.inj hE
  clear hE
  replace hE0 := hE0.symm
  subst hE0
  replace hE1 := hE1.symm
  subst hE1
  refine ret_one (Hr := [_, _]) [0, 1] Try.results11 (res_tmp rfl) ⟨j_1_r0_f0_p, j_1_r0_f0_c, j_1_r0_f0_n, rfl, rfl, rfl⟩ (fun _ _ hφ => ask [] rfl hφ) rfl rfl (.inl rfl)
set_option maxRecDepth 100000 in
set_option maxHeartbeats 4000000 in
theorem m_ropewalklaw27_awake_s (N : Nat)  (o0 : Bool) (hm : m_ropewalklaw27_awake N = some o0) : Spec Try.prog 6 [] [] [] (fun v Φr Hr => v = .bool o0 ∧ Φr = [] ∧ Hr = []) := by
 unfold m_ropewalklaw27_awake at hm
 refine spec_of Try.func6 rfl Try.ntmps6 rfl (S := []) rfl (fun C => ?_)
 refine wc_seq ?_
 refine wc_region ?_
 refine wl_pure rfl rfl rfl (freshS_eq rfl) rfl ?_
 refine wl_nil ?_
 refine we_then ?_
 refine wc_keep [] (S' := []) rfl ?_
 refine wc_seq ?_
 refine wc_region ?_
 obtain ⟨_, hc21, hm⟩ := bindO_some hm
 try dsimp only at hm
 refine wl_call [] [] rfl rfl rfl (freshS_eq rfl) rfl rfl fn_7 rfl (m_session_New_s N  hc21) (fun _ _ hφ => ask [] rfl hφ) rfl (H' := []) rfl ?_
 rintro _ _ _ ⟨c21_0, rfl, rfl, rfl⟩
 refine wl_pure rfl rfl rfl (freshS_eq rfl) rfl ?_
 refine wl_nil ?_
 refine we_then ?_
 refine wc_keep [1] (S' := [_]) rfl ?_
 refine wc_seq ?_
 refine wc_region ?_
 refine wl_pure rfl rfl rfl (freshS_eq rfl) rfl ?_
 refine wl_rowNil 62 6 R_SessD ?_
 obtain ⟨⟨v24_0, v24_1, v24_2, v24_3⟩, hc24, hm⟩ := bindO_some hm
 try dsimp only at hm
 refine wl_call [1, 0] [] rfl rfl rfl (freshS_eq rfl) rfl rfl fn_9 rfl (m_session_Table_Open_s N c21_0 none 0 0 [] 1 _ _ _ _ hc24) (fun _ _ hφ => ask [] rfl hφ) rfl (H' := []) rfl ?_
 rintro _ _ _ ⟨p24_0, c24_1, c24_2, rfl, rfl, rfl⟩
 refine wl_pure rfl rfl rfl (freshS_eq rfl) rfl ?_
 refine wl_pure rfl rfl rfl (freshS_eq rfl) rfl ?_
 refine wl_pure rfl rfl rfl (freshS_eq rfl) rfl ?_
 refine wl_pure rfl rfl rfl (freshS_eq rfl) rfl ?_
 refine wl_pure rfl rfl rfl (freshS_eq rfl) rfl ?_
 refine wl_nil ?_
 refine we_then ?_
 refine wc_keep [3, 2, 1] (S' := [_,_,_]) rfl ?_
 refine wc_seq ?_
 refine wc_region ?_
 refine wl_pure rfl rfl rfl (freshS_eq rfl) rfl ?_
 obtain ⟨⟨v29_0, v29_1, v29_2, v29_3, v29_4, v29_5⟩, hc29, hm⟩ := bindO_some hm
 try dsimp only at hm
 refine wl_call [0, 1] [] rfl rfl rfl (freshS_eq rfl) rfl rfl fn_12 rfl (m_session_Table_Ask_s N c21_0 p24_0 c24_2 c24_1 v24_2 v24_3 1 4 _ _ _ _ _ _ hc29) (fun _ _ hφ => ask [] rfl hφ) rfl (H' := []) rfl ?_
 rintro _ _ _ ⟨p29_0, c29_1, c29_2, p29_3, c29_4, c29_5, rfl, rfl, rfl⟩
 refine wl_pure rfl rfl rfl (freshS_eq rfl) rfl ?_
 refine wl_pure rfl rfl rfl (freshS_eq rfl) rfl ?_
 refine wl_pure rfl rfl rfl (freshS_eq rfl) rfl ?_
 refine wl_pure rfl rfl rfl (freshS_eq rfl) rfl ?_
 refine wl_alloc rfl rfl rfl (freshS_eq rfl) rfl tZ_32 rfl (fun g4 => ?_)
 refine wl_store 0 0 rfl rfl rfl rfl rfl rfl rfl tS_32 rfl rfl rfl (all' := [_,_,_,_]) rfl (H' := [_,_,_,_,_]) rfl ?_
 refine wl_pure rfl rfl rfl (freshS_eq rfl) rfl ?_
 refine wl_pure rfl rfl rfl (freshS_eq rfl) rfl ?_
 refine wl_nil ?_
 refine we_then ?_
 refine wc_keep [6, 5, 3, 2, 1] (S' := [_,_,_,_,_]) rfl ?_
 refine wc_seq ?_
 refine wc_region ?_
 refine wl_pure rfl rfl rfl (freshS_eq rfl) rfl ?_
 refine wl_build rfl rfl rfl (freshS_eq rfl) rfl tZ_32 tP_32 rfl (out := [_,_,_,_]) rfl ?_
 refine wl_fact (.sli 3 R_FactD none 0 ([] : List FactD)) (fun _ _ _ => sli_none) ?_
 refine wl_fact (.sli 3 R_V none 0 ([] : List V)) (fun _ _ _ => sli_none) ?_
 obtain ⟨⟨v35_0, v35_1⟩, hc35, hm⟩ := bindO_some hm
 try dsimp only at hm
 refine wl_call [3, 4] [0, 1, 2] rfl rfl rfl (freshS_eq rfl) rfl rfl fn_13 rfl (m_session_Table_Done_s N c21_0 p24_0 c24_2 c24_1 v24_2 v24_3 1 4 0 9 none 0 ([] : List FactD) none 0 ([] : List V) _ _ hc35) (fun _ _ hφ => ask [1, 0] rfl hφ) rfl (H' := [_,_,_]) rfl ?_
 rintro _ _ _ ⟨rfl, rfl, rfl⟩
 refine wl_pure rfl rfl rfl (freshS_eq rfl) rfl ?_
 refine wl_nil ?_
 refine we_then ?_
 refine wc_keep [7, 6, 5, 3, 2, 1] (S' := [_,_,_,_,_,_]) rfl ?_
 refine wc_seq ?_
 refine wc_region ?_
 refine wl_pure rfl rfl rfl (freshS_eq rfl) rfl ?_
 obtain ⟨⟨v38_0, v38_1, v38_2, v38_3, v38_4, v38_5⟩, hc38, hm⟩ := bindO_some hm
 try dsimp only at hm
 refine wl_call [0, 1] [2, 3, 4] rfl rfl rfl (freshS_eq rfl) rfl rfl fn_12 rfl (m_session_Table_Ask_s N c21_0 p24_0 c24_2 c24_1 v35_1 v24_3 1 4 _ _ _ _ _ _ hc38) (fun _ _ hφ => ask [] rfl hφ) rfl (H' := [_,_,_]) rfl ?_
 rintro _ _ _ ⟨p38_0, c38_1, c38_2, p38_3, c38_4, c38_5, rfl, rfl, rfl⟩
 refine wl_pure rfl rfl rfl (freshS_eq rfl) rfl ?_
 refine wl_pure rfl rfl rfl (freshS_eq rfl) rfl ?_
 refine wl_pure rfl rfl rfl (freshS_eq rfl) rfl ?_
 refine wl_pure rfl rfl rfl (freshS_eq rfl) rfl ?_
 refine wl_alloc rfl rfl rfl (freshS_eq rfl) rfl tZ_32 rfl (fun g8 => ?_)
 refine wl_store 0 0 rfl rfl rfl rfl rfl rfl rfl tS_32 rfl rfl rfl (all' := [_,_,_,_]) rfl (H' := [_,_,_,_,_,_,_,_]) rfl ?_
 refine wl_pure rfl rfl rfl (freshS_eq rfl) rfl ?_
 refine wl_pure rfl rfl rfl (freshS_eq rfl) rfl ?_
 refine wl_nil ?_
 refine we_then ?_
 refine wc_keep [10, 9, 8, 7, 6, 5, 3, 2, 1] (S' := [_,_,_,_,_,_,_,_,_]) rfl ?_
 refine wc_seq ?_
 refine wc_region ?_
 refine wl_pure rfl rfl rfl (freshS_eq rfl) rfl ?_
 obtain ⟨⟨v44_0, v44_1, v44_2, v44_3, v44_4, v44_5⟩, hc44, hm⟩ := bindO_some hm
 try dsimp only at hm
 refine wl_call [3, 4] [0, 1, 2, 5, 6, 7] rfl rfl rfl (freshS_eq rfl) rfl rfl fn_12 rfl (m_session_Table_Ask_s N c21_0 p24_0 c24_2 c24_1 v35_1 v24_3 1 3 _ _ _ _ _ _ hc44) (fun _ _ hφ => ask [] rfl hφ) rfl (H' := [_,_,_,_,_,_]) rfl ?_
 rintro _ _ _ ⟨p44_0, c44_1, c44_2, p44_3, c44_4, c44_5, rfl, rfl, rfl⟩
 refine wl_pure rfl rfl rfl (freshS_eq rfl) rfl ?_
 refine wl_pure rfl rfl rfl (freshS_eq rfl) rfl ?_
 refine wl_pure rfl rfl rfl (freshS_eq rfl) rfl ?_
 refine wl_pure rfl rfl rfl (freshS_eq rfl) rfl ?_
 refine wl_alloc rfl rfl rfl (freshS_eq rfl) rfl tZ_32 rfl (fun g11 => ?_)
 refine wl_store 0 0 rfl rfl rfl rfl rfl rfl rfl tS_32 rfl rfl rfl (all' := [_,_,_,_]) rfl (H' := [_,_,_,_,_,_,_,_,_,_,_]) rfl ?_
 refine wl_pure rfl rfl rfl (freshS_eq rfl) rfl ?_
 refine wl_pure rfl rfl rfl (freshS_eq rfl) rfl ?_
 refine wl_nil ?_
 refine we_then ?_
 refine wc_keep [13, 10, 9, 8, 7, 6, 5, 3, 2, 1] (S' := [_,_,_,_,_,_,_,_,_,_]) rfl ?_
 refine wc_seq ?_
 refine wc_region ?_
 refine wl_pure rfl rfl rfl (freshS_eq rfl) rfl ?_
 obtain ⟨⟨v50_0, v50_1, v50_2, v50_3, v50_4, v50_5⟩, hc50, hm⟩ := bindO_some hm
 try dsimp only at hm
 refine wl_call [3, 4] [0, 1, 2, 5, 6, 7, 8, 9, 10] rfl rfl rfl (freshS_eq rfl) rfl rfl fn_12 rfl (m_session_Table_Ask_s N c21_0 p24_0 c24_2 c24_1 v35_1 v24_3 2 1 _ _ _ _ _ _ hc50) (fun _ _ hφ => ask [] rfl hφ) rfl (H' := [_,_,_,_,_,_,_,_,_]) rfl ?_
 rintro _ _ _ ⟨p50_0, c50_1, c50_2, p50_3, c50_4, c50_5, rfl, rfl, rfl⟩
 refine wl_pure rfl rfl rfl (freshS_eq rfl) rfl ?_
 refine wl_pure rfl rfl rfl (freshS_eq rfl) rfl ?_
 refine wl_pure rfl rfl rfl (freshS_eq rfl) rfl ?_
 refine wl_pure rfl rfl rfl (freshS_eq rfl) rfl ?_
 refine wl_alloc rfl rfl rfl (freshS_eq rfl) rfl tZ_32 rfl (fun g14 => ?_)
 refine wl_store 0 0 rfl rfl rfl rfl rfl rfl rfl tS_32 rfl rfl rfl (all' := [_,_,_,_]) rfl (H' := [_,_,_,_,_,_,_,_,_,_,_,_,_,_]) rfl ?_
 refine wl_pure rfl rfl rfl (freshS_eq rfl) rfl ?_
 refine wl_pure rfl rfl rfl (freshS_eq rfl) rfl ?_
 refine wl_nil ?_
 refine we_then ?_
 refine wc_keep [16, 13, 10, 9, 8, 7, 6, 5, 3, 2, 1] (S' := [_,_,_,_,_,_,_,_,_,_,_]) rfl ?_
 refine wc_seq ?_
 refine wc_region ?_
 refine wl_pure rfl rfl rfl (freshS_eq rfl) rfl ?_
 refine wl_build rfl rfl rfl (freshS_eq rfl) rfl tZ_32 tP_32 rfl (out := [_,_,_,_]) rfl ?_
 refine wl_fact (.sli 3 R_FactD none 0 ([] : List FactD)) (fun _ _ _ => sli_none) ?_
 refine wl_fact (.sli 3 R_V none 0 ([] : List V)) (fun _ _ _ => sli_none) ?_
 obtain ⟨⟨v56_0, v56_1⟩, hc56, hm⟩ := bindO_some hm
 try dsimp only at hm
 refine wl_call [3, 4] [0, 1, 2, 5, 6, 7, 8, 9, 10, 11, 12, 13] rfl rfl rfl (freshS_eq rfl) rfl rfl fn_13 rfl (m_session_Table_Done_s N c21_0 p24_0 c24_2 c24_1 v35_1 v24_3 1 4 0 0 none 0 ([] : List FactD) none 0 ([] : List V) _ _ hc56) (fun _ _ hφ => ask [1, 0] rfl hφ) rfl (H' := [_,_,_,_,_,_,_,_,_,_,_,_]) rfl ?_
 rintro _ _ _ ⟨rfl, rfl, rfl⟩
 refine wl_pure rfl rfl rfl (freshS_eq rfl) rfl ?_
 refine wl_nil ?_
 refine we_then ?_
 refine wc_keep [17, 16, 13, 10, 9, 8, 7, 6, 5, 3, 2, 1] (S' := [_,_,_,_,_,_,_,_,_,_,_,_]) rfl ?_
 refine wc_seq ?_
 refine wc_region ?_
 refine wl_pure rfl rfl rfl (freshS_eq rfl) rfl ?_
 obtain ⟨⟨v58_0, v58_1⟩, hc58, hm⟩ := bindO_some hm
 try dsimp only at hm
 refine wl_call [0, 1] [2, 3, 4, 5, 6, 7, 8, 9, 10, 11, 12, 13] rfl rfl rfl (freshS_eq rfl) rfl rfl fn_11 rfl (m_session_Table_Expire_s N c21_0 p24_0 c24_2 c24_1 v56_1 v24_3 1 _ _ hc58) (fun _ _ hφ => ask [] rfl hφ) rfl (H' := [_,_,_,_,_,_,_,_,_,_,_,_]) rfl ?_
 rintro _ _ _ ⟨p58_0, c58_1, c58_2, rfl, rfl, rfl⟩
 refine wl_pure rfl rfl rfl (freshS_eq rfl) rfl ?_
 refine wl_nil ?_
 refine we_then ?_
 refine wc_keep [18, 17, 16, 13, 10, 9, 8, 7, 6, 5, 3, 2, 1] (S' := [_,_,_,_,_,_,_,_,_,_,_,_,_]) rfl ?_
 refine wc_seq ?_
 refine wc_region ?_
 refine wl_pure rfl rfl rfl (freshS_eq rfl) rfl ?_
 obtain ⟨⟨v61_0, v61_1, v61_2, v61_3⟩, hc61, hm⟩ := bindO_some hm
 try dsimp only at hm
 refine wl_call [0, 1] [2, 3, 4, 5, 6, 7, 8, 9, 10, 11, 12, 13] rfl rfl rfl (freshS_eq rfl) rfl rfl fn_9 rfl (m_session_Table_Open_s N c21_0 p58_0 c58_2 c58_1 v58_1 v24_3 _ _ _ _ hc61) (fun _ _ hφ => ask [] rfl hφ) rfl (H' := [_,_,_,_,_,_,_,_,_,_,_,_]) rfl ?_
 rintro _ _ _ ⟨p61_0, c61_1, c61_2, rfl, rfl, rfl⟩
 refine wl_pure rfl rfl rfl (freshS_eq rfl) rfl ?_
 refine wl_pure rfl rfl rfl (freshS_eq rfl) rfl ?_
 refine wl_pure rfl rfl rfl (freshS_eq rfl) rfl ?_
 refine wl_pure rfl rfl rfl (freshS_eq rfl) rfl ?_
 refine wl_pure rfl rfl rfl (freshS_eq rfl) rfl ?_
 refine wl_nil ?_
 refine we_then ?_
 refine wc_keep [20, 19, 18, 17, 16, 13, 10, 9, 8, 7, 6, 5, 3, 2] (S' := [_,_,_,_,_,_,_,_,_,_,_,_,_,_]) rfl ?_
 refine wc_seq ?_
 obtain ⟨bj_1, hm, hLj_1⟩ := bindO_some hm
 unfold m_ropewalklaw27_awake_C1 at hm
 refine wc_cut (σ := Bool) (fun j_1_0 => bj_1 = j_1_0) (fun j_1_0 => [(0, .bool j_1_0)]) (fun j_1_0 => []) (fun j_1_0 => []) ?_ ?_
 ·
  refine wc_region ?_
  refine wl_pure rfl rfl rfl (freshS_eq rfl) rfl ?_
  refine wl_pure rfl rfl rfl (freshS_eq rfl) rfl ?_
  refine wl_pure rfl rfl rfl (freshS_eq rfl) rfl ?_
  refine wl_split (d := 66) (S' := [_,_,_,_,_,_,_,_,_,_,_,_,_,_,_,_]) rfl rfl (fun hs66 => ?_) (fun hs66 => ?_)
  ·
   replace hm := iteT hm hs66
   refine wl_pure rfl rfl rfl (freshS_eq rfl) rfl ?_
   refine wl_pure rfl rfl rfl (freshS_eq rfl) rfl ?_
   refine wl_as (d := 68) (v' := .bool (v24_1 == 0)) (S' := [_,_,_,_,_,_,_,_,_,_,_,_,_,_,_,_,_,_]) rfl rfl (nateq (a := v24_1) (b := 0)) ?_
   refine wl_pure rfl rfl rfl (freshS_eq rfl) rfl ?_
   refine wl_pure rfl rfl rfl (freshS_eq rfl) rfl ?_
   refine wl_split (d := 70) (S' := [_,_,_,_,_,_,_,_,_,_,_,_,_,_,_,_,_,_,_,_]) rfl rfl (fun hs70 => ?_) (fun hs70 => ?_)
   ·
    replace hm := iteT hm hs70
    refine wl_pure rfl rfl rfl (freshS_eq rfl) rfl ?_
    refine wl_pure rfl rfl rfl (freshS_eq rfl) rfl ?_
    refine wl_pure rfl rfl rfl (freshS_eq rfl) rfl ?_
    refine wl_pure rfl rfl rfl (freshS_eq rfl) rfl ?_
    refine wl_split (d := 74) (S' := [_,_,_,_,_,_,_,_,_,_,_,_,_,_,_,_,_,_,_,_,_,_,_,_]) rfl rfl (fun hs74 => ?_) (fun hs74 => ?_)
    ·
     replace hm := iteT hm hs74
     refine wl_pure rfl rfl rfl (freshS_eq rfl) rfl ?_
     refine wl_pure rfl rfl rfl (freshS_eq rfl) rfl ?_
     refine wl_as (d := 76) (v' := .bool (v29_5 == 0)) (S' := [_,_,_,_,_,_,_,_,_,_,_,_,_,_,_,_,_,_,_,_,_,_,_,_,_,_]) rfl rfl (nateq (a := v29_5) (b := 0)) ?_
     refine wl_pure rfl rfl rfl (freshS_eq rfl) rfl ?_
     refine wl_pure rfl rfl rfl (freshS_eq rfl) rfl ?_
     refine wl_split (d := 78) (S' := [_,_,_,_,_,_,_,_,_,_,_,_,_,_,_,_,_,_,_,_,_,_,_,_,_,_,_,_]) rfl rfl (fun hs78 => ?_) (fun hs78 => ?_)
     ·
      replace hm := iteT hm hs78
      refine wl_pure rfl rfl rfl (freshS_eq rfl) rfl ?_
      refine wl_pure rfl rfl rfl (freshS_eq rfl) rfl ?_
      refine wl_as (d := 80) (v' := .bool (v35_0 == 0)) (S' := [_,_,_,_,_,_,_,_,_,_,_,_,_,_,_,_,_,_,_,_,_,_,_,_,_,_,_,_,_,_]) rfl rfl (nateq (a := v35_0) (b := 0)) ?_
      refine wl_pure rfl rfl rfl (freshS_eq rfl) rfl ?_
      refine wl_pure rfl rfl rfl (freshS_eq rfl) rfl ?_
      refine wl_split (d := 82) (S' := [_,_,_,_,_,_,_,_,_,_,_,_,_,_,_,_,_,_,_,_,_,_,_,_,_,_,_,_,_,_,_,_]) rfl rfl (fun hs82 => ?_) (fun hs82 => ?_)
      ·
       replace hm := iteT hm hs82
       refine wl_fieldAddr rfl rfl rfl (freshS_eq rfl) rfl rfl tF_32_1 ?_
       refine wl_loadH 8 1 rfl rfl rfl (freshS_eq rfl) rfl rfl rfl (cs := [_]) rfl tS_3 tA_3 rfl rfl ?_
       refine wl_pure rfl rfl rfl (freshS_eq rfl) rfl ?_
       refine wl_pure rfl rfl rfl (freshS_eq rfl) rfl ?_
       refine wl_pure rfl rfl rfl (freshS_eq rfl) rfl ?_
       refine wl_split (d := 87) (S' := [_,_,_,_,_,_,_,_,_,_,_,_,_,_,_,_,_,_,_,_,_,_,_,_,_,_,_,_,_,_,_,_,_,_,_,_,_]) rfl rfl (fun hs87 => ?_) (fun hs87 => ?_)
       ·
        replace hm := iteT hm hs87
        refine wl_pure rfl rfl rfl (freshS_eq rfl) rfl ?_
        refine wl_pure rfl rfl rfl (freshS_eq rfl) rfl ?_
        refine wl_pure rfl rfl rfl (freshS_eq rfl) rfl ?_
        refine wl_split (d := 90) (S' := [_,_,_,_,_,_,_,_,_,_,_,_,_,_,_,_,_,_,_,_,_,_,_,_,_,_,_,_,_,_,_,_,_,_,_,_,_,_,_,_]) rfl rfl (fun hs90 => ?_) (fun hs90 => ?_)
        ·
         replace hm := iteT hm hs90
         refine wl_pure rfl rfl rfl (freshS_eq rfl) rfl ?_
         refine wl_pure rfl rfl rfl (freshS_eq rfl) rfl ?_
         refine wl_as (d := 92) (v' := .bool (v38_5 == 0)) (S' := [_,_,_,_,_,_,_,_,_,_,_,_,_,_,_,_,_,_,_,_,_,_,_,_,_,_,_,_,_,_,_,_,_,_,_,_,_,_,_,_,_,_]) rfl rfl (nateq (a := v38_5) (b := 0)) ?_
         refine wl_pure rfl rfl rfl (freshS_eq rfl) rfl ?_
         refine wl_pure rfl rfl rfl (freshS_eq rfl) rfl ?_
         refine wl_split (d := 94) (S' := [_,_,_,_,_,_,_,_,_,_,_,_,_,_,_,_,_,_,_,_,_,_,_,_,_,_,_,_,_,_,_,_,_,_,_,_,_,_,_,_,_,_,_,_]) rfl rfl (fun hs94 => ?_) (fun hs94 => ?_)
         ·
          replace hm := iteT hm hs94
          refine wl_pure rfl rfl rfl (freshS_eq rfl) rfl ?_
          refine wl_pure rfl rfl rfl (freshS_eq rfl) rfl ?_
          refine wl_as (d := 96) (v' := .bool (v44_5 == 304)) (S' := [_,_,_,_,_,_,_,_,_,_,_,_,_,_,_,_,_,_,_,_,_,_,_,_,_,_,_,_,_,_,_,_,_,_,_,_,_,_,_,_,_,_,_,_,_,_]) rfl rfl (nateq (a := v44_5) (b := 304)) ?_
          refine wl_pure rfl rfl rfl (freshS_eq rfl) rfl ?_
          refine wl_pure rfl rfl rfl (freshS_eq rfl) rfl ?_
          refine wl_split (d := 98) (S' := [_,_,_,_,_,_,_,_,_,_,_,_,_,_,_,_,_,_,_,_,_,_,_,_,_,_,_,_,_,_,_,_,_,_,_,_,_,_,_,_,_,_,_,_,_,_,_,_]) rfl rfl (fun hs98 => ?_) (fun hs98 => ?_)
          ·
           replace hm := iteT hm hs98
           refine wl_pure rfl rfl rfl (freshS_eq rfl) rfl ?_
           refine wl_pure rfl rfl rfl (freshS_eq rfl) rfl ?_
           refine wl_as (d := 100) (v' := .bool (v50_5 == 303)) (S' := [_,_,_,_,_,_,_,_,_,_,_,_,_,_,_,_,_,_,_,_,_,_,_,_,_,_,_,_,_,_,_,_,_,_,_,_,_,_,_,_,_,_,_,_,_,_,_,_,_,_]) rfl rfl (nateq (a := v50_5) (b := 303)) ?_
           refine wl_pure rfl rfl rfl (freshS_eq rfl) rfl ?_
           refine wl_pure rfl rfl rfl (freshS_eq rfl) rfl ?_
           refine wl_split (d := 102) (S' := [_,_,_,_,_,_,_,_,_,_,_,_,_,_,_,_,_,_,_,_,_,_,_,_,_,_,_,_,_,_,_,_,_,_,_,_,_,_,_,_,_,_,_,_,_,_,_,_,_,_,_,_]) rfl rfl (fun hs102 => ?_) (fun hs102 => ?_)
           ·
            replace hm := iteT hm hs102
            refine wl_pure rfl rfl rfl (freshS_eq rfl) rfl ?_
            refine wl_pure rfl rfl rfl (freshS_eq rfl) rfl ?_
            refine wl_as (d := 104) (v' := .bool (v56_0 == 304)) (S' := [_,_,_,_,_,_,_,_,_,_,_,_,_,_,_,_,_,_,_,_,_,_,_,_,_,_,_,_,_,_,_,_,_,_,_,_,_,_,_,_,_,_,_,_,_,_,_,_,_,_,_,_,_,_]) rfl rfl (nateq (a := v56_0) (b := 304)) ?_
            refine wl_pure rfl rfl rfl (freshS_eq rfl) rfl ?_
            refine wl_pure rfl rfl rfl (freshS_eq rfl) rfl ?_
            refine wl_split (d := 106) (S' := [_,_,_,_,_,_,_,_,_,_,_,_,_,_,_,_,_,_,_,_,_,_,_,_,_,_,_,_,_,_,_,_,_,_,_,_,_,_,_,_,_,_,_,_,_,_,_,_,_,_,_,_,_,_,_,_]) rfl rfl (fun hs106 => ?_) (fun hs106 => ?_)
            ·
             replace hm := iteT hm hs106
             refine wl_pure rfl rfl rfl (freshS_eq rfl) rfl ?_
             refine wl_pure rfl rfl rfl (freshS_eq rfl) rfl ?_
             refine wl_as (d := 108) (v' := .bool (v58_0 == 0)) (S' := [_,_,_,_,_,_,_,_,_,_,_,_,_,_,_,_,_,_,_,_,_,_,_,_,_,_,_,_,_,_,_,_,_,_,_,_,_,_,_,_,_,_,_,_,_,_,_,_,_,_,_,_,_,_,_,_,_,_]) rfl rfl (nateq (a := v58_0) (b := 0)) ?_
             refine wl_pure rfl rfl rfl (freshS_eq rfl) rfl ?_
             refine wl_pure rfl rfl rfl (freshS_eq rfl) rfl ?_
             refine wl_split (d := 110) (S' := [_,_,_,_,_,_,_,_,_,_,_,_,_,_,_,_,_,_,_,_,_,_,_,_,_,_,_,_,_,_,_,_,_,_,_,_,_,_,_,_,_,_,_,_,_,_,_,_,_,_,_,_,_,_,_,_,_,_,_,_]) rfl rfl (fun hs110 => ?_) (fun hs110 => ?_)
             ·
              replace hm := iteT hm hs110
              refine wl_pure rfl rfl rfl (freshS_eq rfl) rfl ?_
              refine wl_pure rfl rfl rfl (freshS_eq rfl) rfl ?_
              refine wl_pure rfl rfl rfl (freshS_eq rfl) rfl ?_
              refine wl_pure rfl rfl rfl (freshS_eq rfl) rfl ?_
              refine wl_split (d := 114) (S' := [_,_,_,_,_,_,_,_,_,_,_,_,_,_,_,_,_,_,_,_,_,_,_,_,_,_,_,_,_,_,_,_,_,_,_,_,_,_,_,_,_,_,_,_,_,_,_,_,_,_,_,_,_,_,_,_,_,_,_,_,_,_,_,_]) rfl rfl (fun hs114 => ?_) (fun hs114 => ?_)
              ·
               replace hm := iteT hm hs114
               refine wl_pure rfl rfl rfl (freshS_eq rfl) rfl ?_
               refine wl_pure rfl rfl rfl (freshS_eq rfl) rfl ?_
               refine wl_as (d := 116) (v' := .bool (v61_1 == 0)) (S' := [_,_,_,_,_,_,_,_,_,_,_,_,_,_,_,_,_,_,_,_,_,_,_,_,_,_,_,_,_,_,_,_,_,_,_,_,_,_,_,_,_,_,_,_,_,_,_,_,_,_,_,_,_,_,_,_,_,_,_,_,_,_,_,_,_,_]) rfl rfl (nateq (a := v61_1) (b := 0)) ?_
               refine wl_pure rfl rfl rfl (freshS_eq rfl) rfl ?_
               refine wl_pure rfl rfl rfl (freshS_eq rfl) rfl ?_
               refine wl_nil ?_
               have hE := (Option.some.inj hm).symm
               refine we_pick [] rfl (H' := []) rfl ?_
               refine we_join (v61_1 == 0) hE [0] rfl (fun _ _ hφ => ask [] rfl hφ) rfl
              ·
               replace hm := iteF hm hs114
               refine wl_off rfl rfl rfl (freshS_eq rfl) ?_
               refine wl_off rfl rfl rfl (freshS_eq rfl) ?_
               refine wl_pure rfl rfl rfl (freshS_eq rfl) rfl ?_
               refine wl_pure rfl rfl rfl (freshS_eq rfl) rfl ?_
               refine wl_nil ?_
               have hE := (Option.some.inj hm).symm
               refine we_pick [] rfl (H' := []) rfl ?_
               refine we_join false hE [0] rfl (fun _ _ hφ => ask [] rfl hφ) rfl
             ·
              replace hm := iteF hm hs110
              refine wl_off rfl rfl rfl (freshS_eq rfl) ?_
              refine wl_off rfl rfl rfl (freshS_eq rfl) ?_
              refine wl_pure rfl rfl rfl (freshS_eq rfl) rfl ?_
              refine wl_pure rfl rfl rfl (freshS_eq rfl) rfl ?_
              refine wl_off rfl rfl rfl (freshS_eq rfl) ?_
              refine wl_off rfl rfl rfl (freshS_eq rfl) ?_
              refine wl_pure rfl rfl rfl (freshS_eq rfl) rfl ?_
              refine wl_pure rfl rfl rfl (freshS_eq rfl) rfl ?_
              refine wl_nil ?_
              have hE := (Option.some.inj hm).symm
              refine we_pick [] rfl (H' := []) rfl ?_
              refine we_join false hE [0] rfl (fun _ _ hφ => ask [] rfl hφ) rfl
            ·
             replace hm := iteF hm hs106
             refine wl_off rfl rfl rfl (freshS_eq rfl) ?_
             refine wl_off rfl rfl rfl (freshS_eq rfl) ?_
             refine wl_pure rfl rfl rfl (freshS_eq rfl) rfl ?_
             refine wl_pure rfl rfl rfl (freshS_eq rfl) rfl ?_
             refine wl_off rfl rfl rfl (freshS_eq rfl) ?_
             refine wl_off rfl rfl rfl (freshS_eq rfl) ?_
             refine wl_pure rfl rfl rfl (freshS_eq rfl) rfl ?_
             refine wl_pure rfl rfl rfl (freshS_eq rfl) rfl ?_
             refine wl_off rfl rfl rfl (freshS_eq rfl) ?_
             refine wl_off rfl rfl rfl (freshS_eq rfl) ?_
             refine wl_pure rfl rfl rfl (freshS_eq rfl) rfl ?_
             refine wl_pure rfl rfl rfl (freshS_eq rfl) rfl ?_
             refine wl_nil ?_
             have hE := (Option.some.inj hm).symm
             refine we_pick [] rfl (H' := []) rfl ?_
             refine we_join false hE [0] rfl (fun _ _ hφ => ask [] rfl hφ) rfl
           ·
            replace hm := iteF hm hs102
            refine wl_off rfl rfl rfl (freshS_eq rfl) ?_
            refine wl_off rfl rfl rfl (freshS_eq rfl) ?_
            refine wl_pure rfl rfl rfl (freshS_eq rfl) rfl ?_
            refine wl_pure rfl rfl rfl (freshS_eq rfl) rfl ?_
            refine wl_off rfl rfl rfl (freshS_eq rfl) ?_
            refine wl_off rfl rfl rfl (freshS_eq rfl) ?_
            refine wl_pure rfl rfl rfl (freshS_eq rfl) rfl ?_
            refine wl_pure rfl rfl rfl (freshS_eq rfl) rfl ?_
            refine wl_off rfl rfl rfl (freshS_eq rfl) ?_
            refine wl_off rfl rfl rfl (freshS_eq rfl) ?_
            refine wl_pure rfl rfl rfl (freshS_eq rfl) rfl ?_
            refine wl_pure rfl rfl rfl (freshS_eq rfl) rfl ?_
            refine wl_off rfl rfl rfl (freshS_eq rfl) ?_
            refine wl_off rfl rfl rfl (freshS_eq rfl) ?_
            refine wl_pure rfl rfl rfl (freshS_eq rfl) rfl ?_
            refine wl_pure rfl rfl rfl (freshS_eq rfl) rfl ?_
            refine wl_nil ?_
            have hE := (Option.some.inj hm).symm
            refine we_pick [] rfl (H' := []) rfl ?_
            refine we_join false hE [0] rfl (fun _ _ hφ => ask [] rfl hφ) rfl
          ·
           replace hm := iteF hm hs98
           refine wl_off rfl rfl rfl (freshS_eq rfl) ?_
           refine wl_off rfl rfl rfl (freshS_eq rfl) ?_
           refine wl_pure rfl rfl rfl (freshS_eq rfl) rfl ?_
           refine wl_pure rfl rfl rfl (freshS_eq rfl) rfl ?_
           refine wl_off rfl rfl rfl (freshS_eq rfl) ?_
           refine wl_off rfl rfl rfl (freshS_eq rfl) ?_
           refine wl_pure rfl rfl rfl (freshS_eq rfl) rfl ?_
           refine wl_pure rfl rfl rfl (freshS_eq rfl) rfl ?_
           refine wl_off rfl rfl rfl (freshS_eq rfl) ?_
           refine wl_off rfl rfl rfl (freshS_eq rfl) ?_
           refine wl_pure rfl rfl rfl (freshS_eq rfl) rfl ?_
           refine wl_pure rfl rfl rfl (freshS_eq rfl) rfl ?_
           refine wl_off rfl rfl rfl (freshS_eq rfl) ?_
           refine wl_off rfl rfl rfl (freshS_eq rfl) ?_
           refine wl_pure rfl rfl rfl (freshS_eq rfl) rfl ?_
           refine wl_pure rfl rfl rfl (freshS_eq rfl) rfl ?_
           refine wl_off rfl rfl rfl (freshS_eq rfl) ?_
           refine wl_off rfl rfl rfl (freshS_eq rfl) ?_
           refine wl_pure rfl rfl rfl (freshS_eq rfl) rfl ?_
           refine wl_pure rfl rfl rfl (freshS_eq rfl) rfl ?_
           refine wl_nil ?_
           have hE := (Option.some.inj hm).symm
           refine we_pick [] rfl (H' := []) rfl ?_
           refine we_join false hE [0] rfl (fun _ _ hφ => ask [] rfl hφ) rfl
         ·
          replace hm := iteF hm hs94
          refine wl_off rfl rfl rfl (freshS_eq rfl) ?_
          refine wl_off rfl rfl rfl (freshS_eq rfl) ?_
          refine wl_pure rfl rfl rfl (freshS_eq rfl) rfl ?_
          refine wl_pure rfl rfl rfl (freshS_eq rfl) rfl ?_
          refine wl_off rfl rfl rfl (freshS_eq rfl) ?_
          refine wl_off rfl rfl rfl (freshS_eq rfl) ?_
          refine wl_pure rfl rfl rfl (freshS_eq rfl) rfl ?_
          refine wl_pure rfl rfl rfl (freshS_eq rfl) rfl ?_
          refine wl_off rfl rfl rfl (freshS_eq rfl) ?_
          refine wl_off rfl rfl rfl (freshS_eq rfl) ?_
          refine wl_pure rfl rfl rfl (freshS_eq rfl) rfl ?_
          refine wl_pure rfl rfl rfl (freshS_eq rfl) rfl ?_
          refine wl_off rfl rfl rfl (freshS_eq rfl) ?_
          refine wl_off rfl rfl rfl (freshS_eq rfl) ?_
          refine wl_pure rfl rfl rfl (freshS_eq rfl) rfl ?_
          refine wl_pure rfl rfl rfl (freshS_eq rfl) rfl ?_
          refine wl_off rfl rfl rfl (freshS_eq rfl) ?_
          refine wl_off rfl rfl rfl (freshS_eq rfl) ?_
          refine wl_pure rfl rfl rfl (freshS_eq rfl) rfl ?_
          refine wl_pure rfl rfl rfl (freshS_eq rfl) rfl ?_
          refine wl_off rfl rfl rfl (freshS_eq rfl) ?_
          refine wl_off rfl rfl rfl (freshS_eq rfl) ?_
          refine wl_pure rfl rfl rfl (freshS_eq rfl) rfl ?_
          refine wl_pure rfl rfl rfl (freshS_eq rfl) rfl ?_
          refine wl_nil ?_
          have hE := (Option.some.inj hm).symm
          refine we_pick [] rfl (H' := []) rfl ?_
          refine we_join false hE [0] rfl (fun _ _ hφ => ask [] rfl hφ) rfl
        ·
         replace hm := iteF hm hs90
         refine wl_off rfl rfl rfl (freshS_eq rfl) ?_
         refine wl_off rfl rfl rfl (freshS_eq rfl) ?_
         refine wl_pure rfl rfl rfl (freshS_eq rfl) rfl ?_
         refine wl_pure rfl rfl rfl (freshS_eq rfl) rfl ?_
         refine wl_off rfl rfl rfl (freshS_eq rfl) ?_
         refine wl_off rfl rfl rfl (freshS_eq rfl) ?_
         refine wl_pure rfl rfl rfl (freshS_eq rfl) rfl ?_
         refine wl_pure rfl rfl rfl (freshS_eq rfl) rfl ?_
         refine wl_off rfl rfl rfl (freshS_eq rfl) ?_
         refine wl_off rfl rfl rfl (freshS_eq rfl) ?_
         refine wl_pure rfl rfl rfl (freshS_eq rfl) rfl ?_
         refine wl_pure rfl rfl rfl (freshS_eq rfl) rfl ?_
         refine wl_off rfl rfl rfl (freshS_eq rfl) ?_
         refine wl_off rfl rfl rfl (freshS_eq rfl) ?_
         refine wl_pure rfl rfl rfl (freshS_eq rfl) rfl ?_
         refine wl_pure rfl rfl rfl (freshS_eq rfl) rfl ?_
         refine wl_off rfl rfl rfl (freshS_eq rfl) ?_
         refine wl_off rfl rfl rfl (freshS_eq rfl) ?_
         refine wl_pure rfl rfl rfl (freshS_eq rfl) rfl ?_
         refine wl_pure rfl rfl rfl (freshS_eq rfl) rfl ?_
         refine wl_off rfl rfl rfl (freshS_eq rfl) ?_
         refine wl_off rfl rfl rfl (freshS_eq rfl) ?_
         refine wl_pure rfl rfl rfl (freshS_eq rfl) rfl ?_
         refine wl_pure rfl rfl rfl (freshS_eq rfl) rfl ?_
         refine wl_off rfl rfl rfl (freshS_eq rfl) ?_
         refine wl_off rfl rfl rfl (freshS_eq rfl) ?_
         refine wl_pure rfl rfl rfl (freshS_eq rfl) rfl ?_
         refine wl_pure rfl rfl rfl (freshS_eq rfl) rfl ?_
         refine wl_nil ?_
         have hE := (Option.some.inj hm).symm
         refine we_pick [] rfl (H' := []) rfl ?_
         refine we_join false hE [0] rfl (fun _ _ hφ => ask [] rfl hφ) rfl
       ·
        replace hm := iteF hm hs87
        refine wl_off rfl rfl rfl (freshS_eq rfl) ?_
        refine wl_pure rfl rfl rfl (freshS_eq rfl) rfl ?_
        refine wl_pure rfl rfl rfl (freshS_eq rfl) rfl ?_
        refine wl_off rfl rfl rfl (freshS_eq rfl) ?_
        refine wl_off rfl rfl rfl (freshS_eq rfl) ?_
        refine wl_pure rfl rfl rfl (freshS_eq rfl) rfl ?_
        refine wl_pure rfl rfl rfl (freshS_eq rfl) rfl ?_
        refine wl_off rfl rfl rfl (freshS_eq rfl) ?_
        refine wl_off rfl rfl rfl (freshS_eq rfl) ?_
        refine wl_pure rfl rfl rfl (freshS_eq rfl) rfl ?_
        refine wl_pure rfl rfl rfl (freshS_eq rfl) rfl ?_
        refine wl_off rfl rfl rfl (freshS_eq rfl) ?_
        refine wl_off rfl rfl rfl (freshS_eq rfl) ?_
        refine wl_pure rfl rfl rfl (freshS_eq rfl) rfl ?_
        refine wl_pure rfl rfl rfl (freshS_eq rfl) rfl ?_
        refine wl_off rfl rfl rfl (freshS_eq rfl) ?_
        refine wl_off rfl rfl rfl (freshS_eq rfl) ?_
        refine wl_pure rfl rfl rfl (freshS_eq rfl) rfl ?_
        refine wl_pure rfl rfl rfl (freshS_eq rfl) rfl ?_
        refine wl_off rfl rfl rfl (freshS_eq rfl) ?_
        refine wl_off rfl rfl rfl (freshS_eq rfl) ?_
        refine wl_pure rfl rfl rfl (freshS_eq rfl) rfl ?_
        refine wl_pure rfl rfl rfl (freshS_eq rfl) rfl ?_
        refine wl_off rfl rfl rfl (freshS_eq rfl) ?_
        refine wl_off rfl rfl rfl (freshS_eq rfl) ?_
        refine wl_pure rfl rfl rfl (freshS_eq rfl) rfl ?_
        refine wl_pure rfl rfl rfl (freshS_eq rfl) rfl ?_
        refine wl_off rfl rfl rfl (freshS_eq rfl) ?_
        refine wl_off rfl rfl rfl (freshS_eq rfl) ?_
        refine wl_pure rfl rfl rfl (freshS_eq rfl) rfl ?_
        refine wl_pure rfl rfl rfl (freshS_eq rfl) rfl ?_
        refine wl_nil ?_
        have hE := (Option.some.inj hm).symm
        refine we_pick [] rfl (H' := []) rfl ?_
        refine we_join false hE [0] rfl (fun _ _ hφ => ask [] rfl hφ) rfl
      ·
       replace hm := iteF hm hs82
       refine wl_off rfl rfl rfl (freshS_eq rfl) ?_
       refine wl_off rfl rfl rfl (freshS_eq rfl) ?_
       refine wl_off rfl rfl rfl (freshS_eq rfl) ?_
       refine wl_pure rfl rfl rfl (freshS_eq rfl) rfl ?_
       refine wl_pure rfl rfl rfl (freshS_eq rfl) rfl ?_
       refine wl_off rfl rfl rfl (freshS_eq rfl) ?_
       refine wl_pure rfl rfl rfl (freshS_eq rfl) rfl ?_
       refine wl_pure rfl rfl rfl (freshS_eq rfl) rfl ?_
       refine wl_off rfl rfl rfl (freshS_eq rfl) ?_
       refine wl_off rfl rfl rfl (freshS_eq rfl) ?_
       refine wl_pure rfl rfl rfl (freshS_eq rfl) rfl ?_
       refine wl_pure rfl rfl rfl (freshS_eq rfl) rfl ?_
       refine wl_off rfl rfl rfl (freshS_eq rfl) ?_
       refine wl_off rfl rfl rfl (freshS_eq rfl) ?_
       refine wl_pure rfl rfl rfl (freshS_eq rfl) rfl ?_
       refine wl_pure rfl rfl rfl (freshS_eq rfl) rfl ?_
       refine wl_off rfl rfl rfl (freshS_eq rfl) ?_
       refine wl_off rfl rfl rfl (freshS_eq rfl) ?_
       refine wl_pure rfl rfl rfl (freshS_eq rfl) rfl ?_
       refine wl_pure rfl rfl rfl (freshS_eq rfl) rfl ?_
       refine wl_off rfl rfl rfl (freshS_eq rfl) ?_
       refine wl_off rfl rfl rfl (freshS_eq rfl) ?_
       refine wl_pure rfl rfl rfl (freshS_eq rfl) rfl ?_
       refine wl_pure rfl rfl rfl (freshS_eq rfl) rfl ?_
       refine wl_off rfl rfl rfl (freshS_eq rfl) ?_
       refine wl_off rfl rfl rfl (freshS_eq rfl) ?_
       refine wl_pure rfl rfl rfl (freshS_eq rfl) rfl ?_
       refine wl_pure rfl rfl rfl (freshS_eq rfl) rfl ?_
       refine wl_off rfl rfl rfl (freshS_eq rfl) ?_
       refine wl_off rfl rfl rfl (freshS_eq rfl) ?_
       refine wl_pure rfl rfl rfl (freshS_eq rfl) rfl ?_
       refine wl_pure rfl rfl rfl (freshS_eq rfl) rfl ?_
       refine wl_off rfl rfl rfl (freshS_eq rfl) ?_
       refine wl_off rfl rfl rfl (freshS_eq rfl) ?_
       refine wl_pure rfl rfl rfl (freshS_eq rfl) rfl ?_
       refine wl_pure rfl rfl rfl (freshS_eq rfl) rfl ?_
       refine wl_nil ?_
       have hE := (Option.some.inj hm).symm
       refine we_pick [] rfl (H' := []) rfl ?_
       refine we_join false hE [0] rfl (fun _ _ hφ => ask [] rfl hφ) rfl
     ·
      replace hm := iteF hm hs78
      refine wl_off rfl rfl rfl (freshS_eq rfl) ?_
      refine wl_off rfl rfl rfl (freshS_eq rfl) ?_
      refine wl_pure rfl rfl rfl (freshS_eq rfl) rfl ?_
      refine wl_pure rfl rfl rfl (freshS_eq rfl) rfl ?_
      refine wl_off rfl rfl rfl (freshS_eq rfl) ?_
      refine wl_off rfl rfl rfl (freshS_eq rfl) ?_
      refine wl_off rfl rfl rfl (freshS_eq rfl) ?_
      refine wl_pure rfl rfl rfl (freshS_eq rfl) rfl ?_
      refine wl_pure rfl rfl rfl (freshS_eq rfl) rfl ?_
      refine wl_off rfl rfl rfl (freshS_eq rfl) ?_
      refine wl_pure rfl rfl rfl (freshS_eq rfl) rfl ?_
      refine wl_pure rfl rfl rfl (freshS_eq rfl) rfl ?_
      refine wl_off rfl rfl rfl (freshS_eq rfl) ?_
      refine wl_off rfl rfl rfl (freshS_eq rfl) ?_
      refine wl_pure rfl rfl rfl (freshS_eq rfl) rfl ?_
      refine wl_pure rfl rfl rfl (freshS_eq rfl) rfl ?_
      refine wl_off rfl rfl rfl (freshS_eq rfl) ?_
      refine wl_off rfl rfl rfl (freshS_eq rfl) ?_
      refine wl_pure rfl rfl rfl (freshS_eq rfl) rfl ?_
      refine wl_pure rfl rfl rfl (freshS_eq rfl) rfl ?_
      refine wl_off rfl rfl rfl (freshS_eq rfl) ?_
      refine wl_off rfl rfl rfl (freshS_eq rfl) ?_
      refine wl_pure rfl rfl rfl (freshS_eq rfl) rfl ?_
      refine wl_pure rfl rfl rfl (freshS_eq rfl) rfl ?_
      refine wl_off rfl rfl rfl (freshS_eq rfl) ?_
      refine wl_off rfl rfl rfl (freshS_eq rfl) ?_
      refine wl_pure rfl rfl rfl (freshS_eq rfl) rfl ?_
      refine wl_pure rfl rfl rfl (freshS_eq rfl) rfl ?_
      refine wl_off rfl rfl rfl (freshS_eq rfl) ?_
      refine wl_off rfl rfl rfl (freshS_eq rfl) ?_
      refine wl_pure rfl rfl rfl (freshS_eq rfl) rfl ?_
      refine wl_pure rfl rfl rfl (freshS_eq rfl) rfl ?_
      refine wl_off rfl rfl rfl (freshS_eq rfl) ?_
      refine wl_off rfl rfl rfl (freshS_eq rfl) ?_
      refine wl_pure rfl rfl rfl (freshS_eq rfl) rfl ?_
      refine wl_pure rfl rfl rfl (freshS_eq rfl) rfl ?_
      refine wl_off rfl rfl rfl (freshS_eq rfl) ?_
      refine wl_off rfl rfl rfl (freshS_eq rfl) ?_
      refine wl_pure rfl rfl rfl (freshS_eq rfl) rfl ?_
      refine wl_pure rfl rfl rfl (freshS_eq rfl) rfl ?_
      refine wl_nil ?_
      have hE := (Option.some.inj hm).symm
      refine we_pick [] rfl (H' := []) rfl ?_
      refine we_join false hE [0] rfl (fun _ _ hφ => ask [] rfl hφ) rfl
    ·
     replace hm := iteF hm hs74
     refine wl_off rfl rfl rfl (freshS_eq rfl) ?_
     refine wl_off rfl rfl rfl (freshS_eq rfl) ?_
     refine wl_pure rfl rfl rfl (freshS_eq rfl) rfl ?_
     refine wl_pure rfl rfl rfl (freshS_eq rfl) rfl ?_
     refine wl_off rfl rfl rfl (freshS_eq rfl) ?_
     refine wl_off rfl rfl rfl (freshS_eq rfl) ?_
     refine wl_pure rfl rfl rfl (freshS_eq rfl) rfl ?_
     refine wl_pure rfl rfl rfl (freshS_eq rfl) rfl ?_
     refine wl_off rfl rfl rfl (freshS_eq rfl) ?_
     refine wl_off rfl rfl rfl (freshS_eq rfl) ?_
     refine wl_off rfl rfl rfl (freshS_eq rfl) ?_
     refine wl_pure rfl rfl rfl (freshS_eq rfl) rfl ?_
     refine wl_pure rfl rfl rfl (freshS_eq rfl) rfl ?_
     refine wl_off rfl rfl rfl (freshS_eq rfl) ?_
     refine wl_pure rfl rfl rfl (freshS_eq rfl) rfl ?_
     refine wl_pure rfl rfl rfl (freshS_eq rfl) rfl ?_
     refine wl_off rfl rfl rfl (freshS_eq rfl) ?_
     refine wl_off rfl rfl rfl (freshS_eq rfl) ?_
     refine wl_pure rfl rfl rfl (freshS_eq rfl) rfl ?_
     refine wl_pure rfl rfl rfl (freshS_eq rfl) rfl ?_
     refine wl_off rfl rfl rfl (freshS_eq rfl) ?_
     refine wl_off rfl rfl rfl (freshS_eq rfl) ?_
     refine wl_pure rfl rfl rfl (freshS_eq rfl) rfl ?_
     refine wl_pure rfl rfl rfl (freshS_eq rfl) rfl ?_
     refine wl_off rfl rfl rfl (freshS_eq rfl) ?_
     refine wl_off rfl rfl rfl (freshS_eq rfl) ?_
     refine wl_pure rfl rfl rfl (freshS_eq rfl) rfl ?_
     refine wl_pure rfl rfl rfl (freshS_eq rfl) rfl ?_
     refine wl_off rfl rfl rfl (freshS_eq rfl) ?_
     refine wl_off rfl rfl rfl (freshS_eq rfl) ?_
     refine wl_pure rfl rfl rfl (freshS_eq rfl) rfl ?_
     refine wl_pure rfl rfl rfl (freshS_eq rfl) rfl ?_
     refine wl_off rfl rfl rfl (freshS_eq rfl) ?_
     refine wl_off rfl rfl rfl (freshS_eq rfl) ?_
     refine wl_pure rfl rfl rfl (freshS_eq rfl) rfl ?_
     refine wl_pure rfl rfl rfl (freshS_eq rfl) rfl ?_
     refine wl_off rfl rfl rfl (freshS_eq rfl) ?_
     refine wl_off rfl rfl rfl (freshS_eq rfl) ?_
     refine wl_pure rfl rfl rfl (freshS_eq rfl) rfl ?_
     refine wl_pure rfl rfl rfl (freshS_eq rfl) rfl ?_
     refine wl_off rfl rfl rfl (freshS_eq rfl) ?_
     refine wl_off rfl rfl rfl (freshS_eq rfl) ?_
     refine wl_pure rfl rfl rfl (freshS_eq rfl) rfl ?_
     refine wl_pure rfl rfl rfl (freshS_eq rfl) rfl ?_
     refine wl_nil ?_
     have hE := (Option.some.inj hm).symm
     refine we_pick [] rfl (H' := []) rfl ?_
     refine we_join false hE [0] rfl (fun _ _ hφ => ask [] rfl hφ) rfl
   ·
    replace hm := iteF hm hs70
    refine wl_off rfl rfl rfl (freshS_eq rfl) ?_
    refine wl_off rfl rfl rfl (freshS_eq rfl) ?_
    refine wl_pure rfl rfl rfl (freshS_eq rfl) rfl ?_
    refine wl_pure rfl rfl rfl (freshS_eq rfl) rfl ?_
    refine wl_off rfl rfl rfl (freshS_eq rfl) ?_
    refine wl_off rfl rfl rfl (freshS_eq rfl) ?_
    refine wl_pure rfl rfl rfl (freshS_eq rfl) rfl ?_
    refine wl_pure rfl rfl rfl (freshS_eq rfl) rfl ?_
    refine wl_off rfl rfl rfl (freshS_eq rfl) ?_
    refine wl_off rfl rfl rfl (freshS_eq rfl) ?_
    refine wl_pure rfl rfl rfl (freshS_eq rfl) rfl ?_
    refine wl_pure rfl rfl rfl (freshS_eq rfl) rfl ?_
    refine wl_off rfl rfl rfl (freshS_eq rfl) ?_
    refine wl_off rfl rfl rfl (freshS_eq rfl) ?_
    refine wl_off rfl rfl rfl (freshS_eq rfl) ?_
    refine wl_pure rfl rfl rfl (freshS_eq rfl) rfl ?_
    refine wl_pure rfl rfl rfl (freshS_eq rfl) rfl ?_
    refine wl_off rfl rfl rfl (freshS_eq rfl) ?_
    refine wl_pure rfl rfl rfl (freshS_eq rfl) rfl ?_
    refine wl_pure rfl rfl rfl (freshS_eq rfl) rfl ?_
    refine wl_off rfl rfl rfl (freshS_eq rfl) ?_
    refine wl_off rfl rfl rfl (freshS_eq rfl) ?_
    refine wl_pure rfl rfl rfl (freshS_eq rfl) rfl ?_
    refine wl_pure rfl rfl rfl (freshS_eq rfl) rfl ?_
    refine wl_off rfl rfl rfl (freshS_eq rfl) ?_
    refine wl_off rfl rfl rfl (freshS_eq rfl) ?_
    refine wl_pure rfl rfl rfl (freshS_eq rfl) rfl ?_
    refine wl_pure rfl rfl rfl (freshS_eq rfl) rfl ?_
    refine wl_off rfl rfl rfl (freshS_eq rfl) ?_
    refine wl_off rfl rfl rfl (freshS_eq rfl) ?_
    refine wl_pure rfl rfl rfl (freshS_eq rfl) rfl ?_
    refine wl_pure rfl rfl rfl (freshS_eq rfl) rfl ?_
    refine wl_off rfl rfl rfl (freshS_eq rfl) ?_
    refine wl_off rfl rfl rfl (freshS_eq rfl) ?_
    refine wl_pure rfl rfl rfl (freshS_eq rfl) rfl ?_
    refine wl_pure rfl rfl rfl (freshS_eq rfl) rfl ?_
    refine wl_off rfl rfl rfl (freshS_eq rfl) ?_
    refine wl_off rfl rfl rfl (freshS_eq rfl) ?_
    refine wl_pure rfl rfl rfl (freshS_eq rfl) rfl ?_
    refine wl_pure rfl rfl rfl (freshS_eq rfl) rfl ?_
    refine wl_off rfl rfl rfl (freshS_eq rfl) ?_
    refine wl_off rfl rfl rfl (freshS_eq rfl) ?_
    refine wl_pure rfl rfl rfl (freshS_eq rfl) rfl ?_
    refine wl_pure rfl rfl rfl (freshS_eq rfl) rfl ?_
    refine wl_off rfl rfl rfl (freshS_eq rfl) ?_
    refine wl_off rfl rfl rfl (freshS_eq rfl) ?_
    refine wl_pure rfl rfl rfl (freshS_eq rfl) rfl ?_
    refine wl_pure rfl rfl rfl (freshS_eq rfl) rfl ?_
    refine wl_nil ?_
    have hE := (Option.some.inj hm).symm
    refine we_pick [] rfl (H' := []) rfl ?_
    refine we_join false hE [0] rfl (fun _ _ hφ => ask [] rfl hφ) rfl
  ·
   replace hm := iteF hm hs66
   refine wl_off rfl rfl rfl (freshS_eq rfl) ?_
   refine wl_off rfl rfl rfl (freshS_eq rfl) ?_
   refine wl_pure rfl rfl rfl (freshS_eq rfl) rfl ?_
   refine wl_pure rfl rfl rfl (freshS_eq rfl) rfl ?_
   refine wl_off rfl rfl rfl (freshS_eq rfl) ?_
   refine wl_off rfl rfl rfl (freshS_eq rfl) ?_
   refine wl_pure rfl rfl rfl (freshS_eq rfl) rfl ?_
   refine wl_pure rfl rfl rfl (freshS_eq rfl) rfl ?_
   refine wl_off rfl rfl rfl (freshS_eq rfl) ?_
   refine wl_off rfl rfl rfl (freshS_eq rfl) ?_
   refine wl_pure rfl rfl rfl (freshS_eq rfl) rfl ?_
   refine wl_pure rfl rfl rfl (freshS_eq rfl) rfl ?_
   refine wl_off rfl rfl rfl (freshS_eq rfl) ?_
   refine wl_off rfl rfl rfl (freshS_eq rfl) ?_
   refine wl_pure rfl rfl rfl (freshS_eq rfl) rfl ?_
   refine wl_pure rfl rfl rfl (freshS_eq rfl) rfl ?_
   refine wl_off rfl rfl rfl (freshS_eq rfl) ?_
   refine wl_off rfl rfl rfl (freshS_eq rfl) ?_
   refine wl_off rfl rfl rfl (freshS_eq rfl) ?_
   refine wl_pure rfl rfl rfl (freshS_eq rfl) rfl ?_
   refine wl_pure rfl rfl rfl (freshS_eq rfl) rfl ?_
   refine wl_off rfl rfl rfl (freshS_eq rfl) ?_
   refine wl_pure rfl rfl rfl (freshS_eq rfl) rfl ?_
   refine wl_pure rfl rfl rfl (freshS_eq rfl) rfl ?_
   refine wl_off rfl rfl rfl (freshS_eq rfl) ?_
   refine wl_off rfl rfl rfl (freshS_eq rfl) ?_
   refine wl_pure rfl rfl rfl (freshS_eq rfl) rfl ?_
   refine wl_pure rfl rfl rfl (freshS_eq rfl) rfl ?_
   refine wl_off rfl rfl rfl (freshS_eq rfl) ?_
   refine wl_off rfl rfl rfl (freshS_eq rfl) ?_
   refine wl_pure rfl rfl rfl (freshS_eq rfl) rfl ?_
   refine wl_pure rfl rfl rfl (freshS_eq rfl) rfl ?_
   refine wl_off rfl rfl rfl (freshS_eq rfl) ?_
   refine wl_off rfl rfl rfl (freshS_eq rfl) ?_
   refine wl_pure rfl rfl rfl (freshS_eq rfl) rfl ?_
   refine wl_pure rfl rfl rfl (freshS_eq rfl) rfl ?_
   refine wl_off rfl rfl rfl (freshS_eq rfl) ?_
   refine wl_off rfl rfl rfl (freshS_eq rfl) ?_
   refine wl_pure rfl rfl rfl (freshS_eq rfl) rfl ?_
   refine wl_pure rfl rfl rfl (freshS_eq rfl) rfl ?_
   refine wl_off rfl rfl rfl (freshS_eq rfl) ?_
   refine wl_off rfl rfl rfl (freshS_eq rfl) ?_
   refine wl_pure rfl rfl rfl (freshS_eq rfl) rfl ?_
   refine wl_pure rfl rfl rfl (freshS_eq rfl) rfl ?_
   refine wl_off rfl rfl rfl (freshS_eq rfl) ?_
   refine wl_off rfl rfl rfl (freshS_eq rfl) ?_
   refine wl_pure rfl rfl rfl (freshS_eq rfl) rfl ?_
   refine wl_pure rfl rfl rfl (freshS_eq rfl) rfl ?_
   refine wl_off rfl rfl rfl (freshS_eq rfl) ?_
   refine wl_off rfl rfl rfl (freshS_eq rfl) ?_
   refine wl_pure rfl rfl rfl (freshS_eq rfl) rfl ?_
   refine wl_pure rfl rfl rfl (freshS_eq rfl) rfl ?_
   refine wl_nil ?_
   have hE := (Option.some.inj hm).symm
   refine we_pick [] rfl (H' := []) rfl ?_
   refine we_join false hE [0] rfl (fun _ _ hφ => ask [] rfl hφ) rfl
 ·
  rintro j_1_0 hE
  try dsimp only
  have hm := hLj_1
  rw [hE] at hm
  refine wc_ret ?_
  have hE := (Option.some.inj hm).symm
  replace hE := hE.symm
  subst hE
  refine ret_one (Hr := []) [] Try.results6 (res_tmp rfl) ⟨rfl, rfl, rfl⟩ (fun _ _ hφ => ask [] rfl hφ) rfl rfl (.inl rfl)
set_option maxRecDepth 100000 in
set_option maxHeartbeats 4000000 in
theorem m_ropewalklaw27_great_s (N : Nat) (a0 : Int) (a1 : Int) (qp2 : Option Addr) (qc3 : Nat) (l4 : List FactD) (qp5 : Option Addr) (qc6 : Nat) (l7 : List V) (o0 : Bool) (hm : m_ropewalklaw27_great N a0 a1 l4 l7 = some o0) : Spec Try.prog 16 [.agg #[.int .i64 a0, .int .i64 a1, .slice qp2 l4.length qc3, .slice qp5 l7.length qc6]] [.sli 3 R_FactD qp2 qc3 l4, .sli 3 R_V qp5 qc6 l7] [] (fun v Φr Hr => v = .bool o0 ∧ Φr = [] ∧ Hr = []) := by
 unfold m_ropewalklaw27_great at hm
 refine spec_of Try.func16 rfl Try.ntmps16 rfl (S := [_]) rfl (fun C => ?_)
 refine wc_seq ?_
 refine wc_region ?_
 refine wl_box rfl rfl rfl (freshS_eq rfl) rfl rfl rfl (fun g1 => ?_)
 refine wl_pure rfl rfl rfl (freshS_eq rfl) rfl ?_
 refine wl_nil ?_
 refine we_then ?_
 refine wc_keep [1] (S' := [_]) rfl ?_
 refine wc_seq ?_
 refine wc_region ?_
 refine wl_fieldAddr rfl rfl rfl (freshS_eq rfl) rfl rfl tF_32_2 ?_
 refine wl_loadH 0 2 rfl rfl rfl (freshS_eq rfl) rfl rfl rfl (cs := [_]) rfl tS_29 tA_29 rfl rfl ?_
 refine wl_len rfl rfl rfl (freshS_eq rfl) rfl rfl tE_29 ?_
 refine wl_fieldAddr rfl rfl rfl (freshS_eq rfl) rfl rfl tF_32_3 ?_
 refine wl_loadH 0 3 rfl rfl rfl (freshS_eq rfl) rfl rfl rfl (cs := [_]) rfl tS_30 tA_30 rfl rfl ?_
 refine wl_len rfl rfl rfl (freshS_eq rfl) rfl rfl tE_30 ?_
 refine wl_pure rfl rfl rfl (freshS_eq rfl) rfl ?_
 obtain ⟨hg11, hm⟩ := gd_some hm
 refine wl_as (d := 11) (v' := .int .i64 ((l4.length + l7.length : Nat) : Int)) (S' := [_,_,_,_,_,_,_]) rfl rfl (nat_add (a := l4.length) (b := l7.length) hg11) ?_
 refine wl_pure rfl rfl rfl (freshS_eq rfl) rfl ?_
 refine wl_nil ?_
 refine we_then ?_
 refine wc_keep [3, 1] (S' := [_,_]) rfl ?_
 refine wc_seq ?_
 obtain ⟨bj_1, hm, hLj_1⟩ := bindO_some hm
 refine wc_cut (σ := Nat) (fun j_1_3 => bj_1 = j_1_3) (fun j_1_3 => [(3, .int .i64 ((j_1_3 : Nat) : Int))]) (fun j_1_3 => []) (fun j_1_3 => []) ?_ ?_
 ·
  refine wc_seq ?_
  refine wc_region ?_
  refine wl_pure rfl rfl rfl (freshS_eq rfl) rfl ?_
  refine wl_nil ?_
  refine we_then ?_
  refine wc_block ?_
  refine wc_loop (σ := Nat × Nat × Nat) (fun (nu1, u1_4, u1_3) => iter (m_ropewalklaw27_great_L1 N l4) nu1 (u1_4, u1_3) = some bj_1) (fun (nu1, u1_4, u1_3) => nu1) (fun (nu1, u1_4, u1_3) => [(4, .int .i64 ((u1_4 : Nat) : Int)), (3, .int .i64 ((u1_3 : Nat) : Int)), (1, .pointer (some ⟨g1, 0, none⟩))]) (fun (nu1, u1_4, u1_3) => [.sli 3 R_FactD qp2 qc3 l4, .sli 3 R_V qp5 qc6 l7]) (fun (nu1, u1_4, u1_3) => [.blk g1 [.int .i64 a0, .int .i64 a1, .slice qp2 l4.length qc3, .slice qp5 l7.length qc6] 32]) (N, 0, l4.length + l7.length) hm [4, 3, 1] rfl (fun _ _ hφ => ask [0, 1] rfl hφ) rfl (fun s_ hm => ?_)
  obtain ⟨nu1, u1_4, u1_3⟩ := s_
  try dsimp only at hm ⊢
  obtain ⟨mu1, bu1, hnu1, hq, hLu1⟩ := iter_some hm
  clear hm
  subst hnu1
  replace hm := hq
  clear hq
  unfold m_ropewalklaw27_great_L1 at hm
  try dsimp only at hm
  refine wc_seq ?_
  refine wc_seq ?_
  obtain ⟨bj_2, hm, hLj_2⟩ := bindO_some hm
  refine wc_cut (σ := Bool) (fun j_2_20 => bj_2 = j_2_20) (fun j_2_20 => [(4, .int .i64 ((u1_4 : Nat) : Int)), (3, .int .i64 ((u1_3 : Nat) : Int)), (1, .pointer (some ⟨g1, 0, none⟩)), (20, .bool j_2_20)]) (fun j_2_20 => [.sli 3 R_FactD qp2 qc3 l4, .sli 3 R_V qp5 qc6 l7]) (fun j_2_20 => [.blk g1 [.int .i64 a0, .int .i64 a1, .slice qp2 l4.length qc3, .slice qp5 l7.length qc6] 32]) ?_ ?_
  ·
   refine wc_region ?_
   refine wl_pure rfl rfl rfl (freshS_eq rfl) rfl ?_
   refine wl_fieldAddr rfl rfl rfl (freshS_eq rfl) rfl rfl tF_32_2 ?_
   refine wl_loadH 0 2 rfl rfl rfl (freshS_eq rfl) rfl rfl rfl (cs := [_]) rfl tS_29 tA_29 rfl rfl ?_
   refine wl_len rfl rfl rfl (freshS_eq rfl) rfl rfl tE_29 ?_
   refine wl_pure rfl rfl rfl (freshS_eq rfl) rfl ?_
   refine wl_as (d := 16) (v' := .bool (decide (u1_4 < l4.length))) (S' := [_,_,_,_,_,_,_]) rfl rfl (natlt (a := u1_4) (b := l4.length)) ?_
   refine wl_pure rfl rfl rfl (freshS_eq rfl) rfl ?_
   refine wl_split (d := 17) (S' := [_,_,_,_,_,_,_,_]) rfl rfl (fun hs17 => ?_) (fun hs17 => ?_)
   ·
    replace hm := iteT hm hs17
    refine wl_pure rfl rfl rfl (freshS_eq rfl) rfl ?_
    refine wl_pure rfl rfl rfl (freshS_eq rfl) rfl ?_
    refine wl_as (d := 19) (v' := .bool (decide (u1_3 ≤ 200))) (S' := [_,_,_,_,_,_,_,_,_,_]) rfl rfl (natle (a := u1_3) (b := 200)) ?_
    refine wl_pure rfl rfl rfl (freshS_eq rfl) rfl ?_
    refine wl_nil ?_
    have hE := (Option.some.inj hm).symm
    refine we_join (decide (u1_3 ≤ 200)) hE [4, 3, 1, 20] rfl (fun _ _ hφ => ask [0, 1] rfl hφ) rfl
   ·
    replace hm := iteF hm hs17
    refine wl_off rfl rfl rfl (freshS_eq rfl) ?_
    refine wl_off rfl rfl rfl (freshS_eq rfl) ?_
    refine wl_pure rfl rfl rfl (freshS_eq rfl) rfl ?_
    refine wl_nil ?_
    have hE := (Option.some.inj hm).symm
    refine we_join false hE [4, 3, 1, 20] rfl (fun _ _ hφ => ask [0, 1] rfl hφ) rfl
  ·
   rintro j_2_20 hE
   try dsimp only
   have hm := hLj_2
   rw [hE] at hm
   refine wc_cond rfl (fun hb20 => ?_) (fun hb20 => ?_)
   ·
    replace hm := iteT hm hb20
    refine wc_keep [4, 3, 1] (S' := [_,_,_]) rfl ?_
    refine wc_skip ?_
    refine we_then ?_
    refine wc_seq ?_
    refine wc_block ?_
    refine wc_region ?_
    refine wl_pure rfl rfl rfl (freshS_eq rfl) rfl ?_
    refine wl_fieldAddr rfl rfl rfl (freshS_eq rfl) rfl rfl tF_32_2 ?_
    refine wl_loadH 0 2 rfl rfl rfl (freshS_eq rfl) rfl rfl rfl (cs := [_]) rfl tS_29 tA_29 rfl rfl ?_
    refine wl_pure rfl rfl rfl (freshS_eq rfl) rfl ?_
    obtain ⟨x27, hx27, hm⟩ := bindO_some hm
    refine wl_indexA 0 u1_4 rfl rfl rfl (freshS_eq rfl) rfl rfl rfl rfl rfl hx27 tE_29 tS_70 (fun b27 q27 cs27 hlx27 => ?_)
    refine wl_open R_FactD_opens 1 rfl (fun r27 er27 _ => ?_)
    subst er27
    refine wl_fieldAddr rfl rfl rfl (freshS_eq rfl) rfl rfl tF_70_2 ?_
    refine wl_load 1 2 rfl rfl rfl (freshS_eq rfl) rfl rfl rfl (cs := [_]) rfl tS_30 tA_30 rfl rfl ?_
    refine wl_len rfl rfl rfl (freshS_eq rfl) rfl rfl tE_30 ?_
    refine wl_pure rfl rfl rfl (freshS_eq rfl) rfl ?_
    obtain ⟨hg31, hm⟩ := gd_some hm
    refine wl_as (d := 31) (v' := .int .i64 ((u1_3 + x27.args.length : Nat) : Int)) (S' := [_,_,_,_,_,_,_,_,_,_,_]) rfl rfl (nat_add (a := u1_3) (b := x27.args.length) hg31) ?_
    refine wl_pure (S' := [_,_,_,_,_,_,_,_,_,_,_]) rfl rfl rfl rfl rfl ?_
    refine wl_nil ?_
    refine we_block_normal ?_
    refine we_then ?_
    refine wc_keep [3, 4, 1] (S' := [_,_,_]) rfl ?_
    refine wc_region ?_
    refine wl_pure rfl rfl rfl (freshS_eq rfl) rfl ?_
    refine wl_pure rfl rfl rfl (freshS_eq rfl) rfl ?_
    obtain ⟨hg22, hm⟩ := gd_some hm
    refine wl_as (d := 22) (v' := .int .i64 ((u1_4 + 1 : Nat) : Int)) (S' := [_,_,_,_]) rfl rfl (nat_add (a := u1_4) (b := 1) hg22) ?_
    refine wl_pure (S' := [_,_,_,_]) rfl rfl rfl rfl rfl ?_
    refine wl_nil ?_
    have hE := (Option.some.inj hm).symm
    replace hE := link_inl hLu1 hE
    refine we_roundK (_, u1_4 + 1, u1_3 + x27.args.length) (Nat.lt_succ_self _) hE [4, 3, 1] rfl (fun _ _ hφ => ask [3, 4] rfl hφ) rfl
   ·
    replace hm := iteF hm hb20
    refine wc_keep [3] (S' := [_]) rfl ?_
    refine wc_exit ?_
    refine we_then_exit ?_
    refine we_then_exit ?_
    refine we_block_hit ?_
    have hE := (Option.some.inj hm).symm
    replace hE := link_inr hLu1 hE
    refine we_pick [] rfl (H' := []) rfl ?_
    refine we_join u1_3 hE [3] rfl (fun _ _ hφ => ask [] rfl hφ) rfl
 ·
  rintro j_1_3 hE
  try dsimp only
  have hm := hLj_1
  rw [hE] at hm
  refine wc_seq ?_
  refine wc_region ?_
  refine wl_pure rfl rfl rfl (freshS_eq rfl) rfl ?_
  refine wl_pure rfl rfl rfl (freshS_eq rfl) rfl ?_
  refine wl_as (d := 33) (v' := .bool (decide (200 < j_1_3))) (S' := [_,_]) rfl rfl (natgt (a := j_1_3) (b := 200)) ?_
  refine wl_pure rfl rfl rfl (freshS_eq rfl) rfl ?_
  refine wl_nil ?_
  refine we_then ?_
  refine wc_keep [2] (S' := [_]) rfl ?_
  refine wc_ret ?_
  have hE := (Option.some.inj hm).symm
  replace hE := hE.symm
  subst hE
  refine ret_one (Hr := []) [] Try.results16 (res_tmp rfl) ⟨rfl, rfl, rfl⟩ (fun _ _ hφ => ask [] rfl hφ) rfl rfl (.inl rfl)
set_option maxRecDepth 100000 in
set_option maxHeartbeats 4000000 in
theorem m_ropewalkkit_Pick_s (N : Nat) (a0 : Int) (a1 : Int) (o0 : Int) (hm : m_ropewalkkit_Pick N a0 a1 = some o0) : Spec Try.prog 8 [.int .i64 a0, .int .i64 a1] [] [] (fun v Φr Hr => v = .int .i64 o0 ∧ Φr = [] ∧ Hr = []) := by
 unfold m_ropewalkkit_Pick at hm
 refine spec_of Try.func8 rfl Try.ntmps8 rfl (S := [_,_]) rfl (fun C => ?_)
 refine wc_seq ?_
 refine wc_region ?_
 refine wl_pure rfl rfl rfl (freshS_eq rfl) rfl ?_
 refine wl_nil ?_
 refine we_then ?_
 refine wc_keep [0, 1] (S' := [_,_]) rfl ?_
 refine wc_seq ?_
 refine wc_seq ?_
 refine wc_region ?_
 refine wl_pure rfl rfl rfl (freshS_eq rfl) rfl ?_
 refine wl_pure rfl rfl rfl (freshS_eq rfl) rfl ?_
 refine wl_nil ?_
 refine we_then ?_
 refine wc_keep [6, 0, 1] (S' := [_,_,_]) rfl ?_
 refine wc_cond rfl (fun hb6 => ?_) (fun hb6 => ?_)
 ·
  replace hm := iteT hm hb6
  refine wc_keep [] (S' := []) rfl ?_
  refine wc_seq ?_
  refine wc_region ?_
  refine wl_pure rfl rfl rfl (freshS_eq rfl) rfl ?_
  refine wl_nil ?_
  refine we_then ?_
  refine wc_ret ?_
  refine we_then_ret ?_
  have hE := (Option.some.inj hm).symm
  replace hE := hE.symm
  subst hE
  refine ret_one (Hr := []) [] Try.results8 (res_tmp rfl) ⟨rfl, rfl, rfl⟩ (fun _ _ hφ => ask [] rfl hφ) rfl rfl (.inl rfl)
 ·
  replace hm := iteF hm hb6
  refine wc_keep [0, 1] (S' := [_,_]) rfl ?_
  refine wc_skip ?_
  refine we_then ?_
  refine wc_seq ?_
  refine wc_region ?_
  refine wl_pure rfl rfl rfl (freshS_eq rfl) rfl ?_
  refine wl_pure rfl rfl rfl (freshS_eq rfl) rfl ?_
  obtain ⟨hg9, hm⟩ := gd_some hm
  refine wl_bin rfl rfl rfl (freshS_eq rfl) rfl rfl rfl (run_rem hg9) ?_
  refine wl_pure (S' := [_,_,_,_]) rfl rfl rfl rfl rfl ?_
  refine wl_nil ?_
  refine we_then ?_
  refine wc_keep [0, 1] (S' := [_,_]) rfl ?_
  refine wc_seq ?_
  obtain ⟨bj_1, hm, hLj_1⟩ := bindO_some hm
  refine wc_cut (σ := Int) (fun j_1_0 => bj_1 = j_1_0) (fun j_1_0 => [(0, .int .i64 j_1_0)]) (fun j_1_0 => []) (fun j_1_0 => []) ?_ ?_
  ·
   refine wc_seq ?_
   refine wc_region ?_
   refine wl_pure rfl rfl rfl (freshS_eq rfl) rfl ?_
   refine wl_pure rfl rfl rfl (freshS_eq rfl) rfl ?_
   refine wl_nil ?_
   refine we_then ?_
   refine wc_keep [11, 0, 1] (S' := [_,_,_]) rfl ?_
   refine wc_cond rfl (fun hb11 => ?_) (fun hb11 => ?_)
   ·
    replace hm := iteT hm hb11
    refine wc_keep [0, 1] (S' := [_,_]) rfl ?_
    refine wc_region ?_
    refine wl_pure rfl rfl rfl (freshS_eq rfl) rfl ?_
    refine wl_pure rfl rfl rfl (freshS_eq rfl) rfl ?_
    refine wl_pure rfl rfl rfl (freshS_eq rfl) rfl ?_
    obtain ⟨hg14, hm⟩ := gd_some hm
    refine wl_as (d := 14) (v' := .int .i64 ((Int.tmod a0 a1) + a1)) (S' := [_,_,_,_]) rfl rfl (i64_in hg14) ?_
    refine wl_pure (S' := [_,_,_,_]) rfl rfl rfl rfl rfl ?_
    refine wl_nil ?_
    have hE := (Option.some.inj hm).symm
    refine we_join ((Int.tmod a0 a1) + a1) hE [0] rfl (fun _ _ hφ => ask [] rfl hφ) rfl
   ·
    replace hm := iteF hm hb11
    refine wc_keep [0] (S' := [_]) rfl ?_
    refine wc_skip ?_
    have hE := (Option.some.inj hm).symm
    refine we_join (Int.tmod a0 a1) hE [0] rfl (fun _ _ hφ => ask [] rfl hφ) rfl
  ·
   rintro j_1_0 hE
   try dsimp only
   have hm := hLj_1
   rw [hE] at hm
   refine wc_seq ?_
   refine wc_region ?_
   refine wl_pure rfl rfl rfl (freshS_eq rfl) rfl ?_
   refine wl_pure rfl rfl rfl (freshS_eq rfl) rfl ?_
   refine wl_nil ?_
   refine we_then ?_
   refine wc_keep [4] (S' := [_]) rfl ?_
   refine wc_ret ?_
   have hE := (Option.some.inj hm).symm
   replace hE := hE.symm
   subst hE
   refine ret_one (Hr := []) [] Try.results8 (res_tmp rfl) ⟨rfl, rfl, rfl⟩ (fun _ _ hφ => ask [] rfl hφ) rfl rfl (.inl rfl)
set_option maxRecDepth 100000 in
set_option maxHeartbeats 4000000 in
theorem m_ropewalklaw27_do_s (N : Nat) (qg0 : Nat) (qp1 : Option Addr) (qn2 : Nat) (qc3 : Nat) (l4 : List SessD) (a5 : Int) (a6 : Int) (a7 : Int) (a8 : Int) (a9 : Int) (a10 : Int) (qp11 : Option Addr) (qc12 : Nat) (l13 : List FactD) (qp14 : Option Addr) (qc15 : Nat) (l16 : List V) (o0 : Nat) (o3 : List SessD) (o5 : Int) (hm : m_ropewalklaw27_do N l4 a5 a6 a7 a8 a9 a10 l13 l16 = some (o0, o3, o5)) : Spec Try.prog 17 [.pointer (some ⟨qg0, 0, none⟩), .agg #[.int .i64 a6, .int .i64 a7, .int .i64 a8, .int .i64 a9, .int .i64 a10, .slice qp11 l13.length qc12, .slice qp14 l16.length qc15]] [.sli 3 R_FactD qp11 qc12 l13, .sli 3 R_V qp14 qc15 l16] [.blk qg0 [.slice qp1 qn2 qc3, .int .i64 a5] 50, .own 62 6 R_SessD (.slice qp1 qn2 qc3) l4] (fun v Φr Hr => ∃ (o1 : Option Addr) (o2 : Nat) (o4 : Nat), v = .int .i64 ((o0 : Nat) : Int) ∧ Φr = [] ∧ Hr = [.blk qg0 [.slice o1 o4 o2, .int .i64 o5] 50, .own 62 6 R_SessD (.slice o1 o4 o2) o3]) := by
 unfold m_ropewalklaw27_do at hm
 refine spec_of Try.func17 rfl Try.ntmps17 rfl (S := [_,_]) rfl (fun C => ?_)
 refine wc_seq ?_
 refine wc_region ?_
 refine wl_box rfl rfl rfl (freshS_eq rfl) rfl rfl rfl (fun g3 => ?_)
 refine wl_pure rfl rfl rfl (freshS_eq rfl) rfl ?_
 refine wl_nil ?_
 refine we_then ?_
 refine wc_keep [3, 0] (S' := [_,_]) rfl ?_
 refine wc_seq ?_
 refine wc_seq ?_
 refine wc_region ?_
 refine wl_fieldAddr rfl rfl rfl (freshS_eq rfl) rfl rfl tF_34_0 ?_
 refine wl_loadH 0 0 rfl rfl rfl (freshS_eq rfl) rfl rfl rfl (cs := [_]) rfl tS_3 tA_3 rfl rfl ?_
 obtain ⟨v9, hc9, hm⟩ := bindO_some hm
 refine wl_call [] [0, 1, 2] rfl rfl rfl (freshS_eq rfl) rfl rfl fn_8 rfl (m_ropewalkkit_Pick_s N a6 4 _ hc9) (fun _ _ hφ => ask [] rfl hφ) rfl (H' := [_,_,_]) rfl ?_
 rintro _ _ _ ⟨rfl, rfl, rfl⟩
 refine wl_nil ?_
 refine we_then ?_
 refine wc_keep [9, 3, 0] (S' := [_,_,_]) rfl ?_
 refine wc_block ?_
 refine wc_seq ?_
 refine wc_region ?_
 refine wl_pure rfl rfl rfl (freshS_eq rfl) rfl ?_
 refine wl_pure rfl rfl rfl (freshS_eq rfl) rfl ?_
 refine wl_nil ?_
 refine we_then ?_
 refine wc_keep [10, 9, 3, 0] (S' := [_,_,_,_]) rfl ?_
 refine wc_cond rfl (fun hb10 => ?_) (fun hb10 => ?_)
 ·
  replace hm := iteT hm hb10
  refine wc_keep [0] (S' := [_]) rfl ?_
  refine wc_seq ?_
  refine wc_region ?_
  refine wl_pure rfl rfl rfl (freshS_eq rfl) rfl ?_
  obtain ⟨⟨v14_0, v14_1, v14_2, v14_3⟩, hc14, hm⟩ := bindO_some hm
  try dsimp only at hm
  refine wl_call [1, 2] [0] rfl rfl rfl (freshS_eq rfl) rfl rfl fn_9 rfl (m_session_Table_Open_s N qg0 qp1 qn2 qc3 l4 a5 _ _ _ _ hc14) (fun _ _ hφ => ask [] rfl hφ) rfl (H' := [_]) rfl ?_
  rintro _ _ _ ⟨p14_0, c14_1, c14_2, rfl, rfl, rfl⟩
  refine wl_pure rfl rfl rfl (freshS_eq rfl) rfl ?_
  refine wl_pure rfl rfl rfl (freshS_eq rfl) rfl ?_
  refine wl_pure rfl rfl rfl (freshS_eq rfl) rfl ?_
  refine wl_pure rfl rfl rfl (freshS_eq rfl) rfl ?_
  refine wl_pure rfl rfl rfl (freshS_eq rfl) rfl ?_
  refine wl_nil ?_
  refine we_then ?_
  refine wc_keep [6] (S' := [_]) rfl ?_
  refine wc_seq ?_
  refine wc_region ?_
  refine wl_pure rfl rfl rfl (freshS_eq rfl) rfl ?_
  refine wl_pure rfl rfl rfl (freshS_eq rfl) rfl ?_
  refine wl_nil ?_
  refine we_then ?_
  refine wc_keep [4] (S' := [_]) rfl ?_
  refine wc_ret ?_
  refine we_block_ret ?_
  refine we_then_ret ?_
  have hE := (Option.some.inj hm).symm
  obtain ⟨hE0, hF1⟩ := Prod.mk.inj hE
  obtain ⟨hE1, hE2⟩ := Prod.mk.inj hF1
  clear hE hF1
  replace hE0 := hE0.symm
  subst hE0
  replace hE1 := hE1.symm
  subst hE1
  replace hE2 := hE2.symm
  subst hE2
  refine ret_one (Hr := [_, _]) [0, 1] Try.results17 (res_tmp rfl) ⟨p14_0, c14_1, c14_2, rfl, rfl, rfl⟩ (fun _ _ hφ => ask [] rfl hφ) rfl rfl (.inl rfl)
 ·
  replace hm := iteF hm hb10
  refine wc_keep [9, 3, 0] (S' := [_,_,_]) rfl ?_
  refine wc_seq ?_
  refine wc_region ?_
  refine wl_pure rfl rfl rfl (freshS_eq rfl) rfl ?_
  refine wl_pure rfl rfl rfl (freshS_eq rfl) rfl ?_
  refine wl_nil ?_
  refine we_then ?_
  refine wc_keep [18, 3, 0] (S' := [_,_,_]) rfl ?_
  refine wc_cond rfl (fun hb18 => ?_) (fun hb18 => ?_)
  ·
   replace hm := iteT hm hb18
   refine wc_keep [3, 0] (S' := [_,_]) rfl ?_
   refine wc_seq ?_
   refine wc_region ?_
   refine wl_pure rfl rfl rfl (freshS_eq rfl) rfl ?_
   refine wl_fieldAddr rfl rfl rfl (freshS_eq rfl) rfl rfl tF_34_1 ?_
   refine wl_loadH 0 1 rfl rfl rfl (freshS_eq rfl) rfl rfl rfl (cs := [_]) rfl tS_3 tA_3 rfl rfl ?_
   obtain ⟨⟨v23_0, v23_1⟩, hc23, hm⟩ := bindO_some hm
   try dsimp only at hm
   refine wl_call [1, 2] [0] rfl rfl rfl (freshS_eq rfl) rfl rfl fn_11 rfl (m_session_Table_Expire_s N qg0 qp1 qn2 qc3 l4 a5 a7 _ _ hc23) (fun _ _ hφ => ask [] rfl hφ) rfl (H' := [_]) rfl ?_
   rintro _ _ _ ⟨p23_0, c23_1, c23_2, rfl, rfl, rfl⟩
   refine wl_pure rfl rfl rfl (freshS_eq rfl) rfl ?_
   refine wl_nil ?_
   refine we_then ?_
   refine wc_keep [4] (S' := [_]) rfl ?_
   refine wc_ret ?_
   refine we_block_ret ?_
   refine we_then_ret ?_
   have hE := (Option.some.inj hm).symm
   obtain ⟨hE0, hF1⟩ := Prod.mk.inj hE
   obtain ⟨hE1, hE2⟩ := Prod.mk.inj hF1
   clear hE hF1
   replace hE0 := hE0.symm
   subst hE0
   replace hE1 := hE1.symm
   subst hE1
   replace hE2 := hE2.symm
   subst hE2
   refine ret_one (Hr := [_, _]) [0, 1] Try.results17 (res_tmp rfl) ⟨p23_0, c23_1, c23_2, rfl, rfl, rfl⟩ (fun _ _ hφ => ask [] rfl hφ) rfl rfl (.inl rfl)
  ·
   replace hm := iteF hm hb18
   refine wc_keep [3, 0] (S' := [_,_]) rfl ?_
   refine wc_skip ?_
   refine we_block_normal ?_
   refine we_then ?_
   refine wc_seq ?_
   refine wc_region ?_
   refine wl_pure rfl rfl rfl (freshS_eq rfl) rfl ?_
   refine wl_fieldAddr rfl rfl rfl (freshS_eq rfl) rfl rfl tF_34_1 ?_
   refine wl_loadH 0 1 rfl rfl rfl (freshS_eq rfl) rfl rfl rfl (cs := [_]) rfl tS_3 tA_3 rfl rfl ?_
   refine wl_fieldAddr rfl rfl rfl (freshS_eq rfl) rfl rfl tF_34_2 ?_
   refine wl_loadH 0 2 rfl rfl rfl (freshS_eq rfl) rfl rfl rfl (cs := [_]) rfl tS_3 tA_3 rfl rfl ?_
   refine wl_fieldAddr rfl rfl rfl (freshS_eq rfl) rfl rfl tF_34_3 ?_
   refine wl_loadH 0 3 rfl rfl rfl (freshS_eq rfl) rfl rfl rfl (cs := [_,_,_,_]) rfl tS_32 tA_32 rfl rfl ?_
   obtain ⟨⟨v31_0, v31_1⟩, hc31, hm⟩ := bindO_some hm
   try dsimp only at hm
   refine wl_call [1, 2] [0] rfl rfl rfl (freshS_eq rfl) rfl rfl fn_13 rfl (m_session_Table_Done_s N qg0 qp1 qn2 qc3 l4 a5 a7 a8 a9 a10 qp11 qc12 l13 qp14 qc15 l16 _ _ hc31) (fun _ _ hφ => ask [0, 1] rfl hφ) rfl (H' := [_]) rfl ?_
   rintro _ _ _ ⟨rfl, rfl, rfl⟩
   refine wl_pure rfl rfl rfl (freshS_eq rfl) rfl ?_
   refine wl_nil ?_
   refine we_then ?_
   refine wc_keep [4] (S' := [_]) rfl ?_
   refine wc_ret ?_
   have hE := (Option.some.inj hm).symm
   obtain ⟨hE0, hF1⟩ := Prod.mk.inj hE
   obtain ⟨hE1, hE2⟩ := Prod.mk.inj hF1
   clear hE hF1
   replace hE0 := hE0.symm
   subst hE0
   replace hE1 := hE1.symm
   subst hE1
   replace hE2 := hE2.symm
   subst hE2
   refine ret_one (Hr := [_, _]) [0, 1] Try.results17 (res_tmp rfl) ⟨qp1, qc3, qn2, rfl, rfl, rfl⟩ (fun _ _ hφ => ask [] rfl hφ) rfl rfl (.inl rfl)
set_option maxRecDepth 100000 in
set_option maxHeartbeats 4000000 in
theorem m_session_Table_Next_s (N : Nat) (qg0 : Nat) (qp1 : Option Addr) (qn2 : Nat) (qc3 : Nat) (l4 : List SessD) (a5 : Int) (o0 : Int) (hm : m_session_Table_Next N l4 a5 = some o0) : Spec Try.prog 15 [.pointer (some ⟨qg0, 0, none⟩)] [] [.blk qg0 [.slice qp1 qn2 qc3, .int .i64 a5] 50, .own 62 6 R_SessD (.slice qp1 qn2 qc3) l4] (fun v Φr Hr => v = .int .i64 o0 ∧ Φr = [] ∧ Hr = [.blk qg0 [.slice qp1 qn2 qc3, .int .i64 a5] 50, .own 62 6 R_SessD (.slice qp1 qn2 qc3) l4]) := by
 unfold m_session_Table_Next at hm
 refine spec_of Try.func15 rfl Try.ntmps15 rfl (S := [_]) rfl (fun C => ?_)
 refine wc_seq ?_
 refine wc_region ?_
 refine wl_pure rfl rfl rfl (freshS_eq rfl) rfl ?_
 refine wl_nil ?_
 refine we_then ?_
 refine wc_keep [0] (S' := [_]) rfl ?_
 refine wc_seq ?_
 refine wc_seq ?_
 refine wc_region ?_
 refine wl_pure rfl rfl rfl (freshS_eq rfl) rfl ?_
 obtain ⟨_, hc4, hm⟩ := bindO_some hm
 try dsimp only at hm
 refine wl_call [0, 1] [] rfl rfl rfl (freshS_eq rfl) rfl rfl fn_20 rfl (m_session_Table_known_s N qg0 qp1 qn2 qc3 l4 a5 hc4) (fun _ _ hφ => ask [] rfl hφ) rfl (H' := []) rfl ?_
 rintro _ _ _ ⟨rfl, rfl, rfl⟩
 refine wl_pure rfl rfl rfl (freshS_eq rfl) rfl ?_
 refine wl_nil ?_
 refine we_then ?_
 refine wc_keep [5, 0] (S' := [_,_]) rfl ?_
 refine wc_cond rfl (fun hb5 => ?_) (fun hb5 => ?_)
 ·
  replace hm := iteT hm hb5
  refine wc_keep [] (S' := []) rfl ?_
  refine wc_seq ?_
  refine wc_region ?_
  refine wl_pure rfl rfl rfl (freshS_eq rfl) rfl ?_
  refine wl_nil ?_
  refine we_then ?_
  refine wc_ret ?_
  refine we_then_ret ?_
  have hE := (Option.some.inj hm).symm
  replace hE := hE.symm
  subst hE
  refine ret_one (Hr := [_, _]) [0, 1] Try.results15 (res_tmp rfl) ⟨rfl, rfl, rfl⟩ (fun _ _ hφ => ask [] rfl hφ) rfl rfl (.inl rfl)
 ·
  replace hm := iteF hm hb5
  refine wc_keep [0] (S' := [_]) rfl ?_
  refine wc_skip ?_
  refine we_then ?_
  refine wc_seq ?_
  refine wc_region ?_
  refine wl_pure rfl rfl rfl (freshS_eq rfl) rfl ?_
  refine wl_pure rfl rfl rfl (freshS_eq rfl) rfl ?_
  refine wl_fieldAddr rfl rfl rfl (freshS_eq rfl) rfl rfl tF_50_1 ?_
  refine wl_loadH 0 1 rfl rfl rfl (freshS_eq rfl) rfl rfl rfl (cs := [_]) rfl tS_3 tA_3 rfl rfl ?_
  refine wl_pure rfl rfl rfl (freshS_eq rfl) rfl ?_
  refine wl_nil ?_
  refine we_then ?_
  refine wc_keep [2] (S' := [_]) rfl ?_
  refine wc_ret ?_
  have hE := (Option.some.inj hm).symm
  replace hE := hE.symm
  subst hE
  refine ret_one (Hr := [_, _]) [0, 1] Try.results15 (res_tmp rfl) ⟨rfl, rfl, rfl⟩ (fun _ _ hφ => ask [] rfl hφ) rfl rfl (.inl rfl)
set_option maxRecDepth 100000 in
set_option maxHeartbeats 4000000 in
theorem Clone28o_s (p : Option Addr) (c : Nat) (l : List SessD) (hb : l.length ≤ 1759218604441) : Spec Try.prog 28 [.slice p l.length c] [] [.own 62 6 R_SessD (.slice p l.length c) l] (fun v Φr Hr => ∃ p' c', v = .slice p' l.length c' ∧ Φr = [] ∧ Hr = [.own 62 6 R_SessD v l, .own 62 6 R_SessD (.slice p l.length c) l]) := by
 refine spec_of Try.func28 rfl Try.ntmps28 rfl (S := [_]) rfl (fun C => ?_)
 refine wc_ownNil 0 rfl (fun isnil => ?_)
 refine wc_seq ?_
 refine wc_region ?_
 refine wl_pure rfl rfl rfl (freshS_eq rfl) rfl ?_
 refine wl_nil ?_
 refine we_then ?_
 refine wc_seq ?_
 refine wc_seq ?_
 refine wc_region ?_
 refine wl_pure rfl rfl rfl (freshS_eq rfl) rfl ?_
 refine wl_eqlNil rfl rfl rfl (freshS_eq rfl) rfl rfl rfl tE_38 ?_
 refine wl_nil ?_
 refine we_then ?_
 refine wc_keep [4, 2, 0] (S' := [_,_,_]) rfl ?_
 refine wc_cond rfl (fun h4 => ?_) (fun h4 => ?_)
 ·
  replace h4 := isNone_true h4
  obtain rfl := isnil h4
  subst h4
  refine wc_rowNil 62 6 R_SessD ?_
  refine wc_seq ?_
  refine wc_region ?_
  refine wl_pure (S' := [_,_]) rfl rfl rfl rfl rfl ?_
  refine wl_nil ?_
  refine we_then ?_
  refine wc_ret ?_
  refine we_then_ret ?_
  refine ret_one (Hr := [.own 62 6 R_SessD (.slice none 0 0) [], .own 62 6 R_SessD (.slice none ([] : List SessD).length c) ([] : List SessD)]) [0, 1] Try.results28 (res_tmp rfl) ?_ (fun _ _ hφ => ask [] rfl hφ) rfl rfl (.inl rfl)
  exact ⟨none, 0, rfl, rfl, rfl⟩
 ·
  replace h4 := isNone_false h4
  refine wc_skip ?_
  refine we_then ?_
  refine wc_seq ?_
  refine wc_region ?_
  refine wl_buildSlice rfl rfl rfl (freshS_eq rfl) rfl tE_38 tS_62 tZ_62 rfl (zs := []) (by kernel_rfl) rfl (out := []) rfl (fun g5 => ?_)
  refine wl_pure rfl rfl rfl (freshS_eq rfl) rfl ?_
  refine wl_row (sz := 6) (m := 0) R_SessD [] 0 rfl (fun F w hφ => rfl) rfl (by decide) (H' := [_,_]) rfl ?_
  refine wl_appendO 0 1 rfl rfl rfl (freshS_eq rfl) rfl rfl rfl rfl rfl tE_38 tR_62 rfl rfl (by simp; omega) (by simp; omega) (H2 := fun p7 c7 => [.own 62 6 R_SessD (.slice p7 (l).length c7) l, .own 62 6 R_SessD (.slice p l.length c) l]) (fun _ _ => rfl) (fun p7 c7 => ?_)
  refine wl_pure (S' := [_,_,_,_,_]) rfl rfl rfl rfl rfl ?_
  refine wl_nil ?_
  refine we_then ?_
  refine wc_keep [2, 4, 0] (S' := [_,_,_]) rfl ?_
  refine wc_ret ?_
  refine ret_one (Hr := [.own 62 6 R_SessD (.slice p7 (l).length c7) l, .own 62 6 R_SessD (.slice p l.length c) l]) [0, 1] Try.results28 (res_tmp rfl) ?_ (fun _ _ hφ => ask [] rfl hφ) rfl rfl (.inl rfl)
  exact ⟨_, _, rfl, rfl, rfl⟩

end Go.Proofs.Ytighbinghbnjhaa
