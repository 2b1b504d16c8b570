/- Walks, printed by a program out of the loaded code. -/
import Derived.Test.YtighbinghbnjhaaXW1
namespace Go.Proofs.Ytighbinghbnjhaa
open Go.RowKit
set_option maxRecDepth 100000 in
set_option maxHeartbeats 4000000 in
theorem m_session_all_s (N : Nat) (qp0 : Option Addr) (qn1 : Nat) (qc2 : Nat) (l3 : List SessD) (o2 : List SessD) (hm : m_session_all N l3 = some o2) : Spec Try.prog 21 [.slice qp0 qn1 qc2] [] [.own 62 6 R_SessD (.slice qp0 qn1 qc2) l3] (fun v Φr Hr => ∃ (o0 : Option Addr) (o1 : Nat), v = .slice o0 qn1 o1 ∧ Φr = [] ∧ Hr = [.own 62 6 R_SessD (.slice o0 qn1 o1) o2, .own 62 6 R_SessD (.slice qp0 qn1 qc2) l3]) := by
 unfold m_session_all at hm
 refine spec_of Try.func21 rfl Try.ntmps21 rfl (S := [_]) rfl (fun C => ?_)
 refine wc_seq ?_
 refine wc_region ?_
 refine wl_pure rfl rfl rfl (freshS_eq rfl) rfl ?_
 refine wl_nil ?_
 refine we_then ?_
 refine wc_keep [0] (S' := [_]) rfl ?_
 refine wc_seq ?_
 refine wc_region ?_
 refine wl_pure rfl rfl rfl (freshS_eq rfl) rfl ?_
 refine wl_ownLen 0 rfl (fun hzqn1 _ => ?_)
 subst hzqn1
 obtain ⟨hg6, hm⟩ := gd_some hm
 refine wl_call [0] [] rfl rfl rfl (freshS_eq rfl) rfl rfl fn_28 rfl (Clone28o_s qp0 qc2 l3 hg6) (fun _ _ hφ => ask [] rfl hφ) rfl (H' := []) rfl ?_
 rintro _ _ _ ⟨p6, c6, rfl, rfl, rfl⟩
 refine wl_pure rfl rfl rfl (freshS_eq rfl) rfl ?_
 refine wl_nil ?_
 refine we_then ?_
 refine wc_keep [3] (S' := [_]) rfl ?_
 refine wc_seq ?_
 obtain ⟨bj_1, hm, hLj_1⟩ := bindO_some hm
 refine wc_cut (σ := List SessD) (fun j_1_3_l => bj_1 = j_1_3_l) (fun j_1_3_l => [(3, .slice p6 l3.length c6)]) (fun j_1_3_l => []) (fun j_1_3_l => [.own 62 6 R_SessD (.slice p6 l3.length c6) j_1_3_l, .own 62 6 R_SessD (.slice qp0 l3.length qc2) l3]) ?_ ?_
 ·
  refine wc_seq ?_
  refine wc_region ?_
  refine wl_pure rfl rfl rfl (freshS_eq rfl) rfl ?_
  refine wl_len rfl rfl rfl (freshS_eq rfl) rfl rfl tE_38 ?_
  refine wl_pure rfl rfl rfl (freshS_eq rfl) rfl ?_
  refine wl_nil ?_
  refine we_then ?_
  refine wc_keep [9, 8, 3] (S' := [_,_,_]) rfl ?_
  refine wc_block ?_
  refine wc_loop (σ := Nat × Nat × (List SessD)) (fun (nu1, u1_9, u1_3_l) => iter (m_session_all_L1 N l3) nu1 (u1_9, u1_3_l) = some bj_1) (fun (nu1, u1_9, u1_3_l) => nu1) (fun (nu1, u1_9, u1_3_l) => [(9, .int .i64 ((u1_9 : Nat) : Int)), (8, .int .i64 ((l3.length : Nat) : Int)), (3, .slice p6 l3.length c6)]) (fun (nu1, u1_9, u1_3_l) => []) (fun (nu1, u1_9, u1_3_l) => [.own 62 6 R_SessD (.slice p6 l3.length c6) u1_3_l, .own 62 6 R_SessD (.slice qp0 l3.length qc2) l3]) (N, 0, l3) hm [9, 8, 3] rfl (fun _ _ hφ => ask [] rfl hφ) rfl (fun s_ hm => ?_)
  obtain ⟨nu1, u1_9, u1_3_l⟩ := s_
  try dsimp only at hm ⊢
  obtain ⟨mu1, bu1, hnu1, hq, hLu1⟩ := iter_some hm
  clear hm
  subst hnu1
  replace hm := hq
  clear hq
  unfold m_session_all_L1 at hm
  try dsimp only at hm
  refine wc_seq ?_
  refine wc_region ?_
  refine wl_pure rfl rfl rfl (freshS_eq rfl) rfl ?_
  refine wl_as (d := 10) (v' := .bool (decide (u1_9 < l3.length))) (S' := [_,_,_]) rfl rfl (natlt (a := u1_9) (b := l3.length)) ?_
  refine wl_nil ?_
  refine we_then ?_
  refine wc_seq ?_
  refine wc_cond rfl (fun hb10 => ?_) (fun hb10 => ?_)
  ·
   replace hm := iteT hm hb10
   refine wc_keep [9, 8, 3] (S' := [_,_,_]) rfl ?_
   refine wc_skip ?_
   refine we_then ?_
   refine wc_seq ?_
   refine wc_block ?_
   refine wc_seq ?_
   refine wc_region ?_
   refine wl_pure rfl rfl rfl (freshS_eq rfl) rfl ?_
   refine wl_pure rfl rfl rfl (freshS_eq rfl) rfl ?_
   refine wl_nil ?_
   refine we_then ?_
   refine wc_keep [4, 9, 8, 3] (S' := [_,_,_,_]) rfl ?_
   refine wc_region ?_
   refine wl_pure rfl rfl rfl (freshS_eq rfl) rfl ?_
   refine wl_pure rfl rfl rfl (freshS_eq rfl) rfl ?_
   refine wl_pure rfl rfl rfl (freshS_eq rfl) rfl ?_
   refine wl_pure rfl rfl rfl (freshS_eq rfl) rfl ?_
   obtain ⟨x16, hx16, hm⟩ := bindO_some hm
   refine wl_indexH 0 u1_9 rfl rfl rfl (freshS_eq rfl) rfl rfl rfl rfl rfl (get_lt hx16) tE_38 tS_62 (fun g16 eg16 => ?_)
   subst eg16
   refine wl_fieldAddr rfl rfl rfl (freshS_eq rfl) rfl rfl tF_62_2 ?_
   refine wl_loadRow R_SessD_opens 0 u1_9 2 rfl rfl rfl (freshS_eq rfl) rfl rfl rfl hx16 tS_32 tA_32 (v := fun r18 => .agg #[.int .i64 (x16.r.err), .int .i64 (x16.r.num), .slice r18.1.1 x16.r.facts.length r18.1.2, .slice r18.2.1 x16.r.said.length r18.2.2]) (fun _ => rfl) (fun _ => rfl) (fun r18 _ => ?_)
   obtain ⟨v19, hc19, hm⟩ := bindO_some hm
   refine wl_call [] [0, 1] rfl rfl rfl (freshS_eq rfl) rfl rfl fn_24 rfl (m_session_own_s N x16.r.err x16.r.num r18.1.1 r18.1.2 x16.r.facts r18.2.1 r18.2.2 x16.r.said _ hc19) (fun _ _ hφ => ask [0, 1] rfl hφ) rfl (H' := [_,_]) rfl ?_
   rintro _ _ _ ⟨p19_0, c19_1, p19_2, c19_3, rfl, rfl, rfl⟩
   obtain ⟨x20, hx20, hm⟩ := bindO_some hm
   refine wl_indexK 2 u1_9 rfl rfl rfl (freshS_eq rfl) rfl rfl rfl rfl rfl (get_lt hx20) tE_38 tS_62 ?_
   refine wl_fieldAddr rfl rfl rfl (freshS_eq rfl) rfl rfl tF_62_2 ?_
   refine wl_ownLen 0 rfl (fun hz12 _ => ?_)
   refine wl_at 2 (v' := .agg #[.int .i64 (x16.r.err), .int .i64 (x16.r.num), .slice p19_0 v19.length c19_1, .slice p19_2 x16.r.said.length c19_3]) rfl (by rw [hz12]) ?_
   refine wl_hAs 0 (φ' := .own 70 3 R_FactD (.slice p19_0 v19.length c19_1) v19) rfl (by rw [hz12]) (H' := [_,_,_,_]) rfl ?_
   refine wl_freeze 0 rfl (H' := [_,_,_]) rfl ?_
   refine wl_fact (.sli 3 R_FactD p19_0 c19_1 v19) (fun F w hφ => own_sli (hφ _ (mem_at (k := 0) rfl))) ?_
   refine wl_freeze 0 rfl (H' := [_,_]) rfl ?_
   refine wl_fact (.sli 3 R_V p19_2 c19_3 x16.r.said) (fun F w hφ => own_sli (hφ _ (mem_at (k := 0) rfl))) ?_
   refine wl_storePart (u := (⟨x20.id, x20.seq, (⟨x16.r.err, x16.r.num, v19, x16.r.said⟩ : ReplyD)⟩ : SessD)) 0 u1_9 2 rfl rfl rfl rfl rfl hx20 rfl rfl tS_32 rfl rfl (fun F w hφ ds hd => by obtain ⟨rx20, rfl, hf⟩ := hd; exact ⟨((p19_0, c19_1), (p19_2, c19_3)), rfl, (ask_cons (hφ _ (mem_at (k := 2) rfl)) (ask_cons (hφ _ (mem_at (k := 0) rfl)) ask_nil))⟩) rfl (H' := [.own 62 6 R_SessD (.slice (some ⟨g16, 0, none⟩) l3.length c6) (u1_3_l.set u1_9 (⟨x20.id, x20.seq, (⟨x16.r.err, x16.r.num, v19, x16.r.said⟩ : ReplyD)⟩ : SessD)), .own 62 6 R_SessD (.slice qp0 l3.length qc2) l3]) rfl ?_
   refine wl_nil ?_
   refine we_block_normal ?_
   refine we_then ?_
   refine wc_keep [9, 8, 3] (S' := [_,_,_]) rfl ?_
   refine wc_region ?_
   refine wl_pure rfl rfl rfl (freshS_eq rfl) rfl ?_
   obtain ⟨hg22, hm⟩ := gd_some hm
   refine wl_as (d := 22) (v' := .int .i64 ((u1_9 + 1 : Nat) : Int)) (S' := [_,_,_]) rfl rfl (nat_add (a := u1_9) (b := 1) hg22) ?_
   refine wl_pure (S' := [_,_,_]) rfl rfl rfl rfl rfl ?_
   refine wl_nil ?_
   have hE := (Option.some.inj hm).symm
   replace hE := link_inl hLu1 hE
   refine we_roundK (_, u1_9 + 1, u1_3_l.set u1_9 (⟨x20.id, x20.seq, (⟨x16.r.err, x16.r.num, v19, x16.r.said⟩ : ReplyD)⟩ : SessD)) (Nat.lt_succ_self _) hE [9, 8, 3] rfl (fun _ _ hφ => ask [] rfl hφ) rfl
  ·
   replace hm := iteF hm hb10
   refine wc_keep [3] (S' := [_]) rfl ?_
   refine wc_exit ?_
   refine we_then_exit ?_
   refine we_then_exit ?_
   refine we_block_hit ?_
   have hE := (Option.some.inj hm).symm
   replace hE := link_inr hLu1 hE
   refine we_join u1_3_l hE [3] rfl (fun _ _ hφ => ask [] rfl hφ) rfl
 ·
  rintro j_1_3_l hE
  try dsimp only
  have hm := hLj_1
  rw [hE] at hm
  refine wc_seq ?_
  refine wc_region ?_
  refine wl_pure rfl rfl rfl (freshS_eq rfl) rfl ?_
  refine wl_pure rfl rfl rfl (freshS_eq rfl) rfl ?_
  refine wl_nil ?_
  refine we_then ?_
  refine wc_keep [2] (S' := [_]) rfl ?_
  refine wc_ret ?_
  have hE := (Option.some.inj hm).symm
  replace hE := hE.symm
  subst hE
  refine ret_one (Hr := [_, _]) [0, 1] Try.results21 (res_tmp rfl) ⟨p6, c6, rfl, rfl, rfl⟩ (fun _ _ hφ => ask [] rfl hφ) rfl rfl (.inl rfl)
set_option maxRecDepth 100000 in
set_option maxHeartbeats 4000000 in
theorem m_session_Table_All_s (N : Nat) (qg0 : Nat) (qp1 : Option Addr) (qn2 : Nat) (qc3 : Nat) (l4 : List SessD) (a5 : Int) (o2 : List SessD) (hm : m_session_Table_All N l4 a5 = some o2) : Spec Try.prog 10 [.pointer (some ⟨qg0, 0, none⟩)] [] [.blk qg0 [.slice qp1 qn2 qc3, .int .i64 a5] 50, .own 62 6 R_SessD (.slice qp1 qn2 qc3) l4] (fun v Φr Hr => ∃ (o0 : Option Addr) (o1 : Nat) (o3 : Nat), v = .slice o0 o3 o1 ∧ Φr = [] ∧ Hr = [.own 62 6 R_SessD (.slice o0 o3 o1) o2, .blk qg0 [.slice qp1 qn2 qc3, .int .i64 a5] 50, .own 62 6 R_SessD (.slice qp1 qn2 qc3) l4]) := by
 unfold m_session_Table_All at hm
 refine spec_of Try.func10 rfl Try.ntmps10 rfl (S := [_]) rfl (fun C => ?_)
 refine wc_seq ?_
 refine wc_region ?_
 refine wl_pure rfl rfl rfl (freshS_eq rfl) rfl ?_
 refine wl_nil ?_
 refine we_then ?_
 refine wc_keep [0] (S' := [_]) rfl ?_
 refine wc_seq ?_
 refine wc_seq ?_
 refine wc_region ?_
 refine wl_pure rfl rfl rfl (freshS_eq rfl) rfl ?_
 obtain ⟨_, hc4, hm⟩ := bindO_some hm
 try dsimp only at hm
 refine wl_call [0, 1] [] rfl rfl rfl (freshS_eq rfl) rfl rfl fn_20 rfl (m_session_Table_known_s N qg0 qp1 qn2 qc3 l4 a5 hc4) (fun _ _ hφ => ask [] rfl hφ) rfl (H' := []) rfl ?_
 rintro _ _ _ ⟨rfl, rfl, rfl⟩
 refine wl_pure rfl rfl rfl (freshS_eq rfl) rfl ?_
 refine wl_nil ?_
 refine we_then ?_
 refine wc_keep [5, 0] (S' := [_,_]) rfl ?_
 refine wc_cond rfl (fun hb5 => ?_) (fun hb5 => ?_)
 ·
  replace hm := iteT hm hb5
  refine wc_keep [] (S' := []) rfl ?_
  refine wc_seq ?_
  refine wc_region ?_
  refine wl_pure rfl rfl rfl (freshS_eq rfl) rfl ?_
  refine wl_nil ?_
  refine we_then ?_
  refine wc_ret ?_
  refine we_then_ret ?_
  have hE := (Option.some.inj hm).symm
  replace hE := hE.symm
  subst hE
  refine we_rowNil 62 6 R_SessD ?_
  refine ret_one (Hr := [_, _, _]) [0, 1, 2] Try.results10 (res_tmp rfl) ⟨none, 0, 0, rfl, rfl, rfl⟩ (fun _ _ hφ => ask [] rfl hφ) rfl rfl (.inl rfl)
 ·
  replace hm := iteF hm hb5
  refine wc_keep [0] (S' := [_]) rfl ?_
  refine wc_skip ?_
  refine we_then ?_
  refine wc_seq ?_
  refine wc_region ?_
  refine wl_pure rfl rfl rfl (freshS_eq rfl) rfl ?_
  refine wl_pure rfl rfl rfl (freshS_eq rfl) rfl ?_
  refine wl_fieldAddr rfl rfl rfl (freshS_eq rfl) rfl rfl tF_50_0 ?_
  refine wl_fieldAddr rfl rfl rfl (freshS_eq rfl) rfl rfl tF_48_0 ?_
  refine wl_loadH 0 0 rfl rfl rfl (freshS_eq rfl) rfl rfl rfl (cs := [_]) rfl tS_38 tA_38 rfl rfl ?_
  obtain ⟨v11, hc11, hm⟩ := bindO_some hm
  refine wl_call [1] [0] rfl rfl rfl (freshS_eq rfl) rfl rfl fn_21 rfl (m_session_all_s N qp1 qn2 qc3 l4 _ hc11) (fun _ _ hφ => ask [] rfl hφ) rfl (H' := [_]) rfl ?_
  rintro _ _ _ ⟨p11_0, c11_1, rfl, rfl, rfl⟩
  refine wl_pure rfl rfl rfl (freshS_eq rfl) rfl ?_
  refine wl_nil ?_
  refine we_then ?_
  refine wc_keep [2] (S' := [_]) rfl ?_
  refine wc_ret ?_
  have hE := (Option.some.inj hm).symm
  replace hE := hE.symm
  subst hE
  refine ret_one (Hr := [_, _, _]) [0, 2, 1] Try.results10 (res_tmp rfl) ⟨p11_0, c11_1, qn2, rfl, rfl, rfl⟩ (fun _ _ hφ => ask [] rfl hφ) rfl rfl (.inl rfl)
set_option maxRecDepth 100000 in
set_option maxHeartbeats 4000000 in
theorem m_session_Of_s0 (N : Nat) (a0 : Int) (qp1 : Option Addr) (qn2 : Nat) (qc3 : Nat) (l4 : List SessD)  (hm : m_session_Of N a0 l4 = some (.inl ())) : Spec Try.prog 18 [.int .i64 a0, .slice qp1 qn2 qc3] [] [.own 62 6 R_SessD (.slice qp1 qn2 qc3) l4] (fun v Φr Hr => v = .tuple #[.pointer none, .int .i64 4] ∧ Φr = [] ∧ Hr = [.own 62 6 R_SessD (.slice qp1 qn2 qc3) l4]) := by
 unfold m_session_Of at hm
 refine spec_of Try.func18 rfl Try.ntmps18 rfl (S := [_,_]) rfl (fun C => ?_)
 refine wc_seq ?_
 refine wc_region ?_
 refine wl_pure rfl rfl rfl (freshS_eq rfl) rfl ?_
 refine wl_pure rfl rfl rfl (freshS_eq rfl) rfl ?_
 refine wl_nil ?_
 refine we_then ?_
 refine wc_keep [0, 1] (S' := [_,_]) rfl ?_
 refine wc_seq ?_
 refine wc_seq ?_
 obtain ⟨bj_1, hm, hLj_1⟩ := bindO_some hm
 refine wc_cut (σ := Bool) (fun j_1_19 => bj_1 = j_1_19) (fun j_1_19 => [(0, .int .i64 a0), (1, .slice qp1 qn2 qc3), (19, .bool j_1_19)]) (fun j_1_19 => []) (fun j_1_19 => [.own 62 6 R_SessD (.slice qp1 qn2 qc3) l4]) ?_ ?_
 ·
  refine wc_region ?_
  refine wl_pure rfl rfl rfl (freshS_eq rfl) rfl ?_
  refine wl_pure rfl rfl rfl (freshS_eq rfl) rfl ?_
  refine wl_pure rfl rfl rfl (freshS_eq rfl) rfl ?_
  refine wl_split (d := 11) (S' := [_,_,_,_]) rfl rfl (fun hs11 => ?_) (fun hs11 => ?_)
  ·
   replace hm := iteT hm hs11
   refine wl_off rfl rfl rfl (freshS_eq rfl) ?_
   refine wl_off rfl rfl rfl (freshS_eq rfl) ?_
   refine wl_pure rfl rfl rfl (freshS_eq rfl) rfl ?_
   refine wl_pure rfl rfl rfl (freshS_eq rfl) rfl ?_
   refine wl_off rfl rfl rfl (freshS_eq rfl) ?_
   refine wl_off rfl rfl rfl (freshS_eq rfl) ?_
   refine wl_off rfl rfl rfl (freshS_eq rfl) ?_
   refine wl_pure rfl rfl rfl (freshS_eq rfl) rfl ?_
   refine wl_nil ?_
   have hE := (Option.some.inj hm).symm
   refine we_join true hE [0, 1, 19] rfl (fun _ _ hφ => ask [] rfl hφ) rfl
  ·
   replace hm := iteF hm hs11
   refine wl_pure rfl rfl rfl (freshS_eq rfl) rfl ?_
   refine wl_pure rfl rfl rfl (freshS_eq rfl) rfl ?_
   refine wl_pure rfl rfl rfl (freshS_eq rfl) rfl ?_
   refine wl_pure rfl rfl rfl (freshS_eq rfl) rfl ?_
   refine wl_split (d := 15) (S' := [_,_,_,_,_,_,_,_]) rfl rfl (fun hs15 => ?_) (fun hs15 => ?_)
   ·
    replace hm := iteT hm hs15
    refine wl_off rfl rfl rfl (freshS_eq rfl) ?_
    refine wl_off rfl rfl rfl (freshS_eq rfl) ?_
    refine wl_off rfl rfl rfl (freshS_eq rfl) ?_
    refine wl_pure rfl rfl rfl (freshS_eq rfl) rfl ?_
    refine wl_nil ?_
    have hE := (Option.some.inj hm).symm
    refine we_join true hE [0, 1, 19] rfl (fun _ _ hφ => ask [] rfl hφ) rfl
   ·
    replace hm := iteF hm hs15
    refine wl_pure rfl rfl rfl (freshS_eq rfl) rfl ?_
    refine wl_ownLen 0 rfl (fun hl17 _ => ?_)
    refine wl_len rfl rfl rfl (freshS_eq rfl) rfl rfl tE_38 ?_
    refine wl_as (d := 17) (v' := .int .i64 ((l4.length : Nat) : Int)) (S' := [_,_,_,_,_,_,_,_,_,_]) rfl rfl (len_is hl17) ?_
    refine wl_pure rfl rfl rfl (freshS_eq rfl) rfl ?_
    refine wl_as (d := 18) (v' := .bool (decide (32 < l4.length))) (S' := [_,_,_,_,_,_,_,_,_,_,_]) rfl rfl (natgt (a := l4.length) (b := 32)) ?_
    refine wl_pure rfl rfl rfl (freshS_eq rfl) rfl ?_
    refine wl_nil ?_
    have hE := (Option.some.inj hm).symm
    refine we_join (decide (32 < l4.length)) hE [0, 1, 19] rfl (fun _ _ hφ => ask [] rfl hφ) rfl
 ·
  rintro j_1_19 hE
  try dsimp only
  have hm := hLj_1
  rw [hE] at hm
  refine wc_cond rfl (fun hb19 => ?_) (fun hb19 => ?_)
  ·
   replace hm := iteT hm hb19
   refine wc_keep [] (S' := []) rfl ?_
   refine wc_seq ?_
   refine wc_region ?_
   refine wl_pure rfl rfl rfl (freshS_eq rfl) rfl ?_
   refine wl_pure rfl rfl rfl (freshS_eq rfl) rfl ?_
   refine wl_nil ?_
   refine we_then ?_
   refine wc_ret ?_
   refine we_then_ret ?_
   have hE := (Option.some.inj hm).symm
   replace hE := Sum.inl.inj hE
   refine ret_two (Hr := [_]) [0] Try.results18 (res_tmp rfl) (res_tmp rfl) ⟨rfl, rfl, rfl⟩ (fun _ _ hφ => ask [] rfl hφ) rfl rfl (.inl rfl)
  ·
   replace hm := iteF hm hb19
   refine wc_keep [0, 1] (S' := [_,_]) rfl ?_
   refine wc_skip ?_
   refine we_then ?_
   refine wc_seq ?_
   refine wc_region ?_
   refine wl_pure rfl rfl rfl (freshS_eq rfl) rfl ?_
   refine wl_nil ?_
   refine we_then ?_
   refine wc_seq ?_
   obtain ⟨bj_2, hm, hLj_2⟩ := bindS_some hm
   refine wc_cut (σ := Unit) (fun _ => bj_2 = .inl ()) (fun _ => [(0, .int .i64 a0), (1, .slice qp1 qn2 qc3)]) (fun _ => []) (fun _ => [.own 62 6 R_SessD (.slice qp1 qn2 qc3) l4]) ?_ ?_
   ·
    refine wc_seq ?_
    refine wc_region ?_
    refine wl_pure rfl rfl rfl (freshS_eq rfl) rfl ?_
    refine wl_ownLen 0 rfl (fun hl21 _ => ?_)
    refine wl_len rfl rfl rfl (freshS_eq rfl) rfl rfl tE_38 ?_
    refine wl_as (d := 21) (v' := .int .i64 ((l4.length : Nat) : Int)) (S' := [_,_,_,_]) rfl rfl (len_is hl21) ?_
    refine wl_pure rfl rfl rfl (freshS_eq rfl) rfl ?_
    refine wl_nil ?_
    refine we_then ?_
    refine wc_block ?_
    refine wc_loop (σ := Nat × Nat × Int) (fun (nu1, u1_22, u1_6) => iter (m_session_Of_L1 N l4 a0) nu1 (u1_22, u1_6) = some bj_2) (fun (nu1, u1_22, u1_6) => nu1) (fun (nu1, u1_22, u1_6) => [(22, .int .i64 ((u1_22 : Nat) : Int)), (21, .int .i64 ((l4.length : Nat) : Int)), (20, .slice qp1 qn2 qc3), (6, .int .i64 u1_6), (0, .int .i64 a0), (1, .slice qp1 qn2 qc3)]) (fun (nu1, u1_22, u1_6) => []) (fun (nu1, u1_22, u1_6) => [.own 62 6 R_SessD (.slice qp1 qn2 qc3) l4]) (N, 0, 0) hm [22, 21, 20, 6, 0, 1] rfl (fun _ _ hφ => ask [] rfl hφ) rfl (fun s_ hm => ?_)
    obtain ⟨nu1, u1_22, u1_6⟩ := s_
    try dsimp only at hm ⊢
    obtain ⟨mu1, bu1, hnu1, hq, hLu1⟩ := iter_some hm
    clear hm
    subst hnu1
    replace hm := hq
    clear hq
    unfold m_session_Of_L1 at hm
    try dsimp only at hm
    refine wc_seq ?_
    refine wc_region ?_
    refine wl_pure rfl rfl rfl (freshS_eq rfl) rfl ?_
    refine wl_as (d := 23) (v' := .bool (decide (u1_22 < l4.length))) (S' := [_,_,_,_,_,_]) rfl rfl (natlt (a := u1_22) (b := l4.length)) ?_
    refine wl_nil ?_
    refine we_then ?_
    refine wc_seq ?_
    refine wc_cond rfl (fun hb23 => ?_) (fun hb23 => ?_)
    ·
     replace hm := iteT hm hb23
     refine wc_keep [22, 21, 20, 6, 0, 1] (S' := [_,_,_,_,_,_]) rfl ?_
     refine wc_skip ?_
     refine we_then ?_
     refine wc_seq ?_
     refine wc_block ?_
     refine wc_seq ?_
     refine wc_region ?_
     obtain ⟨x24, hx24, hm⟩ := bindO_some hm
     refine wl_indexH 0 u1_22 rfl rfl rfl (freshS_eq rfl) rfl rfl rfl rfl rfl (get_lt hx24) tE_38 tS_62 (fun g24 eg24 => ?_)
     subst eg24
     refine wl_loadRow R_SessD_opens 0 u1_22 0 rfl rfl rfl (freshS_eq rfl) rfl rfl rfl hx24 tS_62 tA_62 (v := fun r25 => .agg #[.int .i64 (x24.id), .int .i64 (x24.seq), .int .i64 (x24.r.err), .int .i64 (x24.r.num), .slice r25.1.1 x24.r.facts.length r25.1.2, .slice r25.2.1 x24.r.said.length r25.2.2]) (fun _ => rfl) (fun _ => rfl) (fun r25 _ => ?_)
     refine wl_alloc rfl rfl rfl (freshS_eq rfl) rfl tZ_62 rfl (fun g8 => ?_)
     refine wl_store 0 0 rfl rfl rfl rfl rfl rfl rfl tS_62 rfl rfl rfl (all' := [_,_,_,_,_,_]) rfl (H' := [_,_]) rfl ?_
     refine wl_nil ?_
     refine we_then ?_
     refine wc_keep [8, 22, 21, 20, 6, 0, 1] (S' := [_,_,_,_,_,_,_]) rfl ?_
     refine wc_seq ?_
     refine wc_seq ?_
     obtain ⟨bj_3, hm, hLj_3⟩ := bindO_some hm
     refine wc_cut (σ := Bool) (fun j_3_40 => bj_3 = j_3_40) (fun j_3_40 => [(8, .pointer (some ⟨g8, 0, none⟩)), (22, .int .i64 ((u1_22 : Nat) : Int)), (21, .int .i64 ((l4.length : Nat) : Int)), (20, .slice (some ⟨g24, 0, none⟩) qn2 qc3), (0, .int .i64 a0), (1, .slice (some ⟨g24, 0, none⟩) qn2 qc3), (40, .bool j_3_40)]) (fun j_3_40 => [.sli 3 R_FactD r25.1.1 r25.1.2 x24.r.facts, .sli 3 R_V r25.2.1 r25.2.2 x24.r.said]) (fun j_3_40 => [.blk g8 [.int .i64 (x24.id), .int .i64 (x24.seq), .int .i64 (x24.r.err), .int .i64 (x24.r.num), .slice r25.1.1 x24.r.facts.length r25.1.2, .slice r25.2.1 x24.r.said.length r25.2.2] 62, .own 62 6 R_SessD (.slice (some ⟨g24, 0, none⟩) qn2 qc3) l4]) ?_ ?_
     ·
      refine wc_region ?_
      refine wl_fieldAddr rfl rfl rfl (freshS_eq rfl) rfl rfl tF_62_0 ?_
      refine wl_loadH 0 0 rfl rfl rfl (freshS_eq rfl) rfl rfl rfl (cs := [_]) rfl tS_3 tA_3 rfl rfl ?_
      refine wl_pure rfl rfl rfl (freshS_eq rfl) rfl ?_
      refine wl_pure rfl rfl rfl (freshS_eq rfl) rfl ?_
      refine wl_pure rfl rfl rfl (freshS_eq rfl) rfl ?_
      refine wl_split (d := 30) (S' := [_,_,_,_,_,_,_,_,_,_,_]) rfl rfl (fun hs30 => ?_) (fun hs30 => ?_)
      ·
       replace hm := iteT hm hs30
       refine wl_off rfl rfl rfl (freshS_eq rfl) ?_
       refine wl_off rfl rfl rfl (freshS_eq rfl) ?_
       refine wl_off rfl rfl rfl (freshS_eq rfl) ?_
       refine wl_off rfl rfl rfl (freshS_eq rfl) ?_
       refine wl_pure rfl rfl rfl (freshS_eq rfl) rfl ?_
       refine wl_pure rfl rfl rfl (freshS_eq rfl) rfl ?_
       refine wl_off rfl rfl rfl (freshS_eq rfl) ?_
       refine wl_off rfl rfl rfl (freshS_eq rfl) ?_
       refine wl_off rfl rfl rfl (freshS_eq rfl) ?_
       refine wl_pure rfl rfl rfl (freshS_eq rfl) rfl ?_
       refine wl_nil ?_
       have hE := (Option.some.inj hm).symm
       refine we_join true hE [8, 22, 21, 20, 0, 1, 40] rfl (fun _ _ hφ => ask [0, 1] rfl hφ) rfl
      ·
       replace hm := iteF hm hs30
       refine wl_fieldAddr rfl rfl rfl (freshS_eq rfl) rfl rfl tF_62_0 ?_
       refine wl_loadH 0 0 rfl rfl rfl (freshS_eq rfl) rfl rfl rfl (cs := [_]) rfl tS_3 tA_3 rfl rfl ?_
       refine wl_pure rfl rfl rfl (freshS_eq rfl) rfl ?_
       refine wl_pure rfl rfl rfl (freshS_eq rfl) rfl ?_
       refine wl_pure rfl rfl rfl (freshS_eq rfl) rfl ?_
       refine wl_pure rfl rfl rfl (freshS_eq rfl) rfl ?_
       refine wl_split (d := 36) (S' := [_,_,_,_,_,_,_,_,_,_,_,_,_,_,_,_,_]) rfl rfl (fun hs36 => ?_) (fun hs36 => ?_)
       ·
        replace hm := iteT hm hs36
        refine wl_off rfl rfl rfl (freshS_eq rfl) ?_
        refine wl_off rfl rfl rfl (freshS_eq rfl) ?_
        refine wl_off rfl rfl rfl (freshS_eq rfl) ?_
        refine wl_pure rfl rfl rfl (freshS_eq rfl) rfl ?_
        refine wl_nil ?_
        have hE := (Option.some.inj hm).symm
        refine we_join true hE [8, 22, 21, 20, 0, 1, 40] rfl (fun _ _ hφ => ask [0, 1] rfl hφ) rfl
       ·
        replace hm := iteF hm hs36
        refine wl_fieldAddr rfl rfl rfl (freshS_eq rfl) rfl rfl tF_62_1 ?_
        refine wl_loadH 0 1 rfl rfl rfl (freshS_eq rfl) rfl rfl rfl (cs := [_]) rfl tS_3 tA_3 rfl rfl ?_
        refine wl_pure rfl rfl rfl (freshS_eq rfl) rfl ?_
        refine wl_pure rfl rfl rfl (freshS_eq rfl) rfl ?_
        refine wl_nil ?_
        have hE := (Option.some.inj hm).symm
        refine we_join (decide (x24.seq < 0)) hE [8, 22, 21, 20, 0, 1, 40] rfl (fun _ _ hφ => ask [0, 1] rfl hφ) rfl
     ·
      rintro j_3_40 hE
      try dsimp only
      have hm := hLj_3
      rw [hE] at hm
      refine wc_cond rfl (fun hb40 => ?_) (fun hb40 => ?_)
      ·
       replace hm := iteT hm hb40
       refine wc_keep [] (S' := []) rfl ?_
       refine wc_seq ?_
       refine wc_region ?_
       refine wl_pure rfl rfl rfl (freshS_eq rfl) rfl ?_
       refine wl_pure rfl rfl rfl (freshS_eq rfl) rfl ?_
       refine wl_nil ?_
       refine we_then ?_
       refine wc_ret ?_
       refine we_then_ret ?_
       refine we_block_ret ?_
       refine we_then_ret ?_
       refine we_then_ret ?_
       refine we_block_ret ?_
       refine we_then_ret ?_
       have hE := (Option.some.inj hm).symm
       replace hE := link_inr hLu1 hE
       replace hE := link_inr hLj_2 hE
       replace hE := Sum.inl.inj hE
       refine ret_two (Hr := [_]) [1] Try.results18 (res_tmp rfl) (res_tmp rfl) ⟨rfl, rfl, rfl⟩ (fun _ _ hφ => ask [] rfl hφ) rfl rfl (.inl rfl)
      ·
       replace hm := iteF hm hb40
       refine wc_keep [8, 22, 21, 20, 0, 1] (S' := [_,_,_,_,_,_]) rfl ?_
       refine wc_skip ?_
       refine we_then ?_
       refine wc_region ?_
       refine wl_fieldAddr rfl rfl rfl (freshS_eq rfl) rfl rfl tF_62_0 ?_
       refine wl_loadH 0 0 rfl rfl rfl (freshS_eq rfl) rfl rfl rfl (cs := [_]) rfl tS_3 tA_3 rfl rfl ?_
       refine wl_pure rfl rfl rfl (freshS_eq rfl) rfl ?_
       refine wl_nil ?_
       refine we_block_normal ?_
       refine we_then ?_
       refine wc_keep [6, 22, 21, 20, 0, 1] (S' := [_,_,_,_,_,_]) rfl ?_
       refine wc_region ?_
       refine wl_pure rfl rfl rfl (freshS_eq rfl) rfl ?_
       obtain ⟨hg43, hm⟩ := gd_some hm
       refine wl_as (d := 43) (v' := .int .i64 ((u1_22 + 1 : Nat) : Int)) (S' := [_,_,_,_,_,_]) rfl rfl (nat_add (a := u1_22) (b := 1) hg43) ?_
       refine wl_pure (S' := [_,_,_,_,_,_]) rfl rfl rfl rfl rfl ?_
       refine wl_nil ?_
       have hE := (Option.some.inj hm).symm
       replace hE := link_inl hLu1 hE
       refine we_pick [1] rfl (H' := [_]) rfl ?_
       refine we_roundK (_, u1_22 + 1, x24.id) (Nat.lt_succ_self _) hE [22, 21, 20, 6, 0, 1] rfl (fun _ _ hφ => ask [] rfl hφ) rfl
    ·
     replace hm := iteF hm hb23
     refine wc_keep [0, 1] (S' := [_,_]) rfl ?_
     refine wc_exit ?_
     refine we_then_exit ?_
     refine we_then_exit ?_
     refine we_block_hit ?_
     have hE := (Option.some.inj hm).symm
     replace hE := link_inr hLu1 hE
     refine we_join () hE [0, 1] rfl (fun _ _ hφ => ask [] rfl hφ) rfl
   ·
    rintro _ hE
    try dsimp only
    have hm := link_inl hLj_2 hE
    try dsimp only at hm
    refine wc_seq ?_
    refine wc_region ?_
    refine wl_pure rfl rfl rfl (freshS_eq rfl) rfl ?_
    obtain ⟨v45, hc45, hm⟩ := bindO_some hm
    refine wl_call [0] [] rfl rfl rfl (freshS_eq rfl) rfl rfl fn_21 rfl (m_session_all_s N qp1 qn2 qc3 l4 _ hc45) (fun _ _ hφ => ask [] rfl hφ) rfl (H' := []) rfl ?_
    rintro _ _ _ ⟨p45_0, c45_1, rfl, rfl, rfl⟩
    refine wl_build rfl rfl rfl (freshS_eq rfl) rfl tZ_48 tP_48 rfl (out := [_]) rfl ?_
    refine wl_pure rfl rfl rfl (freshS_eq rfl) rfl ?_
    refine wl_build rfl rfl rfl (freshS_eq rfl) rfl tZ_50 tP_50 rfl (out := [_,_]) rfl ?_
    refine wl_box rfl rfl rfl (freshS_eq rfl) rfl rfl rfl (fun g49 => ?_)
    refine wl_pure rfl rfl rfl (freshS_eq rfl) rfl ?_
    refine wl_pure rfl rfl rfl (freshS_eq rfl) rfl ?_
    refine wl_nil ?_
    refine we_then ?_
    refine wc_keep [5, 4] (S' := [_,_]) rfl ?_
    refine wc_ret ?_
    have hE := (Option.some.inj hm).symm
    cases hE
set_option maxRecDepth 100000 in
set_option maxHeartbeats 4000000 in
theorem m_session_Of_s1 (N : Nat) (a0 : Int) (qp1 : Option Addr) (qn2 : Nat) (qc3 : Nat) (l4 : List SessD) (o3 : List SessD) (hm : m_session_Of N a0 l4 = some (.inr o3)) : Spec Try.prog 18 [.int .i64 a0, .slice qp1 qn2 qc3] [] [.own 62 6 R_SessD (.slice qp1 qn2 qc3) l4] (fun v Φr Hr => ∃ (o0 : Nat) (o1 : Option Addr) (o2 : Nat), v = .tuple #[.pointer (some ⟨o0, 0, none⟩), .int .i64 0] ∧ Φr = [] ∧ Hr = [.blk o0 [.slice o1 qn2 o2, .int .i64 a0] 50, .own 62 6 R_SessD (.slice o1 qn2 o2) o3, .own 62 6 R_SessD (.slice qp1 qn2 qc3) l4]) := by
 unfold m_session_Of at hm
 refine spec_of Try.func18 rfl Try.ntmps18 rfl (S := [_,_]) rfl (fun C => ?_)
 refine wc_seq ?_
 refine wc_region ?_
 refine wl_pure rfl rfl rfl (freshS_eq rfl) rfl ?_
 refine wl_pure rfl rfl rfl (freshS_eq rfl) rfl ?_
 refine wl_nil ?_
 refine we_then ?_
 refine wc_keep [0, 1] (S' := [_,_]) rfl ?_
 refine wc_seq ?_
 refine wc_seq ?_
 obtain ⟨bj_1, hm, hLj_1⟩ := bindO_some hm
 refine wc_cut (σ := Bool) (fun j_1_19 => bj_1 = j_1_19) (fun j_1_19 => [(0, .int .i64 a0), (1, .slice qp1 qn2 qc3), (19, .bool j_1_19)]) (fun j_1_19 => []) (fun j_1_19 => [.own 62 6 R_SessD (.slice qp1 qn2 qc3) l4]) ?_ ?_
 ·
  refine wc_region ?_
  refine wl_pure rfl rfl rfl (freshS_eq rfl) rfl ?_
  refine wl_pure rfl rfl rfl (freshS_eq rfl) rfl ?_
  refine wl_pure rfl rfl rfl (freshS_eq rfl) rfl ?_
  refine wl_split (d := 11) (S' := [_,_,_,_]) rfl rfl (fun hs11 => ?_) (fun hs11 => ?_)
  ·
   replace hm := iteT hm hs11
   refine wl_off rfl rfl rfl (freshS_eq rfl) ?_
   refine wl_off rfl rfl rfl (freshS_eq rfl) ?_
   refine wl_pure rfl rfl rfl (freshS_eq rfl) rfl ?_
   refine wl_pure rfl rfl rfl (freshS_eq rfl) rfl ?_
   refine wl_off rfl rfl rfl (freshS_eq rfl) ?_
   refine wl_off rfl rfl rfl (freshS_eq rfl) ?_
   refine wl_off rfl rfl rfl (freshS_eq rfl) ?_
   refine wl_pure rfl rfl rfl (freshS_eq rfl) rfl ?_
   refine wl_nil ?_
   have hE := (Option.some.inj hm).symm
   refine we_join true hE [0, 1, 19] rfl (fun _ _ hφ => ask [] rfl hφ) rfl
  ·
   replace hm := iteF hm hs11
   refine wl_pure rfl rfl rfl (freshS_eq rfl) rfl ?_
   refine wl_pure rfl rfl rfl (freshS_eq rfl) rfl ?_
   refine wl_pure rfl rfl rfl (freshS_eq rfl) rfl ?_
   refine wl_pure rfl rfl rfl (freshS_eq rfl) rfl ?_
   refine wl_split (d := 15) (S' := [_,_,_,_,_,_,_,_]) rfl rfl (fun hs15 => ?_) (fun hs15 => ?_)
   ·
    replace hm := iteT hm hs15
    refine wl_off rfl rfl rfl (freshS_eq rfl) ?_
    refine wl_off rfl rfl rfl (freshS_eq rfl) ?_
    refine wl_off rfl rfl rfl (freshS_eq rfl) ?_
    refine wl_pure rfl rfl rfl (freshS_eq rfl) rfl ?_
    refine wl_nil ?_
    have hE := (Option.some.inj hm).symm
    refine we_join true hE [0, 1, 19] rfl (fun _ _ hφ => ask [] rfl hφ) rfl
   ·
    replace hm := iteF hm hs15
    refine wl_pure rfl rfl rfl (freshS_eq rfl) rfl ?_
    refine wl_ownLen 0 rfl (fun hl17 _ => ?_)
    refine wl_len rfl rfl rfl (freshS_eq rfl) rfl rfl tE_38 ?_
    refine wl_as (d := 17) (v' := .int .i64 ((l4.length : Nat) : Int)) (S' := [_,_,_,_,_,_,_,_,_,_]) rfl rfl (len_is hl17) ?_
    refine wl_pure rfl rfl rfl (freshS_eq rfl) rfl ?_
    refine wl_as (d := 18) (v' := .bool (decide (32 < l4.length))) (S' := [_,_,_,_,_,_,_,_,_,_,_]) rfl rfl (natgt (a := l4.length) (b := 32)) ?_
    refine wl_pure rfl rfl rfl (freshS_eq rfl) rfl ?_
    refine wl_nil ?_
    have hE := (Option.some.inj hm).symm
    refine we_join (decide (32 < l4.length)) hE [0, 1, 19] rfl (fun _ _ hφ => ask [] rfl hφ) rfl
 ·
  rintro j_1_19 hE
  try dsimp only
  have hm := hLj_1
  rw [hE] at hm
  refine wc_cond rfl (fun hb19 => ?_) (fun hb19 => ?_)
  ·
   replace hm := iteT hm hb19
   refine wc_keep [] (S' := []) rfl ?_
   refine wc_seq ?_
   refine wc_region ?_
   refine wl_pure rfl rfl rfl (freshS_eq rfl) rfl ?_
   refine wl_pure rfl rfl rfl (freshS_eq rfl) rfl ?_
   refine wl_nil ?_
   refine we_then ?_
   refine wc_ret ?_
   refine we_then_ret ?_
   have hE := (Option.some.inj hm).symm
   cases hE
  ·
   replace hm := iteF hm hb19
   refine wc_keep [0, 1] (S' := [_,_]) rfl ?_
   refine wc_skip ?_
   refine we_then ?_
   refine wc_seq ?_
   refine wc_region ?_
   refine wl_pure rfl rfl rfl (freshS_eq rfl) rfl ?_
   refine wl_nil ?_
   refine we_then ?_
   refine wc_seq ?_
   obtain ⟨bj_2, hm, hLj_2⟩ := bindS_some hm
   refine wc_cut (σ := Unit) (fun _ => bj_2 = .inl ()) (fun _ => [(0, .int .i64 a0), (1, .slice qp1 qn2 qc3)]) (fun _ => []) (fun _ => [.own 62 6 R_SessD (.slice qp1 qn2 qc3) l4]) ?_ ?_
   ·
    refine wc_seq ?_
    refine wc_region ?_
    refine wl_pure rfl rfl rfl (freshS_eq rfl) rfl ?_
    refine wl_ownLen 0 rfl (fun hl21 _ => ?_)
    refine wl_len rfl rfl rfl (freshS_eq rfl) rfl rfl tE_38 ?_
    refine wl_as (d := 21) (v' := .int .i64 ((l4.length : Nat) : Int)) (S' := [_,_,_,_]) rfl rfl (len_is hl21) ?_
    refine wl_pure rfl rfl rfl (freshS_eq rfl) rfl ?_
    refine wl_nil ?_
    refine we_then ?_
    refine wc_block ?_
    refine wc_loop (σ := Nat × Nat × Int) (fun (nu1, u1_22, u1_6) => iter (m_session_Of_L1 N l4 a0) nu1 (u1_22, u1_6) = some bj_2) (fun (nu1, u1_22, u1_6) => nu1) (fun (nu1, u1_22, u1_6) => [(22, .int .i64 ((u1_22 : Nat) : Int)), (21, .int .i64 ((l4.length : Nat) : Int)), (20, .slice qp1 qn2 qc3), (6, .int .i64 u1_6), (0, .int .i64 a0), (1, .slice qp1 qn2 qc3)]) (fun (nu1, u1_22, u1_6) => []) (fun (nu1, u1_22, u1_6) => [.own 62 6 R_SessD (.slice qp1 qn2 qc3) l4]) (N, 0, 0) hm [22, 21, 20, 6, 0, 1] rfl (fun _ _ hφ => ask [] rfl hφ) rfl (fun s_ hm => ?_)
    obtain ⟨nu1, u1_22, u1_6⟩ := s_
    try dsimp only at hm ⊢
    obtain ⟨mu1, bu1, hnu1, hq, hLu1⟩ := iter_some hm
    clear hm
    subst hnu1
    replace hm := hq
    clear hq
    unfold m_session_Of_L1 at hm
    try dsimp only at hm
    refine wc_seq ?_
    refine wc_region ?_
    refine wl_pure rfl rfl rfl (freshS_eq rfl) rfl ?_
    refine wl_as (d := 23) (v' := .bool (decide (u1_22 < l4.length))) (S' := [_,_,_,_,_,_]) rfl rfl (natlt (a := u1_22) (b := l4.length)) ?_
    refine wl_nil ?_
    refine we_then ?_
    refine wc_seq ?_
    refine wc_cond rfl (fun hb23 => ?_) (fun hb23 => ?_)
    ·
     replace hm := iteT hm hb23
     refine wc_keep [22, 21, 20, 6, 0, 1] (S' := [_,_,_,_,_,_]) rfl ?_
     refine wc_skip ?_
     refine we_then ?_
     refine wc_seq ?_
     refine wc_block ?_
     refine wc_seq ?_
     refine wc_region ?_
     obtain ⟨x24, hx24, hm⟩ := bindO_some hm
     refine wl_indexH 0 u1_22 rfl rfl rfl (freshS_eq rfl) rfl rfl rfl rfl rfl (get_lt hx24) tE_38 tS_62 (fun g24 eg24 => ?_)
     subst eg24
     refine wl_loadRow R_SessD_opens 0 u1_22 0 rfl rfl rfl (freshS_eq rfl) rfl rfl rfl hx24 tS_62 tA_62 (v := fun r25 => .agg #[.int .i64 (x24.id), .int .i64 (x24.seq), .int .i64 (x24.r.err), .int .i64 (x24.r.num), .slice r25.1.1 x24.r.facts.length r25.1.2, .slice r25.2.1 x24.r.said.length r25.2.2]) (fun _ => rfl) (fun _ => rfl) (fun r25 _ => ?_)
     refine wl_alloc rfl rfl rfl (freshS_eq rfl) rfl tZ_62 rfl (fun g8 => ?_)
     refine wl_store 0 0 rfl rfl rfl rfl rfl rfl rfl tS_62 rfl rfl rfl (all' := [_,_,_,_,_,_]) rfl (H' := [_,_]) rfl ?_
     refine wl_nil ?_
     refine we_then ?_
     refine wc_keep [8, 22, 21, 20, 6, 0, 1] (S' := [_,_,_,_,_,_,_]) rfl ?_
     refine wc_seq ?_
     refine wc_seq ?_
     obtain ⟨bj_3, hm, hLj_3⟩ := bindO_some hm
     refine wc_cut (σ := Bool) (fun j_3_40 => bj_3 = j_3_40) (fun j_3_40 => [(8, .pointer (some ⟨g8, 0, none⟩)), (22, .int .i64 ((u1_22 : Nat) : Int)), (21, .int .i64 ((l4.length : Nat) : Int)), (20, .slice (some ⟨g24, 0, none⟩) qn2 qc3), (0, .int .i64 a0), (1, .slice (some ⟨g24, 0, none⟩) qn2 qc3), (40, .bool j_3_40)]) (fun j_3_40 => [.sli 3 R_FactD r25.1.1 r25.1.2 x24.r.facts, .sli 3 R_V r25.2.1 r25.2.2 x24.r.said]) (fun j_3_40 => [.blk g8 [.int .i64 (x24.id), .int .i64 (x24.seq), .int .i64 (x24.r.err), .int .i64 (x24.r.num), .slice r25.1.1 x24.r.facts.length r25.1.2, .slice r25.2.1 x24.r.said.length r25.2.2] 62, .own 62 6 R_SessD (.slice (some ⟨g24, 0, none⟩) qn2 qc3) l4]) ?_ ?_
     ·
      refine wc_region ?_
      refine wl_fieldAddr rfl rfl rfl (freshS_eq rfl) rfl rfl tF_62_0 ?_
      refine wl_loadH 0 0 rfl rfl rfl (freshS_eq rfl) rfl rfl rfl (cs := [_]) rfl tS_3 tA_3 rfl rfl ?_
      refine wl_pure rfl rfl rfl (freshS_eq rfl) rfl ?_
      refine wl_pure rfl rfl rfl (freshS_eq rfl) rfl ?_
      refine wl_pure rfl rfl rfl (freshS_eq rfl) rfl ?_
      refine wl_split (d := 30) (S' := [_,_,_,_,_,_,_,_,_,_,_]) rfl rfl (fun hs30 => ?_) (fun hs30 => ?_)
      ·
       replace hm := iteT hm hs30
       refine wl_off rfl rfl rfl (freshS_eq rfl) ?_
       refine wl_off rfl rfl rfl (freshS_eq rfl) ?_
       refine wl_off rfl rfl rfl (freshS_eq rfl) ?_
       refine wl_off rfl rfl rfl (freshS_eq rfl) ?_
       refine wl_pure rfl rfl rfl (freshS_eq rfl) rfl ?_
       refine wl_pure rfl rfl rfl (freshS_eq rfl) rfl ?_
       refine wl_off rfl rfl rfl (freshS_eq rfl) ?_
       refine wl_off rfl rfl rfl (freshS_eq rfl) ?_
       refine wl_off rfl rfl rfl (freshS_eq rfl) ?_
       refine wl_pure rfl rfl rfl (freshS_eq rfl) rfl ?_
       refine wl_nil ?_
       have hE := (Option.some.inj hm).symm
       refine we_join true hE [8, 22, 21, 20, 0, 1, 40] rfl (fun _ _ hφ => ask [0, 1] rfl hφ) rfl
      ·
       replace hm := iteF hm hs30
       refine wl_fieldAddr rfl rfl rfl (freshS_eq rfl) rfl rfl tF_62_0 ?_
       refine wl_loadH 0 0 rfl rfl rfl (freshS_eq rfl) rfl rfl rfl (cs := [_]) rfl tS_3 tA_3 rfl rfl ?_
       refine wl_pure rfl rfl rfl (freshS_eq rfl) rfl ?_
       refine wl_pure rfl rfl rfl (freshS_eq rfl) rfl ?_
       refine wl_pure rfl rfl rfl (freshS_eq rfl) rfl ?_
       refine wl_pure rfl rfl rfl (freshS_eq rfl) rfl ?_
       refine wl_split (d := 36) (S' := [_,_,_,_,_,_,_,_,_,_,_,_,_,_,_,_,_]) rfl rfl (fun hs36 => ?_) (fun hs36 => ?_)
       ·
        replace hm := iteT hm hs36
        refine wl_off rfl rfl rfl (freshS_eq rfl) ?_
        refine wl_off rfl rfl rfl (freshS_eq rfl) ?_
        refine wl_off rfl rfl rfl (freshS_eq rfl) ?_
        refine wl_pure rfl rfl rfl (freshS_eq rfl) rfl ?_
        refine wl_nil ?_
        have hE := (Option.some.inj hm).symm
        refine we_join true hE [8, 22, 21, 20, 0, 1, 40] rfl (fun _ _ hφ => ask [0, 1] rfl hφ) rfl
       ·
        replace hm := iteF hm hs36
        refine wl_fieldAddr rfl rfl rfl (freshS_eq rfl) rfl rfl tF_62_1 ?_
        refine wl_loadH 0 1 rfl rfl rfl (freshS_eq rfl) rfl rfl rfl (cs := [_]) rfl tS_3 tA_3 rfl rfl ?_
        refine wl_pure rfl rfl rfl (freshS_eq rfl) rfl ?_
        refine wl_pure rfl rfl rfl (freshS_eq rfl) rfl ?_
        refine wl_nil ?_
        have hE := (Option.some.inj hm).symm
        refine we_join (decide (x24.seq < 0)) hE [8, 22, 21, 20, 0, 1, 40] rfl (fun _ _ hφ => ask [0, 1] rfl hφ) rfl
     ·
      rintro j_3_40 hE
      try dsimp only
      have hm := hLj_3
      rw [hE] at hm
      refine wc_cond rfl (fun hb40 => ?_) (fun hb40 => ?_)
      ·
       replace hm := iteT hm hb40
       refine wc_keep [] (S' := []) rfl ?_
       refine wc_seq ?_
       refine wc_region ?_
       refine wl_pure rfl rfl rfl (freshS_eq rfl) rfl ?_
       refine wl_pure rfl rfl rfl (freshS_eq rfl) rfl ?_
       refine wl_nil ?_
       refine we_then ?_
       refine wc_ret ?_
       refine we_then_ret ?_
       refine we_block_ret ?_
       refine we_then_ret ?_
       refine we_then_ret ?_
       refine we_block_ret ?_
       refine we_then_ret ?_
       have hE := (Option.some.inj hm).symm
       replace hE := link_inr hLu1 hE
       replace hE := link_inr hLj_2 hE
       cases hE
      ·
       replace hm := iteF hm hb40
       refine wc_keep [8, 22, 21, 20, 0, 1] (S' := [_,_,_,_,_,_]) rfl ?_
       refine wc_skip ?_
       refine we_then ?_
       refine wc_region ?_
       refine wl_fieldAddr rfl rfl rfl (freshS_eq rfl) rfl rfl tF_62_0 ?_
       refine wl_loadH 0 0 rfl rfl rfl (freshS_eq rfl) rfl rfl rfl (cs := [_]) rfl tS_3 tA_3 rfl rfl ?_
       refine wl_pure rfl rfl rfl (freshS_eq rfl) rfl ?_
       refine wl_nil ?_
       refine we_block_normal ?_
       refine we_then ?_
       refine wc_keep [6, 22, 21, 20, 0, 1] (S' := [_,_,_,_,_,_]) rfl ?_
       refine wc_region ?_
       refine wl_pure rfl rfl rfl (freshS_eq rfl) rfl ?_
       obtain ⟨hg43, hm⟩ := gd_some hm
       refine wl_as (d := 43) (v' := .int .i64 ((u1_22 + 1 : Nat) : Int)) (S' := [_,_,_,_,_,_]) rfl rfl (nat_add (a := u1_22) (b := 1) hg43) ?_
       refine wl_pure (S' := [_,_,_,_,_,_]) rfl rfl rfl rfl rfl ?_
       refine wl_nil ?_
       have hE := (Option.some.inj hm).symm
       replace hE := link_inl hLu1 hE
       refine we_pick [1] rfl (H' := [_]) rfl ?_
       refine we_roundK (_, u1_22 + 1, x24.id) (Nat.lt_succ_self _) hE [22, 21, 20, 6, 0, 1] rfl (fun _ _ hφ => ask [] rfl hφ) rfl
    ·
     replace hm := iteF hm hb23
     refine wc_keep [0, 1] (S' := [_,_]) rfl ?_
     refine wc_exit ?_
     refine we_then_exit ?_
     refine we_then_exit ?_
     refine we_block_hit ?_
     have hE := (Option.some.inj hm).symm
     replace hE := link_inr hLu1 hE
     refine we_join () hE [0, 1] rfl (fun _ _ hφ => ask [] rfl hφ) rfl
   ·
    rintro _ hE
    try dsimp only
    have hm := link_inl hLj_2 hE
    try dsimp only at hm
    refine wc_seq ?_
    refine wc_region ?_
    refine wl_pure rfl rfl rfl (freshS_eq rfl) rfl ?_
    obtain ⟨v45, hc45, hm⟩ := bindO_some hm
    refine wl_call [0] [] rfl rfl rfl (freshS_eq rfl) rfl rfl fn_21 rfl (m_session_all_s N qp1 qn2 qc3 l4 _ hc45) (fun _ _ hφ => ask [] rfl hφ) rfl (H' := []) rfl ?_
    rintro _ _ _ ⟨p45_0, c45_1, rfl, rfl, rfl⟩
    refine wl_build rfl rfl rfl (freshS_eq rfl) rfl tZ_48 tP_48 rfl (out := [_]) rfl ?_
    refine wl_pure rfl rfl rfl (freshS_eq rfl) rfl ?_
    refine wl_build rfl rfl rfl (freshS_eq rfl) rfl tZ_50 tP_50 rfl (out := [_,_]) rfl ?_
    refine wl_box rfl rfl rfl (freshS_eq rfl) rfl rfl rfl (fun g49 => ?_)
    refine wl_pure rfl rfl rfl (freshS_eq rfl) rfl ?_
    refine wl_pure rfl rfl rfl (freshS_eq rfl) rfl ?_
    refine wl_nil ?_
    refine we_then ?_
    refine wc_keep [5, 4] (S' := [_,_]) rfl ?_
    refine wc_ret ?_
    have hE := (Option.some.inj hm).symm
    replace hE := Sum.inr.inj hE
    replace hE := hE.symm
    subst hE
    refine ret_two (Hr := [_, _, _]) [0, 1, 2] Try.results18 (res_tmp rfl) (res_tmp rfl) ⟨g49, p45_0, c45_1, rfl, rfl, rfl⟩ (fun _ _ hφ => ask [] rfl hφ) rfl rfl (.inl rfl)
set_option maxRecDepth 100000 in
set_option maxHeartbeats 4000000 in
theorem m_session_Table_known_v2_s (N : Nat)   (hm : m_session_Table_known_v2 N = some ()) : Spec Try.prog 20 [.pointer none] [] [] (fun v Φr Hr => v = .bool false ∧ Φr = [] ∧ Hr = []) := by
 unfold m_session_Table_known_v2 at hm
 refine spec_of Try.func20 rfl Try.ntmps20 rfl (S := [_]) rfl (fun C => ?_)
 refine wc_seq ?_
 refine wc_region ?_
 refine wl_pure rfl rfl rfl (freshS_eq rfl) rfl ?_
 refine wl_nil ?_
 refine we_then ?_
 refine wc_keep [0] (S' := [_]) rfl ?_
 refine wc_seq ?_
 refine wc_region ?_
 refine wl_pure rfl rfl rfl (freshS_eq rfl) rfl ?_
 refine wl_bin rfl rfl rfl (freshS_eq rfl) rfl rfl rfl (neqP tQ_24 _ _ _) ?_
 refine wl_pure rfl rfl rfl (freshS_eq rfl) rfl ?_
 refine wl_off rfl rfl rfl (freshS_eq rfl) ?_
 refine wl_off rfl rfl rfl (freshS_eq rfl) ?_
 refine wl_off rfl rfl rfl (freshS_eq rfl) ?_
 refine wl_off rfl rfl rfl (freshS_eq rfl) ?_
 refine wl_off rfl rfl rfl (freshS_eq rfl) ?_
 refine wl_pure rfl rfl rfl (freshS_eq rfl) rfl ?_
 refine wl_pure rfl rfl rfl (freshS_eq rfl) rfl ?_
 refine wl_nil ?_
 refine we_then ?_
 refine wc_keep [2] (S' := [_]) rfl ?_
 refine wc_ret ?_
 have hE := (Option.some.inj hm).symm
 refine ret_one (Hr := []) [] Try.results20 (res_tmp rfl) ⟨rfl, rfl, rfl⟩ (fun _ _ hφ => ask [] rfl hφ) rfl rfl (.inl rfl)
set_option maxRecDepth 100000 in
set_option maxHeartbeats 4000000 in
theorem m_session_Table_Open_v2_s (N : Nat)   (hm : m_session_Table_Open_v2 N = some ()) : Spec Try.prog 9 [.pointer none] [] [] (fun v Φr Hr => v = .tuple #[.int .i64 0, .int .i64 1] ∧ Φr = [] ∧ Hr = []) := by
 unfold m_session_Table_Open_v2 at hm
 refine spec_of Try.func9 rfl Try.ntmps9 rfl (S := [_]) rfl (fun C => ?_)
 refine wc_seq ?_
 refine wc_region ?_
 refine wl_pure rfl rfl rfl (freshS_eq rfl) rfl ?_
 refine wl_pure rfl rfl rfl (freshS_eq rfl) rfl ?_
 refine wl_nil ?_
 refine we_then ?_
 refine wc_keep [0] (S' := [_]) rfl ?_
 refine wc_seq ?_
 refine wc_block ?_
 refine wc_seq ?_
 refine wc_region ?_
 refine wl_pure rfl rfl rfl (freshS_eq rfl) rfl ?_
 obtain ⟨_, hc6, hm⟩ := bindO_some hm
 try dsimp only at hm
 refine wl_call [] [] rfl rfl rfl (freshS_eq rfl) rfl rfl fn_20 rfl (m_session_Table_known_v2_s N  hc6) (fun _ _ hφ => ask [] rfl hφ) rfl (H' := []) rfl ?_
 rintro _ _ _ ⟨rfl, rfl, rfl⟩
 refine wl_pure rfl rfl rfl (freshS_eq rfl) rfl ?_
 refine wl_pure rfl rfl rfl (freshS_eq rfl) rfl ?_
 refine wl_nil ?_
 refine we_then ?_
 refine wc_keep [4, 0] (S' := [_,_]) rfl ?_
 refine wc_true rfl ?_
 refine wc_keep [] (S' := []) rfl ?_
 refine wc_seq ?_
 refine wc_region ?_
 refine wl_pure rfl rfl rfl (freshS_eq rfl) rfl ?_
 refine wl_pure rfl rfl rfl (freshS_eq rfl) rfl ?_
 refine wl_nil ?_
 refine we_then ?_
 refine wc_ret ?_
 refine we_block_ret ?_
 refine we_then_ret ?_
 have hE := (Option.some.inj hm).symm
 refine ret_two (Hr := []) [] Try.results9 (res_tmp rfl) (res_tmp rfl) ⟨rfl, rfl, rfl⟩ (fun _ _ hφ => ask [] rfl hφ) rfl rfl (.inl rfl)
set_option maxRecDepth 100000 in
set_option maxHeartbeats 4000000 in
theorem m_session_Table_at_v2_s (N : Nat) (a0 : Int)  (hm : m_session_Table_at_v2 N a0 = some ()) : Spec Try.prog 22 [.pointer none, .int .i64 a0] [] [] (fun v Φr Hr => v = .tuple #[.int .i64 0, .int .i64 1] ∧ Φr = [] ∧ Hr = []) := by
 unfold m_session_Table_at_v2 at hm
 refine spec_of Try.func22 rfl Try.ntmps22 rfl (S := [_,_]) rfl (fun C => ?_)
 refine wc_seq ?_
 refine wc_region ?_
 refine wl_pure rfl rfl rfl (freshS_eq rfl) rfl ?_
 refine wl_pure rfl rfl rfl (freshS_eq rfl) rfl ?_
 refine wl_nil ?_
 refine we_then ?_
 refine wc_keep [0, 1] (S' := [_,_]) rfl ?_
 refine wc_seq ?_
 refine wc_seq ?_
 refine wc_region ?_
 refine wl_pure rfl rfl rfl (freshS_eq rfl) rfl ?_
 obtain ⟨_, hc8, hm⟩ := bindO_some hm
 try dsimp only at hm
 refine wl_call [] [] rfl rfl rfl (freshS_eq rfl) rfl rfl fn_20 rfl (m_session_Table_known_v2_s N  hc8) (fun _ _ hφ => ask [] rfl hφ) rfl (H' := []) rfl ?_
 rintro _ _ _ ⟨rfl, rfl, rfl⟩
 refine wl_pure rfl rfl rfl (freshS_eq rfl) rfl ?_
 refine wl_nil ?_
 refine we_then ?_
 refine wc_keep [9, 0, 1] (S' := [_,_,_]) rfl ?_
 refine wc_true rfl ?_
 refine wc_keep [] (S' := []) rfl ?_
 refine wc_seq ?_
 refine wc_region ?_
 refine wl_pure rfl rfl rfl (freshS_eq rfl) rfl ?_
 refine wl_pure rfl rfl rfl (freshS_eq rfl) rfl ?_
 refine wl_nil ?_
 refine we_then ?_
 refine wc_ret ?_
 refine we_then_ret ?_
 have hE := (Option.some.inj hm).symm
 refine ret_two (Hr := []) [] Try.results22 (res_tmp rfl) (res_tmp rfl) ⟨rfl, rfl, rfl⟩ (fun _ _ hφ => ask [] rfl hφ) rfl rfl (.inl rfl)
set_option maxRecDepth 100000 in
set_option maxHeartbeats 4000000 in
theorem m_session_Table_Expire_v2_s (N : Nat) (a0 : Int)  (hm : m_session_Table_Expire_v2 N a0 = some ()) : Spec Try.prog 11 [.pointer none, .int .i64 a0] [] [] (fun v Φr Hr => v = .int .i64 1 ∧ Φr = [] ∧ Hr = []) := by
 unfold m_session_Table_Expire_v2 at hm
 refine spec_of Try.func11 rfl Try.ntmps11 rfl (S := [_,_]) rfl (fun C => ?_)
 refine wc_seq ?_
 refine wc_region ?_
 refine wl_pure rfl rfl rfl (freshS_eq rfl) rfl ?_
 refine wl_nil ?_
 refine we_then ?_
 refine wc_keep [0, 1] (S' := [_,_]) rfl ?_
 refine wc_seq ?_
 refine wc_region ?_
 refine wl_pure rfl rfl rfl (freshS_eq rfl) rfl ?_
 refine wl_pure rfl rfl rfl (freshS_eq rfl) rfl ?_
 obtain ⟨_, hc10, hm⟩ := bindO_some hm
 try dsimp only at hm
 refine wl_call [] [] rfl rfl rfl (freshS_eq rfl) rfl rfl fn_22 rfl (m_session_Table_at_v2_s N a0 hc10) (fun _ _ hφ => ask [] rfl hφ) rfl (H' := []) rfl ?_
 rintro _ _ _ ⟨rfl, rfl, rfl⟩
 refine wl_pure rfl rfl rfl (freshS_eq rfl) rfl ?_
 refine wl_pure rfl rfl rfl (freshS_eq rfl) rfl ?_
 refine wl_pure rfl rfl rfl (freshS_eq rfl) rfl ?_
 refine wl_pure rfl rfl rfl (freshS_eq rfl) rfl ?_
 refine wl_pure rfl rfl rfl (freshS_eq rfl) rfl ?_
 refine wl_nil ?_
 refine we_then ?_
 refine wc_keep [6, 5, 0] (S' := [_,_,_]) rfl ?_
 refine wc_seq ?_
 refine wc_seq ?_
 refine wc_region ?_
 refine wl_pure rfl rfl rfl (freshS_eq rfl) rfl ?_
 refine wl_pure rfl rfl rfl (freshS_eq rfl) rfl ?_
 refine wl_as (d := 14) (v' := .bool (1 == 0)) (S' := [_,_,_,_]) rfl rfl (nateq (a := 1) (b := 0)) ?_
 refine wl_nil ?_
 refine we_then ?_
 refine wc_keep [14, 6, 5, 0] (S' := [_,_,_,_]) rfl ?_
 refine wc_cond rfl (fun hb14 => ?_) (fun hb14 => ?_)
 ·
  replace hm := iteT hm hb14
  refine wc_keep [6, 5, 0] (S' := [_,_,_]) rfl ?_
  refine wc_region ?_
  refine wl_pure rfl rfl rfl (freshS_eq rfl) rfl ?_
  refine wl_pure rfl rfl rfl (freshS_eq rfl) rfl ?_
  cases hm
 ·
  replace hm := iteF hm hb14
  refine wc_keep [6] (S' := [_]) rfl ?_
  refine wc_skip ?_
  refine we_then ?_
  refine wc_seq ?_
  refine wc_region ?_
  refine wl_pure rfl rfl rfl (freshS_eq rfl) rfl ?_
  refine wl_pure rfl rfl rfl (freshS_eq rfl) rfl ?_
  refine wl_nil ?_
  refine we_then ?_
  refine wc_keep [4] (S' := [_]) rfl ?_
  refine wc_ret ?_
  have hE := (Option.some.inj hm).symm
  refine ret_one (Hr := []) [] Try.results11 (res_tmp rfl) ⟨rfl, rfl, rfl⟩ (fun _ _ hφ => ask [] rfl hφ) rfl rfl (.inl rfl)
set_option maxRecDepth 100000 in
set_option maxHeartbeats 4000000 in
theorem m_session_Table_Done_v2_s (N : Nat) (a0 : Int) (a1 : Int) (a2 : Int) (a3 : Int) (qp4 : Option Addr) (qc5 : Nat) (l6 : List FactD) (qp7 : Option Addr) (qc8 : Nat) (l9 : List V) (o0 : Nat) (hm : m_session_Table_Done_v2 N a0 a1 a2 a3 l6 l9 = some o0) : Spec Try.prog 13 [.pointer none, .int .i64 a0, .int .i64 a1, .agg #[.int .i64 a2, .int .i64 a3, .slice qp4 l6.length qc5, .slice qp7 l9.length qc8]] [.sli 3 R_FactD qp4 qc5 l6, .sli 3 R_V qp7 qc8 l9] [] (fun v Φr Hr => v = .int .i64 ((o0 : Nat) : Int) ∧ Φr = [] ∧ Hr = []) := by
 unfold m_session_Table_Done_v2 at hm
 refine spec_of Try.func13 rfl Try.ntmps13 rfl (S := [_,_,_,_]) rfl (fun C => ?_)
 refine wc_seq ?_
 refine wc_region ?_
 refine wl_box rfl rfl rfl (freshS_eq rfl) rfl rfl rfl (fun g7 => ?_)
 refine wl_pure rfl rfl rfl (freshS_eq rfl) rfl ?_
 refine wl_nil ?_
 refine we_then ?_
 refine wc_keep [7, 0, 1, 2] (S' := [_,_,_,_]) rfl ?_
 refine wc_seq ?_
 refine wc_region ?_
 refine wl_pure rfl rfl rfl (freshS_eq rfl) rfl ?_
 refine wl_pure rfl rfl rfl (freshS_eq rfl) rfl ?_
 obtain ⟨_, hc14, hm⟩ := bindO_some hm
 try dsimp only at hm
 refine wl_call [] [0] rfl rfl rfl (freshS_eq rfl) rfl rfl fn_22 rfl (m_session_Table_at_v2_s N a0 hc14) (fun _ _ hφ => ask [] rfl hφ) rfl (H' := [_]) rfl ?_
 rintro _ _ _ ⟨rfl, rfl, rfl⟩
 refine wl_pure rfl rfl rfl (freshS_eq rfl) rfl ?_
 refine wl_pure rfl rfl rfl (freshS_eq rfl) rfl ?_
 refine wl_pure rfl rfl rfl (freshS_eq rfl) rfl ?_
 refine wl_pure rfl rfl rfl (freshS_eq rfl) rfl ?_
 refine wl_pure rfl rfl rfl (freshS_eq rfl) rfl ?_
 refine wl_nil ?_
 refine we_then ?_
 refine wc_keep [10, 9, 7, 0, 2] (S' := [_,_,_,_,_]) rfl ?_
 refine wc_seq ?_
 refine wc_block ?_
 refine wc_seq ?_
 refine wc_region ?_
 refine wl_pure rfl rfl rfl (freshS_eq rfl) rfl ?_
 refine wl_pure rfl rfl rfl (freshS_eq rfl) rfl ?_
 refine wl_as (d := 19) (v' := .bool (1 != 0)) (S' := [_,_,_,_,_,_]) rfl rfl (natne (a := 1) (b := 0)) ?_
 refine wl_pure rfl rfl rfl (freshS_eq rfl) rfl ?_
 refine wl_nil ?_
 refine we_then ?_
 refine wc_keep [17, 10, 9, 7, 0, 2] (S' := [_,_,_,_,_,_]) rfl ?_
 refine wc_cond rfl (fun hb17 => ?_) (fun hb17 => ?_)
 ·
  replace hm := iteT hm hb17
  refine wc_keep [10] (S' := [_]) rfl ?_
  refine wc_seq ?_
  refine wc_region ?_
  refine wl_pure rfl rfl rfl (freshS_eq rfl) rfl ?_
  refine wl_pure rfl rfl rfl (freshS_eq rfl) rfl ?_
  refine wl_nil ?_
  refine we_then ?_
  refine wc_keep [8] (S' := [_]) rfl ?_
  refine wc_ret ?_
  refine we_block_ret ?_
  refine we_then_ret ?_
  have hE := (Option.some.inj hm).symm
  replace hE := hE.symm
  subst hE
  refine ret_one (Hr := []) [] Try.results13 (res_tmp rfl) ⟨rfl, rfl, rfl⟩ (fun _ _ hφ => ask [] rfl hφ) rfl rfl (.inl rfl)
 ·
  replace hm := iteF hm hb17
  refine wc_keep [9, 7, 0, 2] (S' := [_,_,_,_]) rfl ?_
  refine wc_seq ?_
  refine wc_region ?_
  refine wl_pure rfl rfl rfl (freshS_eq rfl) rfl ?_
  refine wl_pure rfl rfl rfl (freshS_eq rfl) rfl ?_
  refine wl_pure rfl rfl rfl (freshS_eq rfl) rfl ?_
  refine wl_split (d := 24) (S' := [_,_,_,_,_,_]) rfl rfl (fun hs24 => ?_) (fun hs24 => ?_)
  ·
   replace hm := iteT hm hs24
   refine wl_off rfl rfl rfl (freshS_eq rfl) ?_
   refine wl_off rfl rfl rfl (freshS_eq rfl) ?_
   refine wl_off rfl rfl rfl (freshS_eq rfl) ?_
   refine wl_off rfl rfl rfl (freshS_eq rfl) ?_
   refine wl_off rfl rfl rfl (freshS_eq rfl) ?_
   refine wl_off rfl rfl rfl (freshS_eq rfl) ?_
   refine wl_off rfl rfl rfl (freshS_eq rfl) ?_
   refine wl_off rfl rfl rfl (freshS_eq rfl) ?_
   refine wl_off rfl rfl rfl (freshS_eq rfl) ?_
   refine wl_off rfl rfl rfl (freshS_eq rfl) ?_
   refine wl_off rfl rfl rfl (freshS_eq rfl) ?_
   refine wl_pure rfl rfl rfl (freshS_eq rfl) rfl ?_
   refine wl_pure rfl rfl rfl (freshS_eq rfl) rfl ?_
   refine wl_nil ?_
   refine we_then ?_
   refine wc_keep [21, 9, 7, 0, 2] (S' := [_,_,_,_,_]) rfl ?_
   refine wc_true rfl ?_
   refine wc_keep [] (S' := []) rfl ?_
   refine wc_seq ?_
   refine wc_region ?_
   refine wl_pure rfl rfl rfl (freshS_eq rfl) rfl ?_
   refine wl_nil ?_
   refine we_then ?_
   refine wc_ret ?_
   refine we_block_ret ?_
   refine we_then_ret ?_
   have hE := (Option.some.inj hm).symm
   replace hE := hE.symm
   subst hE
   refine ret_one (Hr := []) [] Try.results13 (res_tmp rfl) ⟨rfl, rfl, rfl⟩ (fun _ _ hφ => ask [] rfl hφ) rfl rfl (.inl rfl)
  ·
   replace hm := iteF hm hs24
   refine wl_pure rfl rfl rfl (freshS_eq rfl) rfl ?_
   refine wl_pure rfl rfl rfl (freshS_eq rfl) rfl ?_
   cases hm
set_option maxRecDepth 100000 in
set_option maxHeartbeats 4000000 in
theorem m_ropewalklaw27_do_v2_s (N : Nat) (a0 : Int) (a1 : Int) (a2 : Int) (a3 : Int) (a4 : Int) (qp5 : Option Addr) (qc6 : Nat) (l7 : List FactD) (qp8 : Option Addr) (qc9 : Nat) (l10 : List V) (o0 : Nat) (hm : m_ropewalklaw27_do_v2 N a0 a1 a2 a3 a4 l7 l10 = some o0) : Spec Try.prog 17 [.pointer none, .agg #[.int .i64 a0, .int .i64 a1, .int .i64 a2, .int .i64 a3, .int .i64 a4, .slice qp5 l7.length qc6, .slice qp8 l10.length qc9]] [.sli 3 R_FactD qp5 qc6 l7, .sli 3 R_V qp8 qc9 l10] [] (fun v Φr Hr => v = .int .i64 ((o0 : Nat) : Int) ∧ Φr = [] ∧ Hr = []) := by
 unfold m_ropewalklaw27_do_v2 at hm
 refine spec_of Try.func17 rfl Try.ntmps17 rfl (S := [_,_]) rfl (fun C => ?_)
 refine wc_seq ?_
 refine wc_region ?_
 refine wl_box rfl rfl rfl (freshS_eq rfl) rfl rfl rfl (fun g3 => ?_)
 refine wl_pure rfl rfl rfl (freshS_eq rfl) rfl ?_
 refine wl_nil ?_
 refine we_then ?_
 refine wc_keep [3, 0] (S' := [_,_]) rfl ?_
 refine wc_seq ?_
 refine wc_seq ?_
 refine wc_region ?_
 refine wl_fieldAddr rfl rfl rfl (freshS_eq rfl) rfl rfl tF_34_0 ?_
 refine wl_loadH 0 0 rfl rfl rfl (freshS_eq rfl) rfl rfl rfl (cs := [_]) rfl tS_3 tA_3 rfl rfl ?_
 obtain ⟨v9, hc9, hm⟩ := bindO_some hm
 refine wl_call [] [0] rfl rfl rfl (freshS_eq rfl) rfl rfl fn_8 rfl (m_ropewalkkit_Pick_s N a0 4 _ hc9) (fun _ _ hφ => ask [] rfl hφ) rfl (H' := [_]) rfl ?_
 rintro _ _ _ ⟨rfl, rfl, rfl⟩
 refine wl_nil ?_
 refine we_then ?_
 refine wc_keep [9, 3, 0] (S' := [_,_,_]) rfl ?_
 refine wc_block ?_
 refine wc_seq ?_
 refine wc_region ?_
 refine wl_pure rfl rfl rfl (freshS_eq rfl) rfl ?_
 refine wl_pure rfl rfl rfl (freshS_eq rfl) rfl ?_
 refine wl_nil ?_
 refine we_then ?_
 refine wc_keep [10, 9, 3, 0] (S' := [_,_,_,_]) rfl ?_
 refine wc_cond rfl (fun hb10 => ?_) (fun hb10 => ?_)
 ·
  replace hm := iteT hm hb10
  refine wc_keep [0] (S' := [_]) rfl ?_
  refine wc_seq ?_
  refine wc_region ?_
  refine wl_pure rfl rfl rfl (freshS_eq rfl) rfl ?_
  obtain ⟨_, hc14, hm⟩ := bindO_some hm
  try dsimp only at hm
  refine wl_call [] [0] rfl rfl rfl (freshS_eq rfl) rfl rfl fn_9 rfl (m_session_Table_Open_v2_s N  hc14) (fun _ _ hφ => ask [] rfl hφ) rfl (H' := [_]) rfl ?_
  rintro _ _ _ ⟨rfl, rfl, rfl⟩
  refine wl_pure rfl rfl rfl (freshS_eq rfl) rfl ?_
  refine wl_pure rfl rfl rfl (freshS_eq rfl) rfl ?_
  refine wl_pure rfl rfl rfl (freshS_eq rfl) rfl ?_
  refine wl_pure rfl rfl rfl (freshS_eq rfl) rfl ?_
  refine wl_pure rfl rfl rfl (freshS_eq rfl) rfl ?_
  refine wl_nil ?_
  refine we_then ?_
  refine wc_keep [6] (S' := [_]) rfl ?_
  refine wc_seq ?_
  refine wc_region ?_
  refine wl_pure rfl rfl rfl (freshS_eq rfl) rfl ?_
  refine wl_pure rfl rfl rfl (freshS_eq rfl) rfl ?_
  refine wl_nil ?_
  refine we_then ?_
  refine wc_keep [4] (S' := [_]) rfl ?_
  refine wc_ret ?_
  refine we_block_ret ?_
  refine we_then_ret ?_
  have hE := (Option.some.inj hm).symm
  replace hE := hE.symm
  subst hE
  refine ret_one (Hr := []) [] Try.results17 (res_tmp rfl) ⟨rfl, rfl, rfl⟩ (fun _ _ hφ => ask [] rfl hφ) rfl rfl (.inl rfl)
 ·
  replace hm := iteF hm hb10
  refine wc_keep [9, 3, 0] (S' := [_,_,_]) rfl ?_
  refine wc_seq ?_
  refine wc_region ?_
  refine wl_pure rfl rfl rfl (freshS_eq rfl) rfl ?_
  refine wl_pure rfl rfl rfl (freshS_eq rfl) rfl ?_
  refine wl_nil ?_
  refine we_then ?_
  refine wc_keep [18, 3, 0] (S' := [_,_,_]) rfl ?_
  refine wc_cond rfl (fun hb18 => ?_) (fun hb18 => ?_)
  ·
   replace hm := iteT hm hb18
   refine wc_keep [3, 0] (S' := [_,_]) rfl ?_
   refine wc_seq ?_
   refine wc_region ?_
   refine wl_pure rfl rfl rfl (freshS_eq rfl) rfl ?_
   refine wl_fieldAddr rfl rfl rfl (freshS_eq rfl) rfl rfl tF_34_1 ?_
   refine wl_loadH 0 1 rfl rfl rfl (freshS_eq rfl) rfl rfl rfl (cs := [_]) rfl tS_3 tA_3 rfl rfl ?_
   obtain ⟨_, hc23, hm⟩ := bindO_some hm
   try dsimp only at hm
   refine wl_call [] [0] rfl rfl rfl (freshS_eq rfl) rfl rfl fn_11 rfl (m_session_Table_Expire_v2_s N a1 hc23) (fun _ _ hφ => ask [] rfl hφ) rfl (H' := [_]) rfl ?_
   rintro _ _ _ ⟨rfl, rfl, rfl⟩
   refine wl_pure rfl rfl rfl (freshS_eq rfl) rfl ?_
   refine wl_nil ?_
   refine we_then ?_
   refine wc_keep [4] (S' := [_]) rfl ?_
   refine wc_ret ?_
   refine we_block_ret ?_
   refine we_then_ret ?_
   have hE := (Option.some.inj hm).symm
   replace hE := hE.symm
   subst hE
   refine ret_one (Hr := []) [] Try.results17 (res_tmp rfl) ⟨rfl, rfl, rfl⟩ (fun _ _ hφ => ask [] rfl hφ) rfl rfl (.inl rfl)
  ·
   replace hm := iteF hm hb18
   refine wc_keep [3, 0] (S' := [_,_]) rfl ?_
   refine wc_skip ?_
   refine we_block_normal ?_
   refine we_then ?_
   refine wc_seq ?_
   refine wc_region ?_
   refine wl_pure rfl rfl rfl (freshS_eq rfl) rfl ?_
   refine wl_fieldAddr rfl rfl rfl (freshS_eq rfl) rfl rfl tF_34_1 ?_
   refine wl_loadH 0 1 rfl rfl rfl (freshS_eq rfl) rfl rfl rfl (cs := [_]) rfl tS_3 tA_3 rfl rfl ?_
   refine wl_fieldAddr rfl rfl rfl (freshS_eq rfl) rfl rfl tF_34_2 ?_
   refine wl_loadH 0 2 rfl rfl rfl (freshS_eq rfl) rfl rfl rfl (cs := [_]) rfl tS_3 tA_3 rfl rfl ?_
   refine wl_fieldAddr rfl rfl rfl (freshS_eq rfl) rfl rfl tF_34_3 ?_
   refine wl_loadH 0 3 rfl rfl rfl (freshS_eq rfl) rfl rfl rfl (cs := [_,_,_,_]) rfl tS_32 tA_32 rfl rfl ?_
   obtain ⟨v31, hc31, hm⟩ := bindO_some hm
   refine wl_call [] [0] rfl rfl rfl (freshS_eq rfl) rfl rfl fn_13 rfl (m_session_Table_Done_v2_s N a1 a2 a3 a4 qp5 qc6 l7 qp8 qc9 l10 _ hc31) (fun _ _ hφ => ask [0, 1] rfl hφ) rfl (H' := [_]) rfl ?_
   rintro _ _ _ ⟨rfl, rfl, rfl⟩
   refine wl_pure rfl rfl rfl (freshS_eq rfl) rfl ?_
   refine wl_nil ?_
   refine we_then ?_
   refine wc_keep [4] (S' := [_]) rfl ?_
   refine wc_ret ?_
   have hE := (Option.some.inj hm).symm
   replace hE := hE.symm
   subst hE
   refine ret_one (Hr := []) [] Try.results17 (res_tmp rfl) ⟨rfl, rfl, rfl⟩ (fun _ _ hφ => ask [] rfl hφ) rfl rfl (.inl rfl)
set_option maxRecDepth 100000 in
set_option maxHeartbeats 4000000 in
theorem m_session_Table_Next_v2_s (N : Nat)   (hm : m_session_Table_Next_v2 N = some ()) : Spec Try.prog 15 [.pointer none] [] [] (fun v Φr Hr => v = .int .i64 0 ∧ Φr = [] ∧ Hr = []) := by
 unfold m_session_Table_Next_v2 at hm
 refine spec_of Try.func15 rfl Try.ntmps15 rfl (S := [_]) rfl (fun C => ?_)
 refine wc_seq ?_
 refine wc_region ?_
 refine wl_pure rfl rfl rfl (freshS_eq rfl) rfl ?_
 refine wl_nil ?_
 refine we_then ?_
 refine wc_keep [0] (S' := [_]) rfl ?_
 refine wc_seq ?_
 refine wc_seq ?_
 refine wc_region ?_
 refine wl_pure rfl rfl rfl (freshS_eq rfl) rfl ?_
 obtain ⟨_, hc4, hm⟩ := bindO_some hm
 try dsimp only at hm
 refine wl_call [] [] rfl rfl rfl (freshS_eq rfl) rfl rfl fn_20 rfl (m_session_Table_known_v2_s N  hc4) (fun _ _ hφ => ask [] rfl hφ) rfl (H' := []) rfl ?_
 rintro _ _ _ ⟨rfl, rfl, rfl⟩
 refine wl_pure rfl rfl rfl (freshS_eq rfl) rfl ?_
 refine wl_nil ?_
 refine we_then ?_
 refine wc_keep [5, 0] (S' := [_,_]) rfl ?_
 refine wc_true rfl ?_
 refine wc_keep [] (S' := []) rfl ?_
 refine wc_seq ?_
 refine wc_region ?_
 refine wl_pure rfl rfl rfl (freshS_eq rfl) rfl ?_
 refine wl_nil ?_
 refine we_then ?_
 refine wc_ret ?_
 refine we_then_ret ?_
 have hE := (Option.some.inj hm).symm
 refine ret_one (Hr := []) [] Try.results15 (res_tmp rfl) ⟨rfl, rfl, rfl⟩ (fun _ _ hφ => ask [] rfl hφ) rfl rfl (.inl rfl)
set_option maxRecDepth 100000 in
set_option maxHeartbeats 4000000 in
theorem m_session_Table_All_v2_s (N : Nat)   (hm : m_session_Table_All_v2 N = some ()) : Spec Try.prog 10 [.pointer none] [] [] (fun v Φr Hr => v = .slice none 0 0 ∧ Φr = [] ∧ Hr = []) := by
 unfold m_session_Table_All_v2 at hm
 refine spec_of Try.func10 rfl Try.ntmps10 rfl (S := [_]) rfl (fun C => ?_)
 refine wc_seq ?_
 refine wc_region ?_
 refine wl_pure rfl rfl rfl (freshS_eq rfl) rfl ?_
 refine wl_nil ?_
 refine we_then ?_
 refine wc_keep [0] (S' := [_]) rfl ?_
 refine wc_seq ?_
 refine wc_seq ?_
 refine wc_region ?_
 refine wl_pure rfl rfl rfl (freshS_eq rfl) rfl ?_
 obtain ⟨_, hc4, hm⟩ := bindO_some hm
 try dsimp only at hm
 refine wl_call [] [] rfl rfl rfl (freshS_eq rfl) rfl rfl fn_20 rfl (m_session_Table_known_v2_s N  hc4) (fun _ _ hφ => ask [] rfl hφ) rfl (H' := []) rfl ?_
 rintro _ _ _ ⟨rfl, rfl, rfl⟩
 refine wl_pure rfl rfl rfl (freshS_eq rfl) rfl ?_
 refine wl_nil ?_
 refine we_then ?_
 refine wc_keep [5, 0] (S' := [_,_]) rfl ?_
 refine wc_true rfl ?_
 refine wc_keep [] (S' := []) rfl ?_
 refine wc_seq ?_
 refine wc_region ?_
 refine wl_pure rfl rfl rfl (freshS_eq rfl) rfl ?_
 refine wl_nil ?_
 refine we_then ?_
 refine wc_ret ?_
 refine we_then_ret ?_
 have hE := (Option.some.inj hm).symm
 refine ret_one (Hr := []) [] Try.results10 (res_tmp rfl) ⟨rfl, rfl, rfl⟩ (fun _ _ hφ => ask [] rfl hφ) rfl rfl (.inl rfl)
set_option maxRecDepth 100000 in
set_option maxHeartbeats 4000000 in
theorem m_ropewalkkit_SameValues_s (N : Nat) (qp0 : Option Addr) (qc1 : Nat) (l2 : List V) (qp3 : Option Addr) (qc4 : Nat) (l5 : List V) (o0 : Bool) (hm : m_ropewalkkit_SameValues N l2 l5 = some o0) : Spec Try.prog 26 [.slice qp0 l2.length qc1, .slice qp3 l5.length qc4] [.sli 3 R_V qp0 qc1 l2, .sli 3 R_V qp3 qc4 l5] [] (fun v Φr Hr => v = .bool o0 ∧ Φr = [] ∧ Hr = []) := by
 unfold m_ropewalkkit_SameValues at hm
 refine spec_of Try.func26 rfl Try.ntmps26 rfl (S := [_,_]) rfl (fun C => ?_)
 refine wc_seq ?_
 refine wc_region ?_
 refine wl_pure rfl rfl rfl (freshS_eq rfl) rfl ?_
 refine wl_nil ?_
 refine we_then ?_
 refine wc_keep [0, 1] (S' := [_,_]) rfl ?_
 refine wc_seq ?_
 refine wc_seq ?_
 refine wc_region ?_
 refine wl_pure rfl rfl rfl (freshS_eq rfl) rfl ?_
 refine wl_len rfl rfl rfl (freshS_eq rfl) rfl rfl tE_30 ?_
 refine wl_pure rfl rfl rfl (freshS_eq rfl) rfl ?_
 refine wl_len rfl rfl rfl (freshS_eq rfl) rfl rfl tE_30 ?_
 refine wl_pure rfl rfl rfl (freshS_eq rfl) rfl ?_
 refine wl_as (d := 10) (v' := .bool (l2.length != l5.length)) (S' := [_,_,_,_,_,_]) rfl rfl (natne (a := l2.length) (b := l5.length)) ?_
 refine wl_nil ?_
 refine we_then ?_
 refine wc_keep [10, 0, 1] (S' := [_,_,_]) rfl ?_
 refine wc_cond rfl (fun hb10 => ?_) (fun hb10 => ?_)
 ·
  replace hm := iteT hm hb10
  refine wc_keep [] (S' := []) rfl ?_
  refine wc_seq ?_
  refine wc_region ?_
  refine wl_pure rfl rfl rfl (freshS_eq rfl) rfl ?_
  refine wl_nil ?_
  refine we_then ?_
  refine wc_ret ?_
  refine we_then_ret ?_
  have hE := (Option.some.inj hm).symm
  replace hE := hE.symm
  subst hE
  refine ret_one (Hr := []) [] Try.results26 (res_tmp rfl) ⟨rfl, rfl, rfl⟩ (fun _ _ hφ => ask [] rfl hφ) rfl rfl (.inl rfl)
 ·
  replace hm := iteF hm hb10
  refine wc_keep [0, 1] (S' := [_,_]) rfl ?_
  refine wc_skip ?_
  refine we_then ?_
  refine wc_seq ?_
  obtain ⟨bj_1, hm, hLj_1⟩ := bindS_some hm
  refine wc_cut (σ := Unit) (fun _ => bj_1 = .inl ()) (fun _ => []) (fun _ => []) (fun _ => []) ?_ ?_
  ·
   refine wc_seq ?_
   refine wc_region ?_
   refine wl_pure rfl rfl rfl (freshS_eq rfl) rfl ?_
   refine wl_nil ?_
   refine we_then ?_
   refine wc_block ?_
   refine wc_loop (σ := Nat × Nat) (fun (nu1, u1_5) => iter (m_ropewalkkit_SameValues_L1 N l2 l5) nu1 u1_5 = some bj_1) (fun (nu1, u1_5) => nu1) (fun (nu1, u1_5) => [(5, .int .i64 ((u1_5 : Nat) : Int)), (0, .slice qp0 l2.length qc1), (1, .slice qp3 l5.length qc4)]) (fun (nu1, u1_5) => [.sli 3 R_V qp0 qc1 l2, .sli 3 R_V qp3 qc4 l5]) (fun (nu1, u1_5) => []) (N, 0) hm [5, 0, 1] rfl (fun _ _ hφ => ask [0, 1] rfl hφ) rfl (fun s_ hm => ?_)
   obtain ⟨nu1, u1_5⟩ := s_
   try dsimp only at hm ⊢
   obtain ⟨mu1, bu1, hnu1, hq, hLu1⟩ := iter_some hm
   clear hm
   subst hnu1
   replace hm := hq
   clear hq
   unfold m_ropewalkkit_SameValues_L1 at hm
   try dsimp only at hm
   refine wc_seq ?_
   refine wc_seq ?_
   refine wc_region ?_
   refine wl_pure rfl rfl rfl (freshS_eq rfl) rfl ?_
   refine wl_pure rfl rfl rfl (freshS_eq rfl) rfl ?_
   refine wl_len rfl rfl rfl (freshS_eq rfl) rfl rfl tE_30 ?_
   refine wl_pure rfl rfl rfl (freshS_eq rfl) rfl ?_
   refine wl_as (d := 14) (v' := .bool (decide (u1_5 < l2.length))) (S' := [_,_,_,_,_,_]) rfl rfl (natlt (a := u1_5) (b := l2.length)) ?_
   refine wl_nil ?_
   refine we_then ?_
   refine wc_keep [14, 5, 0, 1] (S' := [_,_,_,_]) rfl ?_
   refine wc_cond rfl (fun hb14 => ?_) (fun hb14 => ?_)
   ·
    replace hm := iteT hm hb14
    refine wc_keep [5, 0, 1] (S' := [_,_,_]) rfl ?_
    refine wc_skip ?_
    refine we_then ?_
    refine wc_seq ?_
    refine wc_block ?_
    refine wc_seq ?_
    obtain ⟨x19, hx19, hm⟩ := bindO_some hm
    obtain ⟨x23, hx23, hm⟩ := bindO_some hm
    refine wc_draw [0, 1, 2, 3, 4, 5, 6, 7, 8] rfl rfl (fun hok => ?_)
    refine wx_pure hok 0 rfl rfl rfl (freshS_eq rfl) rfl rfl ?_
    refine wx_pure hok 1 rfl rfl rfl (freshS_eq rfl) rfl rfl ?_
    refine wx_indexA hok 2 0 u1_5 rfl rfl rfl (freshS_eq rfl) rfl rfl rfl rfl rfl rfl hx19 tE_30 tS_76 (fun b19 q19 cs19 hlx19 => ?_)
    refine wx_openR R_V_opens 1 rfl (fun r19 er19 _ => ?_)
    subst er19
    refine wx_load hok 3 0 0 rfl rfl rfl (freshS_eq rfl) rfl rfl rfl rfl (cs := [_,_,_]) rfl tS_76 tA_76 rfl rfl ?_
    refine wx_pure hok 4 rfl rfl rfl (freshS_eq rfl) rfl rfl ?_
    refine wx_pure hok 5 rfl rfl rfl (freshS_eq rfl) rfl rfl ?_
    refine wx_indexA hok 6 3 u1_5 rfl rfl rfl (freshS_eq rfl) rfl rfl rfl rfl rfl rfl hx23 tE_30 tS_76 (fun b23 q23 cs23 hlx23 => ?_)
    refine wx_openR R_V_opens 1 rfl (fun r23 er23 _ => ?_)
    subst er23
    refine wx_load hok 7 0 0 rfl rfl rfl (freshS_eq rfl) rfl rfl rfl rfl (cs := [_,_,_]) rfl tS_76 tA_76 rfl rfl ?_
    refine wx_bin hok 8 rfl rfl rfl (freshS_eq rfl) rfl rfl rfl rfl (neqV _ _ x19 x23) ?_
    refine wx_done hok rfl ?_
    refine we_then ?_
    refine wc_keep [25, 5, 0, 1] (S' := [_,_,_,_]) rfl ?_
    refine wc_cond rfl (fun hb25 => ?_) (fun hb25 => ?_)
    ·
     replace hm := iteT hm hb25
     refine wc_keep [] (S' := []) rfl ?_
     refine wc_seq ?_
     refine wc_region ?_
     refine wl_pure rfl rfl rfl (freshS_eq rfl) rfl ?_
     refine wl_nil ?_
     refine we_then ?_
     refine wc_ret ?_
     refine we_block_ret ?_
     refine we_then_ret ?_
     refine we_then_ret ?_
     refine we_block_ret ?_
     refine we_then_ret ?_
     have hE := (Option.some.inj hm).symm
     replace hE := link_inr hLu1 hE
     replace hE := link_inr hLj_1 hE
     replace hE := hE.symm
     subst hE
     refine ret_one (Hr := []) [] Try.results26 (res_tmp rfl) ⟨rfl, rfl, rfl⟩ (fun _ _ hφ => ask [] rfl hφ) rfl rfl (.inl rfl)
    ·
     replace hm := iteF hm hb25
     refine wc_keep [5, 0, 1] (S' := [_,_,_]) rfl ?_
     refine wc_skip ?_
     refine we_block_normal ?_
     refine we_then ?_
     refine wc_region ?_
     refine wl_pure rfl rfl rfl (freshS_eq rfl) rfl ?_
     refine wl_pure rfl rfl rfl (freshS_eq rfl) rfl ?_
     obtain ⟨hg16, hm⟩ := gd_some hm
     refine wl_as (d := 16) (v' := .int .i64 ((u1_5 + 1 : Nat) : Int)) (S' := [_,_,_,_]) rfl rfl (nat_add (a := u1_5) (b := 1) hg16) ?_
     refine wl_pure (S' := [_,_,_,_]) rfl rfl rfl rfl rfl ?_
     refine wl_nil ?_
     have hE := (Option.some.inj hm).symm
     replace hE := link_inl hLu1 hE
     refine we_roundK (_, u1_5 + 1) (Nat.lt_succ_self _) hE [5, 0, 1] rfl (fun _ _ hφ => ask [4, 5] rfl hφ) rfl
   ·
    replace hm := iteF hm hb14
    refine wc_keep [] (S' := []) rfl ?_
    refine wc_exit ?_
    refine we_then_exit ?_
    refine we_then_exit ?_
    refine we_block_hit ?_
    have hE := (Option.some.inj hm).symm
    replace hE := link_inr hLu1 hE
    refine we_join () hE [] rfl (fun _ _ hφ => ask [] rfl hφ) rfl
  ·
   rintro _ hE
   try dsimp only
   have hm := link_inl hLj_1 hE
   try dsimp only at hm
   refine wc_seq ?_
   refine wc_region ?_
   refine wl_pure rfl rfl rfl (freshS_eq rfl) rfl ?_
   refine wl_nil ?_
   refine we_then ?_
   refine wc_ret ?_
   have hE := (Option.some.inj hm).symm
   replace hE := hE.symm
   subst hE
   refine ret_one (Hr := []) [] Try.results26 (res_tmp rfl) ⟨rfl, rfl, rfl⟩ (fun _ _ hφ => ask [] rfl hφ) rfl rfl (.inl rfl)
set_option maxRecDepth 100000 in
set_option maxHeartbeats 4000000 in
theorem m_ropewalkkit_SameFact_s (N : Nat) (a0 : Int) (a1 : Int) (qp2 : Option Addr) (qc3 : Nat) (l4 : List V) (a5 : Int) (a6 : Int) (qp7 : Option Addr) (qc8 : Nat) (l9 : List V) (o0 : Bool) (hm : m_ropewalkkit_SameFact N a0 a1 l4 a5 a6 l9 = some o0) : Spec Try.prog 32 [.agg #[.int .i64 a0, .int .i64 a1, .slice qp2 l4.length qc3], .agg #[.int .i64 a5, .int .i64 a6, .slice qp7 l9.length qc8]] [.sli 3 R_V qp2 qc3 l4, .sli 3 R_V qp7 qc8 l9] [] (fun v Φr Hr => v = .bool o0 ∧ Φr = [] ∧ Hr = []) := by
 unfold m_ropewalkkit_SameFact at hm
 refine spec_of Try.func32 rfl Try.ntmps32 rfl (S := [_,_]) rfl (fun C => ?_)
 refine wc_seq ?_
 refine wc_region ?_
 refine wl_box rfl rfl rfl (freshS_eq rfl) rfl rfl rfl (fun g2 => ?_)
 refine wl_box rfl rfl rfl (freshS_eq rfl) rfl rfl rfl (fun g3 => ?_)
 refine wl_pure rfl rfl rfl (freshS_eq rfl) rfl ?_
 refine wl_nil ?_
 refine we_then ?_
 refine wc_keep [3, 2] (S' := [_,_]) rfl ?_
 refine wc_seq ?_
 refine wc_region ?_
 refine wl_fieldAddr rfl rfl rfl (freshS_eq rfl) rfl rfl tF_70_0 ?_
 refine wl_loadH 1 0 rfl rfl rfl (freshS_eq rfl) rfl rfl rfl (cs := [_]) rfl tS_3 tA_3 rfl rfl ?_
 refine wl_fieldAddr rfl rfl rfl (freshS_eq rfl) rfl rfl tF_70_0 ?_
 refine wl_loadH 0 0 rfl rfl rfl (freshS_eq rfl) rfl rfl rfl (cs := [_]) rfl tS_3 tA_3 rfl rfl ?_
 refine wl_pure rfl rfl rfl (freshS_eq rfl) rfl ?_
 refine wl_pure rfl rfl rfl (freshS_eq rfl) rfl ?_
 refine wl_split (d := 10) (S' := [_,_,_,_,_,_,_]) rfl rfl (fun hs10 => ?_) (fun hs10 => ?_)
 ·
  replace hm := iteT hm hs10
  refine wl_fieldAddr rfl rfl rfl (freshS_eq rfl) rfl rfl tF_70_1 ?_
  refine wl_loadH 1 1 rfl rfl rfl (freshS_eq rfl) rfl rfl rfl (cs := [_]) rfl tS_3 tA_3 rfl rfl ?_
  refine wl_fieldAddr rfl rfl rfl (freshS_eq rfl) rfl rfl tF_70_1 ?_
  refine wl_loadH 0 1 rfl rfl rfl (freshS_eq rfl) rfl rfl rfl (cs := [_]) rfl tS_3 tA_3 rfl rfl ?_
  refine wl_pure rfl rfl rfl (freshS_eq rfl) rfl ?_
  refine wl_pure rfl rfl rfl (freshS_eq rfl) rfl ?_
  refine wl_pure rfl rfl rfl (freshS_eq rfl) rfl ?_
  refine wl_split (d := 17) (S' := [_,_,_,_,_,_,_,_,_,_,_,_,_,_]) rfl rfl (fun hs17 => ?_) (fun hs17 => ?_)
  ·
   replace hm := iteT hm hs17
   refine wl_fieldAddr rfl rfl rfl (freshS_eq rfl) rfl rfl tF_70_2 ?_
   refine wl_loadH 1 2 rfl rfl rfl (freshS_eq rfl) rfl rfl rfl (cs := [_]) rfl tS_30 tA_30 rfl rfl ?_
   refine wl_fieldAddr rfl rfl rfl (freshS_eq rfl) rfl rfl tF_70_2 ?_
   refine wl_loadH 0 2 rfl rfl rfl (freshS_eq rfl) rfl rfl rfl (cs := [_]) rfl tS_30 tA_30 rfl rfl ?_
   obtain ⟨v22, hc22, hm⟩ := bindO_some hm
   refine wl_call [] [0, 1] rfl rfl rfl (freshS_eq rfl) rfl rfl fn_26 rfl (m_ropewalkkit_SameValues_s N qp2 qc3 l4 qp7 qc8 l9 _ hc22) (fun _ _ hφ => ask [0, 1] rfl hφ) rfl (H' := [_,_]) rfl ?_
   rintro _ _ _ ⟨rfl, rfl, rfl⟩
   refine wl_pure rfl rfl rfl (freshS_eq rfl) rfl ?_
   refine wl_pure rfl rfl rfl (freshS_eq rfl) rfl ?_
   refine wl_nil ?_
   refine we_then ?_
   refine wc_keep [4] (S' := [_]) rfl ?_
   refine wc_ret ?_
   have hE := (Option.some.inj hm).symm
   replace hE := hE.symm
   subst hE
   refine ret_one (Hr := []) [] Try.results32 (res_tmp rfl) ⟨rfl, rfl, rfl⟩ (fun _ _ hφ => ask [] rfl hφ) rfl rfl (.inl rfl)
  ·
   replace hm := iteF hm hs17
   refine wl_off rfl rfl rfl (freshS_eq rfl) ?_
   refine wl_off rfl rfl rfl (freshS_eq rfl) ?_
   refine wl_off rfl rfl rfl (freshS_eq rfl) ?_
   refine wl_off rfl rfl rfl (freshS_eq rfl) ?_
   refine wl_off rfl rfl rfl (freshS_eq rfl) ?_
   refine wl_pure rfl rfl rfl (freshS_eq rfl) rfl ?_
   refine wl_pure rfl rfl rfl (freshS_eq rfl) rfl ?_
   refine wl_nil ?_
   refine we_then ?_
   refine wc_keep [4] (S' := [_]) rfl ?_
   refine wc_ret ?_
   have hE := (Option.some.inj hm).symm
   replace hE := hE.symm
   subst hE
   refine ret_one (Hr := []) [] Try.results32 (res_tmp rfl) ⟨rfl, rfl, rfl⟩ (fun _ _ hφ => ask [] rfl hφ) rfl rfl (.inl rfl)
 ·
  replace hm := iteF hm hs10
  refine wl_off rfl rfl rfl (freshS_eq rfl) ?_
  refine wl_off rfl rfl rfl (freshS_eq rfl) ?_
  refine wl_off rfl rfl rfl (freshS_eq rfl) ?_
  refine wl_off rfl rfl rfl (freshS_eq rfl) ?_
  refine wl_off rfl rfl rfl (freshS_eq rfl) ?_
  refine wl_pure rfl rfl rfl (freshS_eq rfl) rfl ?_
  refine wl_pure rfl rfl rfl (freshS_eq rfl) rfl ?_
  refine wl_off rfl rfl rfl (freshS_eq rfl) ?_
  refine wl_off rfl rfl rfl (freshS_eq rfl) ?_
  refine wl_off rfl rfl rfl (freshS_eq rfl) ?_
  refine wl_off rfl rfl rfl (freshS_eq rfl) ?_
  refine wl_off rfl rfl rfl (freshS_eq rfl) ?_
  refine wl_pure rfl rfl rfl (freshS_eq rfl) rfl ?_
  refine wl_pure rfl rfl rfl (freshS_eq rfl) rfl ?_
  refine wl_nil ?_
  refine we_then ?_
  refine wc_keep [4] (S' := [_]) rfl ?_
  refine wc_ret ?_
  have hE := (Option.some.inj hm).symm
  replace hE := hE.symm
  subst hE
  refine ret_one (Hr := []) [] Try.results32 (res_tmp rfl) ⟨rfl, rfl, rfl⟩ (fun _ _ hφ => ask [] rfl hφ) rfl rfl (.inl rfl)
set_option maxRecDepth 100000 in
set_option maxHeartbeats 4000000 in
theorem m_ropewalkkit_SameFacts_s (N : Nat) (qp0 : Option Addr) (qc1 : Nat) (l2 : List FactD) (qp3 : Option Addr) (qc4 : Nat) (l5 : List FactD) (o0 : Bool) (hm : m_ropewalkkit_SameFacts N l2 l5 = some o0) : Spec Try.prog 25 [.slice qp0 l2.length qc1, .slice qp3 l5.length qc4] [.sli 3 R_FactD qp0 qc1 l2, .sli 3 R_FactD qp3 qc4 l5] [] (fun v Φr Hr => v = .bool o0 ∧ Φr = [] ∧ Hr = []) := by
 unfold m_ropewalkkit_SameFacts at hm
 refine spec_of Try.func25 rfl Try.ntmps25 rfl (S := [_,_]) rfl (fun C => ?_)
 refine wc_seq ?_
 refine wc_region ?_
 refine wl_pure rfl rfl rfl (freshS_eq rfl) rfl ?_
 refine wl_nil ?_
 refine we_then ?_
 refine wc_keep [0, 1] (S' := [_,_]) rfl ?_
 refine wc_seq ?_
 refine wc_seq ?_
 refine wc_region ?_
 refine wl_pure rfl rfl rfl (freshS_eq rfl) rfl ?_
 refine wl_len rfl rfl rfl (freshS_eq rfl) rfl rfl tE_29 ?_
 refine wl_pure rfl rfl rfl (freshS_eq rfl) rfl ?_
 refine wl_len rfl rfl rfl (freshS_eq rfl) rfl rfl tE_29 ?_
 refine wl_pure rfl rfl rfl (freshS_eq rfl) rfl ?_
 refine wl_as (d := 10) (v' := .bool (l2.length != l5.length)) (S' := [_,_,_,_,_,_]) rfl rfl (natne (a := l2.length) (b := l5.length)) ?_
 refine wl_nil ?_
 refine we_then ?_
 refine wc_keep [10, 0, 1] (S' := [_,_,_]) rfl ?_
 refine wc_cond rfl (fun hb10 => ?_) (fun hb10 => ?_)
 ·
  replace hm := iteT hm hb10
  refine wc_keep [] (S' := []) rfl ?_
  refine wc_seq ?_
  refine wc_region ?_
  refine wl_pure rfl rfl rfl (freshS_eq rfl) rfl ?_
  refine wl_nil ?_
  refine we_then ?_
  refine wc_ret ?_
  refine we_then_ret ?_
  have hE := (Option.some.inj hm).symm
  replace hE := hE.symm
  subst hE
  refine ret_one (Hr := []) [] Try.results25 (res_tmp rfl) ⟨rfl, rfl, rfl⟩ (fun _ _ hφ => ask [] rfl hφ) rfl rfl (.inl rfl)
 ·
  replace hm := iteF hm hb10
  refine wc_keep [0, 1] (S' := [_,_]) rfl ?_
  refine wc_skip ?_
  refine we_then ?_
  refine wc_seq ?_
  obtain ⟨bj_1, hm, hLj_1⟩ := bindS_some hm
  refine wc_cut (σ := Unit) (fun _ => bj_1 = .inl ()) (fun _ => []) (fun _ => []) (fun _ => []) ?_ ?_
  ·
   refine wc_seq ?_
   refine wc_region ?_
   refine wl_pure rfl rfl rfl (freshS_eq rfl) rfl ?_
   refine wl_nil ?_
   refine we_then ?_
   refine wc_block ?_
   refine wc_loop (σ := Nat × Nat) (fun (nu1, u1_5) => iter (m_ropewalkkit_SameFacts_L1 N l2 l5) nu1 u1_5 = some bj_1) (fun (nu1, u1_5) => nu1) (fun (nu1, u1_5) => [(5, .int .i64 ((u1_5 : Nat) : Int)), (0, .slice qp0 l2.length qc1), (1, .slice qp3 l5.length qc4)]) (fun (nu1, u1_5) => [.sli 3 R_FactD qp0 qc1 l2, .sli 3 R_FactD qp3 qc4 l5]) (fun (nu1, u1_5) => []) (N, 0) hm [5, 0, 1] rfl (fun _ _ hφ => ask [0, 1] rfl hφ) rfl (fun s_ hm => ?_)
   obtain ⟨nu1, u1_5⟩ := s_
   try dsimp only at hm ⊢
   obtain ⟨mu1, bu1, hnu1, hq, hLu1⟩ := iter_some hm
   clear hm
   subst hnu1
   replace hm := hq
   clear hq
   unfold m_ropewalkkit_SameFacts_L1 at hm
   try dsimp only at hm
   refine wc_seq ?_
   refine wc_seq ?_
   refine wc_region ?_
   refine wl_pure rfl rfl rfl (freshS_eq rfl) rfl ?_
   refine wl_pure rfl rfl rfl (freshS_eq rfl) rfl ?_
   refine wl_len rfl rfl rfl (freshS_eq rfl) rfl rfl tE_29 ?_
   refine wl_pure rfl rfl rfl (freshS_eq rfl) rfl ?_
   refine wl_as (d := 14) (v' := .bool (decide (u1_5 < l2.length))) (S' := [_,_,_,_,_,_]) rfl rfl (natlt (a := u1_5) (b := l2.length)) ?_
   refine wl_nil ?_
   refine we_then ?_
   refine wc_keep [14, 5, 0, 1] (S' := [_,_,_,_]) rfl ?_
   refine wc_cond rfl (fun hb14 => ?_) (fun hb14 => ?_)
   ·
    replace hm := iteT hm hb14
    refine wc_keep [5, 0, 1] (S' := [_,_,_]) rfl ?_
    refine wc_skip ?_
    refine we_then ?_
    refine wc_seq ?_
    refine wc_block ?_
    refine wc_seq ?_
    obtain ⟨x19, hx19, hm⟩ := bindO_some hm
    obtain ⟨x23, hx23, hm⟩ := bindO_some hm
    obtain ⟨v25, hc25, hm⟩ := bindO_some hm
    refine wc_draw [0, 1, 2, 3, 4, 5, 6, 7, 9] rfl rfl (fun hok => ?_)
    refine wx_pure hok 0 rfl rfl rfl (freshS_eq rfl) rfl rfl ?_
    refine wx_pure hok 1 rfl rfl rfl (freshS_eq rfl) rfl rfl ?_
    refine wx_indexA hok 2 0 u1_5 rfl rfl rfl (freshS_eq rfl) rfl rfl rfl rfl rfl rfl hx19 tE_29 tS_70 (fun b19 q19 cs19 hlx19 => ?_)
    refine wx_openR R_FactD_opens 1 rfl (fun r19 er19 _ => ?_)
    subst er19
    refine wx_load hok 3 1 0 rfl rfl rfl (freshS_eq rfl) rfl rfl rfl rfl (cs := [_,_,_]) rfl tS_70 tA_70 rfl rfl ?_
    refine wx_pure hok 4 rfl rfl rfl (freshS_eq rfl) rfl rfl ?_
    refine wx_pure hok 5 rfl rfl rfl (freshS_eq rfl) rfl rfl ?_
    refine wx_indexA hok 6 4 u1_5 rfl rfl rfl (freshS_eq rfl) rfl rfl rfl rfl rfl rfl hx23 tE_29 tS_70 (fun b23 q23 cs23 hlx23 => ?_)
    refine wx_openR R_FactD_opens 1 rfl (fun r23 er23 _ => ?_)
    subst er23
    refine wx_load hok 7 1 0 rfl rfl rfl (freshS_eq rfl) rfl rfl rfl rfl (cs := [_,_,_]) rfl tS_70 tA_70 rfl rfl ?_
    refine wx_step1 hok 8 rfl rfl rfl rfl ?_
    refine wl_call [] [] rfl rfl rfl (freshS_eq rfl) rfl rfl fn_32 rfl (m_ropewalkkit_SameFact_s N x19.id x19.ty r19.1 r19.2 x19.args x23.id x23.ty r23.1 r23.2 x23.args _ hc25) (fun _ _ hφ => ask [3, 0] rfl hφ) rfl (H' := []) rfl ?_
    rintro _ _ _ ⟨rfl, rfl, rfl⟩
    refine wl_nil ?_
    refine we_x [0, 1, 2, 3, 4, 5, 6, 7] [] rfl rfl ?_
    refine wx_pure hok 9 rfl rfl rfl (freshS_eq rfl) rfl rfl ?_
    refine wx_done hok rfl ?_
    refine we_then ?_
    refine wc_keep [26, 5, 0, 1] (S' := [_,_,_,_]) rfl ?_
    refine wc_cond rfl (fun hb26 => ?_) (fun hb26 => ?_)
    ·
     replace hm := iteT hm hb26
     refine wc_keep [] (S' := []) rfl ?_
     refine wc_seq ?_
     refine wc_region ?_
     refine wl_pure rfl rfl rfl (freshS_eq rfl) rfl ?_
     refine wl_nil ?_
     refine we_then ?_
     refine wc_ret ?_
     refine we_block_ret ?_
     refine we_then_ret ?_
     refine we_then_ret ?_
     refine we_block_ret ?_
     refine we_then_ret ?_
     have hE := (Option.some.inj hm).symm
     replace hE := link_inr hLu1 hE
     replace hE := link_inr hLj_1 hE
     replace hE := hE.symm
     subst hE
     refine ret_one (Hr := []) [] Try.results25 (res_tmp rfl) ⟨rfl, rfl, rfl⟩ (fun _ _ hφ => ask [] rfl hφ) rfl rfl (.inl rfl)
    ·
     replace hm := iteF hm hb26
     refine wc_keep [5, 0, 1] (S' := [_,_,_]) rfl ?_
     refine wc_skip ?_
     refine we_block_normal ?_
     refine we_then ?_
     refine wc_region ?_
     refine wl_pure rfl rfl rfl (freshS_eq rfl) rfl ?_
     refine wl_pure rfl rfl rfl (freshS_eq rfl) rfl ?_
     obtain ⟨hg16, hm⟩ := gd_some hm
     refine wl_as (d := 16) (v' := .int .i64 ((u1_5 + 1 : Nat) : Int)) (S' := [_,_,_,_]) rfl rfl (nat_add (a := u1_5) (b := 1) hg16) ?_
     refine wl_pure (S' := [_,_,_,_]) rfl rfl rfl rfl rfl ?_
     refine wl_nil ?_
     have hE := (Option.some.inj hm).symm
     replace hE := link_inl hLu1 hE
     refine we_roundK (_, u1_5 + 1) (Nat.lt_succ_self _) hE [5, 0, 1] rfl (fun _ _ hφ => ask [6, 7] rfl hφ) rfl
   ·
    replace hm := iteF hm hb14
    refine wc_keep [] (S' := []) rfl ?_
    refine wc_exit ?_
    refine we_then_exit ?_
    refine we_then_exit ?_
    refine we_block_hit ?_
    have hE := (Option.some.inj hm).symm
    replace hE := link_inr hLu1 hE
    refine we_join () hE [] rfl (fun _ _ hφ => ask [] rfl hφ) rfl
  ·
   rintro _ hE
   try dsimp only
   have hm := link_inl hLj_1 hE
   try dsimp only at hm
   refine wc_seq ?_
   refine wc_region ?_
   refine wl_pure rfl rfl rfl (freshS_eq rfl) rfl ?_
   refine wl_nil ?_
   refine we_then ?_
   refine wc_ret ?_
   have hE := (Option.some.inj hm).symm
   replace hE := hE.symm
   subst hE
   refine ret_one (Hr := []) [] Try.results25 (res_tmp rfl) ⟨rfl, rfl, rfl⟩ (fun _ _ hφ => ask [] rfl hφ) rfl rfl (.inl rfl)
set_option maxRecDepth 100000 in
set_option maxHeartbeats 4000000 in
theorem m_ropewalkkit_SameReply_s (N : Nat) (a0 : Int) (a1 : Int) (qp2 : Option Addr) (qc3 : Nat) (l4 : List FactD) (qp5 : Option Addr) (qc6 : Nat) (l7 : List V) (a8 : Int) (a9 : Int) (qp10 : Option Addr) (qc11 : Nat) (l12 : List FactD) (qp13 : Option Addr) (qc14 : Nat) (l15 : List V) (o0 : Bool) (hm : m_ropewalkkit_SameReply N a0 a1 l4 l7 a8 a9 l12 l15 = some o0) : Spec Try.prog 14 [.agg #[.int .i64 a0, .int .i64 a1, .slice qp2 l4.length qc3, .slice qp5 l7.length qc6], .agg #[.int .i64 a8, .int .i64 a9, .slice qp10 l12.length qc11, .slice qp13 l15.length qc14]] [.sli 3 R_FactD qp2 qc3 l4, .sli 3 R_V qp5 qc6 l7, .sli 3 R_FactD qp10 qc11 l12, .sli 3 R_V qp13 qc14 l15] [] (fun v Φr Hr => v = .bool o0 ∧ Φr = [] ∧ Hr = []) := by
 unfold m_ropewalkkit_SameReply at hm
 refine spec_of Try.func14 rfl Try.ntmps14 rfl (S := [_,_]) rfl (fun C => ?_)
 refine wc_seq ?_
 refine wc_region ?_
 refine wl_box rfl rfl rfl (freshS_eq rfl) rfl rfl rfl (fun g2 => ?_)
 refine wl_box rfl rfl rfl (freshS_eq rfl) rfl rfl rfl (fun g3 => ?_)
 refine wl_pure rfl rfl rfl (freshS_eq rfl) rfl ?_
 refine wl_nil ?_
 refine we_then ?_
 refine wc_keep [3, 2] (S' := [_,_]) rfl ?_
 refine wc_seq ?_
 obtain ⟨bj_1, hm, hLj_1⟩ := bindO_some hm
 unfold m_ropewalkkit_SameReply_C1 at hm
 refine wc_cut (σ := Bool) (fun j_1_4 => bj_1 = j_1_4) (fun j_1_4 => [(4, .bool j_1_4)]) (fun j_1_4 => []) (fun j_1_4 => []) ?_ ?_
 ·
  refine wc_region ?_
  refine wl_fieldAddr rfl rfl rfl (freshS_eq rfl) rfl rfl tF_32_0 ?_
  refine wl_loadH 1 0 rfl rfl rfl (freshS_eq rfl) rfl rfl rfl (cs := [_]) rfl tS_28 tA_28 rfl rfl ?_
  refine wl_fieldAddr rfl rfl rfl (freshS_eq rfl) rfl rfl tF_32_0 ?_
  refine wl_loadH 0 0 rfl rfl rfl (freshS_eq rfl) rfl rfl rfl (cs := [_]) rfl tS_28 tA_28 rfl rfl ?_
  refine wl_pure rfl rfl rfl (freshS_eq rfl) rfl ?_
  refine wl_pure rfl rfl rfl (freshS_eq rfl) rfl ?_
  refine wl_split (d := 10) (S' := [_,_,_,_,_,_,_]) rfl rfl (fun hs10 => ?_) (fun hs10 => ?_)
  ·
   replace hm := iteT hm hs10
   refine wl_fieldAddr rfl rfl rfl (freshS_eq rfl) rfl rfl tF_32_1 ?_
   refine wl_loadH 1 1 rfl rfl rfl (freshS_eq rfl) rfl rfl rfl (cs := [_]) rfl tS_3 tA_3 rfl rfl ?_
   refine wl_fieldAddr rfl rfl rfl (freshS_eq rfl) rfl rfl tF_32_1 ?_
   refine wl_loadH 0 1 rfl rfl rfl (freshS_eq rfl) rfl rfl rfl (cs := [_]) rfl tS_3 tA_3 rfl rfl ?_
   refine wl_pure rfl rfl rfl (freshS_eq rfl) rfl ?_
   refine wl_pure rfl rfl rfl (freshS_eq rfl) rfl ?_
   refine wl_pure rfl rfl rfl (freshS_eq rfl) rfl ?_
   refine wl_split (d := 17) (S' := [_,_,_,_,_,_,_,_,_,_,_,_,_,_]) rfl rfl (fun hs17 => ?_) (fun hs17 => ?_)
   ·
    replace hm := iteT hm hs17
    refine wl_fieldAddr rfl rfl rfl (freshS_eq rfl) rfl rfl tF_32_2 ?_
    refine wl_loadH 1 2 rfl rfl rfl (freshS_eq rfl) rfl rfl rfl (cs := [_]) rfl tS_29 tA_29 rfl rfl ?_
    refine wl_fieldAddr rfl rfl rfl (freshS_eq rfl) rfl rfl tF_32_2 ?_
    refine wl_loadH 0 2 rfl rfl rfl (freshS_eq rfl) rfl rfl rfl (cs := [_]) rfl tS_29 tA_29 rfl rfl ?_
    obtain ⟨v22, hc22, hm⟩ := bindO_some hm
    refine wl_call [] [0, 1] rfl rfl rfl (freshS_eq rfl) rfl rfl fn_25 rfl (m_ropewalkkit_SameFacts_s N qp2 qc3 l4 qp10 qc11 l12 _ hc22) (fun _ _ hφ => ask [0, 2] rfl hφ) rfl (H' := [_,_]) rfl ?_
    rintro _ _ _ ⟨rfl, rfl, rfl⟩
    refine wl_pure rfl rfl rfl (freshS_eq rfl) rfl ?_
    refine wl_pure rfl rfl rfl (freshS_eq rfl) rfl ?_
    refine wl_split (d := 24) (S' := [_,_,_,_,_,_,_,_,_,_,_,_,_,_,_,_,_,_,_,_,_]) rfl rfl (fun hs24 => ?_) (fun hs24 => ?_)
    ·
     replace hm := iteT hm hs24
     refine wl_fieldAddr rfl rfl rfl (freshS_eq rfl) rfl rfl tF_32_3 ?_
     refine wl_loadH 1 3 rfl rfl rfl (freshS_eq rfl) rfl rfl rfl (cs := [_]) rfl tS_30 tA_30 rfl rfl ?_
     refine wl_fieldAddr rfl rfl rfl (freshS_eq rfl) rfl rfl tF_32_3 ?_
     refine wl_loadH 0 3 rfl rfl rfl (freshS_eq rfl) rfl rfl rfl (cs := [_]) rfl tS_30 tA_30 rfl rfl ?_
     obtain ⟨v29, hc29, hm⟩ := bindO_some hm
     refine wl_call [] [0, 1] rfl rfl rfl (freshS_eq rfl) rfl rfl fn_26 rfl (m_ropewalkkit_SameValues_s N qp5 qc6 l7 qp13 qc14 l15 _ hc29) (fun _ _ hφ => ask [1, 3] rfl hφ) rfl (H' := [_,_]) rfl ?_
     rintro _ _ _ ⟨rfl, rfl, rfl⟩
     refine wl_pure rfl rfl rfl (freshS_eq rfl) rfl ?_
     refine wl_pure rfl rfl rfl (freshS_eq rfl) rfl ?_
     refine wl_nil ?_
     have hE := (Option.some.inj hm).symm
     refine we_pick [] rfl (H' := []) rfl ?_
     refine we_join v29 hE [4] rfl (fun _ _ hφ => ask [] rfl hφ) rfl
    ·
     replace hm := iteF hm hs24
     refine wl_off rfl rfl rfl (freshS_eq rfl) ?_
     refine wl_off rfl rfl rfl (freshS_eq rfl) ?_
     refine wl_off rfl rfl rfl (freshS_eq rfl) ?_
     refine wl_off rfl rfl rfl (freshS_eq rfl) ?_
     refine wl_off rfl rfl rfl (freshS_eq rfl) ?_
     refine wl_pure rfl rfl rfl (freshS_eq rfl) rfl ?_
     refine wl_pure rfl rfl rfl (freshS_eq rfl) rfl ?_
     refine wl_nil ?_
     have hE := (Option.some.inj hm).symm
     refine we_pick [] rfl (H' := []) rfl ?_
     refine we_join false hE [4] rfl (fun _ _ hφ => ask [] rfl hφ) rfl
   ·
    replace hm := iteF hm hs17
    refine wl_off rfl rfl rfl (freshS_eq rfl) ?_
    refine wl_off rfl rfl rfl (freshS_eq rfl) ?_
    refine wl_off rfl rfl rfl (freshS_eq rfl) ?_
    refine wl_off rfl rfl rfl (freshS_eq rfl) ?_
    refine wl_off rfl rfl rfl (freshS_eq rfl) ?_
    refine wl_pure rfl rfl rfl (freshS_eq rfl) rfl ?_
    refine wl_pure rfl rfl rfl (freshS_eq rfl) rfl ?_
    refine wl_off rfl rfl rfl (freshS_eq rfl) ?_
    refine wl_off rfl rfl rfl (freshS_eq rfl) ?_
    refine wl_off rfl rfl rfl (freshS_eq rfl) ?_
    refine wl_off rfl rfl rfl (freshS_eq rfl) ?_
    refine wl_off rfl rfl rfl (freshS_eq rfl) ?_
    refine wl_pure rfl rfl rfl (freshS_eq rfl) rfl ?_
    refine wl_pure rfl rfl rfl (freshS_eq rfl) rfl ?_
    refine wl_nil ?_
    have hE := (Option.some.inj hm).symm
    refine we_pick [] rfl (H' := []) rfl ?_
    refine we_join false hE [4] rfl (fun _ _ hφ => ask [] rfl hφ) rfl
  ·
   replace hm := iteF hm hs10
   refine wl_off rfl rfl rfl (freshS_eq rfl) ?_
   refine wl_off rfl rfl rfl (freshS_eq rfl) ?_
   refine wl_off rfl rfl rfl (freshS_eq rfl) ?_
   refine wl_off rfl rfl rfl (freshS_eq rfl) ?_
   refine wl_off rfl rfl rfl (freshS_eq rfl) ?_
   refine wl_pure rfl rfl rfl (freshS_eq rfl) rfl ?_
   refine wl_pure rfl rfl rfl (freshS_eq rfl) rfl ?_
   refine wl_off rfl rfl rfl (freshS_eq rfl) ?_
   refine wl_off rfl rfl rfl (freshS_eq rfl) ?_
   refine wl_off rfl rfl rfl (freshS_eq rfl) ?_
   refine wl_off rfl rfl rfl (freshS_eq rfl) ?_
   refine wl_off rfl rfl rfl (freshS_eq rfl) ?_
   refine wl_pure rfl rfl rfl (freshS_eq rfl) rfl ?_
   refine wl_pure rfl rfl rfl (freshS_eq rfl) rfl ?_
   refine wl_off rfl rfl rfl (freshS_eq rfl) ?_
   refine wl_off rfl rfl rfl (freshS_eq rfl) ?_
   refine wl_off rfl rfl rfl (freshS_eq rfl) ?_
   refine wl_off rfl rfl rfl (freshS_eq rfl) ?_
   refine wl_off rfl rfl rfl (freshS_eq rfl) ?_
   refine wl_pure rfl rfl rfl (freshS_eq rfl) rfl ?_
   refine wl_pure rfl rfl rfl (freshS_eq rfl) rfl ?_
   refine wl_nil ?_
   have hE := (Option.some.inj hm).symm
   refine we_pick [] rfl (H' := []) rfl ?_
   refine we_join false hE [4] rfl (fun _ _ hφ => ask [] rfl hφ) rfl
 ·
  rintro j_1_4 hE
  try dsimp only
  have hm := hLj_1
  rw [hE] at hm
  refine wc_ret ?_
  have hE := (Option.some.inj hm).symm
  replace hE := hE.symm
  subst hE
  refine ret_one (Hr := []) [] Try.results14 (res_tmp rfl) ⟨rfl, rfl, rfl⟩ (fun _ _ hφ => ask [] rfl hφ) rfl rfl (.inl rfl)
set_option maxRecDepth 100000 in
set_option maxHeartbeats 4000000 in
theorem m_ropewalkkit_SameSession_s (N : Nat) (a0 : Int) (a1 : Int) (a2 : Int) (a3 : Int) (qp4 : Option Addr) (qc5 : Nat) (l6 : List FactD) (qp7 : Option Addr) (qc8 : Nat) (l9 : List V) (a10 : Int) (a11 : Int) (a12 : Int) (a13 : Int) (qp14 : Option Addr) (qc15 : Nat) (l16 : List FactD) (qp17 : Option Addr) (qc18 : Nat) (l19 : List V) (o0 : Bool) (hm : m_ropewalkkit_SameSession N a0 a1 a2 a3 l6 l9 a10 a11 a12 a13 l16 l19 = some o0) : Spec Try.prog 27 [.agg #[.int .i64 a0, .int .i64 a1, .int .i64 a2, .int .i64 a3, .slice qp4 l6.length qc5, .slice qp7 l9.length qc8], .agg #[.int .i64 a10, .int .i64 a11, .int .i64 a12, .int .i64 a13, .slice qp14 l16.length qc15, .slice qp17 l19.length qc18]] [.sli 3 R_FactD qp4 qc5 l6, .sli 3 R_V qp7 qc8 l9, .sli 3 R_FactD qp14 qc15 l16, .sli 3 R_V qp17 qc18 l19] [] (fun v Φr Hr => v = .bool o0 ∧ Φr = [] ∧ Hr = []) := by
 unfold m_ropewalkkit_SameSession at hm
 refine spec_of Try.func27 rfl Try.ntmps27 rfl (S := [_,_]) rfl (fun C => ?_)
 refine wc_seq ?_
 refine wc_region ?_
 refine wl_box rfl rfl rfl (freshS_eq rfl) rfl rfl rfl (fun g2 => ?_)
 refine wl_box rfl rfl rfl (freshS_eq rfl) rfl rfl rfl (fun g3 => ?_)
 refine wl_pure rfl rfl rfl (freshS_eq rfl) rfl ?_
 refine wl_nil ?_
 refine we_then ?_
 refine wc_keep [3, 2] (S' := [_,_]) rfl ?_
 refine wc_seq ?_
 refine wc_region ?_
 refine wl_fieldAddr rfl rfl rfl (freshS_eq rfl) rfl rfl tF_62_0 ?_
 refine wl_loadH 1 0 rfl rfl rfl (freshS_eq rfl) rfl rfl rfl (cs := [_]) rfl tS_3 tA_3 rfl rfl ?_
 refine wl_fieldAddr rfl rfl rfl (freshS_eq rfl) rfl rfl tF_62_0 ?_
 refine wl_loadH 0 0 rfl rfl rfl (freshS_eq rfl) rfl rfl rfl (cs := [_]) rfl tS_3 tA_3 rfl rfl ?_
 refine wl_pure rfl rfl rfl (freshS_eq rfl) rfl ?_
 refine wl_pure rfl rfl rfl (freshS_eq rfl) rfl ?_
 refine wl_split (d := 10) (S' := [_,_,_,_,_,_,_]) rfl rfl (fun hs10 => ?_) (fun hs10 => ?_)
 ·
  replace hm := iteT hm hs10
  refine wl_fieldAddr rfl rfl rfl (freshS_eq rfl) rfl rfl tF_62_1 ?_
  refine wl_loadH 1 1 rfl rfl rfl (freshS_eq rfl) rfl rfl rfl (cs := [_]) rfl tS_3 tA_3 rfl rfl ?_
  refine wl_fieldAddr rfl rfl rfl (freshS_eq rfl) rfl rfl tF_62_1 ?_
  refine wl_loadH 0 1 rfl rfl rfl (freshS_eq rfl) rfl rfl rfl (cs := [_]) rfl tS_3 tA_3 rfl rfl ?_
  refine wl_pure rfl rfl rfl (freshS_eq rfl) rfl ?_
  refine wl_pure rfl rfl rfl (freshS_eq rfl) rfl ?_
  refine wl_pure rfl rfl rfl (freshS_eq rfl) rfl ?_
  refine wl_split (d := 17) (S' := [_,_,_,_,_,_,_,_,_,_,_,_,_,_]) rfl rfl (fun hs17 => ?_) (fun hs17 => ?_)
  ·
   replace hm := iteT hm hs17
   refine wl_fieldAddr rfl rfl rfl (freshS_eq rfl) rfl rfl tF_62_2 ?_
   refine wl_loadH 1 2 rfl rfl rfl (freshS_eq rfl) rfl rfl rfl (cs := [_,_,_,_]) rfl tS_32 tA_32 rfl rfl ?_
   refine wl_fieldAddr rfl rfl rfl (freshS_eq rfl) rfl rfl tF_62_2 ?_
   refine wl_loadH 0 2 rfl rfl rfl (freshS_eq rfl) rfl rfl rfl (cs := [_,_,_,_]) rfl tS_32 tA_32 rfl rfl ?_
   obtain ⟨v22, hc22, hm⟩ := bindO_some hm
   refine wl_call [] [0, 1] rfl rfl rfl (freshS_eq rfl) rfl rfl fn_14 rfl (m_ropewalkkit_SameReply_s N a2 a3 qp4 qc5 l6 qp7 qc8 l9 a12 a13 qp14 qc15 l16 qp17 qc18 l19 _ hc22) (fun _ _ hφ => ask [0, 1, 2, 3] rfl hφ) rfl (H' := [_,_]) rfl ?_
   rintro _ _ _ ⟨rfl, rfl, rfl⟩
   refine wl_pure rfl rfl rfl (freshS_eq rfl) rfl ?_
   refine wl_pure rfl rfl rfl (freshS_eq rfl) rfl ?_
   refine wl_nil ?_
   refine we_then ?_
   refine wc_keep [4] (S' := [_]) rfl ?_
   refine wc_ret ?_
   have hE := (Option.some.inj hm).symm
   replace hE := hE.symm
   subst hE
   refine ret_one (Hr := []) [] Try.results27 (res_tmp rfl) ⟨rfl, rfl, rfl⟩ (fun _ _ hφ => ask [] rfl hφ) rfl rfl (.inl rfl)
  ·
   replace hm := iteF hm hs17
   refine wl_off rfl rfl rfl (freshS_eq rfl) ?_
   refine wl_off rfl rfl rfl (freshS_eq rfl) ?_
   refine wl_off rfl rfl rfl (freshS_eq rfl) ?_
   refine wl_off rfl rfl rfl (freshS_eq rfl) ?_
   refine wl_off rfl rfl rfl (freshS_eq rfl) ?_
   refine wl_pure rfl rfl rfl (freshS_eq rfl) rfl ?_
   refine wl_pure rfl rfl rfl (freshS_eq rfl) rfl ?_
   refine wl_nil ?_
   refine we_then ?_
   refine wc_keep [4] (S' := [_]) rfl ?_
   refine wc_ret ?_
   have hE := (Option.some.inj hm).symm
   replace hE := hE.symm
   subst hE
   refine ret_one (Hr := []) [] Try.results27 (res_tmp rfl) ⟨rfl, rfl, rfl⟩ (fun _ _ hφ => ask [] rfl hφ) rfl rfl (.inl rfl)
 ·
  replace hm := iteF hm hs10
  refine wl_off rfl rfl rfl (freshS_eq rfl) ?_
  refine wl_off rfl rfl rfl (freshS_eq rfl) ?_
  refine wl_off rfl rfl rfl (freshS_eq rfl) ?_
  refine wl_off rfl rfl rfl (freshS_eq rfl) ?_
  refine wl_off rfl rfl rfl (freshS_eq rfl) ?_
  refine wl_pure rfl rfl rfl (freshS_eq rfl) rfl ?_
  refine wl_pure rfl rfl rfl (freshS_eq rfl) rfl ?_
  refine wl_off rfl rfl rfl (freshS_eq rfl) ?_
  refine wl_off rfl rfl rfl (freshS_eq rfl) ?_
  refine wl_off rfl rfl rfl (freshS_eq rfl) ?_
  refine wl_off rfl rfl rfl (freshS_eq rfl) ?_
  refine wl_off rfl rfl rfl (freshS_eq rfl) ?_
  refine wl_pure rfl rfl rfl (freshS_eq rfl) rfl ?_
  refine wl_pure rfl rfl rfl (freshS_eq rfl) rfl ?_
  refine wl_nil ?_
  refine we_then ?_
  refine wc_keep [4] (S' := [_]) rfl ?_
  refine wc_ret ?_
  have hE := (Option.some.inj hm).symm
  replace hE := hE.symm
  subst hE
  refine ret_one (Hr := []) [] Try.results27 (res_tmp rfl) ⟨rfl, rfl, rfl⟩ (fun _ _ hφ => ask [] rfl hφ) rfl rfl (.inl rfl)
set_option maxRecDepth 100000 in
set_option maxHeartbeats 4000000 in
theorem m_ropewalkkit_SameSessions_s (N : Nat) (qp0 : Option Addr) (qn1 : Nat) (qc2 : Nat) (l3 : List SessD) (qp4 : Option Addr) (qc5 : Nat) (l6 : List SessD) (o0 : Bool) (hm : m_ropewalkkit_SameSessions N l3 l6 = some o0) : Spec Try.prog 19 [.slice qp0 qn1 qc2, .slice qp4 l6.length qc5] [.sli 6 R_SessD qp4 qc5 l6] [.own 62 6 R_SessD (.slice qp0 qn1 qc2) l3] (fun v Φr Hr => v = .bool o0 ∧ Φr = [] ∧ Hr = [.own 62 6 R_SessD (.slice qp0 qn1 qc2) l3]) := by
 unfold m_ropewalkkit_SameSessions at hm
 refine spec_of Try.func19 rfl Try.ntmps19 rfl (S := [_,_]) rfl (fun C => ?_)
 refine wc_seq ?_
 refine wc_region ?_
 refine wl_pure rfl rfl rfl (freshS_eq rfl) rfl ?_
 refine wl_nil ?_
 refine we_then ?_
 refine wc_keep [0, 1] (S' := [_,_]) rfl ?_
 refine wc_seq ?_
 refine wc_seq ?_
 refine wc_region ?_
 refine wl_pure rfl rfl rfl (freshS_eq rfl) rfl ?_
 refine wl_ownLen 0 rfl (fun hl7 _ => ?_)
 refine wl_len rfl rfl rfl (freshS_eq rfl) rfl rfl tE_38 ?_
 refine wl_as (d := 7) (v' := .int .i64 ((l3.length : Nat) : Int)) (S' := [_,_,_]) rfl rfl (len_is hl7) ?_
 refine wl_pure rfl rfl rfl (freshS_eq rfl) rfl ?_
 refine wl_len rfl rfl rfl (freshS_eq rfl) rfl rfl tE_38 ?_
 refine wl_pure rfl rfl rfl (freshS_eq rfl) rfl ?_
 refine wl_as (d := 10) (v' := .bool (l3.length != l6.length)) (S' := [_,_,_,_,_,_]) rfl rfl (natne (a := l3.length) (b := l6.length)) ?_
 refine wl_nil ?_
 refine we_then ?_
 refine wc_keep [10, 0, 1] (S' := [_,_,_]) rfl ?_
 refine wc_cond rfl (fun hb10 => ?_) (fun hb10 => ?_)
 ·
  replace hm := iteT hm hb10
  refine wc_keep [] (S' := []) rfl ?_
  refine wc_seq ?_
  refine wc_region ?_
  refine wl_pure rfl rfl rfl (freshS_eq rfl) rfl ?_
  refine wl_nil ?_
  refine we_then ?_
  refine wc_ret ?_
  refine we_then_ret ?_
  have hE := (Option.some.inj hm).symm
  replace hE := hE.symm
  subst hE
  refine ret_one (Hr := [_]) [0] Try.results19 (res_tmp rfl) ⟨rfl, rfl, rfl⟩ (fun _ _ hφ => ask [] rfl hφ) rfl rfl (.inl rfl)
 ·
  replace hm := iteF hm hb10
  refine wc_keep [0, 1] (S' := [_,_]) rfl ?_
  refine wc_skip ?_
  refine we_then ?_
  refine wc_seq ?_
  obtain ⟨bj_1, hm, hLj_1⟩ := bindS_some hm
  refine wc_cut (σ := Unit) (fun _ => bj_1 = .inl ()) (fun _ => []) (fun _ => []) (fun _ => [.own 62 6 R_SessD (.slice qp0 qn1 qc2) l3]) ?_ ?_
  ·
   refine wc_seq ?_
   refine wc_region ?_
   refine wl_pure rfl rfl rfl (freshS_eq rfl) rfl ?_
   refine wl_nil ?_
   refine we_then ?_
   refine wc_block ?_
   refine wc_loop (σ := Nat × Nat) (fun (nu1, u1_5) => iter (m_ropewalkkit_SameSessions_L1 N l3 l6) nu1 u1_5 = some bj_1) (fun (nu1, u1_5) => nu1) (fun (nu1, u1_5) => [(5, .int .i64 ((u1_5 : Nat) : Int)), (0, .slice qp0 qn1 qc2), (1, .slice qp4 l6.length qc5)]) (fun (nu1, u1_5) => [.sli 6 R_SessD qp4 qc5 l6]) (fun (nu1, u1_5) => [.own 62 6 R_SessD (.slice qp0 qn1 qc2) l3]) (N, 0) hm [5, 0, 1] rfl (fun _ _ hφ => ask [0] rfl hφ) rfl (fun s_ hm => ?_)
   obtain ⟨nu1, u1_5⟩ := s_
   try dsimp only at hm ⊢
   obtain ⟨mu1, bu1, hnu1, hq, hLu1⟩ := iter_some hm
   clear hm
   subst hnu1
   replace hm := hq
   clear hq
   unfold m_ropewalkkit_SameSessions_L1 at hm
   try dsimp only at hm
   refine wc_seq ?_
   refine wc_seq ?_
   refine wc_region ?_
   refine wl_pure rfl rfl rfl (freshS_eq rfl) rfl ?_
   refine wl_pure rfl rfl rfl (freshS_eq rfl) rfl ?_
   refine wl_ownLen 0 rfl (fun hl13 _ => ?_)
   refine wl_len rfl rfl rfl (freshS_eq rfl) rfl rfl tE_38 ?_
   refine wl_as (d := 13) (v' := .int .i64 ((l3.length : Nat) : Int)) (S' := [_,_,_,_,_]) rfl rfl (len_is hl13) ?_
   refine wl_pure rfl rfl rfl (freshS_eq rfl) rfl ?_
   refine wl_as (d := 14) (v' := .bool (decide (u1_5 < l3.length))) (S' := [_,_,_,_,_,_]) rfl rfl (natlt (a := u1_5) (b := l3.length)) ?_
   refine wl_nil ?_
   refine we_then ?_
   refine wc_keep [14, 5, 0, 1] (S' := [_,_,_,_]) rfl ?_
   refine wc_cond rfl (fun hb14 => ?_) (fun hb14 => ?_)
   ·
    replace hm := iteT hm hb14
    refine wc_keep [5, 0, 1] (S' := [_,_,_]) rfl ?_
    refine wc_skip ?_
    refine we_then ?_
    refine wc_seq ?_
    refine wc_block ?_
    refine wc_seq ?_
    obtain ⟨x19, hx19, hm⟩ := bindO_some hm
    obtain ⟨x23, hx23, hm⟩ := bindO_some hm
    obtain ⟨v25, hc25, hm⟩ := bindO_some hm
    refine wc_draw [0, 1, 2, 4, 5, 6, 7, 9] rfl rfl (fun hok => ?_)
    refine wx_pure hok 0 rfl rfl rfl (freshS_eq rfl) rfl rfl ?_
    refine wx_pure hok 1 rfl rfl rfl (freshS_eq rfl) rfl rfl ?_
    refine wx_indexH hok 2 0 u1_5 rfl rfl rfl (freshS_eq rfl) rfl rfl rfl rfl rfl rfl (get_lt hx19) tE_38 tS_62 (fun g19 eg19 => ?_)
    subst eg19
    refine wx_pure hok 4 rfl rfl rfl (freshS_eq rfl) rfl rfl ?_
    refine wx_pure hok 5 rfl rfl rfl (freshS_eq rfl) rfl rfl ?_
    refine wx_indexA hok 6 0 u1_5 rfl rfl rfl (freshS_eq rfl) rfl rfl rfl rfl rfl rfl hx23 tE_38 tS_62 (fun b23 q23 cs23 hlx23 => ?_)
    refine wx_openR R_SessD_opens 1 rfl (fun r23 er23 _ => ?_)
    subst er23
    refine wx_load hok 7 2 0 rfl rfl rfl (freshS_eq rfl) rfl rfl rfl rfl (cs := [_,_,_,_,_,_]) rfl tS_62 tA_62 rfl rfl ?_
    refine wx_step1 hok 3 rfl rfl rfl rfl ?_
    refine wl_loadRow R_SessD_opens 0 u1_5 0 rfl rfl rfl (freshS_eq rfl) rfl rfl rfl hx19 tS_62 tA_62 (v := fun r20 => .agg #[.int .i64 (x19.id), .int .i64 (x19.seq), .int .i64 (x19.r.err), .int .i64 (x19.r.num), .slice r20.1.1 x19.r.facts.length r20.1.2, .slice r20.2.1 x19.r.said.length r20.2.2]) (fun _ => rfl) (fun _ => rfl) (fun r20 _ => ?_)
    refine wl_nil ?_
    refine we_x [2, 3, 4, 5, 6] [] rfl rfl ?_
    refine wx_step1 hok 8 rfl rfl rfl rfl ?_
    refine wl_call [] [0] rfl rfl rfl (freshS_eq rfl) rfl rfl fn_27 rfl (m_ropewalkkit_SameSession_s N x19.id x19.seq x19.r.err x19.r.num r20.1.1 r20.1.2 x19.r.facts r20.2.1 r20.2.2 x19.r.said x23.id x23.seq x23.r.err x23.r.num r23.1.1 r23.1.2 x23.r.facts r23.2.1 r23.2.2 x23.r.said _ hc25) (fun _ _ hφ => ask [0, 1, 2, 3] rfl hφ) rfl (H' := [_]) rfl ?_
    rintro _ _ _ ⟨rfl, rfl, rfl⟩
    refine wl_nil ?_
    refine we_x [0, 1, 2, 3, 4, 5, 6] [] rfl rfl ?_
    refine wx_pure hok 9 rfl rfl rfl (freshS_eq rfl) rfl rfl ?_
    refine wx_done hok rfl ?_
    refine we_then ?_
    refine wc_keep [26, 5, 0, 1] (S' := [_,_,_,_]) rfl ?_
    refine wc_cond rfl (fun hb26 => ?_) (fun hb26 => ?_)
    ·
     replace hm := iteT hm hb26
     refine wc_keep [] (S' := []) rfl ?_
     refine wc_seq ?_
     refine wc_region ?_
     refine wl_pure rfl rfl rfl (freshS_eq rfl) rfl ?_
     refine wl_nil ?_
     refine we_then ?_
     refine wc_ret ?_
     refine we_block_ret ?_
     refine we_then_ret ?_
     refine we_then_ret ?_
     refine we_block_ret ?_
     refine we_then_ret ?_
     have hE := (Option.some.inj hm).symm
     replace hE := link_inr hLu1 hE
     replace hE := link_inr hLj_1 hE
     replace hE := hE.symm
     subst hE
     refine ret_one (Hr := [_]) [0] Try.results19 (res_tmp rfl) ⟨rfl, rfl, rfl⟩ (fun _ _ hφ => ask [] rfl hφ) rfl rfl (.inl rfl)
    ·
     replace hm := iteF hm hb26
     refine wc_keep [5, 0, 1] (S' := [_,_,_]) rfl ?_
     refine wc_skip ?_
     refine we_block_normal ?_
     refine we_then ?_
     refine wc_region ?_
     refine wl_pure rfl rfl rfl (freshS_eq rfl) rfl ?_
     refine wl_pure rfl rfl rfl (freshS_eq rfl) rfl ?_
     obtain ⟨hg16, hm⟩ := gd_some hm
     refine wl_as (d := 16) (v' := .int .i64 ((u1_5 + 1 : Nat) : Int)) (S' := [_,_,_,_]) rfl rfl (nat_add (a := u1_5) (b := 1) hg16) ?_
     refine wl_pure (S' := [_,_,_,_]) rfl rfl rfl rfl rfl ?_
     refine wl_nil ?_
     have hE := (Option.some.inj hm).symm
     replace hE := link_inl hLu1 hE
     refine we_roundK (_, u1_5 + 1) (Nat.lt_succ_self _) hE [5, 0, 1] rfl (fun _ _ hφ => ask [6] rfl hφ) rfl
   ·
    replace hm := iteF hm hb14
    refine wc_keep [] (S' := []) rfl ?_
    refine wc_exit ?_
    refine we_then_exit ?_
    refine we_then_exit ?_
    refine we_block_hit ?_
    have hE := (Option.some.inj hm).symm
    replace hE := link_inr hLu1 hE
    refine we_join () hE [] rfl (fun _ _ hφ => ask [] rfl hφ) rfl
  ·
   rintro _ hE
   try dsimp only
   have hm := link_inl hLj_1 hE
   try dsimp only at hm
   refine wc_seq ?_
   refine wc_region ?_
   refine wl_pure rfl rfl rfl (freshS_eq rfl) rfl ?_
   refine wl_nil ?_
   refine we_then ?_
   refine wc_ret ?_
   have hE := (Option.some.inj hm).symm
   replace hE := hE.symm
   subst hE
   refine ret_one (Hr := [_]) [0] Try.results19 (res_tmp rfl) ⟨rfl, rfl, rfl⟩ (fun _ _ hφ => ask [] rfl hφ) rfl rfl (.inl rfl)
set_option maxRecDepth 100000 in
set_option maxHeartbeats 4000000 in
theorem m_ropewalkkit_SameSessions_v2_s (N : Nat) (qp0 : Option Addr) (qn1 : Nat) (qc2 : Nat) (l3 : List SessD) (qp4 : Option Addr) (qn5 : Nat) (qc6 : Nat) (l7 : List SessD) (o0 : Bool) (hm : m_ropewalkkit_SameSessions_v2 N l3 l7 = some o0) : Spec Try.prog 19 [.slice qp0 qn1 qc2, .slice qp4 qn5 qc6] [] [.own 62 6 R_SessD (.slice qp0 qn1 qc2) l3, .own 62 6 R_SessD (.slice qp4 qn5 qc6) l7] (fun v Φr Hr => v = .bool o0 ∧ Φr = [] ∧ Hr = [.own 62 6 R_SessD (.slice qp0 qn1 qc2) l3, .own 62 6 R_SessD (.slice qp4 qn5 qc6) l7]) := by
 unfold m_ropewalkkit_SameSessions_v2 at hm
 refine spec_of Try.func19 rfl Try.ntmps19 rfl (S := [_,_]) rfl (fun C => ?_)
 refine wc_seq ?_
 refine wc_region ?_
 refine wl_pure rfl rfl rfl (freshS_eq rfl) rfl ?_
 refine wl_nil ?_
 refine we_then ?_
 refine wc_keep [0, 1] (S' := [_,_]) rfl ?_
 refine wc_seq ?_
 refine wc_seq ?_
 refine wc_region ?_
 refine wl_pure rfl rfl rfl (freshS_eq rfl) rfl ?_
 refine wl_ownLen 0 rfl (fun hl7 _ => ?_)
 refine wl_len rfl rfl rfl (freshS_eq rfl) rfl rfl tE_38 ?_
 refine wl_as (d := 7) (v' := .int .i64 ((l3.length : Nat) : Int)) (S' := [_,_,_]) rfl rfl (len_is hl7) ?_
 refine wl_pure rfl rfl rfl (freshS_eq rfl) rfl ?_
 refine wl_ownLen 1 rfl (fun hl9 _ => ?_)
 refine wl_len rfl rfl rfl (freshS_eq rfl) rfl rfl tE_38 ?_
 refine wl_as (d := 9) (v' := .int .i64 ((l7.length : Nat) : Int)) (S' := [_,_,_,_,_]) rfl rfl (len_is hl9) ?_
 refine wl_pure rfl rfl rfl (freshS_eq rfl) rfl ?_
 refine wl_as (d := 10) (v' := .bool (l3.length != l7.length)) (S' := [_,_,_,_,_,_]) rfl rfl (natne (a := l3.length) (b := l7.length)) ?_
 refine wl_nil ?_
 refine we_then ?_
 refine wc_keep [10, 0, 1] (S' := [_,_,_]) rfl ?_
 refine wc_cond rfl (fun hb10 => ?_) (fun hb10 => ?_)
 ·
  replace hm := iteT hm hb10
  refine wc_keep [] (S' := []) rfl ?_
  refine wc_seq ?_
  refine wc_region ?_
  refine wl_pure rfl rfl rfl (freshS_eq rfl) rfl ?_
  refine wl_nil ?_
  refine we_then ?_
  refine wc_ret ?_
  refine we_then_ret ?_
  have hE := (Option.some.inj hm).symm
  replace hE := hE.symm
  subst hE
  refine ret_one (Hr := [_, _]) [0, 1] Try.results19 (res_tmp rfl) ⟨rfl, rfl, rfl⟩ (fun _ _ hφ => ask [] rfl hφ) rfl rfl (.inl rfl)
 ·
  replace hm := iteF hm hb10
  refine wc_keep [0, 1] (S' := [_,_]) rfl ?_
  refine wc_skip ?_
  refine we_then ?_
  refine wc_seq ?_
  obtain ⟨bj_1, hm, hLj_1⟩ := bindS_some hm
  refine wc_cut (σ := Unit) (fun _ => bj_1 = .inl ()) (fun _ => []) (fun _ => []) (fun _ => [.own 62 6 R_SessD (.slice qp0 qn1 qc2) l3, .own 62 6 R_SessD (.slice qp4 qn5 qc6) l7]) ?_ ?_
  ·
   refine wc_seq ?_
   refine wc_region ?_
   refine wl_pure rfl rfl rfl (freshS_eq rfl) rfl ?_
   refine wl_nil ?_
   refine we_then ?_
   refine wc_block ?_
   refine wc_loop (σ := Nat × Nat) (fun (nu1, u1_5) => iter (m_ropewalkkit_SameSessions_v2_L1 N l3 l7) nu1 u1_5 = some bj_1) (fun (nu1, u1_5) => nu1) (fun (nu1, u1_5) => [(5, .int .i64 ((u1_5 : Nat) : Int)), (0, .slice qp0 qn1 qc2), (1, .slice qp4 qn5 qc6)]) (fun (nu1, u1_5) => []) (fun (nu1, u1_5) => [.own 62 6 R_SessD (.slice qp0 qn1 qc2) l3, .own 62 6 R_SessD (.slice qp4 qn5 qc6) l7]) (N, 0) hm [5, 0, 1] rfl (fun _ _ hφ => ask [] rfl hφ) rfl (fun s_ hm => ?_)
   obtain ⟨nu1, u1_5⟩ := s_
   try dsimp only at hm ⊢
   obtain ⟨mu1, bu1, hnu1, hq, hLu1⟩ := iter_some hm
   clear hm
   subst hnu1
   replace hm := hq
   clear hq
   unfold m_ropewalkkit_SameSessions_v2_L1 at hm
   try dsimp only at hm
   refine wc_seq ?_
   refine wc_seq ?_
   refine wc_region ?_
   refine wl_pure rfl rfl rfl (freshS_eq rfl) rfl ?_
   refine wl_pure rfl rfl rfl (freshS_eq rfl) rfl ?_
   refine wl_ownLen 0 rfl (fun hl13 _ => ?_)
   refine wl_len rfl rfl rfl (freshS_eq rfl) rfl rfl tE_38 ?_
   refine wl_as (d := 13) (v' := .int .i64 ((l3.length : Nat) : Int)) (S' := [_,_,_,_,_]) rfl rfl (len_is hl13) ?_
   refine wl_pure rfl rfl rfl (freshS_eq rfl) rfl ?_
   refine wl_as (d := 14) (v' := .bool (decide (u1_5 < l3.length))) (S' := [_,_,_,_,_,_]) rfl rfl (natlt (a := u1_5) (b := l3.length)) ?_
   refine wl_nil ?_
   refine we_then ?_
   refine wc_keep [14, 5, 0, 1] (S' := [_,_,_,_]) rfl ?_
   refine wc_cond rfl (fun hb14 => ?_) (fun hb14 => ?_)
   ·
    replace hm := iteT hm hb14
    refine wc_keep [5, 0, 1] (S' := [_,_,_]) rfl ?_
    refine wc_skip ?_
    refine we_then ?_
    refine wc_seq ?_
    refine wc_block ?_
    refine wc_seq ?_
    obtain ⟨bj_2, hm, hLj_2⟩ := bindO_some hm
    refine wc_cut (σ := Bool) (fun j_2_26 => bj_2 = j_2_26) (fun j_2_26 => [(5, .int .i64 ((u1_5 : Nat) : Int)), (0, .slice qp0 qn1 qc2), (1, .slice qp4 qn5 qc6), (26, .bool j_2_26)]) (fun j_2_26 => []) (fun j_2_26 => [.own 62 6 R_SessD (.slice qp0 qn1 qc2) l3, .own 62 6 R_SessD (.slice qp4 qn5 qc6) l7]) ?_ ?_
    ·
     obtain ⟨x19, hx19, hm⟩ := bindO_some hm
     obtain ⟨x23, hx23, hm⟩ := bindO_some hm
     obtain ⟨v25, hc25, hm⟩ := bindO_some hm
     refine wc_draw [0, 1, 2, 4, 5, 6, 9] rfl rfl (fun hok => ?_)
     refine wx_pure hok 0 rfl rfl rfl (freshS_eq rfl) rfl rfl ?_
     refine wx_pure hok 1 rfl rfl rfl (freshS_eq rfl) rfl rfl ?_
     refine wx_indexH hok 2 0 u1_5 rfl rfl rfl (freshS_eq rfl) rfl rfl rfl rfl rfl rfl (get_lt hx19) tE_38 tS_62 (fun g19 eg19 => ?_)
     subst eg19
     refine wx_pure hok 4 rfl rfl rfl (freshS_eq rfl) rfl rfl ?_
     refine wx_pure hok 5 rfl rfl rfl (freshS_eq rfl) rfl rfl ?_
     refine wx_indexH hok 6 1 u1_5 rfl rfl rfl (freshS_eq rfl) rfl rfl rfl rfl rfl rfl (get_lt hx23) tE_38 tS_62 (fun g23 eg23 => ?_)
     subst eg23
     refine wx_step2 hok 3 7 rfl rfl rfl rfl rfl rfl ?_ ?_
     ·
      refine wl_loadRow R_SessD_opens 0 u1_5 0 rfl rfl rfl (freshS_eq rfl) rfl rfl rfl hx19 tS_62 tA_62 (v := fun r20 => .agg #[.int .i64 (x19.id), .int .i64 (x19.seq), .int .i64 (x19.r.err), .int .i64 (x19.r.num), .slice r20.1.1 x19.r.facts.length r20.1.2, .slice r20.2.1 x19.r.said.length r20.2.2]) (fun _ => rfl) (fun _ => rfl) (fun r20 _ => ?_)
      refine wl_nil ?_
      refine we_x [] [] rfl rfl ?_
      refine wx_step1 hok 7 rfl rfl rfl rfl ?_
      refine wl_loadRow R_SessD_opens 1 u1_5 0 rfl rfl rfl (freshS_eq rfl) rfl rfl rfl hx23 tS_62 tA_62 (v := fun r24 => .agg #[.int .i64 (x23.id), .int .i64 (x23.seq), .int .i64 (x23.r.err), .int .i64 (x23.r.num), .slice r24.1.1 x23.r.facts.length r24.1.2, .slice r24.2.1 x23.r.said.length r24.2.2]) (fun _ => rfl) (fun _ => rfl) (fun r24 _ => ?_)
      refine wl_nil ?_
      refine we_x [2, 3] [] rfl rfl ?_
      refine wx_step1 hok 8 rfl rfl rfl rfl ?_
      refine wl_call [] [0, 1] rfl rfl rfl (freshS_eq rfl) rfl rfl fn_27 rfl (m_ropewalkkit_SameSession_s N x19.id x19.seq x19.r.err x19.r.num r20.1.1 r20.1.2 x19.r.facts r20.2.1 r20.2.2 x19.r.said x23.id x23.seq x23.r.err x23.r.num r24.1.1 r24.1.2 x23.r.facts r24.2.1 r24.2.2 x23.r.said _ hc25) (fun _ _ hφ => ask [2, 3, 0, 1] rfl hφ) rfl (H' := [_,_]) rfl ?_
      rintro _ _ _ ⟨rfl, rfl, rfl⟩
      refine wl_nil ?_
      refine we_x [0, 1, 2, 3] [] rfl rfl ?_
      refine wx_pure hok 9 rfl rfl rfl (freshS_eq rfl) rfl rfl ?_
      refine wx_done hok rfl ?_
      have hE := (Option.some.inj hm).symm
      refine we_join (!v25) hE [5, 0, 1, 26] rfl (fun _ _ hφ => ask [] rfl hφ) rfl
     ·
      refine wl_loadRow R_SessD_opens 1 u1_5 0 rfl rfl rfl (freshS_eq rfl) rfl rfl rfl hx23 tS_62 tA_62 (v := fun r24 => .agg #[.int .i64 (x23.id), .int .i64 (x23.seq), .int .i64 (x23.r.err), .int .i64 (x23.r.num), .slice r24.1.1 x23.r.facts.length r24.1.2, .slice r24.2.1 x23.r.said.length r24.2.2]) (fun _ => rfl) (fun _ => rfl) (fun r24 _ => ?_)
      refine wl_nil ?_
      refine we_x [] [] rfl rfl ?_
      refine wx_step1 hok 3 rfl rfl rfl rfl ?_
      refine wl_loadRow R_SessD_opens 0 u1_5 0 rfl rfl rfl (freshS_eq rfl) rfl rfl rfl hx19 tS_62 tA_62 (v := fun r20 => .agg #[.int .i64 (x19.id), .int .i64 (x19.seq), .int .i64 (x19.r.err), .int .i64 (x19.r.num), .slice r20.1.1 x19.r.facts.length r20.1.2, .slice r20.2.1 x19.r.said.length r20.2.2]) (fun _ => rfl) (fun _ => rfl) (fun r20 _ => ?_)
      refine wl_nil ?_
      refine we_x [2, 3] [] rfl rfl ?_
      refine wx_step1 hok 8 rfl rfl rfl rfl ?_
      refine wl_call [] [0, 1] rfl rfl rfl (freshS_eq rfl) rfl rfl fn_27 rfl (m_ropewalkkit_SameSession_s N x19.id x19.seq x19.r.err x19.r.num r20.1.1 r20.1.2 x19.r.facts r20.2.1 r20.2.2 x19.r.said x23.id x23.seq x23.r.err x23.r.num r24.1.1 r24.1.2 x23.r.facts r24.2.1 r24.2.2 x23.r.said _ hc25) (fun _ _ hφ => ask [0, 1, 2, 3] rfl hφ) rfl (H' := [_,_]) rfl ?_
      rintro _ _ _ ⟨rfl, rfl, rfl⟩
      refine wl_nil ?_
      refine we_x [0, 1, 2, 3] [] rfl rfl ?_
      refine wx_pure hok 9 rfl rfl rfl (freshS_eq rfl) rfl rfl ?_
      refine wx_done hok rfl ?_
      have hE := (Option.some.inj hm).symm
      refine we_join (!v25) hE [5, 0, 1, 26] rfl (fun _ _ hφ => ask [] rfl hφ) rfl
    ·
     rintro j_2_26 hE
     try dsimp only
     have hm := hLj_2
     rw [hE] at hm
     refine wc_cond rfl (fun hb26 => ?_) (fun hb26 => ?_)
     ·
      replace hm := iteT hm hb26
      refine wc_keep [] (S' := []) rfl ?_
      refine wc_seq ?_
      refine wc_region ?_
      refine wl_pure rfl rfl rfl (freshS_eq rfl) rfl ?_
      refine wl_nil ?_
      refine we_then ?_
      refine wc_ret ?_
      refine we_block_ret ?_
      refine we_then_ret ?_
      refine we_then_ret ?_
      refine we_block_ret ?_
      refine we_then_ret ?_
      have hE := (Option.some.inj hm).symm
      replace hE := link_inr hLu1 hE
      replace hE := link_inr hLj_1 hE
      replace hE := hE.symm
      subst hE
      refine ret_one (Hr := [_, _]) [0, 1] Try.results19 (res_tmp rfl) ⟨rfl, rfl, rfl⟩ (fun _ _ hφ => ask [] rfl hφ) rfl rfl (.inl rfl)
     ·
      replace hm := iteF hm hb26
      refine wc_keep [5, 0, 1] (S' := [_,_,_]) rfl ?_
      refine wc_skip ?_
      refine we_block_normal ?_
      refine we_then ?_
      refine wc_region ?_
      refine wl_pure rfl rfl rfl (freshS_eq rfl) rfl ?_
      refine wl_pure rfl rfl rfl (freshS_eq rfl) rfl ?_
      obtain ⟨hg16, hm⟩ := gd_some hm
      refine wl_as (d := 16) (v' := .int .i64 ((u1_5 + 1 : Nat) : Int)) (S' := [_,_,_,_]) rfl rfl (nat_add (a := u1_5) (b := 1) hg16) ?_
      refine wl_pure (S' := [_,_,_,_]) rfl rfl rfl rfl rfl ?_
      refine wl_nil ?_
      have hE := (Option.some.inj hm).symm
      replace hE := link_inl hLu1 hE
      refine we_roundK (_, u1_5 + 1) (Nat.lt_succ_self _) hE [5, 0, 1] rfl (fun _ _ hφ => ask [] rfl hφ) rfl
   ·
    replace hm := iteF hm hb14
    refine wc_keep [] (S' := []) rfl ?_
    refine wc_exit ?_
    refine we_then_exit ?_
    refine we_then_exit ?_
    refine we_block_hit ?_
    have hE := (Option.some.inj hm).symm
    replace hE := link_inr hLu1 hE
    refine we_join () hE [] rfl (fun _ _ hφ => ask [] rfl hφ) rfl
  ·
   rintro _ hE
   try dsimp only
   have hm := link_inl hLj_1 hE
   try dsimp only at hm
   refine wc_seq ?_
   refine wc_region ?_
   refine wl_pure rfl rfl rfl (freshS_eq rfl) rfl ?_
   refine wl_nil ?_
   refine we_then ?_
   refine wc_ret ?_
   have hE := (Option.some.inj hm).symm
   replace hE := hE.symm
   subst hE
   refine ret_one (Hr := [_, _]) [0, 1] Try.results19 (res_tmp rfl) ⟨rfl, rfl, rfl⟩ (fun _ _ hφ => ask [] rfl hφ) rfl rfl (.inl rfl)
end Go.Proofs.Ytighbinghbnjhaa
