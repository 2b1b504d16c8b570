/- Walks, printed by a program out of the loaded code (wip/sep). -/
import Derived.Test.YtffcijddfhhbdaaW2
namespace Go.Proofs.Ytffcijddfhhbdaa
open Go.RowKit
set_option maxRecDepth 100000 in
set_option maxHeartbeats 4000000 in
theorem arg_s (p1 p2 : Option Addr) (m1 m2 c1 c2 : Nat) (h : List Bool) (vs : List V) (a : ArgD) (x : V) (hl : h.length = vs.length) (hx : x.ok) : Spec Try.prog 17 [.agg #[.slice p1 m1 c1, .slice p2 m2 c2], .agg #[.int .u8 (a.k), .int .i64 (a.var), .int .u8 (a.v.k), .int .i64 (a.v.n), .string a.v.s], .agg #[.int .u8 (x.k), .int .i64 (x.n), .string x.s]] [] [.own 4 1 bRep (.slice p1 m1 c1) h, .own 27 3 vRep (.slice p2 m2 c2) vs] (fun v Φr Hr => ∃ r h' vs', v = .bool r ∧ FitR a x h vs r h' vs' ∧ Φr = [] ∧ Hr = [.own 4 1 bRep (.slice p1 m1 c1) h', .own 27 3 vRep (.slice p2 m2 c2) vs']) := by
 refine spec_of Try.func17 rfl Try.ntmps17 rfl (S := [_,_,_]) rfl (fun C => ?_)
 refine wc_ownLen 0 rfl (fun hm1 hp1 => ?_)
 refine wc_ownLen 1 rfl (fun hm2 hp2 => ?_)
 refine wc_seq ?_
 refine wc_region ?_
 refine wl_box rfl rfl rfl (freshS_eq rfl) rfl rfl rfl (fun g3 => ?_)
 refine wl_box rfl rfl rfl (freshS_eq rfl) rfl rfl rfl (fun g4 => ?_)
 refine wl_box rfl rfl rfl (freshS_eq rfl) rfl rfl rfl (fun g5 => ?_)
 refine wl_pure rfl rfl rfl (freshS_eq rfl) rfl ?_
 refine wl_nil ?_
 refine we_then ?_
 refine wc_seq ?_
 refine wc_region ?_
 refine wl_fieldAddr rfl rfl rfl (freshS_eq rfl) rfl rfl tF_48_1 ?_
 refine wl_loadH 1 1 rfl rfl rfl (freshS_eq rfl) rfl rfl rfl (cs := [_]) rfl tS_3 tA_3 rfl rfl ?_
 refine wl_pure rfl rfl rfl (freshS_eq rfl) rfl ?_
 refine wl_pure rfl rfl rfl (freshS_eq rfl) rfl ?_
 refine wl_split (d := 11) (S' := [_,_,_,_,_,_,_,_,_,_]) rfl rfl (fun h11 => ?_) (fun h11 => ?_)
 ·
  replace h11 := of_decide_eq_true h11
  refine wl_fieldAddr rfl rfl rfl (freshS_eq rfl) rfl rfl tF_48_1 ?_
  refine wl_loadH 1 1 rfl rfl rfl (freshS_eq rfl) rfl rfl rfl (cs := [_]) rfl tS_3 tA_3 rfl rfl ?_
  refine wl_fieldAddr rfl rfl rfl (freshS_eq rfl) rfl rfl tF_62_0 ?_
  refine wl_fieldAddr rfl rfl rfl (freshS_eq rfl) rfl rfl tF_41_0 ?_
  refine wl_loadH 2 0 rfl rfl rfl (freshS_eq rfl) rfl rfl rfl (cs := [_]) rfl tS_37 tA_37 rfl rfl ?_
  refine wl_len rfl rfl rfl (freshS_eq rfl) rfl rfl tE_37 ?_
  refine wl_pure rfl rfl rfl (freshS_eq rfl) rfl ?_
  refine wl_pure rfl rfl rfl (freshS_eq rfl) rfl ?_
  refine wl_pure rfl rfl rfl (freshS_eq rfl) rfl ?_
  refine wl_nil ?_
  refine we_then ?_
  refine wc_keep [7, 6, 5, 4, 3, 0, 1, 2] (S' := [_,_,_,_,_,_,_,_]) rfl ?_
  refine wc_seq ?_
  refine wc_seq ?_
  refine wc_region ?_
  refine wl_fieldAddr rfl rfl rfl (freshS_eq rfl) rfl rfl tF_48_0 ?_
  refine wl_loadH 1 0 rfl rfl rfl (freshS_eq rfl) rfl rfl rfl (cs := [_]) rfl tS_46 tA_46 rfl rfl ?_
  refine wl_nil ?_
  refine we_then ?_
  refine wc_keep [21, 7, 6, 5, 4, 3, 0, 1, 2] (S' := [_,_,_,_,_,_,_,_,_]) rfl ?_
  refine wc_block ?_
  refine wc_seq ?_
  refine wc_region ?_
  refine wl_pure rfl rfl rfl (freshS_eq rfl) rfl ?_
  refine wl_pure rfl rfl rfl (freshS_eq rfl) rfl ?_
  refine wl_nil ?_
  refine we_then ?_
  refine wc_keep [22, 21, 7, 6, 5, 4, 3, 0, 1, 2] (S' := [_,_,_,_,_,_,_,_,_,_]) rfl ?_
  refine wc_cond rfl (fun h22 => ?_) (fun h22 => ?_)
  ·
   replace h22 := eq_of_beq h22
   refine wc_seq ?_
   refine wc_region ?_
   refine wl_pure (S' := [_,_,_,_,_,_,_,_,_]) rfl rfl rfl rfl rfl ?_
   refine wl_nil ?_
   refine we_then ?_
   refine wc_ret ?_
   refine we_block_ret ?_
   refine we_then_ret ?_
   refine ret_one (Hr := [.own 4 1 bRep (.slice p1 m1 c1) h, .own 27 3 vRep (.slice p2 m2 c2) vs]) [3, 4] Try.results17 (res_tmp rfl) ?_ (fun _ _ hφ => ask [] rfl hφ) rfl rfl (.inl rfl)
   exact ⟨_, _, _, rfl, FitR.any (h := h) (vs := vs) h22, rfl, rfl⟩
  ·
   replace h22 := ne_of_beq_false h22
   refine wc_seq ?_
   refine wc_region ?_
   refine wl_pure rfl rfl rfl (freshS_eq rfl) rfl ?_
   refine wl_pure rfl rfl rfl (freshS_eq rfl) rfl ?_
   refine wl_nil ?_
   refine we_then ?_
   refine wc_keep [24, 22, 21, 7, 6, 5, 4, 3, 0, 1, 2] (S' := [_,_,_,_,_,_,_,_,_,_,_]) rfl ?_
   refine wc_cond rfl (fun h24 => ?_) (fun h24 => ?_)
   ·
    replace h24 := eq_of_beq h24
    refine wc_seq ?_
    refine wc_region ?_
    refine wl_fieldAddr rfl rfl rfl (freshS_eq rfl) rfl rfl tF_48_2 ?_
    refine wl_loadH 1 2 rfl rfl rfl (freshS_eq rfl) rfl rfl rfl (cs := [_,_,_]) rfl tS_27 tA_27 rfl rfl ?_
    refine wl_loadH 0 0 rfl rfl rfl (freshS_eq rfl) rfl rfl rfl (cs := [_,_,_]) rfl tS_27 tA_27 rfl rfl ?_
    refine wl_bin rfl rfl rfl (freshS_eq rfl) rfl rfl rfl (eqlV _ _ a.v x) ?_
    refine wl_pure (S' := [_,_,_,_,_,_,_,_,_,_,_,_,_,_]) rfl rfl rfl rfl rfl ?_
    refine wl_nil ?_
    refine we_then ?_
    refine wc_keep [6, 24, 22, 21, 7, 5, 4, 3, 0, 1, 2] (S' := [_,_,_,_,_,_,_,_,_,_,_]) rfl ?_
    refine wc_ret ?_
    refine we_block_ret ?_
    refine we_then_ret ?_
    refine ret_one (Hr := [.own 4 1 bRep (.slice p1 m1 c1) h, .own 27 3 vRep (.slice p2 m2 c2) vs]) [3, 4] Try.results17 (res_tmp rfl) ?_ (fun _ _ hφ => ask [] rfl hφ) rfl rfl (.inl rfl)
    exact ⟨_, _, _, rfl, FitR.const (h := h) (vs := vs) h24, rfl, rfl⟩
   ·
    replace h24 := ne_of_beq_false h24
    refine wc_seq ?_
    refine wc_region ?_
    refine wl_pure rfl rfl rfl (freshS_eq rfl) rfl ?_
    refine wl_pure rfl rfl rfl (freshS_eq rfl) rfl ?_
    refine wl_nil ?_
    refine we_then ?_
    refine wc_keep [30, 24, 22, 21, 7, 6, 5, 4, 3, 0, 1, 2] (S' := [_,_,_,_,_,_,_,_,_,_,_,_]) rfl ?_
    refine wc_cond rfl (fun h30 => ?_) (fun h30 => ?_)
    ·
     replace h30 := eq_of_beq h30
     refine wc_seq ?_
     refine wc_draw [0, 1, 2, 3, 4, 5, 6, 7, 8, 9, 10, 11, 12, 13, 14, 15, 16, 17, 18, 19, 20] rfl rfl (fun hok => ?_)
     refine wx_pure hok 0 rfl rfl rfl (freshS_eq rfl) rfl rfl ?_
     refine wx_pure hok 1 rfl rfl rfl (freshS_eq rfl) rfl rfl ?_
     refine wx_split (d := 33) (S' := [_,_,_,_,_,_,_,_,_,_,_,_,_]) rfl rfl (fun h33 => ?_) (fun h33 => ?_)
     ·
      replace h33 := of_decide_eq_true h33
      refine wx_fieldAddr hok 2 rfl rfl rfl (freshS_eq rfl) rfl rfl rfl tF_62_0 ?_
      refine wx_fieldAddr hok 3 rfl rfl rfl (freshS_eq rfl) rfl rfl rfl tF_41_0 ?_
      refine wx_loadH hok 4 2 0 rfl rfl rfl (freshS_eq rfl) rfl rfl rfl rfl (cs := [_]) rfl tS_37 tA_37 rfl rfl ?_
      refine wx_fieldAddr hok 5 rfl rfl rfl (freshS_eq rfl) rfl rfl rfl tF_48_1 ?_
      refine wx_loadH hok 6 1 1 rfl rfl rfl (freshS_eq rfl) rfl rfl rfl rfl (cs := [_]) rfl tS_3 tA_3 rfl rfl ?_
      refine wx_indexH hok 7 3 a.var.toNat rfl rfl rfl (freshS_eq rfl) rfl rfl rfl rfl rfl (by omega) (by omega) tE_37 tS_4 (fun g39 eg39 => ?_)
      subst eg39
      obtain ⟨y39, hy39⟩ : ∃ y, h[a.var.toNat]? = some y := ⟨_, List.getElem?_eq_getElem (by omega)⟩
      refine wx_loadRow hok 8 bRep_opens 3 a.var.toNat 0 rfl rfl rfl (freshS_eq rfl) rfl rfl rfl rfl hy39 tS_4 tA_4 (v := .bool y39) rfl rfl (fun oky39 => ?_)
      refine wx_pure hok 9 rfl rfl rfl (freshS_eq rfl) rfl rfl ?_
      refine wx_pure hok 10 rfl rfl rfl (freshS_eq rfl) rfl rfl ?_
      refine wx_split (d := 42) (S' := [_,_,_,_,_,_,_,_,_,_,_,_,_,_,_,_,_,_,_,_,_,_]) rfl rfl (fun h42 => ?_) (fun h42 => ?_)
      ·
       refine wx_fieldAddr hok 11 rfl rfl rfl (freshS_eq rfl) rfl rfl rfl tF_62_0 ?_
       refine wx_fieldAddr hok 12 rfl rfl rfl (freshS_eq rfl) rfl rfl rfl tF_41_1 ?_
       refine wx_loadH hok 13 2 1 rfl rfl rfl (freshS_eq rfl) rfl rfl rfl rfl (cs := [_]) rfl tS_34 tA_34 rfl rfl ?_
       refine wx_fieldAddr hok 14 rfl rfl rfl (freshS_eq rfl) rfl rfl rfl tF_48_1 ?_
       refine wx_loadH hok 15 1 1 rfl rfl rfl (freshS_eq rfl) rfl rfl rfl rfl (cs := [_]) rfl tS_3 tA_3 rfl rfl ?_
       refine wx_indexH hok 16 4 a.var.toNat rfl rfl rfl (freshS_eq rfl) rfl rfl rfl rfl rfl (by omega) (by omega) tE_34 tS_27 (fun g48 eg48 => ?_)
       subst eg48
       obtain ⟨y48, hy48⟩ : ∃ y, vs[a.var.toNat]? = some y := ⟨_, List.getElem?_eq_getElem (by omega)⟩
       refine wx_loadRow hok 17 vRep_opens 4 a.var.toNat 0 rfl rfl rfl (freshS_eq rfl) rfl rfl rfl rfl hy48 tS_27 tA_27 (v := .agg #[.int .u8 (y48.k), .int .i64 (y48.n), .string y48.s]) rfl rfl (fun oky48 => ?_)
       refine wx_loadH hok 18 0 0 rfl rfl rfl (freshS_eq rfl) rfl rfl rfl rfl (cs := [_,_,_]) rfl tS_27 tA_27 rfl rfl ?_
       refine wx_bin hok 19 rfl rfl rfl (freshS_eq rfl) rfl rfl rfl rfl (eqlV _ _ y48 x) ?_
       refine wx_pure hok 20 rfl rfl rfl (freshS_eq rfl) rfl rfl ?_
       refine wx_step1 hok 21 rfl rfl rfl rfl ?_
       refine wl_pure (S' := [_,_,_,_,_,_,_,_,_,_,_,_,_,_,_,_,_,_,_,_,_,_,_,_,_,_,_,_,_,_,_,_]) rfl rfl rfl rfl rfl ?_
       refine wl_nil ?_
       refine we_x [] [] rfl rfl ?_
       refine wx_done hok rfl ?_
       refine we_then ?_
       refine wc_keep [6, 30, 24, 22, 21, 7, 5, 4, 3, 0, 1, 2] (S' := [_,_,_,_,_,_,_,_,_,_,_,_]) rfl ?_
       refine wc_ret ?_
       refine we_block_ret ?_
       refine we_then_ret ?_
       refine ret_one (Hr := [.own 4 1 bRep (.slice (some ⟨g39, 0, none⟩) m1 c1) h, .own 27 3 vRep (.slice (some ⟨g48, 0, none⟩) m2 c2) vs]) [3, 4] Try.results17 (res_tmp rfl) ?_ (fun _ _ hφ => ask [] rfl hφ) rfl rfl (.inl rfl)
       exact ⟨_, _, _, rfl, FitR.var3 (h := h) (vs := vs) h30 (by omega) (by rw [hy39, h42]) hy48, rfl, rfl⟩
      ·
       refine wx_off hok 11 rfl rfl rfl (freshS_eq rfl) rfl ?_
       refine wx_off hok 12 rfl rfl rfl (freshS_eq rfl) rfl ?_
       refine wx_off hok 13 rfl rfl rfl (freshS_eq rfl) rfl ?_
       refine wx_off hok 14 rfl rfl rfl (freshS_eq rfl) rfl ?_
       refine wx_off hok 15 rfl rfl rfl (freshS_eq rfl) rfl ?_
       refine wx_off hok 16 rfl rfl rfl (freshS_eq rfl) rfl ?_
       refine wx_off hok 17 rfl rfl rfl (freshS_eq rfl) rfl ?_
       refine wx_off hok 18 rfl rfl rfl (freshS_eq rfl) rfl ?_
       refine wx_off hok 19 rfl rfl rfl (freshS_eq rfl) rfl ?_
       refine wx_pure hok 20 rfl rfl rfl (freshS_eq rfl) rfl rfl ?_
       refine wx_step1 hok 21 rfl rfl rfl rfl ?_
       refine wl_pure (S' := [_,_,_,_,_,_,_,_,_,_,_,_,_,_,_,_,_,_,_,_,_,_,_,_,_,_,_,_,_,_,_,_]) rfl rfl rfl rfl rfl ?_
       refine wl_nil ?_
       refine we_x [] [] rfl rfl ?_
       refine wx_done hok rfl ?_
       refine we_then ?_
       refine wc_keep [6, 30, 24, 22, 21, 7, 5, 4, 3, 0, 1, 2] (S' := [_,_,_,_,_,_,_,_,_,_,_,_]) rfl ?_
       refine wc_ret ?_
       refine we_block_ret ?_
       refine we_then_ret ?_
       refine ret_one (Hr := [.own 4 1 bRep (.slice (some ⟨g39, 0, none⟩) m1 c1) h, .own 27 3 vRep (.slice p2 m2 c2) vs]) [3, 4] Try.results17 (res_tmp rfl) ?_ (fun _ _ hφ => ask [] rfl hφ) rfl rfl (.inl rfl)
       exact ⟨_, _, _, rfl, FitR.off3 (h := h) (vs := vs) h30 (by rw [hy39, h42]), rfl, rfl⟩
     ·
      replace h33 := of_decide_eq_false h33
      refine wx_off hok 2 rfl rfl rfl (freshS_eq rfl) rfl ?_
      refine wx_off hok 3 rfl rfl rfl (freshS_eq rfl) rfl ?_
      refine wx_off hok 4 rfl rfl rfl (freshS_eq rfl) rfl ?_
      refine wx_off hok 5 rfl rfl rfl (freshS_eq rfl) rfl ?_
      refine wx_off hok 6 rfl rfl rfl (freshS_eq rfl) rfl ?_
      refine wx_off hok 7 rfl rfl rfl (freshS_eq rfl) rfl ?_
      refine wx_off hok 8 rfl rfl rfl (freshS_eq rfl) rfl ?_
      refine wx_pure hok 9 rfl rfl rfl (freshS_eq rfl) rfl rfl ?_
      refine wx_pure hok 10 rfl rfl rfl (freshS_eq rfl) rfl rfl ?_
      refine wx_off hok 11 rfl rfl rfl (freshS_eq rfl) rfl ?_
      refine wx_off hok 12 rfl rfl rfl (freshS_eq rfl) rfl ?_
      refine wx_off hok 13 rfl rfl rfl (freshS_eq rfl) rfl ?_
      refine wx_off hok 14 rfl rfl rfl (freshS_eq rfl) rfl ?_
      refine wx_off hok 15 rfl rfl rfl (freshS_eq rfl) rfl ?_
      refine wx_off hok 16 rfl rfl rfl (freshS_eq rfl) rfl ?_
      refine wx_off hok 17 rfl rfl rfl (freshS_eq rfl) rfl ?_
      refine wx_off hok 18 rfl rfl rfl (freshS_eq rfl) rfl ?_
      refine wx_off hok 19 rfl rfl rfl (freshS_eq rfl) rfl ?_
      refine wx_pure hok 20 rfl rfl rfl (freshS_eq rfl) rfl rfl ?_
      refine wx_step1 hok 21 rfl rfl rfl rfl ?_
      refine wl_pure (S' := [_,_,_,_,_,_,_,_,_,_,_,_,_,_,_,_,_,_,_,_,_,_,_,_,_,_,_,_,_,_,_,_]) rfl rfl rfl rfl rfl ?_
      refine wl_nil ?_
      refine we_x [] [] rfl rfl ?_
      refine wx_done hok rfl ?_
      refine we_then ?_
      refine wc_keep [6, 30, 24, 22, 21, 7, 5, 4, 3, 0, 1, 2] (S' := [_,_,_,_,_,_,_,_,_,_,_,_]) rfl ?_
      refine wc_ret ?_
      refine we_block_ret ?_
      refine we_then_ret ?_
      refine ret_one (Hr := [.own 4 1 bRep (.slice p1 m1 c1) h, .own 27 3 vRep (.slice p2 m2 c2) vs]) [3, 4] Try.results17 (res_tmp rfl) ?_ (fun _ _ hφ => ask [] rfl hφ) rfl rfl (.inl rfl)
      exact ⟨_, _, _, rfl, FitR.out3 (h := h) (vs := vs) h30 (by omega), rfl, rfl⟩
    ·
     replace h30 := ne_of_beq_false h30
     refine wc_seq ?_
     refine wc_region ?_
     refine wl_pure rfl rfl rfl (freshS_eq rfl) rfl ?_
     refine wl_pure rfl rfl rfl (freshS_eq rfl) rfl ?_
     refine wl_nil ?_
     refine we_then ?_
     refine wc_keep [53, 30, 24, 22, 21, 7, 6, 5, 4, 3, 0, 1, 2] (S' := [_,_,_,_,_,_,_,_,_,_,_,_,_]) rfl ?_
     refine wc_cond rfl (fun h53 => ?_) (fun h53 => ?_)
     ·
      replace h53 := eq_of_beq h53
      refine wc_seq ?_
      refine wc_seq ?_
      refine wc_region ?_
      refine wl_pure rfl rfl rfl (freshS_eq rfl) rfl ?_
      refine wl_nil ?_
      refine we_then ?_
      refine wc_cond rfl (fun h55 => ?_) (fun h55 => ?_)
      ·
       replace h55 := of_decide_eq_true h55
       refine wc_draw [0, 1, 2, 3, 4, 5, 6, 7, 8, 9, 10, 11, 13] rfl rfl (fun hok => ?_)
       refine wx_fieldAddr hok 0 rfl rfl rfl (freshS_eq rfl) rfl rfl rfl tF_62_0 ?_
       refine wx_fieldAddr hok 1 rfl rfl rfl (freshS_eq rfl) rfl rfl rfl tF_41_0 ?_
       refine wx_loadH hok 2 2 0 rfl rfl rfl (freshS_eq rfl) rfl rfl rfl rfl (cs := [_]) rfl tS_37 tA_37 rfl rfl ?_
       refine wx_fieldAddr hok 3 rfl rfl rfl (freshS_eq rfl) rfl rfl rfl tF_48_1 ?_
       refine wx_loadH hok 4 1 1 rfl rfl rfl (freshS_eq rfl) rfl rfl rfl rfl (cs := [_]) rfl tS_3 tA_3 rfl rfl ?_
       refine wx_fieldAddr hok 5 rfl rfl rfl (freshS_eq rfl) rfl rfl rfl tF_62_0 ?_
       refine wx_fieldAddr hok 6 rfl rfl rfl (freshS_eq rfl) rfl rfl rfl tF_41_1 ?_
       refine wx_loadH hok 7 2 1 rfl rfl rfl (freshS_eq rfl) rfl rfl rfl rfl (cs := [_]) rfl tS_34 tA_34 rfl rfl ?_
       refine wx_fieldAddr hok 8 rfl rfl rfl (freshS_eq rfl) rfl rfl rfl tF_48_1 ?_
       refine wx_loadH hok 9 1 1 rfl rfl rfl (freshS_eq rfl) rfl rfl rfl rfl (cs := [_]) rfl tS_3 tA_3 rfl rfl ?_
       refine wx_loadH hok 10 0 0 rfl rfl rfl (freshS_eq rfl) rfl rfl rfl rfl (cs := [_,_,_]) rfl tS_27 tA_27 rfl rfl ?_
       refine wx_indexH hok 11 3 a.var.toNat rfl rfl rfl (freshS_eq rfl) rfl rfl rfl rfl rfl (by omega) (by omega) tE_37 tS_4 (fun g67 eg67 => ?_)
       subst eg67
       obtain ⟨y67, hy67⟩ : ∃ y, h[a.var.toNat]? = some y := ⟨_, List.getElem?_eq_getElem (by omega)⟩
       refine wx_step1 hok 12 rfl rfl rfl rfl ?_
       refine wl_storeRow (u := true) 3 a.var.toNat rfl rfl rfl rfl rfl (by omega) rfl rfl tS_4 rfl (fun F w hφ => rfl) (H' := [.blk g5 [.int .u8 (x.k), .int .i64 (x.n), .string x.s] 27, .blk g4 [.int .u8 (a.k), .int .i64 (a.var), .int .u8 (a.v.k), .int .i64 (a.v.n), .string a.v.s] 48, .blk g3 [.slice (some ⟨g67, 0, none⟩) m1 c1, .slice p2 m2 c2] 62, .own 4 1 bRep (.slice (some ⟨g67, 0, none⟩) m1 c1) (h.set a.var.toNat true), .own 27 3 vRep (.slice p2 m2 c2) vs]) rfl ?_
       refine wl_nil ?_
       refine we_x [] [0, 1, 2] rfl rfl ?_
       refine wx_indexH hok 13 4 a.var.toNat rfl rfl rfl (freshS_eq rfl) rfl rfl rfl rfl rfl (by omega) (by omega) tE_34 tS_27 (fun g68 eg68 => ?_)
       subst eg68
       obtain ⟨y68, hy68⟩ : ∃ y, vs[a.var.toNat]? = some y := ⟨_, List.getElem?_eq_getElem (by omega)⟩
       refine wx_step1 hok 14 rfl rfl rfl rfl ?_
       refine wl_storeRow (u := x) 4 a.var.toNat rfl rfl rfl rfl rfl (by omega) rfl rfl tS_27 rfl (fun F w hφ => ⟨rfl, by first | assumption | (simp [V.ok, ArgD.ok, FactD.ok, inB, inI]) | (unfold V.ok inB inI; simp; omega)⟩) (H' := [.blk g5 [.int .u8 (x.k), .int .i64 (x.n), .string x.s] 27, .blk g4 [.int .u8 (a.k), .int .i64 (a.var), .int .u8 (a.v.k), .int .i64 (a.v.n), .string a.v.s] 48, .blk g3 [.slice (some ⟨g67, 0, none⟩) m1 c1, .slice (some ⟨g68, 0, none⟩) m2 c2] 62, .own 4 1 bRep (.slice (some ⟨g67, 0, none⟩) m1 c1) (h.set a.var.toNat true), .own 27 3 vRep (.slice (some ⟨g68, 0, none⟩) m2 c2) (vs.set a.var.toNat x)]) rfl ?_
       refine wl_nil ?_
       refine we_x [] [] rfl rfl ?_
       refine wx_done hok rfl ?_
       refine we_then ?_
       refine wc_keep [55, 53, 30, 24, 22, 21, 7, 6, 5, 4, 3, 0, 1, 2] (S' := [_,_,_,_,_,_,_,_,_,_,_,_,_,_]) rfl ?_
       refine wc_seq ?_
       refine wc_region ?_
       refine wl_pure rfl rfl rfl (freshS_eq rfl) rfl ?_
       refine wl_pure (S' := [_,_,_,_,_,_,_,_,_,_,_,_,_,_]) rfl rfl rfl rfl rfl ?_
       refine wl_nil ?_
       refine we_then ?_
       refine wc_keep [6, 55, 53, 30, 24, 22, 21, 7, 5, 4, 3, 0, 1, 2] (S' := [_,_,_,_,_,_,_,_,_,_,_,_,_,_]) rfl ?_
       refine wc_ret ?_
       refine we_block_ret ?_
       refine we_then_ret ?_
       refine ret_one (Hr := [.own 4 1 bRep (.slice (some ⟨g67, 0, none⟩) m1 c1) (h.set a.var.toNat true), .own 27 3 vRep (.slice (some ⟨g68, 0, none⟩) m2 c2) (vs.set a.var.toNat x)]) [3, 4] Try.results17 (res_tmp rfl) ?_ (fun _ _ hφ => ask [] rfl hφ) rfl rfl (.inl rfl)
       exact ⟨_, _, _, rfl, by rw [decide_eq_true h55]; exact FitR.bind (h := h) (vs := vs) h53 (by omega), rfl, rfl⟩
      ·
       replace h55 := of_decide_eq_false h55
       refine wc_skip ?_
       refine we_then ?_
       refine wc_seq ?_
       refine wc_region ?_
       refine wl_pure rfl rfl rfl (freshS_eq rfl) rfl ?_
       refine wl_pure (S' := [_,_,_,_,_,_,_,_,_,_,_,_,_,_]) rfl rfl rfl rfl rfl ?_
       refine wl_nil ?_
       refine we_then ?_
       refine wc_keep [6, 55, 53, 30, 24, 22, 21, 7, 5, 4, 3, 0, 1, 2] (S' := [_,_,_,_,_,_,_,_,_,_,_,_,_,_]) rfl ?_
       refine wc_ret ?_
       refine we_block_ret ?_
       refine we_then_ret ?_
       refine ret_one (Hr := [.own 4 1 bRep (.slice p1 m1 c1) h, .own 27 3 vRep (.slice p2 m2 c2) vs]) [3, 4] Try.results17 (res_tmp rfl) ?_ (fun _ _ hφ => ask [] rfl hφ) rfl rfl (.inl rfl)
       exact ⟨_, _, _, rfl, by rw [decide_eq_false h55]; exact FitR.out2 (h := h) (vs := vs) h53 (by omega), rfl, rfl⟩
     ·
      replace h53 := ne_of_beq_false h53
      refine wc_skip ?_
      refine we_block_normal ?_
      refine we_then ?_
      refine wc_seq ?_
      refine wc_region ?_
      refine wl_pure (S' := [_,_,_,_,_,_,_,_,_,_,_,_]) rfl rfl rfl rfl rfl ?_
      refine wl_nil ?_
      refine we_then ?_
      refine wc_ret ?_
      refine ret_one (Hr := [.own 4 1 bRep (.slice p1 m1 c1) h, .own 27 3 vRep (.slice p2 m2 c2) vs]) [3, 4] Try.results17 (res_tmp rfl) ?_ (fun _ _ hφ => ask [] rfl hφ) rfl rfl (.inl rfl)
      exact ⟨_, _, _, rfl, FitR.none_ (h := h) (vs := vs) h22 h53 h30 h24, rfl, rfl⟩
 ·
  replace h11 := of_decide_eq_false h11
  refine wl_off rfl rfl rfl (freshS_eq rfl) ?_
  refine wl_off rfl rfl rfl (freshS_eq rfl) ?_
  refine wl_off rfl rfl rfl (freshS_eq rfl) ?_
  refine wl_off rfl rfl rfl (freshS_eq rfl) ?_
  refine wl_off rfl rfl rfl (freshS_eq rfl) ?_
  refine wl_off rfl rfl rfl (freshS_eq rfl) ?_
  refine wl_off rfl rfl rfl (freshS_eq rfl) ?_
  refine wl_pure rfl rfl rfl (freshS_eq rfl) rfl ?_
  refine wl_pure rfl rfl rfl (freshS_eq rfl) rfl ?_
  refine wl_nil ?_
  refine we_then ?_
  refine wc_keep [7, 6, 5, 4, 3, 0, 1, 2] (S' := [_,_,_,_,_,_,_,_]) rfl ?_
  refine wc_seq ?_
  refine wc_seq ?_
  refine wc_region ?_
  refine wl_fieldAddr rfl rfl rfl (freshS_eq rfl) rfl rfl tF_48_0 ?_
  refine wl_loadH 1 0 rfl rfl rfl (freshS_eq rfl) rfl rfl rfl (cs := [_]) rfl tS_46 tA_46 rfl rfl ?_
  refine wl_nil ?_
  refine we_then ?_
  refine wc_keep [21, 7, 6, 5, 4, 3, 0, 1, 2] (S' := [_,_,_,_,_,_,_,_,_]) rfl ?_
  refine wc_block ?_
  refine wc_seq ?_
  refine wc_region ?_
  refine wl_pure rfl rfl rfl (freshS_eq rfl) rfl ?_
  refine wl_pure rfl rfl rfl (freshS_eq rfl) rfl ?_
  refine wl_nil ?_
  refine we_then ?_
  refine wc_keep [22, 21, 7, 6, 5, 4, 3, 0, 1, 2] (S' := [_,_,_,_,_,_,_,_,_,_]) rfl ?_
  refine wc_cond rfl (fun h22 => ?_) (fun h22 => ?_)
  ·
   replace h22 := eq_of_beq h22
   refine wc_seq ?_
   refine wc_region ?_
   refine wl_pure (S' := [_,_,_,_,_,_,_,_,_]) rfl rfl rfl rfl rfl ?_
   refine wl_nil ?_
   refine we_then ?_
   refine wc_ret ?_
   refine we_block_ret ?_
   refine we_then_ret ?_
   refine ret_one (Hr := [.own 4 1 bRep (.slice p1 m1 c1) h, .own 27 3 vRep (.slice p2 m2 c2) vs]) [3, 4] Try.results17 (res_tmp rfl) ?_ (fun _ _ hφ => ask [] rfl hφ) rfl rfl (.inl rfl)
   exact ⟨_, _, _, rfl, FitR.any (h := h) (vs := vs) h22, rfl, rfl⟩
  ·
   replace h22 := ne_of_beq_false h22
   refine wc_seq ?_
   refine wc_region ?_
   refine wl_pure rfl rfl rfl (freshS_eq rfl) rfl ?_
   refine wl_pure rfl rfl rfl (freshS_eq rfl) rfl ?_
   refine wl_nil ?_
   refine we_then ?_
   refine wc_keep [24, 22, 21, 7, 6, 5, 4, 3, 0, 1, 2] (S' := [_,_,_,_,_,_,_,_,_,_,_]) rfl ?_
   refine wc_cond rfl (fun h24 => ?_) (fun h24 => ?_)
   ·
    replace h24 := eq_of_beq h24
    refine wc_seq ?_
    refine wc_region ?_
    refine wl_fieldAddr rfl rfl rfl (freshS_eq rfl) rfl rfl tF_48_2 ?_
    refine wl_loadH 1 2 rfl rfl rfl (freshS_eq rfl) rfl rfl rfl (cs := [_,_,_]) rfl tS_27 tA_27 rfl rfl ?_
    refine wl_loadH 0 0 rfl rfl rfl (freshS_eq rfl) rfl rfl rfl (cs := [_,_,_]) rfl tS_27 tA_27 rfl rfl ?_
    refine wl_bin rfl rfl rfl (freshS_eq rfl) rfl rfl rfl (eqlV _ _ a.v x) ?_
    refine wl_pure (S' := [_,_,_,_,_,_,_,_,_,_,_,_,_,_]) rfl rfl rfl rfl rfl ?_
    refine wl_nil ?_
    refine we_then ?_
    refine wc_keep [6, 24, 22, 21, 7, 5, 4, 3, 0, 1, 2] (S' := [_,_,_,_,_,_,_,_,_,_,_]) rfl ?_
    refine wc_ret ?_
    refine we_block_ret ?_
    refine we_then_ret ?_
    refine ret_one (Hr := [.own 4 1 bRep (.slice p1 m1 c1) h, .own 27 3 vRep (.slice p2 m2 c2) vs]) [3, 4] Try.results17 (res_tmp rfl) ?_ (fun _ _ hφ => ask [] rfl hφ) rfl rfl (.inl rfl)
    exact ⟨_, _, _, rfl, FitR.const (h := h) (vs := vs) h24, rfl, rfl⟩
   ·
    replace h24 := ne_of_beq_false h24
    refine wc_seq ?_
    refine wc_region ?_
    refine wl_pure rfl rfl rfl (freshS_eq rfl) rfl ?_
    refine wl_pure rfl rfl rfl (freshS_eq rfl) rfl ?_
    refine wl_nil ?_
    refine we_then ?_
    refine wc_keep [30, 24, 22, 21, 7, 6, 5, 4, 3, 0, 1, 2] (S' := [_,_,_,_,_,_,_,_,_,_,_,_]) rfl ?_
    refine wc_cond rfl (fun h30 => ?_) (fun h30 => ?_)
    ·
     replace h30 := eq_of_beq h30
     refine wc_seq ?_
     refine wc_draw [0, 1, 2, 3, 4, 5, 6, 7, 8, 9, 10, 11, 12, 13, 14, 15, 16, 17, 18, 19, 20] rfl rfl (fun hok => ?_)
     refine wx_pure hok 0 rfl rfl rfl (freshS_eq rfl) rfl rfl ?_
     refine wx_pure hok 1 rfl rfl rfl (freshS_eq rfl) rfl rfl ?_
     refine wx_off hok 2 rfl rfl rfl (freshS_eq rfl) rfl ?_
     refine wx_off hok 3 rfl rfl rfl (freshS_eq rfl) rfl ?_
     refine wx_off hok 4 rfl rfl rfl (freshS_eq rfl) rfl ?_
     refine wx_off hok 5 rfl rfl rfl (freshS_eq rfl) rfl ?_
     refine wx_off hok 6 rfl rfl rfl (freshS_eq rfl) rfl ?_
     refine wx_off hok 7 rfl rfl rfl (freshS_eq rfl) rfl ?_
     refine wx_off hok 8 rfl rfl rfl (freshS_eq rfl) rfl ?_
     refine wx_pure hok 9 rfl rfl rfl (freshS_eq rfl) rfl rfl ?_
     refine wx_pure hok 10 rfl rfl rfl (freshS_eq rfl) rfl rfl ?_
     refine wx_off hok 11 rfl rfl rfl (freshS_eq rfl) rfl ?_
     refine wx_off hok 12 rfl rfl rfl (freshS_eq rfl) rfl ?_
     refine wx_off hok 13 rfl rfl rfl (freshS_eq rfl) rfl ?_
     refine wx_off hok 14 rfl rfl rfl (freshS_eq rfl) rfl ?_
     refine wx_off hok 15 rfl rfl rfl (freshS_eq rfl) rfl ?_
     refine wx_off hok 16 rfl rfl rfl (freshS_eq rfl) rfl ?_
     refine wx_off hok 17 rfl rfl rfl (freshS_eq rfl) rfl ?_
     refine wx_off hok 18 rfl rfl rfl (freshS_eq rfl) rfl ?_
     refine wx_off hok 19 rfl rfl rfl (freshS_eq rfl) rfl ?_
     refine wx_pure hok 20 rfl rfl rfl (freshS_eq rfl) rfl rfl ?_
     refine wx_step1 hok 21 rfl rfl rfl rfl ?_
     refine wl_pure (S' := [_,_,_,_,_,_,_,_,_,_,_,_,_,_,_,_,_,_,_,_,_,_,_,_,_,_,_,_,_,_,_,_]) rfl rfl rfl rfl rfl ?_
     refine wl_nil ?_
     refine we_x [] [] rfl rfl ?_
     refine wx_done hok rfl ?_
     refine we_then ?_
     refine wc_keep [6, 30, 24, 22, 21, 7, 5, 4, 3, 0, 1, 2] (S' := [_,_,_,_,_,_,_,_,_,_,_,_]) rfl ?_
     refine wc_ret ?_
     refine we_block_ret ?_
     refine we_then_ret ?_
     refine ret_one (Hr := [.own 4 1 bRep (.slice p1 m1 c1) h, .own 27 3 vRep (.slice p2 m2 c2) vs]) [3, 4] Try.results17 (res_tmp rfl) ?_ (fun _ _ hφ => ask [] rfl hφ) rfl rfl (.inl rfl)
     exact ⟨_, _, _, rfl, FitR.out3 (h := h) (vs := vs) h30 (by omega), rfl, rfl⟩
    ·
     replace h30 := ne_of_beq_false h30
     refine wc_seq ?_
     refine wc_region ?_
     refine wl_pure rfl rfl rfl (freshS_eq rfl) rfl ?_
     refine wl_pure rfl rfl rfl (freshS_eq rfl) rfl ?_
     refine wl_nil ?_
     refine we_then ?_
     refine wc_keep [53, 30, 24, 22, 21, 7, 6, 5, 4, 3, 0, 1, 2] (S' := [_,_,_,_,_,_,_,_,_,_,_,_,_]) rfl ?_
     refine wc_cond rfl (fun h53 => ?_) (fun h53 => ?_)
     ·
      replace h53 := eq_of_beq h53
      refine wc_seq ?_
      refine wc_seq ?_
      refine wc_region ?_
      refine wl_pure rfl rfl rfl (freshS_eq rfl) rfl ?_
      refine wl_nil ?_
      refine we_then ?_
      refine wc_false rfl ?_
      refine wc_skip ?_
      refine we_then ?_
      refine wc_seq ?_
      refine wc_region ?_
      refine wl_pure rfl rfl rfl (freshS_eq rfl) rfl ?_
      refine wl_pure (S' := [_,_,_,_,_,_,_,_,_,_,_,_,_,_]) rfl rfl rfl rfl rfl ?_
      refine wl_nil ?_
      refine we_then ?_
      refine wc_keep [6, 55, 53, 30, 24, 22, 21, 7, 5, 4, 3, 0, 1, 2] (S' := [_,_,_,_,_,_,_,_,_,_,_,_,_,_]) rfl ?_
      refine wc_ret ?_
      refine we_block_ret ?_
      refine we_then_ret ?_
      refine ret_one (Hr := [.own 4 1 bRep (.slice p1 m1 c1) h, .own 27 3 vRep (.slice p2 m2 c2) vs]) [3, 4] Try.results17 (res_tmp rfl) ?_ (fun _ _ hφ => ask [] rfl hφ) rfl rfl (.inl rfl)
      exact ⟨_, _, _, rfl, FitR.out2 (h := h) (vs := vs) h53 (by omega), rfl, rfl⟩
     ·
      replace h53 := ne_of_beq_false h53
      refine wc_skip ?_
      refine we_block_normal ?_
      refine we_then ?_
      refine wc_seq ?_
      refine wc_region ?_
      refine wl_pure (S' := [_,_,_,_,_,_,_,_,_,_,_,_]) rfl rfl rfl rfl rfl ?_
      refine wl_nil ?_
      refine we_then ?_
      refine wc_ret ?_
      refine ret_one (Hr := [.own 4 1 bRep (.slice p1 m1 c1) h, .own 27 3 vRep (.slice p2 m2 c2) vs]) [3, 4] Try.results17 (res_tmp rfl) ?_ (fun _ _ hφ => ask [] rfl hφ) rfl rfl (.inl rfl)
      exact ⟨_, _, _, rfl, FitR.none_ (h := h) (vs := vs) h22 h53 h30 h24, rfl, rfl⟩

end Go.Proofs.Ytffcijddfhhbdaa
