import Derived.Test.YtkakbckmajdggaaXW4
namespace Go.Proofs.Ytkakbckmajdggaa
open Go.RowKit
set_option maxRecDepth 100000
set_option maxHeartbeats 4000000
theorem w_ropewalklaw17_large_s (N : Nat)  (o0 : Bool) (hm : m_ropewalklaw17_large N = some o0) : Spec Try.prog 34 [] [] [] (fun v Φr Hr => v = .bool o0 ∧ Φr = [] ∧ Hr = []) := by
 unfold m_ropewalklaw17_large at hm
 refine spec_of Try.func34 rfl Try.ntmps34 rfl (S := []) rfl (fun C => (wc_seq (wc_region (wP rfl (wl_nil (we_then (wc_keep [] (S' := []) rfl (wc_seq (wc_region ?_)))))))))
 obtain ⟨_, hc8, hm⟩ := bindO_some hm
 try dsimp only at hm
 refine wC [] [] rfl fn_10 rfl (w_disk_New_s N 1099511627776 hc8) (asK [] rfl) rfl (H' := []) rfl ?_
 rintro _ _ _ ⟨c8_0, c8_1, rfl, rfl, rfl⟩
 refine wP rfl (wl_nil (we_then (wc_keep [1] (S' := [_]) rfl (wc_seq (wc_region ?_)))))
 obtain ⟨hg9, hm⟩ := gd_some hm
 refine wl_makeSlice (m := 4194304) R_u8 0 rfl rfl rfl (freshS_eq rfl) rfl rfl rfl rfl rfl tE_27 tR_5 rfl rfl (fun _ _ => ⟨(), rfl, ask_nil⟩) (Nat.le_trans (Nat.mul_le_mul_left _ hg9) (by decide)) (Nat.le_trans hg9 (by decide)) (fun g9 => ?_)
 obtain ⟨lz9, hlz9, hm⟩ := bindO_some hm
 refine wl_hAs 0 (φ' := .own 5 1 R_u8 (.slice (some ⟨g9,0, none⟩) 4194304 4194304) lz9) rfl (by rw [Option.some.inj hlz9]) (H' := [_,_,_]) rfl (wP rfl (wl_nil (we_then (wc_keep [2,1] (S' := [_,_]) rfl (wc_seq ?_)))))
 obtain ⟨hg13, hm⟩ := gd_some hm
 obtain ⟨⟨v14_0, v14_1⟩, hc14, hm⟩ := bindO_some hm
 try dsimp only at hm
 obtain ⟨⟨v17_0, v17_1⟩, hc17, hm⟩ := bindO_some hm
 try dsimp only at hm
 obtain ⟨hg20, hm⟩ := gd_some hm
 obtain ⟨⟨v21_0, v21_1⟩, hc21, hm⟩ := bindO_some hm
 try dsimp only at hm
 obtain ⟨⟨v23_0, v23_1⟩, hc23, hm⟩ := bindO_some hm
 try dsimp only at hm
 obtain ⟨hg26, hm⟩ := gd_some hm
 obtain ⟨⟨v27_0, v27_1⟩, hc27, hm⟩ := bindO_some hm
 try dsimp only at hm
 refine wc_cut (σ := Nat) (fun _ => True) (fun w_1_3_g => [(3, .slice (some ⟨w_1_3_g, 0, none⟩) 5 5), (1, .pointer (some ⟨c8_0,0, none⟩))]) (fun w_1_3_g => []) (fun w_1_3_g => [.blk w_1_3_g [.int .i64 v14_0, .int .i64 v17_0, .int .i64 v21_0, .int .i64 v23_0, .int .i64 v27_0] 28, .blk c8_0 [.int .i64 (maxI 1099511627776 0), .map (some c8_1)] 59, mapP (keyStr (tStr_run tT_9)) true R_Disk_rowsD c8_1 v27_1]) ?_ ?_
 ·
  refine wc_draw [0,1,5,6,8,9,12,14,15] rfl rfl (fun hok => (xP hok 0 rfl (xP hok 1 rfl (xP hok 5 rfl (xP hok 6 rfl (xP hok 8 rfl (xP hok 9 rfl (xP hok 12 rfl (xP hok 14 rfl (xP hok 15 rfl ?_))))))))))
  refine wx_step3 hok 2 10 16 rfl rfl rfl rfl rfl rfl rfl rfl ?_ ?_ ?_
  ·
   refine wl_buildSlice rfl rfl rfl (freshS_eq rfl) rfl tE_27 tS_5 tZ_5 rfl (zs := [.int .u8 0]) (by kernel_rfl) rfl (out := [_]) rfl (fun g12 => (wl_nil (we_x [] [] rfl rfl ?_)))
   refine wx_step3 hok 3 10 16 rfl rfl rfl rfl rfl rfl rfl rfl ?_ ?_ ?_
   ·
    refine wl_appendN [0] 1 0 rfl rfl rfl (freshS_eq rfl) rfl rfl rfl rfl rfl (fun F w hφ => ⟨[.int .u8 0],[], rfl, rfl, ⟨(), rfl, ask_nil⟩, rfl⟩) (by decide) tE_27 tR_5 rfl rfl (Nat.le_trans hg13 (by decide)) (Nat.le_trans (Nat.mul_le_mul_right _ hg13) (by decide)) (fun p13 c13 => (wl_drop 1 rfl (H' := [_,_,_,_]) rfl (wl_nil (we_x [] [] rfl rfl ?_))))
    refine wx_step3 hok 4 10 16 rfl rfl rfl rfl rfl rfl rfl rfl ?_ ?_ ?_
    ·
     refine wl_freeze 0 rfl (H' := [_,_,_]) rfl (wl_fact (.sli 1 R_u8 p13 c13 (lz9 ++ [0])) (fun F w hφ => own_sli (hφ _ (mem_at (k := 0) rfl))) (wC [1,2] [0] rfl fn_11 rfl (w_disk_Disk_Append_s N c8_0 (maxI 1099511627776 0) c8_1 ([] : List (ByteArray × Disk_rowsD)) (⟨#[97]⟩ : ByteArray) p13 c13 (lz9 ++ [0]) _ _ hc14) (asK [0] rfl) rfl (H' := [_]) rfl ?_))
     rintro _ _ _ ⟨rfl, rfl, rfl⟩
     refine wl_nil (we_x [] [] rfl rfl ?_)
     refine wx_step3 hok 7 10 16 rfl rfl rfl rfl rfl rfl rfl rfl ?_ ?_ ?_
     ·
      refine wl_ownLen 2 rfl (fun hz4 _ => (wl_at 3 (v' := .slice (some ⟨g9,0, none⟩) lz9.length 4194304) rfl (by rw [hz4]) (wl_at 6 (v' := .slice (some ⟨g9,0, none⟩) lz9.length 4194304) rfl (by rw [hz4]) (wl_at 8 (v' := .slice (some ⟨g9,0, none⟩) lz9.length 4194304) rfl (by rw [hz4]) (wl_at 10 (v' := .slice (some ⟨g9,0, none⟩) lz9.length 4194304) rfl (by rw [hz4]) (wl_at 12 (v' := .slice (some ⟨g9,0, none⟩) lz9.length 4194304) rfl (by rw [hz4]) (wl_hAs 2 (φ' := .own 5 1 R_u8 (.slice (some ⟨g9,0, none⟩) lz9.length 4194304) lz9) rfl (by rw [hz4]) (H' := [_,_,_]) rfl (wl_freeze 2 rfl (H' := [_,_]) rfl (wl_fact (.sli 1 R_u8 (some ⟨g9,0, none⟩) 4194304 lz9) (fun F w hφ => own_sli (hφ _ (mem_at (k := 0) rfl))) (wC [0,1] [] rfl fn_11 rfl (w_disk_Disk_Append_s N c8_0 (maxI 1099511627776 0) c8_1 v14_1 (⟨#[97]⟩ : ByteArray) (some ⟨g9,0, none⟩) 4194304 lz9 _ _ hc17) (asK [0] rfl) rfl (H' := []) rfl ?_))))))))))
      rintro _ _ _ ⟨rfl, rfl, rfl⟩
      refine wl_nil (we_x [2,3] [] rfl rfl ?_)
      refine wx_step2 hok 10 16 rfl rfl rfl rfl rfl rfl ?_ ?_
      ·
       refine wl_sliTo 0 rfl rfl rfl (freshS_eq rfl) rfl rfl rfl rfl rfl tE_27 tS_5 hg20 (fun p20 => (wl_nil (we_x [1,2,3,4] [] rfl rfl ?_)))
       refine wx_step2 hok 11 16 rfl rfl rfl rfl rfl rfl ?_ ?_
       ·
        refine wC [0,1] [] rfl fn_11 rfl (w_disk_Disk_Append_s N c8_0 (maxI 1099511627776 0) c8_1 v17_1 (⟨#[97]⟩ : ByteArray) p20 4194304 (lz9.take 1) _ _ hc21) (asK [0] rfl) rfl (H' := []) rfl ?_
        rintro _ _ _ ⟨rfl, rfl, rfl⟩
        refine wl_nil (we_x [0,1,2,3,4] [] rfl rfl ?_)
        refine wx_step2 hok 13 16 rfl rfl rfl rfl rfl rfl ?_ ?_
        ·
         refine wl_fact (.sli 1 R_u8 none 0 ([] : List Int)) (fun _ _ _ => sli_none) (wC [0,1] [] rfl fn_11 rfl (w_disk_Disk_Append_s N c8_0 (maxI 1099511627776 0) c8_1 v21_1 (⟨#[97]⟩ : ByteArray) none 0 ([] : List Int) _ _ hc23) (asK [0] rfl) rfl (H' := []) rfl ?_)
         rintro _ _ _ ⟨rfl, rfl, rfl⟩
         refine wl_nil (we_x [1,2,3,4,5] [] rfl rfl (xS hok 16 rfl (wl_sliTo 2 rfl rfl rfl (freshS_eq rfl) rfl rfl rfl rfl rfl tE_27 tS_5 hg26 (fun p26 => (wl_nil (we_x [1,2,3,4,5,6] [] rfl rfl (xS hok 17 rfl (wC [0,1] [] rfl fn_11 rfl (w_disk_Disk_Append_s N c8_0 (maxI 1099511627776 0) c8_1 v23_1 (⟨#[98]⟩ : ByteArray) p26 4194304 (lz9.take 1) _ _ hc27) (asK [0] rfl) rfl (H' := []) rfl ?_))))))))
         rintro _ _ _ ⟨rfl, rfl, rfl⟩
         refine wl_nil (we_x [0,1,2,3,4,5,6] [] rfl rfl (xS hok 18 rfl (wl_buildSlice rfl rfl rfl (freshS_eq rfl) rfl tE_66 tS_28 tZ_28 rfl (zs := [.int .i64 0, .int .i64 0, .int .i64 0, .int .i64 0, .int .i64 0]) (by kernel_rfl) rfl (out := [_,_,_,_,_]) rfl (fun g28 => (wl_nil (we_x [0,1,2,3,4,5,6] [] rfl rfl (xS hok 19 rfl (wP rfl (wl_nil (we_x [0,1,2,3,4,5,6] [] rfl rfl (wx_done hok rfl ?_)))))))))))
         refine we_join g28 trivial [3,1] rfl (asK [] rfl) rfl
        ·
         refine wl_sliTo 1 rfl rfl rfl (freshS_eq rfl) rfl rfl rfl rfl rfl tE_27 tS_5 hg26 (fun p26 => (wl_nil (we_x [1,2,3,4,5] [] rfl rfl (xS hok 13 rfl (wl_fact (.sli 1 R_u8 none 0 ([] : List Int)) (fun _ _ _ => sli_none) (wC [0,1] [] rfl fn_11 rfl (w_disk_Disk_Append_s N c8_0 (maxI 1099511627776 0) c8_1 v21_1 (⟨#[97]⟩ : ByteArray) none 0 ([] : List Int) _ _ hc23) (asK [0] rfl) rfl (H' := []) rfl ?_))))))
         rintro _ _ _ ⟨rfl, rfl, rfl⟩
         refine wl_nil (we_x [1,2,3,4,5,6] [] rfl rfl (xS hok 17 rfl (wC [0,1] [] rfl fn_11 rfl (w_disk_Disk_Append_s N c8_0 (maxI 1099511627776 0) c8_1 v23_1 (⟨#[98]⟩ : ByteArray) p26 4194304 (lz9.take 1) _ _ hc27) (asK [1] rfl) rfl (H' := []) rfl ?_)))
         rintro _ _ _ ⟨rfl, rfl, rfl⟩
         refine wl_nil (we_x [0,1,2,3,4,5,6] [] rfl rfl (xS hok 18 rfl (wl_buildSlice rfl rfl rfl (freshS_eq rfl) rfl tE_66 tS_28 tZ_28 rfl (zs := [.int .i64 0, .int .i64 0, .int .i64 0, .int .i64 0, .int .i64 0]) (by kernel_rfl) rfl (out := [_,_,_,_,_]) rfl (fun g28 => (wl_nil (we_x [0,1,2,3,4,5,6] [] rfl rfl (xS hok 19 rfl (wP rfl (wl_nil (we_x [0,1,2,3,4,5,6] [] rfl rfl (wx_done hok rfl ?_)))))))))))
         refine we_join g28 trivial [3,1] rfl (asK [] rfl) rfl
       ·
        refine wl_sliTo 1 rfl rfl rfl (freshS_eq rfl) rfl rfl rfl rfl rfl tE_27 tS_5 hg26 (fun p26 => (wl_nil (we_x [1,2,3,4,5] [] rfl rfl (xS hok 11 rfl (wC [0,1] [] rfl fn_11 rfl (w_disk_Disk_Append_s N c8_0 (maxI 1099511627776 0) c8_1 v17_1 (⟨#[97]⟩ : ByteArray) p20 4194304 (lz9.take 1) _ _ hc21) (asK [1] rfl) rfl (H' := []) rfl ?_)))))
        rintro _ _ _ ⟨rfl, rfl, rfl⟩
        refine wl_nil (we_x [0,1,2,3,4,5] [] rfl rfl (xS hok 13 rfl (wl_fact (.sli 1 R_u8 none 0 ([] : List Int)) (fun _ _ _ => sli_none) (wC [0,1] [] rfl fn_11 rfl (w_disk_Disk_Append_s N c8_0 (maxI 1099511627776 0) c8_1 v21_1 (⟨#[97]⟩ : ByteArray) none 0 ([] : List Int) _ _ hc23) (asK [0] rfl) rfl (H' := []) rfl ?_))))
        rintro _ _ _ ⟨rfl, rfl, rfl⟩
        refine wl_nil (we_x [1,2,3,4,5,6] [] rfl rfl (xS hok 17 rfl (wC [0,1] [] rfl fn_11 rfl (w_disk_Disk_Append_s N c8_0 (maxI 1099511627776 0) c8_1 v23_1 (⟨#[98]⟩ : ByteArray) p26 4194304 (lz9.take 1) _ _ hc27) (asK [1] rfl) rfl (H' := []) rfl ?_)))
        rintro _ _ _ ⟨rfl, rfl, rfl⟩
        refine wl_nil (we_x [0,1,2,3,4,5,6] [] rfl rfl (xS hok 18 rfl (wl_buildSlice rfl rfl rfl (freshS_eq rfl) rfl tE_66 tS_28 tZ_28 rfl (zs := [.int .i64 0, .int .i64 0, .int .i64 0, .int .i64 0, .int .i64 0]) (by kernel_rfl) rfl (out := [_,_,_,_,_]) rfl (fun g28 => (wl_nil (we_x [0,1,2,3,4,5,6] [] rfl rfl (xS hok 19 rfl (wP rfl (wl_nil (we_x [0,1,2,3,4,5,6] [] rfl rfl (wx_done hok rfl ?_)))))))))))
        refine we_join g28 trivial [3,1] rfl (asK [] rfl) rfl
      ·
       refine wl_sliTo 0 rfl rfl rfl (freshS_eq rfl) rfl rfl rfl rfl rfl tE_27 tS_5 hg26 (fun p26 => (wl_nil (we_x [1,2,3,4] [] rfl rfl (xS hok 10 rfl (wl_sliTo 1 rfl rfl rfl (freshS_eq rfl) rfl rfl rfl rfl rfl tE_27 tS_5 hg20 (fun p20 => (wl_nil (we_x [1,2,3,4,5] [] rfl rfl (xS hok 11 rfl (wC [0,1] [] rfl fn_11 rfl (w_disk_Disk_Append_s N c8_0 (maxI 1099511627776 0) c8_1 v17_1 (⟨#[97]⟩ : ByteArray) p20 4194304 (lz9.take 1) _ _ hc21) (asK [0] rfl) rfl (H' := []) rfl ?_))))))))))
       rintro _ _ _ ⟨rfl, rfl, rfl⟩
       refine wl_nil (we_x [0,1,2,3,4,5] [] rfl rfl (xS hok 13 rfl (wl_fact (.sli 1 R_u8 none 0 ([] : List Int)) (fun _ _ _ => sli_none) (wC [0,1] [] rfl fn_11 rfl (w_disk_Disk_Append_s N c8_0 (maxI 1099511627776 0) c8_1 v21_1 (⟨#[97]⟩ : ByteArray) none 0 ([] : List Int) _ _ hc23) (asK [0] rfl) rfl (H' := []) rfl ?_))))
       rintro _ _ _ ⟨rfl, rfl, rfl⟩
       refine wl_nil (we_x [1,2,3,4,5,6] [] rfl rfl (xS hok 17 rfl (wC [0,1] [] rfl fn_11 rfl (w_disk_Disk_Append_s N c8_0 (maxI 1099511627776 0) c8_1 v23_1 (⟨#[98]⟩ : ByteArray) p26 4194304 (lz9.take 1) _ _ hc27) (asK [2] rfl) rfl (H' := []) rfl ?_)))
       rintro _ _ _ ⟨rfl, rfl, rfl⟩
       refine wl_nil (we_x [0,1,2,3,4,5,6] [] rfl rfl (xS hok 18 rfl (wl_buildSlice rfl rfl rfl (freshS_eq rfl) rfl tE_66 tS_28 tZ_28 rfl (zs := [.int .i64 0, .int .i64 0, .int .i64 0, .int .i64 0, .int .i64 0]) (by kernel_rfl) rfl (out := [_,_,_,_,_]) rfl (fun g28 => (wl_nil (we_x [0,1,2,3,4,5,6] [] rfl rfl (xS hok 19 rfl (wP rfl (wl_nil (we_x [0,1,2,3,4,5,6] [] rfl rfl (wx_done hok rfl ?_)))))))))))
       refine we_join g28 trivial [3,1] rfl (asK [] rfl) rfl
     ·
      refine wl_ownSpot 2 rfl (fun hsp20 hcm20 => (wl_sliceTo rfl rfl rfl (freshS_eq rfl) rfl rfl rfl rfl tE_27 tS_5 (Nat.le_trans hg20 (by rw [← hcm20.2]; exact hcm20.1)) hsp20 (wl_nil (we_x [0,1] [] rfl rfl ?_))))
      refine wx_step2 hok 7 16 rfl rfl rfl rfl rfl rfl ?_ ?_
      ·
       refine wl_ownLen 2 rfl (fun hz5 _ => (wl_at 4 (v' := .slice (some ⟨g9,0, none⟩) lz9.length 4194304) rfl (by rw [hz5]) (wl_at 7 (v' := .slice (some ⟨g9,0, none⟩) lz9.length 4194304) rfl (by rw [hz5]) (wl_at 9 (v' := .slice (some ⟨g9,0, none⟩) lz9.length 4194304) rfl (by rw [hz5]) (wl_at 11 (v' := .slice (some ⟨g9,0, none⟩) lz9.length 4194304) rfl (by rw [hz5]) (wl_at 13 (v' := .slice (some ⟨g9,0, none⟩) lz9.length 4194304) rfl (by rw [hz5]) (wl_hAs 2 (φ' := .own 5 1 R_u8 (.slice (some ⟨g9,0, none⟩) lz9.length 4194304) lz9) rfl (by rw [hz5]) (H' := [_,_,_]) rfl (wl_freeze 2 rfl (H' := [_,_]) rfl (wl_fact (.sli 1 R_u8 (some ⟨g9,0, none⟩) 4194304 lz9) (fun F w hφ => own_sli (hφ _ (mem_at (k := 0) rfl))) (wC [0,1] [] rfl fn_11 rfl (w_disk_Disk_Append_s N c8_0 (maxI 1099511627776 0) c8_1 v14_1 (⟨#[97]⟩ : ByteArray) (some ⟨g9,0, none⟩) 4194304 lz9 _ _ hc17) (asK [0] rfl) rfl (H' := []) rfl ?_))))))))))
       rintro _ _ _ ⟨rfl, rfl, rfl⟩
       refine wl_nil (we_x [2,3] [] rfl rfl ?_)
       refine wx_step2 hok 11 16 rfl rfl rfl rfl rfl rfl ?_ ?_
       ·
        refine wl_fact (.sli 1 R_u8 (some ⟨g9,0, none⟩) 4194304 (lz9.take 1)) (fun _ _ hφ => view_to (hφ _ (mem_at (k := 0) rfl)) 1) (wl_at 1 (v' := .slice (some ⟨g9,0, none⟩) ((lz9.take 1).length) 4194304) rfl (take_slice hg20) (wC [0,1] [] rfl fn_11 rfl (w_disk_Disk_Append_s N c8_0 (maxI 1099511627776 0) c8_1 v17_1 (⟨#[97]⟩ : ByteArray) (some ⟨g9,0, none⟩) 4194304 (lz9.take 1) _ _ hc21) (asK [0] rfl) rfl (H' := []) rfl ?_))
        rintro _ _ _ ⟨rfl, rfl, rfl⟩
        refine wl_nil (we_x [1,2,3,4] [] rfl rfl ?_)
        refine wx_step2 hok 13 16 rfl rfl rfl rfl rfl rfl ?_ ?_
        ·
         refine wl_fact (.sli 1 R_u8 none 0 ([] : List Int)) (fun _ _ _ => sli_none) (wC [0,1] [] rfl fn_11 rfl (w_disk_Disk_Append_s N c8_0 (maxI 1099511627776 0) c8_1 v21_1 (⟨#[97]⟩ : ByteArray) none 0 ([] : List Int) _ _ hc23) (asK [0] rfl) rfl (H' := []) rfl ?_)
         rintro _ _ _ ⟨rfl, rfl, rfl⟩
         refine wl_nil (we_x [1,2,3,4,5] [] rfl rfl (xS hok 16 rfl (wl_sliTo 2 rfl rfl rfl (freshS_eq rfl) rfl rfl rfl rfl rfl tE_27 tS_5 hg26 (fun p26 => (wl_nil (we_x [1,2,3,4,5,6] [] rfl rfl (xS hok 17 rfl (wC [0,1] [] rfl fn_11 rfl (w_disk_Disk_Append_s N c8_0 (maxI 1099511627776 0) c8_1 v23_1 (⟨#[98]⟩ : ByteArray) p26 4194304 (lz9.take 1) _ _ hc27) (asK [0] rfl) rfl (H' := []) rfl ?_))))))))
         rintro _ _ _ ⟨rfl, rfl, rfl⟩
         refine wl_nil (we_x [0,1,2,3,4,5,6] [] rfl rfl (xS hok 18 rfl (wl_buildSlice rfl rfl rfl (freshS_eq rfl) rfl tE_66 tS_28 tZ_28 rfl (zs := [.int .i64 0, .int .i64 0, .int .i64 0, .int .i64 0, .int .i64 0]) (by kernel_rfl) rfl (out := [_,_,_,_,_]) rfl (fun g28 => (wl_nil (we_x [0,1,2,3,4,5,6] [] rfl rfl (xS hok 19 rfl (wP rfl (wl_nil (we_x [0,1,2,3,4,5,6] [] rfl rfl (wx_done hok rfl ?_)))))))))))
         refine we_join g28 trivial [3,1] rfl (asK [] rfl) rfl
        ·
         refine wl_sliTo 1 rfl rfl rfl (freshS_eq rfl) rfl rfl rfl rfl rfl tE_27 tS_5 hg26 (fun p26 => (wl_nil (we_x [1,2,3,4,5] [] rfl rfl (xS hok 13 rfl (wl_fact (.sli 1 R_u8 none 0 ([] : List Int)) (fun _ _ _ => sli_none) (wC [0,1] [] rfl fn_11 rfl (w_disk_Disk_Append_s N c8_0 (maxI 1099511627776 0) c8_1 v21_1 (⟨#[97]⟩ : ByteArray) none 0 ([] : List Int) _ _ hc23) (asK [0] rfl) rfl (H' := []) rfl ?_))))))
         rintro _ _ _ ⟨rfl, rfl, rfl⟩
         refine wl_nil (we_x [1,2,3,4,5,6] [] rfl rfl (xS hok 17 rfl (wC [0,1] [] rfl fn_11 rfl (w_disk_Disk_Append_s N c8_0 (maxI 1099511627776 0) c8_1 v23_1 (⟨#[98]⟩ : ByteArray) p26 4194304 (lz9.take 1) _ _ hc27) (asK [1] rfl) rfl (H' := []) rfl ?_)))
         rintro _ _ _ ⟨rfl, rfl, rfl⟩
         refine wl_nil (we_x [0,1,2,3,4,5,6] [] rfl rfl (xS hok 18 rfl (wl_buildSlice rfl rfl rfl (freshS_eq rfl) rfl tE_66 tS_28 tZ_28 rfl (zs := [.int .i64 0, .int .i64 0, .int .i64 0, .int .i64 0, .int .i64 0]) (by kernel_rfl) rfl (out := [_,_,_,_,_]) rfl (fun g28 => (wl_nil (we_x [0,1,2,3,4,5,6] [] rfl rfl (xS hok 19 rfl (wP rfl (wl_nil (we_x [0,1,2,3,4,5,6] [] rfl rfl (wx_done hok rfl ?_)))))))))))
         refine we_join g28 trivial [3,1] rfl (asK [] rfl) rfl
       ·
        refine wl_sliTo 0 rfl rfl rfl (freshS_eq rfl) rfl rfl rfl rfl rfl tE_27 tS_5 hg26 (fun p26 => (wl_nil (we_x [1,2,3,4] [] rfl rfl (xS hok 11 rfl (wl_fact (.sli 1 R_u8 (some ⟨g9,0, none⟩) 4194304 (lz9.take 1)) (fun _ _ hφ => view_to (hφ _ (mem_at (k := 1) rfl)) 1) (wl_at 2 (v' := .slice (some ⟨g9,0, none⟩) ((lz9.take 1).length) 4194304) rfl (take_slice hg20) (wC [0,1] [] rfl fn_11 rfl (w_disk_Disk_Append_s N c8_0 (maxI 1099511627776 0) c8_1 v17_1 (⟨#[97]⟩ : ByteArray) (some ⟨g9,0, none⟩) 4194304 (lz9.take 1) _ _ hc21) (asK [0] rfl) rfl (H' := []) rfl ?_)))))))
        rintro _ _ _ ⟨rfl, rfl, rfl⟩
        refine wl_nil (we_x [1,2,3,4,5] [] rfl rfl (xS hok 13 rfl (wl_fact (.sli 1 R_u8 none 0 ([] : List Int)) (fun _ _ _ => sli_none) (wC [0,1] [] rfl fn_11 rfl (w_disk_Disk_Append_s N c8_0 (maxI 1099511627776 0) c8_1 v21_1 (⟨#[97]⟩ : ByteArray) none 0 ([] : List Int) _ _ hc23) (asK [0] rfl) rfl (H' := []) rfl ?_))))
        rintro _ _ _ ⟨rfl, rfl, rfl⟩
        refine wl_nil (we_x [1,2,3,4,5,6] [] rfl rfl (xS hok 17 rfl (wC [0,1] [] rfl fn_11 rfl (w_disk_Disk_Append_s N c8_0 (maxI 1099511627776 0) c8_1 v23_1 (⟨#[98]⟩ : ByteArray) p26 4194304 (lz9.take 1) _ _ hc27) (asK [2] rfl) rfl (H' := []) rfl ?_)))
        rintro _ _ _ ⟨rfl, rfl, rfl⟩
        refine wl_nil (we_x [0,1,2,3,4,5,6] [] rfl rfl (xS hok 18 rfl (wl_buildSlice rfl rfl rfl (freshS_eq rfl) rfl tE_66 tS_28 tZ_28 rfl (zs := [.int .i64 0, .int .i64 0, .int .i64 0, .int .i64 0, .int .i64 0]) (by kernel_rfl) rfl (out := [_,_,_,_,_]) rfl (fun g28 => (wl_nil (we_x [0,1,2,3,4,5,6] [] rfl rfl (xS hok 19 rfl (wP rfl (wl_nil (we_x [0,1,2,3,4,5,6] [] rfl rfl (wx_done hok rfl ?_)))))))))))
        refine we_join g28 trivial [3,1] rfl (asK [] rfl) rfl
      ·
       refine wl_ownSpot 2 rfl (fun hsp26 hcm26 => (wl_sliceTo rfl rfl rfl (freshS_eq rfl) rfl rfl rfl rfl tE_27 tS_5 (Nat.le_trans hg26 (by rw [← hcm26.2]; exact hcm26.1)) hsp26 (wl_nil (we_x [0,1] [] rfl rfl (xS hok 7 rfl (wl_ownLen 2 rfl (fun hz6 _ => (wl_at 5 (v' := .slice (some ⟨g9,0, none⟩) lz9.length 4194304) rfl (by rw [hz6]) (wl_at 8 (v' := .slice (some ⟨g9,0, none⟩) lz9.length 4194304) rfl (by rw [hz6]) (wl_at 10 (v' := .slice (some ⟨g9,0, none⟩) lz9.length 4194304) rfl (by rw [hz6]) (wl_at 12 (v' := .slice (some ⟨g9,0, none⟩) lz9.length 4194304) rfl (by rw [hz6]) (wl_at 14 (v' := .slice (some ⟨g9,0, none⟩) lz9.length 4194304) rfl (by rw [hz6]) (wl_hAs 2 (φ' := .own 5 1 R_u8 (.slice (some ⟨g9,0, none⟩) lz9.length 4194304) lz9) rfl (by rw [hz6]) (H' := [_,_,_]) rfl (wl_freeze 2 rfl (H' := [_,_]) rfl (wl_fact (.sli 1 R_u8 (some ⟨g9,0, none⟩) 4194304 lz9) (fun F w hφ => own_sli (hφ _ (mem_at (k := 0) rfl))) ?_)))))))))))))))
       refine wC [0,1] [] rfl fn_11 rfl (w_disk_Disk_Append_s N c8_0 (maxI 1099511627776 0) c8_1 v14_1 (⟨#[97]⟩ : ByteArray) (some ⟨g9,0, none⟩) 4194304 lz9 _ _ hc17) (asK [0] rfl) rfl (H' := []) rfl ?_
       rintro _ _ _ ⟨rfl, rfl, rfl⟩
       refine wl_nil (we_x [2,3] [] rfl rfl (xS hok 11 rfl (wl_fact (.sli 1 R_u8 (some ⟨g9,0, none⟩) 4194304 (lz9.take 1)) (fun _ _ hφ => view_to (hφ _ (mem_at (k := 0) rfl)) 1) (wl_at 1 (v' := .slice (some ⟨g9,0, none⟩) ((lz9.take 1).length) 4194304) rfl (take_slice hg26) (wl_at 2 (v' := .slice (some ⟨g9,0, none⟩) ((lz9.take 1).length) 4194304) rfl (take_slice hg26) (wC [0,1] [] rfl fn_11 rfl (w_disk_Disk_Append_s N c8_0 (maxI 1099511627776 0) c8_1 v17_1 (⟨#[97]⟩ : ByteArray) (some ⟨g9,0, none⟩) 4194304 (lz9.take 1) _ _ hc21) (asK [0] rfl) rfl (H' := []) rfl ?_))))))
       rintro _ _ _ ⟨rfl, rfl, rfl⟩
       refine wl_nil (we_x [1,2,3,4] [] rfl rfl (xS hok 13 rfl (wl_fact (.sli 1 R_u8 none 0 ([] : List Int)) (fun _ _ _ => sli_none) (wC [0,1] [] rfl fn_11 rfl (w_disk_Disk_Append_s N c8_0 (maxI 1099511627776 0) c8_1 v21_1 (⟨#[97]⟩ : ByteArray) none 0 ([] : List Int) _ _ hc23) (asK [0] rfl) rfl (H' := []) rfl ?_))))
       rintro _ _ _ ⟨rfl, rfl, rfl⟩
       refine wl_nil (we_x [1,2,3,4,5] [] rfl rfl (xS hok 17 rfl (wC [0,1] [] rfl fn_11 rfl (w_disk_Disk_Append_s N c8_0 (maxI 1099511627776 0) c8_1 v23_1 (⟨#[98]⟩ : ByteArray) (some ⟨g9,0, none⟩) 4194304 (lz9.take 1) _ _ hc27) (asK [1] rfl) rfl (H' := []) rfl ?_)))
       rintro _ _ _ ⟨rfl, rfl, rfl⟩
       refine wl_nil (we_x [0,1,2,3,4,5] [] rfl rfl (xS hok 18 rfl (wl_buildSlice rfl rfl rfl (freshS_eq rfl) rfl tE_66 tS_28 tZ_28 rfl (zs := [.int .i64 0, .int .i64 0, .int .i64 0, .int .i64 0, .int .i64 0]) (by kernel_rfl) rfl (out := [_,_,_,_,_]) rfl (fun g28 => (wl_nil (we_x [0,1,2,3,4,5] [] rfl rfl (xS hok 19 rfl (wP rfl (wl_nil (we_x [0,1,2,3,4,5] [] rfl rfl (wx_done hok rfl ?_)))))))))))
       refine we_join g28 trivial [3,1] rfl (asK [] rfl) rfl
     ·
      refine wl_ownSpot 2 rfl (fun hsp26 hcm26 => (wl_sliceTo rfl rfl rfl (freshS_eq rfl) rfl rfl rfl rfl tE_27 tS_5 (Nat.le_trans hg26 (by rw [← hcm26.2]; exact hcm26.1)) hsp26 (wl_nil (we_x [0,1] [] rfl rfl ?_))))
      refine wx_step2 hok 7 10 rfl rfl rfl rfl rfl rfl ?_ ?_
      ·
       refine wl_ownLen 2 rfl (fun hz7 _ => (wl_at 4 (v' := .slice (some ⟨g9,0, none⟩) lz9.length 4194304) rfl (by rw [hz7]) (wl_at 7 (v' := .slice (some ⟨g9,0, none⟩) lz9.length 4194304) rfl (by rw [hz7]) (wl_at 9 (v' := .slice (some ⟨g9,0, none⟩) lz9.length 4194304) rfl (by rw [hz7]) (wl_at 11 (v' := .slice (some ⟨g9,0, none⟩) lz9.length 4194304) rfl (by rw [hz7]) (wl_at 13 (v' := .slice (some ⟨g9,0, none⟩) lz9.length 4194304) rfl (by rw [hz7]) (wl_hAs 2 (φ' := .own 5 1 R_u8 (.slice (some ⟨g9,0, none⟩) lz9.length 4194304) lz9) rfl (by rw [hz7]) (H' := [_,_,_]) rfl (wl_freeze 2 rfl (H' := [_,_]) rfl (wl_fact (.sli 1 R_u8 (some ⟨g9,0, none⟩) 4194304 lz9) (fun F w hφ => own_sli (hφ _ (mem_at (k := 0) rfl))) (wC [0,1] [] rfl fn_11 rfl (w_disk_Disk_Append_s N c8_0 (maxI 1099511627776 0) c8_1 v14_1 (⟨#[97]⟩ : ByteArray) (some ⟨g9,0, none⟩) 4194304 lz9 _ _ hc17) (asK [0] rfl) rfl (H' := []) rfl ?_))))))))))
       rintro _ _ _ ⟨rfl, rfl, rfl⟩
       refine wl_nil (we_x [2,3] [] rfl rfl (xS hok 10 rfl (wl_sliTo 0 rfl rfl rfl (freshS_eq rfl) rfl rfl rfl rfl rfl tE_27 tS_5 hg20 (fun p20 => (wl_nil (we_x [1,2,3,4] [] rfl rfl (xS hok 11 rfl (wC [0,1] [] rfl fn_11 rfl (w_disk_Disk_Append_s N c8_0 (maxI 1099511627776 0) c8_1 v17_1 (⟨#[97]⟩ : ByteArray) p20 4194304 (lz9.take 1) _ _ hc21) (asK [0] rfl) rfl (H' := []) rfl ?_))))))))
       rintro _ _ _ ⟨rfl, rfl, rfl⟩
       refine wl_nil (we_x [0,1,2,3,4] [] rfl rfl (xS hok 13 rfl (wl_fact (.sli 1 R_u8 none 0 ([] : List Int)) (fun _ _ _ => sli_none) (wC [0,1] [] rfl fn_11 rfl (w_disk_Disk_Append_s N c8_0 (maxI 1099511627776 0) c8_1 v21_1 (⟨#[97]⟩ : ByteArray) none 0 ([] : List Int) _ _ hc23) (asK [0] rfl) rfl (H' := []) rfl ?_))))
       rintro _ _ _ ⟨rfl, rfl, rfl⟩
       refine wl_nil (we_x [1,2,3,4,5] [] rfl rfl (xS hok 17 rfl (wl_fact (.sli 1 R_u8 (some ⟨g9,0, none⟩) 4194304 (lz9.take 1)) (fun _ _ hφ => view_to (hφ _ (mem_at (k := 2) rfl)) 1) (wl_at 4 (v' := .slice (some ⟨g9,0, none⟩) ((lz9.take 1).length) 4194304) rfl (take_slice hg26) (wC [0,1] [] rfl fn_11 rfl (w_disk_Disk_Append_s N c8_0 (maxI 1099511627776 0) c8_1 v23_1 (⟨#[98]⟩ : ByteArray) (some ⟨g9,0, none⟩) 4194304 (lz9.take 1) _ _ hc27) (asK [0] rfl) rfl (H' := []) rfl ?_)))))
       rintro _ _ _ ⟨rfl, rfl, rfl⟩
       refine wl_nil (we_x [1,2,3,4,5,6] [] rfl rfl (xS hok 18 rfl (wl_buildSlice rfl rfl rfl (freshS_eq rfl) rfl tE_66 tS_28 tZ_28 rfl (zs := [.int .i64 0, .int .i64 0, .int .i64 0, .int .i64 0, .int .i64 0]) (by kernel_rfl) rfl (out := [_,_,_,_,_]) rfl (fun g28 => (wl_nil (we_x [0,1,2,3,4,5,6] [] rfl rfl (xS hok 19 rfl (wP rfl (wl_nil (we_x [0,1,2,3,4,5,6] [] rfl rfl (wx_done hok rfl ?_)))))))))))
       refine we_join g28 trivial [3,1] rfl (asK [] rfl) rfl
      ·
       refine wl_ownSpot 2 rfl (fun hsp20 hcm20 => (wl_sliceTo rfl rfl rfl (freshS_eq rfl) rfl rfl rfl rfl tE_27 tS_5 (Nat.le_trans hg20 (by rw [← hcm20.2]; exact hcm20.1)) hsp20 (wl_nil (we_x [0,1] [] rfl rfl (xS hok 7 rfl (wl_ownLen 2 rfl (fun hz8 _ => (wl_at 5 (v' := .slice (some ⟨g9,0, none⟩) lz9.length 4194304) rfl (by rw [hz8]) (wl_at 8 (v' := .slice (some ⟨g9,0, none⟩) lz9.length 4194304) rfl (by rw [hz8]) (wl_at 10 (v' := .slice (some ⟨g9,0, none⟩) lz9.length 4194304) rfl (by rw [hz8]) (wl_at 12 (v' := .slice (some ⟨g9,0, none⟩) lz9.length 4194304) rfl (by rw [hz8]) (wl_at 14 (v' := .slice (some ⟨g9,0, none⟩) lz9.length 4194304) rfl (by rw [hz8]) (wl_hAs 2 (φ' := .own 5 1 R_u8 (.slice (some ⟨g9,0, none⟩) lz9.length 4194304) lz9) rfl (by rw [hz8]) (H' := [_,_,_]) rfl (wl_freeze 2 rfl (H' := [_,_]) rfl (wl_fact (.sli 1 R_u8 (some ⟨g9,0, none⟩) 4194304 lz9) (fun F w hφ => own_sli (hφ _ (mem_at (k := 0) rfl))) ?_)))))))))))))))
       refine wC [0,1] [] rfl fn_11 rfl (w_disk_Disk_Append_s N c8_0 (maxI 1099511627776 0) c8_1 v14_1 (⟨#[97]⟩ : ByteArray) (some ⟨g9,0, none⟩) 4194304 lz9 _ _ hc17) (asK [0] rfl) rfl (H' := []) rfl ?_
       rintro _ _ _ ⟨rfl, rfl, rfl⟩
       refine wl_nil (we_x [2,3] [] rfl rfl (xS hok 11 rfl (wl_fact (.sli 1 R_u8 (some ⟨g9,0, none⟩) 4194304 (lz9.take 1)) (fun _ _ hφ => view_to (hφ _ (mem_at (k := 0) rfl)) 1) (wl_at 1 (v' := .slice (some ⟨g9,0, none⟩) ((lz9.take 1).length) 4194304) rfl (take_slice hg20) (wl_at 2 (v' := .slice (some ⟨g9,0, none⟩) ((lz9.take 1).length) 4194304) rfl (take_slice hg20) (wC [0,1] [] rfl fn_11 rfl (w_disk_Disk_Append_s N c8_0 (maxI 1099511627776 0) c8_1 v17_1 (⟨#[97]⟩ : ByteArray) (some ⟨g9,0, none⟩) 4194304 (lz9.take 1) _ _ hc21) (asK [0] rfl) rfl (H' := []) rfl ?_))))))
       rintro _ _ _ ⟨rfl, rfl, rfl⟩
       refine wl_nil (we_x [1,2,3,4] [] rfl rfl (xS hok 13 rfl (wl_fact (.sli 1 R_u8 none 0 ([] : List Int)) (fun _ _ _ => sli_none) (wC [0,1] [] rfl fn_11 rfl (w_disk_Disk_Append_s N c8_0 (maxI 1099511627776 0) c8_1 v21_1 (⟨#[97]⟩ : ByteArray) none 0 ([] : List Int) _ _ hc23) (asK [0] rfl) rfl (H' := []) rfl ?_))))
       rintro _ _ _ ⟨rfl, rfl, rfl⟩
       refine wl_nil (we_x [1,2,3,4,5] [] rfl rfl (xS hok 17 rfl (wC [0,1] [] rfl fn_11 rfl (w_disk_Disk_Append_s N c8_0 (maxI 1099511627776 0) c8_1 v23_1 (⟨#[98]⟩ : ByteArray) (some ⟨g9,0, none⟩) 4194304 (lz9.take 1) _ _ hc27) (asK [1] rfl) rfl (H' := []) rfl ?_)))
       rintro _ _ _ ⟨rfl, rfl, rfl⟩
       refine wl_nil (we_x [0,1,2,3,4,5] [] rfl rfl (xS hok 18 rfl (wl_buildSlice rfl rfl rfl (freshS_eq rfl) rfl tE_66 tS_28 tZ_28 rfl (zs := [.int .i64 0, .int .i64 0, .int .i64 0, .int .i64 0, .int .i64 0]) (by kernel_rfl) rfl (out := [_,_,_,_,_]) rfl (fun g28 => (wl_nil (we_x [0,1,2,3,4,5] [] rfl rfl (xS hok 19 rfl (wP rfl (wl_nil (we_x [0,1,2,3,4,5] [] rfl rfl (wx_done hok rfl ?_)))))))))))
       refine we_join g28 trivial [3,1] rfl (asK [] rfl) rfl
    ·
     refine wl_ownSpot 1 rfl (fun hsp20 hcm20 => (wl_sliceTo rfl rfl rfl (freshS_eq rfl) rfl rfl rfl rfl tE_27 tS_5 (Nat.le_trans hg20 (by rw [← hcm20.2]; exact hcm20.1)) hsp20 (wl_nil (we_x [] [] rfl rfl ?_))))
     refine wx_step2 hok 4 16 rfl rfl rfl rfl rfl rfl ?_ ?_
     ·
      refine wl_freeze 0 rfl (H' := [_,_,_]) rfl (wl_fact (.sli 1 R_u8 p13 c13 (lz9 ++ [0])) (fun F w hφ => own_sli (hφ _ (mem_at (k := 0) rfl))) (wC [1,2] [0] rfl fn_11 rfl (w_disk_Disk_Append_s N c8_0 (maxI 1099511627776 0) c8_1 ([] : List (ByteArray × Disk_rowsD)) (⟨#[97]⟩ : ByteArray) p13 c13 (lz9 ++ [0]) _ _ hc14) (asK [0] rfl) rfl (H' := [_]) rfl ?_))
      rintro _ _ _ ⟨rfl, rfl, rfl⟩
      refine wl_nil (we_x [] [] rfl rfl ?_)
      refine wx_step2 hok 7 16 rfl rfl rfl rfl rfl rfl ?_ ?_
      ·
       refine wl_ownLen 2 rfl (fun hz9 _ => (wl_at 4 (v' := .slice (some ⟨g9,0, none⟩) lz9.length 4194304) rfl (by rw [hz9]) (wl_at 7 (v' := .slice (some ⟨g9,0, none⟩) lz9.length 4194304) rfl (by rw [hz9]) (wl_at 9 (v' := .slice (some ⟨g9,0, none⟩) lz9.length 4194304) rfl (by rw [hz9]) (wl_at 11 (v' := .slice (some ⟨g9,0, none⟩) lz9.length 4194304) rfl (by rw [hz9]) (wl_at 13 (v' := .slice (some ⟨g9,0, none⟩) lz9.length 4194304) rfl (by rw [hz9]) (wl_hAs 2 (φ' := .own 5 1 R_u8 (.slice (some ⟨g9,0, none⟩) lz9.length 4194304) lz9) rfl (by rw [hz9]) (H' := [_,_,_]) rfl (wl_freeze 2 rfl (H' := [_,_]) rfl (wl_fact (.sli 1 R_u8 (some ⟨g9,0, none⟩) 4194304 lz9) (fun F w hφ => own_sli (hφ _ (mem_at (k := 0) rfl))) (wC [0,1] [] rfl fn_11 rfl (w_disk_Disk_Append_s N c8_0 (maxI 1099511627776 0) c8_1 v14_1 (⟨#[97]⟩ : ByteArray) (some ⟨g9,0, none⟩) 4194304 lz9 _ _ hc17) (asK [0] rfl) rfl (H' := []) rfl ?_))))))))))
       rintro _ _ _ ⟨rfl, rfl, rfl⟩
       refine wl_nil (we_x [2,3] [] rfl rfl ?_)
       refine wx_step2 hok 11 16 rfl rfl rfl rfl rfl rfl ?_ ?_
       ·
        refine wl_fact (.sli 1 R_u8 (some ⟨g9,0, none⟩) 4194304 (lz9.take 1)) (fun _ _ hφ => view_to (hφ _ (mem_at (k := 0) rfl)) 1) (wl_at 2 (v' := .slice (some ⟨g9,0, none⟩) ((lz9.take 1).length) 4194304) rfl (take_slice hg20) (wC [0,1] [] rfl fn_11 rfl (w_disk_Disk_Append_s N c8_0 (maxI 1099511627776 0) c8_1 v17_1 (⟨#[97]⟩ : ByteArray) (some ⟨g9,0, none⟩) 4194304 (lz9.take 1) _ _ hc21) (asK [0] rfl) rfl (H' := []) rfl ?_))
        rintro _ _ _ ⟨rfl, rfl, rfl⟩
        refine wl_nil (we_x [1,2,3,4] [] rfl rfl ?_)
        refine wx_step2 hok 13 16 rfl rfl rfl rfl rfl rfl ?_ ?_
        ·
         refine wl_fact (.sli 1 R_u8 none 0 ([] : List Int)) (fun _ _ _ => sli_none) (wC [0,1] [] rfl fn_11 rfl (w_disk_Disk_Append_s N c8_0 (maxI 1099511627776 0) c8_1 v21_1 (⟨#[97]⟩ : ByteArray) none 0 ([] : List Int) _ _ hc23) (asK [0] rfl) rfl (H' := []) rfl ?_)
         rintro _ _ _ ⟨rfl, rfl, rfl⟩
         refine wl_nil (we_x [1,2,3,4,5] [] rfl rfl (xS hok 16 rfl (wl_sliTo 2 rfl rfl rfl (freshS_eq rfl) rfl rfl rfl rfl rfl tE_27 tS_5 hg26 (fun p26 => (wl_nil (we_x [1,2,3,4,5,6] [] rfl rfl (xS hok 17 rfl (wC [0,1] [] rfl fn_11 rfl (w_disk_Disk_Append_s N c8_0 (maxI 1099511627776 0) c8_1 v23_1 (⟨#[98]⟩ : ByteArray) p26 4194304 (lz9.take 1) _ _ hc27) (asK [0] rfl) rfl (H' := []) rfl ?_))))))))
         rintro _ _ _ ⟨rfl, rfl, rfl⟩
         refine wl_nil (we_x [0,1,2,3,4,5,6] [] rfl rfl (xS hok 18 rfl (wl_buildSlice rfl rfl rfl (freshS_eq rfl) rfl tE_66 tS_28 tZ_28 rfl (zs := [.int .i64 0, .int .i64 0, .int .i64 0, .int .i64 0, .int .i64 0]) (by kernel_rfl) rfl (out := [_,_,_,_,_]) rfl (fun g28 => (wl_nil (we_x [0,1,2,3,4,5,6] [] rfl rfl (xS hok 19 rfl (wP rfl (wl_nil (we_x [0,1,2,3,4,5,6] [] rfl rfl (wx_done hok rfl ?_)))))))))))
         refine we_join g28 trivial [3,1] rfl (asK [] rfl) rfl
        ·
         refine wl_sliTo 1 rfl rfl rfl (freshS_eq rfl) rfl rfl rfl rfl rfl tE_27 tS_5 hg26 (fun p26 => (wl_nil (we_x [1,2,3,4,5] [] rfl rfl (xS hok 13 rfl (wl_fact (.sli 1 R_u8 none 0 ([] : List Int)) (fun _ _ _ => sli_none) (wC [0,1] [] rfl fn_11 rfl (w_disk_Disk_Append_s N c8_0 (maxI 1099511627776 0) c8_1 v21_1 (⟨#[97]⟩ : ByteArray) none 0 ([] : List Int) _ _ hc23) (asK [0] rfl) rfl (H' := []) rfl ?_))))))
         rintro _ _ _ ⟨rfl, rfl, rfl⟩
         refine wl_nil (we_x [1,2,3,4,5,6] [] rfl rfl (xS hok 17 rfl (wC [0,1] [] rfl fn_11 rfl (w_disk_Disk_Append_s N c8_0 (maxI 1099511627776 0) c8_1 v23_1 (⟨#[98]⟩ : ByteArray) p26 4194304 (lz9.take 1) _ _ hc27) (asK [1] rfl) rfl (H' := []) rfl ?_)))
         rintro _ _ _ ⟨rfl, rfl, rfl⟩
         refine wl_nil (we_x [0,1,2,3,4,5,6] [] rfl rfl (xS hok 18 rfl (wl_buildSlice rfl rfl rfl (freshS_eq rfl) rfl tE_66 tS_28 tZ_28 rfl (zs := [.int .i64 0, .int .i64 0, .int .i64 0, .int .i64 0, .int .i64 0]) (by kernel_rfl) rfl (out := [_,_,_,_,_]) rfl (fun g28 => (wl_nil (we_x [0,1,2,3,4,5,6] [] rfl rfl (xS hok 19 rfl (wP rfl (wl_nil (we_x [0,1,2,3,4,5,6] [] rfl rfl (wx_done hok rfl ?_)))))))))))
         refine we_join g28 trivial [3,1] rfl (asK [] rfl) rfl
       ·
        refine wl_sliTo 0 rfl rfl rfl (freshS_eq rfl) rfl rfl rfl rfl rfl tE_27 tS_5 hg26 (fun p26 => (wl_nil (we_x [1,2,3,4] [] rfl rfl (xS hok 11 rfl (wl_fact (.sli 1 R_u8 (some ⟨g9,0, none⟩) 4194304 (lz9.take 1)) (fun _ _ hφ => view_to (hφ _ (mem_at (k := 1) rfl)) 1) (wl_at 3 (v' := .slice (some ⟨g9,0, none⟩) ((lz9.take 1).length) 4194304) rfl (take_slice hg20) (wC [0,1] [] rfl fn_11 rfl (w_disk_Disk_Append_s N c8_0 (maxI 1099511627776 0) c8_1 v17_1 (⟨#[97]⟩ : ByteArray) (some ⟨g9,0, none⟩) 4194304 (lz9.take 1) _ _ hc21) (asK [0] rfl) rfl (H' := []) rfl ?_)))))))
        rintro _ _ _ ⟨rfl, rfl, rfl⟩
        refine wl_nil (we_x [1,2,3,4,5] [] rfl rfl (xS hok 13 rfl (wl_fact (.sli 1 R_u8 none 0 ([] : List Int)) (fun _ _ _ => sli_none) (wC [0,1] [] rfl fn_11 rfl (w_disk_Disk_Append_s N c8_0 (maxI 1099511627776 0) c8_1 v21_1 (⟨#[97]⟩ : ByteArray) none 0 ([] : List Int) _ _ hc23) (asK [0] rfl) rfl (H' := []) rfl ?_))))
        rintro _ _ _ ⟨rfl, rfl, rfl⟩
        refine wl_nil (we_x [1,2,3,4,5,6] [] rfl rfl (xS hok 17 rfl (wC [0,1] [] rfl fn_11 rfl (w_disk_Disk_Append_s N c8_0 (maxI 1099511627776 0) c8_1 v23_1 (⟨#[98]⟩ : ByteArray) p26 4194304 (lz9.take 1) _ _ hc27) (asK [2] rfl) rfl (H' := []) rfl ?_)))
        rintro _ _ _ ⟨rfl, rfl, rfl⟩
        refine wl_nil (we_x [0,1,2,3,4,5,6] [] rfl rfl (xS hok 18 rfl (wl_buildSlice rfl rfl rfl (freshS_eq rfl) rfl tE_66 tS_28 tZ_28 rfl (zs := [.int .i64 0, .int .i64 0, .int .i64 0, .int .i64 0, .int .i64 0]) (by kernel_rfl) rfl (out := [_,_,_,_,_]) rfl (fun g28 => (wl_nil (we_x [0,1,2,3,4,5,6] [] rfl rfl (xS hok 19 rfl (wP rfl (wl_nil (we_x [0,1,2,3,4,5,6] [] rfl rfl (wx_done hok rfl ?_)))))))))))
        refine we_join g28 trivial [3,1] rfl (asK [] rfl) rfl
      ·
       refine wl_ownSpot 2 rfl (fun hsp26 hcm26 => (wl_sliceTo rfl rfl rfl (freshS_eq rfl) rfl rfl rfl rfl tE_27 tS_5 (Nat.le_trans hg26 (by rw [← hcm26.2]; exact hcm26.1)) hsp26 (wl_nil (we_x [0,1] [] rfl rfl (xS hok 7 rfl (wl_ownLen 2 rfl (fun hz10 _ => (wl_at 5 (v' := .slice (some ⟨g9,0, none⟩) lz9.length 4194304) rfl (by rw [hz10]) (wl_at 8 (v' := .slice (some ⟨g9,0, none⟩) lz9.length 4194304) rfl (by rw [hz10]) (wl_at 10 (v' := .slice (some ⟨g9,0, none⟩) lz9.length 4194304) rfl (by rw [hz10]) (wl_at 12 (v' := .slice (some ⟨g9,0, none⟩) lz9.length 4194304) rfl (by rw [hz10]) (wl_at 14 (v' := .slice (some ⟨g9,0, none⟩) lz9.length 4194304) rfl (by rw [hz10]) (wl_hAs 2 (φ' := .own 5 1 R_u8 (.slice (some ⟨g9,0, none⟩) lz9.length 4194304) lz9) rfl (by rw [hz10]) (H' := [_,_,_]) rfl (wl_freeze 2 rfl (H' := [_,_]) rfl (wl_fact (.sli 1 R_u8 (some ⟨g9,0, none⟩) 4194304 lz9) (fun F w hφ => own_sli (hφ _ (mem_at (k := 0) rfl))) ?_)))))))))))))))
       refine wC [0,1] [] rfl fn_11 rfl (w_disk_Disk_Append_s N c8_0 (maxI 1099511627776 0) c8_1 v14_1 (⟨#[97]⟩ : ByteArray) (some ⟨g9,0, none⟩) 4194304 lz9 _ _ hc17) (asK [0] rfl) rfl (H' := []) rfl ?_
       rintro _ _ _ ⟨rfl, rfl, rfl⟩
       refine wl_nil (we_x [2,3] [] rfl rfl (xS hok 11 rfl (wl_fact (.sli 1 R_u8 (some ⟨g9,0, none⟩) 4194304 (lz9.take 1)) (fun _ _ hφ => view_to (hφ _ (mem_at (k := 0) rfl)) 1) (wl_at 1 (v' := .slice (some ⟨g9,0, none⟩) ((lz9.take 1).length) 4194304) rfl (take_slice hg26) (wl_at 3 (v' := .slice (some ⟨g9,0, none⟩) ((lz9.take 1).length) 4194304) rfl (take_slice hg26) (wC [0,1] [] rfl fn_11 rfl (w_disk_Disk_Append_s N c8_0 (maxI 1099511627776 0) c8_1 v17_1 (⟨#[97]⟩ : ByteArray) (some ⟨g9,0, none⟩) 4194304 (lz9.take 1) _ _ hc21) (asK [0] rfl) rfl (H' := []) rfl ?_))))))
       rintro _ _ _ ⟨rfl, rfl, rfl⟩
       refine wl_nil (we_x [1,2,3,4] [] rfl rfl (xS hok 13 rfl (wl_fact (.sli 1 R_u8 none 0 ([] : List Int)) (fun _ _ _ => sli_none) (wC [0,1] [] rfl fn_11 rfl (w_disk_Disk_Append_s N c8_0 (maxI 1099511627776 0) c8_1 v21_1 (⟨#[97]⟩ : ByteArray) none 0 ([] : List Int) _ _ hc23) (asK [0] rfl) rfl (H' := []) rfl ?_))))
       rintro _ _ _ ⟨rfl, rfl, rfl⟩
       refine wl_nil (we_x [1,2,3,4,5] [] rfl rfl (xS hok 17 rfl (wC [0,1] [] rfl fn_11 rfl (w_disk_Disk_Append_s N c8_0 (maxI 1099511627776 0) c8_1 v23_1 (⟨#[98]⟩ : ByteArray) (some ⟨g9,0, none⟩) 4194304 (lz9.take 1) _ _ hc27) (asK [1] rfl) rfl (H' := []) rfl ?_)))
       rintro _ _ _ ⟨rfl, rfl, rfl⟩
       refine wl_nil (we_x [0,1,2,3,4,5] [] rfl rfl (xS hok 18 rfl (wl_buildSlice rfl rfl rfl (freshS_eq rfl) rfl tE_66 tS_28 tZ_28 rfl (zs := [.int .i64 0, .int .i64 0, .int .i64 0, .int .i64 0, .int .i64 0]) (by kernel_rfl) rfl (out := [_,_,_,_,_]) rfl (fun g28 => (wl_nil (we_x [0,1,2,3,4,5] [] rfl rfl (xS hok 19 rfl (wP rfl (wl_nil (we_x [0,1,2,3,4,5] [] rfl rfl (wx_done hok rfl ?_)))))))))))
       refine we_join g28 trivial [3,1] rfl (asK [] rfl) rfl
     ·
      refine wl_ownSpot 1 rfl (fun hsp26 hcm26 => (wl_sliceTo rfl rfl rfl (freshS_eq rfl) rfl rfl rfl rfl tE_27 tS_5 (Nat.le_trans hg26 (by rw [← hcm26.2]; exact hcm26.1)) hsp26 (wl_nil (we_x [] [] rfl rfl (xS hok 4 rfl (wl_freeze 0 rfl (H' := [_,_,_]) rfl (wl_fact (.sli 1 R_u8 p13 c13 (lz9 ++ [0])) (fun F w hφ => own_sli (hφ _ (mem_at (k := 0) rfl))) (wC [1,2] [0] rfl fn_11 rfl (w_disk_Disk_Append_s N c8_0 (maxI 1099511627776 0) c8_1 ([] : List (ByteArray × Disk_rowsD)) (⟨#[97]⟩ : ByteArray) p13 c13 (lz9 ++ [0]) _ _ hc14) (asK [0] rfl) rfl (H' := [_]) rfl ?_))))))))
      rintro _ _ _ ⟨rfl, rfl, rfl⟩
      refine wl_nil (we_x [] [] rfl rfl (xS hok 7 rfl (wl_ownLen 2 rfl (fun hz11 _ => (wl_at 5 (v' := .slice (some ⟨g9,0, none⟩) lz9.length 4194304) rfl (by rw [hz11]) (wl_at 8 (v' := .slice (some ⟨g9,0, none⟩) lz9.length 4194304) rfl (by rw [hz11]) (wl_at 10 (v' := .slice (some ⟨g9,0, none⟩) lz9.length 4194304) rfl (by rw [hz11]) (wl_at 12 (v' := .slice (some ⟨g9,0, none⟩) lz9.length 4194304) rfl (by rw [hz11]) (wl_at 14 (v' := .slice (some ⟨g9,0, none⟩) lz9.length 4194304) rfl (by rw [hz11]) (wl_hAs 2 (φ' := .own 5 1 R_u8 (.slice (some ⟨g9,0, none⟩) lz9.length 4194304) lz9) rfl (by rw [hz11]) (H' := [_,_,_]) rfl (wl_freeze 2 rfl (H' := [_,_]) rfl (wl_fact (.sli 1 R_u8 (some ⟨g9,0, none⟩) 4194304 lz9) (fun F w hφ => own_sli (hφ _ (mem_at (k := 0) rfl))) (wC [0,1] [] rfl fn_11 rfl (w_disk_Disk_Append_s N c8_0 (maxI 1099511627776 0) c8_1 v14_1 (⟨#[97]⟩ : ByteArray) (some ⟨g9,0, none⟩) 4194304 lz9 _ _ hc17) (asK [0] rfl) rfl (H' := []) rfl ?_)))))))))))))
      rintro _ _ _ ⟨rfl, rfl, rfl⟩
      refine wl_nil (we_x [2,3] [] rfl rfl (xS hok 11 rfl (wl_fact (.sli 1 R_u8 (some ⟨g9,0, none⟩) 4194304 (lz9.take 1)) (fun _ _ hφ => view_to (hφ _ (mem_at (k := 0) rfl)) 1) (wl_at 2 (v' := .slice (some ⟨g9,0, none⟩) ((lz9.take 1).length) 4194304) rfl (take_slice hg26) (wl_at 3 (v' := .slice (some ⟨g9,0, none⟩) ((lz9.take 1).length) 4194304) rfl (take_slice hg26) (wC [0,1] [] rfl fn_11 rfl (w_disk_Disk_Append_s N c8_0 (maxI 1099511627776 0) c8_1 v17_1 (⟨#[97]⟩ : ByteArray) (some ⟨g9,0, none⟩) 4194304 (lz9.take 1) _ _ hc21) (asK [0] rfl) rfl (H' := []) rfl ?_))))))
      rintro _ _ _ ⟨rfl, rfl, rfl⟩
      refine wl_nil (we_x [1,2,3,4] [] rfl rfl (xS hok 13 rfl (wl_fact (.sli 1 R_u8 none 0 ([] : List Int)) (fun _ _ _ => sli_none) (wC [0,1] [] rfl fn_11 rfl (w_disk_Disk_Append_s N c8_0 (maxI 1099511627776 0) c8_1 v21_1 (⟨#[97]⟩ : ByteArray) none 0 ([] : List Int) _ _ hc23) (asK [0] rfl) rfl (H' := []) rfl ?_))))
      rintro _ _ _ ⟨rfl, rfl, rfl⟩
      refine wl_nil (we_x [1,2,3,4,5] [] rfl rfl (xS hok 17 rfl (wC [0,1] [] rfl fn_11 rfl (w_disk_Disk_Append_s N c8_0 (maxI 1099511627776 0) c8_1 v23_1 (⟨#[98]⟩ : ByteArray) (some ⟨g9,0, none⟩) 4194304 (lz9.take 1) _ _ hc27) (asK [1] rfl) rfl (H' := []) rfl ?_)))
      rintro _ _ _ ⟨rfl, rfl, rfl⟩
      refine wl_nil (we_x [0,1,2,3,4,5] [] rfl rfl (xS hok 18 rfl (wl_buildSlice rfl rfl rfl (freshS_eq rfl) rfl tE_66 tS_28 tZ_28 rfl (zs := [.int .i64 0, .int .i64 0, .int .i64 0, .int .i64 0, .int .i64 0]) (by kernel_rfl) rfl (out := [_,_,_,_,_]) rfl (fun g28 => (wl_nil (we_x [0,1,2,3,4,5] [] rfl rfl (xS hok 19 rfl (wP rfl (wl_nil (we_x [0,1,2,3,4,5] [] rfl rfl (wx_done hok rfl ?_)))))))))))
      refine we_join g28 trivial [3,1] rfl (asK [] rfl) rfl
    ·
     refine wl_ownSpot 1 rfl (fun hsp26 hcm26 => (wl_sliceTo rfl rfl rfl (freshS_eq rfl) rfl rfl rfl rfl tE_27 tS_5 (Nat.le_trans hg26 (by rw [← hcm26.2]; exact hcm26.1)) hsp26 (wl_nil (we_x [] [] rfl rfl ?_))))
     refine wx_step2 hok 4 10 rfl rfl rfl rfl rfl rfl ?_ ?_
     ·
      refine wl_freeze 0 rfl (H' := [_,_,_]) rfl (wl_fact (.sli 1 R_u8 p13 c13 (lz9 ++ [0])) (fun F w hφ => own_sli (hφ _ (mem_at (k := 0) rfl))) (wC [1,2] [0] rfl fn_11 rfl (w_disk_Disk_Append_s N c8_0 (maxI 1099511627776 0) c8_1 ([] : List (ByteArray × Disk_rowsD)) (⟨#[97]⟩ : ByteArray) p13 c13 (lz9 ++ [0]) _ _ hc14) (asK [0] rfl) rfl (H' := [_]) rfl ?_))
      rintro _ _ _ ⟨rfl, rfl, rfl⟩
      refine wl_nil (we_x [] [] rfl rfl ?_)
      refine wx_step2 hok 7 10 rfl rfl rfl rfl rfl rfl ?_ ?_
      ·
       refine wl_ownLen 2 rfl (fun hz12 _ => (wl_at 4 (v' := .slice (some ⟨g9,0, none⟩) lz9.length 4194304) rfl (by rw [hz12]) (wl_at 7 (v' := .slice (some ⟨g9,0, none⟩) lz9.length 4194304) rfl (by rw [hz12]) (wl_at 9 (v' := .slice (some ⟨g9,0, none⟩) lz9.length 4194304) rfl (by rw [hz12]) (wl_at 11 (v' := .slice (some ⟨g9,0, none⟩) lz9.length 4194304) rfl (by rw [hz12]) (wl_at 13 (v' := .slice (some ⟨g9,0, none⟩) lz9.length 4194304) rfl (by rw [hz12]) (wl_hAs 2 (φ' := .own 5 1 R_u8 (.slice (some ⟨g9,0, none⟩) lz9.length 4194304) lz9) rfl (by rw [hz12]) (H' := [_,_,_]) rfl (wl_freeze 2 rfl (H' := [_,_]) rfl (wl_fact (.sli 1 R_u8 (some ⟨g9,0, none⟩) 4194304 lz9) (fun F w hφ => own_sli (hφ _ (mem_at (k := 0) rfl))) (wC [0,1] [] rfl fn_11 rfl (w_disk_Disk_Append_s N c8_0 (maxI 1099511627776 0) c8_1 v14_1 (⟨#[97]⟩ : ByteArray) (some ⟨g9,0, none⟩) 4194304 lz9 _ _ hc17) (asK [0] rfl) rfl (H' := []) rfl ?_))))))))))
       rintro _ _ _ ⟨rfl, rfl, rfl⟩
       refine wl_nil (we_x [2,3] [] rfl rfl (xS hok 10 rfl (wl_sliTo 0 rfl rfl rfl (freshS_eq rfl) rfl rfl rfl rfl rfl tE_27 tS_5 hg20 (fun p20 => (wl_nil (we_x [1,2,3,4] [] rfl rfl (xS hok 11 rfl (wC [0,1] [] rfl fn_11 rfl (w_disk_Disk_Append_s N c8_0 (maxI 1099511627776 0) c8_1 v17_1 (⟨#[97]⟩ : ByteArray) p20 4194304 (lz9.take 1) _ _ hc21) (asK [0] rfl) rfl (H' := []) rfl ?_))))))))
       rintro _ _ _ ⟨rfl, rfl, rfl⟩
       refine wl_nil (we_x [0,1,2,3,4] [] rfl rfl (xS hok 13 rfl (wl_fact (.sli 1 R_u8 none 0 ([] : List Int)) (fun _ _ _ => sli_none) (wC [0,1] [] rfl fn_11 rfl (w_disk_Disk_Append_s N c8_0 (maxI 1099511627776 0) c8_1 v21_1 (⟨#[97]⟩ : ByteArray) none 0 ([] : List Int) _ _ hc23) (asK [0] rfl) rfl (H' := []) rfl ?_))))
       rintro _ _ _ ⟨rfl, rfl, rfl⟩
       refine wl_nil (we_x [1,2,3,4,5] [] rfl rfl (xS hok 17 rfl (wl_fact (.sli 1 R_u8 (some ⟨g9,0, none⟩) 4194304 (lz9.take 1)) (fun _ _ hφ => view_to (hφ _ (mem_at (k := 2) rfl)) 1) (wl_at 5 (v' := .slice (some ⟨g9,0, none⟩) ((lz9.take 1).length) 4194304) rfl (take_slice hg26) (wC [0,1] [] rfl fn_11 rfl (w_disk_Disk_Append_s N c8_0 (maxI 1099511627776 0) c8_1 v23_1 (⟨#[98]⟩ : ByteArray) (some ⟨g9,0, none⟩) 4194304 (lz9.take 1) _ _ hc27) (asK [0] rfl) rfl (H' := []) rfl ?_)))))
       rintro _ _ _ ⟨rfl, rfl, rfl⟩
       refine wl_nil (we_x [1,2,3,4,5,6] [] rfl rfl (xS hok 18 rfl (wl_buildSlice rfl rfl rfl (freshS_eq rfl) rfl tE_66 tS_28 tZ_28 rfl (zs := [.int .i64 0, .int .i64 0, .int .i64 0, .int .i64 0, .int .i64 0]) (by kernel_rfl) rfl (out := [_,_,_,_,_]) rfl (fun g28 => (wl_nil (we_x [0,1,2,3,4,5,6] [] rfl rfl (xS hok 19 rfl (wP rfl (wl_nil (we_x [0,1,2,3,4,5,6] [] rfl rfl (wx_done hok rfl ?_)))))))))))
       refine we_join g28 trivial [3,1] rfl (asK [] rfl) rfl
      ·
       refine wl_ownSpot 2 rfl (fun hsp20 hcm20 => (wl_sliceTo rfl rfl rfl (freshS_eq rfl) rfl rfl rfl rfl tE_27 tS_5 (Nat.le_trans hg20 (by rw [← hcm20.2]; exact hcm20.1)) hsp20 (wl_nil (we_x [0,1] [] rfl rfl (xS hok 7 rfl (wl_ownLen 2 rfl (fun hz13 _ => (wl_at 5 (v' := .slice (some ⟨g9,0, none⟩) lz9.length 4194304) rfl (by rw [hz13]) (wl_at 8 (v' := .slice (some ⟨g9,0, none⟩) lz9.length 4194304) rfl (by rw [hz13]) (wl_at 10 (v' := .slice (some ⟨g9,0, none⟩) lz9.length 4194304) rfl (by rw [hz13]) (wl_at 12 (v' := .slice (some ⟨g9,0, none⟩) lz9.length 4194304) rfl (by rw [hz13]) (wl_at 14 (v' := .slice (some ⟨g9,0, none⟩) lz9.length 4194304) rfl (by rw [hz13]) (wl_hAs 2 (φ' := .own 5 1 R_u8 (.slice (some ⟨g9,0, none⟩) lz9.length 4194304) lz9) rfl (by rw [hz13]) (H' := [_,_,_]) rfl (wl_freeze 2 rfl (H' := [_,_]) rfl (wl_fact (.sli 1 R_u8 (some ⟨g9,0, none⟩) 4194304 lz9) (fun F w hφ => own_sli (hφ _ (mem_at (k := 0) rfl))) ?_)))))))))))))))
       refine wC [0,1] [] rfl fn_11 rfl (w_disk_Disk_Append_s N c8_0 (maxI 1099511627776 0) c8_1 v14_1 (⟨#[97]⟩ : ByteArray) (some ⟨g9,0, none⟩) 4194304 lz9 _ _ hc17) (asK [0] rfl) rfl (H' := []) rfl ?_
       rintro _ _ _ ⟨rfl, rfl, rfl⟩
       refine wl_nil (we_x [2,3] [] rfl rfl (xS hok 11 rfl (wl_fact (.sli 1 R_u8 (some ⟨g9,0, none⟩) 4194304 (lz9.take 1)) (fun _ _ hφ => view_to (hφ _ (mem_at (k := 0) rfl)) 1) (wl_at 1 (v' := .slice (some ⟨g9,0, none⟩) ((lz9.take 1).length) 4194304) rfl (take_slice hg20) (wl_at 3 (v' := .slice (some ⟨g9,0, none⟩) ((lz9.take 1).length) 4194304) rfl (take_slice hg20) (wC [0,1] [] rfl fn_11 rfl (w_disk_Disk_Append_s N c8_0 (maxI 1099511627776 0) c8_1 v17_1 (⟨#[97]⟩ : ByteArray) (some ⟨g9,0, none⟩) 4194304 (lz9.take 1) _ _ hc21) (asK [0] rfl) rfl (H' := []) rfl ?_))))))
       rintro _ _ _ ⟨rfl, rfl, rfl⟩
       refine wl_nil (we_x [1,2,3,4] [] rfl rfl (xS hok 13 rfl (wl_fact (.sli 1 R_u8 none 0 ([] : List Int)) (fun _ _ _ => sli_none) (wC [0,1] [] rfl fn_11 rfl (w_disk_Disk_Append_s N c8_0 (maxI 1099511627776 0) c8_1 v21_1 (⟨#[97]⟩ : ByteArray) none 0 ([] : List Int) _ _ hc23) (asK [0] rfl) rfl (H' := []) rfl ?_))))
       rintro _ _ _ ⟨rfl, rfl, rfl⟩
       refine wl_nil (we_x [1,2,3,4,5] [] rfl rfl (xS hok 17 rfl (wC [0,1] [] rfl fn_11 rfl (w_disk_Disk_Append_s N c8_0 (maxI 1099511627776 0) c8_1 v23_1 (⟨#[98]⟩ : ByteArray) (some ⟨g9,0, none⟩) 4194304 (lz9.take 1) _ _ hc27) (asK [1] rfl) rfl (H' := []) rfl ?_)))
       rintro _ _ _ ⟨rfl, rfl, rfl⟩
       refine wl_nil (we_x [0,1,2,3,4,5] [] rfl rfl (xS hok 18 rfl (wl_buildSlice rfl rfl rfl (freshS_eq rfl) rfl tE_66 tS_28 tZ_28 rfl (zs := [.int .i64 0, .int .i64 0, .int .i64 0, .int .i64 0, .int .i64 0]) (by kernel_rfl) rfl (out := [_,_,_,_,_]) rfl (fun g28 => (wl_nil (we_x [0,1,2,3,4,5] [] rfl rfl (xS hok 19 rfl (wP rfl (wl_nil (we_x [0,1,2,3,4,5] [] rfl rfl (wx_done hok rfl ?_)))))))))))
       refine we_join g28 trivial [3,1] rfl (asK [] rfl) rfl
     ·
      refine wl_ownSpot 1 rfl (fun hsp20 hcm20 => (wl_sliceTo rfl rfl rfl (freshS_eq rfl) rfl rfl rfl rfl tE_27 tS_5 (Nat.le_trans hg20 (by rw [← hcm20.2]; exact hcm20.1)) hsp20 (wl_nil (we_x [] [] rfl rfl (xS hok 4 rfl (wl_freeze 0 rfl (H' := [_,_,_]) rfl (wl_fact (.sli 1 R_u8 p13 c13 (lz9 ++ [0])) (fun F w hφ => own_sli (hφ _ (mem_at (k := 0) rfl))) (wC [1,2] [0] rfl fn_11 rfl (w_disk_Disk_Append_s N c8_0 (maxI 1099511627776 0) c8_1 ([] : List (ByteArray × Disk_rowsD)) (⟨#[97]⟩ : ByteArray) p13 c13 (lz9 ++ [0]) _ _ hc14) (asK [0] rfl) rfl (H' := [_]) rfl ?_))))))))
      rintro _ _ _ ⟨rfl, rfl, rfl⟩
      refine wl_nil (we_x [] [] rfl rfl (xS hok 7 rfl (wl_ownLen 2 rfl (fun hz14 _ => (wl_at 5 (v' := .slice (some ⟨g9,0, none⟩) lz9.length 4194304) rfl (by rw [hz14]) (wl_at 8 (v' := .slice (some ⟨g9,0, none⟩) lz9.length 4194304) rfl (by rw [hz14]) (wl_at 10 (v' := .slice (some ⟨g9,0, none⟩) lz9.length 4194304) rfl (by rw [hz14]) (wl_at 12 (v' := .slice (some ⟨g9,0, none⟩) lz9.length 4194304) rfl (by rw [hz14]) (wl_at 14 (v' := .slice (some ⟨g9,0, none⟩) lz9.length 4194304) rfl (by rw [hz14]) (wl_hAs 2 (φ' := .own 5 1 R_u8 (.slice (some ⟨g9,0, none⟩) lz9.length 4194304) lz9) rfl (by rw [hz14]) (H' := [_,_,_]) rfl (wl_freeze 2 rfl (H' := [_,_]) rfl (wl_fact (.sli 1 R_u8 (some ⟨g9,0, none⟩) 4194304 lz9) (fun F w hφ => own_sli (hφ _ (mem_at (k := 0) rfl))) (wC [0,1] [] rfl fn_11 rfl (w_disk_Disk_Append_s N c8_0 (maxI 1099511627776 0) c8_1 v14_1 (⟨#[97]⟩ : ByteArray) (some ⟨g9,0, none⟩) 4194304 lz9 _ _ hc17) (asK [0] rfl) rfl (H' := []) rfl ?_)))))))))))))
      rintro _ _ _ ⟨rfl, rfl, rfl⟩
      refine wl_nil (we_x [2,3] [] rfl rfl (xS hok 11 rfl (wl_fact (.sli 1 R_u8 (some ⟨g9,0, none⟩) 4194304 (lz9.take 1)) (fun _ _ hφ => view_to (hφ _ (mem_at (k := 0) rfl)) 1) (wl_at 2 (v' := .slice (some ⟨g9,0, none⟩) ((lz9.take 1).length) 4194304) rfl (take_slice hg20) (wl_at 3 (v' := .slice (some ⟨g9,0, none⟩) ((lz9.take 1).length) 4194304) rfl (take_slice hg20) (wC [0,1] [] rfl fn_11 rfl (w_disk_Disk_Append_s N c8_0 (maxI 1099511627776 0) c8_1 v17_1 (⟨#[97]⟩ : ByteArray) (some ⟨g9,0, none⟩) 4194304 (lz9.take 1) _ _ hc21) (asK [0] rfl) rfl (H' := []) rfl ?_))))))
      rintro _ _ _ ⟨rfl, rfl, rfl⟩
      refine wl_nil (we_x [1,2,3,4] [] rfl rfl (xS hok 13 rfl (wl_fact (.sli 1 R_u8 none 0 ([] : List Int)) (fun _ _ _ => sli_none) (wC [0,1] [] rfl fn_11 rfl (w_disk_Disk_Append_s N c8_0 (maxI 1099511627776 0) c8_1 v21_1 (⟨#[97]⟩ : ByteArray) none 0 ([] : List Int) _ _ hc23) (asK [0] rfl) rfl (H' := []) rfl ?_))))
      rintro _ _ _ ⟨rfl, rfl, rfl⟩
      refine wl_nil (we_x [1,2,3,4,5] [] rfl rfl (xS hok 17 rfl (wC [0,1] [] rfl fn_11 rfl (w_disk_Disk_Append_s N c8_0 (maxI 1099511627776 0) c8_1 v23_1 (⟨#[98]⟩ : ByteArray) (some ⟨g9,0, none⟩) 4194304 (lz9.take 1) _ _ hc27) (asK [1] rfl) rfl (H' := []) rfl ?_)))
      rintro _ _ _ ⟨rfl, rfl, rfl⟩
      refine wl_nil (we_x [0,1,2,3,4,5] [] rfl rfl (xS hok 18 rfl (wl_buildSlice rfl rfl rfl (freshS_eq rfl) rfl tE_66 tS_28 tZ_28 rfl (zs := [.int .i64 0, .int .i64 0, .int .i64 0, .int .i64 0, .int .i64 0]) (by kernel_rfl) rfl (out := [_,_,_,_,_]) rfl (fun g28 => (wl_nil (we_x [0,1,2,3,4,5] [] rfl rfl (xS hok 19 rfl (wP rfl (wl_nil (we_x [0,1,2,3,4,5] [] rfl rfl (wx_done hok rfl ?_)))))))))))
      refine we_join g28 trivial [3,1] rfl (asK [] rfl) rfl
   ·
    refine wl_ownSpot 1 rfl (fun hsp20 hcm20 => (wl_sliceTo rfl rfl rfl (freshS_eq rfl) rfl rfl rfl rfl tE_27 tS_5 (Nat.le_trans hg20 (by rw [← hcm20.2]; exact hcm20.1)) hsp20 (wl_nil (we_x [] [] rfl rfl ?_))))
    refine wx_step2 hok 3 16 rfl rfl rfl rfl rfl rfl ?_ ?_
    ·
     refine wl_appendN [0] 1 0 rfl rfl rfl (freshS_eq rfl) rfl rfl rfl rfl rfl (fun F w hφ => ⟨[.int .u8 0],[], rfl, rfl, ⟨(), rfl, ask_nil⟩, rfl⟩) (by decide) tE_27 tR_5 rfl rfl (Nat.le_trans hg13 (by decide)) (Nat.le_trans (Nat.mul_le_mul_right _ hg13) (by decide)) (fun p13 c13 => (wl_drop 1 rfl (H' := [_,_,_,_]) rfl (wl_nil (we_x [] [] rfl rfl ?_))))
     refine wx_step2 hok 4 16 rfl rfl rfl rfl rfl rfl ?_ ?_
     ·
      refine wl_freeze 0 rfl (H' := [_,_,_]) rfl (wl_fact (.sli 1 R_u8 p13 c13 (lz9 ++ [0])) (fun F w hφ => own_sli (hφ _ (mem_at (k := 0) rfl))) (wC [1,2] [0] rfl fn_11 rfl (w_disk_Disk_Append_s N c8_0 (maxI 1099511627776 0) c8_1 ([] : List (ByteArray × Disk_rowsD)) (⟨#[97]⟩ : ByteArray) p13 c13 (lz9 ++ [0]) _ _ hc14) (asK [0] rfl) rfl (H' := [_]) rfl ?_))
      rintro _ _ _ ⟨rfl, rfl, rfl⟩
      refine wl_nil (we_x [] [] rfl rfl ?_)
      refine wx_step2 hok 7 16 rfl rfl rfl rfl rfl rfl ?_ ?_
      ·
       refine wl_ownLen 2 rfl (fun hz15 _ => (wl_at 4 (v' := .slice (some ⟨g9,0, none⟩) lz9.length 4194304) rfl (by rw [hz15]) (wl_at 7 (v' := .slice (some ⟨g9,0, none⟩) lz9.length 4194304) rfl (by rw [hz15]) (wl_at 9 (v' := .slice (some ⟨g9,0, none⟩) lz9.length 4194304) rfl (by rw [hz15]) (wl_at 11 (v' := .slice (some ⟨g9,0, none⟩) lz9.length 4194304) rfl (by rw [hz15]) (wl_at 13 (v' := .slice (some ⟨g9,0, none⟩) lz9.length 4194304) rfl (by rw [hz15]) (wl_hAs 2 (φ' := .own 5 1 R_u8 (.slice (some ⟨g9,0, none⟩) lz9.length 4194304) lz9) rfl (by rw [hz15]) (H' := [_,_,_]) rfl (wl_freeze 2 rfl (H' := [_,_]) rfl (wl_fact (.sli 1 R_u8 (some ⟨g9,0, none⟩) 4194304 lz9) (fun F w hφ => own_sli (hφ _ (mem_at (k := 0) rfl))) (wC [0,1] [] rfl fn_11 rfl (w_disk_Disk_Append_s N c8_0 (maxI 1099511627776 0) c8_1 v14_1 (⟨#[97]⟩ : ByteArray) (some ⟨g9,0, none⟩) 4194304 lz9 _ _ hc17) (asK [0] rfl) rfl (H' := []) rfl ?_))))))))))
       rintro _ _ _ ⟨rfl, rfl, rfl⟩
       refine wl_nil (we_x [2,3] [] rfl rfl ?_)
       refine wx_step2 hok 11 16 rfl rfl rfl rfl rfl rfl ?_ ?_
       ·
        refine wl_fact (.sli 1 R_u8 (some ⟨g9,0, none⟩) 4194304 (lz9.take 1)) (fun _ _ hφ => view_to (hφ _ (mem_at (k := 0) rfl)) 1) (wl_at 3 (v' := .slice (some ⟨g9,0, none⟩) ((lz9.take 1).length) 4194304) rfl (take_slice hg20) (wC [0,1] [] rfl fn_11 rfl (w_disk_Disk_Append_s N c8_0 (maxI 1099511627776 0) c8_1 v17_1 (⟨#[97]⟩ : ByteArray) (some ⟨g9,0, none⟩) 4194304 (lz9.take 1) _ _ hc21) (asK [0] rfl) rfl (H' := []) rfl ?_))
        rintro _ _ _ ⟨rfl, rfl, rfl⟩
        refine wl_nil (we_x [1,2,3,4] [] rfl rfl ?_)
        refine wx_step2 hok 13 16 rfl rfl rfl rfl rfl rfl ?_ ?_
        ·
         refine wl_fact (.sli 1 R_u8 none 0 ([] : List Int)) (fun _ _ _ => sli_none) (wC [0,1] [] rfl fn_11 rfl (w_disk_Disk_Append_s N c8_0 (maxI 1099511627776 0) c8_1 v21_1 (⟨#[97]⟩ : ByteArray) none 0 ([] : List Int) _ _ hc23) (asK [0] rfl) rfl (H' := []) rfl ?_)
         rintro _ _ _ ⟨rfl, rfl, rfl⟩
         refine wl_nil (we_x [1,2,3,4,5] [] rfl rfl (xS hok 16 rfl (wl_sliTo 2 rfl rfl rfl (freshS_eq rfl) rfl rfl rfl rfl rfl tE_27 tS_5 hg26 (fun p26 => (wl_nil (we_x [1,2,3,4,5,6] [] rfl rfl (xS hok 17 rfl (wC [0,1] [] rfl fn_11 rfl (w_disk_Disk_Append_s N c8_0 (maxI 1099511627776 0) c8_1 v23_1 (⟨#[98]⟩ : ByteArray) p26 4194304 (lz9.take 1) _ _ hc27) (asK [0] rfl) rfl (H' := []) rfl ?_))))))))
         rintro _ _ _ ⟨rfl, rfl, rfl⟩
         refine wl_nil (we_x [0,1,2,3,4,5,6] [] rfl rfl (xS hok 18 rfl (wl_buildSlice rfl rfl rfl (freshS_eq rfl) rfl tE_66 tS_28 tZ_28 rfl (zs := [.int .i64 0, .int .i64 0, .int .i64 0, .int .i64 0, .int .i64 0]) (by kernel_rfl) rfl (out := [_,_,_,_,_]) rfl (fun g28 => (wl_nil (we_x [0,1,2,3,4,5,6] [] rfl rfl (xS hok 19 rfl (wP rfl (wl_nil (we_x [0,1,2,3,4,5,6] [] rfl rfl (wx_done hok rfl ?_)))))))))))
         refine we_join g28 trivial [3,1] rfl (asK [] rfl) rfl
        ·
         refine wl_sliTo 1 rfl rfl rfl (freshS_eq rfl) rfl rfl rfl rfl rfl tE_27 tS_5 hg26 (fun p26 => (wl_nil (we_x [1,2,3,4,5] [] rfl rfl (xS hok 13 rfl (wl_fact (.sli 1 R_u8 none 0 ([] : List Int)) (fun _ _ _ => sli_none) (wC [0,1] [] rfl fn_11 rfl (w_disk_Disk_Append_s N c8_0 (maxI 1099511627776 0) c8_1 v21_1 (⟨#[97]⟩ : ByteArray) none 0 ([] : List Int) _ _ hc23) (asK [0] rfl) rfl (H' := []) rfl ?_))))))
         rintro _ _ _ ⟨rfl, rfl, rfl⟩
         refine wl_nil (we_x [1,2,3,4,5,6] [] rfl rfl (xS hok 17 rfl (wC [0,1] [] rfl fn_11 rfl (w_disk_Disk_Append_s N c8_0 (maxI 1099511627776 0) c8_1 v23_1 (⟨#[98]⟩ : ByteArray) p26 4194304 (lz9.take 1) _ _ hc27) (asK [1] rfl) rfl (H' := []) rfl ?_)))
         rintro _ _ _ ⟨rfl, rfl, rfl⟩
         refine wl_nil (we_x [0,1,2,3,4,5,6] [] rfl rfl (xS hok 18 rfl (wl_buildSlice rfl rfl rfl (freshS_eq rfl) rfl tE_66 tS_28 tZ_28 rfl (zs := [.int .i64 0, .int .i64 0, .int .i64 0, .int .i64 0, .int .i64 0]) (by kernel_rfl) rfl (out := [_,_,_,_,_]) rfl (fun g28 => (wl_nil (we_x [0,1,2,3,4,5,6] [] rfl rfl (xS hok 19 rfl (wP rfl (wl_nil (we_x [0,1,2,3,4,5,6] [] rfl rfl (wx_done hok rfl ?_)))))))))))
         refine we_join g28 trivial [3,1] rfl (asK [] rfl) rfl
       ·
        refine wl_sliTo 0 rfl rfl rfl (freshS_eq rfl) rfl rfl rfl rfl rfl tE_27 tS_5 hg26 (fun p26 => (wl_nil (we_x [1,2,3,4] [] rfl rfl (xS hok 11 rfl (wl_fact (.sli 1 R_u8 (some ⟨g9,0, none⟩) 4194304 (lz9.take 1)) (fun _ _ hφ => view_to (hφ _ (mem_at (k := 1) rfl)) 1) (wl_at 4 (v' := .slice (some ⟨g9,0, none⟩) ((lz9.take 1).length) 4194304) rfl (take_slice hg20) (wC [0,1] [] rfl fn_11 rfl (w_disk_Disk_Append_s N c8_0 (maxI 1099511627776 0) c8_1 v17_1 (⟨#[97]⟩ : ByteArray) (some ⟨g9,0, none⟩) 4194304 (lz9.take 1) _ _ hc21) (asK [0] rfl) rfl (H' := []) rfl ?_)))))))
        rintro _ _ _ ⟨rfl, rfl, rfl⟩
        refine wl_nil (we_x [1,2,3,4,5] [] rfl rfl (xS hok 13 rfl (wl_fact (.sli 1 R_u8 none 0 ([] : List Int)) (fun _ _ _ => sli_none) (wC [0,1] [] rfl fn_11 rfl (w_disk_Disk_Append_s N c8_0 (maxI 1099511627776 0) c8_1 v21_1 (⟨#[97]⟩ : ByteArray) none 0 ([] : List Int) _ _ hc23) (asK [0] rfl) rfl (H' := []) rfl ?_))))
        rintro _ _ _ ⟨rfl, rfl, rfl⟩
        refine wl_nil (we_x [1,2,3,4,5,6] [] rfl rfl (xS hok 17 rfl (wC [0,1] [] rfl fn_11 rfl (w_disk_Disk_Append_s N c8_0 (maxI 1099511627776 0) c8_1 v23_1 (⟨#[98]⟩ : ByteArray) p26 4194304 (lz9.take 1) _ _ hc27) (asK [2] rfl) rfl (H' := []) rfl ?_)))
        rintro _ _ _ ⟨rfl, rfl, rfl⟩
        refine wl_nil (we_x [0,1,2,3,4,5,6] [] rfl rfl (xS hok 18 rfl (wl_buildSlice rfl rfl rfl (freshS_eq rfl) rfl tE_66 tS_28 tZ_28 rfl (zs := [.int .i64 0, .int .i64 0, .int .i64 0, .int .i64 0, .int .i64 0]) (by kernel_rfl) rfl (out := [_,_,_,_,_]) rfl (fun g28 => (wl_nil (we_x [0,1,2,3,4,5,6] [] rfl rfl (xS hok 19 rfl (wP rfl (wl_nil (we_x [0,1,2,3,4,5,6] [] rfl rfl (wx_done hok rfl ?_)))))))))))
        refine we_join g28 trivial [3,1] rfl (asK [] rfl) rfl
      ·
       refine wl_ownSpot 2 rfl (fun hsp26 hcm26 => (wl_sliceTo rfl rfl rfl (freshS_eq rfl) rfl rfl rfl rfl tE_27 tS_5 (Nat.le_trans hg26 (by rw [← hcm26.2]; exact hcm26.1)) hsp26 (wl_nil (we_x [0,1] [] rfl rfl (xS hok 7 rfl (wl_ownLen 2 rfl (fun hz16 _ => (wl_at 5 (v' := .slice (some ⟨g9,0, none⟩) lz9.length 4194304) rfl (by rw [hz16]) (wl_at 8 (v' := .slice (some ⟨g9,0, none⟩) lz9.length 4194304) rfl (by rw [hz16]) (wl_at 10 (v' := .slice (some ⟨g9,0, none⟩) lz9.length 4194304) rfl (by rw [hz16]) (wl_at 12 (v' := .slice (some ⟨g9,0, none⟩) lz9.length 4194304) rfl (by rw [hz16]) (wl_at 14 (v' := .slice (some ⟨g9,0, none⟩) lz9.length 4194304) rfl (by rw [hz16]) (wl_hAs 2 (φ' := .own 5 1 R_u8 (.slice (some ⟨g9,0, none⟩) lz9.length 4194304) lz9) rfl (by rw [hz16]) (H' := [_,_,_]) rfl (wl_freeze 2 rfl (H' := [_,_]) rfl (wl_fact (.sli 1 R_u8 (some ⟨g9,0, none⟩) 4194304 lz9) (fun F w hφ => own_sli (hφ _ (mem_at (k := 0) rfl))) ?_)))))))))))))))
       refine wC [0,1] [] rfl fn_11 rfl (w_disk_Disk_Append_s N c8_0 (maxI 1099511627776 0) c8_1 v14_1 (⟨#[97]⟩ : ByteArray) (some ⟨g9,0, none⟩) 4194304 lz9 _ _ hc17) (asK [0] rfl) rfl (H' := []) rfl ?_
       rintro _ _ _ ⟨rfl, rfl, rfl⟩
       refine wl_nil (we_x [2,3] [] rfl rfl (xS hok 11 rfl (wl_fact (.sli 1 R_u8 (some ⟨g9,0, none⟩) 4194304 (lz9.take 1)) (fun _ _ hφ => view_to (hφ _ (mem_at (k := 0) rfl)) 1) (wl_at 1 (v' := .slice (some ⟨g9,0, none⟩) ((lz9.take 1).length) 4194304) rfl (take_slice hg26) (wl_at 4 (v' := .slice (some ⟨g9,0, none⟩) ((lz9.take 1).length) 4194304) rfl (take_slice hg26) (wC [0,1] [] rfl fn_11 rfl (w_disk_Disk_Append_s N c8_0 (maxI 1099511627776 0) c8_1 v17_1 (⟨#[97]⟩ : ByteArray) (some ⟨g9,0, none⟩) 4194304 (lz9.take 1) _ _ hc21) (asK [0] rfl) rfl (H' := []) rfl ?_))))))
       rintro _ _ _ ⟨rfl, rfl, rfl⟩
       refine wl_nil (we_x [1,2,3,4] [] rfl rfl (xS hok 13 rfl (wl_fact (.sli 1 R_u8 none 0 ([] : List Int)) (fun _ _ _ => sli_none) (wC [0,1] [] rfl fn_11 rfl (w_disk_Disk_Append_s N c8_0 (maxI 1099511627776 0) c8_1 v21_1 (⟨#[97]⟩ : ByteArray) none 0 ([] : List Int) _ _ hc23) (asK [0] rfl) rfl (H' := []) rfl ?_))))
       rintro _ _ _ ⟨rfl, rfl, rfl⟩
       refine wl_nil (we_x [1,2,3,4,5] [] rfl rfl (xS hok 17 rfl (wC [0,1] [] rfl fn_11 rfl (w_disk_Disk_Append_s N c8_0 (maxI 1099511627776 0) c8_1 v23_1 (⟨#[98]⟩ : ByteArray) (some ⟨g9,0, none⟩) 4194304 (lz9.take 1) _ _ hc27) (asK [1] rfl) rfl (H' := []) rfl ?_)))
       rintro _ _ _ ⟨rfl, rfl, rfl⟩
       refine wl_nil (we_x [0,1,2,3,4,5] [] rfl rfl (xS hok 18 rfl (wl_buildSlice rfl rfl rfl (freshS_eq rfl) rfl tE_66 tS_28 tZ_28 rfl (zs := [.int .i64 0, .int .i64 0, .int .i64 0, .int .i64 0, .int .i64 0]) (by kernel_rfl) rfl (out := [_,_,_,_,_]) rfl (fun g28 => (wl_nil (we_x [0,1,2,3,4,5] [] rfl rfl (xS hok 19 rfl (wP rfl (wl_nil (we_x [0,1,2,3,4,5] [] rfl rfl (wx_done hok rfl ?_)))))))))))
       refine we_join g28 trivial [3,1] rfl (asK [] rfl) rfl
     ·
      refine wl_ownSpot 1 rfl (fun hsp26 hcm26 => (wl_sliceTo rfl rfl rfl (freshS_eq rfl) rfl rfl rfl rfl tE_27 tS_5 (Nat.le_trans hg26 (by rw [← hcm26.2]; exact hcm26.1)) hsp26 (wl_nil (we_x [] [] rfl rfl (xS hok 4 rfl (wl_freeze 0 rfl (H' := [_,_,_]) rfl (wl_fact (.sli 1 R_u8 p13 c13 (lz9 ++ [0])) (fun F w hφ => own_sli (hφ _ (mem_at (k := 0) rfl))) (wC [1,2] [0] rfl fn_11 rfl (w_disk_Disk_Append_s N c8_0 (maxI 1099511627776 0) c8_1 ([] : List (ByteArray × Disk_rowsD)) (⟨#[97]⟩ : ByteArray) p13 c13 (lz9 ++ [0]) _ _ hc14) (asK [0] rfl) rfl (H' := [_]) rfl ?_))))))))
      rintro _ _ _ ⟨rfl, rfl, rfl⟩
      refine wl_nil (we_x [] [] rfl rfl (xS hok 7 rfl (wl_ownLen 2 rfl (fun hz17 _ => (wl_at 5 (v' := .slice (some ⟨g9,0, none⟩) lz9.length 4194304) rfl (by rw [hz17]) (wl_at 8 (v' := .slice (some ⟨g9,0, none⟩) lz9.length 4194304) rfl (by rw [hz17]) (wl_at 10 (v' := .slice (some ⟨g9,0, none⟩) lz9.length 4194304) rfl (by rw [hz17]) (wl_at 12 (v' := .slice (some ⟨g9,0, none⟩) lz9.length 4194304) rfl (by rw [hz17]) (wl_at 14 (v' := .slice (some ⟨g9,0, none⟩) lz9.length 4194304) rfl (by rw [hz17]) (wl_hAs 2 (φ' := .own 5 1 R_u8 (.slice (some ⟨g9,0, none⟩) lz9.length 4194304) lz9) rfl (by rw [hz17]) (H' := [_,_,_]) rfl (wl_freeze 2 rfl (H' := [_,_]) rfl (wl_fact (.sli 1 R_u8 (some ⟨g9,0, none⟩) 4194304 lz9) (fun F w hφ => own_sli (hφ _ (mem_at (k := 0) rfl))) (wC [0,1] [] rfl fn_11 rfl (w_disk_Disk_Append_s N c8_0 (maxI 1099511627776 0) c8_1 v14_1 (⟨#[97]⟩ : ByteArray) (some ⟨g9,0, none⟩) 4194304 lz9 _ _ hc17) (asK [0] rfl) rfl (H' := []) rfl ?_)))))))))))))
      rintro _ _ _ ⟨rfl, rfl, rfl⟩
      refine wl_nil (we_x [2,3] [] rfl rfl (xS hok 11 rfl (wl_fact (.sli 1 R_u8 (some ⟨g9,0, none⟩) 4194304 (lz9.take 1)) (fun _ _ hφ => view_to (hφ _ (mem_at (k := 0) rfl)) 1) (wl_at 2 (v' := .slice (some ⟨g9,0, none⟩) ((lz9.take 1).length) 4194304) rfl (take_slice hg26) (wl_at 4 (v' := .slice (some ⟨g9,0, none⟩) ((lz9.take 1).length) 4194304) rfl (take_slice hg26) (wC [0,1] [] rfl fn_11 rfl (w_disk_Disk_Append_s N c8_0 (maxI 1099511627776 0) c8_1 v17_1 (⟨#[97]⟩ : ByteArray) (some ⟨g9,0, none⟩) 4194304 (lz9.take 1) _ _ hc21) (asK [0] rfl) rfl (H' := []) rfl ?_))))))
      rintro _ _ _ ⟨rfl, rfl, rfl⟩
      refine wl_nil (we_x [1,2,3,4] [] rfl rfl (xS hok 13 rfl (wl_fact (.sli 1 R_u8 none 0 ([] : List Int)) (fun _ _ _ => sli_none) (wC [0,1] [] rfl fn_11 rfl (w_disk_Disk_Append_s N c8_0 (maxI 1099511627776 0) c8_1 v21_1 (⟨#[97]⟩ : ByteArray) none 0 ([] : List Int) _ _ hc23) (asK [0] rfl) rfl (H' := []) rfl ?_))))
      rintro _ _ _ ⟨rfl, rfl, rfl⟩
      refine wl_nil (we_x [1,2,3,4,5] [] rfl rfl (xS hok 17 rfl (wC [0,1] [] rfl fn_11 rfl (w_disk_Disk_Append_s N c8_0 (maxI 1099511627776 0) c8_1 v23_1 (⟨#[98]⟩ : ByteArray) (some ⟨g9,0, none⟩) 4194304 (lz9.take 1) _ _ hc27) (asK [1] rfl) rfl (H' := []) rfl ?_)))
      rintro _ _ _ ⟨rfl, rfl, rfl⟩
      refine wl_nil (we_x [0,1,2,3,4,5] [] rfl rfl (xS hok 18 rfl (wl_buildSlice rfl rfl rfl (freshS_eq rfl) rfl tE_66 tS_28 tZ_28 rfl (zs := [.int .i64 0, .int .i64 0, .int .i64 0, .int .i64 0, .int .i64 0]) (by kernel_rfl) rfl (out := [_,_,_,_,_]) rfl (fun g28 => (wl_nil (we_x [0,1,2,3,4,5] [] rfl rfl (xS hok 19 rfl (wP rfl (wl_nil (we_x [0,1,2,3,4,5] [] rfl rfl (wx_done hok rfl ?_)))))))))))
      refine we_join g28 trivial [3,1] rfl (asK [] rfl) rfl
    ·
     refine wl_ownSpot 1 rfl (fun hsp26 hcm26 => (wl_sliceTo rfl rfl rfl (freshS_eq rfl) rfl rfl rfl rfl tE_27 tS_5 (Nat.le_trans hg26 (by rw [← hcm26.2]; exact hcm26.1)) hsp26 (wl_nil (we_x [] [] rfl rfl (xS hok 3 rfl (wl_appendN [0] 1 0 rfl rfl rfl (freshS_eq rfl) rfl rfl rfl rfl rfl (fun F w hφ => ⟨[.int .u8 0],[], rfl, rfl, ⟨(), rfl, ask_nil⟩, rfl⟩) (by decide) tE_27 tR_5 rfl rfl (Nat.le_trans hg13 (by decide)) (Nat.le_trans (Nat.mul_le_mul_right _ hg13) (by decide)) (fun p13 c13 => (wl_drop 1 rfl (H' := [_,_,_,_]) rfl (wl_nil (we_x [] [] rfl rfl (xS hok 4 rfl (wl_freeze 0 rfl (H' := [_,_,_]) rfl (wl_fact (.sli 1 R_u8 p13 c13 (lz9 ++ [0])) (fun F w hφ => own_sli (hφ _ (mem_at (k := 0) rfl))) (wC [1,2] [0] rfl fn_11 rfl (w_disk_Disk_Append_s N c8_0 (maxI 1099511627776 0) c8_1 ([] : List (ByteArray × Disk_rowsD)) (⟨#[97]⟩ : ByteArray) p13 c13 (lz9 ++ [0]) _ _ hc14) (asK [0] rfl) rfl (H' := [_]) rfl ?_))))))))))))))
     rintro _ _ _ ⟨rfl, rfl, rfl⟩
     refine wl_nil (we_x [] [] rfl rfl (xS hok 7 rfl (wl_ownLen 2 rfl (fun hz18 _ => (wl_at 5 (v' := .slice (some ⟨g9,0, none⟩) lz9.length 4194304) rfl (by rw [hz18]) (wl_at 8 (v' := .slice (some ⟨g9,0, none⟩) lz9.length 4194304) rfl (by rw [hz18]) (wl_at 10 (v' := .slice (some ⟨g9,0, none⟩) lz9.length 4194304) rfl (by rw [hz18]) (wl_at 12 (v' := .slice (some ⟨g9,0, none⟩) lz9.length 4194304) rfl (by rw [hz18]) (wl_at 14 (v' := .slice (some ⟨g9,0, none⟩) lz9.length 4194304) rfl (by rw [hz18]) (wl_hAs 2 (φ' := .own 5 1 R_u8 (.slice (some ⟨g9,0, none⟩) lz9.length 4194304) lz9) rfl (by rw [hz18]) (H' := [_,_,_]) rfl (wl_freeze 2 rfl (H' := [_,_]) rfl (wl_fact (.sli 1 R_u8 (some ⟨g9,0, none⟩) 4194304 lz9) (fun F w hφ => own_sli (hφ _ (mem_at (k := 0) rfl))) (wC [0,1] [] rfl fn_11 rfl (w_disk_Disk_Append_s N c8_0 (maxI 1099511627776 0) c8_1 v14_1 (⟨#[97]⟩ : ByteArray) (some ⟨g9,0, none⟩) 4194304 lz9 _ _ hc17) (asK [0] rfl) rfl (H' := []) rfl ?_)))))))))))))
     rintro _ _ _ ⟨rfl, rfl, rfl⟩
     refine wl_nil (we_x [2,3] [] rfl rfl (xS hok 11 rfl (wl_fact (.sli 1 R_u8 (some ⟨g9,0, none⟩) 4194304 (lz9.take 1)) (fun _ _ hφ => view_to (hφ _ (mem_at (k := 0) rfl)) 1) (wl_at 3 (v' := .slice (some ⟨g9,0, none⟩) ((lz9.take 1).length) 4194304) rfl (take_slice hg26) (wl_at 4 (v' := .slice (some ⟨g9,0, none⟩) ((lz9.take 1).length) 4194304) rfl (take_slice hg26) (wC [0,1] [] rfl fn_11 rfl (w_disk_Disk_Append_s N c8_0 (maxI 1099511627776 0) c8_1 v17_1 (⟨#[97]⟩ : ByteArray) (some ⟨g9,0, none⟩) 4194304 (lz9.take 1) _ _ hc21) (asK [0] rfl) rfl (H' := []) rfl ?_))))))
     rintro _ _ _ ⟨rfl, rfl, rfl⟩
     refine wl_nil (we_x [1,2,3,4] [] rfl rfl (xS hok 13 rfl (wl_fact (.sli 1 R_u8 none 0 ([] : List Int)) (fun _ _ _ => sli_none) (wC [0,1] [] rfl fn_11 rfl (w_disk_Disk_Append_s N c8_0 (maxI 1099511627776 0) c8_1 v21_1 (⟨#[97]⟩ : ByteArray) none 0 ([] : List Int) _ _ hc23) (asK [0] rfl) rfl (H' := []) rfl ?_))))
     rintro _ _ _ ⟨rfl, rfl, rfl⟩
     refine wl_nil (we_x [1,2,3,4,5] [] rfl rfl (xS hok 17 rfl (wC [0,1] [] rfl fn_11 rfl (w_disk_Disk_Append_s N c8_0 (maxI 1099511627776 0) c8_1 v23_1 (⟨#[98]⟩ : ByteArray) (some ⟨g9,0, none⟩) 4194304 (lz9.take 1) _ _ hc27) (asK [1] rfl) rfl (H' := []) rfl ?_)))
     rintro _ _ _ ⟨rfl, rfl, rfl⟩
     refine wl_nil (we_x [0,1,2,3,4,5] [] rfl rfl (xS hok 18 rfl (wl_buildSlice rfl rfl rfl (freshS_eq rfl) rfl tE_66 tS_28 tZ_28 rfl (zs := [.int .i64 0, .int .i64 0, .int .i64 0, .int .i64 0, .int .i64 0]) (by kernel_rfl) rfl (out := [_,_,_,_,_]) rfl (fun g28 => (wl_nil (we_x [0,1,2,3,4,5] [] rfl rfl (xS hok 19 rfl (wP rfl (wl_nil (we_x [0,1,2,3,4,5] [] rfl rfl (wx_done hok rfl ?_)))))))))))
     refine we_join g28 trivial [3,1] rfl (asK [] rfl) rfl
   ·
    refine wl_ownSpot 1 rfl (fun hsp26 hcm26 => (wl_sliceTo rfl rfl rfl (freshS_eq rfl) rfl rfl rfl rfl tE_27 tS_5 (Nat.le_trans hg26 (by rw [← hcm26.2]; exact hcm26.1)) hsp26 (wl_nil (we_x [] [] rfl rfl ?_))))
    refine wx_step2 hok 3 10 rfl rfl rfl rfl rfl rfl ?_ ?_
    ·
     refine wl_appendN [0] 1 0 rfl rfl rfl (freshS_eq rfl) rfl rfl rfl rfl rfl (fun F w hφ => ⟨[.int .u8 0],[], rfl, rfl, ⟨(), rfl, ask_nil⟩, rfl⟩) (by decide) tE_27 tR_5 rfl rfl (Nat.le_trans hg13 (by decide)) (Nat.le_trans (Nat.mul_le_mul_right _ hg13) (by decide)) (fun p13 c13 => (wl_drop 1 rfl (H' := [_,_,_,_]) rfl (wl_nil (we_x [] [] rfl rfl ?_))))
     refine wx_step2 hok 4 10 rfl rfl rfl rfl rfl rfl ?_ ?_
     ·
      refine wl_freeze 0 rfl (H' := [_,_,_]) rfl (wl_fact (.sli 1 R_u8 p13 c13 (lz9 ++ [0])) (fun F w hφ => own_sli (hφ _ (mem_at (k := 0) rfl))) (wC [1,2] [0] rfl fn_11 rfl (w_disk_Disk_Append_s N c8_0 (maxI 1099511627776 0) c8_1 ([] : List (ByteArray × Disk_rowsD)) (⟨#[97]⟩ : ByteArray) p13 c13 (lz9 ++ [0]) _ _ hc14) (asK [0] rfl) rfl (H' := [_]) rfl ?_))
      rintro _ _ _ ⟨rfl, rfl, rfl⟩
      refine wl_nil (we_x [] [] rfl rfl ?_)
      refine wx_step2 hok 7 10 rfl rfl rfl rfl rfl rfl ?_ ?_
      ·
       refine wl_ownLen 2 rfl (fun hz19 _ => (wl_at 4 (v' := .slice (some ⟨g9,0, none⟩) lz9.length 4194304) rfl (by rw [hz19]) (wl_at 7 (v' := .slice (some ⟨g9,0, none⟩) lz9.length 4194304) rfl (by rw [hz19]) (wl_at 9 (v' := .slice (some ⟨g9,0, none⟩) lz9.length 4194304) rfl (by rw [hz19]) (wl_at 11 (v' := .slice (some ⟨g9,0, none⟩) lz9.length 4194304) rfl (by rw [hz19]) (wl_at 13 (v' := .slice (some ⟨g9,0, none⟩) lz9.length 4194304) rfl (by rw [hz19]) (wl_hAs 2 (φ' := .own 5 1 R_u8 (.slice (some ⟨g9,0, none⟩) lz9.length 4194304) lz9) rfl (by rw [hz19]) (H' := [_,_,_]) rfl (wl_freeze 2 rfl (H' := [_,_]) rfl (wl_fact (.sli 1 R_u8 (some ⟨g9,0, none⟩) 4194304 lz9) (fun F w hφ => own_sli (hφ _ (mem_at (k := 0) rfl))) (wC [0,1] [] rfl fn_11 rfl (w_disk_Disk_Append_s N c8_0 (maxI 1099511627776 0) c8_1 v14_1 (⟨#[97]⟩ : ByteArray) (some ⟨g9,0, none⟩) 4194304 lz9 _ _ hc17) (asK [0] rfl) rfl (H' := []) rfl ?_))))))))))
       rintro _ _ _ ⟨rfl, rfl, rfl⟩
       refine wl_nil (we_x [2,3] [] rfl rfl (xS hok 10 rfl (wl_sliTo 0 rfl rfl rfl (freshS_eq rfl) rfl rfl rfl rfl rfl tE_27 tS_5 hg20 (fun p20 => (wl_nil (we_x [1,2,3,4] [] rfl rfl (xS hok 11 rfl (wC [0,1] [] rfl fn_11 rfl (w_disk_Disk_Append_s N c8_0 (maxI 1099511627776 0) c8_1 v17_1 (⟨#[97]⟩ : ByteArray) p20 4194304 (lz9.take 1) _ _ hc21) (asK [0] rfl) rfl (H' := []) rfl ?_))))))))
       rintro _ _ _ ⟨rfl, rfl, rfl⟩
       refine wl_nil (we_x [0,1,2,3,4] [] rfl rfl (xS hok 13 rfl (wl_fact (.sli 1 R_u8 none 0 ([] : List Int)) (fun _ _ _ => sli_none) (wC [0,1] [] rfl fn_11 rfl (w_disk_Disk_Append_s N c8_0 (maxI 1099511627776 0) c8_1 v21_1 (⟨#[97]⟩ : ByteArray) none 0 ([] : List Int) _ _ hc23) (asK [0] rfl) rfl (H' := []) rfl ?_))))
       rintro _ _ _ ⟨rfl, rfl, rfl⟩
       refine wl_nil (we_x [1,2,3,4,5] [] rfl rfl (xS hok 17 rfl (wl_fact (.sli 1 R_u8 (some ⟨g9,0, none⟩) 4194304 (lz9.take 1)) (fun _ _ hφ => view_to (hφ _ (mem_at (k := 2) rfl)) 1) (wl_at 6 (v' := .slice (some ⟨g9,0, none⟩) ((lz9.take 1).length) 4194304) rfl (take_slice hg26) (wC [0,1] [] rfl fn_11 rfl (w_disk_Disk_Append_s N c8_0 (maxI 1099511627776 0) c8_1 v23_1 (⟨#[98]⟩ : ByteArray) (some ⟨g9,0, none⟩) 4194304 (lz9.take 1) _ _ hc27) (asK [0] rfl) rfl (H' := []) rfl ?_)))))
       rintro _ _ _ ⟨rfl, rfl, rfl⟩
       refine wl_nil (we_x [1,2,3,4,5,6] [] rfl rfl (xS hok 18 rfl (wl_buildSlice rfl rfl rfl (freshS_eq rfl) rfl tE_66 tS_28 tZ_28 rfl (zs := [.int .i64 0, .int .i64 0, .int .i64 0, .int .i64 0, .int .i64 0]) (by kernel_rfl) rfl (out := [_,_,_,_,_]) rfl (fun g28 => (wl_nil (we_x [0,1,2,3,4,5,6] [] rfl rfl (xS hok 19 rfl (wP rfl (wl_nil (we_x [0,1,2,3,4,5,6] [] rfl rfl (wx_done hok rfl ?_)))))))))))
       refine we_join g28 trivial [3,1] rfl (asK [] rfl) rfl
      ·
       refine wl_ownSpot 2 rfl (fun hsp20 hcm20 => (wl_sliceTo rfl rfl rfl (freshS_eq rfl) rfl rfl rfl rfl tE_27 tS_5 (Nat.le_trans hg20 (by rw [← hcm20.2]; exact hcm20.1)) hsp20 (wl_nil (we_x [0,1] [] rfl rfl (xS hok 7 rfl (wl_ownLen 2 rfl (fun hz20 _ => (wl_at 5 (v' := .slice (some ⟨g9,0, none⟩) lz9.length 4194304) rfl (by rw [hz20]) (wl_at 8 (v' := .slice (some ⟨g9,0, none⟩) lz9.length 4194304) rfl (by rw [hz20]) (wl_at 10 (v' := .slice (some ⟨g9,0, none⟩) lz9.length 4194304) rfl (by rw [hz20]) (wl_at 12 (v' := .slice (some ⟨g9,0, none⟩) lz9.length 4194304) rfl (by rw [hz20]) (wl_at 14 (v' := .slice (some ⟨g9,0, none⟩) lz9.length 4194304) rfl (by rw [hz20]) (wl_hAs 2 (φ' := .own 5 1 R_u8 (.slice (some ⟨g9,0, none⟩) lz9.length 4194304) lz9) rfl (by rw [hz20]) (H' := [_,_,_]) rfl (wl_freeze 2 rfl (H' := [_,_]) rfl (wl_fact (.sli 1 R_u8 (some ⟨g9,0, none⟩) 4194304 lz9) (fun F w hφ => own_sli (hφ _ (mem_at (k := 0) rfl))) ?_)))))))))))))))
       refine wC [0,1] [] rfl fn_11 rfl (w_disk_Disk_Append_s N c8_0 (maxI 1099511627776 0) c8_1 v14_1 (⟨#[97]⟩ : ByteArray) (some ⟨g9,0, none⟩) 4194304 lz9 _ _ hc17) (asK [0] rfl) rfl (H' := []) rfl ?_
       rintro _ _ _ ⟨rfl, rfl, rfl⟩
       refine wl_nil (we_x [2,3] [] rfl rfl (xS hok 11 rfl (wl_fact (.sli 1 R_u8 (some ⟨g9,0, none⟩) 4194304 (lz9.take 1)) (fun _ _ hφ => view_to (hφ _ (mem_at (k := 0) rfl)) 1) (wl_at 1 (v' := .slice (some ⟨g9,0, none⟩) ((lz9.take 1).length) 4194304) rfl (take_slice hg20) (wl_at 4 (v' := .slice (some ⟨g9,0, none⟩) ((lz9.take 1).length) 4194304) rfl (take_slice hg20) (wC [0,1] [] rfl fn_11 rfl (w_disk_Disk_Append_s N c8_0 (maxI 1099511627776 0) c8_1 v17_1 (⟨#[97]⟩ : ByteArray) (some ⟨g9,0, none⟩) 4194304 (lz9.take 1) _ _ hc21) (asK [0] rfl) rfl (H' := []) rfl ?_))))))
       rintro _ _ _ ⟨rfl, rfl, rfl⟩
       refine wl_nil (we_x [1,2,3,4] [] rfl rfl (xS hok 13 rfl (wl_fact (.sli 1 R_u8 none 0 ([] : List Int)) (fun _ _ _ => sli_none) (wC [0,1] [] rfl fn_11 rfl (w_disk_Disk_Append_s N c8_0 (maxI 1099511627776 0) c8_1 v21_1 (⟨#[97]⟩ : ByteArray) none 0 ([] : List Int) _ _ hc23) (asK [0] rfl) rfl (H' := []) rfl ?_))))
       rintro _ _ _ ⟨rfl, rfl, rfl⟩
       refine wl_nil (we_x [1,2,3,4,5] [] rfl rfl (xS hok 17 rfl (wC [0,1] [] rfl fn_11 rfl (w_disk_Disk_Append_s N c8_0 (maxI 1099511627776 0) c8_1 v23_1 (⟨#[98]⟩ : ByteArray) (some ⟨g9,0, none⟩) 4194304 (lz9.take 1) _ _ hc27) (asK [1] rfl) rfl (H' := []) rfl ?_)))
       rintro _ _ _ ⟨rfl, rfl, rfl⟩
       refine wl_nil (we_x [0,1,2,3,4,5] [] rfl rfl (xS hok 18 rfl (wl_buildSlice rfl rfl rfl (freshS_eq rfl) rfl tE_66 tS_28 tZ_28 rfl (zs := [.int .i64 0, .int .i64 0, .int .i64 0, .int .i64 0, .int .i64 0]) (by kernel_rfl) rfl (out := [_,_,_,_,_]) rfl (fun g28 => (wl_nil (we_x [0,1,2,3,4,5] [] rfl rfl (xS hok 19 rfl (wP rfl (wl_nil (we_x [0,1,2,3,4,5] [] rfl rfl (wx_done hok rfl ?_)))))))))))
       refine we_join g28 trivial [3,1] rfl (asK [] rfl) rfl
     ·
      refine wl_ownSpot 1 rfl (fun hsp20 hcm20 => (wl_sliceTo rfl rfl rfl (freshS_eq rfl) rfl rfl rfl rfl tE_27 tS_5 (Nat.le_trans hg20 (by rw [← hcm20.2]; exact hcm20.1)) hsp20 (wl_nil (we_x [] [] rfl rfl (xS hok 4 rfl (wl_freeze 0 rfl (H' := [_,_,_]) rfl (wl_fact (.sli 1 R_u8 p13 c13 (lz9 ++ [0])) (fun F w hφ => own_sli (hφ _ (mem_at (k := 0) rfl))) (wC [1,2] [0] rfl fn_11 rfl (w_disk_Disk_Append_s N c8_0 (maxI 1099511627776 0) c8_1 ([] : List (ByteArray × Disk_rowsD)) (⟨#[97]⟩ : ByteArray) p13 c13 (lz9 ++ [0]) _ _ hc14) (asK [0] rfl) rfl (H' := [_]) rfl ?_))))))))
      rintro _ _ _ ⟨rfl, rfl, rfl⟩
      refine wl_nil (we_x [] [] rfl rfl (xS hok 7 rfl (wl_ownLen 2 rfl (fun hz21 _ => (wl_at 5 (v' := .slice (some ⟨g9,0, none⟩) lz9.length 4194304) rfl (by rw [hz21]) (wl_at 8 (v' := .slice (some ⟨g9,0, none⟩) lz9.length 4194304) rfl (by rw [hz21]) (wl_at 10 (v' := .slice (some ⟨g9,0, none⟩) lz9.length 4194304) rfl (by rw [hz21]) (wl_at 12 (v' := .slice (some ⟨g9,0, none⟩) lz9.length 4194304) rfl (by rw [hz21]) (wl_at 14 (v' := .slice (some ⟨g9,0, none⟩) lz9.length 4194304) rfl (by rw [hz21]) (wl_hAs 2 (φ' := .own 5 1 R_u8 (.slice (some ⟨g9,0, none⟩) lz9.length 4194304) lz9) rfl (by rw [hz21]) (H' := [_,_,_]) rfl (wl_freeze 2 rfl (H' := [_,_]) rfl (wl_fact (.sli 1 R_u8 (some ⟨g9,0, none⟩) 4194304 lz9) (fun F w hφ => own_sli (hφ _ (mem_at (k := 0) rfl))) (wC [0,1] [] rfl fn_11 rfl (w_disk_Disk_Append_s N c8_0 (maxI 1099511627776 0) c8_1 v14_1 (⟨#[97]⟩ : ByteArray) (some ⟨g9,0, none⟩) 4194304 lz9 _ _ hc17) (asK [0] rfl) rfl (H' := []) rfl ?_)))))))))))))
      rintro _ _ _ ⟨rfl, rfl, rfl⟩
      refine wl_nil (we_x [2,3] [] rfl rfl (xS hok 11 rfl (wl_fact (.sli 1 R_u8 (some ⟨g9,0, none⟩) 4194304 (lz9.take 1)) (fun _ _ hφ => view_to (hφ _ (mem_at (k := 0) rfl)) 1) (wl_at 2 (v' := .slice (some ⟨g9,0, none⟩) ((lz9.take 1).length) 4194304) rfl (take_slice hg20) (wl_at 4 (v' := .slice (some ⟨g9,0, none⟩) ((lz9.take 1).length) 4194304) rfl (take_slice hg20) (wC [0,1] [] rfl fn_11 rfl (w_disk_Disk_Append_s N c8_0 (maxI 1099511627776 0) c8_1 v17_1 (⟨#[97]⟩ : ByteArray) (some ⟨g9,0, none⟩) 4194304 (lz9.take 1) _ _ hc21) (asK [0] rfl) rfl (H' := []) rfl ?_))))))
      rintro _ _ _ ⟨rfl, rfl, rfl⟩
      refine wl_nil (we_x [1,2,3,4] [] rfl rfl (xS hok 13 rfl (wl_fact (.sli 1 R_u8 none 0 ([] : List Int)) (fun _ _ _ => sli_none) (wC [0,1] [] rfl fn_11 rfl (w_disk_Disk_Append_s N c8_0 (maxI 1099511627776 0) c8_1 v21_1 (⟨#[97]⟩ : ByteArray) none 0 ([] : List Int) _ _ hc23) (asK [0] rfl) rfl (H' := []) rfl ?_))))
      rintro _ _ _ ⟨rfl, rfl, rfl⟩
      refine wl_nil (we_x [1,2,3,4,5] [] rfl rfl (xS hok 17 rfl (wC [0,1] [] rfl fn_11 rfl (w_disk_Disk_Append_s N c8_0 (maxI 1099511627776 0) c8_1 v23_1 (⟨#[98]⟩ : ByteArray) (some ⟨g9,0, none⟩) 4194304 (lz9.take 1) _ _ hc27) (asK [1] rfl) rfl (H' := []) rfl ?_)))
      rintro _ _ _ ⟨rfl, rfl, rfl⟩
      refine wl_nil (we_x [0,1,2,3,4,5] [] rfl rfl (xS hok 18 rfl (wl_buildSlice rfl rfl rfl (freshS_eq rfl) rfl tE_66 tS_28 tZ_28 rfl (zs := [.int .i64 0, .int .i64 0, .int .i64 0, .int .i64 0, .int .i64 0]) (by kernel_rfl) rfl (out := [_,_,_,_,_]) rfl (fun g28 => (wl_nil (we_x [0,1,2,3,4,5] [] rfl rfl (xS hok 19 rfl (wP rfl (wl_nil (we_x [0,1,2,3,4,5] [] rfl rfl (wx_done hok rfl ?_)))))))))))
      refine we_join g28 trivial [3,1] rfl (asK [] rfl) rfl
    ·
     refine wl_ownSpot 1 rfl (fun hsp20 hcm20 => (wl_sliceTo rfl rfl rfl (freshS_eq rfl) rfl rfl rfl rfl tE_27 tS_5 (Nat.le_trans hg20 (by rw [← hcm20.2]; exact hcm20.1)) hsp20 (wl_nil (we_x [] [] rfl rfl (xS hok 3 rfl (wl_appendN [0] 1 0 rfl rfl rfl (freshS_eq rfl) rfl rfl rfl rfl rfl (fun F w hφ => ⟨[.int .u8 0],[], rfl, rfl, ⟨(), rfl, ask_nil⟩, rfl⟩) (by decide) tE_27 tR_5 rfl rfl (Nat.le_trans hg13 (by decide)) (Nat.le_trans (Nat.mul_le_mul_right _ hg13) (by decide)) (fun p13 c13 => (wl_drop 1 rfl (H' := [_,_,_,_]) rfl (wl_nil (we_x [] [] rfl rfl (xS hok 4 rfl (wl_freeze 0 rfl (H' := [_,_,_]) rfl (wl_fact (.sli 1 R_u8 p13 c13 (lz9 ++ [0])) (fun F w hφ => own_sli (hφ _ (mem_at (k := 0) rfl))) (wC [1,2] [0] rfl fn_11 rfl (w_disk_Disk_Append_s N c8_0 (maxI 1099511627776 0) c8_1 ([] : List (ByteArray × Disk_rowsD)) (⟨#[97]⟩ : ByteArray) p13 c13 (lz9 ++ [0]) _ _ hc14) (asK [0] rfl) rfl (H' := [_]) rfl ?_))))))))))))))
     rintro _ _ _ ⟨rfl, rfl, rfl⟩
     refine wl_nil (we_x [] [] rfl rfl (xS hok 7 rfl (wl_ownLen 2 rfl (fun hz22 _ => (wl_at 5 (v' := .slice (some ⟨g9,0, none⟩) lz9.length 4194304) rfl (by rw [hz22]) (wl_at 8 (v' := .slice (some ⟨g9,0, none⟩) lz9.length 4194304) rfl (by rw [hz22]) (wl_at 10 (v' := .slice (some ⟨g9,0, none⟩) lz9.length 4194304) rfl (by rw [hz22]) (wl_at 12 (v' := .slice (some ⟨g9,0, none⟩) lz9.length 4194304) rfl (by rw [hz22]) (wl_at 14 (v' := .slice (some ⟨g9,0, none⟩) lz9.length 4194304) rfl (by rw [hz22]) (wl_hAs 2 (φ' := .own 5 1 R_u8 (.slice (some ⟨g9,0, none⟩) lz9.length 4194304) lz9) rfl (by rw [hz22]) (H' := [_,_,_]) rfl (wl_freeze 2 rfl (H' := [_,_]) rfl (wl_fact (.sli 1 R_u8 (some ⟨g9,0, none⟩) 4194304 lz9) (fun F w hφ => own_sli (hφ _ (mem_at (k := 0) rfl))) (wC [0,1] [] rfl fn_11 rfl (w_disk_Disk_Append_s N c8_0 (maxI 1099511627776 0) c8_1 v14_1 (⟨#[97]⟩ : ByteArray) (some ⟨g9,0, none⟩) 4194304 lz9 _ _ hc17) (asK [0] rfl) rfl (H' := []) rfl ?_)))))))))))))
     rintro _ _ _ ⟨rfl, rfl, rfl⟩
     refine wl_nil (we_x [2,3] [] rfl rfl (xS hok 11 rfl (wl_fact (.sli 1 R_u8 (some ⟨g9,0, none⟩) 4194304 (lz9.take 1)) (fun _ _ hφ => view_to (hφ _ (mem_at (k := 0) rfl)) 1) (wl_at 3 (v' := .slice (some ⟨g9,0, none⟩) ((lz9.take 1).length) 4194304) rfl (take_slice hg20) (wl_at 4 (v' := .slice (some ⟨g9,0, none⟩) ((lz9.take 1).length) 4194304) rfl (take_slice hg20) (wC [0,1] [] rfl fn_11 rfl (w_disk_Disk_Append_s N c8_0 (maxI 1099511627776 0) c8_1 v17_1 (⟨#[97]⟩ : ByteArray) (some ⟨g9,0, none⟩) 4194304 (lz9.take 1) _ _ hc21) (asK [0] rfl) rfl (H' := []) rfl ?_))))))
     rintro _ _ _ ⟨rfl, rfl, rfl⟩
     refine wl_nil (we_x [1,2,3,4] [] rfl rfl (xS hok 13 rfl (wl_fact (.sli 1 R_u8 none 0 ([] : List Int)) (fun _ _ _ => sli_none) (wC [0,1] [] rfl fn_11 rfl (w_disk_Disk_Append_s N c8_0 (maxI 1099511627776 0) c8_1 v21_1 (⟨#[97]⟩ : ByteArray) none 0 ([] : List Int) _ _ hc23) (asK [0] rfl) rfl (H' := []) rfl ?_))))
     rintro _ _ _ ⟨rfl, rfl, rfl⟩
     refine wl_nil (we_x [1,2,3,4,5] [] rfl rfl (xS hok 17 rfl (wC [0,1] [] rfl fn_11 rfl (w_disk_Disk_Append_s N c8_0 (maxI 1099511627776 0) c8_1 v23_1 (⟨#[98]⟩ : ByteArray) (some ⟨g9,0, none⟩) 4194304 (lz9.take 1) _ _ hc27) (asK [1] rfl) rfl (H' := []) rfl ?_)))
     rintro _ _ _ ⟨rfl, rfl, rfl⟩
     refine wl_nil (we_x [0,1,2,3,4,5] [] rfl rfl (xS hok 18 rfl (wl_buildSlice rfl rfl rfl (freshS_eq rfl) rfl tE_66 tS_28 tZ_28 rfl (zs := [.int .i64 0, .int .i64 0, .int .i64 0, .int .i64 0, .int .i64 0]) (by kernel_rfl) rfl (out := [_,_,_,_,_]) rfl (fun g28 => (wl_nil (we_x [0,1,2,3,4,5] [] rfl rfl (xS hok 19 rfl (wP rfl (wl_nil (we_x [0,1,2,3,4,5] [] rfl rfl (wx_done hok rfl ?_)))))))))))
     refine we_join g28 trivial [3,1] rfl (asK [] rfl) rfl
  ·
   refine wl_ownSpot 0 rfl (fun hsp20 hcm20 => (wl_sliceTo rfl rfl rfl (freshS_eq rfl) rfl rfl rfl rfl tE_27 tS_5 (Nat.le_trans hg20 (by rw [← hcm20.2]; exact hcm20.1)) hsp20 (wl_nil (we_x [] [] rfl rfl ?_))))
   refine wx_step2 hok 2 16 rfl rfl rfl rfl rfl rfl ?_ ?_
   ·
    refine wl_buildSlice rfl rfl rfl (freshS_eq rfl) rfl tE_27 tS_5 tZ_5 rfl (zs := [.int .u8 0]) (by kernel_rfl) rfl (out := [_]) rfl (fun g12 => (wl_nil (we_x [] [] rfl rfl ?_)))
    refine wx_step2 hok 3 16 rfl rfl rfl rfl rfl rfl ?_ ?_
    ·
     refine wl_appendN [0] 1 0 rfl rfl rfl (freshS_eq rfl) rfl rfl rfl rfl rfl (fun F w hφ => ⟨[.int .u8 0],[], rfl, rfl, ⟨(), rfl, ask_nil⟩, rfl⟩) (by decide) tE_27 tR_5 rfl rfl (Nat.le_trans hg13 (by decide)) (Nat.le_trans (Nat.mul_le_mul_right _ hg13) (by decide)) (fun p13 c13 => (wl_drop 1 rfl (H' := [_,_,_,_]) rfl (wl_nil (we_x [] [] rfl rfl ?_))))
     refine wx_step2 hok 4 16 rfl rfl rfl rfl rfl rfl ?_ ?_
     ·
      refine wl_freeze 0 rfl (H' := [_,_,_]) rfl (wl_fact (.sli 1 R_u8 p13 c13 (lz9 ++ [0])) (fun F w hφ => own_sli (hφ _ (mem_at (k := 0) rfl))) (wC [1,2] [0] rfl fn_11 rfl (w_disk_Disk_Append_s N c8_0 (maxI 1099511627776 0) c8_1 ([] : List (ByteArray × Disk_rowsD)) (⟨#[97]⟩ : ByteArray) p13 c13 (lz9 ++ [0]) _ _ hc14) (asK [0] rfl) rfl (H' := [_]) rfl ?_))
      rintro _ _ _ ⟨rfl, rfl, rfl⟩
      refine wl_nil (we_x [] [] rfl rfl ?_)
      refine wx_step2 hok 7 16 rfl rfl rfl rfl rfl rfl ?_ ?_
      ·
       refine wl_ownLen 2 rfl (fun hz23 _ => (wl_at 4 (v' := .slice (some ⟨g9,0, none⟩) lz9.length 4194304) rfl (by rw [hz23]) (wl_at 7 (v' := .slice (some ⟨g9,0, none⟩) lz9.length 4194304) rfl (by rw [hz23]) (wl_at 9 (v' := .slice (some ⟨g9,0, none⟩) lz9.length 4194304) rfl (by rw [hz23]) (wl_at 11 (v' := .slice (some ⟨g9,0, none⟩) lz9.length 4194304) rfl (by rw [hz23]) (wl_at 13 (v' := .slice (some ⟨g9,0, none⟩) lz9.length 4194304) rfl (by rw [hz23]) (wl_hAs 2 (φ' := .own 5 1 R_u8 (.slice (some ⟨g9,0, none⟩) lz9.length 4194304) lz9) rfl (by rw [hz23]) (H' := [_,_,_]) rfl (wl_freeze 2 rfl (H' := [_,_]) rfl (wl_fact (.sli 1 R_u8 (some ⟨g9,0, none⟩) 4194304 lz9) (fun F w hφ => own_sli (hφ _ (mem_at (k := 0) rfl))) (wC [0,1] [] rfl fn_11 rfl (w_disk_Disk_Append_s N c8_0 (maxI 1099511627776 0) c8_1 v14_1 (⟨#[97]⟩ : ByteArray) (some ⟨g9,0, none⟩) 4194304 lz9 _ _ hc17) (asK [0] rfl) rfl (H' := []) rfl ?_))))))))))
       rintro _ _ _ ⟨rfl, rfl, rfl⟩
       refine wl_nil (we_x [2,3] [] rfl rfl ?_)
       refine wx_step2 hok 11 16 rfl rfl rfl rfl rfl rfl ?_ ?_
       ·
        refine wl_fact (.sli 1 R_u8 (some ⟨g9,0, none⟩) 4194304 (lz9.take 1)) (fun _ _ hφ => view_to (hφ _ (mem_at (k := 0) rfl)) 1) (wl_at 4 (v' := .slice (some ⟨g9,0, none⟩) ((lz9.take 1).length) 4194304) rfl (take_slice hg20) (wC [0,1] [] rfl fn_11 rfl (w_disk_Disk_Append_s N c8_0 (maxI 1099511627776 0) c8_1 v17_1 (⟨#[97]⟩ : ByteArray) (some ⟨g9,0, none⟩) 4194304 (lz9.take 1) _ _ hc21) (asK [0] rfl) rfl (H' := []) rfl ?_))
        rintro _ _ _ ⟨rfl, rfl, rfl⟩
        refine wl_nil (we_x [1,2,3,4] [] rfl rfl ?_)
        refine wx_step2 hok 13 16 rfl rfl rfl rfl rfl rfl ?_ ?_
        ·
         refine wl_fact (.sli 1 R_u8 none 0 ([] : List Int)) (fun _ _ _ => sli_none) (wC [0,1] [] rfl fn_11 rfl (w_disk_Disk_Append_s N c8_0 (maxI 1099511627776 0) c8_1 v21_1 (⟨#[97]⟩ : ByteArray) none 0 ([] : List Int) _ _ hc23) (asK [0] rfl) rfl (H' := []) rfl ?_)
         rintro _ _ _ ⟨rfl, rfl, rfl⟩
         refine wl_nil (we_x [1,2,3,4,5] [] rfl rfl (xS hok 16 rfl (wl_sliTo 2 rfl rfl rfl (freshS_eq rfl) rfl rfl rfl rfl rfl tE_27 tS_5 hg26 (fun p26 => (wl_nil (we_x [1,2,3,4,5,6] [] rfl rfl (xS hok 17 rfl (wC [0,1] [] rfl fn_11 rfl (w_disk_Disk_Append_s N c8_0 (maxI 1099511627776 0) c8_1 v23_1 (⟨#[98]⟩ : ByteArray) p26 4194304 (lz9.take 1) _ _ hc27) (asK [0] rfl) rfl (H' := []) rfl ?_))))))))
         rintro _ _ _ ⟨rfl, rfl, rfl⟩
         refine wl_nil (we_x [0,1,2,3,4,5,6] [] rfl rfl (xS hok 18 rfl (wl_buildSlice rfl rfl rfl (freshS_eq rfl) rfl tE_66 tS_28 tZ_28 rfl (zs := [.int .i64 0, .int .i64 0, .int .i64 0, .int .i64 0, .int .i64 0]) (by kernel_rfl) rfl (out := [_,_,_,_,_]) rfl (fun g28 => (wl_nil (we_x [0,1,2,3,4,5,6] [] rfl rfl (xS hok 19 rfl (wP rfl (wl_nil (we_x [0,1,2,3,4,5,6] [] rfl rfl (wx_done hok rfl ?_)))))))))))
         refine we_join g28 trivial [3,1] rfl (asK [] rfl) rfl
        ·
         refine wl_sliTo 1 rfl rfl rfl (freshS_eq rfl) rfl rfl rfl rfl rfl tE_27 tS_5 hg26 (fun p26 => (wl_nil (we_x [1,2,3,4,5] [] rfl rfl (xS hok 13 rfl (wl_fact (.sli 1 R_u8 none 0 ([] : List Int)) (fun _ _ _ => sli_none) (wC [0,1] [] rfl fn_11 rfl (w_disk_Disk_Append_s N c8_0 (maxI 1099511627776 0) c8_1 v21_1 (⟨#[97]⟩ : ByteArray) none 0 ([] : List Int) _ _ hc23) (asK [0] rfl) rfl (H' := []) rfl ?_))))))
         rintro _ _ _ ⟨rfl, rfl, rfl⟩
         refine wl_nil (we_x [1,2,3,4,5,6] [] rfl rfl (xS hok 17 rfl (wC [0,1] [] rfl fn_11 rfl (w_disk_Disk_Append_s N c8_0 (maxI 1099511627776 0) c8_1 v23_1 (⟨#[98]⟩ : ByteArray) p26 4194304 (lz9.take 1) _ _ hc27) (asK [1] rfl) rfl (H' := []) rfl ?_)))
         rintro _ _ _ ⟨rfl, rfl, rfl⟩
         refine wl_nil (we_x [0,1,2,3,4,5,6] [] rfl rfl (xS hok 18 rfl (wl_buildSlice rfl rfl rfl (freshS_eq rfl) rfl tE_66 tS_28 tZ_28 rfl (zs := [.int .i64 0, .int .i64 0, .int .i64 0, .int .i64 0, .int .i64 0]) (by kernel_rfl) rfl (out := [_,_,_,_,_]) rfl (fun g28 => (wl_nil (we_x [0,1,2,3,4,5,6] [] rfl rfl (xS hok 19 rfl (wP rfl (wl_nil (we_x [0,1,2,3,4,5,6] [] rfl rfl (wx_done hok rfl ?_)))))))))))
         refine we_join g28 trivial [3,1] rfl (asK [] rfl) rfl
       ·
        refine wl_sliTo 0 rfl rfl rfl (freshS_eq rfl) rfl rfl rfl rfl rfl tE_27 tS_5 hg26 (fun p26 => (wl_nil (we_x [1,2,3,4] [] rfl rfl (xS hok 11 rfl (wl_fact (.sli 1 R_u8 (some ⟨g9,0, none⟩) 4194304 (lz9.take 1)) (fun _ _ hφ => view_to (hφ _ (mem_at (k := 1) rfl)) 1) (wl_at 5 (v' := .slice (some ⟨g9,0, none⟩) ((lz9.take 1).length) 4194304) rfl (take_slice hg20) (wC [0,1] [] rfl fn_11 rfl (w_disk_Disk_Append_s N c8_0 (maxI 1099511627776 0) c8_1 v17_1 (⟨#[97]⟩ : ByteArray) (some ⟨g9,0, none⟩) 4194304 (lz9.take 1) _ _ hc21) (asK [0] rfl) rfl (H' := []) rfl ?_)))))))
        rintro _ _ _ ⟨rfl, rfl, rfl⟩
        refine wl_nil (we_x [1,2,3,4,5] [] rfl rfl (xS hok 13 rfl (wl_fact (.sli 1 R_u8 none 0 ([] : List Int)) (fun _ _ _ => sli_none) (wC [0,1] [] rfl fn_11 rfl (w_disk_Disk_Append_s N c8_0 (maxI 1099511627776 0) c8_1 v21_1 (⟨#[97]⟩ : ByteArray) none 0 ([] : List Int) _ _ hc23) (asK [0] rfl) rfl (H' := []) rfl ?_))))
        rintro _ _ _ ⟨rfl, rfl, rfl⟩
        refine wl_nil (we_x [1,2,3,4,5,6] [] rfl rfl (xS hok 17 rfl (wC [0,1] [] rfl fn_11 rfl (w_disk_Disk_Append_s N c8_0 (maxI 1099511627776 0) c8_1 v23_1 (⟨#[98]⟩ : ByteArray) p26 4194304 (lz9.take 1) _ _ hc27) (asK [2] rfl) rfl (H' := []) rfl ?_)))
        rintro _ _ _ ⟨rfl, rfl, rfl⟩
        refine wl_nil (we_x [0,1,2,3,4,5,6] [] rfl rfl (xS hok 18 rfl (wl_buildSlice rfl rfl rfl (freshS_eq rfl) rfl tE_66 tS_28 tZ_28 rfl (zs := [.int .i64 0, .int .i64 0, .int .i64 0, .int .i64 0, .int .i64 0]) (by kernel_rfl) rfl (out := [_,_,_,_,_]) rfl (fun g28 => (wl_nil (we_x [0,1,2,3,4,5,6] [] rfl rfl (xS hok 19 rfl (wP rfl (wl_nil (we_x [0,1,2,3,4,5,6] [] rfl rfl (wx_done hok rfl ?_)))))))))))
        refine we_join g28 trivial [3,1] rfl (asK [] rfl) rfl
      ·
       refine wl_ownSpot 2 rfl (fun hsp26 hcm26 => (wl_sliceTo rfl rfl rfl (freshS_eq rfl) rfl rfl rfl rfl tE_27 tS_5 (Nat.le_trans hg26 (by rw [← hcm26.2]; exact hcm26.1)) hsp26 (wl_nil (we_x [0,1] [] rfl rfl (xS hok 7 rfl (wl_ownLen 2 rfl (fun hz24 _ => (wl_at 5 (v' := .slice (some ⟨g9,0, none⟩) lz9.length 4194304) rfl (by rw [hz24]) (wl_at 8 (v' := .slice (some ⟨g9,0, none⟩) lz9.length 4194304) rfl (by rw [hz24]) (wl_at 10 (v' := .slice (some ⟨g9,0, none⟩) lz9.length 4194304) rfl (by rw [hz24]) (wl_at 12 (v' := .slice (some ⟨g9,0, none⟩) lz9.length 4194304) rfl (by rw [hz24]) (wl_at 14 (v' := .slice (some ⟨g9,0, none⟩) lz9.length 4194304) rfl (by rw [hz24]) (wl_hAs 2 (φ' := .own 5 1 R_u8 (.slice (some ⟨g9,0, none⟩) lz9.length 4194304) lz9) rfl (by rw [hz24]) (H' := [_,_,_]) rfl (wl_freeze 2 rfl (H' := [_,_]) rfl (wl_fact (.sli 1 R_u8 (some ⟨g9,0, none⟩) 4194304 lz9) (fun F w hφ => own_sli (hφ _ (mem_at (k := 0) rfl))) ?_)))))))))))))))
       refine wC [0,1] [] rfl fn_11 rfl (w_disk_Disk_Append_s N c8_0 (maxI 1099511627776 0) c8_1 v14_1 (⟨#[97]⟩ : ByteArray) (some ⟨g9,0, none⟩) 4194304 lz9 _ _ hc17) (asK [0] rfl) rfl (H' := []) rfl ?_
       rintro _ _ _ ⟨rfl, rfl, rfl⟩
       refine wl_nil (we_x [2,3] [] rfl rfl (xS hok 11 rfl (wl_fact (.sli 1 R_u8 (some ⟨g9,0, none⟩) 4194304 (lz9.take 1)) (fun _ _ hφ => view_to (hφ _ (mem_at (k := 0) rfl)) 1) (wl_at 1 (v' := .slice (some ⟨g9,0, none⟩) ((lz9.take 1).length) 4194304) rfl (take_slice hg26) (wl_at 5 (v' := .slice (some ⟨g9,0, none⟩) ((lz9.take 1).length) 4194304) rfl (take_slice hg26) (wC [0,1] [] rfl fn_11 rfl (w_disk_Disk_Append_s N c8_0 (maxI 1099511627776 0) c8_1 v17_1 (⟨#[97]⟩ : ByteArray) (some ⟨g9,0, none⟩) 4194304 (lz9.take 1) _ _ hc21) (asK [0] rfl) rfl (H' := []) rfl ?_))))))
       rintro _ _ _ ⟨rfl, rfl, rfl⟩
       refine wl_nil (we_x [1,2,3,4] [] rfl rfl (xS hok 13 rfl (wl_fact (.sli 1 R_u8 none 0 ([] : List Int)) (fun _ _ _ => sli_none) (wC [0,1] [] rfl fn_11 rfl (w_disk_Disk_Append_s N c8_0 (maxI 1099511627776 0) c8_1 v21_1 (⟨#[97]⟩ : ByteArray) none 0 ([] : List Int) _ _ hc23) (asK [0] rfl) rfl (H' := []) rfl ?_))))
       rintro _ _ _ ⟨rfl, rfl, rfl⟩
       refine wl_nil (we_x [1,2,3,4,5] [] rfl rfl (xS hok 17 rfl (wC [0,1] [] rfl fn_11 rfl (w_disk_Disk_Append_s N c8_0 (maxI 1099511627776 0) c8_1 v23_1 (⟨#[98]⟩ : ByteArray) (some ⟨g9,0, none⟩) 4194304 (lz9.take 1) _ _ hc27) (asK [1] rfl) rfl (H' := []) rfl ?_)))
       rintro _ _ _ ⟨rfl, rfl, rfl⟩
       refine wl_nil (we_x [0,1,2,3,4,5] [] rfl rfl (xS hok 18 rfl (wl_buildSlice rfl rfl rfl (freshS_eq rfl) rfl tE_66 tS_28 tZ_28 rfl (zs := [.int .i64 0, .int .i64 0, .int .i64 0, .int .i64 0, .int .i64 0]) (by kernel_rfl) rfl (out := [_,_,_,_,_]) rfl (fun g28 => (wl_nil (we_x [0,1,2,3,4,5] [] rfl rfl (xS hok 19 rfl (wP rfl (wl_nil (we_x [0,1,2,3,4,5] [] rfl rfl (wx_done hok rfl ?_)))))))))))
       refine we_join g28 trivial [3,1] rfl (asK [] rfl) rfl
     ·
      refine wl_ownSpot 1 rfl (fun hsp26 hcm26 => (wl_sliceTo rfl rfl rfl (freshS_eq rfl) rfl rfl rfl rfl tE_27 tS_5 (Nat.le_trans hg26 (by rw [← hcm26.2]; exact hcm26.1)) hsp26 (wl_nil (we_x [] [] rfl rfl (xS hok 4 rfl (wl_freeze 0 rfl (H' := [_,_,_]) rfl (wl_fact (.sli 1 R_u8 p13 c13 (lz9 ++ [0])) (fun F w hφ => own_sli (hφ _ (mem_at (k := 0) rfl))) (wC [1,2] [0] rfl fn_11 rfl (w_disk_Disk_Append_s N c8_0 (maxI 1099511627776 0) c8_1 ([] : List (ByteArray × Disk_rowsD)) (⟨#[97]⟩ : ByteArray) p13 c13 (lz9 ++ [0]) _ _ hc14) (asK [0] rfl) rfl (H' := [_]) rfl ?_))))))))
      rintro _ _ _ ⟨rfl, rfl, rfl⟩
      refine wl_nil (we_x [] [] rfl rfl (xS hok 7 rfl (wl_ownLen 2 rfl (fun hz25 _ => (wl_at 5 (v' := .slice (some ⟨g9,0, none⟩) lz9.length 4194304) rfl (by rw [hz25]) (wl_at 8 (v' := .slice (some ⟨g9,0, none⟩) lz9.length 4194304) rfl (by rw [hz25]) (wl_at 10 (v' := .slice (some ⟨g9,0, none⟩) lz9.length 4194304) rfl (by rw [hz25]) (wl_at 12 (v' := .slice (some ⟨g9,0, none⟩) lz9.length 4194304) rfl (by rw [hz25]) (wl_at 14 (v' := .slice (some ⟨g9,0, none⟩) lz9.length 4194304) rfl (by rw [hz25]) (wl_hAs 2 (φ' := .own 5 1 R_u8 (.slice (some ⟨g9,0, none⟩) lz9.length 4194304) lz9) rfl (by rw [hz25]) (H' := [_,_,_]) rfl (wl_freeze 2 rfl (H' := [_,_]) rfl (wl_fact (.sli 1 R_u8 (some ⟨g9,0, none⟩) 4194304 lz9) (fun F w hφ => own_sli (hφ _ (mem_at (k := 0) rfl))) (wC [0,1] [] rfl fn_11 rfl (w_disk_Disk_Append_s N c8_0 (maxI 1099511627776 0) c8_1 v14_1 (⟨#[97]⟩ : ByteArray) (some ⟨g9,0, none⟩) 4194304 lz9 _ _ hc17) (asK [0] rfl) rfl (H' := []) rfl ?_)))))))))))))
      rintro _ _ _ ⟨rfl, rfl, rfl⟩
      refine wl_nil (we_x [2,3] [] rfl rfl (xS hok 11 rfl (wl_fact (.sli 1 R_u8 (some ⟨g9,0, none⟩) 4194304 (lz9.take 1)) (fun _ _ hφ => view_to (hφ _ (mem_at (k := 0) rfl)) 1) (wl_at 2 (v' := .slice (some ⟨g9,0, none⟩) ((lz9.take 1).length) 4194304) rfl (take_slice hg26) (wl_at 5 (v' := .slice (some ⟨g9,0, none⟩) ((lz9.take 1).length) 4194304) rfl (take_slice hg26) (wC [0,1] [] rfl fn_11 rfl (w_disk_Disk_Append_s N c8_0 (maxI 1099511627776 0) c8_1 v17_1 (⟨#[97]⟩ : ByteArray) (some ⟨g9,0, none⟩) 4194304 (lz9.take 1) _ _ hc21) (asK [0] rfl) rfl (H' := []) rfl ?_))))))
      rintro _ _ _ ⟨rfl, rfl, rfl⟩
      refine wl_nil (we_x [1,2,3,4] [] rfl rfl (xS hok 13 rfl (wl_fact (.sli 1 R_u8 none 0 ([] : List Int)) (fun _ _ _ => sli_none) (wC [0,1] [] rfl fn_11 rfl (w_disk_Disk_Append_s N c8_0 (maxI 1099511627776 0) c8_1 v21_1 (⟨#[97]⟩ : ByteArray) none 0 ([] : List Int) _ _ hc23) (asK [0] rfl) rfl (H' := []) rfl ?_))))
      rintro _ _ _ ⟨rfl, rfl, rfl⟩
      refine wl_nil (we_x [1,2,3,4,5] [] rfl rfl (xS hok 17 rfl (wC [0,1] [] rfl fn_11 rfl (w_disk_Disk_Append_s N c8_0 (maxI 1099511627776 0) c8_1 v23_1 (⟨#[98]⟩ : ByteArray) (some ⟨g9,0, none⟩) 4194304 (lz9.take 1) _ _ hc27) (asK [1] rfl) rfl (H' := []) rfl ?_)))
      rintro _ _ _ ⟨rfl, rfl, rfl⟩
      refine wl_nil (we_x [0,1,2,3,4,5] [] rfl rfl (xS hok 18 rfl (wl_buildSlice rfl rfl rfl (freshS_eq rfl) rfl tE_66 tS_28 tZ_28 rfl (zs := [.int .i64 0, .int .i64 0, .int .i64 0, .int .i64 0, .int .i64 0]) (by kernel_rfl) rfl (out := [_,_,_,_,_]) rfl (fun g28 => (wl_nil (we_x [0,1,2,3,4,5] [] rfl rfl (xS hok 19 rfl (wP rfl (wl_nil (we_x [0,1,2,3,4,5] [] rfl rfl (wx_done hok rfl ?_)))))))))))
      refine we_join g28 trivial [3,1] rfl (asK [] rfl) rfl
    ·
     refine wl_ownSpot 1 rfl (fun hsp26 hcm26 => (wl_sliceTo rfl rfl rfl (freshS_eq rfl) rfl rfl rfl rfl tE_27 tS_5 (Nat.le_trans hg26 (by rw [← hcm26.2]; exact hcm26.1)) hsp26 (wl_nil (we_x [] [] rfl rfl (xS hok 3 rfl (wl_appendN [0] 1 0 rfl rfl rfl (freshS_eq rfl) rfl rfl rfl rfl rfl (fun F w hφ => ⟨[.int .u8 0],[], rfl, rfl, ⟨(), rfl, ask_nil⟩, rfl⟩) (by decide) tE_27 tR_5 rfl rfl (Nat.le_trans hg13 (by decide)) (Nat.le_trans (Nat.mul_le_mul_right _ hg13) (by decide)) (fun p13 c13 => (wl_drop 1 rfl (H' := [_,_,_,_]) rfl (wl_nil (we_x [] [] rfl rfl (xS hok 4 rfl (wl_freeze 0 rfl (H' := [_,_,_]) rfl (wl_fact (.sli 1 R_u8 p13 c13 (lz9 ++ [0])) (fun F w hφ => own_sli (hφ _ (mem_at (k := 0) rfl))) (wC [1,2] [0] rfl fn_11 rfl (w_disk_Disk_Append_s N c8_0 (maxI 1099511627776 0) c8_1 ([] : List (ByteArray × Disk_rowsD)) (⟨#[97]⟩ : ByteArray) p13 c13 (lz9 ++ [0]) _ _ hc14) (asK [0] rfl) rfl (H' := [_]) rfl ?_))))))))))))))
     rintro _ _ _ ⟨rfl, rfl, rfl⟩
     refine wl_nil (we_x [] [] rfl rfl (xS hok 7 rfl (wl_ownLen 2 rfl (fun hz26 _ => (wl_at 5 (v' := .slice (some ⟨g9,0, none⟩) lz9.length 4194304) rfl (by rw [hz26]) (wl_at 8 (v' := .slice (some ⟨g9,0, none⟩) lz9.length 4194304) rfl (by rw [hz26]) (wl_at 10 (v' := .slice (some ⟨g9,0, none⟩) lz9.length 4194304) rfl (by rw [hz26]) (wl_at 12 (v' := .slice (some ⟨g9,0, none⟩) lz9.length 4194304) rfl (by rw [hz26]) (wl_at 14 (v' := .slice (some ⟨g9,0, none⟩) lz9.length 4194304) rfl (by rw [hz26]) (wl_hAs 2 (φ' := .own 5 1 R_u8 (.slice (some ⟨g9,0, none⟩) lz9.length 4194304) lz9) rfl (by rw [hz26]) (H' := [_,_,_]) rfl (wl_freeze 2 rfl (H' := [_,_]) rfl (wl_fact (.sli 1 R_u8 (some ⟨g9,0, none⟩) 4194304 lz9) (fun F w hφ => own_sli (hφ _ (mem_at (k := 0) rfl))) (wC [0,1] [] rfl fn_11 rfl (w_disk_Disk_Append_s N c8_0 (maxI 1099511627776 0) c8_1 v14_1 (⟨#[97]⟩ : ByteArray) (some ⟨g9,0, none⟩) 4194304 lz9 _ _ hc17) (asK [0] rfl) rfl (H' := []) rfl ?_)))))))))))))
     rintro _ _ _ ⟨rfl, rfl, rfl⟩
     refine wl_nil (we_x [2,3] [] rfl rfl (xS hok 11 rfl (wl_fact (.sli 1 R_u8 (some ⟨g9,0, none⟩) 4194304 (lz9.take 1)) (fun _ _ hφ => view_to (hφ _ (mem_at (k := 0) rfl)) 1) (wl_at 3 (v' := .slice (some ⟨g9,0, none⟩) ((lz9.take 1).length) 4194304) rfl (take_slice hg26) (wl_at 5 (v' := .slice (some ⟨g9,0, none⟩) ((lz9.take 1).length) 4194304) rfl (take_slice hg26) (wC [0,1] [] rfl fn_11 rfl (w_disk_Disk_Append_s N c8_0 (maxI 1099511627776 0) c8_1 v17_1 (⟨#[97]⟩ : ByteArray) (some ⟨g9,0, none⟩) 4194304 (lz9.take 1) _ _ hc21) (asK [0] rfl) rfl (H' := []) rfl ?_))))))
     rintro _ _ _ ⟨rfl, rfl, rfl⟩
     refine wl_nil (we_x [1,2,3,4] [] rfl rfl (xS hok 13 rfl (wl_fact (.sli 1 R_u8 none 0 ([] : List Int)) (fun _ _ _ => sli_none) (wC [0,1] [] rfl fn_11 rfl (w_disk_Disk_Append_s N c8_0 (maxI 1099511627776 0) c8_1 v21_1 (⟨#[97]⟩ : ByteArray) none 0 ([] : List Int) _ _ hc23) (asK [0] rfl) rfl (H' := []) rfl ?_))))
     rintro _ _ _ ⟨rfl, rfl, rfl⟩
     refine wl_nil (we_x [1,2,3,4,5] [] rfl rfl (xS hok 17 rfl (wC [0,1] [] rfl fn_11 rfl (w_disk_Disk_Append_s N c8_0 (maxI 1099511627776 0) c8_1 v23_1 (⟨#[98]⟩ : ByteArray) (some ⟨g9,0, none⟩) 4194304 (lz9.take 1) _ _ hc27) (asK [1] rfl) rfl (H' := []) rfl ?_)))
     rintro _ _ _ ⟨rfl, rfl, rfl⟩
     refine wl_nil (we_x [0,1,2,3,4,5] [] rfl rfl (xS hok 18 rfl (wl_buildSlice rfl rfl rfl (freshS_eq rfl) rfl tE_66 tS_28 tZ_28 rfl (zs := [.int .i64 0, .int .i64 0, .int .i64 0, .int .i64 0, .int .i64 0]) (by kernel_rfl) rfl (out := [_,_,_,_,_]) rfl (fun g28 => (wl_nil (we_x [0,1,2,3,4,5] [] rfl rfl (xS hok 19 rfl (wP rfl (wl_nil (we_x [0,1,2,3,4,5] [] rfl rfl (wx_done hok rfl ?_)))))))))))
     refine we_join g28 trivial [3,1] rfl (asK [] rfl) rfl
   ·
    refine wl_ownSpot 0 rfl (fun hsp26 hcm26 => (wl_sliceTo rfl rfl rfl (freshS_eq rfl) rfl rfl rfl rfl tE_27 tS_5 (Nat.le_trans hg26 (by rw [← hcm26.2]; exact hcm26.1)) hsp26 (wl_nil (we_x [] [] rfl rfl (xS hok 2 rfl (wl_buildSlice rfl rfl rfl (freshS_eq rfl) rfl tE_27 tS_5 tZ_5 rfl (zs := [.int .u8 0]) (by kernel_rfl) rfl (out := [_]) rfl (fun g12 => (wl_nil (we_x [] [] rfl rfl (xS hok 3 rfl (wl_appendN [0] 1 0 rfl rfl rfl (freshS_eq rfl) rfl rfl rfl rfl rfl (fun F w hφ => ⟨[.int .u8 0],[], rfl, rfl, ⟨(), rfl, ask_nil⟩, rfl⟩) (by decide) tE_27 tR_5 rfl rfl (Nat.le_trans hg13 (by decide)) (Nat.le_trans (Nat.mul_le_mul_right _ hg13) (by decide)) (fun p13 c13 => (wl_drop 1 rfl (H' := [_,_,_,_]) rfl (wl_nil (we_x [] [] rfl rfl (xS hok 4 rfl ?_))))))))))))))))
    refine wl_freeze 0 rfl (H' := [_,_,_]) rfl (wl_fact (.sli 1 R_u8 p13 c13 (lz9 ++ [0])) (fun F w hφ => own_sli (hφ _ (mem_at (k := 0) rfl))) (wC [1,2] [0] rfl fn_11 rfl (w_disk_Disk_Append_s N c8_0 (maxI 1099511627776 0) c8_1 ([] : List (ByteArray × Disk_rowsD)) (⟨#[97]⟩ : ByteArray) p13 c13 (lz9 ++ [0]) _ _ hc14) (asK [0] rfl) rfl (H' := [_]) rfl ?_))
    rintro _ _ _ ⟨rfl, rfl, rfl⟩
    refine wl_nil (we_x [] [] rfl rfl (xS hok 7 rfl (wl_ownLen 2 rfl (fun hz27 _ => (wl_at 5 (v' := .slice (some ⟨g9,0, none⟩) lz9.length 4194304) rfl (by rw [hz27]) (wl_at 8 (v' := .slice (some ⟨g9,0, none⟩) lz9.length 4194304) rfl (by rw [hz27]) (wl_at 10 (v' := .slice (some ⟨g9,0, none⟩) lz9.length 4194304) rfl (by rw [hz27]) (wl_at 12 (v' := .slice (some ⟨g9,0, none⟩) lz9.length 4194304) rfl (by rw [hz27]) (wl_at 14 (v' := .slice (some ⟨g9,0, none⟩) lz9.length 4194304) rfl (by rw [hz27]) (wl_hAs 2 (φ' := .own 5 1 R_u8 (.slice (some ⟨g9,0, none⟩) lz9.length 4194304) lz9) rfl (by rw [hz27]) (H' := [_,_,_]) rfl (wl_freeze 2 rfl (H' := [_,_]) rfl (wl_fact (.sli 1 R_u8 (some ⟨g9,0, none⟩) 4194304 lz9) (fun F w hφ => own_sli (hφ _ (mem_at (k := 0) rfl))) (wC [0,1] [] rfl fn_11 rfl (w_disk_Disk_Append_s N c8_0 (maxI 1099511627776 0) c8_1 v14_1 (⟨#[97]⟩ : ByteArray) (some ⟨g9,0, none⟩) 4194304 lz9 _ _ hc17) (asK [0] rfl) rfl (H' := []) rfl ?_)))))))))))))
    rintro _ _ _ ⟨rfl, rfl, rfl⟩
    refine wl_nil (we_x [2,3] [] rfl rfl (xS hok 11 rfl (wl_fact (.sli 1 R_u8 (some ⟨g9,0, none⟩) 4194304 (lz9.take 1)) (fun _ _ hφ => view_to (hφ _ (mem_at (k := 0) rfl)) 1) (wl_at 4 (v' := .slice (some ⟨g9,0, none⟩) ((lz9.take 1).length) 4194304) rfl (take_slice hg26) (wl_at 5 (v' := .slice (some ⟨g9,0, none⟩) ((lz9.take 1).length) 4194304) rfl (take_slice hg26) (wC [0,1] [] rfl fn_11 rfl (w_disk_Disk_Append_s N c8_0 (maxI 1099511627776 0) c8_1 v17_1 (⟨#[97]⟩ : ByteArray) (some ⟨g9,0, none⟩) 4194304 (lz9.take 1) _ _ hc21) (asK [0] rfl) rfl (H' := []) rfl ?_))))))
    rintro _ _ _ ⟨rfl, rfl, rfl⟩
    refine wl_nil (we_x [1,2,3,4] [] rfl rfl (xS hok 13 rfl (wl_fact (.sli 1 R_u8 none 0 ([] : List Int)) (fun _ _ _ => sli_none) (wC [0,1] [] rfl fn_11 rfl (w_disk_Disk_Append_s N c8_0 (maxI 1099511627776 0) c8_1 v21_1 (⟨#[97]⟩ : ByteArray) none 0 ([] : List Int) _ _ hc23) (asK [0] rfl) rfl (H' := []) rfl ?_))))
    rintro _ _ _ ⟨rfl, rfl, rfl⟩
    refine wl_nil (we_x [1,2,3,4,5] [] rfl rfl (xS hok 17 rfl (wC [0,1] [] rfl fn_11 rfl (w_disk_Disk_Append_s N c8_0 (maxI 1099511627776 0) c8_1 v23_1 (⟨#[98]⟩ : ByteArray) (some ⟨g9,0, none⟩) 4194304 (lz9.take 1) _ _ hc27) (asK [1] rfl) rfl (H' := []) rfl ?_)))
    rintro _ _ _ ⟨rfl, rfl, rfl⟩
    refine wl_nil (we_x [0,1,2,3,4,5] [] rfl rfl (xS hok 18 rfl (wl_buildSlice rfl rfl rfl (freshS_eq rfl) rfl tE_66 tS_28 tZ_28 rfl (zs := [.int .i64 0, .int .i64 0, .int .i64 0, .int .i64 0, .int .i64 0]) (by kernel_rfl) rfl (out := [_,_,_,_,_]) rfl (fun g28 => (wl_nil (we_x [0,1,2,3,4,5] [] rfl rfl (xS hok 19 rfl (wP rfl (wl_nil (we_x [0,1,2,3,4,5] [] rfl rfl (wx_done hok rfl ?_)))))))))))
    refine we_join g28 trivial [3,1] rfl (asK [] rfl) rfl
  ·
   refine wl_ownSpot 0 rfl (fun hsp26 hcm26 => (wl_sliceTo rfl rfl rfl (freshS_eq rfl) rfl rfl rfl rfl tE_27 tS_5 (Nat.le_trans hg26 (by rw [← hcm26.2]; exact hcm26.1)) hsp26 (wl_nil (we_x [] [] rfl rfl ?_))))
   refine wx_step2 hok 2 10 rfl rfl rfl rfl rfl rfl ?_ ?_
   ·
    refine wl_buildSlice rfl rfl rfl (freshS_eq rfl) rfl tE_27 tS_5 tZ_5 rfl (zs := [.int .u8 0]) (by kernel_rfl) rfl (out := [_]) rfl (fun g12 => (wl_nil (we_x [] [] rfl rfl ?_)))
    refine wx_step2 hok 3 10 rfl rfl rfl rfl rfl rfl ?_ ?_
    ·
     refine wl_appendN [0] 1 0 rfl rfl rfl (freshS_eq rfl) rfl rfl rfl rfl rfl (fun F w hφ => ⟨[.int .u8 0],[], rfl, rfl, ⟨(), rfl, ask_nil⟩, rfl⟩) (by decide) tE_27 tR_5 rfl rfl (Nat.le_trans hg13 (by decide)) (Nat.le_trans (Nat.mul_le_mul_right _ hg13) (by decide)) (fun p13 c13 => (wl_drop 1 rfl (H' := [_,_,_,_]) rfl (wl_nil (we_x [] [] rfl rfl ?_))))
     refine wx_step2 hok 4 10 rfl rfl rfl rfl rfl rfl ?_ ?_
     ·
      refine wl_freeze 0 rfl (H' := [_,_,_]) rfl (wl_fact (.sli 1 R_u8 p13 c13 (lz9 ++ [0])) (fun F w hφ => own_sli (hφ _ (mem_at (k := 0) rfl))) (wC [1,2] [0] rfl fn_11 rfl (w_disk_Disk_Append_s N c8_0 (maxI 1099511627776 0) c8_1 ([] : List (ByteArray × Disk_rowsD)) (⟨#[97]⟩ : ByteArray) p13 c13 (lz9 ++ [0]) _ _ hc14) (asK [0] rfl) rfl (H' := [_]) rfl ?_))
      rintro _ _ _ ⟨rfl, rfl, rfl⟩
      refine wl_nil (we_x [] [] rfl rfl ?_)
      refine wx_step2 hok 7 10 rfl rfl rfl rfl rfl rfl ?_ ?_
      ·
       refine wl_ownLen 2 rfl (fun hz28 _ => (wl_at 4 (v' := .slice (some ⟨g9,0, none⟩) lz9.length 4194304) rfl (by rw [hz28]) (wl_at 7 (v' := .slice (some ⟨g9,0, none⟩) lz9.length 4194304) rfl (by rw [hz28]) (wl_at 9 (v' := .slice (some ⟨g9,0, none⟩) lz9.length 4194304) rfl (by rw [hz28]) (wl_at 11 (v' := .slice (some ⟨g9,0, none⟩) lz9.length 4194304) rfl (by rw [hz28]) (wl_at 13 (v' := .slice (some ⟨g9,0, none⟩) lz9.length 4194304) rfl (by rw [hz28]) (wl_hAs 2 (φ' := .own 5 1 R_u8 (.slice (some ⟨g9,0, none⟩) lz9.length 4194304) lz9) rfl (by rw [hz28]) (H' := [_,_,_]) rfl (wl_freeze 2 rfl (H' := [_,_]) rfl (wl_fact (.sli 1 R_u8 (some ⟨g9,0, none⟩) 4194304 lz9) (fun F w hφ => own_sli (hφ _ (mem_at (k := 0) rfl))) (wC [0,1] [] rfl fn_11 rfl (w_disk_Disk_Append_s N c8_0 (maxI 1099511627776 0) c8_1 v14_1 (⟨#[97]⟩ : ByteArray) (some ⟨g9,0, none⟩) 4194304 lz9 _ _ hc17) (asK [0] rfl) rfl (H' := []) rfl ?_))))))))))
       rintro _ _ _ ⟨rfl, rfl, rfl⟩
       refine wl_nil (we_x [2,3] [] rfl rfl (xS hok 10 rfl (wl_sliTo 0 rfl rfl rfl (freshS_eq rfl) rfl rfl rfl rfl rfl tE_27 tS_5 hg20 (fun p20 => (wl_nil (we_x [1,2,3,4] [] rfl rfl (xS hok 11 rfl (wC [0,1] [] rfl fn_11 rfl (w_disk_Disk_Append_s N c8_0 (maxI 1099511627776 0) c8_1 v17_1 (⟨#[97]⟩ : ByteArray) p20 4194304 (lz9.take 1) _ _ hc21) (asK [0] rfl) rfl (H' := []) rfl ?_))))))))
       rintro _ _ _ ⟨rfl, rfl, rfl⟩
       refine wl_nil (we_x [0,1,2,3,4] [] rfl rfl (xS hok 13 rfl (wl_fact (.sli 1 R_u8 none 0 ([] : List Int)) (fun _ _ _ => sli_none) (wC [0,1] [] rfl fn_11 rfl (w_disk_Disk_Append_s N c8_0 (maxI 1099511627776 0) c8_1 v21_1 (⟨#[97]⟩ : ByteArray) none 0 ([] : List Int) _ _ hc23) (asK [0] rfl) rfl (H' := []) rfl ?_))))
       rintro _ _ _ ⟨rfl, rfl, rfl⟩
       refine wl_nil (we_x [1,2,3,4,5] [] rfl rfl (xS hok 17 rfl (wl_fact (.sli 1 R_u8 (some ⟨g9,0, none⟩) 4194304 (lz9.take 1)) (fun _ _ hφ => view_to (hφ _ (mem_at (k := 2) rfl)) 1) (wl_at 7 (v' := .slice (some ⟨g9,0, none⟩) ((lz9.take 1).length) 4194304) rfl (take_slice hg26) (wC [0,1] [] rfl fn_11 rfl (w_disk_Disk_Append_s N c8_0 (maxI 1099511627776 0) c8_1 v23_1 (⟨#[98]⟩ : ByteArray) (some ⟨g9,0, none⟩) 4194304 (lz9.take 1) _ _ hc27) (asK [0] rfl) rfl (H' := []) rfl ?_)))))
       rintro _ _ _ ⟨rfl, rfl, rfl⟩
       refine wl_nil (we_x [1,2,3,4,5,6] [] rfl rfl (xS hok 18 rfl (wl_buildSlice rfl rfl rfl (freshS_eq rfl) rfl tE_66 tS_28 tZ_28 rfl (zs := [.int .i64 0, .int .i64 0, .int .i64 0, .int .i64 0, .int .i64 0]) (by kernel_rfl) rfl (out := [_,_,_,_,_]) rfl (fun g28 => (wl_nil (we_x [0,1,2,3,4,5,6] [] rfl rfl (xS hok 19 rfl (wP rfl (wl_nil (we_x [0,1,2,3,4,5,6] [] rfl rfl (wx_done hok rfl ?_)))))))))))
       refine we_join g28 trivial [3,1] rfl (asK [] rfl) rfl
      ·
       refine wl_ownSpot 2 rfl (fun hsp20 hcm20 => (wl_sliceTo rfl rfl rfl (freshS_eq rfl) rfl rfl rfl rfl tE_27 tS_5 (Nat.le_trans hg20 (by rw [← hcm20.2]; exact hcm20.1)) hsp20 (wl_nil (we_x [0,1] [] rfl rfl (xS hok 7 rfl (wl_ownLen 2 rfl (fun hz29 _ => (wl_at 5 (v' := .slice (some ⟨g9,0, none⟩) lz9.length 4194304) rfl (by rw [hz29]) (wl_at 8 (v' := .slice (some ⟨g9,0, none⟩) lz9.length 4194304) rfl (by rw [hz29]) (wl_at 10 (v' := .slice (some ⟨g9,0, none⟩) lz9.length 4194304) rfl (by rw [hz29]) (wl_at 12 (v' := .slice (some ⟨g9,0, none⟩) lz9.length 4194304) rfl (by rw [hz29]) (wl_at 14 (v' := .slice (some ⟨g9,0, none⟩) lz9.length 4194304) rfl (by rw [hz29]) (wl_hAs 2 (φ' := .own 5 1 R_u8 (.slice (some ⟨g9,0, none⟩) lz9.length 4194304) lz9) rfl (by rw [hz29]) (H' := [_,_,_]) rfl (wl_freeze 2 rfl (H' := [_,_]) rfl (wl_fact (.sli 1 R_u8 (some ⟨g9,0, none⟩) 4194304 lz9) (fun F w hφ => own_sli (hφ _ (mem_at (k := 0) rfl))) ?_)))))))))))))))
       refine wC [0,1] [] rfl fn_11 rfl (w_disk_Disk_Append_s N c8_0 (maxI 1099511627776 0) c8_1 v14_1 (⟨#[97]⟩ : ByteArray) (some ⟨g9,0, none⟩) 4194304 lz9 _ _ hc17) (asK [0] rfl) rfl (H' := []) rfl ?_
       rintro _ _ _ ⟨rfl, rfl, rfl⟩
       refine wl_nil (we_x [2,3] [] rfl rfl (xS hok 11 rfl (wl_fact (.sli 1 R_u8 (some ⟨g9,0, none⟩) 4194304 (lz9.take 1)) (fun _ _ hφ => view_to (hφ _ (mem_at (k := 0) rfl)) 1) (wl_at 1 (v' := .slice (some ⟨g9,0, none⟩) ((lz9.take 1).length) 4194304) rfl (take_slice hg20) (wl_at 5 (v' := .slice (some ⟨g9,0, none⟩) ((lz9.take 1).length) 4194304) rfl (take_slice hg20) (wC [0,1] [] rfl fn_11 rfl (w_disk_Disk_Append_s N c8_0 (maxI 1099511627776 0) c8_1 v17_1 (⟨#[97]⟩ : ByteArray) (some ⟨g9,0, none⟩) 4194304 (lz9.take 1) _ _ hc21) (asK [0] rfl) rfl (H' := []) rfl ?_))))))
       rintro _ _ _ ⟨rfl, rfl, rfl⟩
       refine wl_nil (we_x [1,2,3,4] [] rfl rfl (xS hok 13 rfl (wl_fact (.sli 1 R_u8 none 0 ([] : List Int)) (fun _ _ _ => sli_none) (wC [0,1] [] rfl fn_11 rfl (w_disk_Disk_Append_s N c8_0 (maxI 1099511627776 0) c8_1 v21_1 (⟨#[97]⟩ : ByteArray) none 0 ([] : List Int) _ _ hc23) (asK [0] rfl) rfl (H' := []) rfl ?_))))
       rintro _ _ _ ⟨rfl, rfl, rfl⟩
       refine wl_nil (we_x [1,2,3,4,5] [] rfl rfl (xS hok 17 rfl (wC [0,1] [] rfl fn_11 rfl (w_disk_Disk_Append_s N c8_0 (maxI 1099511627776 0) c8_1 v23_1 (⟨#[98]⟩ : ByteArray) (some ⟨g9,0, none⟩) 4194304 (lz9.take 1) _ _ hc27) (asK [1] rfl) rfl (H' := []) rfl ?_)))
       rintro _ _ _ ⟨rfl, rfl, rfl⟩
       refine wl_nil (we_x [0,1,2,3,4,5] [] rfl rfl (xS hok 18 rfl (wl_buildSlice rfl rfl rfl (freshS_eq rfl) rfl tE_66 tS_28 tZ_28 rfl (zs := [.int .i64 0, .int .i64 0, .int .i64 0, .int .i64 0, .int .i64 0]) (by kernel_rfl) rfl (out := [_,_,_,_,_]) rfl (fun g28 => (wl_nil (we_x [0,1,2,3,4,5] [] rfl rfl (xS hok 19 rfl (wP rfl (wl_nil (we_x [0,1,2,3,4,5] [] rfl rfl (wx_done hok rfl ?_)))))))))))
       refine we_join g28 trivial [3,1] rfl (asK [] rfl) rfl
     ·
      refine wl_ownSpot 1 rfl (fun hsp20 hcm20 => (wl_sliceTo rfl rfl rfl (freshS_eq rfl) rfl rfl rfl rfl tE_27 tS_5 (Nat.le_trans hg20 (by rw [← hcm20.2]; exact hcm20.1)) hsp20 (wl_nil (we_x [] [] rfl rfl (xS hok 4 rfl (wl_freeze 0 rfl (H' := [_,_,_]) rfl (wl_fact (.sli 1 R_u8 p13 c13 (lz9 ++ [0])) (fun F w hφ => own_sli (hφ _ (mem_at (k := 0) rfl))) (wC [1,2] [0] rfl fn_11 rfl (w_disk_Disk_Append_s N c8_0 (maxI 1099511627776 0) c8_1 ([] : List (ByteArray × Disk_rowsD)) (⟨#[97]⟩ : ByteArray) p13 c13 (lz9 ++ [0]) _ _ hc14) (asK [0] rfl) rfl (H' := [_]) rfl ?_))))))))
      rintro _ _ _ ⟨rfl, rfl, rfl⟩
      refine wl_nil (we_x [] [] rfl rfl (xS hok 7 rfl (wl_ownLen 2 rfl (fun hz30 _ => (wl_at 5 (v' := .slice (some ⟨g9,0, none⟩) lz9.length 4194304) rfl (by rw [hz30]) (wl_at 8 (v' := .slice (some ⟨g9,0, none⟩) lz9.length 4194304) rfl (by rw [hz30]) (wl_at 10 (v' := .slice (some ⟨g9,0, none⟩) lz9.length 4194304) rfl (by rw [hz30]) (wl_at 12 (v' := .slice (some ⟨g9,0, none⟩) lz9.length 4194304) rfl (by rw [hz30]) (wl_at 14 (v' := .slice (some ⟨g9,0, none⟩) lz9.length 4194304) rfl (by rw [hz30]) (wl_hAs 2 (φ' := .own 5 1 R_u8 (.slice (some ⟨g9,0, none⟩) lz9.length 4194304) lz9) rfl (by rw [hz30]) (H' := [_,_,_]) rfl (wl_freeze 2 rfl (H' := [_,_]) rfl (wl_fact (.sli 1 R_u8 (some ⟨g9,0, none⟩) 4194304 lz9) (fun F w hφ => own_sli (hφ _ (mem_at (k := 0) rfl))) (wC [0,1] [] rfl fn_11 rfl (w_disk_Disk_Append_s N c8_0 (maxI 1099511627776 0) c8_1 v14_1 (⟨#[97]⟩ : ByteArray) (some ⟨g9,0, none⟩) 4194304 lz9 _ _ hc17) (asK [0] rfl) rfl (H' := []) rfl ?_)))))))))))))
      rintro _ _ _ ⟨rfl, rfl, rfl⟩
      refine wl_nil (we_x [2,3] [] rfl rfl (xS hok 11 rfl (wl_fact (.sli 1 R_u8 (some ⟨g9,0, none⟩) 4194304 (lz9.take 1)) (fun _ _ hφ => view_to (hφ _ (mem_at (k := 0) rfl)) 1) (wl_at 2 (v' := .slice (some ⟨g9,0, none⟩) ((lz9.take 1).length) 4194304) rfl (take_slice hg20) (wl_at 5 (v' := .slice (some ⟨g9,0, none⟩) ((lz9.take 1).length) 4194304) rfl (take_slice hg20) (wC [0,1] [] rfl fn_11 rfl (w_disk_Disk_Append_s N c8_0 (maxI 1099511627776 0) c8_1 v17_1 (⟨#[97]⟩ : ByteArray) (some ⟨g9,0, none⟩) 4194304 (lz9.take 1) _ _ hc21) (asK [0] rfl) rfl (H' := []) rfl ?_))))))
      rintro _ _ _ ⟨rfl, rfl, rfl⟩
      refine wl_nil (we_x [1,2,3,4] [] rfl rfl (xS hok 13 rfl (wl_fact (.sli 1 R_u8 none 0 ([] : List Int)) (fun _ _ _ => sli_none) (wC [0,1] [] rfl fn_11 rfl (w_disk_Disk_Append_s N c8_0 (maxI 1099511627776 0) c8_1 v21_1 (⟨#[97]⟩ : ByteArray) none 0 ([] : List Int) _ _ hc23) (asK [0] rfl) rfl (H' := []) rfl ?_))))
      rintro _ _ _ ⟨rfl, rfl, rfl⟩
      refine wl_nil (we_x [1,2,3,4,5] [] rfl rfl (xS hok 17 rfl (wC [0,1] [] rfl fn_11 rfl (w_disk_Disk_Append_s N c8_0 (maxI 1099511627776 0) c8_1 v23_1 (⟨#[98]⟩ : ByteArray) (some ⟨g9,0, none⟩) 4194304 (lz9.take 1) _ _ hc27) (asK [1] rfl) rfl (H' := []) rfl ?_)))
      rintro _ _ _ ⟨rfl, rfl, rfl⟩
      refine wl_nil (we_x [0,1,2,3,4,5] [] rfl rfl (xS hok 18 rfl (wl_buildSlice rfl rfl rfl (freshS_eq rfl) rfl tE_66 tS_28 tZ_28 rfl (zs := [.int .i64 0, .int .i64 0, .int .i64 0, .int .i64 0, .int .i64 0]) (by kernel_rfl) rfl (out := [_,_,_,_,_]) rfl (fun g28 => (wl_nil (we_x [0,1,2,3,4,5] [] rfl rfl (xS hok 19 rfl (wP rfl (wl_nil (we_x [0,1,2,3,4,5] [] rfl rfl (wx_done hok rfl ?_)))))))))))
      refine we_join g28 trivial [3,1] rfl (asK [] rfl) rfl
    ·
     refine wl_ownSpot 1 rfl (fun hsp20 hcm20 => (wl_sliceTo rfl rfl rfl (freshS_eq rfl) rfl rfl rfl rfl tE_27 tS_5 (Nat.le_trans hg20 (by rw [← hcm20.2]; exact hcm20.1)) hsp20 (wl_nil (we_x [] [] rfl rfl (xS hok 3 rfl (wl_appendN [0] 1 0 rfl rfl rfl (freshS_eq rfl) rfl rfl rfl rfl rfl (fun F w hφ => ⟨[.int .u8 0],[], rfl, rfl, ⟨(), rfl, ask_nil⟩, rfl⟩) (by decide) tE_27 tR_5 rfl rfl (Nat.le_trans hg13 (by decide)) (Nat.le_trans (Nat.mul_le_mul_right _ hg13) (by decide)) (fun p13 c13 => (wl_drop 1 rfl (H' := [_,_,_,_]) rfl (wl_nil (we_x [] [] rfl rfl (xS hok 4 rfl (wl_freeze 0 rfl (H' := [_,_,_]) rfl (wl_fact (.sli 1 R_u8 p13 c13 (lz9 ++ [0])) (fun F w hφ => own_sli (hφ _ (mem_at (k := 0) rfl))) (wC [1,2] [0] rfl fn_11 rfl (w_disk_Disk_Append_s N c8_0 (maxI 1099511627776 0) c8_1 ([] : List (ByteArray × Disk_rowsD)) (⟨#[97]⟩ : ByteArray) p13 c13 (lz9 ++ [0]) _ _ hc14) (asK [0] rfl) rfl (H' := [_]) rfl ?_))))))))))))))
     rintro _ _ _ ⟨rfl, rfl, rfl⟩
     refine wl_nil (we_x [] [] rfl rfl (xS hok 7 rfl (wl_ownLen 2 rfl (fun hz31 _ => (wl_at 5 (v' := .slice (some ⟨g9,0, none⟩) lz9.length 4194304) rfl (by rw [hz31]) (wl_at 8 (v' := .slice (some ⟨g9,0, none⟩) lz9.length 4194304) rfl (by rw [hz31]) (wl_at 10 (v' := .slice (some ⟨g9,0, none⟩) lz9.length 4194304) rfl (by rw [hz31]) (wl_at 12 (v' := .slice (some ⟨g9,0, none⟩) lz9.length 4194304) rfl (by rw [hz31]) (wl_at 14 (v' := .slice (some ⟨g9,0, none⟩) lz9.length 4194304) rfl (by rw [hz31]) (wl_hAs 2 (φ' := .own 5 1 R_u8 (.slice (some ⟨g9,0, none⟩) lz9.length 4194304) lz9) rfl (by rw [hz31]) (H' := [_,_,_]) rfl (wl_freeze 2 rfl (H' := [_,_]) rfl (wl_fact (.sli 1 R_u8 (some ⟨g9,0, none⟩) 4194304 lz9) (fun F w hφ => own_sli (hφ _ (mem_at (k := 0) rfl))) (wC [0,1] [] rfl fn_11 rfl (w_disk_Disk_Append_s N c8_0 (maxI 1099511627776 0) c8_1 v14_1 (⟨#[97]⟩ : ByteArray) (some ⟨g9,0, none⟩) 4194304 lz9 _ _ hc17) (asK [0] rfl) rfl (H' := []) rfl ?_)))))))))))))
     rintro _ _ _ ⟨rfl, rfl, rfl⟩
     refine wl_nil (we_x [2,3] [] rfl rfl (xS hok 11 rfl (wl_fact (.sli 1 R_u8 (some ⟨g9,0, none⟩) 4194304 (lz9.take 1)) (fun _ _ hφ => view_to (hφ _ (mem_at (k := 0) rfl)) 1) (wl_at 3 (v' := .slice (some ⟨g9,0, none⟩) ((lz9.take 1).length) 4194304) rfl (take_slice hg20) (wl_at 5 (v' := .slice (some ⟨g9,0, none⟩) ((lz9.take 1).length) 4194304) rfl (take_slice hg20) (wC [0,1] [] rfl fn_11 rfl (w_disk_Disk_Append_s N c8_0 (maxI 1099511627776 0) c8_1 v17_1 (⟨#[97]⟩ : ByteArray) (some ⟨g9,0, none⟩) 4194304 (lz9.take 1) _ _ hc21) (asK [0] rfl) rfl (H' := []) rfl ?_))))))
     rintro _ _ _ ⟨rfl, rfl, rfl⟩
     refine wl_nil (we_x [1,2,3,4] [] rfl rfl (xS hok 13 rfl (wl_fact (.sli 1 R_u8 none 0 ([] : List Int)) (fun _ _ _ => sli_none) (wC [0,1] [] rfl fn_11 rfl (w_disk_Disk_Append_s N c8_0 (maxI 1099511627776 0) c8_1 v21_1 (⟨#[97]⟩ : ByteArray) none 0 ([] : List Int) _ _ hc23) (asK [0] rfl) rfl (H' := []) rfl ?_))))
     rintro _ _ _ ⟨rfl, rfl, rfl⟩
     refine wl_nil (we_x [1,2,3,4,5] [] rfl rfl (xS hok 17 rfl (wC [0,1] [] rfl fn_11 rfl (w_disk_Disk_Append_s N c8_0 (maxI 1099511627776 0) c8_1 v23_1 (⟨#[98]⟩ : ByteArray) (some ⟨g9,0, none⟩) 4194304 (lz9.take 1) _ _ hc27) (asK [1] rfl) rfl (H' := []) rfl ?_)))
     rintro _ _ _ ⟨rfl, rfl, rfl⟩
     refine wl_nil (we_x [0,1,2,3,4,5] [] rfl rfl (xS hok 18 rfl (wl_buildSlice rfl rfl rfl (freshS_eq rfl) rfl tE_66 tS_28 tZ_28 rfl (zs := [.int .i64 0, .int .i64 0, .int .i64 0, .int .i64 0, .int .i64 0]) (by kernel_rfl) rfl (out := [_,_,_,_,_]) rfl (fun g28 => (wl_nil (we_x [0,1,2,3,4,5] [] rfl rfl (xS hok 19 rfl (wP rfl (wl_nil (we_x [0,1,2,3,4,5] [] rfl rfl (wx_done hok rfl ?_)))))))))))
     refine we_join g28 trivial [3,1] rfl (asK [] rfl) rfl
   ·
    refine wl_ownSpot 0 rfl (fun hsp20 hcm20 => (wl_sliceTo rfl rfl rfl (freshS_eq rfl) rfl rfl rfl rfl tE_27 tS_5 (Nat.le_trans hg20 (by rw [← hcm20.2]; exact hcm20.1)) hsp20 (wl_nil (we_x [] [] rfl rfl (xS hok 2 rfl (wl_buildSlice rfl rfl rfl (freshS_eq rfl) rfl tE_27 tS_5 tZ_5 rfl (zs := [.int .u8 0]) (by kernel_rfl) rfl (out := [_]) rfl (fun g12 => (wl_nil (we_x [] [] rfl rfl (xS hok 3 rfl (wl_appendN [0] 1 0 rfl rfl rfl (freshS_eq rfl) rfl rfl rfl rfl rfl (fun F w hφ => ⟨[.int .u8 0],[], rfl, rfl, ⟨(), rfl, ask_nil⟩, rfl⟩) (by decide) tE_27 tR_5 rfl rfl (Nat.le_trans hg13 (by decide)) (Nat.le_trans (Nat.mul_le_mul_right _ hg13) (by decide)) (fun p13 c13 => (wl_drop 1 rfl (H' := [_,_,_,_]) rfl (wl_nil (we_x [] [] rfl rfl (xS hok 4 rfl ?_))))))))))))))))
    refine wl_freeze 0 rfl (H' := [_,_,_]) rfl (wl_fact (.sli 1 R_u8 p13 c13 (lz9 ++ [0])) (fun F w hφ => own_sli (hφ _ (mem_at (k := 0) rfl))) (wC [1,2] [0] rfl fn_11 rfl (w_disk_Disk_Append_s N c8_0 (maxI 1099511627776 0) c8_1 ([] : List (ByteArray × Disk_rowsD)) (⟨#[97]⟩ : ByteArray) p13 c13 (lz9 ++ [0]) _ _ hc14) (asK [0] rfl) rfl (H' := [_]) rfl ?_))
    rintro _ _ _ ⟨rfl, rfl, rfl⟩
    refine wl_nil (we_x [] [] rfl rfl (xS hok 7 rfl (wl_ownLen 2 rfl (fun hz32 _ => (wl_at 5 (v' := .slice (some ⟨g9,0, none⟩) lz9.length 4194304) rfl (by rw [hz32]) (wl_at 8 (v' := .slice (some ⟨g9,0, none⟩) lz9.length 4194304) rfl (by rw [hz32]) (wl_at 10 (v' := .slice (some ⟨g9,0, none⟩) lz9.length 4194304) rfl (by rw [hz32]) (wl_at 12 (v' := .slice (some ⟨g9,0, none⟩) lz9.length 4194304) rfl (by rw [hz32]) (wl_at 14 (v' := .slice (some ⟨g9,0, none⟩) lz9.length 4194304) rfl (by rw [hz32]) (wl_hAs 2 (φ' := .own 5 1 R_u8 (.slice (some ⟨g9,0, none⟩) lz9.length 4194304) lz9) rfl (by rw [hz32]) (H' := [_,_,_]) rfl (wl_freeze 2 rfl (H' := [_,_]) rfl (wl_fact (.sli 1 R_u8 (some ⟨g9,0, none⟩) 4194304 lz9) (fun F w hφ => own_sli (hφ _ (mem_at (k := 0) rfl))) (wC [0,1] [] rfl fn_11 rfl (w_disk_Disk_Append_s N c8_0 (maxI 1099511627776 0) c8_1 v14_1 (⟨#[97]⟩ : ByteArray) (some ⟨g9,0, none⟩) 4194304 lz9 _ _ hc17) (asK [0] rfl) rfl (H' := []) rfl ?_)))))))))))))
    rintro _ _ _ ⟨rfl, rfl, rfl⟩
    refine wl_nil (we_x [2,3] [] rfl rfl (xS hok 11 rfl (wl_fact (.sli 1 R_u8 (some ⟨g9,0, none⟩) 4194304 (lz9.take 1)) (fun _ _ hφ => view_to (hφ _ (mem_at (k := 0) rfl)) 1) (wl_at 4 (v' := .slice (some ⟨g9,0, none⟩) ((lz9.take 1).length) 4194304) rfl (take_slice hg20) (wl_at 5 (v' := .slice (some ⟨g9,0, none⟩) ((lz9.take 1).length) 4194304) rfl (take_slice hg20) (wC [0,1] [] rfl fn_11 rfl (w_disk_Disk_Append_s N c8_0 (maxI 1099511627776 0) c8_1 v17_1 (⟨#[97]⟩ : ByteArray) (some ⟨g9,0, none⟩) 4194304 (lz9.take 1) _ _ hc21) (asK [0] rfl) rfl (H' := []) rfl ?_))))))
    rintro _ _ _ ⟨rfl, rfl, rfl⟩
    refine wl_nil (we_x [1,2,3,4] [] rfl rfl (xS hok 13 rfl (wl_fact (.sli 1 R_u8 none 0 ([] : List Int)) (fun _ _ _ => sli_none) (wC [0,1] [] rfl fn_11 rfl (w_disk_Disk_Append_s N c8_0 (maxI 1099511627776 0) c8_1 v21_1 (⟨#[97]⟩ : ByteArray) none 0 ([] : List Int) _ _ hc23) (asK [0] rfl) rfl (H' := []) rfl ?_))))
    rintro _ _ _ ⟨rfl, rfl, rfl⟩
    refine wl_nil (we_x [1,2,3,4,5] [] rfl rfl (xS hok 17 rfl (wC [0,1] [] rfl fn_11 rfl (w_disk_Disk_Append_s N c8_0 (maxI 1099511627776 0) c8_1 v23_1 (⟨#[98]⟩ : ByteArray) (some ⟨g9,0, none⟩) 4194304 (lz9.take 1) _ _ hc27) (asK [1] rfl) rfl (H' := []) rfl ?_)))
    rintro _ _ _ ⟨rfl, rfl, rfl⟩
    refine wl_nil (we_x [0,1,2,3,4,5] [] rfl rfl (xS hok 18 rfl (wl_buildSlice rfl rfl rfl (freshS_eq rfl) rfl tE_66 tS_28 tZ_28 rfl (zs := [.int .i64 0, .int .i64 0, .int .i64 0, .int .i64 0, .int .i64 0]) (by kernel_rfl) rfl (out := [_,_,_,_,_]) rfl (fun g28 => (wl_nil (we_x [0,1,2,3,4,5] [] rfl rfl (xS hok 19 rfl (wP rfl (wl_nil (we_x [0,1,2,3,4,5] [] rfl rfl (wx_done hok rfl ?_)))))))))))
    refine we_join g28 trivial [3,1] rfl (asK [] rfl) rfl
 ·
  rintro w_1_3_g _
  try dsimp only
  refine wc_seq (wc_region (wl_buildSlice rfl rfl rfl (freshS_eq rfl) rfl tE_100 tS_3 tZ_3 rfl (zs := [.int .i64 0, .int .i64 0, .int .i64 0, .int .i64 0, .int .i64 0]) (by kernel_rfl) rfl (out := [_,_,_,_,_]) rfl (fun g29 => (wP rfl (wl_nil (we_then (wc_keep [4,3,1] (S' := [_,_,_]) rfl (wc_seq ?_))))))))
  obtain ⟨bj_2, hm, hLj_2⟩ := bindS_some hm
  refine wc_cut (σ := Unit) (fun _ => bj_2 = .inl ()) (fun _ => [(1, .pointer (some ⟨c8_0,0, none⟩))]) (fun _ => []) (fun _ => [.blk c8_0 [.int .i64 (maxI 1099511627776 0), .map (some c8_1)] 59, mapP (keyStr (tStr_run tT_9)) true R_Disk_rowsD c8_1 v27_1]) ?_ ?_
  ·
   refine wc_seq (wc_region (wP rfl (wl_nil (we_then (wc_block (wc_row (sz := 1) (m := 5) R_i64 ([3,0,3,0,0]) 0 rfl (fun F w hφ => ⟨[.int .i64 3],[.int .i64 0, .int .i64 3, .int .i64 0, .int .i64 0], rfl, rfl, ⟨(), rfl, ask_nil⟩, ⟨[.int .i64 0],[.int .i64 3, .int .i64 0, .int .i64 0], rfl, rfl, ⟨(), rfl, ask_nil⟩, ⟨[.int .i64 3],[.int .i64 0, .int .i64 0], rfl, rfl, ⟨(), rfl, ask_nil⟩, ⟨[.int .i64 0],[.int .i64 0], rfl, rfl, ⟨(), rfl, ask_nil⟩, ⟨[.int .i64 0],[], rfl, rfl, ⟨(), rfl, ask_nil⟩, rfl⟩⟩⟩⟩⟩) rfl (by decide) (H' := [_,_,_,_]) rfl (wc_row (sz := 1) (m := 5) R_i64 ([v14_0, v17_0, v21_0, v23_0, v27_0]) 1 rfl (fun F w hφ => ⟨[.int .i64 v14_0],[.int .i64 v17_0, .int .i64 v21_0, .int .i64 v23_0, .int .i64 v27_0], rfl, rfl, ⟨(), rfl, ask_nil⟩, ⟨[.int .i64 v17_0],[.int .i64 v21_0, .int .i64 v23_0, .int .i64 v27_0], rfl, rfl, ⟨(), rfl, ask_nil⟩, ⟨[.int .i64 v21_0],[.int .i64 v23_0, .int .i64 v27_0], rfl, rfl, ⟨(), rfl, ask_nil⟩, ⟨[.int .i64 v23_0],[.int .i64 v27_0], rfl, rfl, ⟨(), rfl, ask_nil⟩, ⟨[.int .i64 v27_0],[], rfl, rfl, ⟨(), rfl, ask_nil⟩, rfl⟩⟩⟩⟩⟩) rfl (by decide) (H' := [_,_,_,_]) rfl (wc_loop (σ := Nat × Nat) (fun (nu1, u1_5) => iter (m_ropewalklaw17_large_L1 N v14_0 v17_0 v21_0 v23_0 v27_0) nu1 u1_5 = some bj_2) (fun (nu1, u1_5) => nu1) (fun (nu1, u1_5) => [(5, .int .i64 ((u1_5 : Nat) : Int)), (4, .slice (some ⟨g29,0, none⟩) ([3,0,3,0,0].length) 5), (3, .slice (some ⟨w_1_3_g, 0, none⟩) ([v14_0, v17_0, v21_0, v23_0, v27_0].length) 5), (1, .pointer (some ⟨c8_0,0, none⟩))]) (fun (nu1, u1_5) => []) (fun (nu1, u1_5) => [.own 3 1 R_i64 (.slice (some ⟨g29,0, none⟩) ([3,0,3,0,0].length) 5) ([3,0,3,0,0]), .own 28 1 R_i64 (.slice (some ⟨w_1_3_g, 0, none⟩) ([v14_0, v17_0, v21_0, v23_0, v27_0].length) 5) ([v14_0, v17_0, v21_0, v23_0, v27_0]), .blk c8_0 [.int .i64 (maxI 1099511627776 0), .map (some c8_1)] 59, mapP (keyStr (tStr_run tT_9)) true R_Disk_rowsD c8_1 v27_1]) (N, 0) hm [5,4,3,1] rfl (asK [] rfl) rfl (fun s_ hm => ?_)))))))))
   obtain ⟨nu1, u1_5⟩ := s_
   try dsimp only at hm ⊢
   obtain ⟨mu1, bu1, hnu1, hq, hLu1⟩ := iter_some hm
   clear hm
   subst hnu1
   replace hm := hq
   clear hq
   unfold m_ropewalklaw17_large_L1 at hm
   try dsimp only at hm
   refine wc_seq (wc_seq (wc_region (wP rfl (wP rfl (wN rfl tE_66 (wP rfl (wl_as (d := 33) (v' := .bool (decide (u1_5 < ([v14_0, v17_0, v21_0, v23_0, v27_0].length)))) (S' := [_,_,_,_,_,_,_]) rfl rfl (natlt (a := u1_5) (b := [v14_0, v17_0, v21_0, v23_0, v27_0].length)) (wl_nil (we_then (wc_keep [33,5,4,3,1] (S' := [_,_,_,_,_]) rfl ?_))))))))))
   refine wc_cond rfl (fun hb33 => ?_) (fun hb33 => ?_)
   ·
    replace hm := iteT hm hb33
    refine wc_keep [5,4,3,1] (S' := [_,_,_,_]) rfl (wc_skip (we_then (wc_seq (wc_block (wc_seq ?_)))))
    obtain ⟨x38, hx38, hm⟩ := bindO_some hm
    obtain ⟨x42, hx42, hm⟩ := bindO_some hm
    refine wc_draw [0,1,2,3,4,5,6,7,8] rfl rfl (fun hok => (xP hok 0 rfl (xP hok 1 rfl (wx_indexK hok 2 1 u1_5 rfl rfl rfl (freshS_eq rfl) rfl rfl rfl rfl rfl rfl (get_lt hx38) tE_66 tS_28 (wx_loadRow hok 3 R_i64_opens 1 u1_5 0 rfl rfl rfl (freshS_eq rfl) rfl rfl rfl rfl hx38 tS_28 tA_28 (v := .int .i64 x38) rfl rfl (fun _ => (xP hok 4 rfl (xP hok 5 rfl (wx_indexK hok 6 0 u1_5 rfl rfl rfl (freshS_eq rfl) rfl rfl rfl rfl rfl rfl (get_lt hx42) tE_100 tS_3 (wx_loadRow hok 7 R_i64_opens 0 u1_5 0 rfl rfl rfl (freshS_eq rfl) rfl rfl rfl rfl hx42 tS_3 tA_3 (v := .int .i64 x42) rfl rfl (fun _ => (xP hok 8 rfl (wx_done hok rfl (we_then (wc_keep [44,5,4,3,1] (S' := [_,_,_,_,_]) rfl ?_)))))))))))))))
    refine wc_cond rfl (fun hb44 => ?_) (fun hb44 => ?_)
    ·
     replace hm := iteT hm hb44
     refine wc_keep [] (S' := []) rfl (wc_seq (wc_region (wP rfl (wl_nil (we_then (wc_ret (we_block_ret (we_then_ret (we_then_ret (we_block_ret (we_then_ret ?_)))))))))))
     have hE := (Option.some.inj hm).symm
     replace hE := link_inr hLu1 hE
     replace hE := link_inr hLj_2 hE
     replace hE := hE.symm
     subst hE
     refine ret_one (Hr := []) [] Try.results34 (res_tmp rfl) ⟨rfl, rfl, rfl⟩ (asK [] rfl) rfl rfl (.inl rfl)
    ·
     replace hm := iteF hm hb44
     refine wc_keep [5,4,3,1] (S' := [_,_,_,_]) rfl (wc_skip (we_block_normal (we_then (wc_region (wP rfl (wP rfl ?_))))))
     obtain ⟨hg35, hm⟩ := gd_some hm
     refine wl_as (d := 35) (v' := .int .i64 ((u1_5 + 1 : Nat) : Int)) (S' := [_,_,_,_,_]) rfl rfl (nat_add (a := u1_5) (b := 1) hg35) (wl_pure (S' := [_,_,_,_,_]) rfl rfl rfl rfl rfl (wl_nil ?_))
     have hE := (Option.some.inj hm).symm
     replace hE := link_inl hLu1 hE
     refine we_roundK (_, u1_5 + 1) (Nat.lt_succ_self _) hE [5,4,3,1] rfl (asK [] rfl) rfl
   ·
    replace hm := iteF hm hb33
    refine wc_keep [1] (S' := [_]) rfl (wc_exit (we_then_exit (we_then_exit (we_block_hit ?_))))
    have hE := (Option.some.inj hm).symm
    replace hE := link_inr hLu1 hE
    refine we_pick [2,3] rfl (H' := [_,_]) rfl ?_
    refine we_join () hE [1] rfl (asK [] rfl) rfl
  ·
   rintro _ hE
   try dsimp only
   have hm := link_inl hLj_2 hE
   try dsimp only at hm
   refine wc_seq (wc_seq ?_)
   obtain ⟨bj_3, hm, hLj_3⟩ := bindO_some hm
   refine wc_cut (σ := Bool) (fun j_3_49 => bj_3 = j_3_49) (fun j_3_49 => [(49, .bool j_3_49)]) (fun j_3_49 => []) (fun j_3_49 => []) ?_ ?_
   ·
    refine wc_region (wP rfl ?_)
    obtain ⟨v46, hc46, hm⟩ := bindO_some hm
    refine wC [0,1] [] rfl fn_19 rfl (w_disk_Disk_Used_s N c8_0 (maxI 1099511627776 0) c8_1 v27_1 _ hc46) (asK [] rfl) rfl (H' := []) rfl ?_
    rintro _ _ _ ⟨rfl, rfl, rfl⟩
    refine wP rfl (wl_as (d := 47) (v' := .bool (v46 != 4194305)) (S' := [_,_,_]) rfl rfl (natne (a := v46) (b := 4194305)) (wP rfl ?_))
    refine wl_split (d := 48) (S' := [_,_,_,_]) rfl rfl (fun hs48 => ?_) (fun hs48 => ?_)
    ·
     replace hm := iteT hm hs48
     refine wP rfl (wl_nil ?_)
     have hE := (Option.some.inj hm).symm
     refine we_pick [] rfl (H' := []) rfl ?_
     refine we_join true hE [49] rfl (asK [] rfl) rfl
    ·
     replace hm := iteF hm hs48
     refine wP rfl (wl_nil ?_)
     have hE := (Option.some.inj hm).symm
     refine we_pick [] rfl (H' := []) rfl ?_
     refine we_join false hE [49] rfl (asK [] rfl) rfl
   ·
    rintro j_3_49 hE
    try dsimp only
    have hm := hLj_3
    rw [hE] at hm
    refine wc_cond rfl (fun hb49 => ?_) (fun hb49 => ?_)
    ·
     replace hm := iteT hm hb49
     refine wc_keep [] (S' := []) rfl (wc_seq (wc_region (wP rfl (wl_nil (we_then (wc_ret (we_then_ret ?_)))))))
     have hE := (Option.some.inj hm).symm
     replace hE := hE.symm
     subst hE
     refine ret_one (Hr := []) [] Try.results34 (res_tmp rfl) ⟨rfl, rfl, rfl⟩ (asK [] rfl) rfl rfl (.inl rfl)
    ·
     replace hm := iteF hm hb49
     refine wc_keep [] (S' := []) rfl (wc_skip (we_then (wc_seq (wc_region (wl_buildSlice rfl rfl rfl (freshS_eq rfl) rfl tE_100 tS_3 tZ_3 rfl (zs := [.int .i64 0, .int .i64 0]) (by kernel_rfl) rfl (out := [_,_]) rfl (fun g50 => (wP rfl (wl_nil (we_then (wc_keep [6] (S' := [_]) rfl (wc_seq ?_)))))))))))
     obtain ⟨bj_4, hm, hLj_4⟩ := bindS_some hm
     refine wc_cut (σ := Unit) (fun _ => bj_4 = .inl ()) (fun _ => []) (fun _ => []) (fun _ => []) ?_ ?_
     ·
      refine wc_seq (wc_region (wP rfl (wl_nil (we_then (wc_block (wc_row (sz := 1) (m := 2) R_i64 ([-9223372036854775808,9223372036854775807]) 0 rfl (fun F w hφ => ⟨[.int .i64 (-9223372036854775808)],[.int .i64 9223372036854775807], rfl, rfl, ⟨(), rfl, ask_nil⟩, ⟨[.int .i64 9223372036854775807],[], rfl, rfl, ⟨(), rfl, ask_nil⟩, rfl⟩⟩) rfl (by decide) (H' := [_]) rfl (wc_loop (σ := Nat × Nat) (fun (nu2, u2_7) => iter (m_ropewalklaw17_large_L2 N) nu2 u2_7 = some bj_4) (fun (nu2, u2_7) => nu2) (fun (nu2, u2_7) => [(7, .int .i64 ((u2_7 : Nat) : Int)), (6, .slice (some ⟨g50,0, none⟩) ([-9223372036854775808,9223372036854775807].length) 2)]) (fun (nu2, u2_7) => []) (fun (nu2, u2_7) => [.own 3 1 R_i64 (.slice (some ⟨g50,0, none⟩) ([-9223372036854775808,9223372036854775807].length) 2) ([-9223372036854775808,9223372036854775807])]) (N, 0) hm [7,6] rfl (asK [] rfl) rfl (fun s_ hm => ?_))))))))
      obtain ⟨nu2, u2_7⟩ := s_
      try dsimp only at hm ⊢
      obtain ⟨mu2, bu2, hnu2, hq, hLu2⟩ := iter_some hm
      clear hm
      subst hnu2
      replace hm := hq
      clear hq
      unfold m_ropewalklaw17_large_L2 at hm
      try dsimp only at hm
      refine wc_seq (wc_seq (wc_region (wP rfl (wP rfl (wl_as (d := 52) (v' := .bool (decide (u2_7 < 2))) (S' := [_,_,_]) rfl rfl (natlt (a := u2_7) (b := 2)) (wl_nil (we_then (wc_keep [52,7,6] (S' := [_,_,_]) rfl ?_))))))))
      refine wc_cond rfl (fun hb52 => ?_) (fun hb52 => ?_)
      ·
       replace hm := iteT hm hb52
       refine wc_keep [7,6] (S' := [_,_]) rfl (wc_skip (we_then (wc_seq (wc_block (wc_seq ?_)))))
       obtain ⟨bj_5, hm, hLj_5⟩ := bindO_some hm
       unfold m_ropewalklaw17_large_C5 at hm
       refine wc_cut (σ := Bool) (fun j_5_89 => bj_5 = j_5_89) (fun j_5_89 => [(7, .int .i64 ((u2_7 : Nat) : Int)), (6, .slice (some ⟨g50,0, none⟩) ([-9223372036854775808,9223372036854775807].length) 2), (89, .bool j_5_89)]) (fun j_5_89 => []) (fun j_5_89 => [.own 3 1 R_i64 (.slice (some ⟨g50,0, none⟩) ([-9223372036854775808,9223372036854775807].length) 2) ([-9223372036854775808,9223372036854775807])]) ?_ ?_
       ·
        obtain ⟨x57, hx57, hm⟩ := bindO_some hm
        obtain ⟨hg65, hm⟩ := gd_some hm
        obtain ⟨hn66, hm⟩ := gd_some hm
        obtain ⟨x66, hx66, hm⟩ := bindO_some hm
        obtain ⟨x71, hx71, hm⟩ := bindO_some hm
        obtain ⟨v75, hc75, hm⟩ := bindO_some hm
        rcases ite_some hm with ⟨hs77, hm⟩ | ⟨hs77, hm⟩
        ·
         refine wc_draw [0,1,2,3,6,7,8,9,10,11,12,13,14,15,16,17,18,21,22,25,26,27,28,29,30,33,34] rfl rfl (fun hok => (xP hok 0 rfl (xP hok 1 rfl (wx_indexK hok 2 0 u2_7 rfl rfl rfl (freshS_eq rfl) rfl rfl rfl rfl rfl rfl (get_lt hx57) tE_100 tS_3 (wx_loadRow hok 3 R_i64_opens 0 u2_7 0 rfl rfl rfl (freshS_eq rfl) rfl rfl rfl rfl hx57 tS_3 tA_3 (v := .int .i64 x57) rfl rfl (fun _ => (wx_build hok 7 rfl rfl rfl (freshS_eq rfl) rfl rfl tZ_54 tP_54 rfl (out := [_,_,_,_,_]) rfl (xP hok 8 rfl (xP hok 9 rfl (xP hok 10 rfl (wx_as (d := 65) (v' := .int .i64 (1 - ((u2_7 : Nat) : Int))) (S' := [_,_,_,_,_,_,_,_,_]) rfl rfl (i64_in hg65) (wx_indexK hok 11 0 ((1 - ((u2_7 : Nat) : Int)).toNat) rfl rfl rfl (freshS_eq rfl) rfl rfl rfl rfl rfl (toNat_eq hn66) (get_lt hx66) tE_100 tS_3 (wx_loadRow hok 12 R_i64_opens 0 ((1 - ((u2_7 : Nat) : Int)).toNat) 0 rfl rfl rfl (freshS_eq rfl) rfl rfl rfl rfl hx66 tS_3 tA_3 (v := .int .i64 x66) rfl rfl (fun _ => (wx_build hok 13 rfl rfl rfl (freshS_eq rfl) rfl rfl tZ_54 tP_54 rfl (out := [_,_,_,_,_]) rfl (xP hok 14 rfl ?_))))))))))))))))
         refine xP hok 15 rfl (wx_indexK hok 16 0 u2_7 rfl rfl rfl (freshS_eq rfl) rfl rfl rfl rfl rfl rfl (get_lt hx71) tE_100 tS_3 (wx_loadRow hok 17 R_i64_opens 0 u2_7 0 rfl rfl rfl (freshS_eq rfl) rfl rfl rfl rfl hx71 tS_3 tA_3 (v := .int .i64 x71) rfl rfl (fun _ => (wx_build hok 18 rfl rfl rfl (freshS_eq rfl) rfl rfl tZ_54 tP_54 rfl (out := [_,_,_,_,_]) rfl (xS hok 4 rfl (wl_buildSlice rfl rfl rfl (freshS_eq rfl) rfl tE_27 tS_5 tZ_5 rfl (zs := [.int .u8 0, .int .u8 0]) (by kernel_rfl) rfl (out := [_,_]) rfl (fun g59 => (wl_nil (we_x [] [1,1,1] rfl rfl (xS hok 5 rfl (wl_row (sz := 1) (m := 2) R_u8 ([97,98]) 0 rfl (fun F w hφ => ⟨[.int .u8 97],[.int .u8 98], rfl, rfl, ⟨(), rfl, ask_nil⟩, ⟨[.int .u8 98],[], rfl, rfl, ⟨(), rfl, ask_nil⟩, rfl⟩⟩) rfl (by decide) (H' := [_,_]) rfl (wl_markRow 0 rfl rfl rfl (freshS_eq rfl) rfl rfl rfl rfl tD_27 tD_5 mkRep_free (H' := [.own 3 1 R_i64 (.slice (some ⟨g50,0, none⟩) ([-9223372036854775808,9223372036854775807].length) 2) ([-9223372036854775808,9223372036854775807])]) rfl (wl_nil (we_x [] [0,0,0] rfl rfl (wx_build hok 6 rfl rfl rfl (freshS_eq rfl) rfl rfl tZ_54 tP_54 rfl (out := [_,_,_,_,_]) rfl ?_)))))))))))))))
         refine xS hok 19 rfl (wl_buildSlice rfl rfl rfl (freshS_eq rfl) rfl tE_40 tS_54 tZ_54 rfl (zs := [.int .i64 0, .string ((⟨#[]⟩ : ByteArray)), .string ((⟨#[]⟩ : ByteArray)), .slice none 0 0, .int .i64 0, .int .i64 0, .string ((⟨#[]⟩ : ByteArray)), .string ((⟨#[]⟩ : ByteArray)), .slice none 0 0, .int .i64 0, .int .i64 0, .string ((⟨#[]⟩ : ByteArray)), .string ((⟨#[]⟩ : ByteArray)), .slice none 0 0, .int .i64 0, .int .i64 0, .string ((⟨#[]⟩ : ByteArray)), .string ((⟨#[]⟩ : ByteArray)), .slice none 0 0, .int .i64 0]) (by kernel_rfl) rfl (out := [_,_,_,_,_,_,_,_,_,_,_,_,_,_,_,_,_,_,_,_]) rfl (fun g74 => (wl_nil (we_x [0] [1,1,1] rfl rfl (xS hok 20 rfl (wl_row (sz := 5) (m := 4) R_Ropewalklaw17_DoD (lit8 x66 x71) 0 rfl (fun F w hφ => ⟨[.int .i64 0, .string ((⟨#[97]⟩ : ByteArray)), .string ((⟨#[]⟩ : ByteArray)), .slice (some ⟨g59,0, none⟩) ([97,98].length) 2, .int .i64 0],[.int .i64 0, .string ((⟨#[98]⟩ : ByteArray)), .string ((⟨#[]⟩ : ByteArray)), .slice none 0 0, .int .i64 0, .int .i64 6, .string ((⟨#[]⟩ : ByteArray)), .string ((⟨#[]⟩ : ByteArray)), .slice none 0 0, .int .i64 x66, .int .i64 3, .string ((⟨#[98]⟩ : ByteArray)), .string ((⟨#[]⟩ : ByteArray)), .slice none 0 0, .int .i64 x71], rfl, rfl, ⟨(some ⟨g59,0, none⟩, 2), rfl, (ask_cons (hφ _ (mem_at (k := 0) rfl)) ask_nil)⟩, ⟨[.int .i64 0, .string ((⟨#[98]⟩ : ByteArray)), .string ((⟨#[]⟩ : ByteArray)), .slice none 0 0, .int .i64 0],[.int .i64 6, .string ((⟨#[]⟩ : ByteArray)), .string ((⟨#[]⟩ : ByteArray)), .slice none 0 0, .int .i64 x66, .int .i64 3, .string ((⟨#[98]⟩ : ByteArray)), .string ((⟨#[]⟩ : ByteArray)), .slice none 0 0, .int .i64 x71], rfl, rfl, ⟨(none, 0), rfl, (ask_cons sli_none ask_nil)⟩, ⟨[.int .i64 6, .string ((⟨#[]⟩ : ByteArray)), .string ((⟨#[]⟩ : ByteArray)), .slice none 0 0, .int .i64 x66],[.int .i64 3, .string ((⟨#[98]⟩ : ByteArray)), .string ((⟨#[]⟩ : ByteArray)), .slice none 0 0, .int .i64 x71], rfl, rfl, ⟨(none, 0), rfl, (ask_cons sli_none ask_nil)⟩, ⟨[.int .i64 3, .string ((⟨#[98]⟩ : ByteArray)), .string ((⟨#[]⟩ : ByteArray)), .slice none 0 0, .int .i64 x71],[], rfl, rfl, ⟨(none, 0), rfl, (ask_cons sli_none ask_nil)⟩, rfl⟩⟩⟩⟩) rfl (by decide) (H' := [_,_]) rfl (wl_lend [] [0,1] [0] rfl rfl rfl (freshS_eq rfl) rfl rfl fn_33 rfl (w_ropewalklaw17_lives_s N x57 (some ⟨g74,0, none⟩) 4 (lit8 x66 x71) _ hc75) (fun F w hφ hh => (ask_cons (own_sli (hh _ (mem_at (k := 0) rfl))) ask_nil)) (fun _ _ _ hR => by obtain ⟨rfl, rfl, rfl⟩ := hR; exact ⟨rfl, (fun _ h => free_nil h)⟩) rfl rfl (H' := [_,_]) rfl ?_)))))))
         rintro _ _ _ ⟨rfl, rfl, rfl⟩
         refine wl_nil (we_x [0] [1,1] rfl rfl (xP hok 21 rfl (xP hok 22 rfl (wx_as (d := 77) (v' := .bool true) (S' := [_,_,_,_,_,_,_,_,_,_,_,_,_,_,_,_,_,_,_,_,_,_,_,_]) rfl rfl (bool_is hs77) (xO hok 26 rfl (xO hok 27 rfl (xO hok 28 rfl (xO hok 29 rfl (xO hok 30 rfl (xS hok 23 rfl (wO rfl (wl_nil (we_x [0] [1,1,1] rfl rfl ?_)))))))))))))
         refine xS hok 24 rfl (wO rfl (wl_nil (we_x [0] [1,1,1] rfl rfl (xO hok 25 rfl (xS hok 31 rfl (wO rfl (wl_nil (we_x [0] [1,1,1] rfl rfl (xS hok 32 rfl (wO rfl (wl_nil (we_x [0] [1,1,1] rfl rfl (xO hok 33 rfl ?_)))))))))))))
         refine xP hok 34 rfl (wx_done hok rfl ?_)
         have hE := (Option.some.inj hm).symm
         refine we_pick [1] rfl (H' := [_]) rfl ?_
         refine we_join true hE [7,6,89] rfl (asK [] rfl) rfl
        ·
         obtain ⟨x83, hx83, hm⟩ := bindO_some hm
         obtain ⟨v87, hc87, hm⟩ := bindO_some hm
         refine wc_draw [0,1,2,3,6,7,8,9,10,11,12,13,14,15,16,17,18,21,22,25,26,27,28,29,30,33,34] rfl rfl (fun hok => (xP hok 0 rfl (xP hok 1 rfl (wx_indexK hok 2 0 u2_7 rfl rfl rfl (freshS_eq rfl) rfl rfl rfl rfl rfl rfl (get_lt hx57) tE_100 tS_3 (wx_loadRow hok 3 R_i64_opens 0 u2_7 0 rfl rfl rfl (freshS_eq rfl) rfl rfl rfl rfl hx57 tS_3 tA_3 (v := .int .i64 x57) rfl rfl (fun _ => (wx_build hok 7 rfl rfl rfl (freshS_eq rfl) rfl rfl tZ_54 tP_54 rfl (out := [_,_,_,_,_]) rfl (xP hok 8 rfl (xP hok 9 rfl (xP hok 10 rfl (wx_as (d := 65) (v' := .int .i64 (1 - ((u2_7 : Nat) : Int))) (S' := [_,_,_,_,_,_,_,_,_]) rfl rfl (i64_in hg65) (wx_indexK hok 11 0 ((1 - ((u2_7 : Nat) : Int)).toNat) rfl rfl rfl (freshS_eq rfl) rfl rfl rfl rfl rfl (toNat_eq hn66) (get_lt hx66) tE_100 tS_3 (wx_loadRow hok 12 R_i64_opens 0 ((1 - ((u2_7 : Nat) : Int)).toNat) 0 rfl rfl rfl (freshS_eq rfl) rfl rfl rfl rfl hx66 tS_3 tA_3 (v := .int .i64 x66) rfl rfl (fun _ => (wx_build hok 13 rfl rfl rfl (freshS_eq rfl) rfl rfl tZ_54 tP_54 rfl (out := [_,_,_,_,_]) rfl (xP hok 14 rfl ?_))))))))))))))))
         refine xP hok 15 rfl (wx_indexK hok 16 0 u2_7 rfl rfl rfl (freshS_eq rfl) rfl rfl rfl rfl rfl rfl (get_lt hx71) tE_100 tS_3 (wx_loadRow hok 17 R_i64_opens 0 u2_7 0 rfl rfl rfl (freshS_eq rfl) rfl rfl rfl rfl hx71 tS_3 tA_3 (v := .int .i64 x71) rfl rfl (fun _ => (wx_build hok 18 rfl rfl rfl (freshS_eq rfl) rfl rfl tZ_54 tP_54 rfl (out := [_,_,_,_,_]) rfl (xS hok 4 rfl (wl_buildSlice rfl rfl rfl (freshS_eq rfl) rfl tE_27 tS_5 tZ_5 rfl (zs := [.int .u8 0, .int .u8 0]) (by kernel_rfl) rfl (out := [_,_]) rfl (fun g59 => (wl_nil (we_x [] [1,1,1] rfl rfl (xS hok 5 rfl (wl_row (sz := 1) (m := 2) R_u8 ([97,98]) 0 rfl (fun F w hφ => ⟨[.int .u8 97],[.int .u8 98], rfl, rfl, ⟨(), rfl, ask_nil⟩, ⟨[.int .u8 98],[], rfl, rfl, ⟨(), rfl, ask_nil⟩, rfl⟩⟩) rfl (by decide) (H' := [_,_]) rfl (wl_markRow 0 rfl rfl rfl (freshS_eq rfl) rfl rfl rfl rfl tD_27 tD_5 mkRep_free (H' := [.own 3 1 R_i64 (.slice (some ⟨g50,0, none⟩) ([-9223372036854775808,9223372036854775807].length) 2) ([-9223372036854775808,9223372036854775807])]) rfl (wl_nil (we_x [] [0,0,0] rfl rfl (wx_build hok 6 rfl rfl rfl (freshS_eq rfl) rfl rfl tZ_54 tP_54 rfl (out := [_,_,_,_,_]) rfl ?_)))))))))))))))
         refine xS hok 19 rfl (wl_buildSlice rfl rfl rfl (freshS_eq rfl) rfl tE_40 tS_54 tZ_54 rfl (zs := [.int .i64 0, .string ((⟨#[]⟩ : ByteArray)), .string ((⟨#[]⟩ : ByteArray)), .slice none 0 0, .int .i64 0, .int .i64 0, .string ((⟨#[]⟩ : ByteArray)), .string ((⟨#[]⟩ : ByteArray)), .slice none 0 0, .int .i64 0, .int .i64 0, .string ((⟨#[]⟩ : ByteArray)), .string ((⟨#[]⟩ : ByteArray)), .slice none 0 0, .int .i64 0, .int .i64 0, .string ((⟨#[]⟩ : ByteArray)), .string ((⟨#[]⟩ : ByteArray)), .slice none 0 0, .int .i64 0]) (by kernel_rfl) rfl (out := [_,_,_,_,_,_,_,_,_,_,_,_,_,_,_,_,_,_,_,_]) rfl (fun g74 => (wl_nil (we_x [0] [1,1,1] rfl rfl (xS hok 20 rfl (wl_row (sz := 5) (m := 4) R_Ropewalklaw17_DoD (lit8 x66 x71) 0 rfl (fun F w hφ => ⟨[.int .i64 0, .string ((⟨#[97]⟩ : ByteArray)), .string ((⟨#[]⟩ : ByteArray)), .slice (some ⟨g59,0, none⟩) ([97,98].length) 2, .int .i64 0],[.int .i64 0, .string ((⟨#[98]⟩ : ByteArray)), .string ((⟨#[]⟩ : ByteArray)), .slice none 0 0, .int .i64 0, .int .i64 6, .string ((⟨#[]⟩ : ByteArray)), .string ((⟨#[]⟩ : ByteArray)), .slice none 0 0, .int .i64 x66, .int .i64 3, .string ((⟨#[98]⟩ : ByteArray)), .string ((⟨#[]⟩ : ByteArray)), .slice none 0 0, .int .i64 x71], rfl, rfl, ⟨(some ⟨g59,0, none⟩, 2), rfl, (ask_cons (hφ _ (mem_at (k := 0) rfl)) ask_nil)⟩, ⟨[.int .i64 0, .string ((⟨#[98]⟩ : ByteArray)), .string ((⟨#[]⟩ : ByteArray)), .slice none 0 0, .int .i64 0],[.int .i64 6, .string ((⟨#[]⟩ : ByteArray)), .string ((⟨#[]⟩ : ByteArray)), .slice none 0 0, .int .i64 x66, .int .i64 3, .string ((⟨#[98]⟩ : ByteArray)), .string ((⟨#[]⟩ : ByteArray)), .slice none 0 0, .int .i64 x71], rfl, rfl, ⟨(none, 0), rfl, (ask_cons sli_none ask_nil)⟩, ⟨[.int .i64 6, .string ((⟨#[]⟩ : ByteArray)), .string ((⟨#[]⟩ : ByteArray)), .slice none 0 0, .int .i64 x66],[.int .i64 3, .string ((⟨#[98]⟩ : ByteArray)), .string ((⟨#[]⟩ : ByteArray)), .slice none 0 0, .int .i64 x71], rfl, rfl, ⟨(none, 0), rfl, (ask_cons sli_none ask_nil)⟩, ⟨[.int .i64 3, .string ((⟨#[98]⟩ : ByteArray)), .string ((⟨#[]⟩ : ByteArray)), .slice none 0 0, .int .i64 x71],[], rfl, rfl, ⟨(none, 0), rfl, (ask_cons sli_none ask_nil)⟩, rfl⟩⟩⟩⟩) rfl (by decide) (H' := [_,_]) rfl (wl_lend [] [0,1] [0] rfl rfl rfl (freshS_eq rfl) rfl rfl fn_33 rfl (w_ropewalklaw17_lives_s N x57 (some ⟨g74,0, none⟩) 4 (lit8 x66 x71) _ hc75) (fun F w hφ hh => (ask_cons (own_sli (hh _ (mem_at (k := 0) rfl))) ask_nil)) (fun _ _ _ hR => by obtain ⟨rfl, rfl, rfl⟩ := hR; exact ⟨rfl, (fun _ h => free_nil h)⟩) rfl rfl (H' := [_,_]) rfl ?_)))))))
         rintro _ _ _ ⟨rfl, rfl, rfl⟩
         refine wl_nil (we_x [0] [1,1] rfl rfl (xP hok 21 rfl (xP hok 22 rfl (wx_as (d := 77) (v' := .bool false) (S' := [_,_,_,_,_,_,_,_,_,_,_,_,_,_,_,_,_,_,_,_,_,_,_,_]) rfl rfl (bool_is hs77) (xP hok 26 rfl (xP hok 27 rfl (wx_indexK hok 28 1 u2_7 rfl rfl rfl (freshS_eq rfl) rfl rfl rfl rfl rfl rfl (get_lt hx83) tE_100 tS_3 (wx_loadRow hok 29 R_i64_opens 1 u2_7 0 rfl rfl rfl (freshS_eq rfl) rfl rfl rfl rfl hx83 tS_3 tA_3 (v := .int .i64 x83) rfl rfl (fun _ => (wx_build hok 30 rfl rfl rfl (freshS_eq rfl) rfl rfl tZ_54 tP_54 rfl (out := [_,_,_,_,_]) rfl (xS hok 23 rfl (wl_buildSlice rfl rfl rfl (freshS_eq rfl) rfl tE_27 tS_5 tZ_5 rfl (zs := [.int .u8 0, .int .u8 0]) (by kernel_rfl) rfl (out := [_,_]) rfl (fun g78 => (wl_nil (we_x [0] [2,2,2,2] rfl rfl ?_)))))))))))))))
         refine xS hok 24 rfl (wl_row (sz := 1) (m := 2) R_u8 ([97,98]) 0 rfl (fun F w hφ => ⟨[.int .u8 97],[.int .u8 98], rfl, rfl, ⟨(), rfl, ask_nil⟩, ⟨[.int .u8 98],[], rfl, rfl, ⟨(), rfl, ask_nil⟩, rfl⟩⟩) rfl (by decide) (H' := [_,_,_]) rfl (wl_markRow 0 rfl rfl rfl (freshS_eq rfl) rfl rfl rfl rfl tD_27 tD_5 mkRep_free (H' := [.own 54 5 R_Ropewalklaw17_DoD (.slice (some ⟨g74,0, none⟩) ((lit8 x66 x71).length) 4) (lit8 x66 x71), .own 3 1 R_i64 (.slice (some ⟨g50,0, none⟩) ([-9223372036854775808,9223372036854775807].length) 2) ([-9223372036854775808,9223372036854775807])]) rfl (wl_nil (we_x [1] [1,1,1,1] rfl rfl (wx_build hok 25 rfl rfl rfl (freshS_eq rfl) rfl rfl tZ_54 tP_54 rfl (out := [_,_,_,_,_]) rfl (xS hok 31 rfl (wl_buildSlice rfl rfl rfl (freshS_eq rfl) rfl tE_40 tS_54 tZ_54 rfl (zs := [.int .i64 0, .string ((⟨#[]⟩ : ByteArray)), .string ((⟨#[]⟩ : ByteArray)), .slice none 0 0, .int .i64 0, .int .i64 0, .string ((⟨#[]⟩ : ByteArray)), .string ((⟨#[]⟩ : ByteArray)), .slice none 0 0, .int .i64 0]) (by kernel_rfl) rfl (out := [_,_,_,_,_,_,_,_,_,_]) rfl (fun g86 => (wl_nil (we_x [0,1] [2,2,2,2] rfl rfl (xS hok 32 rfl (wl_row (sz := 5) (m := 2) R_Ropewalklaw17_DoD ([(⟨0, (⟨#[97]⟩ : ByteArray), (⟨#[]⟩ : ByteArray), [97,98],0⟩ : Ropewalklaw17_DoD), (⟨6, (⟨#[]⟩ : ByteArray), (⟨#[]⟩ : ByteArray), [], x83⟩ : Ropewalklaw17_DoD)]) 0 rfl (fun F w hφ => ⟨[.int .i64 0, .string ((⟨#[97]⟩ : ByteArray)), .string ((⟨#[]⟩ : ByteArray)), .slice (some ⟨g78,0, none⟩) ([97,98].length) 2, .int .i64 0],[.int .i64 6, .string ((⟨#[]⟩ : ByteArray)), .string ((⟨#[]⟩ : ByteArray)), .slice none 0 0, .int .i64 x83], rfl, rfl, ⟨(some ⟨g78,0, none⟩, 2), rfl, (ask_cons (hφ _ (mem_at (k := 0) rfl)) ask_nil)⟩, ⟨[.int .i64 6, .string ((⟨#[]⟩ : ByteArray)), .string ((⟨#[]⟩ : ByteArray)), .slice none 0 0, .int .i64 x83],[], rfl, rfl, ⟨(none, 0), rfl, (ask_cons sli_none ask_nil)⟩, rfl⟩⟩) rfl (by decide) (H' := [_,_,_]) rfl (wl_lend [] [0,1,2] [0] rfl rfl rfl (freshS_eq rfl) rfl rfl fn_33 rfl (w_ropewalklaw17_lives_s N 9 (some ⟨g86,0, none⟩) 2 [(⟨0, (⟨#[97]⟩ : ByteArray), (⟨#[]⟩ : ByteArray), [97,98],0⟩ : Ropewalklaw17_DoD), (⟨6, (⟨#[]⟩ : ByteArray), (⟨#[]⟩ : ByteArray), [], x83⟩ : Ropewalklaw17_DoD)] _ hc87) (fun F w hφ hh => (ask_cons (own_sli (hh _ (mem_at (k := 0) rfl))) ask_nil)) (fun _ _ _ hR => by obtain ⟨rfl, rfl, rfl⟩ := hR; exact ⟨rfl, (fun _ h => free_nil h)⟩) rfl rfl (H' := [_,_,_]) rfl ?_)))))))))))))
         rintro _ _ _ ⟨rfl, rfl, rfl⟩
         refine wl_nil (we_x [0,1] [2,2,2,2] rfl rfl (xP hok 33 rfl (xP hok 34 rfl (wx_done hok rfl ?_))))
         have hE := (Option.some.inj hm).symm
         refine we_pick [2] rfl (H' := [_]) rfl ?_
         refine we_join (!v87) hE [7,6,89] rfl (asK [] rfl) rfl
       ·
        rintro j_5_89 hE
        try dsimp only
        have hm := hLj_5
        rw [hE] at hm
        refine wc_cond rfl (fun hb89 => ?_) (fun hb89 => ?_)
        ·
         replace hm := iteT hm hb89
         refine wc_keep [] (S' := []) rfl (wc_seq (wc_region (wP rfl (wl_nil (we_then (wc_ret (we_block_ret (we_then_ret (we_then_ret (we_block_ret (we_then_ret ?_)))))))))))
         have hE := (Option.some.inj hm).symm
         replace hE := link_inr hLu2 hE
         replace hE := link_inr hLj_4 hE
         replace hE := hE.symm
         subst hE
         refine ret_one (Hr := []) [] Try.results34 (res_tmp rfl) ⟨rfl, rfl, rfl⟩ (asK [] rfl) rfl rfl (.inl rfl)
        ·
         replace hm := iteF hm hb89
         refine wc_keep [7,6] (S' := [_,_]) rfl (wc_skip (we_block_normal (we_then (wc_region (wP rfl (wP rfl ?_))))))
         obtain ⟨hg54, hm⟩ := gd_some hm
         refine wl_as (d := 54) (v' := .int .i64 ((u2_7 + 1 : Nat) : Int)) (S' := [_,_,_]) rfl rfl (nat_add (a := u2_7) (b := 1) hg54) (wl_pure (S' := [_,_,_]) rfl rfl rfl rfl rfl (wl_nil ?_))
         have hE := (Option.some.inj hm).symm
         replace hE := link_inl hLu2 hE
         refine we_roundK (_, u2_7 + 1) (Nat.lt_succ_self _) hE [7,6] rfl (asK [] rfl) rfl
      ·
       replace hm := iteF hm hb52
       refine wc_keep [] (S' := []) rfl (wc_exit (we_then_exit (we_then_exit (we_block_hit ?_))))
       have hE := (Option.some.inj hm).symm
       replace hE := link_inr hLu2 hE
       refine we_pick [] rfl (H' := []) rfl ?_
       refine we_join () hE [] rfl (asK [] rfl) rfl
     ·
      rintro _ hE
      try dsimp only
      have hm := link_inl hLj_4 hE
      try dsimp only at hm
      refine wc_seq (wc_region (wP rfl (wl_nil (we_then (wc_ret ?_)))))
      have hE := (Option.some.inj hm).symm
      replace hE := hE.symm
      subst hE
      refine ret_one (Hr := []) [] Try.results34 (res_tmp rfl) ⟨rfl, rfl, rfl⟩ (asK [] rfl) rfl rfl (.inl rfl)
end Go.Proofs.Ytkakbckmajdggaa
